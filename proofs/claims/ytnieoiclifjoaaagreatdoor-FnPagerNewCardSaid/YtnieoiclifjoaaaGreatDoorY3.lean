/-
  Packed:17 texts.
-/
import Derived.Test.YtnieoiclifjoaaaGreatDoorY2
import Derived.StillTailTactics
import Derived.Ground.NamesProg
import Derived.Ground.Names2Prog
import Derived.Shelf.Slices.CompactI
import Derived.Shelf.Slices.Turned
import Derived.Shelf.Sort.Plain
import Derived.Shelf.Spec.SearchS
import Derived.Shelf.Spec.SlicesInsertGrow
import Derived.Shelf.Strings.Prefix
import Derived.Shelf.Strings.SlTrimAscii
import Derived.Test.YtnieoiclifjoaaaGreatDoorProg
import Derived.Shelf.Strconv.ErrVarAll
import Derived.Shelf.Strconv.Itoa3
import Derived.Shelf.Strings.SplitShaped
import Derived.Sort.OwnSortedInts
import Derived.Shelf.Slices.In.SortNone
set_option linter.unusedVariables false
set_option maxHeartbeats 16000000
set_option maxRecDepth 100000
namespace Go.Proofs.YtnieoiclifjoaaaGreatDoor
open Go.Proofs.Tryz
open Go.RowKit
theorem OZ {w:World} {vs:List Value} {m:List (List Int)} (h:FP (Ap w) vs m):∀u∈Bj Fg vs,u.oneCell'=true:=by
 intro u hu;obtain⟨x,hx,hs⟩:=List.mem_flatMap.1 hu;simp[Fg] at hs;subst hs;obtain⟨i,hi⟩:=List.getElem?_of_mem hx;obtain⟨r,hr⟩:∃r,m[i]? =some r:=⟨_,List.getElem?_eq_getElem (by rw[←h.1];exact(List.getElem?_eq_some_iff.1 hi).1)⟩
 obtain⟨a,c,rfl,_⟩:=(h.2 i _ r hi hr).open;rfl
theorem Tk {w:World} {ps:List (Value×Int)} {es:List EM} (h:FP (fun p e=>BC w p.1 e.rights∧p.2=e.root) ps es):∀u∈Bj ED ps,u.oneCell'=true:=by
 intro u hu;obtain⟨x,hx,hs⟩:=List.mem_flatMap.1 hu;obtain⟨i,hi⟩:=List.getElem?_of_mem hx;obtain⟨r,hr⟩:∃r,es[i]? =some r:=⟨_,List.getElem?_eq_getElem (by rw[←h.1];exact(List.getElem?_eq_some_iff.1 hi).1)⟩
 obtain⟨a,c,e,_⟩:=A3.shape (h.2 i _ r hi hr).1;simp[ED] at hs
 rcases hs with rfl|rfl
 ·rw[e];rfl
 ·rfl
theorem Tryz.infoInfoK:(prog.info? 135).map (fun i=>(i.zero,i.size,i.bytes))=some (some (.agg #[.int .i64 0, .string ⟨#[]⟩, .int .i64 0]),3,32):=by kernel_rfl
theorem Ew (v:Value) (xs:List AQ) (w:World) (h:A3 3 Ag w v xs) (hs:xs.length≤1048576):
 Calls prog 162 #[v] w fun e w'=>∃v',e= .returned v'∧AJ w.heap.size 135 3 Ag w' v' xs∧Below w.heap.size w w':=by
 have hone:∀u∈Bj Ag xs,u.oneCell'=true:=by
  intro u hu;obtain⟨s,_,hs⟩:=List.mem_flatMap.1 hu;simp[Ag] at hs
  rcases hs with rfl|rfl|rfl<;>rfl
 have h':=h;obtain⟨a,c,rfl,hnc,hcm,hl,hnil,hc⟩:=h';have hq:=fun w=>Lib.run_eql_slice_nil (P:=prog) w 25 135 a xs.length c 0 0 underlying25
 have Hone:=AA hone;clear hone;cases a with
 |none=>have hc0:=hnil rfl;subst hc0;have h0:xs=[]:=List.eq_nil_of_length_eq_zero (by omega);subst h0;simp only[List.length_nil] at hq;go_in;go_wp2;go_ret;exact⟨_,rfl,World.ownsRow_nil _ _ _ _,Below.refl _ _⟩
 |some ad=>clear hc hnil;have hl':(Bj Ag xs).length=xs.length*3:=hl;have Hl:=AA hl';clear hl hl';go_in;go_wp2_with (refine DO (lo:=w.heap.size) (v:= .slice (some ⟨w.heap.size,0,none⟩) 0 0) (n:=0) (xs:=[]) (m:=xs.length) (news:=Bj Ag xs) rfl rfl 135 (.agg #[.int .i64 0, .string ⟨#[]⟩, .int .i64 0]) 3 32 underlying25 Tryz.infoInfoK rfl (by decide) rfl (Cb _ _ _) rfl (Rd.alloc h _) Hone.out (by unfold maxLen;omega) (by omega) (by simp) ?_;intro v' w' hown _ hbel);go_ret;refine⟨_,rfl,by simpa[AJ] using hown,((Below.refl _ _).alloc (Nat.le_refl _) _).trans hbel⟩
theorem Tryz.infoEnvK:(prog.info? 85).map (fun i=>(i.zero,i.size,i.bytes))=some (some (.agg #[.slice none 0 0, .int .i64 0]),2,32):=by kernel_rfl
theorem Oq (v:Value) (xs:List (Value×Int)) (w:World) (h:A3 2 ED w v xs) (hs:xs.length≤1048576) (hone:∀u∈Bj ED xs,u.oneCell'=true):
 Calls prog 163 #[v] w fun e w'=>∃v',e= .returned v'∧AJ w.heap.size 85 2 ED w' v' xs∧Below w.heap.size w w':=by
 have h':=h;obtain⟨a,c,rfl,hnc,hcm,hl,hnil,hc⟩:=h';have hq:=fun w=>Lib.run_eql_slice_nil (P:=prog) w 26 85 a xs.length c 0 0 underlying26
 have Hone:=AA hone;clear hone;cases a with
 |none=>have hc0:=hnil rfl;subst hc0;have h0:xs=[]:=List.eq_nil_of_length_eq_zero (by omega);subst h0;simp only[List.length_nil] at hq;go_in;go_wp2;go_ret;exact⟨_,rfl,World.ownsRow_nil _ _ _ _,Below.refl _ _⟩
 |some ad=>clear hc hnil;have hl':(Bj ED xs).length=xs.length*2:=hl;have Hl:=AA hl';clear hl hl';go_in;go_wp2_with (refine DO (lo:=w.heap.size) (v:= .slice (some ⟨w.heap.size,0,none⟩) 0 0) (n:=0) (xs:=[]) (m:=xs.length) (news:=Bj ED xs) rfl rfl 85 (.agg #[.slice none 0 0, .int .i64 0]) 2 32 underlying26 Tryz.infoEnvK rfl (by decide) rfl (Cb _ _ _) rfl (Rd.alloc h _) Hone.out (by unfold maxLen;omega) (by omega) (by simp) ?_;intro v' w' hown _ hbel);go_ret;refine⟨_,rfl,by simpa[AJ] using hown,((Below.refl _ _).alloc (Nat.le_refl _) _).trans hbel⟩
theorem Tryz.infoCachedK:(prog.info? 140).map (fun i=>(i.zero,i.size,i.bytes))=some (some (.agg #[.int .i64 0, .int .i64 0, .int .i64 0, .bool false]),4,32):=by kernel_rfl
theorem Gl (v:Value) (xs:List Aa) (w:World) (h:A3 4 AP w v xs) (hs:xs.length≤1048576):
 Calls prog 164 #[v] w fun e w'=>∃v',e= .returned v'∧AJ w.heap.size 140 4 AP w' v' xs∧Below w.heap.size w w':=by
 have hone:∀u∈Bj AP xs,u.oneCell'=true:=by
  intro u hu;obtain⟨s,_,hs⟩:=List.mem_flatMap.1 hu;simp[AP] at hs
  rcases hs with rfl|rfl|rfl|rfl<;>rfl
 have h':=h;obtain⟨a,c,rfl,hnc,hcm,hl,hnil,hc⟩:=h';have hq:=fun w=>Lib.run_eql_slice_nil (P:=prog) w 27 140 a xs.length c 0 0 underlying27
 have Hone:=AA hone;clear hone;cases a with
 |none=>have hc0:=hnil rfl;subst hc0;have h0:xs=[]:=List.eq_nil_of_length_eq_zero (by omega);subst h0;simp only[List.length_nil] at hq;go_in;go_wp2;go_ret;exact⟨_,rfl,World.ownsRow_nil _ _ _ _,Below.refl _ _⟩
 |some ad=>clear hc hnil;have hl':(Bj AP xs).length=xs.length*4:=hl;have Hl:=AA hl';clear hl hl';go_in;go_wp2_with (refine DO (lo:=w.heap.size) (v:= .slice (some ⟨w.heap.size,0,none⟩) 0 0) (n:=0) (xs:=[]) (m:=xs.length) (news:=Bj AP xs) rfl rfl 140 (.agg #[.int .i64 0, .int .i64 0, .int .i64 0, .bool false]) 4 32 underlying27 Tryz.infoCachedK rfl (by decide) rfl (Cb _ _ _) rfl (Rd.alloc h _) Hone.out (by unfold maxLen;omega) (by omega) (by simp) ?_;intro v' w' hown _ hbel);go_ret;refine⟨_,rfl,by simpa[AJ] using hown,((Below.refl _ _).alloc (Nat.le_refl _) _).trans hbel⟩
def Dg (x:DI):List Value:=[.int .i64 x.w, .int .i64 x.a, .bool x.u]
theorem H6 (x:DI):(Dg x).length=3:=rfl
theorem Tryz.infoPageK:(prog.info? 127).map (fun i=>(i.zero,i.size,i.bytes))=some (some (.agg #[.int .i64 0, .int .i64 0, .bool false]),3,24):=by kernel_rfl
theorem Nf (v:Value) (xs:List DI) (w:World) (h:A3 3 Dg w v xs) (hs:xs.length≤1048576):
 Calls prog 98 #[v] w fun e w'=>∃v',e= .returned v'∧AJ w.heap.size 127 3 Dg w' v' xs∧Below w.heap.size w w':=by
 have hone:∀u∈Bj Dg xs,u.oneCell'=true:=by
  intro u hu;obtain⟨s,_,hs⟩:=List.mem_flatMap.1 hu;simp[Dg] at hs
  rcases hs with rfl|rfl|rfl<;>rfl
 have h':=h;obtain⟨a,c,rfl,hnc,hcm,hl,hnil,hc⟩:=h';have hq:=fun w=>Lib.run_eql_slice_nil (P:=prog) w 31 127 a xs.length c 0 0 underlying31
 have Hone:=AA hone;clear hone;cases a with
 |none=>have hc0:=hnil rfl;subst hc0;have h0:xs=[]:=List.eq_nil_of_length_eq_zero (by omega);subst h0;simp only[List.length_nil] at hq;go_in;go_wp2;go_ret;exact⟨_,rfl,World.ownsRow_nil _ _ _ _,Below.refl _ _⟩
 |some ad=>clear hc hnil;have hl':(Bj Dg xs).length=xs.length*3:=hl;have Hl:=AA hl';clear hl hl';go_in;go_wp2_with (refine DO (lo:=w.heap.size) (v:= .slice (some ⟨w.heap.size,0,none⟩) 0 0) (n:=0) (xs:=[]) (m:=xs.length) (news:=Bj Dg xs) rfl rfl 127 (.agg #[.int .i64 0, .int .i64 0, .bool false]) 3 24 underlying31 Tryz.infoPageK rfl (by decide) rfl (Cb _ _ _) rfl (Rd.alloc h _) Hone.out (by unfold maxLen;omega) (by omega) (by simp) ?_;intro v' w' hown _ hbel);go_ret;refine⟨_,rfl,by simpa[AJ] using hown,((Below.refl _ _).alloc (Nat.le_refl _) _).trans hbel⟩
theorem Tryz.infoStringK:(prog.info? 9).map (fun i=>(i.zero,i.size,i.bytes))=some (some (.string ⟨#[]⟩),1,16):=by kernel_rfl
theorem Ep (v:Value) (xs:List ByteArray) (w:World) (h:A3 1 An w v xs) (hs:xs.length≤1048576):
 Calls prog 93 #[v] w fun e w'=>∃v',e= .returned v'∧AJ w.heap.size 9 1 An w' v' xs∧Below w.heap.size w w':=by
 have hone:∀u∈Bj An xs,u.oneCell'=true:=by intro u hu;obtain⟨s,_,hs⟩:=List.mem_flatMap.1 hu;simp[An] at hs;subst hs;rfl
 have h':=h;obtain⟨a,c,rfl,hnc,hcm,hl,hnil,hc⟩:=h';have hq:=fun w=>Lib.run_eql_slice_nil (P:=prog) w 67 9 a xs.length c 0 0 underlying67
 have Hone:=AA hone;clear hone;cases a with
 |none=>have hc0:=hnil rfl;subst hc0;have h0:xs=[]:=List.eq_nil_of_length_eq_zero (by omega);subst h0;simp only[List.length_nil] at hq;go_in;go_wp2;go_ret;exact⟨_,rfl,World.ownsRow_nil _ _ _ _,Below.refl _ _⟩
 |some ad=>clear hc hnil;have hl':(Bj An xs).length=xs.length*1:=hl;have Hl:=AA hl';clear hl hl';go_in;go_wp2_with (refine DO (lo:=w.heap.size) (v:= .slice (some ⟨w.heap.size,0,none⟩) 0 0) (n:=0) (xs:=[]) (m:=xs.length) (news:=Bj An xs) rfl rfl 9 (.string ⟨#[]⟩) 1 16 underlying67 Tryz.infoStringK rfl (by decide) rfl (Cb _ _ _) rfl (Rd.alloc h _) Hone.out (by unfold maxLen;omega) (by omega) (by simp) ?_;intro v' w' hown _ hbel);go_ret;refine⟨_,rfl,by simpa[AJ] using hown,((Below.refl _ _).alloc (Nat.le_refl _) _).trans hbel⟩
theorem Tryz.infoRowsK:(prog.info? 30).map (fun i=>(i.zero,i.size,i.bytes))=some (some (.slice none 0 0),1,24):=by kernel_rfl
theorem J6 (v:Value) (xs:List Value) (w:World) (h:A3 1 Fg w v xs) (hs:xs.length≤1048576) (hone:∀u∈Bj Fg xs,u.oneCell'=true):
 Calls prog 165 #[v] w fun e w'=>∃v',e= .returned v'∧AJ w.heap.size 30 1 Fg w' v' xs∧Below w.heap.size w w':=by
 have h':=h;obtain⟨a,c,rfl,hnc,hcm,hl,hnil,hc⟩:=h';have hq:=fun w=>Lib.run_eql_slice_nil (P:=prog) w 24 30 a xs.length c 0 0 underlying24
 have Hone:=AA hone;clear hone;cases a with
 |none=>have hc0:=hnil rfl;subst hc0;have h0:xs=[]:=List.eq_nil_of_length_eq_zero (by omega);subst h0;simp only[List.length_nil] at hq;go_in;go_wp2;go_ret;exact⟨_,rfl,World.ownsRow_nil _ _ _ _,Below.refl _ _⟩
 |some ad=>clear hc hnil;have hl':(Bj Fg xs).length=xs.length*1:=hl;have Hl:=AA hl';clear hl hl';go_in;go_wp2_with (refine DO (lo:=w.heap.size) (v:= .slice (some ⟨w.heap.size,0,none⟩) 0 0) (n:=0) (xs:=[]) (m:=xs.length) (news:=Bj Fg xs) rfl rfl 30 (.slice none 0 0) 1 24 underlying24 Tryz.infoRowsK rfl (by decide) rfl (Cb _ _ _) rfl (Rd.alloc h _) Hone.out (by unfold maxLen;omega) (by omega) (by simp) ?_;intro v' w' hown _ hbel);go_ret;refine⟨_,rfl,by simpa[AJ] using hown,((Below.refl _ _).alloc (Nat.le_refl _) _).trans hbel⟩
theorem ND {lo e sz n m g cap:Nat} {w:World} {xs:List Value} (h:w.ownsRow lo e sz (.slice (some ⟨g,0,none⟩) n cap) n xs) (hn:n≤m) (hm:m≤cap):∃ys,ys.take (n*sz)=xs∧w.ownsRow lo e sz (.slice (some ⟨g,0,none⟩) m cap) m ys:=by
 rcases h.2 with⟨h0,_⟩|⟨g',cap',cur,hv,hb,hg,hnc,hcm,hcs,htake⟩
 ·cases h0
 ·cases hv
  have h1:n*sz≤m*sz:=Nat.mul_le_mul_right _ hn;have h2:m*sz≤cap*sz:=Nat.mul_le_mul_right _ hm;refine⟨cur.toList.take (m*sz),by rw[List.take_take,Nat.min_eq_left h1];exact htake,?_, .inr ⟨g,cap,cur,rfl,hb,hg,hm,hcm,hcs,rfl⟩⟩;rw[List.length_take,Array.length_toList,hcs];omega
theorem LA {P:Program} {ops:Array Oper} {rest:List Oper} {o:Oper} {a:Act} {Q:Exit→Act→World→Prop} {w w':World} {s x:Operand} {t:TypeId} (hgd:o.guard=none) (ho:o.op= .call {callee:= .builtin .append,args:= #[s,x],argTypes:= #[t,t]})
 {v u v':Value} (hs:a.eval s=v) (hx:a.eval x=u) (hrun:(Builtin.append_ #[t,t] o.type #[v,u]).run P w= .ok v' w') (h:wpList P ops Q rest (a.put o.dst v') w'):wpList P ops Q (o::rest) a w:=
 wpList_plain hgd fun _ hK=>BY ho hs hx hrun (hK _ _ h)
theorem LH {lo:Nat} (v:Value) (xs:List Aa) (w:World) (h:AJ lo 140 4 AP w v xs) (hlo:lo≤w.heap.size) (h4:xs.length=4):
 Calls prog 328 #[v, .int .i64 0, .int .i64 1] w fun e w'=>∃v',e= .returned v'∧AJ lo 140 4 AP w' v' (xs.drop 1)∧Below lo w w':=by
 obtain⟨g,cap,rfl,hc,hcm,hg,hgl,hfz0⟩:=h.shapeOwn (by omega);have h':w.ownsRow lo 140 4 (.slice (some ⟨g,0,none⟩) 4 cap) 4 (Bj AP xs):=by have:=h;unfold AJ at this;rwa [h4] at this
 rw[h4] at hc ⊢;unfold maxLen at hcm;obtain⟨i0,hi0,hz0,hz1,hz2⟩:=info_parts Tryz.infoCachedK;have hl12:((Bj AP xs).drop 4).length=3*4:=by rw[List.length_drop,Gc Bi,h4]
 have hrun:=fun W (hW:∀k,k<w.heap.size→W.heap[k]? =w.heap[k]?) (hO:W.ownsRow lo 140 4 (.slice (some ⟨g,0,none⟩) 4 cap) 4 (Bj AP xs)) ty=>
  run_append_fits (P:=prog) W lo 27 ty 140 i0 4 underlying27 hi0 hz1 g 0 cap [] (Lt hO (Nat.zero_le _)) ⟨g,4,none⟩ 3 (cap - 1) ((Bj AP xs).drop 4) hl12 (by
   intro j u hu;have hj:j<12:=by have:=(List.getElem?_eq_some_iff.1 hu).1;omega
   have e:(⟨g,4,none⟩:Addr).add j=⟨g,4+j,none⟩:=by unfold Addr.add;split<;>simp_all
   rw[e,World.ownsRow.cellAt hO (4+j) (by omega),←hu,List.getElem?_drop]) (by
   intro u hu;obtain⟨s,_,hs⟩:=List.mem_flatMap.1 (List.mem_of_mem_drop hu);simp[AP] at hs
   rcases hs with rfl|rfl|rfl|rfl<;>rfl) (by omega)
 have hc1:¬cap=1:=by omega
 have hO:=AA h';have HR:=AA hrun;clear hrun h h' hi0 hz0 hz1 hz2 hl12;go_in;go_wp2_with fail;go_still_tail 6,mixed
 change wpList _ _ _ _ _ w.drew
 have hbd:Below w.heap.size w w.drew:=Ar (Below.refl _ _) 1;have hO2:=AA (Bw hO.out hbd);obtain⟨w3,happ,hO3,hg3⟩:=HR.out w.drew hbd.block hO2.out 27;have hb3:=AT (hbd.mono hlo) hg3 hg (Nat.le_trans hlo hbd.size);have hlo3:lo≤w3.heap.size:=Nat.le_trans hlo hb3.size;obtain⟨ys,hys,hO4⟩:=ND hO3 (show 0+3≤4 by decide) hc;obtain⟨w4,hcl,hO5,hg5⟩:=IZ (P:=prog) (sz:=4) (t:=27) underlying27 L7 rfl (by simp[Value.cells,Value.oneCell']) hO4 (show 3<4 by decide);have hE:ys.take (3*4)=Bj AP (xs.drop 1):=by
  have e:(Bj AP xs).drop 4=Bj AP (xs.drop 1):=by
   cases xs with
   |nil=>rfl
   |cons x xs=>rw[G6,List.drop_left' (Bi x)];rfl
  rw[←e];simpa using hys
 rw[hE] at hO5;have hcap3:¬cap=3:=by omega
 have R:=AA (show AJ lo 140 4 AP w4 (.slice (some ⟨g,0,none⟩) 3 cap) (xs.drop 1) by unfold AJ;rw[List.length_drop,h4];exact hO5);have BL:=AA (AT hb3 hg5 hg hlo3);have hcl2:=fun ty=>hcl ty (cap - 3)
 simp only[Nat.zero_add] at happ;clear hcl hO3 hO4 hO5 hg3 hg5 hys hE hb3 hbd;generalize w.drew=w2 at happ ⊢;refine LA rfl rfl rfl rfl happ ?_;clear happ;go_wp2_with fail;go_ret;exact⟨_,rfl,R.out,BL.out⟩
end Go.Proofs.YtnieoiclifjoaaaGreatDoor
namespace Go.Proofs
open Go.Shelf
def Tryz.lays189_ren:Go.Shelf.Ren:=⟨fun|189=>179|125=>238|257=>237|128=>301|129=>302|294=>292|295=>293|296=>294|297=>295|298=>296|299=>297|216=>298|300=>299|301=>300|328=>337|329=>338|330=>339|331=>340|332=>341|215=>342|343=>362|n=>n,fun|28=>30|3=>3|46=>207|0=>0|51=>255|53=>257|4=>4|183=>248|182=>247|131=>70|5=>5|9=>9|218=>279|222=>229|228=>303|229=>160|n=>n,fun|n=>n⟩
theorem Tryz.lays189:Go.Proofs.Lays.n189 prog Tryz.lays189_ren:= {
 mixed:=by kernel_rfl
 f125:=func238.trans (congrArg some (by kernel_rfl))
 f128:=func301.trans (congrArg some (by kernel_rfl))
 f129:=func302.trans (congrArg some (by kernel_rfl))
 f189:=func179.trans (congrArg some (by kernel_rfl))
 f215:=func342.trans (congrArg some (by kernel_rfl))
 f216:=func298.trans (congrArg some (by kernel_rfl))
 f257:=func237.trans (congrArg some (by kernel_rfl))
 f294:=func292.trans (congrArg some (by kernel_rfl))
 f295:=func293.trans (congrArg some (by kernel_rfl))
 f296:=func294.trans (congrArg some (by kernel_rfl))
 f297:=func295.trans (congrArg some (by kernel_rfl))
 f298:=func296.trans (congrArg some (by kernel_rfl))
 f299:=func297.trans (congrArg some (by kernel_rfl))
 f300:=func299.trans (congrArg some (by kernel_rfl))
 f301:=func300.trans (congrArg some (by kernel_rfl))
 f328:=func337.trans (congrArg some (by kernel_rfl))
 f329:=func338.trans (congrArg some (by kernel_rfl))
 f330:=func339.trans (congrArg some (by kernel_rfl))
 f331:=func340.trans (congrArg some (by kernel_rfl))
 f332:=func341.trans (congrArg some (by kernel_rfl))
 f343:=func362.trans (congrArg some (by kernel_rfl))
 t0:=underlying0
 a0:=Tryz.isAgg0
 z0:=Tryz.sizeOf0
 v0:=Tryz.zeroValue0
 t3:=underlying3
 a3:=Tryz.isAgg3
 z3:=Tryz.sizeOf3
 v3:=Tryz.zeroValue3
 t4:=underlying4
 a4:=Tryz.isAgg4
 z4:=Tryz.sizeOf4
 v4:=Tryz.zeroValue4
 t5:=underlying5
 a5:=Tryz.isAgg5
 z5:=Tryz.sizeOf5
 v5:=Tryz.zeroValue5
 t9:=underlying9
 a9:=Tryz.isAgg9
 z9:=Tryz.sizeOf9
 v9:=Tryz.zeroValue9
 t28:=underlying30
 a28:=Tryz.isAgg30
 z28:=Tryz.sizeOf30
 v28:=Tryz.zeroValue30
 t46:=underlying207
 a46:=Tryz.isAgg207
 z46:=Tryz.sizeOf207
 v46:=Tryz.zeroValue207
 t51:=underlying255
 a51:=Tryz.isAgg255
 z51:=Tryz.sizeOf255
 v51:=Tryz.zeroValue255
 t53:=underlying257
 a53:=Tryz.isAgg257
 z53:=Tryz.sizeOf257
 v53:=Tryz.zeroValue257
 t131:=underlying70
 a131:=Tryz.isAgg70
 z131:=Tryz.sizeOf70
 v131:=Tryz.zeroValue70
 t182:=underlying247
 a182:=Tryz.isAgg247
 z182:=Tryz.sizeOf247
 v182:=Tryz.zeroValue247
 t183:=underlying248
 a183:=Tryz.isAgg248
 z183:=Tryz.sizeOf248
 v183:=Tryz.zeroValue248
 t218:=underlying279
 a218:=Tryz.isAgg279
 z218:=Tryz.sizeOf279
 v218:=Tryz.zeroValue279
 t222:=underlying229
 a222:=Tryz.isAgg229
 z222:=Tryz.sizeOf229
 v222:=Tryz.zeroValue229
 t228:=underlying303
 a228:=Tryz.isAgg303
 z228:=Tryz.sizeOf303
 v228:=Tryz.zeroValue303
 t229:=underlying160
 a229:=Tryz.isAgg160
 z229:=Tryz.sizeOf160
 v229:=Tryz.zeroValue160}
def Tryz.lays2n20_ren:Go.Shelf.Ren:=⟨fun|20=>180|n=>n,fun|22=>30|3=>3|4=>4|0=>0|n=>n,fun|n=>n⟩
theorem Tryz.lays2n20:Go.Proofs.Lays2.n20 prog Tryz.lays2n20_ren:= {
 mixed:=by kernel_rfl
 f20:=func180.trans (congrArg some (by kernel_rfl))
 t0:=underlying0
 a0:=Tryz.isAgg0
 z0:=Tryz.sizeOf0
 v0:=Tryz.zeroValue0
 t3:=underlying3
 a3:=Tryz.isAgg3
 z3:=Tryz.sizeOf3
 v3:=Tryz.zeroValue3
 t4:=underlying4
 a4:=Tryz.isAgg4
 z4:=Tryz.sizeOf4
 v4:=Tryz.zeroValue4
 t22:=underlying30
 a22:=Tryz.isAgg30
 z22:=Tryz.sizeOf30
 v22:=Tryz.zeroValue30
 i3:=by kernel_rfl}
def Tryz.lays107_ren:Go.Shelf.Ren:=⟨fun|107=>319|108=>352|n=>n,fun|28=>30|3=>3|4=>4|0=>0|n=>n,fun|n=>n⟩
theorem Tryz.lays107:Go.Proofs.Lays.n107 prog Tryz.lays107_ren:= {
 mixed:=by kernel_rfl
 f107:=func319.trans (congrArg some (by kernel_rfl))
 f108:=func352.trans (congrArg some (by kernel_rfl))
 t0:=underlying0
 a0:=Tryz.isAgg0
 z0:=Tryz.sizeOf0
 v0:=Tryz.zeroValue0
 t3:=underlying3
 a3:=Tryz.isAgg3
 z3:=Tryz.sizeOf3
 v3:=Tryz.zeroValue3
 t4:=underlying4
 a4:=Tryz.isAgg4
 z4:=Tryz.sizeOf4
 v4:=Tryz.zeroValue4
 t28:=underlying30
 a28:=Tryz.isAgg30
 z28:=Tryz.sizeOf30
 v28:=Tryz.zeroValue30}
def Tryz.lays2n26_ren:Go.Shelf.Ren:=⟨fun|26=>323|33=>353|34=>354|38=>367|n=>n,fun|24=>67|9=>9|3=>3|4=>4|40=>207|0=>0|n=>n,fun|n=>n⟩
theorem Tryz.lays2n26:Go.Proofs.Lays2.n26 prog Tryz.lays2n26_ren:= {
 mixed:=by kernel_rfl
 f26:=func323.trans (congrArg some (by kernel_rfl))
 f33:=func353.trans (congrArg some (by kernel_rfl))
 f34:=func354.trans (congrArg some (by kernel_rfl))
 f38:=func367.trans (congrArg some (by kernel_rfl))
 t0:=underlying0
 a0:=Tryz.isAgg0
 z0:=Tryz.sizeOf0
 v0:=Tryz.zeroValue0
 t3:=underlying3
 a3:=Tryz.isAgg3
 z3:=Tryz.sizeOf3
 v3:=Tryz.zeroValue3
 t4:=underlying4
 a4:=Tryz.isAgg4
 z4:=Tryz.sizeOf4
 v4:=Tryz.zeroValue4
 t9:=underlying9
 a9:=Tryz.isAgg9
 z9:=Tryz.sizeOf9
 v9:=Tryz.zeroValue9
 t24:=underlying67
 a24:=Tryz.isAgg67
 z24:=Tryz.sizeOf67
 v24:=Tryz.zeroValue67
 t40:=underlying207
 a40:=Tryz.isAgg207
 z40:=Tryz.sizeOf207
 v40:=Tryz.zeroValue207}
def Tryz.lays2n22_ren:Go.Shelf.Ren:=⟨fun|22=>324|29=>355|30=>356|36=>368|17=>372|n=>n,fun|24=>67|9=>9|3=>3|4=>4|0=>0|n=>n,fun|n=>n⟩
theorem Tryz.lays2n22:Go.Proofs.Lays2.n22 prog Tryz.lays2n22_ren:= {
 mixed:=by kernel_rfl
 f17:=func372.trans (congrArg some (by kernel_rfl))
 f22:=func324.trans (congrArg some (by kernel_rfl))
 f29:=func355.trans (congrArg some (by kernel_rfl))
 f30:=func356.trans (congrArg some (by kernel_rfl))
 f36:=func368.trans (congrArg some (by kernel_rfl))
 t0:=underlying0
 a0:=Tryz.isAgg0
 z0:=Tryz.sizeOf0
 v0:=Tryz.zeroValue0
 t3:=underlying3
 a3:=Tryz.isAgg3
 z3:=Tryz.sizeOf3
 v3:=Tryz.zeroValue3
 t4:=underlying4
 a4:=Tryz.isAgg4
 z4:=Tryz.sizeOf4
 v4:=Tryz.zeroValue4
 t9:=underlying9
 a9:=Tryz.isAgg9
 z9:=Tryz.sizeOf9
 v9:=Tryz.zeroValue9
 t24:=underlying67
 a24:=Tryz.isAgg67
 z24:=Tryz.sizeOf67
 v24:=Tryz.zeroValue67
 i9:=by kernel_rfl}
def Tryz.lays160_ren:Go.Shelf.Ren:=⟨fun|160=>223|232=>274|231=>273|227=>275|234=>277|233=>276|236=>279|235=>278|228=>332|271=>334|151=>333|197=>240|120=>359|152=>358|260=>303|137=>369|119=>370|224=>306|225=>305|217=>304|266=>343|n=>n,fun|9=>9|4=>4|3=>3|5=>5|117=>237|116=>236|0=>0|124=>240|21=>21|105=>208|46=>207|119=>284|139=>287|138=>286|n=>n,fun|3=>1|4=>2|n=>n⟩
theorem Tryz.lays160:Go.Proofs.Lays.n160 prog Tryz.lays160_ren:= {
 mixed:=by kernel_rfl
 f119:=func370.trans (congrArg some (by kernel_rfl))
 f120:=func359.trans (congrArg some (by kernel_rfl))
 f137:=func369.trans (congrArg some (by kernel_rfl))
 f151:=func333.trans (congrArg some (by kernel_rfl))
 f152:=func358.trans (congrArg some (by kernel_rfl))
 f160:=func223.trans (congrArg some (by kernel_rfl))
 f197:=func240.trans (congrArg some (by kernel_rfl))
 f217:=func304.trans (congrArg some (by kernel_rfl))
 f224:=func306.trans (congrArg some (by kernel_rfl))
 f225:=func305.trans (congrArg some (by kernel_rfl))
 f227:=func275.trans (congrArg some (by kernel_rfl))
 f228:=func332.trans (congrArg some (by kernel_rfl))
 f231:=func273.trans (congrArg some (by kernel_rfl))
 f232:=func274.trans (congrArg some (by kernel_rfl))
 f233:=func276.trans (congrArg some (by kernel_rfl))
 f234:=func277.trans (congrArg some (by kernel_rfl))
 f235:=func278.trans (congrArg some (by kernel_rfl))
 f236:=func279.trans (congrArg some (by kernel_rfl))
 f260:=func303.trans (congrArg some (by kernel_rfl))
 f266:=func343.trans (congrArg some (by kernel_rfl))
 f271:=func334.trans (congrArg some (by kernel_rfl))
 t0:=underlying0
 a0:=Tryz.isAgg0
 z0:=Tryz.sizeOf0
 v0:=Tryz.zeroValue0
 t3:=underlying3
 a3:=Tryz.isAgg3
 z3:=Tryz.sizeOf3
 v3:=Tryz.zeroValue3
 t4:=underlying4
 a4:=Tryz.isAgg4
 z4:=Tryz.sizeOf4
 v4:=Tryz.zeroValue4
 t5:=underlying5
 a5:=Tryz.isAgg5
 z5:=Tryz.sizeOf5
 v5:=Tryz.zeroValue5
 t9:=underlying9
 a9:=Tryz.isAgg9
 z9:=Tryz.sizeOf9
 v9:=Tryz.zeroValue9
 t21:=underlying21
 a21:=Tryz.isAgg21
 z21:=Tryz.sizeOf21
 v21:=Tryz.zeroValue21
 t46:=underlying207
 a46:=Tryz.isAgg207
 z46:=Tryz.sizeOf207
 v46:=Tryz.zeroValue207
 t105:=underlying208
 a105:=Tryz.isAgg208
 z105:=Tryz.sizeOf208
 v105:=Tryz.zeroValue208
 t116:=underlying236
 a116:=Tryz.isAgg236
 z116:=Tryz.sizeOf236
 t117:=underlying237
 a117:=Tryz.isAgg237
 z117:=Tryz.sizeOf237
 v117:=Tryz.zeroValue237
 t119:=underlying284
 a119:=Tryz.isAgg284
 z119:=Tryz.sizeOf284
 t124:=underlying240
 a124:=Tryz.isAgg240
 z124:=Tryz.sizeOf240
 v124:=Tryz.zeroValue240
 t138:=underlying286
 a138:=Tryz.isAgg286
 z138:=Tryz.sizeOf286
 v138:=Tryz.zeroValue286
 t139:=underlying287
 a139:=Tryz.isAgg287
 z139:=Tryz.sizeOf287
 v139:=Tryz.zeroValue287
 g3:=by kernel_rfl
 g4:=by kernel_rfl}
def Tryz.lays99_ren:Go.Shelf.Ren:=⟨fun|99=>120|206=>187|n=>n,fun|9=>9|4=>4|3=>3|n=>n,fun|n=>n⟩
theorem Tryz.lays99:Go.Proofs.Lays.n99 prog Tryz.lays99_ren:= {
 mixed:=by kernel_rfl
 f99:=func120.trans (congrArg some (by kernel_rfl))
 f206:=func187.trans (congrArg some (by kernel_rfl))
 t3:=underlying3
 a3:=Tryz.isAgg3
 z3:=Tryz.sizeOf3
 v3:=Tryz.zeroValue3
 t4:=underlying4
 a4:=Tryz.isAgg4
 z4:=Tryz.sizeOf4
 v4:=Tryz.zeroValue4
 t9:=underlying9
 a9:=Tryz.isAgg9
 z9:=Tryz.sizeOf9
 v9:=Tryz.zeroValue9}
end Go.Proofs
set_option linter.unusedVariables false
namespace Go.Proofs.YtnieoiclifjoaaaGreatDoor
open Go.Proofs.Tryz
open Go.RowKit Go.Shelf
theorem OA (l cs:List UInt8):Lib.trimLeftS l cs=[]↔∀b∈l,cs.contains b=true:=by
 unfold Lib.trimLeftS
 induction l with
 |nil=>simp
 |cons x l ih=>
  rw[List.dropWhile_cons]
  by_cases hx:cs.contains x=true
  ·rw[if_pos hx,ih]
   constructor
   ·intro h b hb
    rcases List.mem_cons.1 hb with e|e
    ·subst e;exact hx
    ·exact h b e
   ·intro h b hb
    exact h b (List.mem_cons_of_mem _ hb)
  ·rw[if_neg hx]
   constructor
   ·intro h;cases h
   ·intro h;exact absurd (h x List.mem_cons_self) hx
theorem U9 (l cs:List UInt8):Lib.trimS l cs=[]↔∀b∈l,cs.contains b=true:=by
 unfold Lib.trimS;rw[OA];unfold Lib.trimRightS;constructor
 ·intro h b hb
  by_cases hc:cs.contains b=true
  ·exact hc
  ·refine h b ?_
   have h2:b∈l.reverse:=List.mem_reverse.2 hb;have:∀l':List UInt8,b∈l'→b∈l'.dropWhile (cs.contains ·):=by
    intro l'
    induction l' with
    |nil=>intro h;exact h
    |cons x l' ih=>
     intro h;rw[List.dropWhile_cons]
     split
     ·next hx=>
      rcases List.mem_cons.1 h with e|e
      ·subst e;exact absurd hx hc
      ·exact ih e
     ·exact h
   exact List.mem_reverse.2 (this _ h2)
 ·intro h b hb
  exact h b (List.mem_reverse.1 ((List.dropWhile_sublist _).subset (List.mem_reverse.1 hb)))
theorem M6 (c:UInt8):([97,98,99]:List UInt8).contains c=Ec c:=by
 have h:∀n:Fin 256,([97,98,99]:List UInt8).contains ⟨⟨n⟩⟩=Ec ⟨⟨n⟩⟩:=by decide+kernel
 exact h c.toBitVec.toFin
theorem Pe (s:ByteArray) (h:s.size≤4):(Value.string ⟨(Lib.trimS s.data.toList [97,98,99]).toArray⟩= .string ⟨#[]⟩)↔A4 s=true:=by
 have e:A4 s=s.data.toList.all Ec:=by simp[A4,h]
 rw[e,List.all_eq_true];have t:=U9 s.data.toList [97,98,99];constructor
 ·intro hv b hb
  have:Lib.trimS s.data.toList [97,98,99]=[]:=by simp only[Value.string.injEq,ByteArray.mk.injEq] at hv;have:=congrArg Array.toList hv;simpa using this
  rw[←M6];exact t.1 this b hb
 ·intro ha
  rw[t.2 (fun b hb=>by rw[M6];exact ha b hb)]
theorem isEmpty_iff (r:ByteArray):r.toList.isEmpty=true↔r=⟨#[]⟩:=by rw[Lib.toList_data,List.isEmpty_iff];obtain⟨⟨l⟩⟩:=r;simp
theorem Cn (s:ByteArray) (w:World) (hs:s.size≤maxLen):
 Calls prog 161 #[.string s] w fun e w'=>e= .returned (.bool (A4 s))∧Below w.heap.size w w':=by
 unfold maxLen at hs
 by_cases h4:s.size≤4
 ·have hcon:=Any.strings_Trim_laid Tryz.lays160 (by kernel_rfl) s ⟨#[97,98,99]⟩ w (by omega) (by decide) (ascii_of_all (by decide))
  change Calls prog 223 _ _ (fun e w'=>e= .returned (.string ⟨(Lib.trimS s.data.toList [97,98,99]).toArray⟩)∧Below w.heap.size w w') at hcon
  have R:=AA (Pe s h4);have i4:(s.size:Int)≤4:=by omega
  generalize(⟨(Lib.trimS s.data.toList [97,98,99]).toArray⟩:ByteArray)=r at hcon R;go_in;go_wp2_with fail;refine hcon.mono ?_;rintro e w1 ⟨rfl,hb⟩;have S:Hid (r.toList.isEmpty=A4 s):=AA (by rw[Bool.eq_iff_iff,←R.out,isEmpty_iff];simp)
  go_wp2_with fail;go_ret;exact⟨AK S.out,hb⟩
 ·have S:=AA (show A4 s=false by simp[A4,h4])
  have i4:¬(s.size:Int)≤4:=by omega
  go_in;go_wp2_with fail;go_ret;exact⟨AK S.out.symm,Below.refl _ _⟩
end Go.Proofs.YtnieoiclifjoaaaGreatDoor
set_option linter.unusedVariables false
namespace Go.Proofs.YtnieoiclifjoaaaGreatDoor
open Go.Proofs.Tryz
open Go.RowKit Go.Shelf Go.Sort
def Ak (ns:List Nat):List Int:=ns.map fun n:Nat=>(n:Int)
theorem BU (ns:List Nat):(Ak ns).length=ns.length:=by simp[Ak]
theorem Kw {ns:List Nat} {k:Nat} (h:k<ns.length):nth (Ak ns) k=((ns.getD k 0:Nat):Int):=by simp[nth,Ak,h]
theorem JE {ns:List Nat} {g:Nat}:(g:Int)∈Ak ns↔g∈ns:=by
 simp only[Ak,List.mem_map];constructor
 ·rintro⟨a,h,e⟩
  have:a=g:=by omega
  subst this;exact h
 ·exact fun h=>⟨g,h,rfl⟩
theorem Ob {lo e:Nat} {w:World} {v:Value} {n:Nat} {xs:List Value} (h:w.ownsRow lo e 1 v n xs) (hn:0<n):∃g cap cur,v= .slice (some ⟨g,0,none⟩) n cap∧lo≤g∧w.heap[g]? =some (.cells cur e (0,0))∧n≤cap∧cap≤maxLen∧cur.size=cap*1∧cur.toList.take (n*1)=xs:=by
 rcases h.2 with⟨rfl,rfl⟩|⟨g,cap,cur,rfl,hb,hg,hnc,hcm,hcs,htake⟩
 ·have:=h.1;simp at this;omega
 ·exact⟨g,cap,cur,rfl,hb,hg,hnc,hcm,hcs,htake⟩
theorem Ki {lo:Nat} (v:Value) (ns:List Nat) (w:World) (h:AE lo w v (Ak ns)) (hs:ns.length≤1048576):
 Calls prog 179 #[v] w fun e w'=>e= .returned (.tuple #[])∧∃ts:List Nat,ts.length=ns.length∧(∀g,g∈ts↔g∈ns)∧AE lo w' v (Ak ts)∧w.grownBy w' v.ownBlock:=by
 by_cases h0:ns.length=0
 ·obtain rfl:ns=[]:=List.eq_nil_of_length_eq_zero h0
  obtain⟨a,c,rfl,_⟩:=h.rd.open;refine(Any.slices_Sort_int_none Tryz.lays189 a c w).mono ?_;rintro e w' ⟨rfl,rfl⟩;exact⟨rfl,[],rfl,fun _=>Iff.rfl,h,⟨rfl,rfl,rfl,Nat.le_refl _,fun _ _ _=>rfl⟩⟩
 ·obtain⟨g,cap,cur,rfl,hg,hb,hnc,hcm,hcs,ht⟩:=Ob h (by rw[BU];omega)
  have hH:=holds_of_blockI (ss:=Ak ns) hb (by simpa using ht);have hl:(ns.mergeSort fun x y=>decide (x≤y)).length=ns.length:=List.length_mergeSort _;have e1:(Ak ns).mergeSort (fun x y=>decide (x≤y))=Ak (ns.mergeSort fun x y=>decide (x≤y)):=by unfold Ak;rw[List.map_mergeSort];intro a _ b _;simp
  refine(Any.slices_Sort_int Tryz.lays189 g 0 cap (Ak ns) w hH (Array.getElem?_eq_some_iff.1 hb).1 (by rw[BU];omega)).mono ?_;rintro e w' ⟨rfl,nn,os,rfl⟩;rw[e1];refine⟨rfl,_,hl,fun g=>List.mem_mergeSort,?_,grownBy_sortedI _⟩;have:=ownsRow_sortedI (n:=nn) (os:=os) (ss:=Ak ns) (ts:=Ak (ns.mergeSort fun x y=>decide (x≤y))) (by rw[BU,BU];exact hl) hg hb hnc hcm hcs;have el:(Ak (ns.mergeSort fun x y=>decide (x≤y))).length=(Ak ns).length:=by rw[BU,BU];exact hl
  unfold AE;rw[el];exact this
theorem QB (d:Array Int):∀m,m≤d.size→∀x,x∈Lib.compactUpTo d m↔∃j,j<m∧d[j]! =x:=by
 intro m
 induction m with
 |zero=>intro _ x;simp[Lib.compactUpTo]
 |succ m ih=>
  intro hm x;rw[Lib.compactUpTo_succ,List.mem_append,ih (by omega)];cases hk:Lib.keeps d m
  ·have hk':m≠0∧d[m]! =d[m - 1]! :=by
    unfold Lib.keeps at hk;simp at hk;exact⟨by omega,hk.2⟩
   constructor
   ·rintro(⟨j,hj,h⟩|h)
    ·exact⟨j,by omega,h⟩
    ·simp at h
   ·rintro⟨j,hj,h⟩
    by_cases e:j=m
    ·subst e;exact .inl ⟨j - 1,by omega,by rw[←hk'.2];exact h⟩
    ·exact .inl ⟨j,by omega,h⟩
  ·constructor
   ·rintro(⟨j,hj,h⟩|h)
    ·exact⟨j,by omega,h⟩
    ·simp at h;exact⟨m,by omega,h.symm⟩
   ·rintro⟨j,hj,h⟩
    by_cases e:j=m
    ·subst e;exact .inr (by simp[h])
    ·exact .inl ⟨j,by omega,h⟩
theorem Ko (zs:List Int) (x:Int):x∈Lib.compact zs↔x∈zs:=by
 unfold Lib.compact;rw[QB _ _ (by simp)];constructor
 ·rintro⟨j,hj,rfl⟩
  simp[hj]
 ·intro h
  obtain⟨j,hj,rfl⟩:=List.getElem_of_mem h;exact⟨j,hj,by simp[hj]⟩
theorem RJ (zs:List Int):(Lib.compact zs).length≤zs.length:=by unfold Lib.compact Lib.compactUpTo;rw[List.length_map];exact Nat.le_trans (List.length_filter_le _ _) (by simp)
theorem Sd {zs:List Int} (h:∀z∈zs,0≤z):Ak (zs.map Int.toNat)=zs:=by
 unfold Ak;rw[List.map_map]
 conv=>rhs;rw[←List.map_id zs]
 exact List.map_congr_left fun z hz=>by have:=h z hz;simp;omega
theorem Rr {lo e n k:Nat} {w:World} {g cap:Nat} {xs:List Value} (h:w.ownsRow lo e 1 (.slice (some ⟨g,0,none⟩) n cap) n xs) (hk:k≤n):w.ownsRow lo e 1 (.slice (some ⟨g,0,none⟩) k cap) k (xs.take k):=by
 rcases h.2 with⟨h0,_⟩|⟨g',cap',cur,hv,hb,hg,hnc,hcm,hcs,htake⟩
 ·cases h0
 ·cases hv
  refine⟨by have:=h.1;simp at this;simp[this];omega, .inr ⟨g,cap,cur,rfl,hb,hg,by omega,hcm,hcs,?_⟩⟩;rw[←htake,List.take_take,Nat.mul_one,Nat.mul_one,Nat.min_eq_left hk]
theorem JJ {lo:Nat} (v:Value) (ns:List Nat) (w:World) (h:AE lo w v (Ak ns)) (hs:ns.length≤1048576):
 Calls prog 180 #[v] w fun e w'=>∃v',e= .returned v'∧v'.ownBlock=v.ownBlock∧∃ts:List Nat,ts.length≤ns.length∧(∀g,g∈ts↔g∈ns)∧AE lo w' v' (Ak ts)∧w.grownBy w' v.ownBlock:=by
 by_cases h0:ns.length=0
 ·obtain rfl:ns=[]:=List.eq_nil_of_length_eq_zero h0
  obtain⟨a,c,rfl,_⟩:=h.rd.open;refine(Any.slices_Compact_int_empty Tryz.lays2n20 a c w).mono ?_;rintro e w' ⟨rfl,rfl⟩;exact⟨_,rfl,rfl,[],Nat.le_refl _,fun _=>Iff.rfl,h,⟨rfl,rfl,rfl,Nat.le_refl _,fun _ _ _=>rfl⟩⟩
 ·obtain⟨g,cap,cur,rfl,hg,hb,hnc,hcm,hcs,ht⟩:=Ob h (by rw[BU];omega)
  have hH:=holds_of_blockI (ss:=Ak ns) hb (by simpa using ht);have hpos:∀z∈Lib.compact (Ak ns),0≤z:=by intro z hz;rw[Ko] at hz;obtain⟨n,_,rfl⟩:=List.mem_map.1 hz;omega
  refine(Any.slices_Compact_int Tryz.lays2n20 g 0 cap (Ak ns) w hH (by rw[BU];omega) hnc).mono ?_;rintro e w' ⟨rfl,nn,rfl⟩;have hle:=RJ (Ak ns);have hO:=ownsRow_sortedI (n:=nn) (os:= #[]) (ss:=Ak ns) (ts:=Lib.compact (Ak ns)++List.replicate ((Ak ns).length - (Lib.compact (Ak ns)).length) 0) (by simp;omega) hg hb hnc hcm hcs;have hG:=grownBy_sortedI (w:=w) (g:=g) (n:=nn) (os:= #[]) (Lib.compact (Ak ns)++List.replicate ((Ak ns).length - (Lib.compact (Ak ns)).length) 0).toArray;rw[grow_empty] at hO hG;refine⟨_,rfl,rfl,(Lib.compact (Ak ns)).map Int.toNat,by rw[List.length_map];rw[BU] at hle;exact hle,fun g=>?_,?_,hG⟩
  ·rw[←JE,Sd hpos,Ko,JE]
  ·rw[Sd hpos]
   have hP:=Rr hO hle;unfold AE;have e:((Lib.compact (Ak ns)++List.replicate ((Ak ns).length - (Lib.compact (Ak ns)).length) 0).map (Value.int .i64)).take (Lib.compact (Ak ns)).length=(Lib.compact (Ak ns)).map (Value.int .i64):=by rw[List.map_append,List.take_left' (by simp)]
   rw[e] at hP;exact hP
theorem FQ (v:Value) (ns:List Nat) (x:Int) (w:World) (h:Ap w v (Ak ns)):
 Calls prog 319 #[v, .int .i64 x] w fun e w'=>e= .returned (.bool ((Ak ns).contains x))∧w=w':=by
 obtain⟨a,c,rfl,hc,hcm,H0⟩:=h.open;unfold maxLen at hcm
 by_cases h0:ns.length=0
 ·obtain rfl:ns=[]:=List.eq_nil_of_length_eq_zero h0
  refine(Any.slices_Contains_int_empty Tryz.lays107 a c x w).mono ?_;rintro e w' ⟨rfl,rfl⟩;exact⟨rfl,rfl⟩
 ·obtain⟨b,off,rfl,hcell⟩:=H0 0 (by rw[BU];omega)
  refine(Any.slices_Contains_int Tryz.lays107 b off (Ak ns).length c (Ak ns) x w (Nat.le_refl _) (by omega) (fun j hj=>hcell j hj)).mono ?_;rintro e w' ⟨rfl,rfl⟩;rw[List.take_length];exact⟨rfl,rfl⟩
theorem J7 (s p:ByteArray) (w:World):Calls prog 120 #[.string s, .string p] w fun e w'=>e= .returned (.bool (LR p s))∧w=w':=by refine(Any.strings_HasPrefix Tryz.lays99 s p w).mono ?_;rintro e w' ⟨rfl,rfl⟩;exact⟨rfl,rfl⟩
end Go.Proofs.YtnieoiclifjoaaaGreatDoor
set_option linter.unusedVariables false
namespace Go.Proofs.YtnieoiclifjoaaaGreatDoor
open Go.Proofs.Tryz
open Go.RowKit
theorem L5 (r:List Int):JI r=Ed r:=by
 unfold JI Ed;rw[Bool.and_comm]
 congr 1
theorem Kl {α:Type} {p:α→Bool} {l:List α}:(!l.any fun x=>!p x)=l.all p:=by simp[List.all_eq_not_any_not]
theorem LM (u:Value) (r:List Int) (w:World) (h:Ap w u r):Calls prog 169 #[u] w fun e w'=>e= .returned (.bool (!Ed r))∧Below w.heap.size w w':=by have C:=AA (Lo u r w h);clear h;go_in;go_wp2_with (refine(C.out).mono ?_;rintro e w' ⟨rfl,rfl⟩;rw[L5]);go_ret;exact⟨rfl,Below.refl _ _⟩
theorem GJ (v:Value) (m:List (List Int)) (w:World) (h:BJ w v m):Calls prog 105 #[v] w fun e w'=>e= .returned (.bool (Bg m))∧Below w.heap.size w w':=by
 have C:=AA (GY 169 #[] (fun r=>!Ed r) v m w h (fun _ _=>by kernel_rfl) (fun u r _ W _ hr=>LM u r W hr));obtain⟨a,c,rfl,hc,hcm,_⟩:=h.open;clear h;unfold maxLen at hcm
 by_cases h4:m.length=12
 ·have S:=AA (show(!m.any fun r=>!Ed r)=Bg m by rw[Kl];simp[Bg,h4])
  have hb:((m.length:Int)==12)=true:=by simp[h4]
  clear h4;go_in;go_wp2_with (refine(C.out).mono ?_;rintro e w' ⟨rfl,hb2⟩);go_ret;exact⟨AK S.out,hb2⟩
 ·have S:=AA (show Bg m=false by simp[Bg,h4])
  have hb:((m.length:Int)==12)=false:=by simp;omega
  clear h4;go_in;go_wp2_with fail;go_ret;exact⟨AK S.out.symm,Below.refl _ _⟩
def G2 (r:List Int):Bool:=r.isEmpty||Ed r
theorem Po {r:List Int} (h:0<r.length):G2 r=Ed r:=by cases r with|nil=>simp at h|cons=>simp[G2]
theorem Pn {r:List Int} (h:¬0<r.length):G2 r=true:=by cases r with|nil=>simp[G2]|cons=>simp at h
theorem Md (u:Value) (r:List Int) (w:World) (h:Ap w u r):Calls prog 115 #[u] w fun e w'=>e= .returned (.bool (!G2 r))∧Below w.heap.size w w':=by
 have C:=AA (Lo u r w h);obtain⟨a,c,rfl,hc,hcm,_⟩:=h.open;clear h;unfold maxLen at hcm
 by_cases h0:0<r.length
 ·have S:=AA (show(!G2 r)=!Ed r by rw[Po h0])
  have hb:(0:Int)<(r.length:Int):=by omega
  go_in;go_wp2_with (refine(C.out).mono ?_;rintro e w' ⟨rfl,rfl⟩;rw[L5]);go_ret;exact⟨AK S.out.symm,Below.refl _ _⟩
 ·have S:=AA (show(!G2 r)=false by rw[Pn h0];rfl)
  have hb:¬(0:Int)<(r.length:Int):=by omega
  go_in;go_wp2_with fail;go_ret;exact⟨AK S.out.symm,Below.refl _ _⟩
theorem Me (v:Value) (m:List (List Int)) (w:World) (h:BJ w v m):Calls prog 54 #[v] w fun e w'=>e= .returned (.bool (IE m))∧Below w.heap.size w w':=by
 have C:=AA (GY 115 #[] (fun r=>!G2 r) v m w h (fun _ _=>by kernel_rfl) (fun u r _ W _ hr=>Md u r W hr));obtain⟨a,c,rfl,hc,hcm,_⟩:=h.open;clear h;unfold maxLen at hcm
 by_cases h4:m.length=16
 ·have S:=AA (show(!m.any fun r=>!G2 r)=IE m by rw[Kl];simp[IE,h4];rfl)
  have hb:((m.length:Int)==16)=true:=by simp[h4]
  clear h4;go_in;go_wp2_with (refine(C.out).mono ?_;rintro e w' ⟨rfl,hb2⟩);go_ret;exact⟨AK S.out,hb2⟩
 ·have S:=AA (show IE m=false by simp[IE,h4])
  have hb:((m.length:Int)==16)=false:=by simp;omega
  clear h4;go_in;go_wp2_with fail;go_ret;exact⟨AK S.out.symm,Below.refl _ _⟩
def HY (xs:List AQ):Prop:=∀x∈xs,x.g.size≤maxLen
def UF (x:AQ):Bool:=Bk x.k 1 3&&A4 x.g&&Bk x.r 0 50
theorem QR:Cj AQ.zero=true:=by simp[Cj]
theorem KV {x:AQ} (h:x≠AQ.zero):Cj x=UF x:=by simp[Cj,h,UF]
theorem Re (x:AQ) (w:World) (hs:x.g.size≤maxLen):Calls prog 172 #[x.val] w fun e w'=>e= .returned (.bool (Cj x))∧Below w.heap.size w w':=by
 obtain⟨k,g,r⟩:=x;simp only[AQ.val];simp only at hs;have C:=AA (fun W=>Cn g W hs);clear hs;have key:∀(b:Bool),b=false→Cj ⟨k,g,r⟩=Cj ⟨k,g,r⟩:=fun _ _=>rfl
 clear key;have CW:=AA (fun n lo hi W=>Cs n lo hi W)
 by_cases hk:k=0
 ·subst hk
  by_cases hg:g.toList=[]
  ·by_cases hr:r=0
   ·have S:=AA (show Cj ⟨0,g,r⟩=true by
     have:g=⟨#[]⟩:=by rw[Lib.toList_data] at hg;cases g;simp at hg;rw[hg]
     rw[hr,this];exact QR)
    go_in;go_wp2_with fail;go_ret;exact⟨AK S.out.symm,AG _ _⟩
   ·have S:=AA (show Cj ⟨0,g,r⟩=false by rw[KV (by intro e;simp[AQ.zero] at e;exact hr e.2)];simp[UF,Bk])
    have H:=AA (show Bk 0 1 3=false from rfl);go_in;go_wp2_with (refine(CW.out _ _ _ _).mono ?_;rintro e w' ⟨rfl,rfl⟩;rw[H.out]);go_ret;exact⟨AK S.out.symm,AG _ _⟩
  ·have S:=AA (show Cj ⟨0,g,r⟩=false by rw[KV (by intro e;simp[AQ.zero] at e;exact hg (by rw[e.1,Lib.toList_data]))];simp[UF,Bk])
   have H:=AA (show Bk 0 1 3=false from rfl);go_in;go_wp2_with (refine(CW.out _ _ _ _).mono ?_;rintro e w' ⟨rfl,rfl⟩;rw[H.out]);go_ret;exact⟨AK S.out.symm,AG _ _⟩
 ·have S:=AA (show Cj ⟨k,g,r⟩=UF ⟨k,g,r⟩ from KV (by intro e;simp[AQ.zero] at e;exact hk e.1))
  cases h1:Bk k 1 3
  ·have T:=AA (show UF ⟨k,g,r⟩=false by simp[UF,h1])
   have H:=AA h1;clear h1;go_in;go_wp2_with (refine(CW.out _ _ _ _).mono ?_;rintro e w' ⟨rfl,rfl⟩;rw[H.out]);go_ret;exact⟨AK (S.out.trans T.out).symm,AG _ _⟩
  ·cases h2:A4 g
   ·have T:=AA (show UF ⟨k,g,r⟩=false by simp[UF,h2])
    have H:=AA h1;clear h1;have H2:=AA h2;clear h2;go_in;go_wp2_with (first|(refine(CW.out _ _ _ _).mono ?_;rintro e w' ⟨rfl,rfl⟩;rw[H.out])|(refine(C.out _).mono ?_;rintro e w' ⟨rfl,hb⟩;rw[H2.out]));go_ret;exact⟨AK (S.out.trans T.out).symm,(AG _ _).trans (hb.mono (AG _ _).size)⟩
   ·have T:=AA (show UF ⟨k,g,r⟩=Bk r 0 50 by simp[UF,h1,h2])
    have H:=AA h1;clear h1;have H2:=AA h2;clear h2;go_in;go_wp2_with fail;refine(CW.out _ _ _ _).mono ?_;rintro e w' ⟨rfl,rfl⟩;rw[H.out];go_wp2_with fail;refine(C.out _).mono ?_;rintro e w' ⟨rfl,hb⟩;rw[H2.out];have hz:w.heap.size<w'.heap.size:=by have:=hb.size;simp at this;omega
    obtain⟨hc,hf⟩:=UM hb;go_wp2_with fail;refine(CW.out _ _ _ _).mono ?_;rintro e w' ⟨rfl,rfl⟩;go_wp2_with fail;go_ret;exact⟨AK (S.out.trans T.out).symm,(AG _ _).trans (hb.mono (AG _ _).size)⟩
theorem MA (x:AQ) (w:World) (hs:x.g.size≤maxLen):Calls prog 171 #[x.val] w fun e w'=>e= .returned (.bool (!Cj x))∧Below w.heap.size w w':=by
 have C:=AA (fun W=>Re x W hs);obtain⟨k,g,r⟩:=x;simp only[AQ.val] at C ⊢;go_in;go_wp2_with (refine(C.out _).mono ?_;rintro e w' ⟨rfl,hb⟩);go_ret;exact⟨rfl,(AG _ _).trans (hb.mono (AG _ _).size)⟩
theorem Cl (v:Value) (xs:List AQ) (w:World) (h:BH w v xs) (hs:HY xs):Calls prog 106 #[v] w fun e w'=>e= .returned (.bool (A0 xs))∧Below w.heap.size w w':=by
 have C:=AA (JP 171 #[] (fun x=>!Cj x) v xs w h (fun _ _=>by kernel_rfl) (fun x hx W _=>MA x W (hs x hx)));obtain⟨a,c,rfl,hc,hcm⟩:=h.shape;clear h hs;unfold maxLen at hcm
 by_cases h4:xs.length=12
 ·have S:=AA (show(!xs.any fun x=>!Cj x)=A0 xs by rw[Kl];simp[A0,h4])
  have hb:((xs.length:Int)==12)=true:=by simp[h4]
  clear h4;go_in;go_wp2_with (refine(C.out).mono ?_;rintro e w' ⟨rfl,hb2⟩);go_ret;exact⟨AK S.out,hb2⟩
 ·have S:=AA (show A0 xs=false by simp[A0,h4])
  have hb:((xs.length:Int)==12)=false:=by simp;omega
  clear h4;go_in;go_wp2_with fail;go_ret;exact⟨AK S.out.symm,Below.refl _ _⟩
theorem Mr (x:AQ) (w:World):Calls prog 271 #[x.val] w fun e w'=>e= .returned (.bool (decide (x.k=0)))∧Below w.heap.size w w':=by obtain⟨k,g,r⟩:=x;simp only[AQ.val];have S:=AA (show(k==0)=decide (k=0) by cases h:(k==0)<;>simp_all);go_in;go_wp2_with fail;go_ret;exact⟨AK S.out,AG _ _⟩
theorem J8 (v:Value) (xs:List AQ) (w:World) (h:BH w v xs):Calls prog 220 #[v] w fun e w'=>e= .returned (.int .i64 (Cy xs))∧Below w.heap.size w w':=by
 have C:=AA (II 271 #[] (fun x=>decide (x.k=0)) v xs w h (fun _ _=>by kernel_rfl) (fun x _ W _=>Mr x W));obtain⟨a,c,rfl,hc,hcm⟩:=h.shape;clear h;go_in;go_wp2_with (refine(C.out).mono ?_;rintro e w' ⟨rfl,hb2⟩);go_ret;exact⟨rfl,hb2⟩
theorem Ur (s g:ByteArray) (b:Nat) (w:World) (h:w.cell? ⟨b,0,none⟩=some (.string g)):Calls prog 119 #[.string s, .pointer (some ⟨b,0,none⟩)] w fun e w'=>e= .returned (.bool (LR s g))∧Below w.heap.size w w':=by go_in;go_wp2_with (refine(J7 _ _ _).mono ?_;rintro e w' ⟨rfl,rfl⟩);go_ret;exact⟨rfl,Below.refl _ _⟩
theorem MN (v:Value) (ss:List ByteArray) (g:ByteArray) (w:World) (h:BC w v ss):Calls prog 56 #[v, .string g] w fun e w'=>e= .returned (.bool (Ca ss g))∧Below w.heap.size w w':=by
 have b1:=AG w (.cells #[.string g] 9);have cg:(w.alloc (.cells #[.string g] 9)).cell? ⟨w.heap.size,0,none⟩=some (.string g):=cell_of_row _ _ 0 _ _ _ (heap_alloc_new _ _);have C:=AA (Ip 119 #[.pointer (some ⟨w.heap.size,0,none⟩)] (fun s=>LR s g) v ss _ (A3.below h b1) (fun _ _=>by kernel_rfl) (fun s _ W hW=>Ur s g _ W ((hW.cell (World.block_lt_of_cell? _ _ cg)).trans cg)));obtain⟨a,c,rfl,hc,hcm⟩:=h.shape;clear h cg;go_in;go_wp2_with (refine(C.out).mono ?_;rintro e w' ⟨rfl,hb2⟩);go_ret;exact⟨rfl,b1.trans (hb2.mono b1.size)⟩
def NU (xs:List AQ) (g:ByteArray):List AQ:=xs.set (Cy xs).toNat ⟨1,g,0⟩
theorem MT (v:Value) (xs:List AQ) (g:ByteArray) (w:World) (h:BH w v xs) (hs:HY xs) (hg:g.size≤maxLen) (hok:A0 xs=true) (hr:A4 g=true) (hf:Cy xs<0):
 Calls prog 249 #[v, .string g] w fun e w'=>e= .returned (.tuple #[.slice none 0 0, .int .i64 0, .bool false])∧Below w.heap.size w w':=by
 have C1:=AA (fun W (hW:Below w.heap.size w W)=>Cl v xs W (A3.below h hW) hs);have C2:=AA (fun W=>Cn g W hg);have C3:=AA (fun W (hW:Below w.heap.size w W)=>J8 v xs W (A3.below h hW));have Ok:=AA hok;have Hr:=AA hr;clear hok hr h hs hg;go_in;go_wp2_with fail;refine(C1.out _ (Below.refl _ _)).mono ?_;rintro e w1 ⟨rfl,hb1⟩;rw[Ok.out];go_wp2_with fail;refine(C2.out _).mono ?_;rintro e w2 ⟨rfl,hb2⟩;rw[Hr.out];replace hb2:=hb1.trans (hb2.mono hb1.size);clear hb1;go_wp2_with fail;refine(C3.out _ hb2).mono ?_;rintro e w3 ⟨rfl,hb3⟩;replace hb3:=hb2.trans (hb3.mono hb2.size);clear hb2;go_wp2_with fail;go_ret3;exact⟨rfl,hb3⟩
theorem MU (v:Value) (xs:List AQ) (g:ByteArray) (w:World) (h:BH w v xs) (hs:HY xs) (hg:g.size≤maxLen) (hok:A0 xs=true) (hr:A4 g=true) (hf:0≤Cy xs):
 Calls prog 249 #[v, .string g] w fun e w'=>∃v',e= .returned (.tuple #[v', .int .i64 (Cy xs), .bool true])∧AJ w.heap.size 135 3 Ag w' v' (NU xs g)∧Below w.heap.size w w':=by
 have C1:=AA (fun W (hW:Below w.heap.size w W)=>Cl v xs W (A3.below h hW) hs);have C2:=AA (fun W=>Cn g W hg);have C3:=AA (fun W (hW:Below w.heap.size w W)=>J8 v xs W (A3.below h hW));have hl:xs.length=12:=(At.1 hok).1;have C4:=AA (fun W (hW:Below w.heap.size w W)=>Ew v xs W (A3.below h hW) (by omega));have Ok:=AA hok;have Hr:=AA hr;have hfl:(Cy xs).toNat<xs.length:=(Iy (by omega)).1;have Hl:=AA hl;clear hok hr h hs hg hl;go_in;go_wp2_with fail;refine(C1.out _ (Below.refl _ _)).mono ?_;rintro e w1 ⟨rfl,hb1⟩;rw[Ok.out];go_wp2_with fail;refine(C2.out _).mono ?_;rintro e w2 ⟨rfl,hb2⟩;rw[Hr.out];replace hb2:=hb1.trans (hb2.mono hb1.size);clear hb1;go_wp2_with fail;refine(C3.out _ hb2).mono ?_;rintro e w3 ⟨rfl,hb3⟩;replace hb3:=hb2.trans (hb3.mono hb2.size);clear hb2;go_wp2_with fail;refine(C4.out _ hb3).mono ?_;rintro e w4 ⟨v',rfl,hO,hb4⟩;obtain⟨q,cap,rfl,c1,c2,q1,q2,hfz⟩:=hO.shapeOwn (by omega);unfold maxLen at c2;have hS:=AA (AJ.stored As hO hfl ⟨1,g,0⟩);obtain⟨d0,d1,d2⟩:=AJ.infoCells hO hfl;have hB:=AA (AT (hb3.trans (hb4.mono hb3.size)) hS.out.2 (Nat.le_trans hb3.size q1) (hb3.trans (hb4.mono hb3.size)).size);have hlo:=hb3.size;clear hO hb4 hb3;have hfi:Cy xs<xs.length:=by omega
 go_wp2_with fail;go_ret3;exact⟨_,rfl,hS.out.1.lower hlo,hB.out⟩
theorem PC (a b:Int):(a==b)=decide (a=b):=by cases h:(a==b)<;>simp_all
theorem I5 (x:Aa) (w:World):Calls prog 173 #[x.val] w fun e w'=>e= .returned (.bool (CZ x))∧Below w.heap.size w w':=by
 obtain⟨e,p,f,b⟩:=x;simp only[Aa.val];have C1:=AA (fun W=>LZ e W);have C2:=AA (fun W=>Rf p W);have C3:=AA (fun W=>BT f W);cases h1:Bk e 0 2
 ·have S:=AA (show CZ ⟨e,p,f,b⟩=false by simp[CZ,h1])
  have H1:=AA h1;clear h1;go_in;go_wp2_with (refine(C1.out _).mono ?_;rintro e w' ⟨rfl,rfl⟩;rw[H1.out]);go_ret;exact⟨AK S.out.symm,AG _ _⟩
 ·cases h2:Bk p 0 15
  ·have S:=AA (show CZ ⟨e,p,f,b⟩=false by simp[CZ,h2])
   have H1:=AA h1;clear h1;have H2:=AA h2;clear h2;go_in;go_wp2_with (first|(go_at_call 233;refine(C1.out _).mono ?_;rintro e w' ⟨rfl,rfl⟩;rw[H1.out])|(go_at_call 158;refine(C2.out _).mono ?_;rintro e w' ⟨rfl,rfl⟩;rw[H2.out]));go_ret;exact⟨AK S.out.symm,AG _ _⟩
  ·have S:=AA (show CZ ⟨e,p,f,b⟩=Bk f 0 11 by simp[CZ,h1,h2])
   have H1:=AA h1;clear h1;have H2:=AA h2;clear h2;go_in;go_wp2_with (first|(go_at_call 233;refine(C1.out _).mono ?_;rintro e w' ⟨rfl,rfl⟩;rw[H1.out])|(go_at_call 158;refine(C2.out _).mono ?_;rintro e w' ⟨rfl,rfl⟩;rw[H2.out])|(go_at_call 94;refine(C3.out _).mono ?_;rintro e w' ⟨rfl,rfl⟩));go_ret;exact⟨AK S.out.symm,AG _ _⟩
theorem P8 (x:Aa) (e p:Int) (be bp:Nat) (w:World) (h1:w.cell? ⟨be,0,none⟩=some (.int .i64 e)) (h2:w.cell? ⟨bp,0,none⟩=some (.int .i64 p)):Calls prog 235 #[x.val, .pointer (some ⟨be,0,none⟩), .pointer (some ⟨bp,0,none⟩)] w fun r w'=>r= .returned (.bool (A5 e p x))∧Below w.heap.size w w':=by
 obtain⟨xe,xp,xf,xb⟩:=x;simp only[Aa.val];have b1:=World.block_lt_of_cell? w _ h1;have b2:=World.block_lt_of_cell? w _ h2;have n1:¬be=w.heap.size:=by have:be<w.heap.size:=b1;omega
 have n2:¬bp=w.heap.size:=by have:bp<w.heap.size:=b2;omega
 by_cases he:xe=e
 ·have S:=AA (show A5 e p ⟨xe,xp,xf,xb⟩=(xp==p) by simp[A5,he,PC])
  have t:(xe==e)=true:=by simp[he]
  clear he;go_in;go_wp2_with fail;go_ret;exact⟨AK S.out.symm,AG _ _⟩
 ·have S:=AA (show A5 e p ⟨xe,xp,xf,xb⟩=false by simp[A5,he])
  have t:(xe==e)=false:=by simp[he]
  clear he;go_in;go_wp2_with fail;go_ret;exact⟨AK S.out.symm,AG _ _⟩
theorem KR (v:Value) (xs:List Aa) (e p:Int) (w:World) (h:Bn w v xs):Calls prog 174 #[v, .int .i64 e, .int .i64 p] w fun r w'=>r= .returned (.int .i64 (FX xs e p))∧Below w.heap.size w w':=by
 have b2:=F3 w (.cells #[.int .i64 e] 3) (.cells #[.int .i64 p] 3);have ce0:(w.alloc (.cells #[.int .i64 e] 3)).cell? ⟨w.heap.size,0,none⟩=some (.int .i64 e):=cell_of_row _ _ 0 _ _ _ (heap_alloc_new _ _);have ce:((w.alloc (.cells #[.int .i64 e] 3)).alloc (.cells #[.int .i64 p] 3)).cell? ⟨w.heap.size,0,none⟩=some (.int .i64 e):=((AG _ _).cell (World.block_lt_of_cell? _ _ ce0)).trans ce0;have cp:((w.alloc (.cells #[.int .i64 e] 3)).alloc (.cells #[.int .i64 p] 3)).cell? ⟨w.heap.size+1,0,none⟩=some (.int .i64 p):=by
  have:=cell_of_row _ _ 0 _ _ _ (heap_alloc_new (w.alloc (.cells #[.int .i64 e] 3)) (.cells #[.int .i64 p] 3))
  rwa [World.size_alloc] at this
 have C:=AA (Gs 235 #[.pointer (some ⟨w.heap.size,0,none⟩), .pointer (some ⟨w.heap.size+1,0,none⟩)] (A5 e p) v xs _ (A3.below h b2) (fun _ _=>by kernel_rfl)
  (fun x _ W hW=>P8 x e p _ _ W ((hW.cell (World.block_lt_of_cell? _ _ ce)).trans ce) ((hW.cell (World.block_lt_of_cell? _ _ cp)).trans cp)))
 obtain⟨a,c,rfl,hc,hcm⟩:=h.shape;clear h ce0 ce cp;go_in;go_wp2_with (refine(C.out).mono ?_;rintro e w' ⟨rfl,hb2⟩);go_ret;exact⟨rfl,b2.trans (hb2.mono b2.size)⟩
theorem Bn.take {w:World} {a:Option Addr} {c k:Nat} {xs:List Aa} (h:Bn w (.slice a xs.length c) xs) (hk:k≤xs.length):Bn w (.slice a k c) (xs.take k):=by
 obtain⟨a',c',hv,hnc,hcm,hl,hnil,hc⟩:=h;cases hv;have hl':(Bj AP (xs.take k)).length=k*4:=by rw[Gc Bi,List.length_take];congr 1;omega
 have hk4:k*4≤xs.length*4:=Nat.mul_le_mul_right _ hk;unfold Bn A3;rw[show(xs.take k).length=k by rw[List.length_take];omega];refine⟨a,c,rfl,by omega,hcm,hl',hnil,fun hn=>?_⟩;obtain⟨b,off,rfl,hcell⟩:=hc (by omega);refine⟨b,off,rfl,fun j hj=>?_⟩;rw[hcell j (by omega)];have e:Bj AP xs=Bj AP (xs.take k)++Bj AP (xs.drop k):=by rw[←BS,List.take_append_drop]
 rw[e,List.getElem?_append_left (by omega)]
theorem TJ {xs:List Aa} {e p:Int}:decide (0≤FX xs e p)=xs.any (A5 e p):=G5
theorem Lk {xs:List Aa} {k:Nat} (h:k<xs.length) (hc:EI xs k=false):Bc xs=false:=by have:(List.range xs.length).all (EI xs)=false:=List.all_eq_false.2 ⟨k,List.mem_range.2 h,by simp[hc]⟩;simp[Bc,this]
theorem PD {xs:List Aa} (h:∀k,k<xs.length→EI xs k=true) (hl:xs.length≤4):Bc xs=true:=by
 have:(List.range xs.length).all (EI xs)=true:=List.all_eq_true.2 fun k hk=>h k (List.mem_range.1 hk)
 simp[Bc,this,hl]
theorem Gk (v:Value) (xs:List Aa) (w:World) (h:Bn w v xs):Calls prog 107 #[v] w fun e w'=>e= .returned (.bool (Bc xs))∧Below w.heap.size w w':=by
 have H:=AA h;obtain⟨a,c,rfl,hc,hcm,H0⟩:=A3.open Bi (by decide) h;clear h;unfold maxLen at hcm
 by_cases h4:xs.length≤4
 ·have hb:¬(4:Int)<xs.length:=by omega
  go_in;go_wp2_with fail;go_loopw [10] (fun i wr=>∃k:Nat,k≤xs.length∧i= .int .i64 k∧(∀j,j<k→EI xs j=true)∧Below w.heap.size w wr) (fun i _=>xs.length - (intOf i).toNat)
  case atStart=>exact⟨0,Nat.zero_le _,rfl,fun j hj=>absurd hj (Nat.not_lt_zero _),Below.refl _ _⟩
  case round=>
   obtain⟨k,hk,rfl,hpre,hbel⟩:=hrel;have Hpre:=AA hpre;clear hpre
   by_cases hlt:k<xs.length
   ·obtain⟨b,off,rfl,hbl,D0,D1,D2,D3⟩:=H0.cachedCells hlt
    replace D0:=(hbel.cell (p:=⟨b,off+k*4,none⟩) hbl).trans D0;replace D1:=(hbel.cell (p:=⟨b,off+k*4+1,none⟩) hbl).trans D1;replace D2:=(hbel.cell (p:=⟨b,off+k*4+2,none⟩) hbl).trans D2;replace D3:=(hbel.cell (p:=⟨b,off+k*4+3,none⟩) hbl).trans D3;clear H0;have N:=heap_alloc_new wr (.cells #[.int .i64 (Ac xs k).e, .int .i64 (Ac xs k).p, .int .i64 (Ac xs k).f, .bool (Ac xs k).w] 140);have hba:=hbel.trans ((AG wr (.cells #[.int .i64 (Ac xs k).e, .int .i64 (Ac xs k).p, .int .i64 (Ac xs k).f, .bool (Ac xs k).w] 140)).mono hbel.size);have hk1:(k:Int)≤xs.length:=by omega
    have hk2:(k:Int)≤c:=by omega
    go_wp2_with fail;generalize wr.alloc _=wa at N hba;clear D0 D1 D2 D3 hbel;obtain⟨n0,n1,n2,n3⟩:=AB N;have k0:=cell_regrown n0;have k1:=cell_regrown n1;have k2:=cell_regrown n2;have k3:=cell_regrown n3;clear n0 n1 n2 n3;have HB:=AA hba;have cF:=MB (w1:=wa) (fun W hW=>KR _ (xs.take k) (Ac xs k).e (Ac xs k).p W (Bn.take (A3.below H.out (hba.trans (hW.mono hba.size))) hk));cases h1:CZ (Ac xs k)
    ·have S:=AA (Lk hlt (by simp[EI,h1]))
     have cC:=MB (w1:=wa) (fun W _=>by have:=I5 (Ac xs k) W;rw[h1] at this;exact this);clear h1 N hba;refine wp_region_quiet_below mixed (by kernel_rfl) ?_
     repeat(go_big_quiet_step (first|exact cC _ _|exact cF _ _))
     refine wpQuiet_nil ?_;intro _ hw';obtain⟨⟨dq,osq⟩,hw''⟩:=hw';subst hw'';have bq:=below_regrown wa dq osq;generalize Sort.grow (redrawn wa dq) osq=wq at bq;go_wp2_with fail;go_ret;exact⟨AK S.out.symm,HB.out.trans (bq.mono HB.out.size)⟩
    ·have cC:=MB (w1:=wa) (fun W _=>by have:=I5 (Ac xs k) W;rw[h1] at this;exact this)
     have E:=TJ (xs:=xs.take k) (e:=(Ac xs k).e) (p:=(Ac xs k).p);cases h2:(xs.take k).any (A5 (Ac xs k).e (Ac xs k).p)
     ·have S:=AA (show EI xs k=true by simp only[EI,h1,h2];rfl)
      rw[h2] at E;clear h1 h2 N hba;refine wp_region_quiet_below mixed (by kernel_rfl) ?_
      repeat(go_big_quiet_step (first|exact cC _ _|exact cF _ _))
      refine wpQuiet_nil ?_;intro _ hw';obtain⟨⟨dq,osq⟩,hw''⟩:=hw';subst hw'';have bq:=below_regrown wa dq osq;generalize Sort.grow (redrawn wa dq) osq=wq at bq;go_wp2_with fail;go_roundw
      case rel=>exact⟨k+1,by omega,by go_num,Ay Hpre.out S.out,HB.out.trans (bq.mono HB.out.size)⟩
      case measure=>simp[intOf];omega
     ·have S:=AA (Lk hlt (by simp only[EI,h1,h2];rfl))
      rw[h2] at E;clear h1 h2 N hba;refine wp_region_quiet_below mixed (by kernel_rfl) ?_
      repeat(go_big_quiet_step (first|exact cC _ _|exact cF _ _))
      refine wpQuiet_nil ?_;intro _ hw';obtain⟨⟨dq,osq⟩,hw''⟩:=hw';subst hw'';have bq:=below_regrown wa dq osq;generalize Sort.grow (redrawn wa dq) osq=wq at bq;go_wp2_with fail;go_ret;exact⟨AK S.out.symm,HB.out.trans (bq.mono HB.out.size)⟩
   ·have S:=AA (PD (xs:=xs) (fun j hj=>Hpre.out j (by omega)) h4)
    go_wp2_with fail;go_ret;exact⟨AK S.out.symm,hbel⟩
 ·have S:=AA (show Bc xs=false by simp[Bc,h4])
  have hb:(4:Int)<xs.length:=by omega
  go_in;go_wp2_with fail;go_ret;exact⟨AK S.out.symm,Below.refl _ _⟩
theorem UU {xs:List Aa} {e:Int}:(xs.filter fun x=>!decide (x.e=e))=Co xs e:=by
 unfold Co
 congr 1
 funext x
 simp
theorem MR (x:Aa) (e:Int) (be:Nat) (w:World) (h1:w.cell? ⟨be,0,none⟩=some (.int .i64 e)):Calls prog 322 #[x.val, .pointer (some ⟨be,0,none⟩)] w fun r w'=>r= .returned (.bool (decide (x.e=e)))∧Below w.heap.size w w':=by
 obtain⟨xe,xp,xf,xb⟩:=x;simp only[Aa.val];have b1:=World.block_lt_of_cell? w _ h1;have n1:¬be=w.heap.size:=by have:be<w.heap.size:=b1;omega
 have S:=AA (PC xe e);go_in;go_wp2_with fail;go_ret;exact⟨AK S.out,AG _ _⟩
theorem Ev (v:Value) (xs:List Aa) (e:Int) (w:World) (h:Bn w v xs) (hok:Bc xs=true):Calls prog 257 #[v, .int .i64 e] w fun r w'=>∃v',r= .returned v'∧AJ w.heap.size 140 4 AP w' v' (Co xs e)∧Below w.heap.size w w':=by
 have hl:=(Ef.1 hok).2.2;have b1:=AG w (.cells #[.int .i64 e] 3);have ce:(w.alloc (.cells #[.int .i64 e] 3)).cell? ⟨w.heap.size,0,none⟩=some (.int .i64 e):=cell_of_row _ _ 0 _ _ _ (heap_alloc_new _ _);have hlt:w.heap.size<(w.alloc (.cells #[.int .i64 e] 3)).heap.size:=by simp
 have C1:=AA (by have:=Gk v xs _ (A3.below h b1);rw[hok] at this;exact this);have C2:=AA (fun W (hW:Below w.heap.size w W)=>Gl v xs W (A3.below h hW) (by omega));obtain⟨a,c,rfl,hc,hcm⟩:=h.shape;clear h hok;go_in;go_wp2_with fail;refine(C1.out).mono ?_;rintro r w1 ⟨rfl,hb1⟩;replace ce:=(hb1.cell (World.block_lt_of_cell? _ _ ce)).trans ce;have hb2:=b1.trans (hb1.mono b1.size);replace hlt:w.heap.size<w1.heap.size:=Nat.lt_of_lt_of_le hlt hb1.size;clear hb1 b1;have CE:=AA ce;clear ce;go_wp2_with fail;refine(C2.out _ hb2).mono ?_;rintro r w2 ⟨v',rfl,hO,hb3⟩;have ce2:=(hb3.cell (p:=⟨w.heap.size,0,none⟩) hlt).trans CE.out;have C3:=AA (GZ 322 #[.pointer (some ⟨w.heap.size,0,none⟩)] (fun x=>decide (x.e=e)) v' xs w2 hO hb3.size (fun _ _=>by kernel_rfl)
  (fun x _ W hW=>MR x e _ W ((hW.cell (p:=⟨w.heap.size,0,none⟩) hlt).trans ce2)))
 have hb4:=hb2.trans (hb3.mono hb2.size);have hs1:=hb2.size;clear hO hb3 ce2;go_wp2_with fail;refine(C3.out).mono ?_;rintro r w3 ⟨v3,rfl,hO3,hb5⟩;go_wp2_with fail;go_ret;refine⟨_,rfl,?_,hb4.trans (hb5.mono hs1)⟩;rw[←UU];exact hO3.lower hs1
theorem Nd (y x:Aa) (b:Nat) (w:World) (h1:w.heap[b]? =some (.cells #[.int .i64 x.e, .int .i64 x.p, .int .i64 x.f, .bool x.w] 140 (0,0))):Calls prog 327 #[y.val, .pointer (some ⟨b,0,none⟩)] w fun r w'=>r= .returned (.bool (A5 x.e x.p y))∧Below w.heap.size w w':=by
 obtain⟨d0,d1,d2,d3⟩:=AB h1;have b1:=Ao h1;have n1:¬b=w.heap.size:=by omega
 obtain⟨ye,yp,yf,yb⟩:=y;simp only[Aa.val];clear h1
 by_cases he:ye=x.e
 ·have S:=AA (show A5 x.e x.p ⟨ye,yp,yf,yb⟩=(yp==x.p) by simp[A5,he,PC])
  have t:(ye==x.e)=true:=by simp[he]
  clear he;go_in;go_wp2_with fail;go_ret;exact⟨AK S.out.symm,AG _ _⟩
 ·have S:=AA (show A5 x.e x.p ⟨ye,yp,yf,yb⟩=false by simp[A5,he])
  have t:(ye==x.e)=false:=by simp[he]
  clear he;go_in;go_wp2_with fail;go_ret;exact⟨AK S.out.symm,AG _ _⟩
theorem Sn {xs:List Aa} {x:Aa} {ys:List Aa} (h:ys=if(xs.filter fun y=>!A5 x.e x.p y).length=4 then(xs.filter fun y=>!A5 x.e x.p y).drop 1 else xs.filter fun y=>!A5 x.e x.p y):ys++[x]=FM xs x:=by rw[h];rfl
theorem Kf (v:Value) (xs:List Aa) (x:Aa) (w:World) (h:Bn w v xs) (hok:Bc xs=true) (hx:CZ x=true):Calls prog 260 #[v,x.val] w fun r w'=>∃v',r= .returned (.tuple #[v', .bool true])∧AJ w.heap.size 140 4 AP w' v' (FM xs x)∧Below w.heap.size w w':=by
 have hl:=(Ef.1 hok).2.2;have b1:=AG w (.cells #[.int .i64 x.e, .int .i64 x.p, .int .i64 x.f, .bool x.w] 140);have N:=heap_alloc_new w (.cells #[.int .i64 x.e, .int .i64 x.p, .int .i64 x.f, .bool x.w] 140);have C1:=AA (by have:=Gk v xs _ (A3.below h b1);rw[hok] at this;exact this);have CX:=AA (fun W=>by have:=I5 x W;rw[hx] at this;exact this);have C2:=AA (fun W (hW:Below w.heap.size w W)=>Gl v xs W (A3.below h hW) (by omega));obtain⟨a,c,rfl,hc,hcm⟩:=h.shape;have hfl:(xs.filter fun y=>!A5 x.e x.p y).length≤4:=Nat.le_trans (List.length_filter_le _ _) hl;clear h hok hx;simp only[Aa.val] at CX ⊢;go_in;go_wp2_with fail;refine(C1.out).mono ?_;rintro r w1 ⟨rfl,hb1⟩;replace N:=AF N hb1;have hb2:=b1.trans (hb1.mono b1.size);clear hb1 b1;obtain⟨d0,d1,d2,d3⟩:=AB N;have HN:=AA N;clear N;go_wp2_with fail;refine(CX.out _).mono ?_;rintro r w2 ⟨rfl,hb3⟩;have HN2:=AA (AF HN.out hb3);replace hb2:=hb2.trans (hb3.mono hb2.size);clear hb3 d0 d1 d2 d3 HN;go_wp2_with fail;refine(C2.out _ hb2).mono ?_;rintro r w3 ⟨v',rfl,hO,hb4⟩;have N3:=AF HN2.out hb4;have hlt:w.heap.size<w2.heap.size:=Ao HN2.out;have C3:=AA (GZ 327 #[.pointer (some ⟨w.heap.size,0,none⟩)] (A5 x.e x.p) v' xs w3 hO hb4.size (fun _ _=>by kernel_rfl)
  (fun y _ W hW=>Nd y x _ W ((hW.block _ hlt).trans N3)))
 have hb5:=hb2.trans (hb4.mono hb2.size);have hs1:=hb2.size;have hs3:=hb4.size;have HN3:=AA N3;clear hO hb4 N3 HN2;go_wp2_with fail;refine(C3.out).mono ?_;rintro r w4 ⟨v4,rfl,hO4,hb6⟩;have N4:=(hb6.block _ hlt).trans HN3.out;have hb7:=hb5.trans (hb6.mono hs1);have hs4:w2.heap.size≤w4.heap.size:=Nat.le_trans hs3 hb6.size;obtain⟨a4,c4,rfl,hc4,hcm4⟩:=hO4.rd.shape;have HO4:=AA hO4;have HN4:=AA N4;clear hO4 hb6 hb5 N4 HN3
 by_cases hn:(xs.filter fun y=>!A5 x.e x.p y).length=4
 ·have t:(((xs.filter fun y=>!A5 x.e x.p y).length:Int)==4)=true:=by simp[hn]
  have E:=AA (Sn (xs:=xs) (x:=x) (ys:=(xs.filter fun y=>!A5 x.e x.p y).drop 1) (by rw[if_pos hn]));have CD:=AA (LH _ _ w4 HO4.out hs4 hn);have hl3:((xs.filter fun y=>!A5 x.e x.p y).drop 1).length≤3:=by rw[List.length_drop];omega
  generalize(xs.filter fun y=>!A5 x.e x.p y)=fs at*;clear hn HO4 hfl;go_wp2_with fail;refine(CD.out).mono ?_;rintro r w5 ⟨v5,rfl,hO5,hb8⟩;have N5:=(hb8.block _ hlt).trans HN4.out;obtain⟨d0,d1,d2,d3⟩:=AB N5;have hb9:=hb7.trans (hb8.mono hs1);have hs5:w2.heap.size≤w5.heap.size:=Nat.le_trans hs4 hb8.size;have HO5:=AA hO5;clear hO5 hb8 hb7 N5 HN4;generalize hgs:fs.drop 1=gs at*;clear hgs;go_wp2_with (at_builtin;go_must (refine DO (lo:=w2.heap.size) (v:=v5) (n:=gs.length) (xs:=Bj AP gs) (m:=1) (news:=[.int .i64 x.e, .int .i64 x.p, .int .i64 x.f, .bool x.w]) rfl rfl 140 (.agg #[.int .i64 0, .int .i64 0, .int .i64 0, .bool false]) 4 32 underlying27 Tryz.infoCachedK rfl (by decide) rfl (Bw HO5.out (AG _ _)) rfl (Rd.newsAt _ #[.int .i64 x.e, .int .i64 x.p, .int .i64 x.f, .bool x.w] _ 4 1 _ rfl (by simp) (by simp[maxLen])) (by simp[Value.oneCell']) (by unfold maxLen;omega) (by omega) (by simp;omega) ?_;intro v6 w6 k1 k2 k3));have R:AJ w2.heap.size 140 4 AP w6 v6 (gs++[x]):=by unfold AJ;rw[BS,EO,List.length_append];exact k1
  rw[E.out] at R;have RR:=AA R;clear k1 R;go_wp2_with fail;go_ret2;exact⟨_,rfl,RR.out.lower hs1,(hb9.trans ((AG _ _).mono hb9.size)).trans (k3.mono hs1)⟩
 ·have t:(((xs.filter fun y=>!A5 x.e x.p y).length:Int)==4)=false:=by rw[beq_eq_false_iff_ne];omega
  have E:=AA (Sn (xs:=xs) (x:=x) (ys:=xs.filter fun y=>!A5 x.e x.p y) (by rw[if_neg hn]));have hl3:(xs.filter fun y=>!A5 x.e x.p y).length≤3:=by omega
  generalize(xs.filter fun y=>!A5 x.e x.p y)=gs at*;clear hn hfl;obtain⟨d0,d1,d2,d3⟩:=AB HN4.out;go_wp2_with (at_builtin;go_must (refine DO (lo:=w2.heap.size) (v:= .slice a4 gs.length c4) (n:=gs.length) (xs:=Bj AP gs) (m:=1) (news:=[.int .i64 x.e, .int .i64 x.p, .int .i64 x.f, .bool x.w]) rfl rfl 140 (.agg #[.int .i64 0, .int .i64 0, .int .i64 0, .bool false]) 4 32 underlying27 Tryz.infoCachedK rfl (by decide) rfl (Bw HO4.out (AG _ _)) rfl (Rd.newsAt _ #[.int .i64 x.e, .int .i64 x.p, .int .i64 x.f, .bool x.w] _ 4 1 _ rfl (by simp) (by simp[maxLen])) (by simp[Value.oneCell']) (by unfold maxLen;omega) (by omega) (by simp;omega) ?_;intro v6 w6 k1 k2 k3));have R:AJ w2.heap.size 140 4 AP w6 v6 (gs++[x]):=by unfold AJ;rw[BS,EO,List.length_append];exact k1
  rw[E.out] at R;have RR:=AA R;clear k1 R;go_wp2_with fail;go_ret2;exact⟨_,rfl,RR.out.lower hs1,(hb7.trans ((AG _ _).mono hb7.size)).trans (k3.mono hs1)⟩
theorem Eb (v:Value) (ss:List ByteArray) (w:World) (h:BC w v ss) (hs:EB ss):Calls prog 92 #[v] w fun e w'=>e= .returned (.bool (A2 ss))∧Below w.heap.size w w':=by
 obtain⟨a,c,rfl,hc,hcm,H0⟩:=A3.open EJ (by decide) h;unfold maxLen at hcm;have Hs:=AA hs;clear hs h;go_in;go_wp2_with fail;go_loopw [7] (fun i wr=>∃k:Nat,k≤ss.length∧i= .int .i64 k∧(∀j,j<k→Bx ss j=true)∧Below w.heap.size w wr) (fun i _=>ss.length - (intOf i).toNat)
 case atStart=>exact⟨0,Nat.zero_le _,rfl,fun j hj=>absurd hj (Nat.not_lt_zero _),Below.refl _ _⟩
 case round=>
  obtain⟨k,hk,rfl,hpre,hbel⟩:=hrel;have Hpre:=AA hpre;clear hpre
  by_cases hlt:k<ss.length
  ·obtain⟨b,off,rfl,D0⟩:=H0.str hlt
   have hbl:=World.block_lt_of_cell? w _ D0;have D:=(hbel.cell (p:=⟨b,off+k,none⟩) hbl).trans D0;have C:=AA (fun W=>Cn (Bp ss k) W (Hs.out.nth hlt));cases hok:A4 (Bp ss k)
   ·have S:=AA (G1 hlt (by simp[Bx,hok]))
    have Hok:=AA hok;clear hok D0;go_wp2_with fail;refine(C.out _).mono ?_;rintro e w2 ⟨rfl,hb⟩;rw[Hok.out];go_wp2_with fail;go_ret;exact⟨AK S.out.symm,hbel.trans (hb.mono hbel.size)⟩
   ·by_cases hk0:k=0
    ·have Ok:=AA (show Bx ss k=true by simp[Bx,hok];exact .inl hk0)
     have Hok:=AA hok;have t0:¬(0:Int)<k:=by omega
     clear hok D0 hk0;go_wp2_with fail;refine(C.out _).mono ?_;rintro e w2 ⟨rfl,hb⟩;rw[Hok.out];go_wp2_with fail;go_roundw
     case rel=>exact⟨k+1,by omega,by go_num,Ay Hpre.out Ok.out,hbel.trans (hb.mono hbel.size)⟩
     case measure=>simp[intOf];omega
    ·obtain⟨b',off',hbb,E0⟩:=H0.str (show k - 1<ss.length by omega)
     obtain⟨rfl,rfl⟩:b=b'∧off=off':=by simpa using hbb
     have E:=(hbel.cell (p:=⟨b,off+(k - 1),none⟩) hbl).trans E0;have t0:(0:Int)<k:=by omega
     have s1:((k:Int) - 1).toNat=k - 1:=by omega
     have s3:(1:Int)≤k:=by omega
     have Hok:=AA hok;clear D0 E0 hbb;cases hge:Kd (Bp ss (k - 1)) (Bp ss k)
     ·have Ok:=AA (show Bx ss k=true by simp[Bx,hok,hge])
      have hL:Op.bytesLess (Bp ss (k - 1)).toList (Bp ss k).toList=true:=by simpa[Kd] using hge
      have EE:=AA E;clear hok hge;go_wp2_with fail;refine(C.out _).mono ?_;rintro e w2 ⟨rfl,hb⟩;rw[Hok.out];have E2:=(hb.cell (World.block_lt_of_cell? _ _ EE.out)).trans EE.out;clear E;go_wp2_with fail;go_roundw
      case rel=>exact⟨k+1,by omega,by go_num,Ay Hpre.out Ok.out,hbel.trans (hb.mono hbel.size)⟩
      case measure=>simp[intOf];omega
     ·have S:=AA (G1 hlt (by simp[Bx,hok,hge,hk0]))
      have hL:Op.bytesLess (Bp ss (k - 1)).toList (Bp ss k).toList=false:=by simpa[Kd] using hge
      have EE:=AA E;clear hok hge;go_wp2_with fail;refine(C.out _).mono ?_;rintro e w2 ⟨rfl,hb⟩;rw[Hok.out];have E2:=(hb.cell (World.block_lt_of_cell? _ _ EE.out)).trans EE.out;clear E;go_wp2_with fail;go_ret;exact⟨AK S.out.symm,hbel.trans (hb.mono hbel.size)⟩
  ·have S:=AA (KG (ss:=ss) (fun j hj=>Hpre.out j (by omega)))
   go_wp2_with fail;go_ret;exact⟨AK S.out.symm,hbel⟩
theorem MC (s g:ByteArray) (b:Nat) (w:World) (h:w.cell? ⟨b,0,none⟩=some (.string g)):Calls prog 326 #[.string s, .pointer (some ⟨b,0,none⟩)] w fun e w'=>e= .returned (.bool (LR g s))∧Below w.heap.size w w':=by go_in;go_wp2_with (refine(J7 _ _ _).mono ?_;rintro e w' ⟨rfl,rfl⟩);go_ret;exact⟨rfl,Below.refl _ _⟩
theorem Mc (v:Value) (ss:List ByteArray) (g:ByteArray) (w:World) (h:BC w v ss) (hs:EB ss) (hg:g.size≤maxLen) (hok:A2 ss=true) (hr:A4 g=true):Calls prog 259 #[v, .string g] w fun r w'=>∃v',r= .returned v'∧AJ w.heap.size 9 1 An w' v' (BA ss g)∧Below w.heap.size w w':=by
 have hl:=(ER.1 hok).2.2;have b1:=AG w (.cells #[.string g] 9);have ce:(w.alloc (.cells #[.string g] 9)).cell? ⟨w.heap.size,0,none⟩=some (.string g):=cell_of_row _ _ 0 _ _ _ (heap_alloc_new _ _);have hlt:w.heap.size<(w.alloc (.cells #[.string g] 9)).heap.size:=by simp
 have C1:=AA (by have:=Eb v ss _ (A3.below h b1) hs;rw[hok] at this;exact this);have CX:=AA (fun W=>by have:=Cn g W hg;rw[hr] at this;exact this);have C2:=AA (fun W (hW:Below w.heap.size w W)=>Ep v ss W (A3.below h hW) (by omega));obtain⟨a,c,rfl,hc,hcm⟩:=h.shape;clear h hok hs hg hr;go_in;go_wp2_with fail;refine(C1.out).mono ?_;rintro r w1 ⟨rfl,hb1⟩;replace ce:=(hb1.cell (World.block_lt_of_cell? _ _ ce)).trans ce;have hb2:=b1.trans (hb1.mono b1.size);replace hlt:w.heap.size<w1.heap.size:=Nat.lt_of_lt_of_le hlt hb1.size;clear hb1 b1;have CE:=AA ce;go_wp2_with fail;refine(CX.out _).mono ?_;rintro r w2 ⟨rfl,hb3⟩;have CE2:=AA ((hb3.cell (p:=⟨w.heap.size,0,none⟩) hlt).trans CE.out);replace hlt:w.heap.size<w2.heap.size:=Nat.lt_of_lt_of_le hlt hb3.size;replace hb2:=hb2.trans (hb3.mono hb2.size);clear hb3 ce CE;go_wp2_with fail;refine(C2.out _ hb2).mono ?_;rintro r w3 ⟨v',rfl,hO,hb4⟩;have ce3:=(hb4.cell (p:=⟨w.heap.size,0,none⟩) hlt).trans CE2.out;have C3:=AA (JQ 326 #[.pointer (some ⟨w.heap.size,0,none⟩)] (fun s=>LR g s) v' ss w3 hO hb4.size (fun _ _=>by kernel_rfl)
  (fun x _ W hW=>MC x g _ W ((hW.cell (p:=⟨w.heap.size,0,none⟩) hlt).trans ce3)))
 have hb5:=hb2.trans (hb4.mono hb2.size);have hs1:=hb2.size;clear hO hb4 ce3;go_wp2_with fail;refine(C3.out).mono ?_;rintro r w4 ⟨v4,rfl,hO4,hb6⟩;go_wp2_with fail;go_ret;exact⟨_,rfl,hO4.lower hs1,hb5.trans (hb6.mono hs1)⟩
end Go.Proofs.YtnieoiclifjoaaaGreatDoor
set_option linter.unusedVariables false
namespace Go.Proofs.YtnieoiclifjoaaaGreatDoor
open Go.Proofs.Tryz
open Go.RowKit Go.Shelf
theorem Jv {lo e n g cap:Nat} {w:World} {cs:List Value} (h:w.ownsRow lo e 1 (.slice (some ⟨g,0,none⟩) n cap) n cs):∀(j:Nat) v,cs[j]? =some v→w.cell? ⟨g,0+j,none⟩=some v:=by intro j v hj;have hl:=h.1;have:=(List.getElem?_eq_some_iff.1 hj).1;rw[Nat.zero_add,World.ownsRow.cellAt h j (by omega),hj]
theorem Tl {lo e n g cap:Nat} {w:World} {cs:List Value} (h:w.ownsRow lo e 1 (.slice (some ⟨g,0,none⟩) n cap) n cs):∃cur,w.heap[g]? =some (.cells cur e (0,0))∧n≤cap∧cap≤maxLen∧cur.size=cap:=by
 rcases h.2 with⟨h0,_⟩|⟨g',cap',cur,hv,hb,hg,hnc,hcm,hcs,htake⟩
 ·cases h0
 ·cases hv
  exact⟨cur,hg,hnc,hcm,by omega⟩
theorem IS (A B us:List Value) (h:us.length≤B.length):ES (A++B) A.length 0 us=A++us++B.drop us.length:=by
 have e:A++B=A++B.take us.length++B.drop us.length:=by rw[List.append_assoc,List.take_append_drop]
 rw[e,Jk A (B.take us.length) (B.drop us.length) us 0 (by rw[List.length_take];omega) A.length (by omega)]
theorem Oa (ss:List ByteArray):∀u∈ss.map Value.string,u.oneCell'=true:=by intro u hu;obtain⟨s,_,rfl⟩:=List.mem_map.1 hu;rfl
theorem Dx (ss:List ByteArray):Bj An ss=ss.map Value.string:=by
 induction ss with
 |nil=>rfl
 |cons s ss ih=>rw[G6,ih];rfl
def Bb (ss:List ByteArray) (k:Nat) (x:ByteArray):List ByteArray:=ss.take k++x::ss.drop k
theorem Gz {ss:List ByteArray} {k:Nat} {x:ByteArray} (hk:k≤ss.length):(Bb ss k x).length=ss.length+1:=by simp[Bb];omega
theorem TW {zs cs:List Value} {k n:Nat} {x:Value} (hz:zs.length=n+1) (hc:cs.length=n) (hk:k≤n) (ht:zs.take k=cs.take k):ES (ES zs k 0 [x]) (k+1) 0 (cs.drop k)=cs.take k++x::cs.drop k:=by
 have hA:(cs.take k).length=k:=by rw[List.length_take];omega
 have e:zs=cs.take k++zs.drop k:=by rw[←ht,List.take_append_drop]
 have h1:ES zs k 0 [x]=cs.take k++[x]++(zs.drop k).drop 1:=by have:=IS (cs.take k) (zs.drop k) [x] (by simp;omega);rw[←e,hA] at this;exact this
 rw[h1];have:=IS (cs.take k++[x]) ((zs.drop k).drop 1) (cs.drop k) (by simp;omega);rw[List.length_append,hA] at this;rw[show[x].length=1 from rfl] at this;rw[this];have h2:((zs.drop k).drop 1).drop (cs.drop k).length=[]:=List.eq_nil_of_length_eq_zero (by simp;omega);rw[h2];simp
theorem TX {zs cs:List Value} {k n:Nat} {x:Value} (hz:zs.length=n+1) (hc:cs.length=n) (hk:k≤n) (ht:zs.take k=cs.take k):ES (ES zs (k+1) 0 (cs.drop k)) k 0 [x]=cs.take k++x::cs.drop k:=by
 have hA:(cs.take k).length=k:=by rw[List.length_take];omega
 have hB:(zs.take (k+1)).length=k+1:=by rw[List.length_take];omega
 have h1:ES zs (k+1) 0 (cs.drop k)=zs.take (k+1)++cs.drop k:=by have:=IS (zs.take (k+1)) (zs.drop (k+1)) (cs.drop k) (by simp;omega);rw[List.take_append_drop,hB] at this;rw[this];have h2:(zs.drop (k+1)).drop (cs.drop k).length=[]:=List.eq_nil_of_length_eq_zero (by simp;omega);rw[h2,List.append_nil]
 rw[h1];obtain⟨b,hb⟩:∃b,zs.take (k+1)=cs.take k++[b]:=⟨zs[k],by rw[←ht];exact List.take_succ_eq_append_getElem (by omega)⟩
 rw[hb];have:=Jk (cs.take k) [b] (cs.drop k) [x] 0 rfl k (by omega);rw[this];simp
theorem PZ {lo e n C:Nat} {w:World} {arr:Array Value} (hs:arr.size=C) (hn:n≤C) (hm:C≤maxLen) (hlo:lo≤w.heap.size):(w.alloc (.cells arr e)).ownsRow lo e 1 (.slice (some ⟨w.heap.size,0,none⟩) n C) n (arr.toList.take n):=
 ⟨by rw[List.length_take,Array.length_toList];omega, .inr ⟨w.heap.size,C,arr,rfl,hlo,heap_alloc_new _ _,hn,hm,by omega,by rw[Nat.mul_one]⟩⟩
theorem VZ (w:World) (g o:Nat) (us:List Value):w.setCells g o us=Fm w g o 0 us:=by rw[←Fj,Nat.add_zero]
theorem LJ {lo vb k:Nat} (v:Value) (ss:List ByteArray) (x:ByteArray) (w:World) (h:AJ lo 9 1 An w v ss) (hlo:lo≤w.heap.size) (hk:k≤ss.length) (hl:ss.length≤1000)
 (hN:w.heap[vb]? =some (.cells #[.string x] 9 (0,0))) (hne:∀g,v.ownBlock=some g→vb≠g):
 Calls prog 324 #[v, .int .i64 k, .slice (some ⟨vb,0,none⟩) 1 1] w fun e w'=>∃v',e= .returned v'∧AJ lo 9 1 An w' v' (Bb ss k x)∧Below lo w w':=by
 have hvs:∀(j:Nat) v,[Value.string x][j]? =some v→w.cell? ⟨vb,0+j,none⟩=some v:=by
  intro j v hj
  match j,hj with
  |0,hj=>simp at hj;subst hj;exact cell_of_row w vb 0 _ _ _ hN
 have h1v:∀v∈[Value.string x],v.oneCell'=true:=by simp[Value.oneCell']
 obtain⟨a,c,hv,hc,hcm⟩:=h.rd.shape
 by_cases hroom:ss.length+1≤c
 ·
  have hx:∃g,v= .slice (some ⟨g,0,none⟩) ss.length c∧lo≤g:=by
   rcases h.2 with⟨h0,_⟩|⟨g,cap,cur,h0,hb,_⟩
   ·rw[hv] at h0;simp only[Value.slice.injEq] at h0;omega
   ·rw[hv] at h0;cases h0;exact⟨g,hv,hb⟩
  obtain⟨g,rfl,hg⟩:=hx;have hO:w.ownsRow lo 9 1 (.slice (some ⟨g,0,none⟩) ss.length c) ss.length (ss.map Value.string):=by have:=h;unfold AJ at this;rwa [Dx] at this
  obtain⟨ys,hys,hO2⟩:=ND hO (show ss.length≤ss.length+1 by omega) hroom;have hyl:=hO2.1;rw[Nat.mul_one] at hys hyl;obtain⟨cur,hcur,_,_,hcs⟩:=Tl hO;have hvb:vb≠g:=hne g rfl;have hsp:∀j,j<ss.length+1→(w.cell? ⟨g,0+j,none⟩).isSome=true:=by intro j hj;rw[Jv hO2 j _ (List.getElem?_eq_getElem (show j<ys.length by omega))];rfl
  have hfz:∀j,w.frozen? ⟨g,0+j,none⟩=false:=fun j=>World.ownsRow.frozenAt hO _
  by_cases hkn:k=ss.length
  ·subst hkn
   refine(Any2.slices_Insert_string_end_room Tryz.lays2n22 g 0 ss.length c vb 0 1 1 [.string x] w (by decide) hroom (by unfold maxLen at hcm;omega) rfl (fun j hj=>by have:=hsp (ss.length+j) (by omega);simpa[Nat.add_assoc] using this) (fun j _=>by have:=hfz (ss.length+j);simpa[Nat.add_assoc] using this) hvs h1v).mono ?_;rintro e w' ⟨rfl,rfl⟩;obtain⟨r1,r2⟩:=Du hO2 ss.length 0 [.string x];rw[show w.setCells g (0+ss.length) [.string x]=Fm w g ss.length 0 [.string x] by rw[Nat.zero_add,←Fj,Nat.add_zero]];refine⟨_,rfl,?_,AT (Below.refl _ _) r2 hg hlo⟩;have e1:ES ys ss.length 0 [.string x]=(Bb ss ss.length x).map Value.string:=by
    have e2:ys=ss.map Value.string++ys.drop ss.length:=by rw[←hys,List.take_append_drop]
    have:=IS (ss.map Value.string) (ys.drop ss.length) [.string x] (by simp;omega);rw[←e2,List.length_map] at this;rw[this];have:(ys.drop ss.length).drop 1=[]:=List.eq_nil_of_length_eq_zero (by simp;omega);simp[Bb,this]
   unfold AJ;rw[Gz (Nat.le_refl _),Dx,←e1];exact r1
  ·have hkl:k<ss.length:=by omega
   refine(Any2.slices_Insert_string_shift Tryz.lays2n22 g 0 ss.length c k vb 0 1 1 (ss.map Value.string) [.string x] w hkl (by decide) hroom (by unfold maxLen at hcm;omega) hvb (by simp) rfl (Jv hO) hsp (fun j _=>hfz j) hvs (Oa ss) h1v
    9 9 1 c (by simp[World.shape?,hN]) (by simp[World.shape?,hcur,hcs]) (by omega) (AM hN 0) (AM hN 1)).mono ?_
   rintro e w' ⟨rfl,rfl⟩;have hbd:Below w.heap.size w w.drew:=Ar (Below.refl _ _) 1;have hO3:=Bw hO2 hbd;obtain⟨r1,r2⟩:=Du hO3 (k+1) 0 ((ss.map Value.string).drop k);obtain⟨r3,r4⟩:=Du r1 k 0 [.string x];rw[VZ,VZ,Nat.zero_add,Nat.zero_add];refine⟨_,rfl,?_,AT (AT (hbd.mono hlo) r2 hg (Nat.le_trans hlo hbd.size)) r4 hg (Nat.le_trans (Nat.le_trans hlo hbd.size) r2.size)⟩;rw[TX (n:=ss.length) hyl (by simp) hk (by rw[←hys,List.take_take,Nat.min_eq_left hk])] at r3;unfold AJ;rw[Gz hk,Dx];simpa[Bb,List.map_take,List.map_drop] using r3
 ·have hcl:∀a',a=some a'→∀(j:Nat) v,(ss.map Value.string)[j]? =some v→w.cell? (a'.add j)=some v:=by
   rintro a' rfl j v hj
   rcases h.2 with⟨h0,_⟩|⟨g,cap,cur,h0,hb,_⟩
   ·rw[hv] at h0;cases h0
   ·rw[hv] at h0
    cases h0;have hO:=h;unfold AJ at hO;rw[hv,Dx] at hO;have:=Jv hO j v hj;rw[Nat.zero_add] at this;rw[←this];unfold Addr.add
    split<;>simp_all
  have hC1:=grownCap_ge w (ss.length+1) c 9;have hC2:=grownCap_le_maxLen w (ss.length+1) c 9 (by unfold maxLen;omega);rw[hv]
  by_cases hkn:k=ss.length
  ·subst hkn
   refine(Any2.slices_Insert_string_end_grow Tryz.lays2n22 a ss.length c vb 0 1 1 (ss.map Value.string) [.string x] w (by decide) hc (by omega) (by omega) (by simp) rfl (by rintro rfl;obtain⟨a',c',hv',_,_,_,hnil,_⟩:=h.rd;rw[hv] at hv';cases hv';have:=hnil rfl;omega) hcl hvs h1v).mono ?_
   rintro e w' ⟨rfl,rfl⟩;refine⟨_,rfl,?_,((Ar (Below.refl _ _) 1:Below lo w (w.drewN 1))).alloc hlo _⟩;have:=PZ (lo:=lo) (e:=9) (n:=ss.length+1) (C:=grownCap w (ss.length+1) c 9) (w:=w.drew) (arr:=(ss.map Value.string++[Value.string x]).toArray++Builtin.zeroCells (Value.string ⟨#[]⟩).cells (grownCap w (ss.length+1) c 9 - (ss.length+1))) (by simp[Builtin.zeroCells,Value.cells];omega) hC1 hC2 hlo;have e1:((ss.map Value.string++[Value.string x]).toArray++Builtin.zeroCells (Value.string ⟨#[]⟩).cells (grownCap w (ss.length+1) c 9 - (ss.length+1))).toList.take (ss.length+1)=(Bb ss ss.length x).map Value.string:=by rw[Array.toList_append,List.take_left' (by simp)];simp[Bb]
   rw[e1] at this;unfold AJ;rw[Gz (Nat.le_refl _),Dx];exact this
  ·have hkl:k<ss.length:=by omega
   obtain⟨g,rfl,hcg⟩:∃g,a=some ⟨g,0,none⟩∧True:=by
    rcases h.2 with⟨h0,_⟩|⟨g,cap,cur,h0,hb,_⟩
    ·rw[hv] at h0;simp only[Value.slice.injEq] at h0;omega
    ·rw[hv] at h0;cases h0;exact⟨g,rfl,trivial⟩
   have hO:w.ownsRow lo 9 1 (.slice (some ⟨g,0,none⟩) ss.length c) ss.length (ss.map Value.string):=by have:=h;unfold AJ at this;rw[hv,Dx] at this;exact this
   have hcon:=Any2.slices_Insert_string_grow Tryz.lays2n22 g 0 ss.length c k vb 0 1 1 (ss.map Value.string) [.string x] w hkl (by decide) hc (by omega) (by omega) (by simp) rfl (Jv hO) hvs (Oa ss) h1v
   change Calls prog 324 _ _ (fun e w'=>e= .returned (.slice (some ⟨w.heap.size,0,none⟩) (ss.length+1) (grownCap w (ss.length+1) c 9))∧w'=(((w.alloc (.cells (((ss.map Value.string).take k).toArray++Builtin.zeroCells (Value.string ⟨#[]⟩).cells (ss.length+1 - k)++Builtin.zeroCells (Value.string ⟨#[]⟩).cells (grownCap w (ss.length+1) c 9 - (ss.length+1))) 9)).drew.setCells w.heap.size k [Value.string x]).drew).setCells w.heap.size (k+1) ((ss.map Value.string).drop k)) at hcon
   refine hcon.mono ?_;rintro e w' ⟨rfl,rfl⟩;have hN0:=PZ (lo:=lo) (e:=9) (n:=ss.length+1) (C:=grownCap w (ss.length+1) c 9) (w:=w) (arr:=((ss.map Value.string).take k).toArray++Builtin.zeroCells (Value.string ⟨#[]⟩).cells (ss.length+1 - k)++Builtin.zeroCells (Value.string ⟨#[]⟩).cells (grownCap w (ss.length+1) c 9 - (ss.length+1))) (by simp[Builtin.zeroCells,Value.cells];omega) hC1 hC2 hlo;have hB0:Below lo w (w.alloc (.cells (((ss.map Value.string).take k).toArray++Builtin.zeroCells (Value.string ⟨#[]⟩).cells (ss.length+1 - k)++Builtin.zeroCells (Value.string ⟨#[]⟩).cells (grownCap w (ss.length+1) c 9 - (ss.length+1))) 9)):=(Below.refl lo w).alloc hlo _;have hT:(((ss.map Value.string).take k).toArray++Builtin.zeroCells (Value.string ⟨#[]⟩).cells (ss.length+1 - k)++Builtin.zeroCells (Value.string ⟨#[]⟩).cells (grownCap w (ss.length+1) c 9 - (ss.length+1))).toList.take k=(ss.map Value.string).take k:=by rw[Array.toList_append,Array.toList_append,List.append_assoc,List.take_left' (by simp;omega)]
   generalize(((ss.map Value.string).take k).toArray++Builtin.zeroCells (Value.string ⟨#[]⟩).cells (ss.length+1 - k)++Builtin.zeroCells (Value.string ⟨#[]⟩).cells (grownCap w (ss.length+1) c 9 - (ss.length+1)))=arr at hN0 hB0 hT ⊢;generalize hwa:w.alloc (.cells arr 9)=wa at hN0 hB0 ⊢;have hd1:Below wa.heap.size wa wa.drew:=Ar (Below.refl _ _) 1;obtain⟨r1,r2⟩:=Du (Bw hN0 hd1) k 0 [.string x];have hd2:Below (Fm wa.drew w.heap.size k 0 [.string x]).heap.size (Fm wa.drew w.heap.size k 0 [.string x]) (Fm wa.drew w.heap.size k 0 [.string x]).drew:=Ar (Below.refl _ _) 1;obtain⟨r3,r4⟩:=Du (Bw r1 hd2) (k+1) 0 ((ss.map Value.string).drop k);rw[VZ,VZ];have s0:lo≤wa.heap.size:=Nat.le_trans hlo hB0.size;have b1:=AT (hB0.trans (hd1.mono s0)) r2 hlo (Nat.le_trans s0 hd1.size);have s1:lo≤(Fm wa.drew w.heap.size k 0 [.string x]).heap.size:=Nat.le_trans hlo b1.size;refine⟨_,rfl,?_,AT (b1.trans (hd2.mono s1)) r4 hlo (Nat.le_trans s1 hd2.size)⟩;have hzl:=hN0.1;rw[TW (n:=ss.length) (by simpa using hzl) (by simp) hk (by rw[List.take_take,Nat.min_eq_left (by omega)];exact hT)] at r3;unfold AJ;rw[Gz hk,Dx];simpa[Bb,List.map_take,List.map_drop] using r3
def VD (ss:List ByteArray) (x:ByteArray) (t:Nat):ByteArray:=if t<ss.length then Bp ss t else x
theorem QO {ss:List ByteArray} {k:Nat} (h:k<ss.length):ss[k]=Bp ss k:=by simp[Bp,h]
def DB (ss:List ByteArray) (x:ByteArray):Nat:=(ss.takeWhile fun y=>!Kd y x).length
theorem JG {ss:List ByteArray} {x:ByteArray}:DB ss x≤ss.length:=(List.takeWhile_prefix _).length_le
theorem M8 (x:ByteArray):Ke x x=false:=by
 cases h:Ke x x
 ·rfl
 ·have:=JD.1 h
  exact absurd this (List.lt_irrefl _)
theorem Kx {ss:List ByteArray} {x:ByteArray} {t:Nat} (h:t<DB ss x):Ke (Bp ss t) x=true:=by
 have hm:Bp ss t∈ss.takeWhile fun y=>!Kd y x:=by
  have h1:(ss.takeWhile fun y=>!Kd y x)[t]? =ss[t]? :=by
   rw[←List.takeWhile_append_dropWhile (p:=fun y=>!Kd y x) (l:=ss)];rw[List.takeWhile_append_dropWhile]
   conv=>rhs;rw[←List.takeWhile_append_dropWhile (p:=fun y=>!Kd y x) (l:=ss)]
   rw[List.getElem?_append_left h]
  have hl:t<ss.length:=Nat.lt_of_lt_of_le h JG;rw[F8 hl] at h1;exact List.mem_of_getElem? h1
 simpa[KU] using Jb hm
theorem Ky {ss:List ByteArray} {x:ByteArray} (hs:ss.Pairwise (fun a b=>Ke a b=true)) {t:Nat} (h:DB ss x≤t) (ht:t<ss.length):Ke (Bp ss t) x=false:=by
 have hp:Ke (Bp ss (DB ss x)) x=false:=by
  have hlt:DB ss x<ss.length:=by omega
  have h1:(ss.dropWhile fun y=>!Kd y x).head? =some (Bp ss (DB ss x)):=by
   have e:=List.takeWhile_append_dropWhile (p:=fun y=>!Kd y x) (l:=ss);have h2:(List.takeWhile (fun y=>!Kd y x) ss++List.dropWhile (fun y=>!Kd y x) ss)[(List.takeWhile (fun y=>!Kd y x) ss).length]? =some (Bp ss (DB ss x)):=by rw[e];exact F8 hlt
   rw[List.getElem?_append_right (Nat.le_refl _)] at h2;simp only[Nat.sub_self] at h2;rw[List.head?_eq_getElem?];exact h2
  have h3:=List.head?_dropWhile_not (fun y=>!Kd y x) ss;rw[h1] at h3;simpa[KU] using h3
 by_cases e:t=DB ss x
 ·rw[e];exact hp
 ·cases hx:Ke (Bp ss t) x
  ·rfl
  ·exfalso
   rw[List.pairwise_iff_getElem] at hs;have h4:=hs (DB ss x) t (by omega) ht (by omega);have e1:ss[DB ss x]'(by omega)=Bp ss (DB ss x):=QO _;have e2:ss[t]=Bp ss t:=by simp[Bp,ht]
   rw[e1,e2] at h4;rw[Lb h4 hx] at hp;cases hp
theorem Pk {ss:List ByteArray} {x:ByteArray} (hs:ss.Pairwise (fun a b=>Ke a b=true)):Lib.bsGo (fun t=>Op.bytesLess (VD ss x t).toList x.toList) ss.length 0 ss.length=DB ss x:=by
 refine Lib.bsGo_spec _ (DB ss x) (fun t ht=>?_) (fun t ht=>?_) _ _ _ (by omega) (by omega) JG
 ·have hl:t<ss.length:=Nat.lt_of_lt_of_le ht JG
  simp only[VD,hl,if_true];exact Kx ht
 ·by_cases hl:t<ss.length
  ·simp only[VD,hl,if_true]
   exact Ky hs ht hl
  ·simp only[VD,hl,if_false]
   exact M8 x
theorem SJ {ss:List ByteArray} {x:ByteArray} (hs:ss.Pairwise (fun a b=>Ke a b=true)):(decide (DB ss x<ss.length∧VD ss x (DB ss x)=x))=ss.any (fun y=>decide (y=x)):=by
 rw[Bool.eq_iff_iff,decide_eq_true_eq,MI];constructor
 ·rintro⟨h1,h2⟩
  simp only[VD,h1,if_true] at h2;exact⟨_,List.mem_of_getElem? (F8 h1),by simp[h2]⟩
 ·rintro⟨y,hy,he⟩
  obtain rfl:y=x:=by simpa using he
  obtain⟨j,hj,rfl⟩:=Hv (d:=⟨#[]⟩) hy;have e:DB ss (ss.getD j ⟨#[]⟩)=j:=by
   rcases Nat.lt_trichotomy (DB ss (ss.getD j ⟨#[]⟩)) j with h|h|h
   ·exfalso
    have h1:=Ky hs (Nat.le_refl _) (x:=ss.getD j ⟨#[]⟩) (by omega);rw[List.pairwise_iff_getElem] at hs;have h4:=hs _ j (by omega) hj h;have e1:ss[DB ss (ss.getD j ⟨#[]⟩)]'(by omega)=Bp ss (DB ss (ss.getD j ⟨#[]⟩)):=QO _;have e2:ss[j]=ss.getD j ⟨#[]⟩:=by simp[hj]
    rw[e1,e2,h1] at h4;cases h4
   ·exact h
   ·exfalso
    have:=Kx h;rw[show Bp ss j=ss.getD j ⟨#[]⟩ from rfl,M8] at this;cases this
  rw[e];exact⟨hj,by simp[VD,hj,Bp]⟩
theorem QS {ss:List ByteArray} {x:ByteArray}:Bb ss (DB ss x) x=Mg ss x:=by
 have key:∀A B:List ByteArray,A++B=ss→ss.take A.length=A∧ss.drop A.length=B:=by rintro A B rfl;simp
 obtain⟨k1,k2⟩:=key _ _ (List.takeWhile_append_dropWhile (p:=fun y=>!Kd y x) (l:=ss));unfold Bb Mg DB;rw[k1,k2]
theorem LD (v:Value) (ss:List ByteArray) (x:ByteArray) (w:World) (h:BC w v ss) (hs:A2 ss=true):
 Calls prog 323 #[v, .string x] w fun e w'=>e= .returned (.tuple #[.int .i64 ((DB ss x:Nat):Int), .bool (ss.any fun y=>decide (y=x))])∧Below w.heap.size w w':=by
 obtain⟨h1,h2,h3⟩:=ER.1 hs;obtain⟨a,c,rfl,hc,hcm,H0⟩:=A3.open EJ (by decide) h
 by_cases h0:ss.length=0
 ·obtain rfl:ss=[]:=List.eq_nil_of_length_eq_zero h0
  refine(Any2.slices_BinarySearch_string_empty Tryz.lays2n26 a c x w).mono ?_;rintro e w' ⟨rfl,rfl⟩;exact⟨rfl,Below.refl _ _⟩
 ·obtain⟨b,off,rfl,_⟩:=H0.str (show 0<ss.length by omega)
  have hcell:∀j,j<ss.length→w.cell? ⟨b,off+j,none⟩=some (.string (VD ss x j)):=by intro j hj;obtain⟨b',off',e,D⟩:=H0.str hj;cases e;simp only[VD,hj,if_true];exact D
  have hcon:=Any2.slices_BinarySearch_string Tryz.lays2n26 b off ss.length c (VD ss x) x w (by omega) hcell;rw[Pk h2,SJ h2] at hcon;exact K1 (hcon.mono fun e w' ⟨he,hq⟩=>⟨he,hq⟩)
def UD (w:World) (ss:List ByteArray) (x:ByteArray) (e:Ending) (w':World):Prop:=∃v',e= .returned (.tuple #[v', .bool (A6 ss x).2])∧AJ w.heap.size 9 1 An w' v' (A6 ss x).1∧Below w.heap.size w w'
theorem Nk (v:Value) (ss:List ByteArray) (x:ByteArray) (w:World) (h:BC w v ss) (hs:EB ss) (hx:x.size≤maxLen) (hok:A2 ss=true) (hr:A4 x=true):
 Calls prog 258 #[v, .string x] w (UD w ss x):=by
 have hl:=(ER.1 hok).2.2;have C1:=AA (by have:=Eb v ss w h hs;rw[hok] at this;exact this);have CX:=AA (fun W=>by have:=Cn x W hx;rw[hr] at this;exact this);have CB:=AA (fun W (hW:Below w.heap.size w W)=>LD v ss x W (A3.below h hW) hok);have C2:=AA (fun W (hW:Below w.heap.size w W)=>Ep v ss W (A3.below h hW) (by omega));obtain⟨a,c,rfl,hc,hcm⟩:=h.shape;have hin:ss.any (fun y=>decide (y=x))=true→A6 ss x=(ss,true):=fun h=>by unfold A6;rw[if_pos h]
 have hfu:ss.any (fun y=>decide (y=x))=false→ss.length=6→A6 ss x=(ss,false):=fun h h6=>by unfold A6;rw[if_neg (by simp[h]),if_pos h6]
 have hno:ss.any (fun y=>decide (y=x))=false→ss.length≠6→A6 ss x=(Bb ss (DB ss x) x,true):=fun h h6=>by unfold A6;rw[if_neg (by simp[h]),if_neg h6,QS]
 have HIN:=AA hin;have HFU:=AA hfu;have HNO:=AA hno;have hpl:=JG (ss:=ss) (x:=x);clear h hok hs hx hr hin hfu hno;go_in;go_wp2_with fail;refine(C1.out).mono ?_;rintro r w1 ⟨rfl,hb1⟩;go_wp2_with fail;refine(CX.out _).mono ?_;rintro r w2 ⟨rfl,hb2⟩;replace hb2:=hb1.trans (hb2.mono hb1.size);clear hb1;go_wp2_with fail;refine(CB.out _ hb2).mono ?_;rintro r w3 ⟨rfl,hb3⟩;replace hb3:=hb2.trans (hb3.mono hb2.size);clear hb2;have C3:=AA (C2.out _ hb3);have s3:=hb3.size;cases hany:ss.any (fun y=>decide (y=x))
 ·by_cases h6:ss.length=6
  ·have E:=AA (HFU.out hany h6)
   have t6:((ss.length:Int)==6)=true:=by simp[h6]
   clear hany h6;go_wp2_with fail;refine(C3.out).mono ?_;rintro r w4 ⟨v4,rfl,hO,hb4⟩;go_wp2_with fail;go_ret2;exact⟨_,by rw[E.out];rfl,by rw[E.out];exact hO.lower s3,hb3.trans (hb4.mono s3)⟩
  ·have E:=AA (HNO.out hany h6)
   have t6:((ss.length:Int)==6)=false:=by rw[beq_eq_false_iff_ne];omega
   clear hany h6;go_wp2_with fail;refine(C3.out).mono ?_;rintro r w4 ⟨v4,rfl,hO,hb4⟩;have hO5:=hO.below (AG w4 (.cells #[.string x] 9));have CI:=AA (LJ v4 ss x (w4.alloc (.cells #[.string x] 9)) hO5 (Nat.le_trans hb4.size (AG _ _).size) hpl (by omega) (heap_alloc_new _ _) (fun g hg=>by have:=(World.ownsRow.lt hO g hg).2;omega));have hb5:=hb4.trans ((AG w4 (.cells #[.string x] 9)).mono hb4.size);clear hO hO5 hb4;go_wp2_with fail;refine(CI.out).mono ?_;rintro r w6 ⟨v6,rfl,hO6,hb6⟩;go_wp2_with fail;go_ret2;exact⟨_,by rw[E.out];rfl,by rw[E.out];exact hO6.lower s3,hb3.trans ((hb5.trans hb6).mono s3)⟩
 ·have E:=AA (HIN.out hany)
  clear hany;go_wp2_with fail;refine(C3.out).mono ?_;rintro r w4 ⟨v4,rfl,hO,hb4⟩;go_wp2_with fail;go_ret2;exact⟨_,by rw[E.out];rfl,by rw[E.out];exact hO.lower s3,hb3.trans (hb4.mono s3)⟩
end Go.Proofs.YtnieoiclifjoaaaGreatDoor
set_option linter.unusedVariables false
namespace Go.Proofs.YtnieoiclifjoaaaGreatDoor
open Go.Proofs.Tryz
open Go.RowKit
theorem JO.word {w:World} {a:Option Addr} {m:List (List Int)} (h:JO w a m) (hok:Bg m=true) {f i:Nat} (hf:f<12) (hi:i<4):
 ∃b off b2 off2 c2,a=some ⟨b,off,none⟩∧b<w.heap.size∧w.cell? ⟨b,off+f,none⟩=some (.slice (some ⟨b2,off2,none⟩) 4 c2)∧b2<w.heap.size∧w.cell? ⟨b2,off2+i,none⟩=some (.int .i64 (Am m f i)):=by
 obtain⟨hl,hr⟩:=Af.1 hok;obtain⟨b,off,u,rfl,hlt,hc,hri⟩:=h f (by omega);have h4:=(BG.1 (hr f hf)).1;obtain⟨a2,c2,rfl,_,_,H⟩:=hri.open;obtain⟨b2,off2,rfl,hlt2,hc2⟩:=H.cellAt (show i<(AL m f).length by omega);rw[h4] at hc;exact⟨b,off,b2,off2,c2,rfl,hlt,hc,hlt2,hc2⟩
theorem FO {m:List (List Int)} (hok:Bg m=true) {f i:Nat} (hf:f<12) (hi:i<4):0≤Am m f i∧Am m f i≤9999:=by obtain⟨hl,hr⟩:=Af.1 hok;obtain⟨h4,hw⟩:=BG.1 (hr f hf);exact hw _ (Dz (by omega))
def IX (f a:Nat) (b:Bool):Value:= .agg #[.int .i64 f, .int .i64 ((a%4:Nat):Int), .bool b]
def Db:Value:= .agg #[.int .i64 0, .int .i64 0, .bool false]
def GE (m:List (List Int)) (root a:Nat):Value:= .tuple #[if(BV m root a).1=0 then IX (BV m root a).2.1 a (BV m root a).2.2 else Db, .int .i64 (BV m root a).1]
theorem NY (v:Value) (m:List (List Int)) (root a:Nat) (w:World) (h:BJ w v m) (hok:Bg m=true) (hr:root<12) (ha:a<64):
 Calls prog 113 #[v, .int .i64 root, .int .i64 a] w fun e w'=>e= .returned (GE m root a)∧Below w.heap.size w w':=by
 obtain⟨q,c,rfl,hc,hcm,H0⟩:=h.open;have hl:=(Af.1 hok).1;unfold maxLen at hcm;rw[hl] at hc ⊢;have hA:=AA (fun W=>MQ a W ha);obtain⟨b,off,b2,off2,c2,rfl,hb,D,hb2,D2⟩:=H0.word hok hr (show a/16<4 by omega);have D':=((AG w (.cells #[.int .i64 0, .int .i64 0, .bool false] 142)).cell (p:=⟨b,off+root,none⟩) hb).trans D;have D2':=((AG w (.cells #[.int .i64 0, .int .i64 0, .bool false] 142)).cell (p:=⟨b2,off2+a/16,none⟩) hb2).trans D2;have hw1:=FO hok hr (show a/16<4 by omega);have E1:=AA (fun W=>EL (Am m root (a/16)) W (by omega));have hB:=AG w (.cells #[.int .i64 0, .int .i64 0, .bool false] 142);cases hg1:BX (Am m root (a/16))
 ·have S:=AA (show GE m root a= .tuple #[Db, .int .i64 1] by simp[GE,BV,hg1])
  have V1:=AA (Do hg1);clear H0 D D2 hg1 hw1 hb hb2;go_in;go_wp2_with (first|(go_at_call 183;refine(hA.out _).mono ?_;rintro e w' ⟨rfl,rfl⟩)|(go_at_call 175;refine(E1.out _).mono ?_;rintro e w' ⟨rfl,rfl⟩;rw[V1.out]));exact bodyPost_ret (v:= .tuple #[Db, .int .i64 1]) (by simp[results,Tryz.results113,go_sem,Db]) rfl ⟨by rw[S.out],hB⟩
 ·have ht:Ax (Am m root (a/16))<12:=DZ hg1
  have V1:=AA (Di hg1);obtain⟨b',off',b3,off3,c3,e,hb',D3,hb3,D4⟩:=H0.word hok ht (show a/4%4<4 by omega);cases e;have D3':=((AG w (.cells #[.int .i64 0, .int .i64 0, .bool false] 142)).cell (p:=⟨b,off+Ax (Am m root (a/16)),none⟩) hb).trans D3;have D4':=((AG w (.cells #[.int .i64 0, .int .i64 0, .bool false] 142)).cell (p:=⟨b3,off3+a/4%4,none⟩) hb3).trans D4;have hw2:=FO hok ht (show a/4%4<4 by omega);have E2:=AA (fun W=>EL (Am m (Ax (Am m root (a/16))) (a/4%4)) W (by omega));cases hg2:BX (Am m (Ax (Am m root (a/16))) (a/4%4))
  ·have S:=AA (show GE m root a= .tuple #[Db, .int .i64 2] by simp[GE,BV,hg1,hg2])
   have V2:=AA (Do hg2);clear H0 D D2 D3 D4 hg1 hg2 hw1 hw2 hb hb2 hb3 hb';go_in;go_wp2_with fail;refine(hA.out _).mono ?_;rintro e w' ⟨rfl,rfl⟩;go_wp2_with fail;refine(E1.out _).mono ?_;rintro e w' ⟨rfl,rfl⟩;rw[V1.out];go_wp2_with fail;refine(E2.out _).mono ?_;rintro e w' ⟨rfl,rfl⟩;rw[V2.out];go_wp2_with fail;exact bodyPost_ret (v:= .tuple #[Db, .int .i64 2]) (by simp[results,Tryz.results113,go_sem,Db]) rfl ⟨by rw[S.out],hB⟩
  ·have S:=AA (show GE m root a= .tuple #[.agg #[.int .i64 ((Ax (Am m (Ax (Am m root (a/16))) (a/4%4)):Nat):Int), .int .i64 ((a%4:Nat):Int), .bool (Iw (Am m root (a/16))&&Iw (Am m (Ax (Am m root (a/16))) (a/4%4)))], .int .i64 0] by simp[GE,BV,hg1,hg2,IX])
   have V2:=AA (Di hg2);cases hx:Iw (Am m root (a/16))
   all_goals
    rw[hx] at V1 S;clear H0 D D2 D3 D4 hg1 hg2 hw1 hw2 hb hb2 hb3 hb' hx;go_in;go_wp2_with fail;refine(hA.out _).mono ?_;rintro e w' ⟨rfl,rfl⟩;go_wp2_with fail;refine(E1.out _).mono ?_;rintro e w' ⟨rfl,rfl⟩;rw[V1.out];go_wp2_with fail;refine(E2.out _).mono ?_;rintro e w' ⟨rfl,rfl⟩;rw[V2.out];go_wp2_with fail
   ·exact bodyPost_ret (v:= .tuple #[.agg #[.int .i64 ((Ax (Am m (Ax (Am m root (a/16))) (a/4%4)):Nat):Int), .int .i64 ((a%4:Nat):Int), .bool false], .int .i64 0]) (by simp[results,Tryz.results113,go_sem]) rfl ⟨by rw[S.out,Bool.false_and],(Below.refl _ _).alloc (Nat.le_refl _) _⟩
   ·exact bodyPost_ret (v:= .tuple #[.agg #[.int .i64 ((Ax (Am m (Ax (Am m root (a/16))) (a/4%4)):Nat):Int), .int .i64 ((a%4:Nat):Int), .bool (Iw (Am m (Ax (Am m root (a/16))) (a/4%4)))], .int .i64 0]) (by simp[results,Tryz.results113,go_sem]) rfl ⟨by rw[S.out,Bool.true_and],(Below.refl _ _).alloc (Nat.le_refl _) _⟩
theorem JO.row4 {w:World} {a:Option Addr} {m:List (List Int)} (h:JO w a m) (hok:Bg m=true) {f:Nat} (hf:f<12):
 ∃b off b2 off2 c2,a=some ⟨b,off,none⟩∧b<w.heap.size∧w.cell? ⟨b,off+f,none⟩=some (.slice (some ⟨b2,off2,none⟩) 4 c2)∧b2<w.heap.size∧4≤c2∧∀i,i<4→w.cell? ⟨b2,off2+i,none⟩=some (.int .i64 (Am m f i)):=by
 obtain⟨hl,hr⟩:=Af.1 hok;obtain⟨b,off,u,rfl,hlt,hc,hri⟩:=h f (by omega);have h4:=(BG.1 (hr f hf)).1;obtain⟨a2,c2,rfl,hc2,_,H⟩:=hri.open;obtain⟨b2,off2,rfl,hlt2,_⟩:=H.cellAt (show 0<(AL m f).length by omega);rw[h4] at hc hc2;refine⟨b,off,b2,off2,c2,rfl,hlt,hc,hlt2,hc2,fun i hi=>?_⟩;obtain⟨b',off',e,_,hcell⟩:=H.cellAt (show i<(AL m f).length by omega);cases e;exact hcell
def F2 (m:List (List Int)) (ns:List Nat):List Nat:=ns.flatMap fun n=>named (AL m n)
theorem Sw {m:List (List Int)} {ns:List Nat} {k:Nat} (h:k<ns.length):F2 m (ns.take (k+1))=F2 m (ns.take k)++named (AL m (ns.getD k 0)):=by rw[Cv (A8 (d:=0) h)];simp[F2]
theorem Hy {r:List Int} {j:Nat} (h:j<r.length):named (r.take (j+1))=named (r.take j)++(if BX (r.getD j 0) then[Ax (r.getD j 0)] else[]):=by
 rw[Cv (A8 (d:=0) h)];unfold named;rw[List.filter_append,List.map_append]
 congr 1
 rw[List.filter_cons,List.filter_nil]
 split<;>simp_all
theorem JT {m:List (List Int)} (hok:Bg m=true) {ns:List Nat} (hn:∀n∈ns,n<12):(F2 m ns).length≤4*ns.length:=by
 induction ns with
 |nil=>simp[F2]
 |cons n ns ih=>have h1:=ih (fun x hx=>hn x (List.mem_cons_of_mem _ hx));have h2:=Ex (r:=AL m n);have h3:=(BG.1 ((Af.1 hok).2 n (hn n (List.mem_cons_self ..)))).1;simp only[F2,List.flatMap_cons,List.length_append,List.length_cons] at h1 ⊢;omega
theorem JU {m:List (List Int)} {ns:List Nat} {g:Nat}:g∈F2 m ns↔∃n∈ns,g∈named (AL m n):=by simp[F2]
theorem TQ {ns:List Nat} {k:Nat} (h:k<ns.length):ns.getD k 0∈ns:=Dz h
theorem LQ {lo e sz n:Nat} {w w':World} {v:Value} {xs:List Value} (h:w'.ownsRow lo e sz v n xs) (hg:w.grownBy w' v.ownBlock) (hlo:lo≤w.heap.size):Below lo w w':=(Below.refl lo w).grown hg hlo (fun k hk=>(World.ownsRow.lt h k hk).1)
theorem Mj {lo e sz n:Nat} {w w':World} {v u:Value} {xs:List Value} (h:w'.ownsRow lo e sz v n xs) (hv:v.ownBlock=u.ownBlock) (hg:w.grownBy w' u.ownBlock) (hlo:lo≤w.heap.size):Below lo w w':=LQ h (hv▸hg) hlo
def UG (m:List (List Int)) (ns:List Nat) (w:World) (e:Ending) (w':World):Prop:=∃v' ts,e= .returned v'∧AE w.heap.size w' v' (Ak ts)∧(∀g,g∈ts↔g∈F2 m ns)∧ts.length≤(F2 m ns).length∧Below w.heap.size w w'
theorem OW (v v2:Value) (m:List (List Int)) (ns:List Nat) (w:World) (h:BJ w v m) (hok:Bg m=true) (h2:Ap w v2 (Ak ns)) (hn:∀n∈ns,n<12) (hl:ns.length≤1000):
 Calls prog 178 #[v,v2] w (UG m ns w):=by
 obtain⟨q,c,rfl,hc,hcm,H0⟩:=h.open;obtain⟨q2,c2,rfl,hc2,hcm2,H2⟩:=h2.open;have hml:=(Af.1 hok).1;have hal:=JT hok hn;unfold maxLen at hcm hcm2;rw[hml] at hc ⊢;rw[BU] at hc2 ⊢;have Hn:=AA hn;have Hok:=AA hok;have HR:=AA H0;have HI:=AA H2;clear h h2 hn hok H0 H2 hml;go_in;go_wp2_with fail;go_loopw [5,15] (fun o i wr=>∃k:Nat,k≤ns.length∧i= .int .i64 k∧AE w.heap.size wr o (Ak (F2 m (ns.take k)))∧Below w.heap.size w wr) (fun _ i _=>ns.length - (intOf i).toNat)
 case atStart=>exact⟨0,Nat.zero_le _,rfl,World.ownsRow_nil _ _ _ _,Below.refl _ _⟩
 case round=>
  obtain⟨k,hk,rfl,hO,hbel⟩:=hrel
  by_cases hlt:k<ns.length
  ·obtain⟨b,off,rfl,hb,D0⟩:=HI.out.cellAt (show k<(Ak ns).length by rw[BU];exact hlt)
   rw[Kw hlt] at D0;have D:=(hbel.cell (p:=⟨b,off+k,none⟩) hb).trans D0;have hn12:=Hn.out _ (TQ hlt);obtain⟨bm,offm,br,offr,cr,rfl,hbm,M0,hbr,hcr,W0⟩:=HR.out.row4 Hok.out hn12;have M:=(hbel.cell (p:=⟨bm,offm+ns.getD k 0,none⟩) hbm).trans M0;have HW:=AA W0;have hrl:=AA (BG.1 ((Af.1 Hok.out).2 _ hn12)).1;have AS:=AA (Sw (m:=m) hlt);generalize hnk:ns.getD k 0=nk at*;have Hnk:=AA hnk;have hk4:(F2 m (ns.take k)).length≤4*k:=by
    have:=JT Hok.out (ns:=ns.take k) (fun n hn=>Hn.out n (List.mem_of_mem_take hn));rw[List.length_take] at this;omega
   clear D0 M0 W0 hnk;have HO:=AA hO;have HB:=AA hbel;clear hO;go_wp2_with fail;clear D M hbel;obtain⟨wo,rfl⟩:∃wo:World,wo=wr:=⟨_,rfl⟩
   go_loopw [5,24] (fun o i wi=>∃j:Nat,j≤4∧i= .int .i64 j∧AE w.heap.size wi o (Ak (F2 m (ns.take k)++named ((AL m nk).take j)))∧Below w.heap.size w wi) (fun _ i _=>4 - (intOf i).toNat)
   case atStart=>exact⟨0,by omega,rfl,by simpa[named] using HO.out,HB.out⟩
   case round=>
    obtain⟨j,hj,rfl,hOi,hbi⟩:=hrel
    by_cases hjl:j<4
    ·have W:=(hbi.cell (p:=⟨br,offr+j,none⟩) hbr).trans (HW.out j hjl)
     have NT:=AA (Hy (r:=AL m nk) (j:=j) (by rw[hrl.out];exact hjl));have wb:=FO Hok.out hn12 hjl;have CE:=AA (fun W=>EL (Am m nk j) W (by omega));have HOi:=AA hOi;have hlen:(F2 m (ns.take k)++named ((AL m nk).take j)).length≤4*k+4:=by have:=Ex (r:=(AL m nk).take j);rw[List.length_take] at this;rw[List.length_append];omega
     have hsz:=hbi.size;clear hOi;cases hg:BX (Am m nk j)
     ·have V:=AA (Do hg)
      have E:=AA (show F2 m (ns.take k)++named ((AL m nk).take (j+1))=F2 m (ns.take k)++named ((AL m nk).take j) by rw[NT.out,show(AL m nk).getD j 0=Am m nk j from rfl,hg];simp);clear hg;go_wp2_with (go_at_call 175;refine(CE.out _).mono ?_;rintro e w' ⟨rfl,rfl⟩;rw[V.out]);go_roundw
      case rel=>exact⟨j+1,by omega,by go_num,by rw[E.out];exact HOi.out,hbi⟩
      case measure=>simp[intOf];omega
     ·have V:=AA (Di hg)
      have E:=AA (show F2 m (ns.take k)++named ((AL m nk).take (j+1))=(F2 m (ns.take k)++named ((AL m nk).take j))++[Ax (Am m nk j)] by rw[NT.out,show(AL m nk).getD j 0=Am m nk j from rfl,hg];simp);clear hg;generalize F2 m (ns.take k)++named ((AL m nk).take j)=acc at*;have HO2:=AA (fun ob=>(by have:=Bw HOi.out (AG wr ob);rwa [BU] at this:(wr.alloc ob).ownsRow w.heap.size 3 1 u5 acc.length ((Ak acc).map (Value.int .i64))));go_wp2_with (first|(go_at_call 175;refine(CE.out _).mono ?_;rintro e w' ⟨rfl,rfl⟩;rw[V.out])|(at_builtin;go_must (refine DO (lo:=w.heap.size) (v:=u5) (n:=acc.length) (xs:=(Ak acc).map (Value.int .i64)) (m:=1) (news:=[.int .i64 ((Ax (Am m nk j):Nat):Int)]) rfl rfl 3 (.int .i64 0) 1 8 underlying30 Tryz.infoInt rfl (by decide) rfl (HO2.out _) rfl (Rd.newsAt _ #[_] _ 1 1 _ rfl (by simp) (by simp[maxLen])) (by simp[Value.oneCell']) (by unfold maxLen;omega) (by omega) (by simp;omega) ?_;intro o' w3 k1 k2 k3)));have R:AE w.heap.size w3 o' (Ak (acc++[Ax (Am m nk j)])):=by unfold AE;rw[BU,List.length_append];simpa[Ak] using k1
      rw[←E.out] at R;have RR:=AA R;clear k1 k2 R;go_roundw
      case rel=>exact⟨j+1,by omega,by go_num,RR.out,(hbi.trans ((AG _ _).mono hbi.size)).trans k3⟩
      case measure=>simp[intOf];omega
    ·obtain rfl:j=4:=by omega
     have E:F2 m (ns.take k)++named ((AL m nk).take 4)=F2 m (ns.take (k+1)):=by rw[AS.out,List.take_of_length_le (l:=AL m nk) (i:=4) (Nat.le_of_eq hrl.out)]
     rw[E] at hOi;clear E;go_wp2_with fail;go_roundw
     case rel=>exact⟨k+1,by omega,by go_num,hOi,hbi⟩
     case measure=>simp[intOf];omega
  ·obtain rfl:k=ns.length:=by omega
   rw[List.take_length] at hO;have CS:=AA (Ki u5 (F2 m ns) wr hO (by omega));clear hO;go_wp2_with fail;refine(CS.out).mono ?_;rintro e w1 ⟨rfl,ts,t1,t2,hO1,hg1⟩;have hb1:=hbel.trans (LQ hO1 hg1 hbel.size);have hs1:=hb1.size;have CC:=AA (JJ u5 ts w1 hO1 (by omega));clear hO1 hg1 hbel;go_wp2_with fail;refine(CC.out).mono ?_;rintro e w2 ⟨v',rfl,hvb,ts2,s1,s2,hO2,hg2⟩;go_wp2_with fail;go_ret;exact⟨_,ts2,rfl,hO2,fun g=>(s2 g).trans (t2 g),by omega,hb1.trans (Mj hO2 hvb hg2 hs1)⟩
def KQ (m:List (List Int)) (root:Int) (w:World) (e:Ending) (w':World):Prop:=∃v' ts,e= .returned v'∧AE w.heap.size w' v' (Ak ts)∧(∀g,g∈ts↔g∈Az m root)∧ts.length≤100∧Below w.heap.size w w'
theorem Tp {m:List (List Int)} {n g:Nat}:g∈Az m (n:Int)↔g=n∨g∈F2 m [n]∨g∈F2 m (F2 m [n]):=by
 rw[DN];simp only[Int.toNat_natCast,JU,List.mem_singleton,exists_eq_left];constructor
 ·rintro⟨_,h⟩;exact h
 ·intro h;exact⟨by omega,h⟩
theorem Q7 {m:List (List Int)} {a b:List Nat} (h:∀g,g∈a↔g∈b) (g:Nat):g∈F2 m a↔g∈F2 m b:=by
 rw[JU,JU];exact exists_congr fun n=>and_congr_left fun _=>h n
theorem Ik (w:World) (x:Int):AE w.heap.size (w.alloc (.cells #[.int .i64 x] 3)) (.slice (some ⟨w.heap.size,0,none⟩) 1 1) [x]:=World.ownsRow_lit (base:=w.heap.size) w #[.int .i64 x] 1 (Nat.le_refl _) (by simp[maxLen]) (by simp)
theorem QU (n:Nat):Ak [n]=[(n:Int)]:=rfl
theorem Uf (a b:List Nat):Ak (a++b)=Ak a++Ak b:=by simp[Ak]
theorem JV {lo:Nat} {w:World} {v:Value} {a b:List Nat} (h:w.ownsRow lo 3 1 v (a.length+b.length) ((Ak a).map (Value.int .i64)++(Ak b).map (Value.int .i64))):AE lo w v (Ak (a++b)):=by unfold AE;rw[BU,List.length_append,Uf,List.map_append];exact h
theorem Lx (v:Value) (m:List (List Int)) (n:Nat) (w:World) (h:BJ w v m) (hok:Bg m=true) (hn:n<12):
 Calls prog 110 #[v, .int .i64 n] w (KQ m (n:Int) w):=by
 have hlen1:=JT hok (ns:=[n]) (by simpa using hn);have C1:=AA (fun W v2 ns (hW:Below w.heap.size w W) (h2:Ap W v2 (Ak ns)) (hns:∀n∈ns,n<12) (hl:ns.length≤1000)=>OW v v2 m ns W (by obtain⟨vs,a,b⟩:=h;exact BJ.below ⟨vs,a,b⟩ hW) hok h2 hns hl);have hlt12:∀ns:List Nat,∀g∈F2 m ns,g<12:=by intro ns g hg;obtain⟨_,_,hg⟩:=JU.1 hg;exact FL hg
 have hal:∀ns:List Nat,(∀g∈ns,g<12)→(F2 m ns).length≤4*ns.length:=fun ns h=>JT hok h
 obtain⟨q,c,rfl,hc,hcm,_⟩:=h.open;have HLT:=AA hlt12;have HAL:=AA hal;have i0:(0:Int)≤(n:Int):=by omega
 clear h hok hc hcm hlt12 hal;go_in;go_wp2_with fail;have b1:=AG w (.cells #[.int .i64 n] 3);have b2:=F3 w (.cells #[.int .i64 n] 3) (.cells #[.int .i64 n] 3);have O1:=AA ((Ik w (n:Int)).below (AG _ (.cells #[.int .i64 n] 3)));have O2:=Ik (w.alloc (.cells #[.int .i64 n] 3)) (n:Int);rw[World.size_alloc] at O2;refine(C1.out _ _ [n] b2 (by rw[QU];exact AE.rd O2) (by simpa using hn) (by simp)).mono ?_;rintro e w1 ⟨v1,t1,rfl,P1,m1,l1,hb1⟩;have Q1:=AA (O1.out.below hb1);have B1:=b2.trans (hb1.mono b2.size);have s1:=B1.size;obtain⟨a1,c1,rfl,_,_,_⟩:=P1.rd.open;have P1r:=AA (AE.rd P1);rw[BU] at P1r ⊢;clear hb1 b1 b2 O2 P1 O1;have R1:=AA (show Rd w1 (.slice a1 t1.length c1) 1 t1.length ((Ak t1).map (Value.int .i64)) by have:=P1r.out;unfold Ap at this;rwa [BU] at this);have h1:t1.length≤4:=by simp at hlen1;omega
 go_wp2_with (at_builtin;go_must (refine DO (lo:=w.heap.size) (v:= .slice (some ⟨w.heap.size,0,none⟩) 1 1) (n:=1) (xs:=[.int .i64 n]) (m:=t1.length) (news:=(Ak t1).map (Value.int .i64)) rfl rfl 3 (.int .i64 0) 1 8 underlying30 Tryz.infoInt rfl (by decide) rfl Q1.out rfl R1.out If (by unfold maxLen;omega) (by omega) (by omega) ?_;intro o2 w2 k1 k2 k3));have O3:=AA (JV (a:=[n]) k1);have B2:=B1.trans k3;have s2:=B2.size;clear k1 k2 k3 Q1 R1 P1r B1;have b3:=B2.trans ((AG w2 (.cells #[.int .i64 n] 3)).mono s2);have O4:=AA (O3.out.below (AG w2 (.cells #[.int .i64 n] 3)));have CN:=AA (C1.out _ _ [n] b3 (by rw[QU];exact AE.rd (Ik w2 (n:Int))) (by simpa using hn) (by simp));clear O3;go_wp2_with fail;refine(CN.out).mono ?_;rintro e w3 ⟨v3,t3,rfl,P3,m3,l3,hb3⟩;have O5:=AA (O4.out.below hb3);have B3:=b3.trans (hb3.mono b3.size);have s3:=B3.size;have h3:t3.length≤4:=by simp at hlen1;omega
 have t3lt:∀g∈t3,g<12:=fun g hg=>HLT.out _ g ((m3 g).1 hg)
 have CM:=AA (C1.out _ v3 t3 B3 (AE.rd P3) t3lt (by omega));have h4:=HAL.out t3 t3lt;have M3:=AA m3;have M1:=AA m1;clear hb3 b3 P3 O4 CN m3 m1;go_wp2_with fail;refine(CM.out).mono ?_;rintro e w4 ⟨v4,t4,rfl,P4,m4,l4,hb4⟩;have O6:=AA (O5.out.below hb4);have O6':=AA (show w4.ownsRow w.heap.size 3 1 o2 ([n]++t1).length ((Ak ([n]++t1)).map (Value.int .i64)) by have:=O6.out;unfold AE at this;rwa [BU] at this);have B4:=B3.trans (hb4.mono s3);have s4:=B4.size;have R4:=AA (show Rd w4 v4 1 t4.length ((Ak t4).map (Value.int .i64)) by have:=AE.rd P4;unfold Ap at this;rwa [BU] at this);have M4:=AA m4;have hl1:([n]++t1).length≤5:=by simp;omega
 clear hb4 P4 m4 O5;have hmem:=AA (show ∀g,g∈(([n]++t1)++t4)↔g∈Az m (n:Int) by intro g;rw[Tp,List.mem_append,List.mem_append,List.mem_singleton,M1.out,M4.out,Q7 M3.out,or_assoc])
 generalize[n]++t1=acc at*;go_wp2_with (at_builtin;go_must (refine DO (lo:=w.heap.size) (v:=o2) (n:=acc.length) (xs:=(Ak acc).map (Value.int .i64)) (m:=t4.length) (news:=(Ak t4).map (Value.int .i64)) rfl rfl 3 (.int .i64 0) 1 8 underlying30 Tryz.infoInt rfl (by decide) rfl O6'.out rfl R4.out If (by unfold maxLen;omega) (by omega) (by omega) ?_;intro o5 w5 k1 k2 k3));have O7:=JV k1;have B5:=B4.trans k3;have s5:=B5.size;have hl5:(acc++t4).length≤21:=by rw[List.length_append];omega
 have CS:=AA (Ki o5 (acc++t4) w5 O7 (by omega));generalize acc++t4=fin at*;clear k1 k2 k3 O7 O6 O6' R4 B4;go_wp2_with fail;refine(CS.out).mono ?_;rintro e w6 ⟨rfl,ts,u1,u2,hO1,hg1⟩;have B6:=B5.trans (LQ hO1 hg1 s5);have s6:=B6.size;have CC:=AA (JJ o5 ts w6 hO1 (by omega));clear hO1 hg1 B5;go_wp2_with fail;refine(CC.out).mono ?_;rintro e w7 ⟨v',rfl,hvb,ts2,y1,y2,hO2,hg2⟩;go_wp2_with fail;go_ret;exact⟨_,ts2,rfl,hO2,fun g=>((y2 g).trans (u2 g)).trans (hmem.out g),by omega,B6.trans (Mj hO2 hvb hg2 s6)⟩
theorem Ly (v:Value) (m:List (List Int)) (r:Int) (w:World) (h:BJ w v m) (hr:r<0):Calls prog 110 #[v, .int .i64 r] w (KQ m r w):=by
 obtain⟨q,c,rfl,_,_,_⟩:=h.open;have S:=AA (show ∀g,g∈([]:List Nat)↔g∈Az m r from fun g=>⟨(fun h=>by cases h),(fun h=>by have:=(DN.1 h).1;omega)⟩);clear h;go_in;go_wp2_with fail;go_ret;exact⟨_,[],rfl,World.ownsRow_nil _ _ _ _,S.out,by decide,Below.refl _ _⟩
theorem MS (F:Nat) (caps:Array Value) (p:Int→Bool) (v:Value) (xs:List Int) (w:World) (h:Ap w v xs)
 (hF:∀args w,(callFunc F args).run prog w= .ok (.enter F args) w) (hf:∀x,x∈xs→∀W,Below w.heap.size w W→Calls prog F (#[.int .i64 x]++caps) W fun e W'=>e= .returned (.bool (p x))∧Below W.heap.size W W'):
 Calls prog 236 #[v, .func (.func F) #[] caps] w fun e w'=>e= .returned (.int .i64 (Eh p xs))∧Below w.heap.size w w':=by
 obtain⟨a,c,rfl,hc,hcm,H0⟩:=h.open;clear h;unfold maxLen at hcm;have Hf:=AA hf;clear hf;go_in;go_wp2;go_loopw [8] (fun i wr=>∃k:Nat,k≤xs.length∧i= .int .i64 k∧(∀(j:Nat) x,j<k→xs[j]? =some x→p x=false)∧Below w.heap.size w wr) (fun i _=>xs.length - (intOf i).toNat)
 case atStart=>exact⟨0,Nat.zero_le _,rfl,fun j x hj=>absurd hj (Nat.not_lt_zero _),Below.refl _ _⟩
 case round=>
  obtain⟨k,hk,rfl,hpre,hbel⟩:=hrel;have Hpre:=AA hpre;clear hpre
  by_cases hlt:k<xs.length
  ·have hx:xs[k]? =some (nth xs k):=NB hlt
   obtain⟨b,off,rfl,hbl,D0'⟩:=H0.cellAt hlt;have D0:=(hbel.cell (p:=⟨b,off+k,none⟩) hbl).trans D0';clear D0';have Hx:=AA hx;have Hc:=AA (Hf.out _ (List.mem_of_getElem? hx) wr hbel);clear hx;cases hp:p (nth xs k)
   ·have Hp:=AA hp;clear hp
    go_wp2_with (refine(Hc.out).mono ?_;rintro e w' ⟨rfl,hb2⟩;rw[Hp.out]);go_roundw
    case rel=>exact⟨k+1,by omega,by go_num,Fy Hpre.out Hx.out Hp.out,hbel.trans (hb2.mono hbel.size)⟩
    case measure=>simp[intOf];omega
   ·have Hp:=AA hp;clear hp
    have hres:=AA (G4 Hx.out Hpre.out Hp.out);go_wp2_with (refine(Hc.out).mono ?_;rintro e w' ⟨rfl,hb2⟩;rw[Hp.out]);go_ret;exact⟨Bd hres.out.symm,hbel.trans (hb2.mono hbel.size)⟩
  ·have hres:=AA (Fz (p:=p) (xs:=xs) (fun j x hx=>Hpre.out j x (by have:=(List.getElem?_eq_some_iff.1 hx).1;omega) hx))
   go_wp2;go_ret;exact⟨Bd hres.out.symm,hbel⟩
theorem IG (F:Nat) (caps:Array Value) (p:Int→Bool) (v:Value) (xs:List Int) (w:World) (h:Ap w v xs)
 (hF:∀args w,(callFunc F args).run prog w= .ok (.enter F args) w) (hf:∀x,x∈xs→∀W,Below w.heap.size w W→Calls prog F (#[.int .i64 x]++caps) W fun e W'=>e= .returned (.bool (p x))∧Below W.heap.size W W'):
 Calls prog 176 #[v, .func (.func F) #[] caps] w fun e w'=>e= .returned (.bool (xs.any p))∧Below w.heap.size w w':=by
 have E:=AA (G5 (p:=p) (xs:=xs));have C:=AA (MS F caps p v xs w h hF hf);clear h hf;go_in;go_wp2_with (refine(C.out).mono ?_;rintro e w' ⟨rfl,hb2⟩);go_ret;exact⟨AK E.out,hb2⟩
theorem PA (f:Nat) (v:Value) (ss:List ByteArray) (iv:Value) (infos:List AQ) (br bk gk:Nat) (w:World) (hr:w.cell? ⟨br,0,none⟩=some v) (hk:w.cell? ⟨bk,0,none⟩=some (.pointer (some ⟨gk,0,none⟩)))
 (hi:w.cell? ⟨gk,1,none⟩=some iv) (hv:BC w v ss) (hI:BH w iv infos) (hf:f<infos.length):
 Calls prog 177 #[.int .i64 f, .pointer (some ⟨br,0,none⟩), .pointer (some ⟨bk,0,none⟩)] w fun e w'=>e= .returned (.bool (!Ca ss (infoAt infos f).g))∧Below w.heap.size w w':=by
 obtain⟨a,c,rfl,hc,hcm,H0⟩:=A3.open As (by decide) hI;obtain⟨b,off,rfl,hb,D0,D1,D2⟩:=H0.infoCells hf;have M:=MB (w1:=w) (fun W hW=>MN v ss (infoAt infos f).g W (A3.below hv hW));obtain⟨av,cv,rfl,_,_⟩:=hv.shape;have k0:=cell_regrown hr;have k1:=cell_regrown hk;have k2:=cell_regrown hi;have k3:=cell_regrown D1;have f0:(f:Int)<infos.length:=by omega
 clear H0 hI hv D0 D1 D2;go_in;go_wp2_with fail;refine wp_region_quiet_below mixed (by kernel_rfl) ?_
 repeat(go_big_quiet_step (exact M _ _))
 refine wpQuiet_nil ?_;intro _ hw';obtain⟨⟨dq,osq⟩,hw''⟩:=hw';subst hw'';have bq:=below_regrown w dq osq;generalize Sort.grow (redrawn w dq) osq=wq at bq;go_wp2_with fail;go_ret;exact⟨rfl,bq⟩
theorem FH (gk:Nat) (v v2 iv:Value) (ss:List ByteArray) (fs:List Nat) (infos:List AQ) (w:World) (hi:w.cell? ⟨gk,1,none⟩=some iv) (hv:BC w v ss) (hI:BH w iv infos) (h2:Ap w v2 (Ak fs)) (hfs:∀f∈fs,f<infos.length):
 Calls prog 109 #[.pointer (some ⟨gk,0,none⟩),v,v2] w fun e w'=>e= .returned (.bool (Aq infos fs ss))∧Below w.heap.size w w':=by
 have b2:=F3 w (.cells #[.pointer (some ⟨gk,0,none⟩)] 161) (.cells #[v] 67);have ck0:(w.alloc (.cells #[.pointer (some ⟨gk,0,none⟩)] 161)).cell? ⟨w.heap.size,0,none⟩=some (.pointer (some ⟨gk,0,none⟩)):=cell_of_row _ _ 0 _ _ _ (heap_alloc_new _ _);have ck:((w.alloc (.cells #[.pointer (some ⟨gk,0,none⟩)] 161)).alloc (.cells #[v] 67)).cell? ⟨w.heap.size,0,none⟩=some (.pointer (some ⟨gk,0,none⟩)):=((AG _ _).cell (World.block_lt_of_cell? _ _ ck0)).trans ck0;have cv:((w.alloc (.cells #[.pointer (some ⟨gk,0,none⟩)] 161)).alloc (.cells #[v] 67)).cell? ⟨w.heap.size+1,0,none⟩=some v:=by
  have:=cell_of_row _ _ 0 _ _ _ (heap_alloc_new (w.alloc (.cells #[.pointer (some ⟨gk,0,none⟩)] 161)) (.cells #[v] 67))
  rwa [World.size_alloc] at this
 have hgl:=World.block_lt_of_cell? w _ hi;have S:=AA (show(!(Ak fs).any (fun x=>!Ca ss (infoAt infos x.toNat).g))=Aq infos fs ss by rw[Kl];unfold Ak Aq;rw[List.all_map];rfl);have C:=AA (IG 177 #[.pointer (some ⟨w.heap.size+1,0,none⟩), .pointer (some ⟨w.heap.size,0,none⟩)] (fun x=>!Ca ss (infoAt infos x.toNat).g) v2 (Ak fs) _ (Ap.below h2 b2) (fun _ _=>by kernel_rfl) (by intro x hx W hW;obtain⟨n,hn,rfl⟩:=List.mem_map.1 hx;have hb:=b2.trans (hW.mono b2.size);exact PA n v ss iv infos _ _ gk W ((hW.cell (World.block_lt_of_cell? _ _ cv)).trans cv) ((hW.cell (World.block_lt_of_cell? _ _ ck)).trans ck) ((hb.cell hgl).trans hi) (A3.below hv hb) (A3.below hI hb) (hfs n hn)))
 obtain⟨a,c,rfl,_,_,_⟩:=h2.open;obtain⟨a',c',rfl,_,_⟩:=hv.shape;clear hv hI h2 hi ck0 ck cv hfs;go_in;go_wp2_with (refine(C.out).mono ?_;rintro e w' ⟨rfl,hb2⟩);go_ret;exact⟨AK S.out,b2.trans (hb2.mono b2.size)⟩
theorem OY {k:Int} (h:Ba k=true):Qi k=k - 1:=by unfold Qi;rw[if_pos h]
theorem RY {infos:List AQ} {f:Nat} {kind:Int} {ss:List ByteArray}:Et infos f kind ss 0=true:=Js.2 (.inr ⟨rfl,rfl⟩)
theorem TS {infos:List AQ} {f:Nat} {kind x:Int} {ss:List ByteArray} (h0:x≠0) (h:BX x=false):Et infos f kind ss x=false:=by simp[Et,h,h0]
theorem OK {infos:List AQ} {f:Nat} {kind x:Int} {ss:List ByteArray} (h:BX x=true):Et infos f kind ss x=(decide (Ax x≠f)&&decide ((infoAt infos (Ax x)).k=kind - 1)&&Ca ss (infoAt infos (Ax x)).g):=by simp[Et,h]
theorem TR (x:Int) (f:Nat) (kind:Int) (v iv:Value) (ss:List ByteArray) (infos:List AQ) (bf bi bk br:Nat) (w:World) (hx:x≤9223372036854775807) (h1:w.cell? ⟨bf,0,none⟩=some (.int .i64 f)) (h2:w.cell? ⟨bi,0,none⟩=some iv) (h3:w.cell? ⟨bk,0,none⟩=some (.int .i64 kind)) (h4:w.cell? ⟨br,0,none⟩=some v)
 (hv:BC w v ss) (hI:BH w iv infos) (hl:infos.length=12) (hk:Ba kind=true):
 Calls prog 181 #[.int .i64 x, .pointer (some ⟨bf,0,none⟩), .pointer (some ⟨bi,0,none⟩), .pointer (some ⟨bk,0,none⟩), .pointer (some ⟨br,0,none⟩)] w fun e w'=>e= .returned (.bool (!Et infos f kind ss x))∧Below w.heap.size w w':=by
 obtain⟨a,c,rfl,hc,hcm,H0⟩:=A3.open As (by decide) hI;have CE:=AA (fun W=>EL x W hx);have k1:=cell_regrown h1;have k2:=cell_regrown h2;have k3:=cell_regrown h3;have k4:=cell_regrown h4;have cT:=Gx (w1:=w) (fun W=>JS kind W);rw[OY hk] at cT
 by_cases hx0:x=0
 ·subst hx0
  have V:=AA (Do (x:=0) rfl);have S:=AA (show(!Et infos f kind ss 0)=false by rw[RY];rfl);clear H0 hI hv h1 h2 h3 h4 hk hc hcm;go_in;go_wp2_with (go_at_call 175;refine(CE.out _).mono ?_;rintro e w' ⟨rfl,rfl⟩;rw[V.out]);refine wp_region_quiet_below mixed (by kernel_rfl) ?_
  repeat(go_big_quiet_step (exact cT _ _))
  refine wpQuiet_nil ?_;intro _ hw';obtain⟨⟨dq,osq⟩,hw''⟩:=hw';subst hw'';have bq:=below_regrown w dq osq;generalize Sort.grow (redrawn w dq) osq=wq at bq;go_wp2_with fail;go_ret;exact⟨AK S.out.symm,bq⟩
 ·have t0:(x !=0)=true:=by simp[hx0]
  cases hg:BX x
  ·have V:=AA (Do hg)
   have S:=AA (show(!Et infos f kind ss x)=true by rw[TS hx0 hg];rfl);clear H0 hI hv h1 h2 h3 h4 hk hc hcm hg hx0;go_in;go_wp2_with (go_at_call 175;refine(CE.out _).mono ?_;rintro e w' ⟨rfl,rfl⟩;rw[V.out]);refine wp_region_quiet_below mixed (by kernel_rfl) ?_
   repeat(go_big_quiet_step (exact cT _ _))
   refine wpQuiet_nil ?_;intro _ hw';obtain⟨⟨dq,osq⟩,hw''⟩:=hw';subst hw'';have bq:=below_regrown w dq osq;generalize Sort.grow (redrawn w dq) osq=wq at bq;go_wp2_with fail;go_ret;exact⟨AK S.out.symm,bq⟩
  ·have hF:=DZ hg
   have V:=AA (Di hg);have G:=AA (OK (infos:=infos) (f:=f) (kind:=kind) (ss:=ss) hg);obtain⟨b,off,rfl,hb,D0,D1,D2⟩:=H0.infoCells (show Ax x<infos.length by omega);have d0:=cell_regrown D0;have d1:=cell_regrown D1;have M:=MB (w1:=w) (fun W hW=>MN v ss (infoAt infos (Ax x)).g W (A3.below hv hW));obtain⟨av,cv,rfl,_,_⟩:=hv.shape;have i1:((Ax x:Nat):Int)<infos.length:=by omega
   clear H0 hI hv h1 h2 h3 h4 hk hc hcm D0 D1 D2 hx0 hg;generalize Ax x=o at*
   by_cases e1:o=f
   ·have t1:((o:Int)==(f:Int))=true:=by simp[e1]
    have S:=AA (show(!Et infos f kind ss x)=true by rw[G.out];simp[e1]);clear e1;go_in;go_wp2_with (go_at_call 175;refine(CE.out _).mono ?_;rintro e w' ⟨rfl,rfl⟩;rw[V.out]);refine wp_region_quiet_below mixed (by kernel_rfl) ?_
    repeat(go_big_quiet_step (first|exact cT _ _|exact M _ _))
    refine wpQuiet_nil ?_;intro _ hw';obtain⟨⟨dq,osq⟩,hw''⟩:=hw';subst hw'';have bq:=below_regrown w dq osq;generalize Sort.grow (redrawn w dq) osq=wq at bq;go_wp2_with fail;go_ret;exact⟨AK S.out.symm,bq⟩
   ·have t1:((o:Int)==(f:Int))=false:=by simp;omega
    by_cases e2:(infoAt infos o).k=kind - 1
    ·have t2:((infoAt infos o).k !=kind - 1)=false:=by simp[e2]
     have S:=AA (show(!Et infos f kind ss x)=!Ca ss (infoAt infos o).g by rw[G.out];simp[e1,e2]);clear e1 e2;go_in;go_wp2_with (go_at_call 175;refine(CE.out _).mono ?_;rintro e w' ⟨rfl,rfl⟩;rw[V.out]);refine wp_region_quiet_below mixed (by kernel_rfl) ?_
     repeat(go_big_quiet_step (first|exact cT _ _|exact M _ _))
     refine wpQuiet_nil ?_;intro _ hw';obtain⟨⟨dq,osq⟩,hw''⟩:=hw';subst hw'';have bq:=below_regrown w dq osq;generalize Sort.grow (redrawn w dq) osq=wq at bq;go_wp2_with fail;go_ret;exact⟨AK S.out.symm,bq⟩
    ·have t2:((infoAt infos o).k !=kind - 1)=true:=by simp[e2]
     have S:=AA (show(!Et infos f kind ss x)=true by rw[G.out];simp[e2]);clear e1 e2;go_in;go_wp2_with (go_at_call 175;refine(CE.out _).mono ?_;rintro e w' ⟨rfl,rfl⟩;rw[V.out]);refine wp_region_quiet_below mixed (by kernel_rfl) ?_
     repeat(go_big_quiet_step (first|exact cT _ _|exact M _ _))
     refine wpQuiet_nil ?_;intro _ hw';obtain⟨⟨dq,osq⟩,hw''⟩:=hw';subst hw'';have bq:=below_regrown w dq osq;generalize Sort.grow (redrawn w dq) osq=wq at bq;go_wp2_with fail;go_ret;exact⟨AK S.out.symm,bq⟩
theorem QP (v iv rv:Value) (m:List (List Int)) (infos:List AQ) (f:Nat) (kind:Int) (ss:List ByteArray) (w:World) (h:BJ w v m) (hok:Bg m=true) (hI:BH w iv infos) (hl:infos.length=12) (hf:f<12) (hk:Ba kind=true) (hv:BC w rv ss):
 Calls prog 112 #[v,iv, .int .i64 f, .int .i64 kind,rv] w fun e w'=>e= .returned (.bool (Gv m infos f kind ss))∧Below w.heap.size w w':=by
 obtain⟨ai,ci,rfl,_,_⟩:=hI.shape;obtain⟨av,cv,rfl,_,_⟩:=hv.shape;have b4:=Vn w (.cells #[.slice ai infos.length ci] 25) (.cells #[.int .i64 f] 3) (.cells #[.int .i64 kind] 3) (.cells #[.slice av ss.length cv] 67);have N0:=heap_alloc_new w (.cells #[.slice ai infos.length ci] 25);have N1:=heap_alloc_new (w.alloc (.cells #[.slice ai infos.length ci] 25)) (.cells #[.int .i64 f] 3);have N2:=heap_alloc_new ((w.alloc (.cells #[.slice ai infos.length ci] 25)).alloc (.cells #[.int .i64 f] 3)) (.cells #[.int .i64 kind] 3);have N3:=heap_alloc_new (((w.alloc (.cells #[.slice ai infos.length ci] 25)).alloc (.cells #[.int .i64 f] 3)).alloc (.cells #[.int .i64 kind] 3)) (.cells #[.slice av ss.length cv] 67);simp only[World.size_alloc] at N1 N2 N3;have M2:=AF N2 (AG _ (.cells #[.slice av ss.length cv] 67));have M1:=AF N1 (F3 _ (.cells #[.int .i64 kind] 3) (.cells #[.slice av ss.length cv] 67));have M0:=AF N0 (UN _ (.cells #[.int .i64 f] 3) (.cells #[.int .i64 kind] 3) (.cells #[.slice av ss.length cv] 67));obtain⟨q,c,rfl,hc,hcm,H0⟩:=h.open;have hml:=(Af.1 hok).1;obtain⟨bm,offm,br,offr,cr,rfl,hbm,D,hbr,hcr,W0⟩:=H0.row4 hok hf;have D':=(b4.cell (p:=⟨bm,offm+f,none⟩) hbm).trans D;have rd:=(BJ.open (BJ.below h b4));have hrow:Ap ((((w.alloc (.cells #[.slice ai infos.length ci] 25)).alloc (.cells #[.int .i64 f] 3)).alloc (.cells #[.int .i64 kind] 3)).alloc (.cells #[.slice av ss.length cv] 67)) (.slice (some ⟨br,offr,none⟩) 4 cr) (AL m f):=by obtain⟨b',off',u,e,_,hcu,hr⟩:=H0 f (by omega);cases e;rw[D] at hcu;cases hcu;exact Ap.below hr b4
 have S:=AA (show(!(AL m f).any fun x=>!Et infos f kind ss x)=Gv m infos f kind ss by rw[Kl];rfl);have hw:∀x,x∈AL m f→x≤9999:=fun x hx=>((BG.1 ((Af.1 hok).2 f hf)).2 x hx).2
 have C:=AA (IG 181 #[.pointer (some ⟨w.heap.size+1,0,none⟩), .pointer (some ⟨w.heap.size,0,none⟩), .pointer (some ⟨w.heap.size+1+1,0,none⟩), .pointer (some ⟨w.heap.size+1+1+1,0,none⟩)] (fun x=>!Et infos f kind ss x) _ (AL m f) _ hrow (fun _ _=>by kernel_rfl) (by intro x hx W hW;have hb:=b4.trans (hW.mono b4.size);exact TR x f kind _ _ ss infos _ _ _ _ W (by have:=hw x hx;omega) (cell_of_row _ _ 0 _ _ _ (AF M1 hW)) (cell_of_row _ _ 0 _ _ _ (AF M0 hW)) (cell_of_row _ _ 0 _ _ _ (AF M2 hW)) (cell_of_row _ _ 0 _ _ _ (AF N3 hW)) (A3.below hv hb) (A3.below hI hb) hl hk))
 have fm:(f:Int)<m.length:=by omega
 clear hv hI h hrow hw N0 N1 N2 N3 M0 M1 M2 W0 rd H0 D hl hml hok;go_in;go_wp2_with (refine(C.out).mono ?_;rintro e w' ⟨rfl,hb2⟩);go_ret;exact⟨AK S.out,b4.trans (hb2.mono b4.size)⟩
end Go.Proofs.YtnieoiclifjoaaaGreatDoor
