/-
  Packed:2 texts.
-/
import Derived.Test.YteocokgpmgfbaaaGreatDoorY1
import Derived.Test.YteocokgpmgfbaaaGreatDoorY5
set_option linter.unusedVariables false
set_option maxHeartbeats 16000000
set_option maxRecDepth 100000
namespace Go.Proofs.YteocokgpmgfbaaaGreatDoor
open Go.Proofs.Tryz
open Go.RowKit
theorem TW {lo g:Nat} {w:World} {m i e c:Value} {k:AH} (h:G2 lo w g m i e c k) (hlo:lo≤w.heap.size) (hK:DV k) (call:AM) (he:0≤call.e) (hn:call.e<3):
 Calls prog 84 #[call.on g] w (CJ lo g w (Fi k call)):=by
 have N:=heap_alloc_new w (.cells (call.onCells g) 87);have hb0:=AF w (.cells (call.onCells g) 87);have S0:=DW.start h hlo call;have C0:=AA (fun W (_:Below w.heap.size w W)=>Ab (Bc call.a W));have HPx:=AA (Qa (k:=k) (c:=call));obtain⟨k1,e1,a1,b1,c1,nm⟩:=call;obtain⟨en,rfl⟩:∃n:Nat,e1=(n:Int):=⟨e1.toNat,by simp only at he;omega⟩
 have hen:en<3:=by simp only at hn;omega
 simp only[AM.on,AM.onCells] at N hb0 C0 HPx S0 ⊢;simp only[Int.toNat_natCast] at HPx;obtain⟨y0,y1,y2,y3,y4,y5,y6⟩:=DT (c:=⟨k1,(en:Int),a1,b1,c1,nm⟩) N;have hl:=Aq N;have HN:=AA N;have HK:=AA hK;obtain⟨ge,cap,e9,_,⟨⟨nge1,nge2⟩,nge3,nge4⟩,_⟩:=S0.envs (by rw[hK.envl];omega);rw[hK.envl] at e9;obtain⟨gi,capi,e8,_,_,⟨⟨ngi1,ngi2⟩,ngi3,ngi4⟩,_⟩:=S0.infos (by rw[hK.len];omega);rw[hK.len] at e8;subst e8 e9;obtain⟨nie,nei⟩:=S0.infos_envs;have HI:=AA h;have HS0:=AA S0;clear hK h N y1 y2 y4 y5 y6 S0
 by_cases e1:a1= -1
 ·have t1:(a1 != -1)=false:=by simp[e1]
  have HP2:=AA (show Fi k ⟨k1,(en:Int),a1,b1,c1,nm⟩=if At k.infos (A5 k.mem a1) (AD k.envs en).rights=false then(k,0,1) else({k with infos:=Bk (BM k.infos (AD k.envs en).root) a1,envs:=AR k.envs en (Bl a1),cache:=Cg k.cache (en:Int)},0,0) by rw[HPx.out,if_neg (by rw[e1];simp)]);have Ha:Hid (a1<12):=AA (by omega);have Hn:Hid (a1<0):=AA (by omega);clear e1 y0;go_in;go_wp2_with fail;have HS:=HS0;generalize hW2:w.alloc _=W2 at*;clear hW2;have hge:=HS.out.ge_lt;obtain⟨y0,y1,y2,y3,y4,y5,y6⟩:=HS.out.ys;obtain⟨x0,x1,x2,_⟩:=HS.out.xs;obtain⟨hl2,hgl2,ngb,nbg⟩:=HS.out.lts;obtain⟨ua,uc,D0,D1,R⟩:=HS.out.env (j:=en) (by rw[HK.out.envl];exact hen);have CE:=AA (fun W (hW:Below W2.heap.size W2 W)=>HS.out.callEnv (en:=en) rfl hen W hW);simp only[AM.on,AM.onCells] at CE;have RM:BI W2 m k.mem:=HS.out.ink.2.2.rd.1;have RIn:BH W2 (.slice (some ⟨gi,0,none⟩) 12 capi) k.infos:=HS.out.ink.2.2.2.1.rd;have CX:=AA (fun W (hW:Below W2.heap.size W2 W)=>FX m k.mem (a1) W (RM.below hW) (AT HK.out).1 Ha.out);have CA:=AA (fun W (hW:Below W2.heap.size W2 W) v2 ts (h2:Ap W v2 (Ah ts)) (hm:∀g,g∈ts↔g∈A5 k.mem (a1))=>by have:=F0 g _ v2 _ (AD k.envs en).rights ts k.infos W ((hW.cell (p:=⟨g,1,none⟩) hgl2).trans x1) (A6.below R hW) (A6.below RIn hW) h2 (fun f hf=>by have:=reach_lt Ha.out f ((hm f).1 hf);have:=HK.out.len;omega);rw[ED hm] at this;exact this);generalize hbb:At k.infos (A5 k.mem (a1)) (AD k.envs en).rights=bb at CA HP2;clear hbb RM RIn R x1 x2;refine Am 15 94 [.p w.heap.size 0, .p g 0, .a #[.pointer (some ⟨g,0,none⟩), .int .i64 k1, .int .i64 en, .int .i64 a1, .int .i64 b1, .int .i64 c1, .string nm], .p ge (en*2), .p ge (en*2), .p ge (en*2), .v (.slice ua (AD k.envs en).rights.length uc), .p w.heap.size 0, .p g 0, .p g 0, .p g 0, .v m, .i a1, .z, .b bb] (fun ix vv ww=>match ix with
   |13=>Cp W2.heap.size k.mem (a1) ww vv
   |_=>True) ?_ ?_ ?_
  ·intro i hi o ho a wx Hb Hd hG K HK
   have mc0:=bc hG hl2 y0;have mc1:=bc hG hl2 y1;have mc2:=bc hG hl2 y2;have mc3:=bc hG hl2 y3;have mc4:=bc hG hl2 y4;have mc5:=bc hG hl2 y5;have mc6:=bc hG hl2 y6;have mc7:=bc hG hge D0;have mc8:=bc hG hgl2 x0
   match i,hi with
   |0,_|4,_|5,_|7,_|9,_|10,_|12,_=>exact sP ho HK Hb Hd
   |1,_|8,_=>exact sL ho HK Hb Hd (hl:=GC (by assumption))
   |2,_=>exact sL ho HK Hb Hd (hl:=Va (by assumption) (by assumption) (by assumption) (by assumption) (by assumption) (by assumption) (by assumption))
   |3,_=>exact sD ho HK Hb Hd (CE.out _ hG)
   |6,_=>exact sL ho HK Hb Hd (hl:=K7 (by assumption))
   |11,_=>exact sL ho HK Hb Hd (hl:=Ff (by assumption))
   |13,_=>exact sC ho HK Hb Hd (CX.out _ hG) (by rintro e w_ ⟨v',ts,rfl,hO,hmem,_,hb2⟩;exact⟨_,rfl,⟨ts,Bd hO hG.size,hmem⟩,hb2⟩)
   |14,_=>clear mc0 mc1 mc2 mc3 mc4 mc5 mc6 mc7 mc8;obtain rfl:=So_ ho;have d1:(a.tmps[28]?.getD undef)= .pointer (some ⟨g,0,none⟩):=Bx Hd 1;have d6:(a.tmps[33]?.getD undef)= .slice ua (AD k.envs en).rights.length uc:=Bx Hd 6;have d13:Cp W2.heap.size k.mem (a1) wx (a.tmps[40]?.getD undef):=Bx Hd 13;clear Hd Hb;generalize e40:a.tmps[40]?.getD undef=v2 at d13;obtain⟨ts,hO,hmem⟩:=d13;have CAx:=CA.out wx hG v2 ts (AE.rd hO) hmem;refine Aa.of rfl ?_;go_simp;refine CAx.mono ?_;rintro e w_ ⟨rfl,hb2⟩;exact HK.out _ _ rfl hb2
   |_+15,hq=>exact absurd hq (by omega)
  ·intro i hi vv wz ww' hbz hz
   match i,hi with
   |13,_=>exact(Cp.below hz hbz)
   |0,_|1,_|2,_|3,_|4,_|5,_|6,_|7,_|8,_|9,_|10,_|11,_|12,_|14,_=>exact hz
   |_+15,hq=>exact absurd hq (by omega)
  ·intro vs wx hR hG
   have q14:(vs 14)= .bool bb:=BT hR 14;clear hR;simp only[Ai,AQ,List.range,List.range.loop,List.foldl_cons,List.foldl_nil,q14];simp;clear q14;have S1:=AA (HS.out.below hG);cases bb
   ·have E:=AA (show Fi k ⟨k1,(en:Int),a1,b1,c1,nm⟩=(k,0,1) by rw[HP2.out];rfl)
    clear D0 D1 y0 y1 y2 y3 y4 y5 y6 x0;go_wp2_with fail;go_ret;exact CJ.bad E.out (by decide) S1.out.bel
   ·have HP3:=AA (show Fi k ⟨k1,(en:Int),a1,b1,c1,nm⟩=({k with infos:=Bk (BM k.infos (AD k.envs en).root) (a1),envs:=AR k.envs en (Bl (a1)),cache:=Cg k.cache (en:Int)},0,0) by rw[HP2.out];rfl)
    clear y0 y1 y2 y3 y4 y5 y6 x0 D0 D1;obtain⟨y0,y1,y2,y3,y4,y5,y6⟩:=S1.out.ys;go_wp2_with fail;refine(CE.out _ hG).mono ?_;rintro r w3 ⟨rfl,hb3⟩;have S3:=AA (S1.out.below hb3);obtain⟨_,_,_,D1,_⟩:=S3.out.env (j:=en) (by rw[HK.out.envl];exact hen);clear y0 y1 y2 y3 y4 y5 y6 hG hb3;obtain⟨y0,y1,y2,y3,y4,y5,y6⟩:=S3.out.ys
    by_cases ho:(AD k.envs en).root<0
    ·have t5:¬(0:Int)≤(AD k.envs en).root:=by omega
     have HU:=AA (show BM k.infos (AD k.envs en).root=k.infos by unfold BM;rw[if_neg t5]);have CE4:=AA (fun W (hW:Below w3.heap.size w3 W)=>S3.out.callEnv (en:=en) rfl hen W hW);simp only[AM.on,AM.onCells] at CE4;clear ho;go_wp2_with fail;clear y0 y1 y2 y3 y4 y5 y6 D1;refine(CE4.out _ (Below.refl _ _)).mono ?_;rintro r4 w5 ⟨rfl,hb5⟩;have S5:=AA (S3.out.below hb5);obtain⟨_,_,_,D1,_⟩:=S5.out.env (j:=en) (by rw[HK.out.envl];exact hen);have Fe:=S5.out.fze (en*2+1);have S6:=AA (S5.out.root HK.out.envl.symm (by rw[HK.out.envl];exact hen) (a1));have t6:=AA Hn.out;have t7:¬(0:Int)≤a1:=by have:=Hn.out;omega
     have HR:=AA (show Bk (BM k.infos (AD k.envs en).root) (a1)=k.infos by rw[HU.out];unfold Bk;rw[if_neg t7]);go_wp2_with fail;clear D1 Fe t7;generalize w5.setCell _ _=W7 at*;have S7:=S6;clear S6;have Y:=S7.out.ys;obtain⟨y0,y1,y2,_,_,_,_⟩:=Y;obtain⟨x0,_,_,x3⟩:=S7.out.xs;obtain⟨hl7,hgl7,ngb,nbg⟩:=S7.out.lts;have RC:Bh W7 c k.cache:=S7.out.ink.2.2.2.2.2.rd;have CD:=AA (fun W (hW:Below W7.heap.size W7 W)=>Ea c k.cache (en:Int) W (A6.below RC hW) (AT HK.out).2.2);clear RC x0 y1;refine Am 13 94 [.p w.heap.size 0, .p g 0, .p w.heap.size 0, .p g 0, .p g 0, .p g 3, .v c, .p w.heap.size 1, .p w.heap.size 2, .i ((en:Int)), .z, .p g 0, .p g 3] (fun ix vv ww=>match ix with
      |10=>AC W7.heap.size 95 4 AJ ww vv (Cg k.cache (en:Int))
      |_=>True) ?_ ?_ ?_
     ·intro i hi o ho a wx Hb Hd hG K HK
      have mc0:=bc hG hl7 y0;have mc1:=bc hG hgl7 x3;have mc2:=bc hG hl7 y2
      match i,hi with
      |0,_|2,_|4,_|5,_|7,_|8,_|11,_|12,_=>exact sP ho HK Hb Hd
      |1,_|3,_=>exact sL ho HK Hb Hd (hl:=GC (by assumption))
      |6,_=>exact sL ho HK Hb Hd (hl:=K6 (by assumption))
      |9,_=>exact sL ho HK Hb Hd (hl:=Fg (by assumption))
      |10,_=>exact sC ho HK Hb Hd (CD.out _ hG) (by rintro e w_ ⟨v',rfl,hO,hb2⟩;exact⟨_,rfl,(hO.lower hG.size),hb2⟩)
     ·intro i hi vv wz ww' hbz hz
      match i,hi with
      |10,_=>exact(AC.below hz hbz)
      |0,_|1,_|2,_|3,_|4,_|5,_|6,_|7,_|8,_|9,_|11,_|12,_=>exact hz
     ·intro vs wx hR hG
      have q1:(vs 1)= .pointer (some ⟨g,0,none⟩):=BT hR 1;have q10:AC W7.heap.size 95 4 AJ wx (vs 10) (Cg k.cache (en:Int)):=BT hR 10;have q11:(vs 11)= .pointer (some ⟨g,0,none⟩):=BT hR 11;have q12:(vs 12)= .pointer (some ⟨g,3,none⟩):=BT hR 12;clear hR;simp only[Ai,AQ,List.range,List.range.loop,List.foldl_cons,List.foldl_nil,q1,q11,q12];simp;generalize vs 10=z10 at q10 ⊢;clear q1 q11 q12;have S8:=AA (S7.out.cache hG q10);have fzg:=AI (S7.out.below hG).ink.1;have x3w:=(S7.out.below hG).xs.2.2.2;obtain⟨_,_,rfl,_,_⟩:=q10.rd.shape;clear q10 hG y0 y2 x3;go_wp2_with fail;go_ret;exact⟨by rw[HP3.out];rfl,fun _=>⟨_,_,_,_,by rw[HP3.out];rw[HR.out];exact S8.out.ink⟩,S8.out.bel⟩
    ·obtain⟨rn,hrn⟩:∃n:Nat,(AD k.envs en).root=(n:Int):=⟨(AD k.envs en).root.toNat,by omega⟩
     have hr12:rn<12:=by have:=root_lt HK.out hen;omega
     have HU:=AA (show BM k.infos (AD k.envs en).root=AR k.infos rn (DD (-1)) by unfold BM;rw[hrn,if_pos (by omega),Int.toNat_natCast]);rw[hrn] at D1;have t5:(0:Int)≤(rn:Int):=by omega
     have hri:(rn:Int)<12:=by omega
     obtain⟨_,_,d2⟩:=S3.out.infoAt (f:=rn) (by rw[HK.out.len];exact hr12);have rf:=HK.out.refs_le hr12;have x1:=S3.out.xs.2.1;have Fr:=S3.out.fzi (rn*3+2);have S4:Hid (CS lo g w.heap.size ⟨k1,(en:Int),a1,b1,c1,nm⟩ w (w3.setCell ⟨gi,rn*3+2,none⟩ (.int .i64 ((infoAt k.infos rn).r - 1))) m (.slice (some ⟨gi,0,none⟩) 12 capi) (.slice (some ⟨ge,0,none⟩) 3 cap) c {k with infos:=AR k.infos rn (DD (-1))}):=AA (S3.out.info HK.out.len.symm (by rw[HK.out.len];exact hr12) (-1));clear ho hrn;go_wp2_with fail;clear y0 y1 y2 y3 y4 y5 y6 D1 d2 x1 Fr rf;generalize w3.setCell _ _=W4 at*;have CE4:=S4.out.callEnv (en:=en) rfl hen W4 (Below.refl _ _);simp only[AM.on,AM.onCells] at CE4;refine CE4.mono ?_;rintro r4 w5 ⟨rfl,hb5⟩;have S5:=AA (S4.out.below hb5);obtain⟨_,_,_,D1,_⟩:=S5.out.env (j:=en) (by rw[HK.out.envl];exact hen);have Fe:=S5.out.fze (en*2+1);have S6:=AA (S5.out.root HK.out.envl.symm (by rw[HK.out.envl];exact hen) (a1));have t6:=AA Hn.out;have t7:¬(0:Int)≤a1:=by have:=Hn.out;omega
     have HR:=AA (show Bk (BM k.infos (AD k.envs en).root) (a1)=AR k.infos rn (DD (-1)) by rw[HU.out];unfold Bk;rw[if_neg t7]);go_wp2_with fail;clear D1 Fe t7;generalize w5.setCell _ _=W7 at*;have S7:=S6;clear S6;have Y:=S7.out.ys;obtain⟨y0,y1,y2,_,_,_,_⟩:=Y;obtain⟨x0,_,_,x3⟩:=S7.out.xs;obtain⟨hl7,hgl7,ngb,nbg⟩:=S7.out.lts;have RC:Bh W7 c k.cache:=S7.out.ink.2.2.2.2.2.rd;have CD:=AA (fun W (hW:Below W7.heap.size W7 W)=>Ea c k.cache (en:Int) W (A6.below RC hW) (AT HK.out).2.2);clear RC x0 y1;refine Am 13 94 [.p w.heap.size 0, .p g 0, .p w.heap.size 0, .p g 0, .p g 0, .p g 3, .v c, .p w.heap.size 1, .p w.heap.size 2, .i ((en:Int)), .z, .p g 0, .p g 3] (fun ix vv ww=>match ix with
      |10=>AC W7.heap.size 95 4 AJ ww vv (Cg k.cache (en:Int))
      |_=>True) ?_ ?_ ?_
     ·intro i hi o ho a wx Hb Hd hG K HK
      have mc0:=bc hG hl7 y0;have mc1:=bc hG hgl7 x3;have mc2:=bc hG hl7 y2
      match i,hi with
      |0,_|2,_|4,_|5,_|7,_|8,_|11,_|12,_=>exact sP ho HK Hb Hd
      |1,_|3,_=>exact sL ho HK Hb Hd (hl:=GC (by assumption))
      |6,_=>exact sL ho HK Hb Hd (hl:=K6 (by assumption))
      |9,_=>exact sL ho HK Hb Hd (hl:=Fg (by assumption))
      |10,_=>exact sC ho HK Hb Hd (CD.out _ hG) (by rintro e w_ ⟨v',rfl,hO,hb2⟩;exact⟨_,rfl,(hO.lower hG.size),hb2⟩)
     ·intro i hi vv wz ww' hbz hz
      match i,hi with
      |10,_=>exact(AC.below hz hbz)
      |0,_|1,_|2,_|3,_|4,_|5,_|6,_|7,_|8,_|9,_|11,_|12,_=>exact hz
     ·intro vs wx hR hG
      have q1:(vs 1)= .pointer (some ⟨g,0,none⟩):=BT hR 1;have q10:AC W7.heap.size 95 4 AJ wx (vs 10) (Cg k.cache (en:Int)):=BT hR 10;have q11:(vs 11)= .pointer (some ⟨g,0,none⟩):=BT hR 11;have q12:(vs 12)= .pointer (some ⟨g,3,none⟩):=BT hR 12;clear hR;simp only[Ai,AQ,List.range,List.range.loop,List.foldl_cons,List.foldl_nil,q1,q11,q12];simp;generalize vs 10=z10 at q10 ⊢;clear q1 q11 q12;have S8:=AA (S7.out.cache hG q10);have fzg:=AI (S7.out.below hG).ink.1;have x3w:=(S7.out.below hG).xs.2.2.2;obtain⟨_,_,rfl,_,_⟩:=q10.rd.shape;clear q10 hG y0 y2 x3;go_wp2_with fail;go_ret;exact⟨by rw[HP3.out];rfl,fun _=>⟨_,_,_,_,by rw[HP3.out];rw[HR.out];exact S8.out.ink⟩,S8.out.bel⟩
 ·have t1:(a1 != -1)=true:=by simp[e1]
  cases e2:Bv a1 0 11
  ·have E:=AA (show Fi k ⟨k1,(en:Int),a1,b1,c1,nm⟩=(k,0,3) by rw[HPx.out,if_pos ⟨e1, .inl e2⟩])
   have T:=AA e2;clear e1 e2 y0;go_in;go_wp2_with fail;refine(C0.out _ hb0).mono ?_;rintro r w1 ⟨rfl,hb1⟩;rw[T.out];have hbw:=hb0.trans (hb1.mono hb0.size);go_wp2_with fail;go_ret;exact CJ.bad E.out (by decide) (hbw.mono hlo)
  ·have T:=AA e2
   have ab:=Ac.1 e2;obtain⟨an,rfl⟩:∃n:Nat,a1=(n:Int):=⟨a1.toNat,by omega⟩
   have han:an<k.infos.length:=by rw[HK.out.len];omega
   have hani:(an:Int)<12:=by omega
   have e1':=AA e1;have Ha:Hid ((an:Int)<12):=AA (by omega);clear e2 y0 e1
   by_cases e3:(infoAt k.infos an).k=3
   ·have t3:((infoAt k.infos an).k !=3)=false:=by simp[e3]
    have HP2:=AA (show Fi k ⟨k1,(en:Int),(an:Int),b1,c1,nm⟩=if At k.infos (A5 k.mem (an:Int)) (AD k.envs en).rights=false then(k,0,1) else({k with infos:=Bk (BM k.infos (AD k.envs en).root) (an:Int),envs:=AR k.envs en (Bl (an:Int)),cache:=Cg k.cache (en:Int)},0,0) by rw[HPx.out,if_neg (by rintro⟨_,x|x⟩;(· rw[T.out] at x;cases x);(· exact x e3))]);clear e3;go_in;go_wp2_with fail;refine(C0.out _ hb0).mono ?_;rintro r W2 ⟨rfl,hbW⟩;rw[T.out];have HS:=AA (HS0.out.below hbW);obtain⟨y0,_,_,_,_,_,_⟩:=HS.out.ys;obtain⟨d0,_,_⟩:=HS.out.infoAt han;have x1:=HS.out.xs.2.1;clear hbW;go_wp2_with fail;clear y0 x1 d0 hani t3 han;have hge:=HS.out.ge_lt;obtain⟨y0,y1,y2,y3,y4,y5,y6⟩:=HS.out.ys;obtain⟨x0,x1,x2,_⟩:=HS.out.xs;obtain⟨hl2,hgl2,ngb,nbg⟩:=HS.out.lts;obtain⟨ua,uc,D0,D1,R⟩:=HS.out.env (j:=en) (by rw[HK.out.envl];exact hen);have CE:=AA (fun W (hW:Below W2.heap.size W2 W)=>HS.out.callEnv (en:=en) rfl hen W hW);simp only[AM.on,AM.onCells] at CE;have RM:BI W2 m k.mem:=HS.out.ink.2.2.rd.1;have RIn:BH W2 (.slice (some ⟨gi,0,none⟩) 12 capi) k.infos:=HS.out.ink.2.2.2.1.rd;have CX:=AA (fun W (hW:Below W2.heap.size W2 W)=>FX m k.mem ((an:Int)) W (RM.below hW) (AT HK.out).1 Ha.out);have CA:=AA (fun W (hW:Below W2.heap.size W2 W) v2 ts (h2:Ap W v2 (Ah ts)) (hm:∀g,g∈ts↔g∈A5 k.mem ((an:Int)))=>by have:=F0 g _ v2 _ (AD k.envs en).rights ts k.infos W ((hW.cell (p:=⟨g,1,none⟩) hgl2).trans x1) (A6.below R hW) (A6.below RIn hW) h2 (fun f hf=>by have:=reach_lt Ha.out f ((hm f).1 hf);have:=HK.out.len;omega);rw[ED hm] at this;exact this);generalize hbb:At k.infos (A5 k.mem ((an:Int))) (AD k.envs en).rights=bb at CA HP2;clear hbb RM RIn R x1 x2;refine Am 15 94 [.p w.heap.size 0, .p g 0, .a #[.pointer (some ⟨g,0,none⟩), .int .i64 k1, .int .i64 en, .int .i64 an, .int .i64 b1, .int .i64 c1, .string nm], .p ge (en*2), .p ge (en*2), .p ge (en*2), .v (.slice ua (AD k.envs en).rights.length uc), .p w.heap.size 0, .p g 0, .p g 0, .p g 0, .v m, .i ((an:Int)), .z, .b bb] (fun ix vv ww=>match ix with
     |13=>Cp W2.heap.size k.mem ((an:Int)) ww vv
     |_=>True) ?_ ?_ ?_
    ·intro i hi o ho a wx Hb Hd hG K HK
     have mc0:=bc hG hl2 y0;have mc1:=bc hG hl2 y1;have mc2:=bc hG hl2 y2;have mc3:=bc hG hl2 y3;have mc4:=bc hG hl2 y4;have mc5:=bc hG hl2 y5;have mc6:=bc hG hl2 y6;have mc7:=bc hG hge D0;have mc8:=bc hG hgl2 x0
     match i,hi with
     |0,_|4,_|5,_|7,_|9,_|10,_|12,_=>exact sP ho HK Hb Hd
     |1,_|8,_=>exact sL ho HK Hb Hd (hl:=GC (by assumption))
     |2,_=>exact sL ho HK Hb Hd (hl:=Va (by assumption) (by assumption) (by assumption) (by assumption) (by assumption) (by assumption) (by assumption))
     |3,_=>exact sD ho HK Hb Hd (CE.out _ hG)
     |6,_=>exact sL ho HK Hb Hd (hl:=K7 (by assumption))
     |11,_=>exact sL ho HK Hb Hd (hl:=Ff (by assumption))
     |13,_=>exact sC ho HK Hb Hd (CX.out _ hG) (by rintro e w_ ⟨v',ts,rfl,hO,hmem,_,hb2⟩;exact⟨_,rfl,⟨ts,Bd hO hG.size,hmem⟩,hb2⟩)
     |14,_=>clear mc0 mc1 mc2 mc3 mc4 mc5 mc6 mc7 mc8;obtain rfl:=So_ ho;have d1:(a.tmps[28]?.getD undef)= .pointer (some ⟨g,0,none⟩):=Bx Hd 1;have d6:(a.tmps[33]?.getD undef)= .slice ua (AD k.envs en).rights.length uc:=Bx Hd 6;have d13:Cp W2.heap.size k.mem ((an:Int)) wx (a.tmps[40]?.getD undef):=Bx Hd 13;clear Hd Hb;generalize e40:a.tmps[40]?.getD undef=v2 at d13;obtain⟨ts,hO,hmem⟩:=d13;have CAx:=CA.out wx hG v2 ts (AE.rd hO) hmem;refine Aa.of rfl ?_;go_simp;refine CAx.mono ?_;rintro e w_ ⟨rfl,hb2⟩;exact HK.out _ _ rfl hb2
     |_+15,hq=>exact absurd hq (by omega)
    ·intro i hi vv wz ww' hbz hz
     match i,hi with
     |13,_=>exact(Cp.below hz hbz)
     |0,_|1,_|2,_|3,_|4,_|5,_|6,_|7,_|8,_|9,_|10,_|11,_|12,_|14,_=>exact hz
     |_+15,hq=>exact absurd hq (by omega)
    ·intro vs wx hR hG
     have q14:(vs 14)= .bool bb:=BT hR 14;clear hR;simp only[Ai,AQ,List.range,List.range.loop,List.foldl_cons,List.foldl_nil,q14];simp;clear q14;have S1:=AA (HS.out.below hG);cases bb
     ·have E:=AA (show Fi k ⟨k1,(en:Int),(an:Int),b1,c1,nm⟩=(k,0,1) by rw[HP2.out];rfl)
      clear D0 D1 y0 y1 y2 y3 y4 y5 y6 x0;go_wp2_with fail;go_ret;exact CJ.bad E.out (by decide) S1.out.bel
     ·have HP3:=AA (show Fi k ⟨k1,(en:Int),(an:Int),b1,c1,nm⟩=({k with infos:=Bk (BM k.infos (AD k.envs en).root) ((an:Int)),envs:=AR k.envs en (Bl ((an:Int))),cache:=Cg k.cache (en:Int)},0,0) by rw[HP2.out];rfl)
      clear y0 y1 y2 y3 y4 y5 y6 x0 D0 D1;obtain⟨y0,y1,y2,y3,y4,y5,y6⟩:=S1.out.ys;go_wp2_with fail;refine(CE.out _ hG).mono ?_;rintro r w3 ⟨rfl,hb3⟩;have S3:=AA (S1.out.below hb3);obtain⟨_,_,_,D1,_⟩:=S3.out.env (j:=en) (by rw[HK.out.envl];exact hen);clear y0 y1 y2 y3 y4 y5 y6 hG hb3;obtain⟨y0,y1,y2,y3,y4,y5,y6⟩:=S3.out.ys
      by_cases ho:(AD k.envs en).root<0
      ·have t5:¬(0:Int)≤(AD k.envs en).root:=by omega
       have HU:=AA (show BM k.infos (AD k.envs en).root=k.infos by unfold BM;rw[if_neg t5]);have CE4:=AA (fun W (hW:Below w3.heap.size w3 W)=>S3.out.callEnv (en:=en) rfl hen W hW);simp only[AM.on,AM.onCells] at CE4;clear ho;go_wp2_with fail;clear y0 y1 y2 y3 y4 y5 y6 D1;refine(CE4.out _ (Below.refl _ _)).mono ?_;rintro r4 w5 ⟨rfl,hb5⟩;have S5:=AA (S3.out.below hb5);obtain⟨_,_,_,D1,_⟩:=S5.out.env (j:=en) (by rw[HK.out.envl];exact hen);have Fe:=S5.out.fze (en*2+1);have S6:=AA (S5.out.root HK.out.envl.symm (by rw[HK.out.envl];exact hen) ((an:Int)));have x1:=S5.out.xs.2.1;obtain⟨y0,_,_,y3,_,_,_⟩:=S5.out.ys;obtain⟨_,_,d2⟩:=S5.out.infoAt (f:=an) (by have:=HK.out.len;(try simp only[As]);omega);have Fr:=S5.out.fzi (an*3+2);have hA12:an<12:=by have:=Ha.out;omega
       have rfa:0 - 1≤(infoAt (k.infos) an).r∧(infoAt (k.infos) an).r≤47:=by have r1:=HK.out.refs_le hA12;omega
       have HR:=AA (show Bk (BM k.infos (AD k.envs en).root) ((an:Int))=AR (k.infos) an (DD 1) by rw[HU.out];unfold Bk;rw[if_pos (by omega),Int.toNat_natCast]);have S7:=AA (S6.out.info (by show 12=(k.infos).length;(try simp only[As]);exact HK.out.len.symm) (f:=an) (by show an<(k.infos).length;(try simp only[As]);rw[HK.out.len];exact hA12) 1);have hani:(an:Int)<12:=by omega
       simp only at S7 d2;generalize hrv:(infoAt (k.infos) an).r=rv at*;go_wp2_with fail;clear D1 Fe Fr d2 x1 y0 y3 rfa hrv;generalize World.setCell (World.setCell _ _ _) _ _=W7 at*;clear S6;have Y:=S7.out.ys;obtain⟨y0,y1,y2,_,_,_,_⟩:=Y;obtain⟨x0,_,_,x3⟩:=S7.out.xs;obtain⟨hl7,hgl7,ngb,nbg⟩:=S7.out.lts;have RC:Bh W7 c k.cache:=S7.out.ink.2.2.2.2.2.rd;have CD:=AA (fun W (hW:Below W7.heap.size W7 W)=>Ea c k.cache (en:Int) W (A6.below RC hW) (AT HK.out).2.2);clear RC x0 y1;refine Am 13 94 [.p w.heap.size 0, .p g 0, .p w.heap.size 0, .p g 0, .p g 0, .p g 3, .v c, .p w.heap.size 1, .p w.heap.size 2, .i ((en:Int)), .z, .p g 0, .p g 3] (fun ix vv ww=>match ix with
        |10=>AC W7.heap.size 95 4 AJ ww vv (Cg k.cache (en:Int))
        |_=>True) ?_ ?_ ?_
       ·intro i hi o ho a wx Hb Hd hG K HK
        have mc0:=bc hG hl7 y0;have mc1:=bc hG hgl7 x3;have mc2:=bc hG hl7 y2
        match i,hi with
        |0,_|2,_|4,_|5,_|7,_|8,_|11,_|12,_=>exact sP ho HK Hb Hd
        |1,_|3,_=>exact sL ho HK Hb Hd (hl:=GC (by assumption))
        |6,_=>exact sL ho HK Hb Hd (hl:=K6 (by assumption))
        |9,_=>exact sL ho HK Hb Hd (hl:=Fg (by assumption))
        |10,_=>exact sC ho HK Hb Hd (CD.out _ hG) (by rintro e w_ ⟨v',rfl,hO,hb2⟩;exact⟨_,rfl,(hO.lower hG.size),hb2⟩)
       ·intro i hi vv wz ww' hbz hz
        match i,hi with
        |10,_=>exact(AC.below hz hbz)
        |0,_|1,_|2,_|3,_|4,_|5,_|6,_|7,_|8,_|9,_|11,_|12,_=>exact hz
       ·intro vs wx hR hG
        have q1:(vs 1)= .pointer (some ⟨g,0,none⟩):=BT hR 1;have q10:AC W7.heap.size 95 4 AJ wx (vs 10) (Cg k.cache (en:Int)):=BT hR 10;have q11:(vs 11)= .pointer (some ⟨g,0,none⟩):=BT hR 11;have q12:(vs 12)= .pointer (some ⟨g,3,none⟩):=BT hR 12;clear hR;simp only[Ai,AQ,List.range,List.range.loop,List.foldl_cons,List.foldl_nil,q1,q11,q12];simp;generalize vs 10=z10 at q10 ⊢;clear q1 q11 q12;have S8:=AA (S7.out.cache hG q10);have fzg:=AI (S7.out.below hG).ink.1;have x3w:=(S7.out.below hG).xs.2.2.2;obtain⟨_,_,rfl,_,_⟩:=q10.rd.shape;clear q10 hG y0 y2 x3;go_wp2_with fail;go_ret;exact⟨by rw[HP3.out];rfl,fun _=>⟨_,_,_,_,by rw[HP3.out];rw[HR.out];exact S8.out.ink⟩,S8.out.bel⟩
      ·obtain⟨rn,hrn⟩:∃n:Nat,(AD k.envs en).root=(n:Int):=⟨(AD k.envs en).root.toNat,by omega⟩
       have hr12:rn<12:=by have:=root_lt HK.out hen;omega
       have HU:=AA (show BM k.infos (AD k.envs en).root=AR k.infos rn (DD (-1)) by unfold BM;rw[hrn,if_pos (by omega),Int.toNat_natCast]);rw[hrn] at D1;have t5:(0:Int)≤(rn:Int):=by omega
       have hri:(rn:Int)<12:=by omega
       obtain⟨_,_,d2⟩:=S3.out.infoAt (f:=rn) (by rw[HK.out.len];exact hr12);have rf:=HK.out.refs_le hr12;have x1:=S3.out.xs.2.1;have Fr:=S3.out.fzi (rn*3+2);have S4:Hid (CS lo g w.heap.size ⟨k1,(en:Int),(an:Int),b1,c1,nm⟩ w (w3.setCell ⟨gi,rn*3+2,none⟩ (.int .i64 ((infoAt k.infos rn).r - 1))) m (.slice (some ⟨gi,0,none⟩) 12 capi) (.slice (some ⟨ge,0,none⟩) 3 cap) c {k with infos:=AR k.infos rn (DD (-1))}):=AA (S3.out.info HK.out.len.symm (by rw[HK.out.len];exact hr12) (-1));clear ho hrn;go_wp2_with fail;clear y0 y1 y2 y3 y4 y5 y6 D1 d2 x1 Fr rf;generalize w3.setCell _ _=W4 at*;have CE4:=S4.out.callEnv (en:=en) rfl hen W4 (Below.refl _ _);simp only[AM.on,AM.onCells] at CE4;refine CE4.mono ?_;rintro r4 w5 ⟨rfl,hb5⟩;have S5:=AA (S4.out.below hb5);obtain⟨_,_,_,D1,_⟩:=S5.out.env (j:=en) (by rw[HK.out.envl];exact hen);have Fe:=S5.out.fze (en*2+1);have S6:=AA (S5.out.root HK.out.envl.symm (by rw[HK.out.envl];exact hen) ((an:Int)));have x1:=S5.out.xs.2.1;obtain⟨y0,_,_,y3,_,_,_⟩:=S5.out.ys;obtain⟨_,_,d2⟩:=S5.out.infoAt (f:=an) (by have:=HK.out.len;(try simp only[As]);omega);have Fr:=S5.out.fzi (an*3+2);have hA12:an<12:=by have:=Ha.out;omega
       have rfa:0 - 1≤(infoAt (AR k.infos rn (DD (-1))) an).r∧(infoAt (AR k.infos rn (DD (-1))) an).r≤47:=by
        have r1:=HK.out.refs_le hA12;rw[EM]
        split
        ·next hx=>have r2:=HK.out.refs_le hr12;show 0 - 1≤(infoAt k.infos rn).r+ -1∧(infoAt k.infos rn).r+ -1≤47;omega
        ·omega
       have HR:=AA (show Bk (BM k.infos (AD k.envs en).root) ((an:Int))=AR (AR k.infos rn (DD (-1))) an (DD 1) by rw[HU.out];unfold Bk;rw[if_pos (by omega),Int.toNat_natCast]);have S7:=AA (S6.out.info (by show 12=(AR k.infos rn (DD (-1))).length;(try simp only[As]);exact HK.out.len.symm) (f:=an) (by show an<(AR k.infos rn (DD (-1))).length;(try simp only[As]);rw[HK.out.len];exact hA12) 1);have hani:(an:Int)<12:=by omega
       simp only at S7 d2;generalize hrv:(infoAt (AR k.infos rn (DD (-1))) an).r=rv at*;go_wp2_with fail;clear D1 Fe Fr d2 x1 y0 y3 rfa hrv;generalize World.setCell (World.setCell _ _ _) _ _=W7 at*;clear S6;have Y:=S7.out.ys;obtain⟨y0,y1,y2,_,_,_,_⟩:=Y;obtain⟨x0,_,_,x3⟩:=S7.out.xs;obtain⟨hl7,hgl7,ngb,nbg⟩:=S7.out.lts;have RC:Bh W7 c k.cache:=S7.out.ink.2.2.2.2.2.rd;have CD:=AA (fun W (hW:Below W7.heap.size W7 W)=>Ea c k.cache (en:Int) W (A6.below RC hW) (AT HK.out).2.2);clear RC x0 y1;refine Am 13 94 [.p w.heap.size 0, .p g 0, .p w.heap.size 0, .p g 0, .p g 0, .p g 3, .v c, .p w.heap.size 1, .p w.heap.size 2, .i ((en:Int)), .z, .p g 0, .p g 3] (fun ix vv ww=>match ix with
        |10=>AC W7.heap.size 95 4 AJ ww vv (Cg k.cache (en:Int))
        |_=>True) ?_ ?_ ?_
       ·intro i hi o ho a wx Hb Hd hG K HK
        have mc0:=bc hG hl7 y0;have mc1:=bc hG hgl7 x3;have mc2:=bc hG hl7 y2
        match i,hi with
        |0,_|2,_|4,_|5,_|7,_|8,_|11,_|12,_=>exact sP ho HK Hb Hd
        |1,_|3,_=>exact sL ho HK Hb Hd (hl:=GC (by assumption))
        |6,_=>exact sL ho HK Hb Hd (hl:=K6 (by assumption))
        |9,_=>exact sL ho HK Hb Hd (hl:=Fg (by assumption))
        |10,_=>exact sC ho HK Hb Hd (CD.out _ hG) (by rintro e w_ ⟨v',rfl,hO,hb2⟩;exact⟨_,rfl,(hO.lower hG.size),hb2⟩)
       ·intro i hi vv wz ww' hbz hz
        match i,hi with
        |10,_=>exact(AC.below hz hbz)
        |0,_|1,_|2,_|3,_|4,_|5,_|6,_|7,_|8,_|9,_|11,_|12,_=>exact hz
       ·intro vs wx hR hG
        have q1:(vs 1)= .pointer (some ⟨g,0,none⟩):=BT hR 1;have q10:AC W7.heap.size 95 4 AJ wx (vs 10) (Cg k.cache (en:Int)):=BT hR 10;have q11:(vs 11)= .pointer (some ⟨g,0,none⟩):=BT hR 11;have q12:(vs 12)= .pointer (some ⟨g,3,none⟩):=BT hR 12;clear hR;simp only[Ai,AQ,List.range,List.range.loop,List.foldl_cons,List.foldl_nil,q1,q11,q12];simp;generalize vs 10=z10 at q10 ⊢;clear q1 q11 q12;have S8:=AA (S7.out.cache hG q10);have fzg:=AI (S7.out.below hG).ink.1;have x3w:=(S7.out.below hG).xs.2.2.2;obtain⟨_,_,rfl,_,_⟩:=q10.rd.shape;clear q10 hG y0 y2 x3;go_wp2_with fail;go_ret;exact⟨by rw[HP3.out];rfl,fun _=>⟨_,_,_,_,by rw[HP3.out];rw[HR.out];exact S8.out.ink⟩,S8.out.bel⟩
   ·have t3:((infoAt k.infos an).k !=3)=true:=by simp[e3]
    have E:=AA (show Fi k ⟨k1,(en:Int),(an:Int),b1,c1,nm⟩=(k,0,3) by rw[HPx.out,if_pos ⟨e1'.out, .inr e3⟩]);clear e3;go_in;go_wp2_with fail;refine(C0.out _ hb0).mono ?_;rintro r w1 ⟨rfl,hbW⟩;rw[T.out];have hbw:=hb0.trans (hbW.mono hb0.size);have HS:=AA (HS0.out.below hbW);obtain⟨y0,_,_,_,_,_,_⟩:=HS.out.ys;obtain⟨d0,_,_⟩:=HS.out.infoAt han;have x1:=HS.out.xs.2.1;clear hbW;go_wp2_with fail;go_ret;exact CJ.bad E.out (by decide) (hbw.mono hlo)
def OX (lo:Nat) (w:World) (v:Value) (f a:Nat) (b:Bool):Prop:=∃q,v= .pointer (some ⟨q,0,none⟩)∧lo≤q∧w.heap[q]? =some (.cells #[.int .i64 f, .int .i64 a, .bool b] 126 (0,0))
theorem OX.below {lo:Nat} {w w':World} {v:Value} {f a:Nat} {b:Bool} (h:OX lo w v f a b) (hb:Below w.heap.size w w'):OX lo w' v f a b:=by obtain⟨q,h0,h1,h2⟩:=h;exact⟨q,h0,h1,AG h2 hb⟩
theorem JX {W w':World} {q T:Nat} {x y z a b c:Value} (h:w'.heap[q]? =some (.cells #[x,y,z] T (0,0))) (hb:Below W.heap.size W w') (hq:W.heap.size≤q):
 (((w'.setCell ⟨q,0,none⟩ a).setCell ⟨q,1,none⟩ b).setCell ⟨q,2,none⟩ c).heap[q]? =some (.cells #[a,b,c] T (0,0))∧Below W.heap.size W (((w'.setCell ⟨q,0,none⟩ a).setCell ⟨q,1,none⟩ b).setCell ⟨q,2,none⟩ c):=by
 refine⟨?_,((hb.setCell hq _).setCell hq _).setCell hq _⟩;have h1:=heap_setCell_same w' q 0 _ T a h;have h2:=heap_setCell_same _ q 1 _ T b h1;have h3:=heap_setCell_same _ q 2 _ T c h2;simpa using h3
def Cd (lo:Nat) (b:Bool) (v:Value) (w:World) (f a:Int) (t:Bool):Prop:=∃q,v= .pointer (some ⟨q,0,none⟩)∧lo≤q∧w.heap[q]? =some (.cells (if b then #[.int .i64 f, .int .i64 a, .bool t] else #[.int .i64 0, .int .i64 0, .bool false]) 126 (0,0))
theorem Cd.below {lo:Nat} {b:Bool} {v:Value} {w w':World} {f a:Int} {t:Bool} (h:Cd lo b v w f a t) (hb:Below w.heap.size w w'):Cd lo b v w' f a t:=by obtain⟨q,h0,h1,h2⟩:=h;exact⟨q,h0,h1,AG h2 hb⟩
theorem Cd.zero {lo q:Nat} {b:Bool} {w:World} {f a:Int} {t:Bool} (hb:b=false) (hq:lo≤q) (hh:w.heap[q]? =some (.cells #[.int .i64 0, .int .i64 0, .bool false] 126 (0,0))):Cd lo b (.pointer (some ⟨q,0,none⟩)) w f a t:=⟨q,rfl,hq,by rw[hb];exact hh⟩
theorem Qh {lo g:Nat} {w:World} {m i e c:Value} {k:AH} (h:G2 lo w g m i e c k) (hlo:lo≤w.heap.size) (hK:DV k) (call:AM) (he:0≤call.e) (hn:call.e<3) (hk:call.k=10∨call.k=11):
 Calls prog 87 #[call.on g] w (Cr lo g w (Gz k call)):=by
 have S0:=DW.start h hlo call;have C0:=AA (fun W=>Ab (Jk call.a W));have C1:=AA (fun W=>Ab (J1 call.b W));have P:=Pa (k:=k) (c:=call);obtain⟨k1,e1,a1,b1,c1,nm⟩:=call;obtain⟨en,rfl⟩:∃n:Nat,e1=(n:Int):=⟨e1.toNat,by simp only at he;omega⟩
 have hen:en<3:=by simp only at hn;omega
 simp only[AM.on,AM.onCells] at C0 C1 S0 P hk ⊢;simp only[Int.toNat_natCast] at P;obtain⟨ge,cap,e9,_,⟨⟨nge1,nge2⟩,nge3,nge4⟩,_⟩:=S0.envs (by rw[hK.envl];omega);rw[hK.envl] at e9;obtain⟨gi,capi,e8,_,_,⟨⟨ngi1,ngi2⟩,ngi3,ngi4⟩,_⟩:=S0.infos (by rw[hK.len];omega);rw[hK.len] at e8;obtain⟨gm,capm,e7,_,⟨ngm1,ngm2⟩,ngm3,ngm4⟩:=S0.mems (AT hK).1;subst e7 e8 e9;obtain⟨y0,y1,y2,y3,y4,y5,y6⟩:=S0.ys;have HK:=AA hK;have HS:=AA S0;have CE:=AA (fun W (hW:Below (w.alloc (.cells #[.pointer (some ⟨g,0,none⟩), .int .i64 k1, .int .i64 en, .int .i64 a1, .int .i64 b1, .int .i64 c1, .string nm] 87)).heap.size _ W)=>HS.out.callEnv (en:=en) rfl hen W hW);simp only[AM.on,AM.onCells] at CE;clear hK h S0 hlo he hn
 rcases hk with rfl|rfl
 ·have HP:=AA P
  clear P;go_in;go_wp2_with fail;generalize hW0:w.alloc _=W0 at*;clear hW0;refine(CE.out _ (Below.refl _ _)).mono ?_;rintro r W1 ⟨rfl,hb1⟩;have S1:=AA (HS.out.below hb1);clear y0 y1 y2 y3 y4 y5 y6;obtain⟨y0,y1,y2,y3,y4,y5,y6⟩:=S1.out.ys;obtain⟨_,_,_,D1,_⟩:=S1.out.env (j:=en) (by rw[HK.out.envl];exact hen);clear hb1;cases e4:Bv a1 0 63
  ·have T:=AA e4
   have E:=AA (show Gz k ⟨10,(en:Int),a1,b1,c1,nm⟩=(k,0,3) by rw[HP.out,if_pos (.inl e4)]);clear e4;go_wp2_with fail;refine(C0.out W1).mono ?_;rintro r w1 ⟨rfl,hb2⟩;rw[T.out];have S2:=AA (S1.out.below hb2);go_wp2_with fail;go_ret2;exact Cr.bad E.out (by decide) S2.out.bel
  ·have T:=AA e4
   have ab:=Ac.1 e4;obtain⟨an,rfl⟩:∃n:Nat,a1=(n:Int):=⟨a1.toNat,by omega⟩
   have han:an<64:=by omega
   clear e4;go_wp2_with fail;refine(C0.out W1).mono ?_;rintro r W2 ⟨rfl,hb2⟩;rw[T.out];have S2:=AA (S1.out.below hb2);clear y0 y1 y2 y3 y4 y5 y6 D1;obtain⟨y0,y1,y2,y3,y4,y5,y6⟩:=S2.out.ys;clear hb2
   by_cases e5:(AD k.envs en).root<0
   ·have E:=AA (show Gz k ⟨10,(en:Int),(an:Int),b1,c1,nm⟩=(k,0,3) by rw[HP.out,if_pos (.inr (.inl e5))])
    go_wp2_with fail;go_ret2;exact Cr.bad E.out (by decide) S2.out.bel
   ·obtain⟨rn,hrn⟩:∃n:Nat,(AD k.envs en).root=(n:Int):=⟨(AD k.envs en).root.toNat,by omega⟩
    have hr12:rn<12:=by have:=root_lt HK.out hen;omega
    have HR:=AA hrn;have e5':¬(rn:Int)<0:=by omega
    clear e5;rw[hrn];clear hrn;obtain⟨W5,rfl⟩:∃W5:World,W5=W2:=⟨_,rfl⟩
    have S5:=S2;clear S2;go_wp2_with fail;clear y0 y1 y2 y3 y4 y5 y6;have HP2:=AA (show Gz k ⟨10,(en:Int),(an:Int),b1,c1,nm⟩=_ by rw[HP.out,if_neg (by rintro(x|x|⟨x,_⟩);(· rw[T.out] at x;cases x);(· rw[show(AD k.envs en).root=(rn:Int) from HR.out] at x;omega);(· exact absurd x (by decide)))]);have CW0:=fun W (hW:Below W5.heap.size W5 W)=>Qi _ k.mem rn an W (S5.out.ink.2.2.rd.1.below hW) (AT HK.out).1 hr12 han
    have HKW:=AA (HK.out.walk_data (e:=en) (a:=an) hen (by show(0:Int)≤(AD k.envs en).root;rw[HR.out];omega));unfold Fj If Da at CW0;rw[HR.out] at HP2;simp only[Int.toNat_natCast] at HP2;have HKW2:=HKW.out;unfold AY at HKW2;rw[HR.out] at HKW2;simp only[Int.toNat_natCast] at HKW2;obtain⟨a4,ha4e⟩:∃n,n=an%4:=⟨_,rfl⟩
    simp only[←ha4e] at CW0;have HA4:=AA ha4e;have an4:a4<4:=by omega
    clear ha4e;generalize hwp:BS k.mem rn an=x at*;obtain⟨cp,fp,wp⟩:=x;simp only at CW0 HP2 HKW2;obtain⟨y0,y1,y2,y3,y4,y5,y6⟩:=S5.out.ys;obtain⟨x0,_,_,_⟩:=S5.out.xs;obtain⟨hl5,hgl5,ngb,nbg⟩:=S5.out.lts
    by_cases e7:cp=0
    ·subst e7
     simp only[if_true] at CW0;have CW:=AA CW0;have Hfp:=AA (HKW2 rfl).1;clear CW0 HKW2 HKW hwp;refine Cz 16 121 (fun ix=>ix==14) [.p w.heap.size 0, .p g 0, .p g 0, .p g 0, .s gm 12 capm, .i ((rn:Int)), .p w.heap.size 1, .p w.heap.size 3, .i ((an:Int)), .v (.tuple #[.agg #[.int .i64 fp, .int .i64 a4, .bool wp], .int .i64 0]), .v (.tuple #[.agg #[.int .i64 fp, .int .i64 a4, .bool wp], .int .i64 0]), .a #[.int .i64 fp, .int .i64 a4, .bool wp], .i 0, .z, .z, .i 0] (fun ll ix vv ww=>match ix with
      |13=>Cd W5.heap.size (ll 14) vv ww ((fp:Int)) ((a4:Int)) wp
      |_=>True) (fun ll ww=>Below W5.heap.size W5 ww) ?_ ?_ ?_ ?_ ?_ ?_
     ·exact Ao (Below.refl _ _) 1
     ·intro j hj ll i vv wz ww' hi hS hLi hLj hbz hz
      match j,hj with
      |13,_=>exact(Cd.below (by rw[ER (by rintro rfl;cases hS)];exact hz) hbz)
      |0,_|1,_|2,_|3,_|4,_|5,_|6,_|7,_|8,_|9,_|10,_|11,_|12,_|14,_|15,_=>exact hz
      |_+16,hq=>exact absurd hq (by omega)
     ·intro ll i wz ww' hi hS hLi hbz hg
      exact hg.trans (hbz.mono hg.size)
     ·intro i hi hS o ho a wx Hb ll Hd HL hG K HK
      have mc0:=bc hG hl5 y0;have mc1:=bc hG hgl5 x0;have mc2:=bc hG hl5 y3
      match i,hi,hS with
      |0,_,_|2,_,_|3,_,_|5,_,_|6,_,_|7,_,_|10,_,_|11,_,_|12,_,_|15,_,_=>exact Tk ho HK Hb Hd HL
      |1,_,_=>exact Je ho HK Hb Hd HL (hl:=GC (by assumption))
      |4,_,_=>exact Je ho HK Hb Hd HL (hl:=Ff (by assumption))
      |8,_,_=>exact Je ho HK Hb Hd HL (hl:=Fg (by assumption))
      |9,_,_=>exact Vt ho HK Hb Hd HL (CW.out _ hG)
      |14,_,hs=>exact absurd hs (by decide)
      |13,_,_=>clear mc0 mc1 mc2;obtain rfl:=So_ ho;have u14:=Cl HL 14;clear Hd Hb;refine Aa.of rfl ?_;go_simp;exact HK.out _ _ (Cd.zero (by rw[ER (by decide)];exact u14) hG.size (heap_alloc_new _ _)) (AF _ _)
      |_+16,hq,_=>exact absurd hq (by omega)
     ·intro i hi hS o ho a wx Hb ll Hd HL hG K HK
      match i,hi,hS with
      |0,_,hs|1,_,hs|2,_,hs|3,_,hs|4,_,hs|5,_,hs|6,_,hs|7,_,hs|8,_,hs|9,_,hs|10,_,hs|11,_,hs|12,_,hs|13,_,hs|15,_,hs=>exact absurd hs (by decide)
      |14,_,_=>
       obtain rfl:=So_ ho;have d13:Cd W5.heap.size (ll 14) (a.tmps[6]?.getD undef) wx ((fp:Int)) ((a4:Int)) wp:=Ec Hd HL 13;have d11:(a.tmps[50]?.getD undef)= .agg #[.int .i64 fp, .int .i64 a4, .bool wp]:=Ec Hd HL 11;clear Hd Hb;obtain⟨q,e13,hq1,hq2⟩:=d13;rw[HL.out.1] at hq2;replace hq2:wx.heap[q]? =some (.cells #[.int .i64 0, .int .i64 0, .bool false] 126 (0,0)):=hq2;have c0:=cell_of_row _ _ 0 _ _ _ hq2;have c1_:=cell_of_row _ _ 1 _ _ _ hq2;have c2:=cell_of_row _ _ 2 _ _ _ hq2;have fq:=AI hq2;have Pl:=AA (JX (W:=W5) (a:= .int .i64 fp) (b:= .int .i64 a4) (c:= .bool wp) hq2 hG hq1);have E13:=AA e13;clear hq2;refine Aa.of rfl ?_;go_simp;exact HK.out undef _ trivial Pl.out.2 (fun j hji hjn hjl hu=>match j,hjn with
        |0,_|1,_|2,_|3,_|4,_|5,_|6,_|7,_|8,_|9,_|10,_|11,_|12,_|14,_|15,_=>hu
        |13,_=>⟨q,E13.out,hq1,by rw[En];exact Pl.out.1⟩
        |_+16,hq=>absurd hq (by omega))
      |_+16,hq,_=>exact absurd hq (by omega)
     ·intro vs wx ll hall hR hG
      have q11:(vs 11)= .agg #[.int .i64 fp, .int .i64 a4, .bool wp]:=BT hR 11;have q12:(vs 12)= .int .i64 0:=BT hR 12;have q13:Cd W5.heap.size (ll 14) (vs 13) wx ((fp:Int)) ((a4:Int)) wp:=BT hR 13;have q15:(vs 15)= .int .i64 0:=BT hR 15;clear hR;simp only[DS,BW,List.range,List.range.loop,List.foldl_cons,List.foldl_nil,q11,q12,q15];simp;generalize vs 13=z13 at q13 ⊢;clear q11 q12 q15;obtain⟨q,rfl,hq1,hq2⟩:=q13;rw[hall 14 (by decide)] at hq2;replace hq2:wx.heap[q]? =some (.cells #[.int .i64 fp, .int .i64 a4, .bool wp] 126 (0,0)):=hq2;have S6:=AA (S5.out.below hG);have hQ6:=hq2;clear hq2 x0 y0 y1 y2 y3 y4 y5 y6 hG hall;obtain⟨W6,rfl⟩:∃W6:World,W6=wx:=⟨_,rfl⟩
      have pz2:=cell_of_row _ _ 2 _ _ _ hQ6;go_wp2_with fail;clear pz2;have HPE:=AA (show Gz k ⟨10,(en:Int),(an:Int),b1,c1,nm⟩=({k with cache:=EA k.cache (en:Int) ((an:Int)/4) fp wp},Ar k.mem fp a4,0) by rw[HP2.out,if_neg (by simp),if_neg (by rintro⟨x,_⟩;exact absurd x (by decide)),if_neg (by decide),show((an:Int)%4).toNat=a4 by have:=HA4.out;omega])
      obtain⟨y0,_,_,y3,y4,_,_⟩:=S6.out.ys;obtain⟨x0,_,_,_⟩:=S6.out.xs;obtain⟨gw,capw,Dw,hgw,hcw,Dj,fzw,⟨⟨ngw1,ngw2⟩,ngw3,ngw4⟩,_,_,SW⟩:=S6.out.mrow (AT HK.out).1 (f:=fp) Hfp.out;have z0:=cell_regrown (cell_of_row _ _ 0 _ _ _ hQ6);have z1:=cell_regrown (cell_of_row _ _ 1 _ _ _ hQ6);replace y0:=cell_regrown y0;replace x0:=cell_regrown x0;replace Dw:=cell_regrown Dw;have hf12:(fp:Int)<12:=by have:=Hfp.out;omega
      have ha4:(a4:Int)<4:=by omega
      have hbl:=S6.out.lts.1;have HD:=AA Dj;clear Dj SW;refine wp_region_quiet_below mixed (by kernel_rfl) ?_
      repeat(go_big_quiet_step (fail))
      refine wpQuiet_nil ?_;intro _ hw';obtain⟨⟨dq,osq⟩,hw''⟩:=hw';subst hw'';have bq:=below_regrown W6 dq osq;generalize Sort.grow (redrawn W6 dq) osq=wq at bq;clear z0 z1 y0 x0 Dw;have S7:=AA (S6.out.below bq);have hQ7:=AA (AG hQ6 bq);have Dv:=(bq.cell (p:=⟨gw,a4,none⟩) hgw).trans (HD.out a4 an4);replace y3:=(bq.cell (p:=⟨w.heap.size,3,none⟩) hbl).trans y3;replace y4:=(bq.cell (p:=⟨w.heap.size,4,none⟩) hbl).trans y4;have hd4:(0:Int)≤(an:Int):=by omega
      obtain⟨W7,rfl⟩:∃W7:World,W7=wq:=⟨_,rfl⟩
      clear y4 fzw HD bq hQ6;go_wp2_with fail;clear y3 Dv;obtain⟨y0,_,y2,y3,_,_,_⟩:=S7.out.ys;obtain⟨_,_,_,x3⟩:=S7.out.xs;obtain⟨hl7,hgl7,_,_⟩:=S7.out.lts;have RC:Bh W7 c k.cache:=S7.out.ink.2.2.2.2.2.rd;have CF:=AA (fun W (hW:Below W7.heap.size W7 W)=>Jx c k.cache (en:Int) ((an:Int)/4) W (A6.below RC hW));clear RC;refine Al 10 121 [.p w.heap.size 0, .p g 0, .p g 0, .p g 3, .v c, .p w.heap.size 1, .p w.heap.size 2, .i ((en:Int)), .i (((an:Int)/4)), .i (Eu k.cache (en:Int) ((an:Int)/4))] (fun _ _ _=>True) ?_ ?_
      ·intro i hi o ho a wx Hb Hd hG K HK
       have mc0:=bc hG hl7 y0;have mc1:=bc hG hgl7 x3;have mc2:=bc hG hl7 y2
       match i,hi with
       |0,_|2,_|3,_|5,_|6,_|8,_=>exact sP ho HK Hb Hd
       |1,_=>exact sL ho HK Hb Hd (hl:=GC (by assumption))
       |4,_=>exact sL ho HK Hb Hd (hl:=K6 (by assumption))
       |7,_=>exact sL ho HK Hb Hd (hl:=Fg (by assumption))
       |9,_=>exact sD ho HK Hb Hd (CF.out _ hG)
      ·intro vs wx hR hG
       have q9:(vs 9)= .int .i64 (Eu k.cache (en:Int) ((an:Int)/4)):=BT hR 9;clear hR;simp only[Ai,AQ,List.range,List.range.loop,List.foldl_cons,List.foldl_nil,q9];simp;clear q9;have S8:=AA (S7.out.below hG);have HP8:=AA (hG);clear y0 y2 y3 x3 hG
       by_cases hfc:Eu k.cache (en:Int) ((an:Int)/4)<0
       rotate_left
       ·have HU:=AA (show EA k.cache (en:Int) ((an:Int)/4) fp wp=k.cache by unfold EA;rw[if_neg hfc])
        go_wp2_with fail;go_ret2;exact⟨by rw[HPE.out]<;>rfl,fun _=>⟨_,_,_,_,by rw[HPE.out,HU.out];exact S8.out.ink⟩,S8.out.bel⟩
       ·have HU:=AA (show EA k.cache (en:Int) ((an:Int)/4) fp wp=El k.cache ⟨(en:Int),((an:Int)/4),(fp:Int),wp⟩ by unfold EA;rw[if_pos hfc])
        obtain⟨W8,rfl⟩:∃W8:World,W8=wx:=⟨_,rfl⟩
        have hQ8:=AG hQ7.out HP8.out;obtain⟨y0,_,y2,y3,_,_,_⟩:=S8.out.ys;obtain⟨_,_,_,x3⟩:=S8.out.xs;obtain⟨hl8,hgl8,ngb,nbg⟩:=S8.out.lts;have hq8:=Aq hQ8;have pz0:=cell_of_row _ _ 0 _ _ _ hQ8;have pz2:=cell_of_row _ _ 2 _ _ _ hQ8;have RC:Bh W8 c k.cache:=S8.out.ink.2.2.2.2.2.rd;have hck:Ca ⟨(en:Int),((an:Int)/4),(fp:Int),wp⟩=true:=by have:=Hfp.out;simp only[Ca,Bool.and_eq_true,Ac];omega
        have CP:=AA (fun W (hW:Below W8.heap.size W8 W)=>KB c k.cache ⟨(en:Int),((an:Int)/4),(fp:Int),wp⟩ W (A6.below RC hW) (AT HK.out).2.2 hck);simp only[AU.val] at CP;clear RC hck hQ8;go_wp2_with fail;refine Cz 23 121 (fun ix=>ix==22) [.p w.heap.size 0, .p g 0, .p w.heap.size 0, .p g 0, .p g 0, .p g 3, .v c, .p w.heap.size 1, .p w.heap.size 2, .i ((en:Int)), .i (((an:Int)/4)), .p q 0, .i ((fp:Int)), .p q 2, .b wp, .a #[.int .i64 en, .int .i64 (((an:Int)/4)), .int .i64 fp, .bool wp], .z, .z, .z, .b true, .p g 0, .p g 3, .z] (fun ll ix vv ww=>match ix with
         |16=>∃v',vv= .tuple #[v', .bool true]∧AC W8.heap.size 95 4 AJ ww v' (El k.cache ⟨(en:Int),((an:Int)/4),(fp:Int),wp⟩)
         |17=>∃v',vv= .tuple #[v', .bool true]∧AC W8.heap.size 95 4 AJ ww v' (El k.cache ⟨(en:Int),((an:Int)/4),(fp:Int),wp⟩)
         |18=>AC W8.heap.size 95 4 AJ ww vv (El k.cache ⟨(en:Int),((an:Int)/4),(fp:Int),wp⟩)
         |_=>True) (fun ll ww=>OR W8 lo g w.heap.size ⟨10,(en:Int),(an:Int),b1,c1,nm⟩ w (.slice (some ⟨gm,0,none⟩) 12 capm) (.slice (some ⟨gi,0,none⟩) 12 capi) (.slice (some ⟨ge,0,none⟩) 3 cap) {k with cache:=(El k.cache ⟨(en:Int),((an:Int)/4),(fp:Int),wp⟩)} (ll 22) ww) ?_ ?_ ?_ ?_ ?_ ?_
        ·exact Ao (Below.refl _ _) 1
        ·intro j hj ll i vv wz ww' hi hS hLi hLj hbz hz
         match j,hj with
         |16,_=>exact(by obtain⟨v',h0,h1⟩:=hz;exact⟨v',h0,AC.below h1 hbz⟩)
         |17,_=>exact(by obtain⟨v',h0,h1⟩:=hz;exact⟨v',h0,AC.below h1 hbz⟩)
         |18,_=>exact(AC.below hz hbz)
         |0,_|1,_|2,_|3,_|4,_|5,_|6,_|7,_|8,_|9,_|10,_|11,_|12,_|13,_|14,_|15,_|19,_|20,_|21,_|22,_=>exact hz
         |_+23,hq=>exact absurd hq (by omega)
        ·intro ll i wz ww' hi hS hLi hbz hg
         show OR _ _ _ _ _ _ _ _ _ _ (Gy ll i 22) _
         rw[ER (by rintro rfl;cases hS)];exact OR.grow hg hbz
        ·intro i hi hS o ho a wx Hb ll Hd HL hG K HK
         match i,hi,hS with
         |0,_,_|2,_,_|4,_,_|5,_,_|7,_,_|8,_,_|10,_,_|11,_,_|13,_,_|15,_,_|20,_,_|21,_,_=>exact Tk ho HK Hb Hd HL
         |1,_,_|3,_,_=>have u22:=Cl HL 22;rw[u22] at hG;replace hG:Below W8.heap.size W8 wx:=hG;have mc0:=bc hG hl8 y0;exact Je ho HK Hb Hd HL (hl:=GC (by assumption))
         |6,_,_=>have u22:=Cl HL 22;rw[u22] at hG;replace hG:Below W8.heap.size W8 wx:=hG;have mc1:=bc hG hgl8 x3;exact Je ho HK Hb Hd HL (hl:=K6 (by assumption))
         |9,_,_=>have u22:=Cl HL 22;rw[u22] at hG;replace hG:Below W8.heap.size W8 wx:=hG;have mc2:=bc hG hl8 y2;exact Je ho HK Hb Hd HL (hl:=Fg (by assumption))
         |12,_,_=>have u22:=Cl HL 22;rw[u22] at hG;replace hG:Below W8.heap.size W8 wx:=hG;have mc3:=bc hG hq8 pz0;exact Je ho HK Hb Hd HL (hl:=Fg (by assumption))
         |14,_,_=>have u22:=Cl HL 22;rw[u22] at hG;replace hG:Below W8.heap.size W8 wx:=hG;have mc4:=bc hG hq8 pz2;exact Je ho HK Hb Hd HL (hl:=V0 (by assumption))
         |22,_,hs=>exact absurd hs (by decide)
         |16,_,_=>obtain rfl:=So_ ho;have d6:(a.tmps[105]?.getD undef)=c:=Ec Hd HL 6;have d15:(a.tmps[114]?.getD undef)= .agg #[.int .i64 en, .int .i64 (((an:Int)/4)), .int .i64 fp, .bool wp]:=Ec Hd HL 15;have u22:=Cl HL 22;rw[u22] at hG;replace hG:Below W8.heap.size W8 wx:=hG;clear Hd Hb;refine Aa.of rfl ?_;go_simp;refine(CP.out _ hG).mono ?_;rintro e w_ ⟨v',rfl,hO,hb2⟩;exact HK.out _ _ ⟨_,rfl,hO.lower hG.size⟩ hb2
         |17,_,_=>
          obtain rfl:=So_ ho;have d16:∃v',(a.tmps[115]?.getD undef)= .tuple #[v', .bool true]∧AC W8.heap.size 95 4 AJ wx v' (El k.cache ⟨(en:Int),((an:Int)/4),(fp:Int),wp⟩):=Ec Hd HL 16
          have u22:=Cl HL 22;rw[u22] at hG;replace hG:Below W8.heap.size W8 wx:=hG;clear Hd Hb;obtain⟨v',d16,hO⟩:=d16;refine Aa.of rfl ?_;go_simp;exact HK.out _ _ ⟨_,rfl,hO⟩ (Below.refl _ _)
         |18,_,_=>
          obtain rfl:=So_ ho;have d17:∃v',(a.tmps[98]?.getD undef)= .tuple #[v', .bool true]∧AC W8.heap.size 95 4 AJ wx v' (El k.cache ⟨(en:Int),((an:Int)/4),(fp:Int),wp⟩):=Ec Hd HL 17
          have u22:=Cl HL 22;rw[u22] at hG;replace hG:Below W8.heap.size W8 wx:=hG;clear Hd Hb;obtain⟨v',d17,hO⟩:=d17;refine Aa.of rfl ?_;go_simp;exact HK.out _ _ hO (Below.refl _ _)
         |19,_,_=>
          obtain rfl:=So_ ho;have d17:∃v',(a.tmps[98]?.getD undef)= .tuple #[v', .bool true]∧AC W8.heap.size 95 4 AJ wx v' (El k.cache ⟨(en:Int),((an:Int)/4),(fp:Int),wp⟩):=Ec Hd HL 17
          clear Hd Hb;obtain⟨v',d17,hO⟩:=d17;refine Aa.of rfl ?_;go_simp;exact HK.out _ _ rfl (Below.refl _ _)
         |_+23,hq,_=>exact absurd hq (by omega)
        ·intro i hi hS o ho a wx Hb ll Hd HL hG K HK
         match i,hi,hS with
         |0,_,hs|1,_,hs|2,_,hs|3,_,hs|4,_,hs|5,_,hs|6,_,hs|7,_,hs|8,_,hs|9,_,hs|10,_,hs|11,_,hs|12,_,hs|13,_,hs|14,_,hs|15,_,hs|16,_,hs|17,_,hs|18,_,hs|19,_,hs|20,_,hs|21,_,hs=>exact absurd hs (by decide)
         |22,_,_=>
          obtain rfl:=So_ ho;have d21:(a.tmps[119]?.getD undef)= .pointer (some ⟨g,3,none⟩):=Ec Hd HL 21;have d18:AC W8.heap.size 95 4 AJ wx (a.tmps[116]?.getD undef) (El k.cache ⟨(en:Int),((an:Int)/4),(fp:Int),wp⟩):=Ec Hd HL 18;clear Hd Hb;rw[HL.out.1] at hG;replace hG:Below W8.heap.size W8 wx:=hG;have x3w:=(S8.out.below hG).xs.2.2.2;have fzg:=AI (S8.out.below hG).ink.1;generalize e116:a.tmps[116]?.getD undef=v16 at d18;have S9:=AA (S8.out.cache hG d18);obtain⟨_,_,rfl,_,_⟩:=d18.rd.shape;clear d18;refine Aa.of rfl ?_;go_simp;exact HK.out undef _ trivial (by rw[En];exact⟨_,S9.out⟩) (fun j hji hjn hjl hu=>match j,hjn with
           |0,_|1,_|2,_|3,_|4,_|5,_|6,_|7,_|8,_|9,_|10,_|11,_|12,_|13,_|14,_|15,_|19,_|20,_|21,_|22,_=>hu
           |16,_=>(by obtain⟨v',h0,h1⟩:=hu;exact⟨v',h0,II h1 hgl8⟩)
           |17,_=>(by obtain⟨v',h0,h1⟩:=hu;exact⟨v',h0,II h1 hgl8⟩)
           |18,_=>II hu hgl8
           |_+23,hq=>absurd hq (by omega))
         |_+23,hq,_=>exact absurd hq (by omega)
        ·intro vs wx ll hall hR hG
         clear hR;simp only[DS,BW,List.range,List.range.loop,List.foldl_cons,List.foldl_nil];simp;rw[hall 22 (by decide)] at hG;obtain⟨c',S9⟩:=hG;have S9:=AA S9;clear hall y0 y2 y3 x3 pz0 pz2;go_wp2_with fail;go_ret2;exact⟨by rw[HPE.out]<;>rfl,fun _=>⟨_,_,_,_,by rw[HPE.out,HU.out];exact S9.out.ink⟩,S9.out.bel⟩
    ·have E:=AA (show Gz k ⟨10,(en:Int),(an:Int),b1,c1,nm⟩=(k,0,3) by rw[HP2.out,if_pos e7])
     rw[if_neg e7] at CW0;have CW:=AA CW0;have e7':(cp !=0)=true:=by simp[e7]
     clear CW0 HKW2 HKW hwp e7;refine Cz 16 121 (fun ix=>ix==14) [.p w.heap.size 0, .p g 0, .p g 0, .p g 0, .s gm 12 capm, .i ((rn:Int)), .p w.heap.size 1, .p w.heap.size 3, .i ((an:Int)), .v (.tuple #[.agg #[.int .i64 0, .int .i64 0, .bool false], .int .i64 cp]), .v (.tuple #[.agg #[.int .i64 0, .int .i64 0, .bool false], .int .i64 cp]), .a #[.int .i64 0, .int .i64 0, .bool false], .i cp, .z, .z, .i cp] (fun ll ix vv ww=>match ix with
      |13=>Cd W5.heap.size (ll 14) vv ww (0) (0) false
      |_=>True) (fun ll ww=>Below W5.heap.size W5 ww) ?_ ?_ ?_ ?_ ?_ ?_
     ·exact Ao (Below.refl _ _) 1
     ·intro j hj ll i vv wz ww' hi hS hLi hLj hbz hz
      match j,hj with
      |13,_=>exact(Cd.below (by rw[ER (by rintro rfl;cases hS)];exact hz) hbz)
      |0,_|1,_|2,_|3,_|4,_|5,_|6,_|7,_|8,_|9,_|10,_|11,_|12,_|14,_|15,_=>exact hz
      |_+16,hq=>exact absurd hq (by omega)
     ·intro ll i wz ww' hi hS hLi hbz hg
      exact hg.trans (hbz.mono hg.size)
     ·intro i hi hS o ho a wx Hb ll Hd HL hG K HK
      have mc0:=bc hG hl5 y0;have mc1:=bc hG hgl5 x0;have mc2:=bc hG hl5 y3
      match i,hi,hS with
      |0,_,_|2,_,_|3,_,_|5,_,_|6,_,_|7,_,_|10,_,_|11,_,_|12,_,_|15,_,_=>exact Tk ho HK Hb Hd HL
      |1,_,_=>exact Je ho HK Hb Hd HL (hl:=GC (by assumption))
      |4,_,_=>exact Je ho HK Hb Hd HL (hl:=Ff (by assumption))
      |8,_,_=>exact Je ho HK Hb Hd HL (hl:=Fg (by assumption))
      |9,_,_=>exact Vt ho HK Hb Hd HL (CW.out _ hG)
      |14,_,hs=>exact absurd hs (by decide)
      |13,_,_=>clear mc0 mc1 mc2;obtain rfl:=So_ ho;have u14:=Cl HL 14;clear Hd Hb;refine Aa.of rfl ?_;go_simp;exact HK.out _ _ (Cd.zero (by rw[ER (by decide)];exact u14) hG.size (heap_alloc_new _ _)) (AF _ _)
      |_+16,hq,_=>exact absurd hq (by omega)
     ·intro i hi hS o ho a wx Hb ll Hd HL hG K HK
      match i,hi,hS with
      |0,_,hs|1,_,hs|2,_,hs|3,_,hs|4,_,hs|5,_,hs|6,_,hs|7,_,hs|8,_,hs|9,_,hs|10,_,hs|11,_,hs|12,_,hs|13,_,hs|15,_,hs=>exact absurd hs (by decide)
      |14,_,_=>
       obtain rfl:=So_ ho;have d13:Cd W5.heap.size (ll 14) (a.tmps[6]?.getD undef) wx (0) (0) false:=Ec Hd HL 13;have d11:(a.tmps[50]?.getD undef)= .agg #[.int .i64 0, .int .i64 0, .bool false]:=Ec Hd HL 11;clear Hd Hb;obtain⟨q,e13,hq1,hq2⟩:=d13;rw[HL.out.1] at hq2;replace hq2:wx.heap[q]? =some (.cells #[.int .i64 0, .int .i64 0, .bool false] 126 (0,0)):=hq2;have c0:=cell_of_row _ _ 0 _ _ _ hq2;have c1_:=cell_of_row _ _ 1 _ _ _ hq2;have c2:=cell_of_row _ _ 2 _ _ _ hq2;have fq:=AI hq2;have Pl:=AA (JX (W:=W5) (a:= .int .i64 0) (b:= .int .i64 0) (c:= .bool false) hq2 hG hq1);have E13:=AA e13;clear hq2;refine Aa.of rfl ?_;go_simp;exact HK.out undef _ trivial Pl.out.2 (fun j hji hjn hjl hu=>match j,hjn with
        |0,_|1,_|2,_|3,_|4,_|5,_|6,_|7,_|8,_|9,_|10,_|11,_|12,_|14,_|15,_=>hu
        |13,_=>⟨q,E13.out,hq1,by rw[En];exact Pl.out.1⟩
        |_+16,hq=>absurd hq (by omega))
      |_+16,hq,_=>exact absurd hq (by omega)
     ·intro vs wx ll hall hR hG
      have q11:(vs 11)= .agg #[.int .i64 0, .int .i64 0, .bool false]:=BT hR 11;have q12:(vs 12)= .int .i64 cp:=BT hR 12;have q13:Cd W5.heap.size (ll 14) (vs 13) wx (0) (0) false:=BT hR 13;have q15:(vs 15)= .int .i64 cp:=BT hR 15;clear hR;simp only[DS,BW,List.range,List.range.loop,List.foldl_cons,List.foldl_nil,q11,q12,q15];simp;generalize vs 13=z13 at q13 ⊢;clear q11 q12 q15;have hGx:=AA hG;clear x0 y0 y1 y2 y3 y4 y5 y6 hG hall q13;go_wp2_with fail;go_ret2;exact Cr.bad E.out (by decide) (S5.out.below hGx.out).bel
 ·have HP:=AA P
  clear P;go_in;go_wp2_with fail;generalize hW0:w.alloc _=W0 at*;clear hW0;refine(CE.out _ (Below.refl _ _)).mono ?_;rintro r W1 ⟨rfl,hb1⟩;have S1:=AA (HS.out.below hb1);clear y0 y1 y2 y3 y4 y5 y6;obtain⟨y0,y1,y2,y3,y4,y5,y6⟩:=S1.out.ys;obtain⟨_,_,_,D1,_⟩:=S1.out.env (j:=en) (by rw[HK.out.envl];exact hen);clear hb1;cases e4:Bv a1 0 63
  ·have T:=AA e4
   have E:=AA (show Gz k ⟨11,(en:Int),a1,b1,c1,nm⟩=(k,0,3) by rw[HP.out,if_pos (.inl e4)]);clear e4;go_wp2_with fail;refine(C0.out W1).mono ?_;rintro r w1 ⟨rfl,hb2⟩;rw[T.out];have S2:=AA (S1.out.below hb2);go_wp2_with fail;go_ret2;exact Cr.bad E.out (by decide) S2.out.bel
  ·have T:=AA e4
   have ab:=Ac.1 e4;obtain⟨an,rfl⟩:∃n:Nat,a1=(n:Int):=⟨a1.toNat,by omega⟩
   have han:an<64:=by omega
   clear e4;go_wp2_with fail;refine(C0.out W1).mono ?_;rintro r W2 ⟨rfl,hb2⟩;rw[T.out];have S2:=AA (S1.out.below hb2);clear y0 y1 y2 y3 y4 y5 y6 D1;obtain⟨y0,y1,y2,y3,y4,y5,y6⟩:=S2.out.ys;clear hb2
   by_cases e5:(AD k.envs en).root<0
   ·have E:=AA (show Gz k ⟨11,(en:Int),(an:Int),b1,c1,nm⟩=(k,0,3) by rw[HP.out,if_pos (.inr (.inl e5))])
    go_wp2_with fail;go_ret2;exact Cr.bad E.out (by decide) S2.out.bel
   ·obtain⟨rn,hrn⟩:∃n:Nat,(AD k.envs en).root=(n:Int):=⟨(AD k.envs en).root.toNat,by omega⟩
    have hr12:rn<12:=by have:=root_lt HK.out hen;omega
    have HR:=AA hrn;have e5':¬(rn:Int)<0:=by omega
    clear e5;rw[hrn];clear hrn;cases e6:Bv b1 0 9999
    ·have T6:=AA e6
     have E:=AA (show Gz k ⟨11,(en:Int),(an:Int),b1,c1,nm⟩=(k,0,3) by rw[HP.out,if_pos (.inr (.inr ⟨by first|rfl|trivial,e6⟩))]);clear e6;go_wp2_with fail;refine(C1.out W2).mono ?_;rintro r w1 ⟨rfl,hb2⟩;rw[T6.out];have S3:=AA (S2.out.below hb2);go_wp2_with fail;go_ret2;exact Cr.bad E.out (by decide) S3.out.bel
    ·have T6:=AA e6
     clear e6;go_wp2_with fail;refine(C1.out W2).mono ?_;rintro r W5 ⟨rfl,hb2⟩;rw[T6.out];have S5:=AA (S2.out.below hb2);clear S2 y0 y1 y2 y3 y4 y5 y6 hb2;go_wp2_with fail;have HP2:=AA (show Gz k ⟨11,(en:Int),(an:Int),b1,c1,nm⟩=_ by rw[HP.out,if_neg (by rintro(x|x|⟨_,x⟩);(· rw[T.out] at x;cases x);(· rw[show(AD k.envs en).root=(rn:Int) from HR.out] at x;omega);(· rw[show Ee b1=true from T6.out] at x;cases x))]);have CW0:=fun W (hW:Below W5.heap.size W5 W)=>Qi _ k.mem rn an W (S5.out.ink.2.2.rd.1.below hW) (AT HK.out).1 hr12 han
     have HKW:=AA (HK.out.walk_data (e:=en) (a:=an) hen (by show(0:Int)≤(AD k.envs en).root;rw[HR.out];omega));unfold Fj If Da at CW0;rw[HR.out] at HP2;simp only[Int.toNat_natCast] at HP2;have HKW2:=HKW.out;unfold AY at HKW2;rw[HR.out] at HKW2;simp only[Int.toNat_natCast] at HKW2;obtain⟨a4,ha4e⟩:∃n,n=an%4:=⟨_,rfl⟩
     simp only[←ha4e] at CW0;have HA4:=AA ha4e;have an4:a4<4:=by omega
     clear ha4e;generalize hwp:BS k.mem rn an=x at*;obtain⟨cp,fp,wp⟩:=x;simp only at CW0 HP2 HKW2;obtain⟨y0,y1,y2,y3,y4,y5,y6⟩:=S5.out.ys;obtain⟨x0,_,_,_⟩:=S5.out.xs;obtain⟨hl5,hgl5,ngb,nbg⟩:=S5.out.lts
     by_cases e7:cp=0
     ·subst e7
      simp only[if_true] at CW0;have CW:=AA CW0;have Hfp:=AA (HKW2 rfl).1;clear CW0 HKW2 HKW hwp;refine Cz 16 121 (fun ix=>ix==14) [.p w.heap.size 0, .p g 0, .p g 0, .p g 0, .s gm 12 capm, .i ((rn:Int)), .p w.heap.size 1, .p w.heap.size 3, .i ((an:Int)), .v (.tuple #[.agg #[.int .i64 fp, .int .i64 a4, .bool wp], .int .i64 0]), .v (.tuple #[.agg #[.int .i64 fp, .int .i64 a4, .bool wp], .int .i64 0]), .a #[.int .i64 fp, .int .i64 a4, .bool wp], .i 0, .z, .z, .i 0] (fun ll ix vv ww=>match ix with
       |13=>Cd W5.heap.size (ll 14) vv ww ((fp:Int)) ((a4:Int)) wp
       |_=>True) (fun ll ww=>Below W5.heap.size W5 ww) ?_ ?_ ?_ ?_ ?_ ?_
      ·exact Ao (Below.refl _ _) 1
      ·intro j hj ll i vv wz ww' hi hS hLi hLj hbz hz
       match j,hj with
       |13,_=>exact(Cd.below (by rw[ER (by rintro rfl;cases hS)];exact hz) hbz)
       |0,_|1,_|2,_|3,_|4,_|5,_|6,_|7,_|8,_|9,_|10,_|11,_|12,_|14,_|15,_=>exact hz
       |_+16,hq=>exact absurd hq (by omega)
      ·intro ll i wz ww' hi hS hLi hbz hg
       exact hg.trans (hbz.mono hg.size)
      ·intro i hi hS o ho a wx Hb ll Hd HL hG K HK
       have mc0:=bc hG hl5 y0;have mc1:=bc hG hgl5 x0;have mc2:=bc hG hl5 y3
       match i,hi,hS with
       |0,_,_|2,_,_|3,_,_|5,_,_|6,_,_|7,_,_|10,_,_|11,_,_|12,_,_|15,_,_=>exact Tk ho HK Hb Hd HL
       |1,_,_=>exact Je ho HK Hb Hd HL (hl:=GC (by assumption))
       |4,_,_=>exact Je ho HK Hb Hd HL (hl:=Ff (by assumption))
       |8,_,_=>exact Je ho HK Hb Hd HL (hl:=Fg (by assumption))
       |9,_,_=>exact Vt ho HK Hb Hd HL (CW.out _ hG)
       |14,_,hs=>exact absurd hs (by decide)
       |13,_,_=>clear mc0 mc1 mc2;obtain rfl:=So_ ho;have u14:=Cl HL 14;clear Hd Hb;refine Aa.of rfl ?_;go_simp;exact HK.out _ _ (Cd.zero (by rw[ER (by decide)];exact u14) hG.size (heap_alloc_new _ _)) (AF _ _)
       |_+16,hq,_=>exact absurd hq (by omega)
      ·intro i hi hS o ho a wx Hb ll Hd HL hG K HK
       match i,hi,hS with
       |0,_,hs|1,_,hs|2,_,hs|3,_,hs|4,_,hs|5,_,hs|6,_,hs|7,_,hs|8,_,hs|9,_,hs|10,_,hs|11,_,hs|12,_,hs|13,_,hs|15,_,hs=>exact absurd hs (by decide)
       |14,_,_=>
        obtain rfl:=So_ ho;have d13:Cd W5.heap.size (ll 14) (a.tmps[6]?.getD undef) wx ((fp:Int)) ((a4:Int)) wp:=Ec Hd HL 13;have d11:(a.tmps[50]?.getD undef)= .agg #[.int .i64 fp, .int .i64 a4, .bool wp]:=Ec Hd HL 11;clear Hd Hb;obtain⟨q,e13,hq1,hq2⟩:=d13;rw[HL.out.1] at hq2;replace hq2:wx.heap[q]? =some (.cells #[.int .i64 0, .int .i64 0, .bool false] 126 (0,0)):=hq2;have c0:=cell_of_row _ _ 0 _ _ _ hq2;have c1_:=cell_of_row _ _ 1 _ _ _ hq2;have c2:=cell_of_row _ _ 2 _ _ _ hq2;have fq:=AI hq2;have Pl:=AA (JX (W:=W5) (a:= .int .i64 fp) (b:= .int .i64 a4) (c:= .bool wp) hq2 hG hq1);have E13:=AA e13;clear hq2;refine Aa.of rfl ?_;go_simp;exact HK.out undef _ trivial Pl.out.2 (fun j hji hjn hjl hu=>match j,hjn with
         |0,_|1,_|2,_|3,_|4,_|5,_|6,_|7,_|8,_|9,_|10,_|11,_|12,_|14,_|15,_=>hu
         |13,_=>⟨q,E13.out,hq1,by rw[En];exact Pl.out.1⟩
         |_+16,hq=>absurd hq (by omega))
       |_+16,hq,_=>exact absurd hq (by omega)
      ·intro vs wx ll hall hR hG
       have q11:(vs 11)= .agg #[.int .i64 fp, .int .i64 a4, .bool wp]:=BT hR 11;have q12:(vs 12)= .int .i64 0:=BT hR 12;have q13:Cd W5.heap.size (ll 14) (vs 13) wx ((fp:Int)) ((a4:Int)) wp:=BT hR 13;have q15:(vs 15)= .int .i64 0:=BT hR 15;clear hR;simp only[DS,BW,List.range,List.range.loop,List.foldl_cons,List.foldl_nil,q11,q12,q15];simp;generalize vs 13=z13 at q13 ⊢;clear q11 q12 q15;obtain⟨q,rfl,hq1,hq2⟩:=q13;rw[hall 14 (by decide)] at hq2;replace hq2:wx.heap[q]? =some (.cells #[.int .i64 fp, .int .i64 a4, .bool wp] 126 (0,0)):=hq2;have S6:=AA (S5.out.below hG);have hQ6:=hq2;clear hq2 x0 y0 y1 y2 y3 y4 y5 y6 hG hall;obtain⟨W6,rfl⟩:∃W6:World,W6=wx:=⟨_,rfl⟩
       have HPE:=AA (show Gz k ⟨11,(en:Int),(an:Int),b1,c1,nm⟩=if wp=false then(k,0,1) else({k with mem:=CZ k.mem fp a4 b1,cache:=EA k.cache (en:Int) ((an:Int)/4) fp wp},0,0) by rw[HP2.out,if_neg (by simp)];simp only[true_and,if_true,show((an:Int)%4).toNat=a4 by have:=HA4.out;omega])
       have z2_:=cell_of_row _ _ 2 _ _ _ hQ6;cases wp
       ·have E:=AA (show Gz k ⟨11,(en:Int),(an:Int),b1,c1,nm⟩=(k,0,1) by rw[HPE.out,if_pos rfl])
        go_wp2_with fail;go_ret2;exact Cr.bad E.out (by decide) S6.out.bel
       have HPE2:=AA (show Gz k ⟨11,(en:Int),(an:Int),b1,c1,nm⟩=({k with mem:=CZ k.mem fp a4 b1,cache:=EA k.cache (en:Int) ((an:Int)/4) fp true},0,0) by rw[HPE.out,if_neg (by decide)]);go_wp2_with fail;clear z2_ HPE;have HPE:=HPE2;obtain⟨y0,_,_,y3,y4,_,_⟩:=S6.out.ys;obtain⟨x0,_,_,_⟩:=S6.out.xs;obtain⟨gw,capw,Dw0,hgw,hcw,Dj,fzw,⟨⟨ngw1,ngw2⟩,ngw3,ngw4⟩,_,_,SW⟩:=S6.out.mrow (AT HK.out).1 (f:=fp) Hfp.out;have z0:=cell_regrown (cell_of_row _ _ 0 _ _ _ hQ6);have z1:=cell_regrown (cell_of_row _ _ 1 _ _ _ hQ6);replace y0:=cell_regrown y0;replace x0:=cell_regrown x0;have Dw:=cell_regrown Dw0;have hf12:(fp:Int)<12:=by have:=Hfp.out;omega
       have ha4:(a4:Int)<4:=by omega
       have hbl:=S6.out.lts.1;have HD:=AA Dj;clear Dj SW;refine wp_region_quiet_below mixed (by kernel_rfl) ?_
       repeat(go_big_quiet_step (fail))
       refine wpQuiet_nil ?_;intro _ hw';obtain⟨⟨dq,osq⟩,hw''⟩:=hw';subst hw'';have bq:=below_regrown W6 dq osq;generalize Sort.grow (redrawn W6 dq) osq=wq at bq;clear z0 z1 y0 x0 Dw;have S7:=AA (S6.out.below bq);have hQ7:=AA (AG hQ6 bq);have Dv:=(bq.cell (p:=⟨gw,a4,none⟩) hgw).trans (HD.out a4 an4);replace y3:=(bq.cell (p:=⟨w.heap.size,3,none⟩) hbl).trans y3;replace y4:=(bq.cell (p:=⟨w.heap.size,4,none⟩) hbl).trans y4;have hd4:(0:Int)≤(an:Int):=by omega
       obtain⟨gw',capw',Dw7,hgw7,_,_,fzw7,_,_,hT7,SW7⟩:=S7.out.mrow (AT HK.out).1 (f:=fp) Hfp.out;have hsame:=(bq.cell (p:=⟨gm,fp,none⟩) (World.block_lt_of_cell? _ _ Dw0)).trans Dw0;rw[hsame] at Dw7;have hgg:gw=gw':=by simp at Dw7;exact Dw7.1
       subst hgg;have S7b:=AA (SW7 a4 b1 an4);have hQb:=AA (BD hQ7.out (Aj wq gw a4 (.int .i64 b1)) (hT7 q _ _ hQ7.out (by decide)));have fz7:=fzw7 a4;clear hQ6 SW7 hT7 fzw7 hsame Dw7 Dw0 HD fzw bq S7 hQ7 S6;go_wp2_with fail;clear y3 y4 Dv fz7;generalize wq.setCell _ _=W7 at*;have S7:=S7b;have hQ7:=hQb;clear S7b hQb;obtain⟨y0,_,y2,y3,_,_,_⟩:=S7.out.ys;obtain⟨_,_,_,x3⟩:=S7.out.xs;obtain⟨hl7,hgl7,_,_⟩:=S7.out.lts;have RC:Bh W7 c k.cache:=S7.out.ink.2.2.2.2.2.rd;have CF:=AA (fun W (hW:Below W7.heap.size W7 W)=>Jx c k.cache (en:Int) ((an:Int)/4) W (A6.below RC hW));clear RC;refine Al 10 121 [.p w.heap.size 0, .p g 0, .p g 0, .p g 3, .v c, .p w.heap.size 1, .p w.heap.size 2, .i ((en:Int)), .i (((an:Int)/4)), .i (Eu k.cache (en:Int) ((an:Int)/4))] (fun _ _ _=>True) ?_ ?_
       ·intro i hi o ho a wx Hb Hd hG K HK
        have mc0:=bc hG hl7 y0;have mc1:=bc hG hgl7 x3;have mc2:=bc hG hl7 y2
        match i,hi with
        |0,_|2,_|3,_|5,_|6,_|8,_=>exact sP ho HK Hb Hd
        |1,_=>exact sL ho HK Hb Hd (hl:=GC (by assumption))
        |4,_=>exact sL ho HK Hb Hd (hl:=K6 (by assumption))
        |7,_=>exact sL ho HK Hb Hd (hl:=Fg (by assumption))
        |9,_=>exact sD ho HK Hb Hd (CF.out _ hG)
       ·intro vs wx hR hG
        have q9:(vs 9)= .int .i64 (Eu k.cache (en:Int) ((an:Int)/4)):=BT hR 9;clear hR;simp only[Ai,AQ,List.range,List.range.loop,List.foldl_cons,List.foldl_nil,q9];simp;clear q9;have S8:=AA (S7.out.below hG);have HP8:=AA (hG);clear y0 y2 y3 x3 hG
        by_cases hfc:Eu k.cache (en:Int) ((an:Int)/4)<0
        rotate_left
        ·have HU:=AA (show EA k.cache (en:Int) ((an:Int)/4) fp true=k.cache by unfold EA;rw[if_neg hfc])
         go_wp2_with fail;go_ret2;exact⟨by rw[HPE.out]<;>rfl,fun _=>⟨_,_,_,_,by rw[HPE.out,HU.out];exact S8.out.ink⟩,S8.out.bel⟩
        ·have HU:=AA (show EA k.cache (en:Int) ((an:Int)/4) fp true=El k.cache ⟨(en:Int),((an:Int)/4),(fp:Int),true⟩ by unfold EA;rw[if_pos hfc])
         obtain⟨W8,rfl⟩:∃W8:World,W8=wx:=⟨_,rfl⟩
         have hQ8:=AG hQ7.out HP8.out;obtain⟨y0,_,y2,y3,_,_,_⟩:=S8.out.ys;obtain⟨_,_,_,x3⟩:=S8.out.xs;obtain⟨hl8,hgl8,ngb,nbg⟩:=S8.out.lts;have hq8:=Aq hQ8;have pz0:=cell_of_row _ _ 0 _ _ _ hQ8;have pz2:=cell_of_row _ _ 2 _ _ _ hQ8;have RC:Bh W8 c k.cache:=S8.out.ink.2.2.2.2.2.rd;have hck:Ca ⟨(en:Int),((an:Int)/4),(fp:Int),true⟩=true:=by have:=Hfp.out;simp only[Ca,Bool.and_eq_true,Ac];omega
         have CP:=AA (fun W (hW:Below W8.heap.size W8 W)=>KB c k.cache ⟨(en:Int),((an:Int)/4),(fp:Int),true⟩ W (A6.below RC hW) (AT HK.out).2.2 hck);simp only[AU.val] at CP;clear RC hck hQ8;go_wp2_with fail;refine Cz 23 121 (fun ix=>ix==22) [.p w.heap.size 0, .p g 0, .p w.heap.size 0, .p g 0, .p g 0, .p g 3, .v c, .p w.heap.size 1, .p w.heap.size 2, .i ((en:Int)), .i (((an:Int)/4)), .p q 0, .i ((fp:Int)), .p q 2, .b true, .a #[.int .i64 en, .int .i64 (((an:Int)/4)), .int .i64 fp, .bool true], .z, .z, .z, .b true, .p g 0, .p g 3, .z] (fun ll ix vv ww=>match ix with
          |16=>∃v',vv= .tuple #[v', .bool true]∧AC W8.heap.size 95 4 AJ ww v' (El k.cache ⟨(en:Int),((an:Int)/4),(fp:Int),true⟩)
          |17=>∃v',vv= .tuple #[v', .bool true]∧AC W8.heap.size 95 4 AJ ww v' (El k.cache ⟨(en:Int),((an:Int)/4),(fp:Int),true⟩)
          |18=>AC W8.heap.size 95 4 AJ ww vv (El k.cache ⟨(en:Int),((an:Int)/4),(fp:Int),true⟩)
          |_=>True) (fun ll ww=>OR W8 lo g w.heap.size ⟨11,(en:Int),(an:Int),b1,c1,nm⟩ w (.slice (some ⟨gm,0,none⟩) 12 capm) (.slice (some ⟨gi,0,none⟩) 12 capi) (.slice (some ⟨ge,0,none⟩) 3 cap) {k with mem:=CZ k.mem fp a4 b1,cache:=(El k.cache ⟨(en:Int),((an:Int)/4),(fp:Int),true⟩)} (ll 22) ww) ?_ ?_ ?_ ?_ ?_ ?_
         ·exact Ao (Below.refl _ _) 1
         ·intro j hj ll i vv wz ww' hi hS hLi hLj hbz hz
          match j,hj with
          |16,_=>exact(by obtain⟨v',h0,h1⟩:=hz;exact⟨v',h0,AC.below h1 hbz⟩)
          |17,_=>exact(by obtain⟨v',h0,h1⟩:=hz;exact⟨v',h0,AC.below h1 hbz⟩)
          |18,_=>exact(AC.below hz hbz)
          |0,_|1,_|2,_|3,_|4,_|5,_|6,_|7,_|8,_|9,_|10,_|11,_|12,_|13,_|14,_|15,_|19,_|20,_|21,_|22,_=>exact hz
          |_+23,hq=>exact absurd hq (by omega)
         ·intro ll i wz ww' hi hS hLi hbz hg
          show OR _ _ _ _ _ _ _ _ _ _ (Gy ll i 22) _
          rw[ER (by rintro rfl;cases hS)];exact OR.grow hg hbz
         ·intro i hi hS o ho a wx Hb ll Hd HL hG K HK
          match i,hi,hS with
          |0,_,_|2,_,_|4,_,_|5,_,_|7,_,_|8,_,_|10,_,_|11,_,_|13,_,_|15,_,_|20,_,_|21,_,_=>exact Tk ho HK Hb Hd HL
          |1,_,_|3,_,_=>have u22:=Cl HL 22;rw[u22] at hG;replace hG:Below W8.heap.size W8 wx:=hG;have mc0:=bc hG hl8 y0;exact Je ho HK Hb Hd HL (hl:=GC (by assumption))
          |6,_,_=>have u22:=Cl HL 22;rw[u22] at hG;replace hG:Below W8.heap.size W8 wx:=hG;have mc1:=bc hG hgl8 x3;exact Je ho HK Hb Hd HL (hl:=K6 (by assumption))
          |9,_,_=>have u22:=Cl HL 22;rw[u22] at hG;replace hG:Below W8.heap.size W8 wx:=hG;have mc2:=bc hG hl8 y2;exact Je ho HK Hb Hd HL (hl:=Fg (by assumption))
          |12,_,_=>have u22:=Cl HL 22;rw[u22] at hG;replace hG:Below W8.heap.size W8 wx:=hG;have mc3:=bc hG hq8 pz0;exact Je ho HK Hb Hd HL (hl:=Fg (by assumption))
          |14,_,_=>have u22:=Cl HL 22;rw[u22] at hG;replace hG:Below W8.heap.size W8 wx:=hG;have mc4:=bc hG hq8 pz2;exact Je ho HK Hb Hd HL (hl:=V0 (by assumption))
          |22,_,hs=>exact absurd hs (by decide)
          |16,_,_=>obtain rfl:=So_ ho;have d6:(a.tmps[105]?.getD undef)=c:=Ec Hd HL 6;have d15:(a.tmps[114]?.getD undef)= .agg #[.int .i64 en, .int .i64 (((an:Int)/4)), .int .i64 fp, .bool true]:=Ec Hd HL 15;have u22:=Cl HL 22;rw[u22] at hG;replace hG:Below W8.heap.size W8 wx:=hG;clear Hd Hb;refine Aa.of rfl ?_;go_simp;refine(CP.out _ hG).mono ?_;rintro e w_ ⟨v',rfl,hO,hb2⟩;exact HK.out _ _ ⟨_,rfl,hO.lower hG.size⟩ hb2
          |17,_,_=>
           obtain rfl:=So_ ho;have d16:∃v',(a.tmps[115]?.getD undef)= .tuple #[v', .bool true]∧AC W8.heap.size 95 4 AJ wx v' (El k.cache ⟨(en:Int),((an:Int)/4),(fp:Int),true⟩):=Ec Hd HL 16
           have u22:=Cl HL 22;rw[u22] at hG;replace hG:Below W8.heap.size W8 wx:=hG;clear Hd Hb;obtain⟨v',d16,hO⟩:=d16;refine Aa.of rfl ?_;go_simp;exact HK.out _ _ ⟨_,rfl,hO⟩ (Below.refl _ _)
          |18,_,_=>
           obtain rfl:=So_ ho;have d17:∃v',(a.tmps[98]?.getD undef)= .tuple #[v', .bool true]∧AC W8.heap.size 95 4 AJ wx v' (El k.cache ⟨(en:Int),((an:Int)/4),(fp:Int),true⟩):=Ec Hd HL 17
           have u22:=Cl HL 22;rw[u22] at hG;replace hG:Below W8.heap.size W8 wx:=hG;clear Hd Hb;obtain⟨v',d17,hO⟩:=d17;refine Aa.of rfl ?_;go_simp;exact HK.out _ _ hO (Below.refl _ _)
          |19,_,_=>
           obtain rfl:=So_ ho;have d17:∃v',(a.tmps[98]?.getD undef)= .tuple #[v', .bool true]∧AC W8.heap.size 95 4 AJ wx v' (El k.cache ⟨(en:Int),((an:Int)/4),(fp:Int),true⟩):=Ec Hd HL 17
           clear Hd Hb;obtain⟨v',d17,hO⟩:=d17;refine Aa.of rfl ?_;go_simp;exact HK.out _ _ rfl (Below.refl _ _)
          |_+23,hq,_=>exact absurd hq (by omega)
         ·intro i hi hS o ho a wx Hb ll Hd HL hG K HK
          match i,hi,hS with
          |0,_,hs|1,_,hs|2,_,hs|3,_,hs|4,_,hs|5,_,hs|6,_,hs|7,_,hs|8,_,hs|9,_,hs|10,_,hs|11,_,hs|12,_,hs|13,_,hs|14,_,hs|15,_,hs|16,_,hs|17,_,hs|18,_,hs|19,_,hs|20,_,hs|21,_,hs=>exact absurd hs (by decide)
          |22,_,_=>
           obtain rfl:=So_ ho;have d21:(a.tmps[119]?.getD undef)= .pointer (some ⟨g,3,none⟩):=Ec Hd HL 21;have d18:AC W8.heap.size 95 4 AJ wx (a.tmps[116]?.getD undef) (El k.cache ⟨(en:Int),((an:Int)/4),(fp:Int),true⟩):=Ec Hd HL 18;clear Hd Hb;rw[HL.out.1] at hG;replace hG:Below W8.heap.size W8 wx:=hG;have x3w:=(S8.out.below hG).xs.2.2.2;have fzg:=AI (S8.out.below hG).ink.1;generalize e116:a.tmps[116]?.getD undef=v16 at d18;have S9:=AA (S8.out.cache hG d18);obtain⟨_,_,rfl,_,_⟩:=d18.rd.shape;clear d18;refine Aa.of rfl ?_;go_simp;exact HK.out undef _ trivial (by rw[En];exact⟨_,S9.out⟩) (fun j hji hjn hjl hu=>match j,hjn with
            |0,_|1,_|2,_|3,_|4,_|5,_|6,_|7,_|8,_|9,_|10,_|11,_|12,_|13,_|14,_|15,_|19,_|20,_|21,_|22,_=>hu
            |16,_=>(by obtain⟨v',h0,h1⟩:=hu;exact⟨v',h0,II h1 hgl8⟩)
            |17,_=>(by obtain⟨v',h0,h1⟩:=hu;exact⟨v',h0,II h1 hgl8⟩)
            |18,_=>II hu hgl8
            |_+23,hq=>absurd hq (by omega))
          |_+23,hq,_=>exact absurd hq (by omega)
         ·intro vs wx ll hall hR hG
          clear hR;simp only[DS,BW,List.range,List.range.loop,List.foldl_cons,List.foldl_nil];simp;rw[hall 22 (by decide)] at hG;obtain⟨c',S9⟩:=hG;have S9:=AA S9;clear hall y0 y2 y3 x3 pz0 pz2;go_wp2_with fail;go_ret2;exact⟨by rw[HPE.out]<;>rfl,fun _=>⟨_,_,_,_,by rw[HPE.out,HU.out];exact S9.out.ink⟩,S9.out.bel⟩
     ·have E:=AA (show Gz k ⟨11,(en:Int),(an:Int),b1,c1,nm⟩=(k,0,3) by rw[HP2.out,if_pos e7])
      rw[if_neg e7] at CW0;have CW:=AA CW0;have e7':(cp !=0)=true:=by simp[e7]
      clear CW0 HKW2 HKW hwp e7;refine Cz 16 121 (fun ix=>ix==14) [.p w.heap.size 0, .p g 0, .p g 0, .p g 0, .s gm 12 capm, .i ((rn:Int)), .p w.heap.size 1, .p w.heap.size 3, .i ((an:Int)), .v (.tuple #[.agg #[.int .i64 0, .int .i64 0, .bool false], .int .i64 cp]), .v (.tuple #[.agg #[.int .i64 0, .int .i64 0, .bool false], .int .i64 cp]), .a #[.int .i64 0, .int .i64 0, .bool false], .i cp, .z, .z, .i cp] (fun ll ix vv ww=>match ix with
       |13=>Cd W5.heap.size (ll 14) vv ww (0) (0) false
       |_=>True) (fun ll ww=>Below W5.heap.size W5 ww) ?_ ?_ ?_ ?_ ?_ ?_
      ·exact Ao (Below.refl _ _) 1
      ·intro j hj ll i vv wz ww' hi hS hLi hLj hbz hz
       match j,hj with
       |13,_=>exact(Cd.below (by rw[ER (by rintro rfl;cases hS)];exact hz) hbz)
       |0,_|1,_|2,_|3,_|4,_|5,_|6,_|7,_|8,_|9,_|10,_|11,_|12,_|14,_|15,_=>exact hz
       |_+16,hq=>exact absurd hq (by omega)
      ·intro ll i wz ww' hi hS hLi hbz hg
       exact hg.trans (hbz.mono hg.size)
      ·intro i hi hS o ho a wx Hb ll Hd HL hG K HK
       have mc0:=bc hG hl5 y0;have mc1:=bc hG hgl5 x0;have mc2:=bc hG hl5 y3
       match i,hi,hS with
       |0,_,_|2,_,_|3,_,_|5,_,_|6,_,_|7,_,_|10,_,_|11,_,_|12,_,_|15,_,_=>exact Tk ho HK Hb Hd HL
       |1,_,_=>exact Je ho HK Hb Hd HL (hl:=GC (by assumption))
       |4,_,_=>exact Je ho HK Hb Hd HL (hl:=Ff (by assumption))
       |8,_,_=>exact Je ho HK Hb Hd HL (hl:=Fg (by assumption))
       |9,_,_=>exact Vt ho HK Hb Hd HL (CW.out _ hG)
       |14,_,hs=>exact absurd hs (by decide)
       |13,_,_=>clear mc0 mc1 mc2;obtain rfl:=So_ ho;have u14:=Cl HL 14;clear Hd Hb;refine Aa.of rfl ?_;go_simp;exact HK.out _ _ (Cd.zero (by rw[ER (by decide)];exact u14) hG.size (heap_alloc_new _ _)) (AF _ _)
       |_+16,hq,_=>exact absurd hq (by omega)
      ·intro i hi hS o ho a wx Hb ll Hd HL hG K HK
       match i,hi,hS with
       |0,_,hs|1,_,hs|2,_,hs|3,_,hs|4,_,hs|5,_,hs|6,_,hs|7,_,hs|8,_,hs|9,_,hs|10,_,hs|11,_,hs|12,_,hs|13,_,hs|15,_,hs=>exact absurd hs (by decide)
       |14,_,_=>
        obtain rfl:=So_ ho;have d13:Cd W5.heap.size (ll 14) (a.tmps[6]?.getD undef) wx (0) (0) false:=Ec Hd HL 13;have d11:(a.tmps[50]?.getD undef)= .agg #[.int .i64 0, .int .i64 0, .bool false]:=Ec Hd HL 11;clear Hd Hb;obtain⟨q,e13,hq1,hq2⟩:=d13;rw[HL.out.1] at hq2;replace hq2:wx.heap[q]? =some (.cells #[.int .i64 0, .int .i64 0, .bool false] 126 (0,0)):=hq2;have c0:=cell_of_row _ _ 0 _ _ _ hq2;have c1_:=cell_of_row _ _ 1 _ _ _ hq2;have c2:=cell_of_row _ _ 2 _ _ _ hq2;have fq:=AI hq2;have Pl:=AA (JX (W:=W5) (a:= .int .i64 0) (b:= .int .i64 0) (c:= .bool false) hq2 hG hq1);have E13:=AA e13;clear hq2;refine Aa.of rfl ?_;go_simp;exact HK.out undef _ trivial Pl.out.2 (fun j hji hjn hjl hu=>match j,hjn with
         |0,_|1,_|2,_|3,_|4,_|5,_|6,_|7,_|8,_|9,_|10,_|11,_|12,_|14,_|15,_=>hu
         |13,_=>⟨q,E13.out,hq1,by rw[En];exact Pl.out.1⟩
         |_+16,hq=>absurd hq (by omega))
       |_+16,hq,_=>exact absurd hq (by omega)
      ·intro vs wx ll hall hR hG
       have q11:(vs 11)= .agg #[.int .i64 0, .int .i64 0, .bool false]:=BT hR 11;have q12:(vs 12)= .int .i64 cp:=BT hR 12;have q13:Cd W5.heap.size (ll 14) (vs 13) wx (0) (0) false:=BT hR 13;have q15:(vs 15)= .int .i64 cp:=BT hR 15;clear hR;simp only[DS,BW,List.range,List.range.loop,List.foldl_cons,List.foldl_nil,q11,q12,q15];simp;generalize vs 13=z13 at q13 ⊢;clear q11 q12 q15;have hGx:=AA hG;clear x0 y0 y1 y2 y3 y4 y5 y6 hG hall q13;go_wp2_with fail;go_ret2;exact Cr.bad E.out (by decide) (S5.out.below hGx.out).bel
end Go.Proofs.YteocokgpmgfbaaaGreatDoor
