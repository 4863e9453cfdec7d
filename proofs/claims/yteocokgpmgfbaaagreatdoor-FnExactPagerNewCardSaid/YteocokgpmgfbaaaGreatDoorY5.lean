/-
  Packed:14 texts.
-/
import Derived.Test.YteocokgpmgfbaaaGreatDoorY4
import Derived.Test.YteocokgpmgfbaaaGreatDoorY1
import Derived.Test.YteocokgpmgfbaaaGreatDoorY2
set_option linter.unusedVariables false
set_option maxHeartbeats 16000000
set_option maxRecDepth 100000
namespace Go.Proofs.YteocokgpmgfbaaaGreatDoor
open Go.Proofs.Tryz
open Go.RowKit
structure H6 (S:Nat→Prop) (w w':World):Prop where
 os:w'.os=w.os
 tape:w'.tape=w.tape
 output:w'.output=w.output
 size:w.heap.size≤w'.heap.size
 block:∀b,b<w.heap.size→¬S b→w'.heap[b]? =w.heap[b]?
section
variable {S S':Nat→Prop} {w w1 w':World}
theorem H6.refl:H6 S w w:=⟨rfl,rfl,rfl,Nat.le_refl _,fun _ _ _=>rfl⟩
theorem H6.trans (h:H6 S w w1) (h':H6 S w1 w'):H6 S w w':=⟨h'.os.trans h.os,h'.tape.trans h.tape,h'.output.trans h.output,Nat.le_trans h.size h'.size,fun b hb hn=>(h'.block b (Nat.lt_of_lt_of_le hb h.size) hn).trans (h.block b hb hn)⟩
theorem H6.mono (h:H6 S w w') (hs:∀b,S b→S' b):H6 S' w w':=⟨h.os,h.tape,h.output,h.size,fun b hb hn=>h.block b hb fun hx=>hn (hs b hx)⟩
theorem H6.of {v:Value} (h:w.grownBy w' v.ownBlock):H6 (fun b=>v.ownBlock=some b) w w':=⟨h.os,h.tape,h.output,h.size,fun b hb hn=>h.block b hb fun e=>hn e.symm⟩
theorem H6.row {q:Nat} (h:w.grownBy w' (some q)) (hq:S q):H6 S w w':=⟨h.os,h.tape,h.output,h.size,fun b hb hn=>h.block b hb fun e=>hn (by cases e;exact hq)⟩
theorem H6.below (h:H6 S w w') {lo:Nat} (hs:∀b,S b→lo≤b) (hl:lo≤w.heap.size):Below lo w w':=by
 exact⟨h.os,h.tape,h.output,h.size,fun b hb=>h.block b (Nat.lt_of_lt_of_le hb hl) fun hx=>by have:=hs b hx;omega⟩
theorem H6.own {lo e sz n:Nat} {v:Value} {xs:List Value} (h:H6 S w w') (ho:w.ownsRow lo e sz v n xs) (hn:∀b,v.ownBlock=some b→¬S b):w'.ownsRow lo e sz v n xs:=by
 obtain⟨h1,h2⟩:=ho;refine⟨h1,?_⟩
 rcases h2 with h2|⟨g,cap,cur,rfl,h4,h5,h6⟩
 ·exact .inl h2
 ·exact .inr ⟨g,cap,cur,rfl,h4,(h.block g (Array.getElem?_eq_some_iff.1 h5).1 (hn g rfl)).trans h5,h6⟩
end
def ID (k:Int) (n:Nat):List Int:=(List.range n).map fun(j:Nat)=>k+j
theorem Fs (k:Int) (n:Nat):(ID k n).length=n:=by simp[ID]
theorem Nk (k:Int) {n j:Nat} (h:j<n):nth (ID k n) j=k+j:=by simp[nth,ID,List.getD_eq_getElem?_getD,h]
theorem QN {k:Int} {n:Nat} {ys:List Int} (hl:ys.length=n) (h:∀j,j<n→nth ys j=k+j):ys=ID k n:=by
 refine List.ext_getElem (by rw[hl,Fs]) fun j h1 h2=>?_
 have:=h j (by omega);rw[show nth ys j=ys[j] by simp[nth,List.getD_eq_getElem?_getD,h1]] at this;rw[this];simp[ID]
def EC (c:Nat):List Nat→Int
 | []=>0
 |n::ns=>(n:Int)+c+EC c ns
theorem Bt (c:Nat) (ns:List Nat):0≤EC c ns:=by
 induction ns with
 |nil=>exact Int.le_refl _
 |cons n ns ih=>simp only[EC];omega
theorem Ke (c:Nat) {ns:List Nat} {q:Nat} (h:q<ns.length):EC c (ns.take (q+1))=EC c (ns.take q)+ns[q]+c:=by
 induction ns generalizing q with
 |nil=>simp at h
 |cons n ns ih=>
  cases q with
  |zero=>simp[EC]
  |succ q=>have:=ih (q:=q) (by simpa using h);simp only[List.take_succ_cons,EC,this,List.getElem_cons_succ];omega
theorem PZ (c:Nat) {ns:List Nat} (q:Nat):EC c (ns.take q)≤EC c ns:=by
 induction ns generalizing q with
 |nil=>simp
 |cons n ns ih=>
  cases q with
  |zero=>have:=Bt c (n::ns);simpa[EC] using this
  |succ q=>have:=ih q;simp only[List.take_succ_cons,EC];omega
def FL (k:Int):List Nat→List (List Int)
 | []=>[]
 |n::ns=>ID k n::FL (k+n) ns
theorem JS (k:Int) (ns:List Nat):(FL k ns).length=ns.length:=by
 induction ns generalizing k with
 |nil=>rfl
 |cons n ns ih=>simp[FL,ih]
theorem QO (k:Int) {ns:List Nat} {q:Nat} (h:q<ns.length):(FL k ns)[q]? =some (ID (k+EC 0 (ns.take q)) ns[q]):=by
 induction ns generalizing k q with
 |nil=>simp at h
 |cons n ns ih=>
  cases q with
  |zero=>simp[FL,EC]
  |succ q=>
   simp only[FL,List.getElem?_cons_succ,List.take_succ_cons,EC,List.getElem_cons_succ];rw[ih (k+n) (by simpa using h)]
   congr 2
   omega
def IC (k:Int):List Nat→List DQ
 | []=>[]
 |n::ns=>⟨Ev D6 1 k n,k+n⟩::IC (k+n+1) ns
theorem JR (k:Int) (ns:List Nat):(IC k ns).length=ns.length:=by
 induction ns generalizing k with
 |nil=>rfl
 |cons n ns ih=>simp[IC,ih]
theorem QM (k:Int) {ns:List Nat} {q:Nat} (h:q<ns.length):(IC k ns)[q]? =some ⟨Ev D6 1 (k+EC 1 (ns.take q)) ns[q],k+EC 1 (ns.take q)+ns[q]⟩:=by
 induction ns generalizing k q with
 |nil=>simp at h
 |cons n ns ih=>
  cases q with
  |zero=>simp[IC,EC]
  |succ q=>
   simp only[IC,List.getElem?_cons_succ,List.take_succ_cons,EC,List.getElem_cons_succ];rw[ih (k+n+1) (by simpa using h)];have e:k+n+1+EC 1 (ns.take q)=k+(n+1+EC 1 (ns.take q)):=by omega
   rw[e];rfl
def Ut (vs:List Value) (b:Nat):Prop:=∃u∈vs,u.ownBlock=some b
def CL (xss:List (List Int)):List Nat:=xss.map List.length
def DC (es:List DQ):List Nat:=es.map fun e=>e.rights.length
theorem SL {xss:List (List Int)} {q:Nat} (h:q<xss.length):(CL xss)[q]'(by simpa[CL] using h)=xss[q].length:=by simp[CL]
theorem UM {es:List DQ} {q:Nat} (h:q<es.length):(DC es)[q]'(by simpa[DC] using h)=es[q].rights.length:=by simp[DC]
theorem NL (lo:Nat) (v:Value) (vs:List Value) (xss:List (List Int)) (k:Int) (w:World) (h:AV lo w v vs xss) (hs:xss.length≤1000) (hsm:∀x∈xss,x.length≤1000) (hk0:0≤k) (hk1:k+EC 0 (CL xss)≤1000000):
 Calls prog 24 #[v, .int .i64 k] w fun e w'=>e= .returned (.int .i64 (k+EC 0 (CL xss)))∧AV lo w' v vs (FL k (CL xss))∧H6 (Ut vs) w w':=by
 obtain⟨a,c,e0,hc,hcm⟩:=h.1.rd.shape;have hvl:vs.length=xss.length:=h.2.1.1;rw[hvl] at e0 hc;subst e0;unfold maxLen at hcm;have HO:=AA h;have Hvl:=AA hvl;have Hsm:=AA hsm;have Hk1:=AA hk1;generalize hn:xss.length=n at*;have Hn:=AA hn;clear h hvl hsm hk1 hn;go_in;go_wp2_with fail;go_loopw [1,5] (fun m i wr=>∃q:Nat,q≤n∧i= .int .i64 q∧m= .int .i64 (k+EC 0 ((CL xss).take q))∧(∃yss,yss.length=n∧(∀j,j<q→yss[j]? =(FL k (CL xss))[j]?)∧(∀j,q≤j→yss[j]? =xss[j]?)∧AV lo wr (.slice a n c) vs yss)∧H6 (Ut vs) w wr) (fun _ i _=>n - (intOf i).toNat)
 case atStart=>exact⟨0,Nat.zero_le _,rfl,by simp[EC],⟨xss,Hn.out,fun j hj=>absurd hj (Nat.not_lt_zero _),fun _ _=>rfl,HO.out⟩,H6.refl⟩
 case round=>
  obtain⟨q,hq,rfl,rfl,⟨yss,hl,hpre,hpost,hO⟩,hg⟩:=hrel;have HR:=AA hO;have Hg:=AA hg;have Hpre:=AA hpre;have Hpost:=AA hpost;have Hl:=AA hl;clear hO hg hpre hpost hl
  by_cases hlt:q<n
  ·have hqx:q<xss.length:=by rw[Hn.out];exact hlt
   have hqv:q<vs.length:=by rw[Hvl.out];exact hlt
   have hqi:(q:Int)<n:=by omega
   have hty:=PZ 0 (ns:=CL xss) q;have ht0:=Bt 0 ((CL xss).take q);have hk1:=Hk1.out;obtain⟨u,hu⟩:∃u,vs[q]? =some u:=⟨_,List.getElem?_eq_getElem hqv⟩
   have hx:yss[q]? =some xss[q]:=by rw[Hpost.out q (Nat.le_refl _),List.getElem?_eq_getElem hqx]
   have ho:=HR.out.2.1.2 q u _ hu hx;obtain⟨b,off,hab,hbl,D⟩:∃b off,a=some ⟨b,off,none⟩∧b<wr.heap.size∧wr.cell? ⟨b,off+q,none⟩=some u:=by obtain⟨a',c',e1,_,_,H⟩:=A6.open D8 (by decide) HR.out.1.rd;simp only[Value.slice.injEq] at e1;obtain⟨rfl,_,rfl⟩:=e1;obtain⟨b,off,e2,hb,hc⟩:=H q u hu;exact⟨b,off,e2,hb,by simpa using hc 0 u rfl⟩
   subst hab;obtain⟨ua,uc,rfl,_,_⟩:=ho.rd.open;have C:=KT lo _ xss[q] (k+EC 0 ((CL xss).take q)) wr ho (Nat.le_trans (Hsm.out _ (List.getElem_mem _)) (by decide)) (by omega) (by omega);have Hu:=AA hu;have Hx:=AA hx;generalize hz:xss[q].length=z at*;have Hz:=AA hz;clear hz;clear ho hu hx;go_wp2_with fail;refine C.mono ?_;rintro e w1 ⟨ys,rfl,yl,yn,ho1,g1⟩;have eY:=QN yl yn;have HN:=AA (HR.out.turn (f:=q) (by rw[Hl.out];exact hlt) Hu.out ho1 g1);have HG:=AA (Hg.out.trans ((H6.of g1).mono fun b hb=>⟨_,List.mem_of_getElem? Hu.out,hb⟩));have HE:=AA eY;clear C yn eY ho1 g1 D yl;go_wp2_with fail;go_roundw
   case rel=>
    refine⟨q+1,by omega,by go_num,?_,⟨yss.set q ys,by simpa using Hl.out,fun j hj=>?_,fun j hj=>?_,HN.out⟩,HG.out⟩
    ·rw[Ke 0 (by simpa[CL] using hqx),SL hqx,Hz.out]
     exact congrArg (Value.int .i64) (by omega)
    ·by_cases e:j=q
     ·subst e
      rw[List.getElem?_set_self (by rw[Hl.out];exact hlt),QO k (by simpa[CL] using hqx),SL hqx,Hz.out,HE.out]
     ·rw[List.getElem?_set_ne (Ne.symm e)]
      exact Hpre.out j (by omega)
    ·rw[List.getElem?_set_ne (by omega)]
     exact Hpost.out j (by omega)
   case measure=>simp[intOf];omega
  ·obtain rfl:q=n:=by omega
   have e1:yss=FL k (CL xss):=List.ext_getElem? fun j=>by
    by_cases hj:j<q
    ·exact Hpre.out j hj
    ·rw[List.getElem?_eq_none (by rw[Hl.out];omega),List.getElem?_eq_none (by rw[JS];simp[CL,Hn.out];omega)]
   have e2:(CL xss).take q=CL xss:=List.take_of_length_le (by simp[CL,Hn.out]);have HF:=AA (show AV lo wr (.slice a q c) vs (FL k (CL xss))∧H6 (Ut vs) w wr from⟨e1▸HR.out,Hg.out⟩);rw[e2];clear e1 e2;go_wp2_with fail;go_ret;exact⟨rfl,HF.out.1,HF.out.2⟩
theorem Jj (v:Value) (ns:List Nat) (k:Int) (w:World) (h:BI w v (FL k ns)) (hs:ns.length≤1000) (hsm:∀n∈ns,n≤1000) (hk0:0≤k) (hk1:k+EC 0 ns≤1000000):
 Calls prog 28 #[v, .int .i64 k] w fun e w'=>e= .returned (.int .i64 (k+EC 0 ns))∧w=w':=by
 obtain⟨a,c,e0,hc,hcm,H⟩:=h.open;rw[JS] at e0 hc;subst e0;unfold maxLen at hcm;have HH:=AA H;have Hsm:=AA hsm;have Hk1:=AA hk1;generalize hn:ns.length=n at*;have Hn:=AA hn;clear h H hsm hk1 hn;go_in;go_wp2_with fail;go_loop [1,5] (fun m i=>∃q:Nat,q≤n∧i= .int .i64 q∧m= .int .i64 (k+EC 0 (ns.take q))) (fun _ i=>n - (intOf i).toNat)
 case atStart=>exact⟨0,Nat.zero_le _,rfl,by simp[EC]⟩
 case round=>
  obtain⟨q,hq,rfl,rfl⟩:=hrel
  by_cases hlt:q<n
  ·have hqx:q<ns.length:=by rw[Hn.out];exact hlt
   have hqi:(q:Int)<n:=by omega
   have ht0:=Bt 0 (ns.take q);have hty:=PZ 0 (ns:=ns) q;have hk1:=Hk1.out;have hz1:=Hsm.out _ (List.getElem_mem hqx);obtain⟨b,off,u,rfl,hbl,D,ho⟩:=HH.out q (by rw[JS];exact hqx);have er:AK (FL k ns) q=ID (k+EC 0 (ns.take q)) ns[q]:=by unfold AK;rw[List.getD_eq_getElem?_getD,QO k hqx];rfl
   rw[er] at ho;obtain⟨ua,uc,rfl,_,_,_⟩:=ho.open;have C:=KQ _ _ (k+EC 0 (ns.take q)) w ho (by rw[Fs];omega) (by omega) (by omega) (fun j hj=>Nk _ (by rwa [Fs] at hj));rw[Fs] at C D;generalize hz:ns[q]=z at*;have Hz:=AA hz;clear ho er hz;go_wp2_with fail;refine C.mono ?_;rintro e w1 ⟨rfl,rfl⟩;clear C;go_wp2_with fail;go_round
   case rel=>exact⟨q+1,by omega,by go_num,by rw[Ke 0 hqx,Hz.out];exact congrArg (Value.int .i64) (by omega)⟩
   case measure=>simp[intOf];omega
  ·obtain rfl:q=n:=by omega
   have e2:ns.take q=ns:=List.take_of_length_le (by rw[Hn.out];exact Nat.le_refl _);rw[e2];clear e2;go_wp2_with fail;go_ret;exact⟨rfl,rfl⟩
theorem A2.step {lo n ge cap j:Nat} {w w1:World} {ps:List (Value×Int)} {es:List DQ} {u:Value} {r0 r:Int} {ss:List ByteArray} (h:A2 lo w (.slice (some ⟨ge,0,none⟩) n cap) ps es) (hn:n=ps.length) (hj:ps[j]? =some (u,r0)) (hr:AC lo 9 1 Ag w1 u ss) (hg:w.grownBy w1 u.ownBlock):
 A2 lo (w1.setCell ⟨ge,j*2+1,none⟩ (.int .i64 r)) (.slice (some ⟨ge,0,none⟩) n cap) (ps.set j (u,r)) (es.set j ⟨ss,r⟩)∧w1.grownBy (w1.setCell ⟨ge,j*2+1,none⟩ (.int .i64 r)) (some ge)∧w1.cell? ⟨ge,j*2+1,none⟩=some (.int .i64 r0)∧w1.frozen? ⟨ge,j*2+1,none⟩=false:=by
 obtain⟨a1,a2,a3⟩:=h;subst hn;have hjp:j<ps.length:=(List.getElem?_eq_some_iff.1 hj).1;obtain⟨e0,he0⟩:∃e,es[j]? =some e:=⟨_,List.getElem?_eq_getElem (by rw[←a2.1];exact hjp)⟩
 have hu:=(a2.2 j _ _ hj he0).1;have a1':AC lo 62 2 DO w1 (.slice (some ⟨ge,0,none⟩) ps.length cap) ps:=An a1 hg (BA a1 hu (by decide)).ne;have S:=AC.stored1 EO a1' hj (j:=1) (by decide) (y:=(u,r)) (u:= .int .i64 r) rfl;obtain⟨cur,hc⟩:=A8 a1' ge rfl;refine⟨⟨?_,⟨by rw[List.length_set,List.length_set];exact a2.1,fun q p ev hp hev=>?_⟩,?_⟩,S.2,AC.cellsAt EO a1' hj 1 _ rfl,World.ownsRow.frozenAt a1' _⟩
 ·exact S.1
 ·by_cases e:j=q
  ·subst e
   rw[List.getElem?_set_self hjp] at hp;rw[List.getElem?_set_self (by rw[←a2.1];exact hjp)] at hev;cases hp;cases hev;exact⟨hr.far S.2 hc (by decide),rfl⟩
  ·rw[List.getElem?_set_ne e] at hp hev
   have hx:=a2.2 q p ev hp hev;have hap:=a3 q j p.1 u (Ne.symm e) (by rw[List.getElem?_map,hp];rfl) (by rw[List.getElem?_map,hj];rfl);exact⟨AC.far (An hx.1 hg hap.ne) S.2 hc (by decide),hx.2⟩
 ·have e:(ps.set j (u,r)).map (·.1)=ps.map (·.1):=by
   rw[List.map_set];refine List.ext_getElem? fun q=>?_
   by_cases e:j=q
   ·subst e
    rw[List.getElem?_set_self (by simpa using hjp),List.getElem?_map,hj];rfl
   ·rw[List.getElem?_set_ne e]
  rw[e];exact a3
def Vk (v:Value) (us:List Value) (b:Nat):Prop:=v.ownBlock=some b∨Ut us b
theorem PC (lo:Nat) (v:Value) (ps:List (Value×Int)) (es:List DQ) (k:Int) (w:World) (h:A2 lo w v ps es) (hs:es.length≤1000) (hsm:∀x∈es,x.rights.length≤1000) (hk0:0≤k) (hk1:k+EC 1 (DC es)≤900000):
 Calls prog 49 #[v, .int .i64 k] w fun e w'=>e= .returned (.int .i64 (k+EC 1 (DC es)))∧(∃ps',A2 lo w' v ps' (IC k (DC es)))∧H6 (Vk v (ps.map (·.1))) w w':=by
 obtain⟨a,c,e0,hc,hcm⟩:=h.1.rd.shape;have hvl:ps.length=es.length:=h.2.1.1;rw[hvl] at e0 hc;subst e0;unfold maxLen at hcm;have HO:=AA h;have Hvl:=AA hvl;have Hsm:=AA hsm;have Hk1:=AA hk1;generalize hn:es.length=n at*;have Hn:=AA hn;clear h hvl hsm hk1 hn;go_in;go_wp2_with fail;go_loopw [1,5] (fun m i wr=>∃q:Nat,q≤n∧i= .int .i64 q∧m= .int .i64 (k+EC 1 ((DC es).take q))∧(∃qs ys,qs.length=n∧ys.length=n∧qs.map (·.1)=ps.map (·.1)∧(∀j,j<q→ys[j]? =(IC k (DC es))[j]?)∧(∀j,q≤j→ys[j]? =es[j]?)∧A2 lo wr (.slice a n c) qs ys)∧H6 (Vk (.slice a n c) (ps.map (·.1))) w wr) (fun _ i _=>n - (intOf i).toNat)
 case atStart=>exact⟨0,Nat.zero_le _,rfl,by simp[EC],⟨ps,es,Hvl.out,Hn.out,rfl,fun j hj=>absurd hj (Nat.not_lt_zero _),fun _ _=>rfl,HO.out⟩,H6.refl⟩
 case round=>
  obtain⟨q,hq,rfl,rfl,⟨qs,ys,hql,hl,hmap,hpre,hpost,hO⟩,hg⟩:=hrel;have HR:=AA hO;have Hg:=AA hg;have Hpre:=AA hpre;have Hpost:=AA hpost;have Hl:=AA hl;have Hql:=AA hql;have Hmap:=AA hmap;clear hO hg hpre hpost hl hql hmap
  by_cases hlt:q<n
  ·have hqx:q<es.length:=by rw[Hn.out];exact hlt
   have hqv:q<qs.length:=by rw[Hql.out];exact hlt
   have hqi:(q:Int)<n:=by omega
   have hty:=PZ 1 (ns:=DC es) q;have ht0:=Bt 1 ((DC es).take q);have hk1:=Hk1.out;obtain⟨u,r0,hu⟩:∃u r0,qs[q]? =some (u,r0):=⟨_,_,List.getElem?_eq_getElem hqv⟩
   have hx:ys[q]? =some es[q]:=by rw[Hpost.out q (Nat.le_refl _),List.getElem?_eq_getElem hqx]
   obtain⟨ho,hr0⟩:=HR.out.2.1.2 q _ _ hu hx;obtain⟨ge,cap,e1,_,_,nlo,ngs,fz⟩:=AC.shapeOwn HR.out.1 (by rw[Hql.out];omega);rw[Hql.out] at e1;cases e1;have D:=AC.cellsAt EO (show AC lo 62 2 DO wr (.slice (some ⟨ge,0,none⟩) qs.length c) qs by rw[Hql.out];exact HR.out.1) hu;have D0:wr.cell? ⟨ge,q*2,none⟩=some u:=D 0 _ rfl;obtain⟨ua,uc,rfl,_,_⟩:=ho.rd.shape;have C:=Ld lo _ es[q].rights (k+EC 1 ((DC es).take q)) wr ho (Hsm.out _ (List.getElem_mem _)) (by omega) (by omega);have Hu:=AA hu;have hz0:=UM hqx;have hzb:es[q].rights.length≤1000:=Hsm.out _ (List.getElem_mem _);generalize hz:es[q].rights.length=z at*;have Hz:=AA hz0;clear ho hu hx hr0 D hz hz0;go_wp2_with fail;refine C.mono ?_;rintro e w1 ⟨rfl,ho1,g1⟩;obtain⟨HN,g2,c9,f9⟩:=A2.step (r:=k+EC 1 ((DC es).take q)+z) HR.out Hql.out.symm Hu.out ho1 g1;have HNN:=AA HN;have HG:=AA (Hg.out.trans (((H6.of g1).mono fun b hb=> .inr ⟨_,by rw[←Hmap.out];exact List.mem_map.2 ⟨_,List.mem_of_getElem? Hu.out,rfl⟩,hb⟩).trans (H6.row g2 (.inl rfl))));have Hw:=AA (show w1.cell? ⟨ge,q*2,none⟩=some _ from AC.cellsAt EO (show AC lo 62 2 DO w1 (.slice (some ⟨ge,0,none⟩) qs.length c) qs by rw[Hql.out];exact An HR.out.1 g1 (BA HR.out.1 (HR.out.2.1.2 q _ _ Hu.out (by rw[Hpost.out q (Nat.le_refl _),List.getElem?_eq_getElem hqx])).1 (by decide)).ne) Hu.out 0 _ rfl);have hlt1:=Nat.lt_of_lt_of_le ngs g1.size;clear C ho1 g1 D0 HN g2 fz;go_wp2_with fail;go_roundw
   case rel=>
    refine⟨q+1,by omega,by go_num,?_,⟨qs.set q (_,_),ys.set q ⟨_,_⟩,by simpa using Hql.out,by simpa using Hl.out,?_,fun j hj=>?_,fun j hj=>?_,HNN.out⟩,HG.out⟩
    ·rw[Ke 1 (by simpa[DC] using hqx),Hz.out]
     exact congrArg (Value.int .i64) (by omega)
    ·rw[←Hmap.out,List.map_set]
     refine List.ext_getElem? fun j=>?_
     by_cases e:q=j
     ·subst e
      rw[List.getElem?_set_self (by simpa using hqv),List.getElem?_map,Hu.out];rfl
     ·rw[List.getElem?_set_ne e]
    ·by_cases e:j=q
     ·subst e
      rw[List.getElem?_set_self (by rw[Hl.out];exact hlt),QM k (by simpa[DC] using hqx),Hz.out]
      try (congr 2;omega)
     ·rw[List.getElem?_set_ne (Ne.symm e)]
      exact Hpre.out j (by omega)
    ·rw[List.getElem?_set_ne (by omega)]
     exact Hpost.out j (by omega)
   case measure=>simp[intOf];omega
  ·obtain rfl:q=n:=by omega
   have e1:ys=IC k (DC es):=List.ext_getElem? fun j=>by
    by_cases hj:j<q
    ·exact Hpre.out j hj
    ·rw[List.getElem?_eq_none (by rw[Hl.out];omega),List.getElem?_eq_none (by rw[JR];simp[DC,Hn.out];omega)]
   have e2:(DC es).take q=DC es:=List.take_of_length_le (by simp[DC,Hn.out]);have HF:=AA (show(∃ps',A2 lo wr (.slice a q c) ps' (IC k (DC es)))∧H6 (Vk (.slice a q c) (ps.map (·.1))) w wr from⟨⟨_,e1▸HR.out⟩,Hg.out⟩);rw[e2];clear e1 e2;go_wp2_with fail;go_ret;exact⟨rfl,HF.out.1,HF.out.2⟩
theorem Ot (v:Value) (ns:List Nat) (k:Int) (w:World) (h:Ew w v (IC k ns)) (hs:ns.length≤1000) (hsm:∀n∈ns,n≤1000) (hk0:0≤k) (hk1:k+EC 1 ns≤900000):
 Calls prog 52 #[v, .int .i64 k] w fun e w'=>e= .returned (.int .i64 (k+EC 1 ns))∧Below w.heap.size w w':=by
 have HR:=AA h;obtain⟨a,c,e0,hc,hcm,H⟩:=h.open;rw[JR] at e0 hc;subst e0;unfold maxLen at hcm;have Hsm:=AA hsm;have Hk1:=AA hk1;generalize hn:ns.length=n at*;have Hn:=AA hn;clear h H hsm hk1 hn;go_in;go_wp2_with fail;go_loopw [1,5] (fun m i wr=>∃q:Nat,q≤n∧i= .int .i64 q∧m= .int .i64 (k+EC 1 (ns.take q))∧Below w.heap.size w wr) (fun _ i _=>n - (intOf i).toNat)
 case atStart=>exact⟨0,Nat.zero_le _,rfl,by simp[EC],Below.refl _ _⟩
 case round=>
  obtain⟨q,hq,rfl,rfl,hb⟩:=hrel
  by_cases hlt:q<n
  ·have hqx:q<ns.length:=by rw[Hn.out];exact hlt
   have hqi:(q:Int)<n:=by omega
   have ht0:=Bt 1 (ns.take q);have hty:=PZ 1 (ns:=ns) q;have hk1:=Hk1.out;have hz1:=Hsm.out _ (List.getElem_mem hqx);have hts:=Ke 1 hqx;have Hb:=AA hb;obtain⟨a',c',e1,_,_,H⟩:=(HR.out.below hb).open;rw[JR,Hn.out] at e1;cases e1;obtain⟨b,off,ua,uc,rfl,hbl,D0,D1,ho⟩:=H q (by rw[JR];exact hqx);have er:AD (IC k ns) q=⟨Ev D6 1 (k+EC 1 (ns.take q)) ns[q],k+EC 1 (ns.take q)+ns[q]⟩:=by unfold AD;rw[List.getD_eq_getElem?_getD,QM k hqx];rfl
   rw[er] at ho D0 D1;simp only[Ge] at ho D0 D1;have C:=Lb _ (k+EC 1 (ns.take q)) ns[q] wr ho hz1 (by omega) (by omega);generalize hz:ns[q]=z at*;have Hz:=AA hts;clear ho er hz hb H hts;go_wp2_with fail;refine C.mono ?_;rintro e w1 ⟨rfl,b1⟩;have D2:w1.cell? ⟨b,off+q*2+1,none⟩=some (.int .i64 (k+EC 1 (ns.take q)+z)):=(b1.cell (p:=⟨b,off+q*2+1,none⟩) hbl).trans D1;have HB:=AA (Hb.out.trans (b1.mono Hb.out.size));clear C D0 D1 b1;go_wp2_with fail;go_roundw
   case rel=>exact⟨q+1,by omega,by go_num,by rw[Hz.out];exact congrArg (Value.int .i64) (by omega),HB.out⟩
   case measure=>simp[intOf];omega
  ·obtain rfl:q=n:=by omega
   have e2:ns.take q=ns:=List.take_of_length_le (by rw[Hn.out];exact Nat.le_refl _);rw[e2];clear e2;go_wp2_with fail;go_ret;exact⟨rfl,hb⟩
def Up (w:World) (ts:Nat→Prop) (S:Nat→Prop):Prop:=∀b,S b→∃cur t,ts t∧w.heap[b]? =some (.cells cur t (0,0))
section
variable {S:Nat→Prop} {ts:Nat→Prop} {w w':World} {lo:Nat}
theorem H6.ownT {t sz n:Nat} {v:Value} {xs:List Value} (h:H6 S w w') (hS:Up w ts S) (ho:w.ownsRow lo t sz v n xs) (ht:¬ts t):w'.ownsRow lo t sz v n xs:=h.own ho fun b hb hs=>by obtain⟨cur,h1⟩:=A8 ho b hb;obtain⟨cur',t',h2,h3⟩:=hS b hs;rw[h1] at h3;simp at h3;exact ht (h3.2▸h2)
theorem H6.blkT {b t:Nat} {cu:Array Value} (h:H6 S w w') (hS:Up w ts S) (hB:w.heap[b]? =some (.cells cu t (0,0))) (ht:¬ts t):w'.heap[b]? =some (.cells cu t (0,0)):=(h.block b (Aq hB) fun hs=>by obtain⟨cur',t',h2,h3⟩:=hS b hs;rw[hB] at h3;simp at h3;exact ht (h3.2▸h2)).trans hB
theorem AV.tyV {v:Value} {vs:List Value} {xss:List (List Int)} (h:AV lo w v vs xss):Up w (fun t=>t=3) (Ut vs):=by
 rintro b ⟨u,hu,hb⟩;obtain⟨i,hi,hx⟩:=List.getElem_of_mem hu;have hi':i<xss.length:=by rw[←h.2.1.1];exact hi
 obtain⟨cur,hc⟩:=A8 (h.2.1.2 i u _ (by rw[List.getElem?_eq_getElem hi,hx]) (List.getElem?_eq_getElem hi')) b hb;exact⟨cur,_,rfl,hc⟩
theorem A2.tyE {v:Value} {ps:List (Value×Int)} {es:List DQ} (h:A2 lo w v ps es):Up w (fun t=>t=62∨t=9) (Vk v (ps.map (·.1))):=by
 rintro b (hb|⟨u,hu,hb⟩)
 ·obtain⟨cur,hc⟩:=A8 h.1 b hb
  exact⟨cur,_, .inl rfl,hc⟩
 ·obtain⟨p,hp,rfl⟩:=List.mem_map.1 hu
  obtain⟨i,hi,hx⟩:=List.getElem_of_mem hp;have hi':i<es.length:=by rw[←h.2.1.1];exact hi
  obtain⟨cur,hc⟩:=A8 (h.2.1.2 i p _ (by rw[List.getElem?_eq_getElem hi,hx]) (List.getElem?_eq_getElem hi')).1 b hb;exact⟨cur,_, .inr rfl,hc⟩
theorem Vg {α:Type} {t sz:Nat} {cs:α→List Value} {v:Value} {xs:List α} (h:AC lo t sz cs w v xs):Up w (fun u=>u=t) (fun b=>v.ownBlock=some b):=fun b hb=>by obtain⟨cur,hc⟩:=A8 h b hb;exact⟨cur,_,rfl,hc⟩
theorem AV.chgT {v:Value} {vs:List Value} {xss:List (List Int)} (h:AV lo w v vs xss) (hc:H6 S w w') (hS:Up w ts S) (h1:¬ts 3) (h2:¬ts 28):AV lo w' v vs xss:=⟨hc.ownT hS h.1 h2,h.2.1.mono fun _ _ x=>hc.ownT hS x h1,h.2.2⟩
theorem A2.chgT {v:Value} {ps:List (Value×Int)} {es:List DQ} (h:A2 lo w v ps es) (hc:H6 S w w') (hS:Up w ts S) (h1:¬ts 62) (h2:¬ts 9):A2 lo w' v ps es:=⟨hc.ownT hS h.1 h1,h.2.1.mono fun _ _ x=>⟨hc.ownT hS x.1 h2,x.2⟩,h.2.2⟩
end
structure Vu (K:AH):Prop where
 mem:K.mem.length≤1000
 row:∀x∈K.mem,x.length≤1000
 inf:K.infos.length≤1000
 env:K.envs.length≤1000
 rig:∀x∈K.envs,x.rights.length≤1000
 cac:K.cache.length≤1000
def NF (K:AH):Int:=EC 0 (CL K.mem)+3*K.infos.length+EC 1 (DC K.envs)+4*K.cache.length
def Ik (k:Int) (K:AH):AH:=⟨FL k (CL K.mem),Ev JA 3 (k+EC 0 (CL K.mem)) K.infos.length,IC (k+EC 0 (CL K.mem)+3*K.infos.length) (DC K.envs),Ev GE 4 (k+EC 0 (CL K.mem)+3*K.infos.length+EC 1 (DC K.envs)) K.cache.length⟩
def Tn (i e c:Value) (vs us:List Value) (b:Nat):Prop:=Ut vs b∨i.ownBlock=some b∨Vk e us b∨c.ownBlock=some b
theorem Me (lo:Nat) (m i e c:Value) (vs:List Value) (ps:List (Value×Int)) (K:AH) (k:Int) (w:World) (hm:AV lo w m vs K.mem) (hi:AC lo 91 3 AX w i K.infos) (he:A2 lo w e ps K.envs) (hc:AC lo 95 4 AJ w c K.cache) (hz:Vu K) (hk0:0≤k) (hk1:k+NF K≤900000):
 Calls prog 23 #[.agg #[m,i,e,c], .int .i64 k] w fun r w'=>r= .returned (.int .i64 (k+EC 0 (CL K.mem)+3*K.infos.length+EC 1 (DC K.envs)+4*K.cache.length))∧(AV lo w' m vs (Ik k K).mem∧AC lo 91 3 AX w' i (Ik k K).infos∧(∃ps',A2 lo w' e ps' (Ik k K).envs)∧AC lo 95 4 AJ w' c (Ik k K).cache)∧H6 (Tn i e c vs (ps.map (·.1))) w w':=by
 unfold NF at hk1;have t0:=Bt 0 (CL K.mem);have t1:=Bt 1 (DC K.envs);obtain⟨z1,z2,z3,z4,z5,z6⟩:=hz;have b0:=AF w (.cells #[m,i,e,c] 27);have N0:=heap_alloc_new w (.cells #[m,i,e,c] 27);have hm:=hm.below b0;have hi:=AC.below hi b0;have he:=he.below b0;have hc:=AC.below hc b0;have G0:H6 (Tn i e c vs (ps.map (·.1))) w (w.alloc (.cells #[m,i,e,c] 27)):=⟨b0.os,b0.tape,b0.output,b0.size,fun b hb _=>b0.block b hb⟩;go_in;go_wp2_with fail;generalize w.alloc _=W0 at*;have HM:=AA (And.intro hm (And.intro hi (And.intro he hc)));have HN:=AA N0;have HG0:=AA G0;obtain⟨x0,x1,x2,x3⟩:=AB N0;clear hm hi he hc N0 G0;refine(NL lo m vs K.mem k W0 HM.out.1 z1 z2 hk0 (by omega)).mono ?_;rintro r w1 ⟨rfl,M1,c1⟩;have T1:=HM.out.1.tyV;have I1:AC lo 91 3 AX w1 i K.infos:=c1.ownT T1 HM.out.2.1 (by decide);have E1:=HM.out.2.2.1.chgT c1 T1 (by decide) (by decide);have C1:AC lo 95 4 AJ w1 c K.cache:=c1.ownT T1 HM.out.2.2.2 (by decide);have N1:=c1.blkT T1 HN.out (by decide);have HG1:=AA (HG0.out.trans (c1.mono fun b hb=> .inl hb));have HM1:=AA (And.intro M1 (And.intro I1 (And.intro E1 (And.intro C1 N1))));clear x0 x1 x2 x3 T1 M1 I1 E1 C1 c1;obtain⟨x0,x1,x2,x3⟩:=AB N1;clear N1;go_wp2_with fail;refine(NK lo i K.infos _ w1 HM1.out.2.1 z3 (by omega) (by omega)).mono ?_;rintro r w2 ⟨rfl,I2,g2⟩;have c2:=H6.of g2;have T2:=Vg HM1.out.2.1;have M2:=HM1.out.1.chgT c2 T2 (by decide) (by decide);have E2:=HM1.out.2.2.1.chgT c2 T2 (by decide) (by decide);have C2:AC lo 95 4 AJ w2 c K.cache:=c2.ownT T2 HM1.out.2.2.2.1 (by decide);have N2:=c2.blkT T2 HM1.out.2.2.2.2 (by decide);have HG2:=AA (HG1.out.trans (c2.mono fun b hb=> .inr (.inl hb)));have HM2:=AA (And.intro M2 (And.intro I2 (And.intro E2 (And.intro C2 N2))));clear x0 x1 x2 x3 T2 M2 I2 E2 C2 c2 g2;obtain⟨x0,x1,x2,x3⟩:=AB N2;clear N2;go_wp2_with fail;refine(PC lo e ps K.envs _ w2 HM2.out.2.2.1 z4 z5 (by omega) (by omega)).mono ?_;rintro r w3 ⟨rfl,⟨ps',E3⟩,c3⟩;have T3:=HM2.out.2.2.1.tyE;have M3:=HM2.out.1.chgT c3 T3 (by decide) (by decide);have I3:AC lo 91 3 AX w3 i _:=c3.ownT T3 HM2.out.2.1 (by decide);have C3:AC lo 95 4 AJ w3 c K.cache:=c3.ownT T3 HM2.out.2.2.2.1 (by decide);have N3:=c3.blkT T3 HM2.out.2.2.2.2 (by decide);have HG3:=AA (HG2.out.trans (c3.mono fun b hb=> .inr (.inr (.inl hb))));have HM3:=AA (And.intro M3 (And.intro I3 (And.intro E3 (And.intro C3 N3))));clear x0 x1 x2 x3 T3 M3 I3 E3 C3 c3;obtain⟨x0,x1,x2,x3⟩:=AB N3;clear N3;go_wp2_with fail;refine(Lc lo c K.cache _ w3 HM3.out.2.2.2.1 z6 (by omega) (by omega)).mono ?_;rintro r w4 ⟨rfl,C4,g4⟩;have c4:=H6.of g4;have T4:=Vg HM3.out.2.2.2.1;have HF:=AA (show(AV lo w4 m vs (Ik k K).mem∧AC lo 91 3 AX w4 i (Ik k K).infos∧(∃ps',A2 lo w4 e ps' (Ik k K).envs)∧AC lo 95 4 AJ w4 c (Ik k K).cache)∧H6 (Tn i e c vs (ps.map (·.1))) w w4 from
  ⟨⟨HM3.out.1.chgT c4 T4 (by decide) (by decide),c4.ownT T4 HM3.out.2.1 (by decide),⟨_,HM3.out.2.2.1.chgT c4 T4 (by decide) (by decide)⟩,C4⟩,HG3.out.trans (c4.mono fun b hb=> .inr (.inr (.inr hb)))⟩)
 clear x0 x1 x2 x3 c4 T4 C4 g4;go_wp2_with fail;go_ret;exact⟨rfl,HF.out.1,HF.out.2⟩
theorem MP (m i e c:Value) (K:AH) (k:Int) (w:World) (h:L6 w m i e c (Ik k K)) (hz:Vu K) (hk0:0≤k) (hk1:k+NF K≤900000):
 Calls prog 27 #[.agg #[m,i,e,c], .int .i64 k] w fun r w'=>r= .returned (.int .i64 (k+EC 0 (CL K.mem)+3*K.infos.length+EC 1 (DC K.envs)+4*K.cache.length))∧Below w.heap.size w w':=by
 unfold NF at hk1;have t0:=Bt 0 (CL K.mem);have t1:=Bt 1 (DC K.envs);obtain⟨z1,z2,z3,z4,z5,z6⟩:=hz;have b0:=AF w (.cells #[m,i,e,c] 27);have N0:=heap_alloc_new w (.cells #[m,i,e,c] 27);have h0:=h.below b0;go_in;go_wp2_with fail;generalize w.alloc _=W0 at*;have HH:=AA h0;have HN:=AA N0;have HB0:=AA b0;obtain⟨x0,x1,x2,x3⟩:=AB N0;clear h h0 b0 N0;have hb:Below W0.heap.size W0 W0:=Below.refl _ _;refine(Jj m (CL K.mem) k W0 HH.out.1 (by simpa[CL] using z1) (fun n hn=>by obtain⟨x,hx,rfl⟩:=List.mem_map.1 hn;exact z2 x hx) hk0 (by omega)).mono ?_;rintro r w1 ⟨rfl,rfl⟩;go_wp2_with fail;refine(NG i _ K.infos.length _ (A6.below HH.out.2.1 hb) z3 (by omega) (by omega)).mono ?_;rintro r w_ ⟨rfl,hb_⟩;replace hb:=hb.trans (hb_.mono hb.size);clear hb_ x0 x1 x2 x3;obtain⟨x0,x1,x2,x3⟩:=AB (AG HN.out hb);go_wp2_with fail;refine(Ot e (DC K.envs) _ _ (HH.out.2.2.1.below hb) (by simpa[DC] using z4) (fun n hn=>by obtain⟨x,hx,rfl⟩:=List.mem_map.1 hn;exact z5 x hx) (by omega) (by omega)).mono ?_;rintro r w_ ⟨rfl,hb_⟩;replace hb:=hb.trans (hb_.mono hb.size);clear hb_ x0 x1 x2 x3;obtain⟨x0,x1,x2,x3⟩:=AB (AG HN.out hb);go_wp2_with fail;refine(La c _ K.cache.length _ (A6.below HH.out.2.2.2 hb) z6 (by omega) (by omega)).mono ?_;rintro r w_ ⟨rfl,hb_⟩;replace hb:=hb.trans (hb_.mono hb.size);clear hb_ x0 x1 x2 x3;go_wp2_with fail;go_ret;exact⟨rfl,HB0.out.trans (hb.mono HB0.out.size)⟩
def AM.onCells (g:Nat) (c:AM):Array Value:= #[.pointer (some ⟨g,0,none⟩), .int .i64 c.k, .int .i64 c.e, .int .i64 c.a, .int .i64 c.b, .int .i64 c.c, .string c.nm]
def AM.on (g:Nat) (c:AM):Value:= .agg (c.onCells g)
theorem DT {w:World} {b g:Nat} {c:AM} {T:Nat} (h:w.heap[b]? =some (.cells (c.onCells g) T (0,0))):w.cell? ⟨b,0,none⟩=some (.pointer (some ⟨g,0,none⟩))∧w.cell? ⟨b,1,none⟩=some (.int .i64 c.k)∧w.cell? ⟨b,2,none⟩=some (.int .i64 c.e)∧w.cell? ⟨b,3,none⟩=some (.int .i64 c.a)∧w.cell? ⟨b,4,none⟩=some (.int .i64 c.b)∧w.cell? ⟨b,5,none⟩=some (.int .i64 c.c)∧w.cell? ⟨b,6,none⟩=some (.string c.nm):=
 ⟨cell_of_row _ _ 0 _ _ _ h,cell_of_row _ _ 1 _ _ _ h,cell_of_row _ _ 2 _ _ _ h,cell_of_row _ _ 3 _ _ _ h,cell_of_row _ _ 4 _ _ _ h,cell_of_row _ _ 5 _ _ _ h,cell_of_row _ _ 6 _ _ _ h⟩
theorem G2.env {lo g:Nat} {w:World} {m i e c:Value} {k:AH} (h:G2 lo w g m i e c k) {j:Nat} (hj:j<k.envs.length):
 ∃ge cap ua uc,e= .slice (some ⟨ge,0,none⟩) k.envs.length cap∧ge<w.heap.size∧w.cell? ⟨ge,j*2,none⟩=some (.slice ua (AD k.envs j).rights.length uc)∧w.cell? ⟨ge,j*2+1,none⟩=some (.int .i64 (AD k.envs j).root)∧BG w (.slice ua (AD k.envs j).rights.length uc) (AD k.envs j).rights∧∀q,w.frozen? ⟨ge,q,none⟩=false:=by
 have hr:=h.2.2.rd.2.2.1;obtain⟨ps,o⟩:=h.2.2.2.2.1;have hpl:ps.length=k.envs.length:=o.2.1.1;obtain⟨ge,cap,rfl,_,hlt⟩:=JW o.1 (by omega);obtain⟨a,cp,hv,_,_,H⟩:=Ew.open hr;simp only[Value.slice.injEq] at hv;obtain⟨rfl,_,rfl⟩:=hv;obtain⟨b,off,ua,uc,hab,_,h0,h1,h2⟩:=H j hj;cases hab;rw[Nat.zero_add] at h0 h1;exact⟨ge,cap,ua,uc,by rw[hpl],hlt,h0,h1,h2,fun q=>World.ownsRow.frozenAt o.1 q⟩
theorem SG (g ge n cap en:Nat) (c:AM) (w:World) (h2:w.cell? ⟨g,2,none⟩=some (.slice (some ⟨ge,0,none⟩) n cap)) (he:c.e=(en:Int)) (hn:en<n):
 Calls prog 120 #[c.on g] w fun e w'=>e= .returned (.pointer (some ⟨ge,en*2,none⟩))∧Below w.heap.size w w':=by
 obtain⟨k,e,a,b,cc,nm⟩:=c;simp only at he;subst he;simp only[AM.on,AM.onCells];have N:=heap_alloc_new w (.cells #[.pointer (some ⟨g,0,none⟩), .int .i64 k, .int .i64 en, .int .i64 a, .int .i64 b, .int .i64 cc, .string nm] 87);have hb:=AF w (.cells #[.pointer (some ⟨g,0,none⟩), .int .i64 k, .int .i64 en, .int .i64 a, .int .i64 b, .int .i64 cc, .string nm] 87);have x2:=(hb.cell (p:=⟨g,2,none⟩) (World.block_lt_of_cell? w _ h2)).trans h2;have hni:(en:Int)<n:=by omega
 go_in;go_wp2_with fail;generalize w.alloc _=W0 at*;have y0:=cell_regrown (cell_of_row _ _ 0 _ _ _ N);have y2:=cell_regrown (cell_of_row _ _ 2 _ _ _ N);have k2:=cell_regrown x2;clear N x2 h2;refine wp_region_quiet_below mixed (by kernel_rfl) ?_
 repeat(go_big_quiet_step (fail))
 refine wpQuiet_nil ?_;intro _ hw';obtain⟨⟨dq,osq⟩,hw''⟩:=hw';subst hw'';have bq:=below_regrown W0 dq osq;generalize Sort.grow (redrawn W0 dq) osq=wq at bq;go_wp2_with fail;go_ret;exact⟨rfl,hb.trans (bq.mono hb.size)⟩
theorem KV {lo g:Nat} {w:World} {m i e c:Value} {k:AH} (h:G2 lo w g m i e c k) (call:AM) (nm:ByteArray) (he:0≤call.e) (hn:call.e<k.envs.length):
 Calls prog 82 #[call.on g, .string nm] w fun r w'=>r= .returned (.bool (Ej k call.e nm))∧Below w.heap.size w w':=by
 obtain⟨en,hen⟩:∃n:Nat,call.e=(n:Int):=⟨call.e.toNat,by omega⟩
 obtain⟨ge,cap,ua,uc,rfl,hge,D0,_,R,_⟩:=h.env (j:=en) (by omega);have N:=heap_alloc_new w (.cells (call.onCells g) 87);have hb:=AF w (.cells (call.onCells g) 87);have CE:=AA (fun W (hW:Below w.heap.size w W)=>SG g ge k.envs.length cap en call W ((hW.cell (p:=⟨g,2,none⟩) (Aq h.1)).trans h.cells.2.2.1) hen (by omega));have CM:=AA (fun W (hW:Below w.heap.size w W)=>PD _ (AD k.envs en).rights nm W (A6.below R hW));have S:=AA (show Cc (AD k.envs en).rights nm=Ej k call.e nm by unfold Ej;rw[hen];rfl);have HD:=AA D0;clear h R D0 hen he hn;obtain⟨k1,e1,a1,b1,c1,nm1⟩:=call;simp only[AM.on,AM.onCells] at N hb CE ⊢;obtain⟨y0,y1,y2,y3,y4,y5,y6⟩:=DT (c:=⟨k1,e1,a1,b1,c1,nm1⟩) N;go_in;go_wp2_with fail;refine(CE.out _ hb).mono ?_;rintro e w2 ⟨rfl,hb2⟩;replace hb2:=hb.trans (hb2.mono hb.size);have D:=(hb2.cell (p:=⟨ge,en*2,none⟩) hge).trans HD.out;clear y0 y1 y2 y3 y4 y5 y6 N hb;go_wp2_with fail;refine(CM.out _ hb2).mono ?_;rintro e w3 ⟨rfl,hb3⟩;go_wp2_with fail;go_ret;exact⟨AP S.out,hb2.trans (hb3.mono hb2.size)⟩
def Fn (xs:List AL) (b:Int):Prop:=∀f,f<xs.length→ -b≤(infoAt xs f).r∧(infoAt xs f).r≤b
theorem G2.infoAt' {lo g:Nat} {w:World} {m i e c:Value} {k:AH} (h:G2 lo w g m i e c k) {f:Nat} (hf:f<k.infos.length):
 ∃gi cap,i= .slice (some ⟨gi,0,none⟩) k.infos.length cap∧gi<w.heap.size∧lo≤gi∧w.cell? ⟨gi,f*3,none⟩=some (.int .i64 (infoAt k.infos f).k)∧w.cell? ⟨gi,f*3+1,none⟩=some (.string (infoAt k.infos f).g)∧w.cell? ⟨gi,f*3+2,none⟩=some (.int .i64 (infoAt k.infos f).r)∧∀q,w.frozen? ⟨gi,q,none⟩=false:=by
 have o:=h.2.2.2.1;obtain⟨gi,cap,rfl,_,_,hlo,hlt,hfz⟩:=o.shapeOwn (by omega);obtain⟨d0,d1,d2⟩:=AC.infoCells o hf;exact⟨gi,cap,rfl,hlt,hlo,d0,d1,d2,hfz⟩
theorem NA (v:Value) (xs:List AL) (f:Nat) (w:World) (h:BH w v xs) (hok:A3 xs=true) (hf:f<12) (hk:(infoAt xs f).k=1) (hr:(infoAt xs f).r=0):
 Calls prog 121 #[v, .int .i64 f] w fun e w'=>∃v',e= .returned (.tuple #[v', .bool true])∧AC w.heap.size 91 3 AX w' v' (xs.set f AL.zero)∧Below w.heap.size w w':=by
 have hl:=(Au.1 hok).1;have C1:=AA (fun W (hW:Below w.heap.size w W)=>by have:=Cx v xs W (A6.below h hW) (Be hok);rw[hok] at this;exact this);have C2:=AA (fun W (_:Below w.heap.size w W)=>Ab (by have:=Bc (f:Int) W;rw[show Bv (f:Int) 0 11=true from Ac.2 (by omega)] at this;exact this));have C3:=AA (fun W (hW:Below w.heap.size w W)=>Eb v xs W (A6.below h hW) (by omega));obtain⟨ai,ci,rfl,hci,hcim,H2⟩:=A6.open Ak (by decide) h;obtain⟨bi,offi,rfl,hbi,D0,_,D2⟩:=H2.infoCells (show f<xs.length by omega);have hfl:(f:Int)<xs.length:=by omega
 have t1:((infoAt xs f).k !=1)=false:=by simp[hk]
 have t2:((infoAt xs f).r !=0)=false:=by simp[hr]
 have Hl:=AA hl;have hb:=Below.refl w.heap.size w;clear h hok hk hr H2 hl;go_in;go_wp2_with fail;refine(C1.out _ hb).mono ?_;rintro e w_ ⟨rfl,hb_⟩;replace hb:=hb.trans (hb_.mono hb.size);clear hb_;go_wp2_with fail;refine(C2.out _ hb).mono ?_;rintro e w_ ⟨rfl,hb_⟩;replace hb:=hb.trans (hb_.mono hb.size);clear hb_;replace D0:=(hb.cell (p:=⟨bi,offi+f*3,none⟩) hbi).trans D0;replace D2:=(hb.cell (p:=⟨bi,offi+f*3+2,none⟩) hbi).trans D2;go_wp2_with fail;clear D0 D2;refine(C3.out _ hb).mono ?_;rintro e w4 ⟨v',rfl,hO,hb4⟩;obtain⟨q,cap,rfl,c1,c2,q1,q2,hfz⟩:=hO.shapeOwn (by have:=Hl.out;omega);unfold maxLen at c2;have hS:=AA (AC.stored Ak hO (show f<xs.length by have:=Hl.out;omega) AL.zero);obtain⟨d0,d1,d2⟩:=AC.infoCells hO (show f<xs.length by have:=Hl.out;omega);have hB:=AA (AN (hb.trans (hb4.mono hb.size)) hS.out.2 (Nat.le_trans hb.size q1) (hb.trans (hb4.mono hb.size)).size);have hlo:=hb.size;clear hO hb4 hb t1 t2;go_wp2_with fail;go_ret2;exact⟨_,rfl,hS.out.1.lower hlo,hB.out⟩
theorem OV (v:Value) (xs:List AL) (f:Nat) (w:World) (h:BH w v xs) (hok:A3 xs=true) (hf:f<12) (hk:(infoAt xs f).k=1) (hr:(infoAt xs f).r≠0):
 Calls prog 121 #[v, .int .i64 f] w fun e w'=>e= .returned (.tuple #[.slice none 0 0, .bool false])∧Below w.heap.size w w':=by
 have hl:=(Au.1 hok).1;have C1:=AA (fun W (hW:Below w.heap.size w W)=>by have:=Cx v xs W (A6.below h hW) (Be hok);rw[hok] at this;exact this);have C2:=AA (fun W (_:Below w.heap.size w W)=>Ab (by have:=Bc (f:Int) W;rw[show Bv (f:Int) 0 11=true from Ac.2 (by omega)] at this;exact this));obtain⟨ai,ci,rfl,hci,hcim,H2⟩:=A6.open Ak (by decide) h;obtain⟨bi,offi,rfl,hbi,D0,_,D2⟩:=H2.infoCells (show f<xs.length by omega);have hfl:(f:Int)<xs.length:=by omega
 have t1:((infoAt xs f).k !=1)=false:=by simp[hk]
 have t2:((infoAt xs f).r !=0)=true:=by simp[hr]
 have hb:=Below.refl w.heap.size w;clear h hok hk hr H2 hl;go_in;go_wp2_with fail;refine(C1.out _ hb).mono ?_;rintro e w_ ⟨rfl,hb_⟩;replace hb:=hb.trans (hb_.mono hb.size);clear hb_;go_wp2_with fail;refine(C2.out _ hb).mono ?_;rintro e w_ ⟨rfl,hb_⟩;replace hb:=hb.trans (hb_.mono hb.size);clear hb_;replace D0:=(hb.cell (p:=⟨bi,offi+f*3,none⟩) hbi).trans D0;replace D2:=(hb.cell (p:=⟨bi,offi+f*3+2,none⟩) hbi).trans D2;go_wp2_with fail;go_ret2;exact⟨rfl,hb⟩
def Cr (lo g:Nat) (w:World) (res:Kk) (r:Ending) (w':World):Prop:=r= .returned (.tuple #[.int .i64 res.2.1, .int .i64 res.2.2])∧(res.2.2=0→∃m i e c,G2 lo w' g m i e c res.1)∧Below lo w w'
def CJ (lo g:Nat) (w:World) (res:Kk) (r:Ending) (w':World):Prop:=r= .returned (.int .i64 res.2.2)∧(res.2.2=0→∃m i e c,G2 lo w' g m i e c res.1)∧Below lo w w'
theorem Cr.bad {lo g:Nat} {w w':World} {k:AH} {n:Int} {res:Kk} (h:res=(k,0,n)) (hn:n≠0) (hb:Below lo w w'):Cr lo g w res (.returned (.tuple #[.int .i64 0, .int .i64 n])) w':=by subst h;exact⟨rfl,fun h=>absurd h hn,hb⟩
theorem CJ.bad {lo g:Nat} {w w':World} {k:AH} {n:Int} {res:Kk} (h:res=(k,0,n)) (hn:n≠0) (hb:Below lo w w'):CJ lo g w res (.returned (.int .i64 n)) w':=by subst h;exact⟨rfl,fun h=>absurd h hn,hb⟩
theorem AT {k:AH} (h:DV k):Bq k.mem=true∧A3 k.infos=true∧Bu k.cache=true:=by have:=J2.2 h;unfold Ox at this;simp only[Bool.and_eq_true] at this;exact⟨this.1.1.1.1.1.1,this.1.1.1.1.1.2,this.1.1.1.1.2⟩
theorem Ro {lo g cap:Nat} {w:World} {r:List Int} (h:AE lo w (.slice (some ⟨g,0,none⟩) 4 cap) r) (hl:r.length=4):
 ∃w',(∀ty,(Builtin.clear_ #[28] ty #[.slice (some ⟨g,0,none⟩) 4 cap]).run prog w= .ok (.tuple #[]) w')∧AE lo w' (.slice (some ⟨g,0,none⟩) 4 cap) [0,0,0,0]∧w.grownBy w' (some g):=by
 have h4:w.ownsRow lo 3 1 (.slice (some ⟨g,0,none⟩) 4 cap) 4 (r.map (Value.int .i64)):=by have:=h;unfold AE at this;rwa [hl] at this
 have ez:(Builtin.zeroCells (Value.int .i64 0).cells 4).toList=[.int .i64 0, .int .i64 0, .int .i64 0, .int .i64 0]:=by kernel_rfl
 have hst:=run_storeCells_cells (P:=prog) g 0 (Builtin.zeroCells (Value.int .i64 0).cells 4).toList 0 w (by
  intro j hj;have hj4:j<4:=by rw[ez] at hj;exact hj
  have:=World.ownsRow.cellAt h4 j (by omega);simp only[Nat.zero_add] at this ⊢;rw[this];simp;omega) (by intro j _;exact World.ownsRow.frozenAt h4 _) (by
  intro u hu;rw[ez] at hu;have:u= .int .i64 0:=by simpa using hu
  subst this;rfl)
 simp only[Nat.add_zero] at hst;have e0:=E9 g 0 (Builtin.zeroCells (Value.int .i64 0).cells 4).toList 0 w;rw[Nat.add_zero] at e0;refine⟨w.setCells g 0 (Builtin.zeroCells (Value.int .i64 0).cells 4).toList,fun ty=>?_,?_,?_⟩
 ·simp[Builtin.clear_,run_underlying underlying28,hst]
 ·rw[e0]
  obtain⟨a1,_⟩:=Db h4 0 0 (Builtin.zeroCells (Value.int .i64 0).cells 4).toList;have e:Dq (r.map (Value.int .i64)) 0 0 (Builtin.zeroCells (Value.int .i64 0).cells 4).toList=[0,0,0,0].map (Value.int .i64):=by
   rw[ez]
   match r,hl with
   | [a,b,c,d],_=>rfl
  rw[e] at a1;exact a1
 ·rw[e0]
  exact(Db h4 0 0 (Builtin.zeroCells (Value.int .i64 0).cells 4).toList).2
theorem G2.memRow {lo g:Nat} {w:World} {m i e c:Value} {k:AH} (h:G2 lo w g m i e c k) (hok:Bq k.mem=true) {f:Nat} (hf:f<12):
 ∃gm capm gw capw vs,m= .slice (some ⟨gm,0,none⟩) 12 capm∧gm<w.heap.size∧gm≠g∧w.cell? ⟨gm,f,none⟩=some (.slice (some ⟨gw,0,none⟩) 4 capw)∧gw<w.heap.size∧lo≤gw∧gw≠g∧gw≠gm∧AV lo w m vs k.mem∧vs[f]? =some (.slice (some ⟨gw,0,none⟩) 4 capw)∧AE lo w (.slice (some ⟨gw,0,none⟩) 4 capw) (AK k.mem f):=by
 obtain⟨vs,o⟩:=h.2.2.1;obtain⟨hml,hr⟩:=Af.1 hok;have h4:=(BZ.1 (hr f hf)).1;have hvl:vs.length=12:=by rw[o.2.1.1,hml]
 obtain⟨gm,capm,rfl,_,_,_,hgm,_⟩:=o.1.shapeOwn (by omega);obtain⟨gw,capw,hu,hx,hlo,hlt⟩:=o.row (f:=f) (by omega) (by omega);rw[h4] at hu hx;have D:=AC.cellsAt D8 o.1 hu 0 _ rfl;rw[Nat.mul_one,Nat.add_zero] at D;have n1:gm≠g:=fun e=>Bs o.1 h.1 (by decide) (by rw[e];rfl)
 have n2:gw≠g:=fun e=>Bs hx h.1 (by decide) (by rw[e];rfl)
 have n3:gw≠gm:=fun e=>by have:=BA hx o.1 (Ne.symm JJ) gw rfl;apply this;rw[e];rfl
 rw[hvl] at*;exact⟨gm,capm,gw,capw,vs,rfl,hgm,n1,D,hlt,hlo,n2,n3,o,hu,hx⟩
theorem Td {lo g:Nat} {w:World} {m i e c:Value} {k:AH} (h:G2 lo w g m i e c k) (hlo:lo≤w.heap.size) (hK:DV k) (call:AM) (he:0≤call.e) (hn:call.e<3) (hnm:call.nm.size≤maxLen):
 Calls prog 80 #[call.on g] w (Cr lo g w (IK k call)):=by
 have N:=heap_alloc_new w (.cells (call.onCells g) 87);have hb0:=AF w (.cells (call.onCells g) 87);obtain⟨hm,hi,hc⟩:=AT hK;have C1:=AA (fun W (_:Below w.heap.size w W)=>Ce call.nm W hnm);have C2:=AA (fun W (hW:Below w.heap.size w W)=>KV (h.below hW) call call.nm he (by rw[hK.envl];exact hn));have P:IK k call=if Az call.nm=false then(k,0,3) else if Ej k call.e call.nm=false then(k,0,1) else if Cs k.infos<0 then(k,0,4) else({k with infos:=k.infos.set (Cs k.infos).toNat ⟨1,call.nm,0⟩,mem:=k.mem.set (Cs k.infos).toNat [0,0,0,0]},Cs k.infos,0):=rfl
 obtain⟨k1,e1,a1,b1,c1,nm⟩:=call;simp only[AM.on,AM.onCells] at N hb0 C1 C2 P hnm ⊢;obtain⟨y0,y1,y2,y3,y4,y5,y6⟩:=DT (c:=⟨k1,e1,a1,b1,c1,nm⟩) N;have hl:=Aq N;have HN:=AA N;have HP:=AA P;have Hm:=AA hm;have Hi:=AA hi;have HK:=AA hK;have HI:=AA h;clear P hm hi hc hK h N y0 y1 y2 y3 y4 y5;go_in;go_wp2_with fail;generalize hW0:w.alloc _=W0 at*;clear hW0;cases e5:Az nm
 ·have T:=AA e5
  have E:=AA (show IK k ⟨k1,e1,a1,b1,c1,nm⟩=(k,0,3) by rw[HP.out,e5];rfl);clear e5 y6;refine(C1.out _ hb0).mono ?_;rintro r w1 ⟨rfl,hb1⟩;rw[T.out];have hbw:=hb0.trans (hb1.mono hb0.size);go_wp2_with fail;go_ret2;exact Cr.bad E.out (by decide) (hbw.mono hlo)
 ·have T:=AA e5
  have HP2:=AA (show IK k ⟨k1,e1,a1,b1,c1,nm⟩=_ by rw[HP.out,e5,if_neg (by decide)]);clear e5 y6;refine(C1.out _ hb0).mono ?_;rintro r w1 ⟨rfl,hbW⟩;rw[T.out];have hbw:=hb0.trans (hbW.mono hb0.size);obtain⟨y0,y1,y2,y3,y4,y5,y6⟩:=DT (c:=⟨k1,e1,a1,b1,c1,nm⟩) (AG HN.out hbW);go_wp2_with fail;clear y0 y1 y2 y3 y4 y5 y6;cases e6:Ej k e1 nm
  ·have T6:=AA e6
   have E:=AA (show IK k ⟨k1,e1,a1,b1,c1,nm⟩=(k,0,1) by rw[HP2.out,e6];rfl);clear e6;refine(C2.out _ hbw).mono ?_;rintro r w2 ⟨rfl,hb2⟩;rw[T6.out];replace hbw:=hbw.trans (hb2.mono hbw.size);go_wp2_with fail;go_ret2;exact Cr.bad E.out (by decide) (hbw.mono hlo)
  ·have T6:=AA e6
   have HP3:=AA (show IK k ⟨k1,e1,a1,b1,c1,nm⟩=_ by rw[HP2.out,e6,if_neg (by decide)]);clear e6;refine(C2.out _ hbw).mono ?_;rintro r W2 ⟨rfl,hb2⟩;rw[T6.out];replace hbW:=hbW.trans (hb2.mono hbW.size);replace hbw:=hbw.trans (hb2.mono hbw.size);have h2:=HI.out.below hbw;have hI2:=AA h2;have hlo2:=Nat.le_trans hlo hbw.size;obtain⟨y0,y1,y2,y3,y4,y5,y6⟩:=DT (c:=⟨k1,e1,a1,b1,c1,nm⟩) (AG HN.out hbW);have hl2:=Nat.lt_of_lt_of_le hl hbW.size;have hgl2:=Aq h2.1;have hgb:g≠w.heap.size:=Nat.ne_of_lt (Aq HI.out.1);obtain⟨gi,capi,rfl,_,_,_,_,_,hfzi⟩:=h2.infoAt' (f:=0) (by have:=(Au.1 Hi.out).1;omega);have x1:=h2.cells.2.1;have RI:BH W2 (.slice (some ⟨gi,0,none⟩) k.infos.length capi) k.infos:=h2.2.2.2.1.rd;clear h2 hb2 y1 y2 y3 y4 y5 hfzi;go_wp2_with fail
   by_cases e7:Cs k.infos<0
   ·have E:=AA (show IK k ⟨k1,e1,a1,b1,c1,nm⟩=(k,0,4) by rw[HP3.out,if_pos e7])
    have C3:=AA (fun W (hW:Below W2.heap.size W2 W)=>Ls _ k.infos nm W (A6.below RI hW) (Be Hi.out) hnm Hi.out T.out e7);clear e7 RI;refine Al 15 49 [.p w.heap.size 0, .p g 0, .p g 0, .p g 1, .s gi k.infos.length capi, .p w.heap.size 1, .p w.heap.size 6, .t nm, .v (.tuple #[.slice none 0 0, .int .i64 0, .bool false]), .v (.tuple #[.slice none 0 0, .int .i64 0, .bool false]), .v (.slice none 0 0), .i 0, .b false, .v (.slice none 0 0), .i 0] (fun _ _ _=>True) ?_ ?_
    ·intro i hi o ho a wx Hb Hd hG K HK
     have mc0:=bc hG hl2 y0;have mc1:=bc hG hgl2 x1;have mc2:=bc hG hl2 y6
     match i,hi with
     |0,_|2,_|3,_|5,_|6,_|9,_|10,_|11,_|12,_|13,_|14,_=>exact sP ho HK Hb Hd
     |1,_=>exact sL ho HK Hb Hd (hl:=GC (by assumption))
     |4,_=>exact sL ho HK Hb Hd (hl:=GX (by assumption))
     |7,_=>exact sL ho HK Hb Hd (hl:=UL (by assumption))
     |8,_=>exact sD ho HK Hb Hd (C3.out _ hG)
     |_+15,hq=>exact absurd hq (by omega)
    ·intro vs wx hR hG
     have q12:(vs 12)= .bool false:=BT hR 12;have q13:(vs 13)= .slice none 0 0:=BT hR 13;have q14:(vs 14)= .int .i64 0:=BT hR 14;clear hR;simp only[Ai,AQ,List.range,List.range.loop,List.foldl_cons,List.foldl_nil,q12,q13,q14];simp;clear q12 q13 q14;replace hbw:=hbw.trans (hG.mono hbw.size);clear hG y0 y6 x1;go_wp2_with fail;go_ret2;exact Cr.bad E.out (by decide) (hbw.mono hlo)
   ·obtain⟨f1,f2,f3⟩:=IU e7
    obtain⟨f,hf⟩:∃f:Nat,Cs k.infos=(f:Int):=⟨(Cs k.infos).toNat,by omega⟩
    have E:=AA (show IK k ⟨k1,e1,a1,b1,c1,nm⟩=({k with infos:=k.infos.set f ⟨1,nm,0⟩,mem:=k.mem.set f [0,0,0,0]},(f:Int),0) by rw[HP3.out,if_neg e7,hf];rfl);have C30:=fun W (hW:Below W2.heap.size W2 W)=>Lt _ k.infos nm W (A6.below RI hW) (Be Hi.out) hnm Hi.out T.out f3
    unfold Mt at C30;rw[hf] at C30 f1;simp only[Int.toNat_natCast] at C30 f1;have C3:=AA C30;have hf12:f<12:=by have:=(Au.1 Hi.out).1;omega
    clear e7 RI C30 f2 f3 hf f1;refine Am 15 49 [.p w.heap.size 0, .p g 0, .p g 0, .p g 1, .s gi k.infos.length capi, .p w.heap.size 1, .p w.heap.size 6, .t nm, .z, .z, .z, .i ((f:Int)), .b true, .z, .i ((f:Int))] (fun ix vv ww=>match ix with
     |8=>∃v',vv= .tuple #[v', .int .i64 f, .bool true]∧AC W2.heap.size 91 3 AX ww v' (k.infos.set f ⟨1,nm,0⟩)
     |9=>∃v',vv= .tuple #[v', .int .i64 f, .bool true]∧AC W2.heap.size 91 3 AX ww v' (k.infos.set f ⟨1,nm,0⟩)
     |10=>AC W2.heap.size 91 3 AX ww vv (k.infos.set f ⟨1,nm,0⟩)
     |13=>AC W2.heap.size 91 3 AX ww vv (k.infos.set f ⟨1,nm,0⟩)
     |_=>True) ?_ ?_ ?_
    ·intro i hi o ho a wx Hb Hd hG K HK
     have mc0:=bc hG hl2 y0;have mc1:=bc hG hgl2 x1;have mc2:=bc hG hl2 y6
     match i,hi with
     |0,_|2,_|3,_|5,_|6,_|14,_=>exact sP ho HK Hb Hd
     |1,_=>exact sL ho HK Hb Hd (hl:=GC (by assumption))
     |4,_=>exact sL ho HK Hb Hd (hl:=GX (by assumption))
     |7,_=>exact sL ho HK Hb Hd (hl:=UL (by assumption))
     |8,_=>exact sC ho HK Hb Hd (C3.out _ hG) (by rintro e w_ ⟨v',rfl,hO,hb2⟩;exact⟨_,rfl,⟨_,rfl,hO.lower hG.size⟩,hb2⟩)
     |9,_=>
      clear mc0 mc1 mc2;obtain rfl:=So_ ho;have d8:∃v',(a.tmps[29]?.getD undef)= .tuple #[v', .int .i64 f, .bool true]∧AC W2.heap.size 91 3 AX wx v' (k.infos.set f ⟨1,nm,0⟩):=Bx Hd 8
      clear Hd Hb;obtain⟨v',d8,hO⟩:=d8;refine Aa.of rfl ?_;go_simp;exact HK.out _ _ ⟨_,rfl,hO⟩ (Below.refl _ _)
     |10,_=>
      clear mc0 mc1 mc2;obtain rfl:=So_ ho;have d9:∃v',(a.tmps[20]?.getD undef)= .tuple #[v', .int .i64 f, .bool true]∧AC W2.heap.size 91 3 AX wx v' (k.infos.set f ⟨1,nm,0⟩):=Bx Hd 9
      clear Hd Hb;obtain⟨v',d9,hO⟩:=d9;refine Aa.of rfl ?_;go_simp;exact HK.out _ _ hO (Below.refl _ _)
     |11,_=>
      clear mc0 mc1 mc2;obtain rfl:=So_ ho;have d9:∃v',(a.tmps[20]?.getD undef)= .tuple #[v', .int .i64 f, .bool true]∧AC W2.heap.size 91 3 AX wx v' (k.infos.set f ⟨1,nm,0⟩):=Bx Hd 9
      clear Hd Hb;obtain⟨v',d9,hO⟩:=d9;refine Aa.of rfl ?_;go_simp;exact HK.out _ _ rfl (Below.refl _ _)
     |12,_=>
      clear mc0 mc1 mc2;obtain rfl:=So_ ho;have d9:∃v',(a.tmps[20]?.getD undef)= .tuple #[v', .int .i64 f, .bool true]∧AC W2.heap.size 91 3 AX wx v' (k.infos.set f ⟨1,nm,0⟩):=Bx Hd 9
      clear Hd Hb;obtain⟨v',d9,hO⟩:=d9;refine Aa.of rfl ?_;go_simp;exact HK.out _ _ rfl (Below.refl _ _)
     |13,_=>clear mc0 mc1 mc2;obtain rfl:=So_ ho;have d10:AC W2.heap.size 91 3 AX wx (a.tmps[30]?.getD undef) (k.infos.set f ⟨1,nm,0⟩):=Bx Hd 10;clear Hd Hb;refine Aa.of rfl ?_;go_simp;exact HK.out _ _ d10 (Below.refl _ _)
     |_+15,hq=>exact absurd hq (by omega)
    ·intro i hi vv wz ww' hbz hz
     match i,hi with
     |8,_=>exact(by obtain⟨v',h0,h1⟩:=hz;exact⟨v',h0,AC.below h1 hbz⟩)
     |9,_=>exact(by obtain⟨v',h0,h1⟩:=hz;exact⟨v',h0,AC.below h1 hbz⟩)
     |10,_=>exact(AC.below hz hbz)
     |13,_=>exact(AC.below hz hbz)
     |0,_|1,_|2,_|3,_|4,_|5,_|6,_|7,_|11,_|12,_|14,_=>exact hz
     |_+15,hq=>exact absurd hq (by omega)
    ·intro vs wx hR hG
     have q12:(vs 12)= .bool true:=BT hR 12;have q13:AC W2.heap.size 91 3 AX wx (vs 13) (k.infos.set f ⟨1,nm,0⟩):=BT hR 13;have q14:(vs 14)= .int .i64 f:=BT hR 14;clear hR;simp only[Ai,AQ,List.range,List.range.loop,List.foldl_cons,List.foldl_nil,q12,q14];simp;generalize vs 13=z13 at q13 ⊢;clear q12 q14;have h5:=hI2.out.infos hlo2 hG q13;have hbw5:=((hbw.trans (hG.mono hbw.size)).mono hlo).setCell (p:=⟨g,1,none⟩) hI2.out.2.1 z13;replace y0:=(hG.cell (p:=⟨w.heap.size,0,none⟩) hl2).trans y0;replace x1:=(hG.cell (p:=⟨g,1,none⟩) hgl2).trans x1;have h2x:=hI2.out.below hG;have x0:=h2x.cells.1;have hfzg:=AI h2x.1;obtain⟨gm,capm,gw,capw,vs,rfl,hgm,n1,D,hgw,hlw,n2,n3,o1,hu,hx⟩:=h5.memRow (f:=f) Hm.out hf12;have hml:=(Af.1 Hm.out).1;have h4:=(BZ.1 ((Af.1 Hm.out).2 f hf12)).1;have D2:=(Du (o:=f) (Aj wx g 1 z13) (by simpa using hgm) (fun e=>n1 (So_ e).symm)).symm.trans D;obtain⟨w6,hcl,hO6,hg6⟩:=Ro hx h4;have h6:=AA (h5.row o1 (by rw[hml];exact hf12) hu hO6 hg6);have hb6:=AA (AN hbw5 hg6 hlw (Nat.le_trans hlo hbw5.size));have hf12i:(f:Int)<12:=by omega
     obtain⟨q1,q2,rfl,_,_⟩:=q13.rd.shape;simp only[List.length_set] at hcl;have hgb':w.heap.size≠g:=fun e=>hgb e.symm
     clear h5 hbw5 h2x D hx o1 hu hO6 hg6 h4 hml hgm hgw hlw n2 n3 q13 hG;go_wp2_with fail;go_ret2;exact⟨by rw[E.out];rfl,fun _=>⟨_,_,_,_,by rw[E.out];exact h6.out⟩,hb6.out⟩
theorem Fa {ss:List ByteArray} (h:Ax ss=true):Dr ss:=by
 intro s hs;obtain⟨j,hj,rfl⟩:=List.getElem_of_mem hs;unfold Ax at h;simp only[Bool.and_eq_true,List.all_eq_true] at h;have h1:=h.1 j (List.mem_range.2 hj);unfold Bo at h1;simp only[Bool.and_eq_true] at h1;have h2:=Hy h1.1;have e:Bi ss j=ss[j]:=by simp[Bi,hj]
 rw[e] at h2;exact Nat.le_trans h2 (by decide)
theorem RH {lo g:Nat} {w:World} {m i e c:Value} {k:AH} (h:G2 lo w g m i e c k) (hlo:lo≤w.heap.size) (hK:DV k) (call:AM) (he:0≤call.e) (hn:call.e<3) (hnm:call.nm.size≤maxLen):
 Calls prog 85 #[call.on g] w (CJ lo g w (EL k call)):=by
 have N:=heap_alloc_new w (.cells (call.onCells g) 87);have hb0:=AF w (.cells (call.onCells g) 87);have C0:=AA (fun W (_:Below w.heap.size w W)=>Ab (K5 call.a W));have C1:=AA (fun W (_:Below w.heap.size w W)=>Ce call.nm W hnm);have C2:=AA (fun W (hW:Below w.heap.size w W)=>KV (h.below hW) call call.nm he (by rw[hK.envl];exact hn));have P:EL k call=if Bv call.a 0 2=false∨Az call.nm=false then(k,0,3) else if Ej k call.e call.nm=false then(k,0,1) else if(A0 (AD k.envs call.a.toNat).rights call.nm).2=false then(k,0,4) else({k with envs:=AR k.envs call.a.toNat (A7 (A0 (AD k.envs call.a.toNat).rights call.nm).1)},0,0):=rfl
 obtain⟨k1,e1,a1,b1,c1,nm⟩:=call;simp only[AM.on,AM.onCells] at N hb0 C0 C1 C2 P hnm ⊢;obtain⟨y0,y1,y2,y3,y4,y5,y6⟩:=DT (c:=⟨k1,e1,a1,b1,c1,nm⟩) N;have hl:=Aq N;have HN:=AA N;have HP:=AA P;have HK:=AA hK;have HI:=AA h;clear P hK h N y0 y1 y2 y4 y5 y6;go_in;go_wp2_with fail;generalize hW0:w.alloc _=W0 at*;clear hW0;cases e4:Bv a1 0 2
 ·have T:=AA e4
  have E:=AA (show EL k ⟨k1,e1,a1,b1,c1,nm⟩=(k,0,3) by rw[HP.out,if_pos (.inl e4)]);clear e4 y3;refine(C0.out _ hb0).mono ?_;rintro r w1 ⟨rfl,hb1⟩;rw[T.out];have hbw:=hb0.trans (hb1.mono hb0.size);go_wp2_with fail;go_ret;exact CJ.bad E.out (by decide) (hbw.mono hlo)
 ·have T0:=AA e4
  have ab:=Ac.1 e4;obtain⟨an,rfl⟩:∃n:Nat,a1=(n:Int):=⟨a1.toNat,by omega⟩
  have han:an<3:=by omega
  clear e4 y3;refine(C0.out _ hb0).mono ?_;rintro r w1 ⟨rfl,hbW⟩;rw[T0.out];have hbw:=hb0.trans (hbW.mono hb0.size);obtain⟨y0,y1,y2,y3,y4,y5,y6⟩:=DT (c:=⟨k1,e1,(an:Int),b1,c1,nm⟩) (AG HN.out hbW);clear y0 y1 y2 y3 y4 y5;go_wp2_with fail;clear y6;cases e5:Az nm
  ·have T:=AA e5
   have E:=AA (show EL k ⟨k1,e1,(an:Int),b1,c1,nm⟩=(k,0,3) by rw[HP.out,if_pos (.inr e5)]);clear e5;refine(C1.out _ hbw).mono ?_;rintro r w2 ⟨rfl,hb1⟩;rw[T.out];replace hbw:=hbw.trans (hb1.mono hbw.size);go_wp2_with fail;go_ret;exact CJ.bad E.out (by decide) (hbw.mono hlo)
  ·have T:=AA e5
   have HP2:=AA (show EL k ⟨k1,e1,(an:Int),b1,c1,nm⟩=_ by rw[HP.out,if_neg (by rw[T0.out,e5];simp)]);clear e5;refine(C1.out _ hbw).mono ?_;rintro r w2 ⟨rfl,hb1⟩;rw[T.out];replace hbW:=hbW.trans (hb1.mono hbW.size);replace hbw:=hbw.trans (hb1.mono hbw.size);obtain⟨y0,y1,y2,y3,y4,y5,y6⟩:=DT (c:=⟨k1,e1,(an:Int),b1,c1,nm⟩) (AG HN.out hbW);clear hb1;go_wp2_with fail;clear y0 y1 y2 y3 y4 y5 y6;cases e6:Ej k e1 nm
   ·have T6:=AA e6
    have E:=AA (show EL k ⟨k1,e1,(an:Int),b1,c1,nm⟩=(k,0,1) by rw[HP2.out,e6];rfl);clear e6;refine(C2.out _ hbw).mono ?_;rintro r w2 ⟨rfl,hb2⟩;rw[T6.out];replace hbw:=hbw.trans (hb2.mono hbw.size);go_wp2_with fail;go_ret;exact CJ.bad E.out (by decide) (hbw.mono hlo)
   ·have T6:=AA e6
    have HP3:=AA (show EL k ⟨k1,e1,(an:Int),b1,c1,nm⟩=_ by rw[HP2.out,e6,if_neg (by decide)]);clear e6;refine(C2.out _ hbw).mono ?_;rintro r W2 ⟨rfl,hb2⟩;rw[T6.out];replace hbW:=hbW.trans (hb2.mono hbW.size);replace hbw:=hbw.trans (hb2.mono hbw.size);have h2:=HI.out.below hbw;obtain⟨ge,cap,ua,uc,rfl,hge0,D0,_,R,fz⟩:=h2.env (j:=an) (by rw[HK.out.envl];exact han);have x2:=cell_regrown h2.cells.2.2.1;obtain⟨y0,y1,y2,y3,y4,y5,y6⟩:=DT (c:=⟨k1,e1,(an:Int),b1,c1,nm⟩) (AG HN.out hbW);replace y0:=cell_regrown y0;replace y3:=cell_regrown y3;have hane:(an:Int)<k.envs.length:=by rw[HK.out.envl];omega
    have hl20:=Nat.lt_of_lt_of_le hl hbW.size;have hgb:ge≠w.heap.size:=by intro e';have h0:=(World.ownsRow.lt HI.out.2.2.2.2.1.choose_spec.1 ge rfl).2;omega
    clear y1 y2 y4 y5 hb2;go_wp2_with fail;refine wp_region_quiet_below mixed (by kernel_rfl) ?_
    repeat(go_big_quiet_step (fail))
    refine wpQuiet_nil ?_;intro _ hw';obtain⟨⟨dq,osq⟩,hw''⟩:=hw';subst hw'';have bq:=below_regrown W2 dq osq;generalize Sort.grow (redrawn W2 dq) osq=wq at bq;clear x2 y0 y3;go_wp2_with fail;have hbq:=hbw.trans (bq.mono hbw.size);have hIq:=AA (h2.below bq);replace y6:=(bq.cell (p:=⟨w.heap.size,6,none⟩) hl20).trans y6;replace D0:=(bq.cell (p:=⟨ge,an*2,none⟩) hge0).trans D0;have fzq:=(bq.frozen (p:=⟨ge,an*2,none⟩) hge0).trans (fz _);have hl2:=Nat.lt_of_lt_of_le hl20 bq.size;have hge:=Nat.lt_of_lt_of_le hge0 bq.size;have hloq:=Nat.le_trans hlo hbq.size;have Rq:BG wq (.slice ua (AD k.envs an).rights.length uc) (AD k.envs an).rights:=A6.below R bq;have rk:=HK.out.rights an han;have C30:=fun W (hW:Below wq.heap.size wq W)=>NC _ (AD k.envs an).rights nm W (A6.below Rq hW) (Fa rk) hnm rk T.out
    have HP4:=AA (show EL k ⟨k1,e1,(an:Int),b1,c1,nm⟩=if(A0 (AD k.envs an).rights nm).2=false then(k,0,4) else({k with envs:=AR k.envs an (A7 (A0 (AD k.envs an).rights nm).1)},0,0) from HP3.out);unfold Tl at C30;obtain⟨ss,bb,hsb⟩:∃ss bb,A0 (AD k.envs an).rights nm=(ss,bb):=⟨_,_,rfl⟩
    simp only[hsb] at C30 HP4;have C3:=AA C30;clear C30 R Rq rk hsb h2 fz bq hge0 hl20;refine Am 12 52 [.p ge (an*2), .p ge (an*2), .p ge (an*2), .v (.slice ua (AD k.envs an).rights.length uc), .p w.heap.size 1, .p w.heap.size 6, .t nm, .z, .z, .z, .b bb, .z] (fun ix vv ww=>match ix with
     |7=>∃v',vv= .tuple #[v', .bool bb]∧AC wq.heap.size 9 1 Ag ww v' ss
     |8=>∃v',vv= .tuple #[v', .bool bb]∧AC wq.heap.size 9 1 Ag ww v' ss
     |9=>AC wq.heap.size 9 1 Ag ww vv ss
     |11=>AC wq.heap.size 9 1 Ag ww vv ss
     |_=>True) ?_ ?_ ?_
    ·intro i hi o ho a wx Hb Hd hG K HK
     have mc0:=bc hG hge D0;have mc1:=bc hG hl2 y6
     match i,hi with
     |0,_|1,_|2,_|4,_|5,_=>exact sP ho HK Hb Hd
     |3,_=>exact sL ho HK Hb Hd (hl:=K7 (by assumption))
     |6,_=>exact sL ho HK Hb Hd (hl:=UL (by assumption))
     |7,_=>exact sC ho HK Hb Hd (C3.out _ hG) (by rintro e w_ ⟨v',rfl,hO,hb2⟩;exact⟨_,rfl,⟨_,rfl,hO.lower hG.size⟩,hb2⟩)
     |8,_=>
      clear mc0 mc1;obtain rfl:=So_ ho;have d7:∃v',(a.tmps[43]?.getD undef)= .tuple #[v', .bool bb]∧AC wq.heap.size 9 1 Ag wx v' ss:=Bx Hd 7
      clear Hd Hb;obtain⟨v',d7,hO⟩:=d7;refine Aa.of rfl ?_;go_simp;exact HK.out _ _ ⟨_,rfl,hO⟩ (Below.refl _ _)
     |9,_=>
      clear mc0 mc1;obtain rfl:=So_ ho;have d8:∃v',(a.tmps[35]?.getD undef)= .tuple #[v', .bool bb]∧AC wq.heap.size 9 1 Ag wx v' ss:=Bx Hd 8
      clear Hd Hb;obtain⟨v',d8,hO⟩:=d8;refine Aa.of rfl ?_;go_simp;exact HK.out _ _ hO (Below.refl _ _)
     |10,_=>
      clear mc0 mc1;obtain rfl:=So_ ho;have d8:∃v',(a.tmps[35]?.getD undef)= .tuple #[v', .bool bb]∧AC wq.heap.size 9 1 Ag wx v' ss:=Bx Hd 8
      clear Hd Hb;obtain⟨v',d8,hO⟩:=d8;refine Aa.of rfl ?_;go_simp;exact HK.out _ _ rfl (Below.refl _ _)
     |11,_=>clear mc0 mc1;obtain rfl:=So_ ho;have d9:AC wq.heap.size 9 1 Ag wx (a.tmps[44]?.getD undef) ss:=Bx Hd 9;clear Hd Hb;refine Aa.of rfl ?_;go_simp;exact HK.out _ _ d9 (Below.refl _ _)
    ·intro i hi vv wz ww' hbz hz
     match i,hi with
     |7,_=>exact(by obtain⟨v',h0,h1⟩:=hz;exact⟨v',h0,AC.below h1 hbz⟩)
     |8,_=>exact(by obtain⟨v',h0,h1⟩:=hz;exact⟨v',h0,AC.below h1 hbz⟩)
     |9,_=>exact(AC.below hz hbz)
     |11,_=>exact(AC.below hz hbz)
     |0,_|1,_|2,_|3,_|4,_|5,_|6,_|10,_=>exact hz
    ·intro vs wx hR hG
     have q10:(vs 10)= .bool bb:=BT hR 10;have q11:AC wq.heap.size 9 1 Ag wx (vs 11) ss:=BT hR 11;clear hR;simp only[Ai,AQ,List.range,List.range.loop,List.foldl_cons,List.foldl_nil,q10];simp;generalize vs 11=z11 at q11 ⊢;clear q10;have hbx:=hbq.trans (hG.mono hbq.size);replace D0:=(hG.cell (p:=⟨ge,an*2,none⟩) hge).trans D0;replace fzq:=(hG.frozen (p:=⟨ge,an*2,none⟩) hge).trans fzq;cases bb
     ·have E:=AA (show EL k ⟨k1,e1,(an:Int),b1,c1,nm⟩=(k,0,4) by rw[HP4.out];rfl)
      clear q11 hG D0 fzq y6;go_wp2_with fail;go_ret;exact CJ.bad E.out (by decide) (hbx.mono hlo)
     ·have E:=AA (show EL k ⟨k1,e1,(an:Int),b1,c1,nm⟩=({k with envs:=AR k.envs an (A7 ss)},0,0) by rw[HP4.out];rfl)
      have S:=AA (hIq.out.rights rfl hloq hG (by rw[HK.out.envl];exact han) q11);have hbx2:=AA (AN (hbx.mono hlo) S.out.2.1 S.out.2.2 (Nat.le_trans hlo hbx.size));obtain⟨_,_,rfl,_,_⟩:=q11.rd.shape;clear q11 hG y6;go_wp2_with fail;go_ret;exact⟨by rw[E.out];rfl,fun _=>⟨_,_,_,_,by rw[E.out];exact S.out.1⟩,hbx2.out⟩
theorem FX (v:Value) (m:List (List Int)) (r:Int) (w:World) (h:BI w v m) (hok:Bq m=true) (hr:r<12):Calls prog 129 #[v, .int .i64 r] w (Jw m r w):=by
 by_cases h0:r<0
 ·exact QX v m r w h h0
 ·obtain⟨n,rfl⟩:∃n:Nat,r=(n:Int):=⟨r.toNat,by omega⟩
  exact QW v m n w h hok (by omega)
theorem root_lt {k:AH} (h:DV k) {j:Nat} (hj:j<3):(AD k.envs j).root<12:=by have:=h.roots j hj;unfold AY at this;omega
theorem QY {lo g:Nat} {w:World} {m i e c:Value} {k:AH} (h:G2 lo w g m i e c k) (hlo:lo≤w.heap.size) (hK:DV k) (call:AM) (he:0≤call.e) (hn:call.e<3) (hnm:call.nm.size≤maxLen):
 Calls prog 86 #[call.on g] w (CJ lo g w (DL k call)):=by
 have N:=heap_alloc_new w (.cells (call.onCells g) 87);have hb0:=AF w (.cells (call.onCells g) 87);have C0:=AA (fun W (_:Below w.heap.size w W)=>Ab (K5 call.a W));have C1:=AA (fun W (_:Below w.heap.size w W)=>Ce call.nm W hnm);have C2:=AA (fun W (hW:Below w.heap.size w W)=>KV (h.below hW) call call.nm he (by rw[hK.envl];exact hn));have P:DL k call=if Bv call.a 0 2=false∨call.a=call.e∨Az call.nm=false then(k,0,3) else if Ej k call.e call.nm=false then(k,0,1) else if At k.infos (A5 k.mem (AD k.envs call.a.toNat).root) (A9 (AD k.envs call.a.toNat).rights call.nm)=false then(k,0,2) else({k with envs:=AR k.envs call.a.toNat (A7 (A9 (AD k.envs call.a.toNat).rights call.nm))},0,0):=rfl
 obtain⟨k1,e1,a1,b1,c1,nm⟩:=call;simp only[AM.on,AM.onCells] at N hb0 C0 C1 C2 P hnm ⊢;obtain⟨y0,y1,y2,y3,y4,y5,y6⟩:=DT (c:=⟨k1,e1,a1,b1,c1,nm⟩) N;have hl:=Aq N;have HN:=AA N;have HP:=AA P;have HK:=AA hK;have HI:=AA h;clear P hK h N y0 y1 y2 y4 y5 y6;go_in;go_wp2_with fail;generalize hW0:w.alloc _=W0 at*;clear hW0;cases e4:Bv a1 0 2
 ·have T:=AA e4
  have E:=AA (show DL k ⟨k1,e1,a1,b1,c1,nm⟩=(k,0,3) by rw[HP.out,if_pos (.inl e4)]);clear e4 y3;refine(C0.out _ hb0).mono ?_;rintro r w1 ⟨rfl,hb1⟩;rw[T.out];have hbw:=hb0.trans (hb1.mono hb0.size);go_wp2_with fail;go_ret;exact CJ.bad E.out (by decide) (hbw.mono hlo)
 ·have T0:=AA e4
  have ab:=Ac.1 e4;obtain⟨an,rfl⟩:∃n:Nat,a1=(n:Int):=⟨a1.toNat,by omega⟩
  have han:an<3:=by omega
  clear e4 y3;refine(C0.out _ hb0).mono ?_;rintro r w1 ⟨rfl,hbW⟩;rw[T0.out];have hbw:=hb0.trans (hbW.mono hb0.size);obtain⟨y0,y1,y2,y3,y4,y5,y6⟩:=DT (c:=⟨k1,e1,(an:Int),b1,c1,nm⟩) (AG HN.out hbW);clear y0 y1 y4 y5
  by_cases hae:(an:Int)=e1
  ·have E:=AA (show DL k ⟨k1,e1,(an:Int),b1,c1,nm⟩=(k,0,3) by rw[HP.out,if_pos (.inr (.inl hae))])
   have t3:((an:Int)==e1)=true:=by simp[hae]
   clear hae y6;go_wp2_with fail;go_ret;exact CJ.bad E.out (by decide) (hbw.mono hlo)
  have t3:((an:Int)==e1)=false:=by simp[hae]
  have hne:=AA hae;clear hae;go_wp2_with fail;clear y2 y3 y6 t3;cases e5:Az nm
  ·have T:=AA e5
   have E:=AA (show DL k ⟨k1,e1,(an:Int),b1,c1,nm⟩=(k,0,3) by rw[HP.out,if_pos (.inr (.inr e5))]);clear e5;refine(C1.out _ hbw).mono ?_;rintro r w2 ⟨rfl,hb1⟩;rw[T.out];replace hbw:=hbw.trans (hb1.mono hbw.size);go_wp2_with fail;go_ret;exact CJ.bad E.out (by decide) (hbw.mono hlo)
  ·have T:=AA e5
   have HP2:=AA (show DL k ⟨k1,e1,(an:Int),b1,c1,nm⟩=_ by rw[HP.out,if_neg (by rw[T0.out,e5];simpa using hne.out)]);clear e5;refine(C1.out _ hbw).mono ?_;rintro r w2 ⟨rfl,hb1⟩;rw[T.out];replace hbW:=hbW.trans (hb1.mono hbW.size);replace hbw:=hbw.trans (hb1.mono hbw.size);obtain⟨y0,y1,y2,y3,y4,y5,y6⟩:=DT (c:=⟨k1,e1,(an:Int),b1,c1,nm⟩) (AG HN.out hbW);clear hb1;go_wp2_with fail;clear y0 y1 y2 y3 y4 y5 y6;cases e6:Ej k e1 nm
   ·have T6:=AA e6
    have E:=AA (show DL k ⟨k1,e1,(an:Int),b1,c1,nm⟩=(k,0,1) by rw[HP2.out,e6];rfl);clear e6;refine(C2.out _ hbw).mono ?_;rintro r w2 ⟨rfl,hb2⟩;rw[T6.out];replace hbw:=hbw.trans (hb2.mono hbw.size);go_wp2_with fail;go_ret;exact CJ.bad E.out (by decide) (hbw.mono hlo)
   ·have T6:=AA e6
    have HP3:=AA (show DL k ⟨k1,e1,(an:Int),b1,c1,nm⟩=_ by rw[HP2.out,e6,if_neg (by decide)]);clear e6;refine(C2.out _ hbw).mono ?_;rintro r W2 ⟨rfl,hb2⟩;rw[T6.out];replace hbW:=hbW.trans (hb2.mono hbW.size);replace hbw:=hbw.trans (hb2.mono hbw.size);have h2:=HI.out.below hbw;obtain⟨ge,cap,ua,uc,rfl,hge0,D0,D1,R,fz⟩:=h2.env (j:=an) (by rw[HK.out.envl];exact han);have x2:=cell_regrown h2.cells.2.2.1;obtain⟨y0,y1,y2,y3,y4,y5,y6⟩:=DT (c:=⟨k1,e1,(an:Int),b1,c1,nm⟩) (AG HN.out hbW);replace y0:=cell_regrown y0;replace y3:=cell_regrown y3;have hane:(an:Int)<k.envs.length:=by rw[HK.out.envl];omega
    have hl20:=Nat.lt_of_lt_of_le hl hbW.size;have hgb:ge≠w.heap.size:=by intro e';have h0:=(World.ownsRow.lt HI.out.2.2.2.2.1.choose_spec.1 ge rfl).2;omega
    clear y1 y2 y4 y5 hb2;go_wp2_with fail;refine wp_region_quiet_below mixed (by kernel_rfl) ?_
    repeat(go_big_quiet_step (fail))
    refine wpQuiet_nil ?_;intro _ hw';obtain⟨⟨dq,osq⟩,hw''⟩:=hw';subst hw'';have bq:=below_regrown W2 dq osq;generalize Sort.grow (redrawn W2 dq) osq=wq at bq;clear x2 y0 y3;go_wp2_with fail;have hbq:=hbw.trans (bq.mono hbw.size);have hIq:=AA (h2.below bq);replace y6:=(bq.cell (p:=⟨w.heap.size,6,none⟩) hl20).trans y6;replace D0:=(bq.cell (p:=⟨ge,an*2,none⟩) hge0).trans D0;replace D1:=(bq.cell (p:=⟨ge,an*2+1,none⟩) hge0).trans D1;have fzq:=(bq.frozen (p:=⟨ge,an*2,none⟩) hge0).trans (fz _);have hbWq:=hbW.trans (bq.mono hbW.size);have hl2:=Nat.lt_of_lt_of_le hl20 bq.size;have hge:=Nat.lt_of_lt_of_le hge0 bq.size;have hloq:=Nat.le_trans hlo hbq.size;have Rq:BG wq (.slice ua (AD k.envs an).rights.length uc) (AD k.envs an).rights:=A6.below R bq;have rk:=HK.out.rights an han;have C3:=AA (fun W (hW:Below wq.heap.size wq W)=>L7 _ (AD k.envs an).rights nm W (A6.below Rq hW) (Fa rk) hnm rk T.out);have HP4:=AA (show DL k ⟨k1,e1,(an:Int),b1,c1,nm⟩=if At k.infos (A5 k.mem (AD k.envs an).root) (A9 (AD k.envs an).rights nm)=false then(k,0,2) else({k with envs:=AR k.envs an (A7 (A9 (AD k.envs an).rights nm))},0,0) from HP3.out);clear R Rq rk h2 fz bq hge0 hl20;refine Am 8 70 [.p ge (an*2), .p ge (an*2), .p ge (an*2), .v (.slice ua (AD k.envs an).rights.length uc), .p w.heap.size 1, .p w.heap.size 6, .t nm, .z] (fun ix vv ww=>match ix with
     |7=>AC wq.heap.size 9 1 Ag ww vv (A9 (AD k.envs an).rights nm)
     |_=>True) ?_ ?_ ?_
    ·intro i hi o ho a wx Hb Hd hG K HK
     have mc0:=bc hG hge D0;have mc1:=bc hG hl2 y6
     match i,hi with
     |0,_|1,_|2,_|4,_|5,_=>exact sP ho HK Hb Hd
     |3,_=>exact sL ho HK Hb Hd (hl:=K7 (by assumption))
     |6,_=>exact sL ho HK Hb Hd (hl:=UL (by assumption))
     |7,_=>exact sC ho HK Hb Hd (C3.out _ hG) (by rintro e w_ ⟨v',rfl,hO,hb2⟩;exact⟨_,rfl,(hO.lower hG.size),hb2⟩)
    ·intro i hi vv wz ww' hbz hz
     match i,hi with
     |7,_=>exact(AC.below hz hbz)
     |0,_|1,_|2,_|3,_|4,_|5,_|6,_=>exact hz
    ·intro vs wx hR hG
     have q7:AC wq.heap.size 9 1 Ag wx (vs 7) (A9 (AD k.envs an).rights nm):=BT hR 7;clear hR;simp only[Ai,AQ,List.range,List.range.loop,List.foldl_cons,List.foldl_nil];simp;generalize vs 7=z7 at q7 ⊢;have hbx:=hbq.trans (hG.mono hbq.size);have hbWx:=hbWq.trans (hG.mono hbWq.size);have hIx:=hIq.out.below hG;obtain⟨y0,_,_,_,_,_,_⟩:=DT (c:=⟨k1,e1,(an:Int),b1,c1,nm⟩) (AG HN.out hbWx);replace D0:=(hG.cell (p:=⟨ge,an*2,none⟩) hge).trans D0;replace D1:=(hG.cell (p:=⟨ge,an*2+1,none⟩) hge).trans D1;replace fzq:=(hG.frozen (p:=⟨ge,an*2,none⟩) hge).trans fzq;have hge3:=Nat.lt_of_lt_of_le hge hG.size;have hl3:=Nat.lt_of_lt_of_le hl2 hG.size;have hgl3:=Aq hIx.1;have x0:=hIx.cells.1;have x1:=hIx.cells.2.1;have hm12:=root_lt HK.out han;have RM:BI wx m k.mem:=hIx.2.2.rd.1;have RIn:BH wx i k.infos:=hIx.2.2.2.1.rd;have hOq:=AA q7;have hGq:=AA hG;obtain⟨wy,rfl⟩:∃wy:World,wy=wx:=⟨_,rfl⟩
     have CX:=AA (fun W (hW:Below wy.heap.size wy W)=>FX m k.mem _ W (RM.below hW) (AT HK.out).1 hm12);have CA:=AA (fun W (hW:Below wy.heap.size wy W) v2 ts (h2:Ap W v2 (Ah ts)) (hm:∀g,g∈ts↔g∈A5 k.mem (AD k.envs an).root)=>by have:=F0 g _ v2 _ (A9 (AD k.envs an).rights nm) ts k.infos W ((hW.cell (p:=⟨g,1,none⟩) hgl3).trans x1) (A6.below q7.rd hW) (A6.below RIn hW) h2 (fun f hf=>by have:=reach_lt hm12 f ((hm f).1 hf);have:=HK.out.len;omega);rw[ED hm] at this;exact this);generalize hbb:At k.infos (A5 k.mem (AD k.envs an).root) (A9 (AD k.envs an).rights nm)=bb at CA HP4;have HBb:=AA hbb;obtain⟨p1,p2,rfl,_,_⟩:=q7.rd.shape;clear hbb RM RIn q7 hG hIx x1;go_wp2_with fail;refine Am 14 70 [.p w.heap.size 0, .p g 0, .v (.slice p1 (A9 (AD k.envs an).rights nm).length p2), .p w.heap.size 0, .p g 0, .p g 0, .p g 0, .v m, .p ge (an*2), .p ge (an*2), .p ge (an*2+1), .i ((AD k.envs an).root), .z, .b bb] (fun ix vv ww=>match ix with
      |12=>Cp wy.heap.size k.mem (AD k.envs an).root ww vv
      |_=>True) ?_ ?_ ?_
     ·intro i hi o ho a wx Hb Hd hG K HK
      have mc0:=bc hG hl3 y0;have mc1:=bc hG hgl3 x0;have mc2:=bc hG hge3 D1
      match i,hi with
      |0,_|2,_|3,_|5,_|6,_|8,_|9,_|10,_=>exact sP ho HK Hb Hd
      |1,_|4,_=>exact sL ho HK Hb Hd (hl:=GC (by assumption))
      |7,_=>exact sL ho HK Hb Hd (hl:=Ff (by assumption))
      |11,_=>exact sL ho HK Hb Hd (hl:=Fg (by assumption))
      |12,_=>exact sC ho HK Hb Hd (CX.out _ hG) (by rintro e w_ ⟨v',ts,rfl,hO,hmem,_,hb2⟩;exact⟨_,rfl,⟨ts,Bd hO hG.size,hmem⟩,hb2⟩)
      |13,_=>clear mc0 mc1 mc2;obtain rfl:=So_ ho;have d1:(a.tmps[52]?.getD undef)= .pointer (some ⟨g,0,none⟩):=Bx Hd 1;have d2:(a.tmps[53]?.getD undef)= .slice p1 (A9 (AD k.envs an).rights nm).length p2:=Bx Hd 2;have d12:Cp wy.heap.size k.mem (AD k.envs an).root wx (a.tmps[63]?.getD undef):=Bx Hd 12;clear Hd Hb;generalize e63:a.tmps[63]?.getD undef=v2 at d12;obtain⟨ts,hO,hmem⟩:=d12;have CAx:=CA.out wx hG v2 ts (AE.rd hO) hmem;refine Aa.of rfl ?_;go_simp;refine CAx.mono ?_;rintro e w_ ⟨rfl,hb2⟩;exact HK.out _ _ rfl hb2
     ·intro i hi vv wz ww' hbz hz
      match i,hi with
      |12,_=>exact(Cp.below hz hbz)
      |0,_|1,_|2,_|3,_|4,_|5,_|6,_|7,_|8,_|9,_|10,_|11,_|13,_=>exact hz
     ·intro vs wx hR hG
      have q13:(vs 13)= .bool bb:=BT hR 13;clear hR;simp only[Ai,AQ,List.range,List.range.loop,List.foldl_cons,List.foldl_nil,q13];simp;clear q13;have hbz:=hbx.trans (hG.mono hbx.size);cases bb
      ·have E:=AA (show DL k ⟨k1,e1,(an:Int),b1,c1,nm⟩=(k,0,2) by rw[HP4.out];rfl)
       clear hG D0 D1 fzq y0 x0;go_wp2_with fail;go_ret;exact CJ.bad E.out (by decide) (hbz.mono hlo)
      ·have E:=AA (show DL k ⟨k1,e1,(an:Int),b1,c1,nm⟩=({k with envs:=AR k.envs an (A7 (A9 (AD k.envs an).rights nm))},0,0) by rw[HP4.out];rfl)
       have S:=AA (hIq.out.rights rfl hloq (hGq.out.trans (hG.mono hGq.out.size)) (by rw[HK.out.envl];exact han) (hOq.out.below hG));have hbz2:=AA (AN (hbz.mono hlo) S.out.2.1 S.out.2.2 (Nat.le_trans hlo hbz.size));replace D0:=(hG.cell (p:=⟨ge,an*2,none⟩) hge3).trans D0;replace fzq:=(hG.frozen (p:=⟨ge,an*2,none⟩) hge3).trans fzq;clear hG D1 y0 x0;go_wp2_with fail;go_ret;exact⟨by rw[E.out];rfl,fun _=>⟨_,_,_,_,by rw[E.out];exact S.out.1⟩,hbz2.out⟩
theorem BD {w w1:World} {b g:Nat} {o:Obj} (h:w.heap[b]? =some o) (hg:w.grownBy w1 (some g)) (hne:g≠b):w1.heap[b]? =some o:=
 (hg.block b (Aq h) (fun e=>hne (So_ e).symm)).trans h
theorem DY {w:World} {b g T T':Nat} {c c':Array Value} (h:w.heap[b]? =some (.cells c T (0,0))) (h':w.heap[g]? =some (.cells c' T' (0,0))) (hT:T≠T'):b≠g:=fun e=>by subst e;rw[h] at h';simp at h';exact hT h'.2
def Tj (g:Nat) (w W:World):Prop:=∀b cu,b≠g→w.heap[b]? =some (.cells cu 27 (0,0))→W.heap[b]? =w.heap[b]?
theorem Tj.below {g:Nat} {w W W':World} (h:Tj g w W) (hb:Below W.heap.size W W'):Tj g w W':=fun b cu hg hB=>(hb.block b (Aq ((h b cu hg hB).trans hB))).trans (h b cu hg hB)
theorem Tj.row {g q T:Nat} {w W W':World} {cu:Array Value} (h:Tj g w W) (hg:W.grownBy W' (some q)) (hq:W.heap[q]? =some (.cells cu T (0,0))) (hT:T≠27):Tj g w W':=fun b cu' hbg hB=>
 have e:=(h b cu' hbg hB).trans hB
 (BD e hg (DY hq e hT)).trans hB.symm
theorem Tj.own {g:Nat} {w W W':World} (h:Tj g w W) (hg:W.grownBy W' (some g)):Tj g w W':=fun b cu' hbg hB=>
 have e:=(h b cu' hbg hB).trans hB
 (BD e hg (fun h=>hbg h.symm)).trans hB.symm
structure DW (T:Nat) (cs:Array Value) (R:List Nat) (lo g b0:Nat) (w W:World) (m i e c:Value) (k:AH):Prop where
 ink:G2 lo W g m i e c k
 blk:W.heap[b0]? =some (.cells cs T (0,0))
 bel:Below lo w W
 lo:lo≤W.heap.size
 ty:27≠T∧91≠T∧62≠T∧3≠T∧28≠T
 kf:Tj g w W
 rs:∀b∈R,g≠b∧W.heap[b]? =some (.cells #[.slice none 0 0, .slice none 0 0, .slice none 0 0, .slice none 0 0] 27 (0,0))
abbrev CS (lo g b0:Nat) (call:AM) (w W:World) (m i e c:Value) (k:AH):Prop:=DW 87 (call.onCells g) [] lo g b0 w W m i e c k
theorem DW.start {lo g:Nat} {w:World} {m i e c:Value} {k:AH} (h:G2 lo w g m i e c k) (hlo:lo≤w.heap.size) (call:AM):CS lo g w.heap.size call w (w.alloc (.cells (call.onCells g) 87)) m i e c k:=
 ⟨h.below (AF _ _),heap_alloc_new _ _,(AF _ _).mono hlo,Nat.le_trans hlo (AF _ _).size,by decide,Tj.below (fun _ _ _ _=>rfl) (AF _ _),nofun⟩
theorem DW.ys {lo g b0:Nat} {call:AM} {w W:World} {m i e c:Value} {k:AH} (h:CS lo g b0 call w W m i e c k):W.cell? ⟨b0,0,none⟩=some (.pointer (some ⟨g,0,none⟩))∧W.cell? ⟨b0,1,none⟩=some (.int .i64 call.k)∧W.cell? ⟨b0,2,none⟩=some (.int .i64 call.e)∧W.cell? ⟨b0,3,none⟩=some (.int .i64 call.a)∧W.cell? ⟨b0,4,none⟩=some (.int .i64 call.b)∧W.cell? ⟨b0,5,none⟩=some (.int .i64 call.c)∧W.cell? ⟨b0,6,none⟩=some (.string call.nm):=DT h.blk
section
variable {T:Nat} {cs:Array Value} {R:List Nat} {lo g b0:Nat} {w W W':World} {m i e c:Value} {k:AH}
theorem DW.below (h:DW T cs R lo g b0 w W m i e c k) (hb:Below W.heap.size W W'):DW T cs R lo g b0 w W' m i e c k:=
 ⟨h.ink.below hb,AG h.blk hb,h.bel.trans (hb.mono h.lo),Nat.le_trans h.lo hb.size,h.ty,h.kf.below hb,fun b hr=>⟨(h.rs b hr).1,AG (h.rs b hr).2 hb⟩⟩
theorem DW.xs (h:DW T cs R lo g b0 w W m i e c k):W.cell? ⟨g,0,none⟩=some m∧W.cell? ⟨g,1,none⟩=some i∧W.cell? ⟨g,2,none⟩=some e∧W.cell? ⟨g,3,none⟩=some c:=h.ink.cells
theorem DW.lts (h:DW T cs R lo g b0 w W m i e c k):b0<W.heap.size∧g<W.heap.size∧g≠b0∧b0≠g:=⟨Aq h.blk,Aq h.ink.1,DY h.ink.1 h.blk h.ty.1,(DY h.ink.1 h.blk h.ty.1).symm⟩
theorem DW.row_ne (h:DW T cs R lo g b0 w W m i e c k) {lo' T' sz n:Nat} {v:Value} {xs:List Value} (o:W.ownsRow lo' T' sz v n xs) {b:Nat} (hb:v.ownBlock=some b) (h1:T'≠27) (h2:T'≠T):(b≠g∧g≠b)∧b≠b0∧b0≠b:=by obtain⟨cur,hc⟩:=A8 o b hb;have a1:=DY hc h.ink.1 h1;have a2:=DY hc h.blk h2;exact⟨⟨a1,a1.symm⟩,a2,a2.symm⟩
theorem DW.infos (h:DW T cs R lo g b0 w W m i e c k) (hl:0<k.infos.length):∃gi cap,i= .slice (some ⟨gi,0,none⟩) k.infos.length cap∧gi<W.heap.size∧lo≤gi∧((gi≠g∧g≠gi)∧gi≠b0∧b0≠gi)∧∀q,W.frozen? ⟨gi,q,none⟩=false:=by obtain⟨gi,cap,e1,h1,h2,_,_,_,hz⟩:=h.ink.infoAt' hl;refine⟨gi,cap,e1,h1,h2,h.row_ne h.ink.2.2.2.1 (by rw[e1];rfl) (by decide) h.ty.2.1,hz⟩
theorem DW.envs (h:DW T cs R lo g b0 w W m i e c k) (hl:0<k.envs.length):∃ge cap,e= .slice (some ⟨ge,0,none⟩) k.envs.length cap∧ge<W.heap.size∧((ge≠g∧g≠ge)∧ge≠b0∧b0≠ge)∧∀q,W.frozen? ⟨ge,q,none⟩=false:=by obtain⟨ge,cap,_,_,e1,h1,_,_,_,hz⟩:=h.ink.env hl;obtain⟨ps,o⟩:=h.ink.2.2.2.2.1;exact⟨ge,cap,e1,h1,h.row_ne o.1 (by rw[e1];rfl) (by decide) h.ty.2.2.1,hz⟩
theorem DW.infos_envs {gi ge n n' cap cap':Nat} (h:DW T cs R lo g b0 w W m (.slice (some ⟨gi,0,none⟩) n cap) (.slice (some ⟨ge,0,none⟩) n' cap') c k):gi≠ge∧ge≠gi:=by obtain⟨ps,o⟩:=h.ink.2.2.2.2.1;obtain⟨c1,h1⟩:=A8 o.1 ge rfl;obtain⟨c2,h2⟩:=A8 h.ink.2.2.2.1 gi rfl;have:=DY h2 h1 (by decide);exact⟨this,this.symm⟩
theorem DW.info {gi n cap:Nat} (h:DW T cs R lo g b0 w W m (.slice (some ⟨gi,0,none⟩) n cap) e c k) (hn:n=k.infos.length) {f:Nat} (hf:f<k.infos.length) (r:Int):
 DW T cs R lo g b0 w (W.setCell ⟨gi,f*3+2,none⟩ (.int .i64 ((infoAt k.infos f).r+r))) m (.slice (some ⟨gi,0,none⟩) n cap) e c {k with infos:=AR k.infos f (DD r)}:=by
 have T:=h.ink.info hn (Br hf) (j:=2) (by decide) (y:=DD r (infoAt k.infos f)) (u:= .int .i64 ((infoAt k.infos f).r+r)) rfl;rw[←FH] at T;obtain⟨c2,h2⟩:=A8 h.ink.2.2.2.1 gi rfl;exact⟨T.1,BD h.blk T.2.1 (DY h2 h.blk h.ty.2.1),AN h.bel T.2.1 T.2.2 h.lo,Nat.le_trans h.lo T.2.1.size,h.ty,h.kf.row T.2.1 h2 (by decide),fun b hr=>⟨(h.rs b hr).1,BD (h.rs b hr).2 T.2.1 (DY h2 (h.rs b hr).2 (by decide))⟩⟩
theorem DW.root {ge n cap:Nat} (h:DW T cs R lo g b0 w W m i (.slice (some ⟨ge,0,none⟩) n cap) c k) (hn:n=k.envs.length) {j:Nat} (hj:j<k.envs.length) (r:Int):
 DW T cs R lo g b0 w (W.setCell ⟨ge,j*2+1,none⟩ (.int .i64 r)) m i (.slice (some ⟨ge,0,none⟩) n cap) c {k with envs:=AR k.envs j (Bl r)}:=by
 have T:=h.ink.root hn hj r;obtain⟨ps,o⟩:=h.ink.2.2.2.2.1;obtain⟨c2,h2⟩:=A8 o.1 ge rfl;exact⟨T.1,BD h.blk T.2.1 (DY h2 h.blk h.ty.2.2.1),AN h.bel T.2.1 T.2.2 h.lo,Nat.le_trans h.lo T.2.1.size,h.ty,h.kf.row T.2.1 h2 (by decide),fun b hr=>⟨(h.rs b hr).1,BD (h.rs b hr).2 T.2.1 (DY h2 (h.rs b hr).2 (by decide))⟩⟩
theorem DW.cache (h:DW T cs R lo g b0 w W m i e c k) (hb:Below W.heap.size W W') {c':Value} {xs:List AU} (h2:AC W.heap.size 95 4 AJ W' c' xs):DW T cs R lo g b0 w (W'.setCell ⟨g,3,none⟩ c') m i e c' {k with cache:=xs}:=by
 have h':=h.below hb;exact⟨h.ink.cache h.lo hb h2,BD h'.blk (Aj W' g 3 c') h.lts.2.2.1,h'.bel.setCell h.ink.2.1 _,by simpa using h'.lo,h.ty,h'.kf.own (Aj W' g 3 c'),fun b hr=>⟨(h.rs b hr).1,BD (h'.rs b hr).2 (Aj W' g 3 _) (h.rs b hr).1⟩⟩
theorem DW.newInfos (h:DW T cs R lo g b0 w W m i e c k) (hb:Below W.heap.size W W') {i':Value} {xs:List AL} (h2:AC W.heap.size 91 3 AX W' i' xs):DW T cs R lo g b0 w (W'.setCell ⟨g,1,none⟩ i') m i' e c {k with infos:=xs}:=by
 have h':=h.below hb;exact⟨h.ink.infos h.lo hb h2,BD h'.blk (Aj W' g 1 i') h.lts.2.2.1,h'.bel.setCell h.ink.2.1 _,by simpa using h'.lo,h.ty,h'.kf.own (Aj W' g 1 i'),fun b hr=>⟨(h.rs b hr).1,BD (h'.rs b hr).2 (Aj W' g 1 _) (h.rs b hr).1⟩⟩
theorem DW.fzi {gi n cap:Nat} (h:DW T cs R lo g b0 w W m (.slice (some ⟨gi,0,none⟩) n cap) e c k) (q:Nat):W.frozen? ⟨gi,q,none⟩=false:=by obtain⟨cur,hc⟩:=A8 h.ink.2.2.2.1 gi rfl;exact AI hc q
theorem DW.fze {ge n cap:Nat} (h:DW T cs R lo g b0 w W m i (.slice (some ⟨ge,0,none⟩) n cap) c k) (q:Nat):W.frozen? ⟨ge,q,none⟩=false:=by obtain⟨ps,o⟩:=h.ink.2.2.2.2.1;obtain⟨cur,hc⟩:=A8 o.1 ge rfl;exact AI hc q
theorem DW.ge_lt {ge n cap:Nat} (h:DW T cs R lo g b0 w W m i (.slice (some ⟨ge,0,none⟩) n cap) c k):ge<W.heap.size:=by obtain⟨ps,o⟩:=h.ink.2.2.2.2.1;exact(World.ownsRow.lt o.1 ge rfl).2
theorem DW.gi_lt {gi n cap:Nat} (h:DW T cs R lo g b0 w W m (.slice (some ⟨gi,0,none⟩) n cap) e c k):gi<W.heap.size:=(World.ownsRow.lt h.ink.2.2.2.1 gi rfl).2
theorem DW.env {ge n cap:Nat} (h:DW T cs R lo g b0 w W m i (.slice (some ⟨ge,0,none⟩) n cap) c k) {j:Nat} (hj:j<k.envs.length):
 ∃ua uc,W.cell? ⟨ge,j*2,none⟩=some (.slice ua (AD k.envs j).rights.length uc)∧W.cell? ⟨ge,j*2+1,none⟩=some (.int .i64 (AD k.envs j).root)∧BG W (.slice ua (AD k.envs j).rights.length uc) (AD k.envs j).rights:=by
 obtain⟨ge',cap',ua,uc,e1,_,d0,d1,R,_⟩:=h.ink.env hj;cases e1;exact⟨ua,uc,d0,d1,R⟩
theorem DW.infoAt {gi n cap:Nat} (h:DW T cs R lo g b0 w W m (.slice (some ⟨gi,0,none⟩) n cap) e c k) {f:Nat} (hf:f<k.infos.length):
 W.cell? ⟨gi,f*3,none⟩=some (.int .i64 (infoAt k.infos f).k)∧W.cell? ⟨gi,f*3+1,none⟩=some (.string (infoAt k.infos f).g)∧W.cell? ⟨gi,f*3+2,none⟩=some (.int .i64 (infoAt k.infos f).r):=by
 obtain⟨gi',cap',e1,_,_,d0,d1,d2,_⟩:=h.ink.infoAt' hf;cases e1;exact⟨d0,d1,d2⟩
theorem DW.mems (h:DW T cs R lo g b0 w W m i e c k) (hok:Bq k.mem=true):∃gm cap,m= .slice (some ⟨gm,0,none⟩) 12 cap∧gm<W.heap.size∧(gm≠g∧g≠gm)∧gm≠b0∧b0≠gm:=by obtain⟨gm,cap,_,_,_,e1,h1,h2,_⟩:=h.ink.memRow hok (f:=0) (by omega);obtain⟨vs,o⟩:=h.ink.2.2.1;exact⟨gm,cap,e1,h1,h.row_ne o.1 (by rw[e1];rfl) (by decide) h.ty.2.2.2.2⟩
theorem DW.mrow {gm n cap:Nat} (h:DW T cs R lo g b0 w W (.slice (some ⟨gm,0,none⟩) n cap) i e c k) (hok:Bq k.mem=true) {f:Nat} (hf:f<12):
 ∃gw capw,W.cell? ⟨gm,f,none⟩=some (.slice (some ⟨gw,0,none⟩) 4 capw)∧gw<W.heap.size∧4≤capw∧(∀j,j<4→W.cell? ⟨gw,j,none⟩=some (.int .i64 (Ar k.mem f j)))∧(∀q,W.frozen? ⟨gw,q,none⟩=false)∧((gw≠g∧g≠gw)∧gw≠b0∧b0≠gw)∧(gw≠gm∧gm≠gw)∧(∀b cu T,W.heap[b]? =some (.cells cu T (0,0))→T≠3→gw≠b)∧
  ∀j v,j<4→DW T cs R lo g b0 w (W.setCell ⟨gw,j,none⟩ (.int .i64 v)) (.slice (some ⟨gm,0,none⟩) n cap) i e c {k with mem:=CZ k.mem f j v}:=by
 obtain⟨gm',cap',gw,capw,vs,e1,_,_,hc,hl,hlo,h1,h2,o,hu,hx⟩:=h.ink.memRow hok hf;cases e1;have h4:=(BZ.1 ((Af.1 hok).2 f hf)).1;have hx4:W.ownsRow lo 3 1 (.slice (some ⟨gw,0,none⟩) 4 capw) 4 ((AK k.mem f).map (Value.int .i64)):=by have:=hx;unfold AE at this;rwa [h4] at this
 have hc4:4≤capw:=by obtain⟨_,_,hv,hcc,_⟩:=Ap.open (AE.rd hx);simp only[Value.slice.injEq] at hv;obtain⟨_,_,rfl⟩:=hv;omega
 obtain⟨cur,hcur⟩:=A8 hx4 gw rfl;refine⟨gw,capw,hc,hl,hc4,fun j hj=>?_,fun q=>World.ownsRow.frozenAt hx4 q,h.row_ne hx4 rfl (by decide) h.ty.2.2.2.1,⟨h2,h2.symm⟩,fun b cu T hb hT=>DY hcur hb (Ne.symm hT),fun j v hj=>?_⟩
 ·have:=World.ownsRow.cellAt hx4 j hj
  rw[this,List.getElem?_map];unfold Ar;rw[Ba (d:=0) (by omega)];rfl
 ·have S:=World.ownsRow.stored hx4 j (.int .i64 v)
  have hO:AE lo (W.setCell ⟨gw,j,none⟩ (.int .i64 v)) (.slice (some ⟨gw,0,none⟩) 4 capw) ((AK k.mem f).set j v):=by unfold AE;rw[List.length_set,h4,List.map_set];exact S.1
  have T:=h.ink.row o (by rw[(Af.1 hok).1];exact hf) hu hO S.2;rw[←Ms] at T;exact⟨T,BD h.blk S.2 (DY hcur h.blk h.ty.2.2.2.1),AN h.bel S.2 hlo h.lo,Nat.le_trans h.lo S.2.size,h.ty,h.kf.row S.2 hcur (by decide),fun b hr=>⟨(h.rs b hr).1,BD (h.rs b hr).2 S.2 (DY hcur (h.rs b hr).2 (by decide))⟩⟩
end
def OR (W:World) (lo g b0:Nat) (call:AM) (w:World) (m i e:Value) (k:AH) (b:Bool) (ww:World):Prop:=match b with
 |false=>Below W.heap.size W ww
 |true=>∃c',CS lo g b0 call w ww m i e c' k
theorem OR.grow {W:World} {lo g b0:Nat} {call:AM} {w:World} {m i e:Value} {k:AH} {b:Bool} {ww ww':World} (h:OR W lo g b0 call w m i e k b ww) (hb:Below ww.heap.size ww ww'):OR W lo g b0 call w m i e k b ww':=by
 cases b
 ·exact Below.trans h (hb.mono h.size)
 ·obtain⟨c',h⟩:=h
  exact⟨c',h.below hb⟩
theorem II {α:Type} {lo e sz:Nat} {cs:α→List Value} {w:World} {v u:Value} {xs:List α} {g j:Nat} (h:AC lo e sz cs w v xs) (hg:g<lo):AC lo e sz cs (w.setCell ⟨g,j,none⟩ u) v xs:=
 AC.grown h (Aj w g j u) (by
  rcases hv:v.ownBlock with _|b
  ·exact .inl rfl
  ·refine .inr fun e=>?_
   cases e;have:=(World.ownsRow.lt h g hv).1;omega)
theorem ER {L:Nat→Bool} {i j:Nat} (h:i≠j):Gy L i j=L j:=if_neg (fun e=>h e.symm)
theorem En {L:Nat→Bool} {i:Nat}:Gy L i i=true:=if_pos rfl
theorem DW.callEnv {lo g b0:Nat} {call:AM} {w W:World} {m i c:Value} {k:AH} {ge n cap en:Nat} (h:CS lo g b0 call w W m i (.slice (some ⟨ge,0,none⟩) n cap) c k) (he:call.e=(en:Int)) (hn:en<n) (W':World) (hb:Below W.heap.size W W'):
 Calls prog 120 #[call.on g] W' fun e w'=>e= .returned (.pointer (some ⟨ge,en*2,none⟩))∧Below W'.heap.size W' w':=SG g ge n cap en call W' (h.below hb).xs.2.2.1 he hn
end Go.Proofs.YteocokgpmgfbaaaGreatDoor
set_option linter.unusedVariables false
namespace Go.Proofs.YteocokgpmgfbaaaGreatDoor
open Go.Proofs.Tryz
def Fy (fs:List Nat):List Nat:=(List.range 12).filter fun f=>fs.contains f
theorem JI {fs:List Nat} {f:Nat}:f∈Fy fs↔f<12∧f∈fs:=by simp[Fy]
theorem JH {fs:List Nat}:(Fy fs).length≤12:=by
 have:=List.length_filter_le (fun f=>fs.contains f) (List.range 12);simpa[Fy] using this
def Di (m:List (List Int)) (root:Nat):List Nat:=Fy (named (AK m root))
def GV (m:List (List Int)) (root:Nat):List Nat:=Fy ((Di m root).flatMap fun t=>named (AK m t))
def EP (m:List (List Int)) (root:Int):List Nat:=if root<0 then[] else Fy (root.toNat::Di m root.toNat++GV m root.toNat)
theorem GJ {m:List (List Int)} {root f:Nat}:f∈Di m root↔f∈named (AK m root):=by
 unfold Di;rw[JI];exact⟨fun h=>h.2,fun h=>⟨Ek h,h⟩⟩
theorem Pw {m:List (List Int)} {root f:Nat}:f∈GV m root↔∃t,t∈named (AK m root)∧f∈named (AK m t):=by
 unfold GV;rw[JI,List.mem_flatMap];constructor
 ·rintro⟨_,t,ht,hf⟩
  exact⟨t,GJ.1 ht,hf⟩
 ·rintro⟨t,ht,hf⟩
  exact⟨Ek hf,t,GJ.2 ht,hf⟩
theorem Fu {m:List (List Int)} {root:Int} (h:root<12) (f:Nat):f∈EP m root↔f∈A5 m root:=by
 rw[DK];unfold EP
 by_cases h0:root<0
 ·rw[if_pos h0]
  simp;omega
 ·rw[if_neg h0,JI,List.cons_append,List.mem_cons,List.mem_append,GJ,Pw]
  constructor
  ·rintro⟨_,h⟩
   exact⟨by omega,h⟩
  ·rintro⟨_,h⟩
   refine⟨?_,h⟩
   rcases h with rfl|h|⟨t,_,h⟩
   ·omega
   ·exact Ek h
   ·exact Ek h
def Mv (k:AH) (a e:Nat):Bool:=decide (AY k e=(a:Int))||(decide (0≤AY k e)&&(Di k.mem (AY k e).toNat).contains a)
def Pb (k:AH) (a:Nat):List Nat:=(List.range 3).filter (Mv k a)
theorem Tf {k:AH} (h:DV k) {a:Nat} (ha:Bg (A4 k a)=true):Pb k a=ET k a:=by
 unfold Pb ET;refine List.filter_congr fun e he=>?_
 have he3:=List.mem_range.1 he;rw[Bool.eq_iff_iff,List.contains_iff_mem]
 show _↔a∈A5 k.mem (AY k e)
 rw[DK];unfold Mv;simp only[Bool.or_eq_true,Bool.and_eq_true,decide_eq_true_eq,List.contains_iff_mem,GJ];constructor
 ·rintro(h1|⟨h0,h1⟩)
  ·exact⟨by omega, .inl (by omega)⟩
  ·exact⟨h0, .inr (.inl h1)⟩
 ·rintro⟨h0,h1|h1|⟨t,ht,h1⟩⟩
  ·exact .inl (by omega)
  ·exact .inr ⟨h0,h1⟩
  ·have:=(h.data_kind he3 h0 ht h1).2
   rw[this] at ha;cases ha
def IQ (k:AH) (w:Int):List Nat:=if BV w then A1 w::(if(infoAt k.infos (A1 w)).k=2 then named (AK k.mem (A1 w)) else[]) else[]
theorem Qr {k:AH} {w:Int} (h:BV w=true→(infoAt k.infos (A1 w)).k≠3):IQ k w=DA k w:=by
 unfold IQ DA;cases hg:BV w
 ·rfl
 ·have:=h hg
  simp only[if_true]
  congr 1
  by_cases h2:(infoAt k.infos (A1 w)).k=2
  ·rw[if_pos h2,if_pos (by simp[Bg,h2])]
  ·rw[if_neg h2,if_neg (by simp[Bg,h2,this])]
theorem LN {infos:List AL} {fs:List Nat} {n kind:Int} {f:Nat}:AR (Av infos fs n) f (Co kind)=Av (AR infos f (Co kind)) fs n:=by
 induction fs generalizing infos with
 |nil=>rfl
 |cons g fs ih=>
  show AR (Av (AR infos g (DD n)) fs n) f (Co kind)=Av (AR (AR infos f (Co kind)) g (DD n)) fs n
  rw[ih]
  congr 1
  simp only[IF (d:=AL.zero),Gn]
  by_cases e:f=g
  ·subst e
   rw[List.set_set,List.set_set]
   by_cases hl:f<infos.length
   ·rw[if_pos ⟨rfl,hl⟩,if_pos ⟨rfl,hl⟩]
    rfl
   ·rw[List.set_eq_of_length_le (by omega),List.set_eq_of_length_le (by omega)]
  ·rw[if_neg (fun h=>e h.1),if_neg (fun h=>e h.1.symm),List.set_comm _ _ (fun h=>e h.symm)]
def Kx (ss:List ByteArray) (s:ByteArray):Nat:=(ss.takeWhile fun x=>!J9 x s).length
theorem Jq {α:Type} (p:α→Bool) (l:List α):l.take (l.takeWhile p).length=l.takeWhile p∧l.drop (l.takeWhile p).length=l.dropWhile p:=by
 induction l with
 |nil=>simp
 |cons x l ih=>
  by_cases h:p x=true
  ·simp[h,ih.1,ih.2]
  ·simp[h]
theorem Ts {ss:List ByteArray} {s:ByteArray}:MB ss s=ss.take (Kx ss s)++s::ss.drop (Kx ss s):=by unfold MB Kx;rw[(Jq _ _).1,(Jq _ _).2]
theorem Of {ss:List ByteArray} {s:ByteArray} {k:Nat} (hk:k≤ss.length) (h1:∀j,j<k→KA (Bi ss j) s=true) (h2:k<ss.length→KA (Bi ss k) s=false):Kx ss s=k:=by
 unfold Kx
 induction ss generalizing k with
 |nil=>simp at hk;subst hk;rfl
 |cons x ss ih=>
  cases k with
  |zero=>have:=h2 (by simp);have e:KA x s=false:=this;rw[List.takeWhile_cons,if_neg (by simp[Jz,e])];rfl
  |succ k=>
   have e:KA x s=true:=h1 0 (by omega);rw[List.takeWhile_cons,if_pos (by simp[Jz,e]),List.length_cons]
   congr 1
   refine ih (by simpa using hk) (fun j hj=>?_) (fun hk'=>?_)
   ·exact h1 (j+1) (by omega)
   ·exact h2 (by simpa using hk')
theorem UO {a:ByteArray}:KA a a=false:=by
 cases h:KA a a
 ·rfl
 ·exact absurd (Ia.1 h) (List.lt_irrefl _)
theorem U1 {ss:List ByteArray} {s:ByteArray} (h:Ax ss=true):ss.any (fun x=>decide (x=s))=(decide (Kx ss s<ss.length)&&decide (Bi ss (Kx ss s)=s)):=by
 obtain⟨_,hp,_⟩:=Dp.1 h;have hd:=List.takeWhile_append_dropWhile (p:=fun x=>!J9 x s) (l:=ss);rw[Bool.eq_iff_iff];simp only[Bool.and_eq_true,decide_eq_true_eq,List.any_eq_true];constructor
 ·rintro⟨x,hx,rfl⟩
  obtain⟨j,hj,hjx⟩:=List.getElem_of_mem hx;have hc:Kx ss x=j:=by
   refine Of (Nat.le_of_lt hj) (fun i hi=>?_) (fun _=>?_)
   ·have:=List.pairwise_iff_getElem.1 hp i j (by omega) hj hi
    unfold Bi;rw[List.getD_eq_getElem?_getD,List.getElem?_eq_getElem (by omega)];simpa[hjx] using this
   ·unfold Bi
    rw[List.getD_eq_getElem?_getD,List.getElem?_eq_getElem hj];simpa[hjx] using UO
  rw[hc];refine⟨hj,?_⟩;unfold Bi;rw[List.getD_eq_getElem?_getD,List.getElem?_eq_getElem hj];simpa using hjx
 ·rintro⟨hl,hx⟩
  exact⟨_,List.mem_of_getElem? (FV hl),hx⟩
theorem KF.lows_ne {p:BU} (h:KF p) {n i:Nat} (hn:n<16) (hw:(AW p.pages n).w=1) (hi:i<4):(GD p.low i).toNat≠(AW p.pages n).a.toNat:=fun e=>by have h1:=h.low_kind hi;have h2:=h.frame_kind hn hw;rw[e] at h1;omega
theorem KF.root_ne {p:BU} (h:KF p) {n:Nat} (hn:n<16) (hw:(AW p.pages n).w=1):(AY p.kern 0).toNat≠(AW p.pages n).a.toNat:=fun e=>by have h1:=h.root_lt;have h2:=h.frame_kind hn hw;rw[e] at h1;omega
theorem KF.rowl {p:BU} (h:KF p) {f:Nat} (hf:f<12):(AK p.kern.mem f).length=4:=h.k.row hf
theorem KF.meml {p:BU} (h:KF p):p.kern.mem.length=12:=(Af.1 h.k.mem).1
theorem row4 {r:List Int} (h:r.length=4):(((r.set 0 (r.getD 0 0)).set 1 (r.getD 1 0)).set 2 (r.getD 2 0)).set 3 (r.getD 3 0)=r:=by
 match r,h with
 | [a,b,c,d],_=>rfl
def far (hand:Int) (i:Nat):Nat:=((i:Int) - hand).toNat+(if(i:Int)<hand then((i:Int)+16 - hand).toNat else 0)
theorem Mu {pages:List DR} {j i:Nat}:(AW (pages.set j (Qg (AW pages j))) i).w=(AW pages i).w∧(AW (pages.set j (Qg (AW pages j))) i).a=(AW pages i).a∧
 ((AW (pages.set j (Qg (AW pages j))) i).u=true→(AW pages i).u=true)∧(i≠j→AW (pages.set j (Qg (AW pages j))) i=AW pages i):=by
 rw[Rg]
 by_cases e:i=j∧j<pages.length
 ·rw[if_pos e]
  obtain⟨rfl,_⟩:=e;exact⟨rfl,rfl,(fun h=>by cases h),fun h=>absurd rfl h⟩
 ·rw[if_neg e]
  exact⟨rfl,rfl,fun h=>h,fun _=>rfl⟩
structure Fo (a b:List DR):Prop where
 len:b.length=a.length
 w:∀i,(AW b i).w=(AW a i).w
 at':∀i,(AW b i).a=(AW a i).a
 u:∀i,(AW b i).u=true→(AW a i).u=true
theorem Fo.refl (a:List DR):Fo a a:=⟨rfl,fun _=>rfl,fun _=>rfl,fun _ h=>h⟩
theorem Fo.step {a b:List DR} {j:Nat} (h:Fo (a.set j (Qg (AW a j))) b):Fo a b:=
 ⟨by rw[h.len,List.length_set],fun i=>(h.w i).trans Mu.1,fun i=>(h.at' i).trans Mu.2.1,fun i hi=>Mu.2.2.1 (h.u i hi)⟩
theorem Ix {q:DR→Bool}:∀{a b:List DR},b.length=a.length→(∀i,q (AW b i)=q (AW a i))→b.countP q=a.countP q
 | [],[],_,_=>rfl
 |x::a,y::b,hl,h=>by
  rw[List.countP_cons,List.countP_cons,Ix (by simpa using hl) (fun i=>by simpa[AW] using h (i+1))];have:=h 0;simp only[AW,List.getD_cons_zero] at this;rw[this]
theorem Fo.count {a b:List DR} (h:Fo a b) (w:Int):Gj b w=Gj a w:=Ix h.len fun i=>by unfold VP;rw[h.w i]
theorem Fo.slots {a b:List DR} (h:Fo a b) (s:Nat):Lo b s=Lo a s:=Ix h.len fun i=>by unfold Tv;rw[h.w i,h.at' i]
theorem Fo.word {p:BU} {b:List DR} (h:Fo p.pages b) (hand:Int) (a:Nat):OM {p with pages:=b,hand:=hand} a=OM p a:=by
 unfold OM
 show(if(AW b (a/4)).w=1 then _ else if(AW b (a/4)).w=2 then _ else _)=_
 rw[h.w,h.at']
theorem Fo.ok {p:BU} {b:List DR} (h:Fo p.pages b) (hp:KF p) {hand:Int} (h0:0≤hand) (h1:hand≤15):KF {p with pages:=b,hand:=hand}:=by
 refine⟨hp.k,hp.swapl,hp.swapr,hp.may,hp.alone,hp.root,hp.lowl,hp.mroot,hp.lows,h.len.trans hp.pagel,fun s hs=>(h.slots s).trans (hp.slots s hs),fun n hn=>?_,⟨h0,h1⟩,hp.limit,?_⟩
 ·have e:Eh {p with pages:=b,hand:=hand} n=Eh p n:=rfl
  unfold Lz;rw[e]
  show((AW b n).w=0∧(AW b n).a=0∧(AW b n).u=false∧_)∨((AW b n).w=1∧_∧_=Og (AW b n).a∧Qo _ (AW b n).a.toNat)∨((AW b n).w=2∧_∧AK p.swap (AW b n).a.toNat≠[]∧(AW b n).u=false∧_)
  rw[h.w,h.at'];have hu:=h.u n;have un:(AW p.pages n).u=false→(AW b n).u=false:=fun x=>by
   cases hb:(AW b n).u
   ·rfl
   ·rw[hu hb] at x;cases x
  rcases hp.pages n hn with⟨x1,x2,x3,x4⟩|x|⟨x1,x2,x3,x4,x5⟩
  ·exact .inl ⟨x1,x2,un x3,x4⟩
  ·exact .inr (.inl x)
  ·exact .inr (.inr ⟨x1,x2,x3,un x4,x5⟩)
 ·show(Gj b 1:Int)≤p.limit
  rw[h.count];exact hp.count
def EA (c:List AU) (e p:Int) (f:Nat) (w:Bool):List AU:=if Eu c e p<0 then El c ⟨e,p,f,w⟩ else c
theorem Pa {k:AH} {c:AM}:Gz k c=
 if Bv c.a 0 63=false∨(AD k.envs c.e.toNat).root<0∨(c.k=11∧Ee c.b=false) then(k,0,3)
 else if(BS k.mem (AD k.envs c.e.toNat).root.toNat c.a.toNat).1≠0 then(k,0,3)
 else if c.k=11∧(BS k.mem (AD k.envs c.e.toNat).root.toNat c.a.toNat).2.2=false then(k,0,1)
 else if c.k=11 then({k with mem:=CZ k.mem (BS k.mem (AD k.envs c.e.toNat).root.toNat c.a.toNat).2.1 (c.a%4).toNat c.b,cache:=EA k.cache c.e (c.a/4) (BS k.mem (AD k.envs c.e.toNat).root.toNat c.a.toNat).2.1 (BS k.mem (AD k.envs c.e.toNat).root.toNat c.a.toNat).2.2},0,0)
 else({k with cache:=EA k.cache c.e (c.a/4) (BS k.mem (AD k.envs c.e.toNat).root.toNat c.a.toNat).2.1 (BS k.mem (AD k.envs c.e.toNat).root.toNat c.a.toNat).2.2},Ar k.mem (BS k.mem (AD k.envs c.e.toNat).root.toNat c.a.toNat).2.1 (c.a%4).toNat,0):=rfl
theorem KF.cache {p:BU} (h:KF p) {c:List AU} (hk:DV {p.kern with cache:=c}):KF {p with kern:= {p.kern with cache:=c}}:=
 ⟨hk,h.swapl,h.swapr,h.may,h.alone,h.root,h.lowl,h.mroot,h.lows,h.pagel,h.slots,fun n hn=>h.pages n hn,h.hand,h.limit,h.count⟩
theorem U0 {a b:Nat} (h1:a/4=b/4) (h2:a%4=b%4):a=b:=by omega
theorem KF.put {p:BU} (h:KF p) {a:Nat} (ha:a<64) (hw:(AW p.pages (a/4)).w=1) {w:Int} {c:List AU} (hk:DV {p.kern with mem:=CZ p.kern.mem (AW p.pages (a/4)).a.toNat (a%4) w,cache:=c}):
 KF {p with kern:= {p.kern with mem:=CZ p.kern.mem (AW p.pages (a/4)).a.toNat (a%4) w,cache:=c}}∧
 ∀b,b<64→OM {p with kern:= {p.kern with mem:=CZ p.kern.mem (AW p.pages (a/4)).a.toNat (a%4) w,cache:=c}} b=if b=a then w else OM p b:=by
 have fk:=h.frame_kind (n:=a/4) (by omega) hw;have hat:∀f i,Ar (CZ p.kern.mem (AW p.pages (a/4)).a.toNat (a%4) w) f i=if f=(AW p.pages (a/4)).a.toNat∧i=a%4 then w else Ar p.kern.mem f i:=fun f i=>Uh (by rw[h.meml];exact fk.1) (by rw[h.rowl fk.1];omega)
 refine⟨⟨hk,h.swapl,h.swapr,h.may,h.alone,h.root,h.lowl,h.mroot,fun i hi=>?_,h.pagel,h.slots,fun n hn=>?_,h.hand,h.limit,h.count⟩,fun b hb=>?_⟩
 ·obtain⟨x1,x2,x3,x4⟩:=h.lows i hi
  refine⟨x1,x2,?_,x4⟩
  show Ar (CZ p.kern.mem _ _ w) (AY p.kern 0).toNat i=_
  rw[hat,if_neg (fun e=>h.root_ne (n:=a/4) (by omega) hw e.1)];exact x3
 ·have e:Eh {p with kern:= {p.kern with mem:=CZ p.kern.mem (AW p.pages (a/4)).a.toNat (a%4) w,cache:=c}} n=Eh p n:=by
   unfold Eh
   show Ar (CZ p.kern.mem _ _ w) (GD p.low (n/4)).toNat (n%4)=_
   rw[hat,if_neg (fun e=>h.lows_ne (n:=a/4) (i:=n/4) (by omega) hw (by omega) e.1)]
  have:=h.pages n hn;unfold Lz at this ⊢;rw[e];exact this
 ·unfold OM
  show(if(AW p.pages (b/4)).w=1 then Ar (CZ p.kern.mem _ _ w) (AW p.pages (b/4)).a.toNat (b%4) else if(AW p.pages (b/4)).w=2 then _ else _)=_
  by_cases e:b=a
  ·subst e
   rw[if_pos hw,if_pos rfl,hat,if_pos ⟨rfl,rfl⟩]
  ·rw[if_neg e]
   by_cases w1:(AW p.pages (b/4)).w=1
   ·rw[if_pos w1,if_pos w1,hat,if_neg]
    rintro⟨x,y⟩;exact e (U0 (h.frame_inj (by omega) (by omega) w1 hw x) y)
   ·rw[if_neg w1,if_neg w1]
def BY (k:AH) (c:AM) (kind:Int):Int:=
 if Bv c.a 0 11=false∨(infoAt k.infos c.a.toNat).k=0 then 3
 else if Cc (AD k.envs c.e.toNat).rights (infoAt k.infos c.a.toNat).g=false then 1
 else if(0<kind∧(infoAt k.infos c.a.toNat).k≠kind)∨(kind=0∧Bg (infoAt k.infos c.a.toNat).k=false) then 3
 else 0
theorem G5 {k:AH} {c:AM} (h1:2≤c.k) (h2:c.k≤6):AO k c=FF k c:=by unfold AO;rw[if_neg (by omega),if_pos (Ac.2 ⟨h1,h2⟩)]
theorem Qt {k:AH} {c:AM} (h:c.k=2):AO k c=if BY k c 1=0 then(if(infoAt k.infos c.a.toNat).r≠0 then(k,0,2) else({k with infos:=k.infos.set c.a.toNat AL.zero},0,0)) else(k,0,BY k c 1):=by
 rw[G5 (by omega) (by omega)];unfold FF BY KO Ej;rw[h]
 by_cases a1:Bv c.a 0 11=false∨(infoAt k.infos c.a.toNat).k=0
 ·rw[if_pos a1,if_pos (by rcases a1 with a1|a1<;>simp[a1])];rfl
 ·have a1':=not_or.1 a1
  rw[if_neg a1,if_neg (by simp[a1'.1,a1'.2])];cases Cc (AD k.envs c.e.toNat).rights (infoAt k.infos c.a.toNat).g
  ·rfl
  ·by_cases a2:(infoAt k.infos c.a.toNat).k=1
   ·simp[a2]
   ·simp[a2]
theorem Qu {k:AH} {c:AM} (h:c.k=3):AO k c=if BY k c 1=0 then(if Bv c.b 0 3=false∨Ee c.c=false then(k,0,3) else({k with mem:=CZ k.mem c.a.toNat c.b.toNat c.c},0,0)) else(k,0,BY k c 1):=by
 rw[G5 (by omega) (by omega)];unfold FF BY Ka Ej;rw[h]
 by_cases a1:Bv c.a 0 11=false∨(infoAt k.infos c.a.toNat).k=0
 ·rw[if_pos a1,if_pos (by rcases a1 with a1|a1<;>simp[a1])];rfl
 ·have a1':=not_or.1 a1
  rw[if_neg a1,if_neg (by simp[a1'.1,a1'.2])];cases Cc (AD k.envs c.e.toNat).rights (infoAt k.infos c.a.toNat).g
  ·rfl
  ·by_cases a2:(infoAt k.infos c.a.toNat).k=1
   ·simp[a2]
   ·simp[a2]
theorem Sm {k:AH} {c:AM} (h:c.k=4∨c.k=5):AO k c=if Bv c.a 0 11=false∨(infoAt k.infos c.a.toNat).k=0∨(c.k=4∧Bg c.b=false) then(k,0,3)
 else if Ej k c.e (infoAt k.infos c.a.toNat).g=false then(k,0,1)
 else DG k (if c.k=4 then Et k.mem k.infos c.a.toNat c.b (AD k.envs c.e.toNat).rights else Cq k.mem k.infos c.a.toNat):=by
 rw[G5 (by omega) (by omega)];unfold FF
 rcases h with h|h<;>simp[h]
def Ug (k:AH) (c:AM):Kk:=
 if Bv c.b 0 3=false∨DU k c=false then(k,0,3)
 else if(ET k c.a.toNat).all (fun e=>At k.infos (DA k c.c) (AD k.envs e).rights)=false then(k,0,1)
 else if BV c.c=true∧Ej k c.e (infoAt k.infos (A1 c.c)).g=false then(k,0,1)
 else({k with mem:=CZ k.mem c.a.toNat c.b.toNat c.c,infos:=Aw (Aw k.infos (Ar k.mem c.a.toNat c.b.toNat) (-1)) c.c 1,cache:=(ET k c.a.toNat).foldl (fun c e=>Cg c (e:Nat)) k.cache},0,0)
theorem Sn {k:AH} {c:AM} (h:c.k=6):AO k c=if BY k c 0=0 then Ug k c else(k,0,BY k c 0):=by
 rw[G5 (by omega) (by omega)];unfold FF BY FY Ug Ej;rw[h]
 by_cases a1:Bv c.a 0 11=false∨(infoAt k.infos c.a.toNat).k=0
 ·rw[if_pos a1,if_pos (by rcases a1 with a1|a1<;>simp[a1])];rfl
 ·have a1':=not_or.1 a1
  rw[if_neg a1,if_neg (by simp[a1'.1,a1'.2])];cases Cc (AD k.envs c.e.toNat).rights (infoAt k.infos c.a.toNat).g
  ·rfl
  ·cases a2:Bg (infoAt k.infos c.a.toNat).k<;>simp
theorem Gl {k:AH} {c:AM} {kind:Int} (h:BY k c kind=0):Bv c.a 0 11=true∧(infoAt k.infos c.a.toNat).k≠0∧Cc (AD k.envs c.e.toNat).rights (infoAt k.infos c.a.toNat).g=true∧(0<kind→(infoAt k.infos c.a.toNat).k=kind)∧(kind=0→Bg (infoAt k.infos c.a.toNat).k=true):=by
 unfold BY at h
 by_cases a1:Bv c.a 0 11=false∨(infoAt k.infos c.a.toNat).k=0
 ·rw[if_pos a1] at h;cases h
 ·rw[if_neg a1] at h
  have a1':=not_or.1 a1;cases hm:Cc (AD k.envs c.e.toNat).rights (infoAt k.infos c.a.toNat).g
  ·rw[hm] at h;cases h
  ·rw[hm,if_neg (by simp)] at h
   by_cases a2:(0<kind∧(infoAt k.infos c.a.toNat).k≠kind)∨(kind=0∧Bg (infoAt k.infos c.a.toNat).k=false)
   ·rw[if_pos a2] at h;cases h
   ·have a2':=not_or.1 a2
    refine⟨by simpa using a1'.1,a1'.2,rfl,fun h0=>?_,fun h0=>?_⟩
    ·exact Classical.byContradiction fun hx=>a2'.1 ⟨h0,hx⟩
    ·cases ht:Bg (infoAt k.infos c.a.toNat).k
     ·exact absurd ⟨h0,ht⟩ a2'.2
     ·rfl
def BM (infos:List AL) (old:Int):List AL:=if 0≤old then AR infos old.toNat (DD (-1)) else infos
def Bk (infos:List AL) (new:Int):List AL:=if 0≤new then AR infos new.toNat (DD 1) else infos
theorem Qa {k:AH} {c:AM}:Fi k c=
 if c.a≠ -1∧(Bv c.a 0 11=false∨(infoAt k.infos c.a.toNat).k≠3) then(k,0,3)
 else if At k.infos (A5 k.mem c.a) (AD k.envs c.e.toNat).rights=false then(k,0,1)
 else({k with infos:=Bk (BM k.infos (AD k.envs c.e.toNat).root) c.a,envs:=AR k.envs c.e.toNat (Bl c.a),cache:=Cg k.cache c.e},0,0):=rfl
theorem Qv {k:AH} {c:AM} (h:c.k=7):AO k c=Fi k c:=by unfold AO;rw[if_neg (by omega),if_neg (by rw[h];decide),if_pos h]
theorem Pk {k:AH} {c:AM} (h:c.k=8):AO k c=EL k c:=by unfold AO;rw[if_neg (by omega),if_neg (by rw[h];decide),if_neg (by omega),if_pos h]
theorem Oe {k:AH} {c:AM} (h:c.k=9):AO k c=DL k c:=by unfold AO;rw[if_neg (by omega),if_neg (by rw[h];decide),if_neg (by omega),if_neg (by omega),if_pos h]
theorem Nb {k:AH} {c:AM} (h:c.k=10∨c.k=11):AO k c=Gz k c:=by unfold AO;rw[if_neg (by omega),if_neg (by rcases h with h|h<;>rw[h]<;>decide),if_neg (by omega),if_neg (by omega),if_neg (by omega),if_pos h]
theorem LG {k:AH} (h:DV k) {e p:Nat} {j:Nat} (hj:j<k.cache.length) (hs:Ay (e:Int) (p:Int) (Ae k.cache j)=true) {a:Nat} (ha:a/4=p):
 ∃fr:Nat,fr<12∧Ae k.cache j=⟨(e:Int),(p:Int),(fr:Int),(Ae k.cache j).w⟩∧BS k.mem (AD k.envs e).root.toNat a=(0,fr,(Ae k.cache j).w):=by
 have hx:Ae k.cache j∈k.cache:=List.mem_of_getElem? (Ba hj);have ht:=h.trans _ hx;have hc:=(EF.1 h.cache).1 _ hx;generalize Ae k.cache j=x at*;obtain⟨xe,xp,xf,xw⟩:=x;simp only[Ay,Bool.and_eq_true,decide_eq_true_eq] at hs;obtain⟨rfl,rfl⟩:=hs;simp only[Ca,Bool.and_eq_true,Ac] at hc;obtain⟨_,h0,h11⟩:=hc;obtain⟨fr,rfl⟩:∃fr:Nat,xf=(fr:Int):=⟨xf.toNat,by omega⟩
 refine⟨fr,by omega,rfl,?_⟩;simp only[Fc,Bool.and_eq_true,decide_eq_true_eq,Int.toNat_natCast] at ht;have e1:BS k.mem (AD k.envs e).root.toNat a=BS k.mem (AD k.envs e).root.toNat (4*p):=by unfold BS;rw[show 4*p/16=a/16 by omega,show 4*p/4%4=a/4%4 by omega]
 rw[e1];exact ht.2
end Go.Proofs.YteocokgpmgfbaaaGreatDoor
