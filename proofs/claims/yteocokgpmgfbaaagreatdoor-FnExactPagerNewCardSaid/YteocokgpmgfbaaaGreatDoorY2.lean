/-
  Packed:19 texts.
-/
import Derived.Test.YteocokgpmgfbaaaGreatDoorY1
import Derived.Lib.QuietBelow
import Derived.Outline
import Derived.ArgAppend
import Derived.Lib.SliceRun
set_option linter.unusedVariables false
set_option linter.unusedSimpArgs false
set_option maxHeartbeats 16000000
set_option maxRecDepth 100000
namespace Go.Proofs.YteocokgpmgfbaaaGreatDoor
open Go.Proofs.Tryz
section
variable {α:Type}
theorem Ba {l:List α} {i:Nat} {d:α} (h:i<l.length):l[i]? =some (l.getD i d):=by simp[h]
theorem De {l:List α} {i:Nat} {d:α} (h:i<l.length):l.getD i d∈l:=List.mem_of_getElem? (Ba h)
theorem Gr {l:List α} {x d:α} (h:x∈l):∃i,i<l.length∧l.getD i d=x:=by obtain⟨i,hi,rfl⟩:=List.getElem_of_mem h;exact⟨i,hi,by simp[hi]⟩
theorem Gn {l:List α} {i j:Nat} {x d:α}:(l.set i x).getD j d=if j=i∧i<l.length then x else l.getD j d:=by
 simp only[List.getD_eq_getElem?_getD,List.getElem?_set]
 by_cases h:i=j
 ·subst h
  by_cases h2:i<l.length
  ·simp[h2]
  ·simp[h2]
 ·have h':¬j=i:=fun e=>h e.symm
  simp[h,h']
theorem As {l:List α} {i:Nat} {f:α→α}:(AR l i f).length=l.length:=by
 unfold AR
 split<;>simp
theorem J4 {l:List α} {i j:Nat} {f:α→α} {d:α}:(AR l i f).getD j d=if j=i∧i<l.length then f (l.getD i d) else l.getD j d:=by
 unfold AR
 split
 ·rename_i x hx
  have hi:=(List.getElem?_eq_some_iff.1 hx).1;rw[Gn];have:l.getD i d=x:=by simp[hx]
  rw[this]
 ·rename_i hx
  have hi:¬i<l.length:=by simpa using hx
  simp[hi]
theorem IF {l:List α} {i:Nat} {f:α→α} {d:α}:AR l i f=l.set i (f (l.getD i d)):=by
 unfold AR
 split
 ·rename_i x hx
  simp[hx]
 ·rename_i hx
  have hi:l.length≤i:=by simpa using hx
  rw[List.set_eq_of_length_le hi]
theorem JY {n:Nat} {p:Nat→Bool}:(List.range n).all p=true↔∀i,i<n→p i=true:=by simp[List.all_eq_true]
theorem Li {l:List α} {p:α→Bool}:l.any p=true↔∃x∈l,p x=true:=by simp
end
theorem LD {F G:Nat→Nat} {n:Nat} (h:∀t,t<n→F t=G t):((List.range n).map F).sum=((List.range n).map G).sum:=by
 induction n with
 |zero=>rfl
 |succ n ih=>rw[List.range_succ,List.map_append,List.map_append,List.sum_append,List.sum_append,ih (fun t ht=>h t (by omega))];simp[h n (by omega)]
theorem Ja {F G:Nat→Nat} {n f:Nat} (hf:f<n) (h:∀t,t<n→t≠f→F t=G t):((List.range n).map F).sum+G f=((List.range n).map G).sum+F f:=by
 induction n with
 |zero=>omega
 |succ n ih=>
  rw[List.range_succ,List.map_append,List.map_append,List.sum_append,List.sum_append];simp only[List.map_cons,List.map_nil,List.sum_cons,List.sum_nil,Nat.add_zero]
  by_cases hn:f=n
  ·subst hn
   rw[LD (fun t ht=>h t (by omega) (by omega))];omega
  ·have:=ih (by omega) (fun t ht hne=>h t (by omega) hne)
   have:=h n (by omega) (by omega);omega
theorem Qe {F:Nat→Nat} {n:Nat}:((List.range n).map F).sum=0↔∀t,t<n→F t=0:=by
 induction n with
 |zero=>simp
 |succ n ih=>
  rw[List.range_succ,List.map_append,List.sum_append];simp only[List.map_cons,List.map_nil,List.sum_cons,List.sum_nil,Nat.add_zero];constructor
  ·intro h t ht
   by_cases e:t=n
   ·subst e;omega
   ·exact ih.1 (by omega) t (by omega)
  ·intro h
   rw[ih.2 (fun t ht=>h t (by omega)),h n (by omega)]
theorem Vf {F:Nat→Nat} {n c:Nat} (h:∀t,t<n→F t≤c):((List.range n).map F).sum≤c*n:=by
 induction n with
 |zero=>simp
 |succ n ih=>rw[List.range_succ,List.map_append,List.sum_append,Nat.mul_succ];simp only[List.map_cons,List.map_nil,List.sum_cons,List.sum_nil,Nat.add_zero];have:=ih (fun t ht=>h t (by omega));have:=h n (by omega);omega
theorem Rw {F:Nat→Nat} {n c g:Nat} (hg:g<n) (h:∀t,t<n→F t≤c) (h0:F g=0):((List.range n).map F).sum+c≤c*n:=by
 have h1:=Ja (F:=F) (G:=fun t=>if t=g then c else F t) hg (fun t ht hne=>by simp[hne]);have h2:=Vf (F:=fun t=>if t=g then c else F t) (n:=n) (c:=c) (fun t ht=>by
  by_cases e:t=g
  ·simp[e]
  ·simp only[e,if_false];exact h t ht)
 simp only[if_true,h0] at h1;omega
theorem Dg {w:Int} (h:BV w=true):A1 w<12:=by simp only[BV,Bool.and_eq_true,decide_eq_true_eq] at h;unfold A1;omega
theorem Er {r:List Int} {g:Nat}:g∈named r↔∃w∈r,BV w=true∧A1 w=g:=by simp[named,and_assoc]
theorem Ek {r:List Int} {g:Nat} (h:g∈named r):g<12:=by obtain⟨w,_,hw,rfl⟩:=Er.1 h;exact Dg hw
def Ef (g:Nat) (w:Int):Bool:=BV w&&decide (A1 w=g)
theorem G7 {r:List Int} {g:Nat}:(named r).count g=r.countP (Ef g):=by
 unfold named
 induction r with
 |nil=>rfl
 |cons w r ih=>
  rw[List.filter_cons];cases hw:BV w
  ·rw[if_neg (by simp),ih,List.countP_cons]
   simp[Ef,hw]
  ·rw[if_pos rfl,List.map_cons,List.count_cons,ih,List.countP_cons]
   by_cases h:A1 w=g<;>simp[Ef,hw,h]
theorem FM {r:List Int}:(named r).length≤r.length:=by unfold named;rw[List.length_map];exact List.length_filter_le _ _
def Hv (b:Bool):Nat:=if b then 1 else 0
theorem Pn {p:Int→Bool} {r:List Int} {b:Nat} {w:Int} (hb:b<r.length):(r.set b w).countP p+Hv (p (r.getD b 0))=r.countP p+Hv (p w):=by
 induction r generalizing b with
 |nil=>simp at hb
 |cons x r ih=>
  cases b with
  |zero=>simp only[List.set_cons_zero,List.countP_cons,List.getD_cons_zero,Hv];omega
  |succ b=>simp only[List.set_cons_succ,List.countP_cons,List.getD_cons_succ];have:=ih (b:=b) (by simpa using hb);omega
theorem TO {r:List Int} {b g:Nat} {w:Int} (hb:b<r.length):(named (r.set b w)).count g+Hv (Ef g (r.getD b 0))=(named r).count g+Hv (Ef g w):=by rw[G7,G7];exact Pn hb
theorem NR {r:List Int} {b g:Nat} {w:Int} (h:g∈named (r.set b w)):g∈named r∨(BV w=true∧A1 w=g):=by
 obtain⟨x,hx,h1,h2⟩:=Er.1 h
 rcases List.mem_or_eq_of_mem_set hx with hx|rfl
 ·exact .inl (Er.2 ⟨x,hx,h1,h2⟩)
 ·exact .inr ⟨h1,h2⟩
theorem DK {m:List (List Int)} {root:Int} {f:Nat}:f∈A5 m root↔0≤root∧(f=root.toNat∨f∈named (AK m root.toNat)∨∃t,t∈named (AK m root.toNat)∧f∈named (AK m t)):=by
 unfold A5
 split
 ·simp;omega
 ·simp;omega
theorem LS {m m':List (List Int)} {root:Int} (h0:0≤root→AK m' root.toNat=AK m root.toNat) (h1:0≤root→∀t,t∈named (AK m root.toNat)→AK m' t=AK m t) (f:Nat):f∈A5 m' root↔f∈A5 m root:=by
 rw[DK,DK]
 by_cases hr:0≤root
 ·rw[h0 hr]
  simp only[hr,true_and];refine or_congr Iff.rfl (or_congr Iff.rfl (exists_congr fun t=>?_));constructor
  ·rintro⟨a,b⟩;exact⟨a,by rw[←h1 hr t a];exact b⟩
  ·rintro⟨a,b⟩;exact⟨a,by rw[h1 hr t a];exact b⟩
 ·simp[hr]
theorem F1 {infos:List AL} {fs:List Nat} {rights:List ByteArray}:At infos fs rights=true↔∀f,f∈fs→Cc rights (infoAt infos f).g=true:=by simp[At,List.all_eq_true]
theorem Mx {m m':List (List Int)} {root a:Nat} (h0:AK m' root=AK m root) (h1:∀t,t∈named (AK m root)→AK m' t=AK m t):BS m' root a=BS m root a:=by
 have e0:Ar m' root (a/16)=Ar m root (a/16):=by unfold Ar;rw[h0]
 unfold BS;rw[e0]
 split
 ·rename_i hg
  have hm:A1 (Ar m root (a/16))∈named (AK m root):=by
   refine Er.2 ⟨_,?_,hg,rfl⟩;unfold Ar at hg ⊢
   by_cases hl:a/16<(AK m root).length
   ·exact De hl
   ·have:(AK m root).getD (a/16) 0=0:=by simp at hl;simp[hl]
    rw[this] at hg;simp[BV] at hg
  have e1:Ar m' (A1 (Ar m root (a/16))) (a/4%4)=Ar m (A1 (Ar m root (a/16))) (a/4%4):=by unfold Ar;unfold Ar at hm;rw[h1 _ hm]
  rw[e1]
 ·rfl
theorem Kg {m:List (List Int)} {f i:Nat} (hg:BV (Ar m f i)=true):A1 (Ar m f i)∈named (AK m f):=by
 refine Er.2 ⟨_,?_,hg,rfl⟩;unfold Ar at hg ⊢
 by_cases hl:i<(AK m f).length
 ·exact De hl
 ·have:(AK m f).getD i 0=0:=by simp at hl;simp[hl]
  rw[this] at hg;simp[BV] at hg
theorem BZ {r:List Int}:Em r=true↔r.length=4∧∀w∈r,0≤w∧w≤9999:=by simp only[Em,Bool.and_eq_true,List.all_eq_true,decide_eq_true_eq,Ee,Ac];exact And.comm
theorem Af {m:List (List Int)}:Bq m=true↔m.length=12∧∀f,f<12→Em (AK m f)=true:=by
 simp only[Bq,Bool.and_eq_true,List.all_eq_true,decide_eq_true_eq];constructor
 ·rintro⟨h1,h2⟩
  exact⟨h2,fun f hf=>h1 _ (De (by omega))⟩
 ·rintro⟨h1,h2⟩
  refine⟨fun r hr=>?_,h1⟩;obtain⟨i,hi,rfl⟩:=Gr (d:=[]) hr;exact h2 i (by omega)
theorem Np {m:List (List Int)} {f:Nat} {r:List Int} (h:Bq m=true) (hr:Em r=true):Bq (m.set f r)=true:=by
 rw[Af] at h ⊢;refine⟨by rw[List.length_set];exact h.1,fun g hg=>?_⟩;unfold AK;rw[Gn]
 split
 ·exact hr
 ·exact h.2 g hg
theorem Ta {m:List (List Int)} {f g:Nat} {r:List Int}:AK (m.set f r) g=if g=f∧f<m.length then r else AK m g:=by unfold AK;exact Gn
theorem JE {m:List (List Int)} {f i g:Nat} {w:Int}:AK (CZ m f i w) g=if g=f∧f<m.length then(AK m f).set i w else AK m g:=by unfold CZ AK;exact J4
theorem Ms {m:List (List Int)} {f i:Nat} {w:Int}:CZ m f i w=m.set f ((AK m f).set i w):=IF
theorem OE {r:List Int} {i:Nat} {w:Int} (h:Em r=true) (hw:Ee w=true):Em (r.set i w)=true:=by
 rw[BZ] at h ⊢;refine⟨by rw[List.length_set];exact h.1,fun x hx=>?_⟩
 rcases List.mem_or_eq_of_mem_set hx with hx|rfl
 ·exact h.2 x hx
 ·exact Ac.1 hw
theorem SN:∀(x y:List UInt8),Op.bytesLess x y=decide (x<y)
 | [],[]=>by simp[Op.bytesLess]
 |_::_,[]=>by simp[Op.bytesLess]
 | [],_::_=>by simp[Op.bytesLess]
 |a::x,b::y=>by
  rw[Op.bytesLess,SN x y]
  by_cases h1:a<b
  ·simp[h1,List.cons_lt_cons_iff]
  ·by_cases h2:a=b
   ·subst h2;simp[List.cons_lt_cons_iff]
   ·simp[h1,h2,List.cons_lt_cons_iff]
def KA (a b:ByteArray):Bool:=Op.bytesLess a.toList b.toList
theorem Ia {a b:ByteArray}:KA a b=true↔a.toList<b.toList:=by simp[KA,SN]
theorem Jz {a b:ByteArray}:J9 a b=!KA a b:=rfl
theorem K9 {a b c:ByteArray} (h1:KA a b=true) (h2:KA b c=true):KA a c=true:=Ia.2 (List.lt_trans (Ia.1 h1) (Ia.1 h2))
theorem toList_inj {a b:ByteArray} (h:a.toList=b.toList):a=b:=by have ha:a.toList=a.data.toList:=Lib.toList_data a;have hb:b.toList=b.data.toList:=Lib.toList_data b;rw[ha,hb] at h;cases a;cases b;simp at h;rw[h]
theorem Rb {a b:ByteArray} (h:KA a b=false) (hne:a≠b):KA b a=true:=by
 rw[Ia];have h1:¬a.toList<b.toList:=by rw[←Ia];simp[h]
 have h2:a.toList≠b.toList:=fun e=>hne (toList_inj e)
 have h3:b.toList≤a.toList:=List.not_lt.1 h1
 rcases List.le_iff_lt_or_eq.1 h3 with h|h
 ·exact h
 ·exact absurd h.symm h2
theorem Dp {ss:List ByteArray}:Ax ss=true↔(∀s∈ss,Az s=true)∧ss.Pairwise (fun a b=>KA a b=true)∧ss.length≤6:=by
 unfold Ax;simp only[Bool.and_eq_true,decide_eq_true_eq,JY,Bo,Bool.or_eq_true,Jz,Bool.not_not];constructor
 ·rintro⟨h,hl⟩
  refine⟨fun s hs=>?_,?_,hl⟩
  ·obtain⟨i,hi,rfl⟩:=Gr (d:=⟨#[]⟩) hs
   exact(h i hi).1
  ·rw[List.pairwise_iff_getElem]
   have key:∀d i,i+1+d<ss.length→KA (Bi ss i) (Bi ss (i+1+d))=true:=by
    intro d
    induction d with
    |zero=>
     intro i hi
     rcases(h (i+1) (by omega)).2 with h'|h'
     ·omega
     ·simpa using h'
    |succ d ih=>
     intro i hi;have h1:=ih i (by omega)
     rcases(h (i+1+(d+1)) (by omega)).2 with h'|h'
     ·omega
     ·refine K9 h1 ?_
      have e:i+1+(d+1) - 1=i+1+d:=by omega
      rw[e] at h';exact h'
   intro i j hi hj hij;have:=key (j - i - 1) i (by omega);have e:i+1+(j - i - 1)=j:=by omega
   rw[e] at this;simpa[Bi,hi,hj] using this
 ·rintro⟨h1,h2,h3⟩
  refine⟨fun i hi=>⟨h1 _ (De hi),?_⟩,h3⟩
  by_cases h0:i=0
  ·exact .inl h0
  ·right
   rw[List.pairwise_iff_getElem] at h2;have:=h2 (i - 1) i (by omega) hi (by omega);simpa[Bi,hi,show i - 1<ss.length by omega] using this
theorem Ph {ss:List ByteArray} {s x:ByteArray}:x∈MB ss s↔x=s∨x∈ss:=by
 unfold MB;have e:=List.takeWhile_append_dropWhile (p:=fun x=>!J9 x s) (l:=ss);constructor
 ·intro h
  rcases List.mem_append.1 h with h|h
  ·right;rw[←e];exact List.mem_append_left _ h
  ·rcases List.mem_cons.1 h with h|h
   ·exact .inl h
   ·right;rw[←e];exact List.mem_append_right _ h
 ·rintro(rfl|h)
  ·simp
  ·rw[←e] at h
   rcases List.mem_append.1 h with h|h
   ·exact List.mem_append_left _ h
   ·exact List.mem_append_right _ (List.mem_cons_of_mem _ h)
theorem I7 {p:ByteArray→Bool} {l:List ByteArray} {x:ByteArray} (h:x∈l.takeWhile p):p x=true:=by
 induction l with
 |nil=>simp at h
 |cons y l ih=>
  rw[List.takeWhile_cons] at h
  split at h
  ·rename_i hy
   rcases List.mem_cons.1 h with rfl|h
   ·exact hy
   ·exact ih h
  ·simp at h
theorem Uz {ss:List ByteArray} {s:ByteArray} (h:Ax ss=true) (hs:Az s=true) (hn:s∉ss) (hl:ss.length≠6):Ax (MB ss s)=true:=by
 rw[Dp] at h ⊢;obtain⟨h1,h2,h3⟩:=h;have e:=List.takeWhile_append_dropWhile (p:=fun x=>!J9 x s) (l:=ss);refine⟨fun x hx=>?_,?_,?_⟩
 ·rcases Ph.1 hx with rfl|hx
  ·exact hs
  ·exact h1 x hx
 ·unfold MB
  rw[←e] at h2;rw[List.pairwise_append] at h2 ⊢;obtain⟨p1,p2,p3⟩:=h2;have hge:∀y∈ss.dropWhile (fun x=>!J9 x s),KA s y=true:=by
   generalize hd:ss.dropWhile (fun x=>!J9 x s)=l at p2;cases l with
   |nil=>simp
   |cons y l=>
    have hy0:(!J9 y s)=false:=by
     have:=List.head?_dropWhile_not (fun x=>!J9 x s) ss;rw[hd] at this;simpa using this
    have hym:y∈ss:=by rw[←e,hd];exact List.mem_append_right _ (List.mem_cons_self ..)
    have hy:KA s y=true:=Rb (by simpa[Jz] using hy0) (fun e=>hn (e▸hym));intro z hz
    rcases List.mem_cons.1 hz with rfl|hz
    ·exact hy
    ·exact K9 hy ((List.pairwise_cons.1 p2).1 z hz)
  refine⟨p1,List.pairwise_cons.2 ⟨hge,p2⟩,fun a ha b hb=>?_⟩;have has:KA a s=true:=by simpa[Jz] using I7 ha
  rcases List.mem_cons.1 hb with rfl|hb
  ·exact has
  ·exact p3 a ha b hb
 ·have:(MB ss s).length=ss.length+1:=by
   unfold MB;rw[List.length_append,List.length_cons];have:=congrArg List.length e;rw[List.length_append] at this;omega
  omega
theorem Su {ss:List ByteArray} {p:ByteArray→Bool} (h:Ax ss=true):Ax (ss.filter p)=true:=by
 rw[Dp] at h ⊢;exact⟨fun s hs=>h.1 s (List.mem_filter.1 hs).1,h.2.1.filter _,Nat.le_trans (List.length_filter_le _ _) h.2.2⟩
theorem Mf {rights:List ByteArray} {g:ByteArray}:Cc rights g=true↔∃s∈rights,Kw s g=true:=by simp[Cc]
theorem TN {r r':List ByteArray} {g:ByteArray} (h:∀s∈r,s∈r') (hm:Cc r g=true):Cc r' g=true:=by obtain⟨s,hs,hc⟩:=Mf.1 hm;exact Mf.2 ⟨s,h s hs,hc⟩
theorem UQ (g:ByteArray):Cc [⟨#[]⟩] g=true:=by refine Mf.2 ⟨_,List.mem_cons_self ..,?_⟩;simp[Kw]
theorem VT {ss:List ByteArray} {s:ByteArray} (h:Ax ss=true) (hs:Az s=true):Ax (A0 ss s).1=true:=by
 unfold A0
 split
 ·exact h
 ·rename_i hn
  split
  ·exact h
  ·rename_i hl
   exact Uz h hs (fun hm=>hn (Li.2 ⟨s,hm,by simp⟩)) hl
theorem Tt {ss:List ByteArray} {s x:ByteArray} (hx:x∈ss):x∈(A0 ss s).1:=by
 unfold A0
 split
 ·exact hx
 ·split
  ·exact hx
  ·exact Ph.2 (.inr hx)
theorem EF {c:List AU}:Bu c=true↔(∀x∈c,Ca x=true)∧c.Pairwise (fun x y=>Ay y.e y.p x=false)∧c.length≤4:=by
 unfold Bu;simp only[Bool.and_eq_true,decide_eq_true_eq,JY,D9,Bool.not_eq_true',List.any_eq_false];constructor
 ·rintro⟨h,hl⟩
  refine⟨fun x hx=>?_,?_,hl⟩
  ·obtain⟨i,hi,rfl⟩:=Gr (d:=⟨0,0,0,false⟩) hx
   exact(h i hi).1
  ·rw[List.pairwise_iff_getElem]
   intro i j hi hj hij;have h2:=(h j hj).2 c[i] (List.mem_take_iff_getElem.2 ⟨i,by omega,rfl⟩);have e:Ae c j=c[j]:=by simp[Ae,hj]
   rw[e] at h2;simpa using h2
 ·rintro⟨h1,h2,h3⟩
  refine⟨fun i hi=>⟨h1 _ (De hi),fun x hx=>?_⟩,h3⟩;obtain⟨j,hj,rfl⟩:=List.mem_take_iff_getElem.1 hx;rw[List.pairwise_iff_getElem] at h2;have:=h2 j i (by omega) hi (by omega);have e:Ae c i=c[i]:=by simp[Ae,hi]
  rw[e];simp[this]
theorem Pq {c:List AU} {e:Int} (h:Bu c=true):Bu (Cg c e)=true:=by
 rw[EF] at h ⊢;unfold Cg;exact⟨fun s hs=>h.1 s (List.mem_filter.1 hs).1,h.2.1.filter _,Nat.le_trans (List.length_filter_le _ _) h.2.2⟩
theorem Nc {c:List AU} {e:Int} {x:AU}:x∈Cg c e↔x∈c∧x.e≠e:=by simp[Cg]
theorem Pr {c:List AU} {es:List Nat} (h:Bu c=true):Bu (es.foldl (fun c e=>Cg c (e:Nat)) c)=true:=by
 induction es generalizing c with
 |nil=>exact h
 |cons e es ih=>exact ih (Pq h)
theorem Sq {c:List AU} {es:List Nat} {x:AU}:x∈es.foldl (fun c e=>Cg c (e:Nat)) c↔x∈c∧∀e∈es,x.e≠(e:Int):=by
 induction es generalizing c with
 |nil=>simp
 |cons e es ih=>rw[List.foldl_cons,ih,Nc];simp[and_assoc]
theorem QV {c:List AU} {x y:AU} (h:y∈El c x):y=x∨y∈c:=by
 unfold El at h
 rcases List.mem_append.1 h with h|h
 ·right
  split at h
  ·exact(List.mem_filter.1 (List.mem_of_mem_drop h)).1
  ·exact(List.mem_filter.1 h).1
 ·left;simpa using h
theorem VD {c:List AU} {x:AU} (h:Bu c=true) (hx:Ca x=true):Bu (El c x)=true:=by
 have hm:=fun y=>QV (c:=c) (x:=x) (y:=y)
 rw[EF] at h ⊢;obtain⟨h1,h2,h3⟩:=h;refine⟨fun y hy=>?_,?_,?_⟩
 ·rcases hm y hy with rfl|hy
  ·exact hx
  ·exact h1 y hy
 ·unfold El
  rw[List.pairwise_append];refine⟨?_,by simp,fun a ha b hb=>?_⟩
  ·split
   ·exact(h2.filter _).drop
   ·exact h2.filter _
  ·obtain rfl:b=x:=by simpa using hb
   have ha':a∈c.filter fun y=>!Ay b.e b.p y:=by
    split at ha
    ·exact List.mem_of_mem_drop ha
    ·exact ha
   simpa using(List.mem_filter.1 ha').2
 ·unfold El
  have hl:=List.length_filter_le (fun y=>!Ay x.e x.p y) c
  split
  ·rw[List.length_append,List.length_drop];simp;omega
  ·rw[List.length_append];simp;omega
theorem ML {c:List AU} {e p:Int} (h:¬Eu c e p<0):∃i,i<c.length∧Eu c e p=(i:Int)∧Ay e p (Ae c i)=true:=by
 unfold Eu at h ⊢
 split
 ·rename_i ha
  obtain⟨x,hx,hs⟩:=Li.1 ha;have hl:c.findIdx (Ay e p)<c.length:=List.findIdx_lt_length.2 ⟨x,hx,hs⟩;refine⟨_,hl,rfl,?_⟩;have:=List.findIdx_getElem (w:=hl);simpa[Ae,hl] using this
 ·rename_i ha
  rw[if_neg ha] at h;omega
def AY (k:AH) (e:Nat):Int:=(AD k.envs e).root
def Cm (k:AH) (e:Nat):List ByteArray:=(AD k.envs e).rights
def A4 (k:AH) (f:Nat):Int:=(infoAt k.infos f).k
def Qn (x:AL):Prop:=(x.k=0∧x.g=⟨#[]⟩)∨(1≤x.k∧x.k≤3∧Az x.g=true)
def Kl (m:List (List Int)) (infos:List AL) (g t:Nat):Nat:=if Bg (infoAt infos t).k then(named (AK m t)).count g else 0
theorem Dk {m:List (List Int)} {infos:List AL} {g:Nat}:countP m infos g=((List.range 12).map (Kl m infos g)).sum:=rfl
theorem GI {k:Int}:Bg k=true↔k=2∨k=3:=by simp[Bg]
structure DV (k:AH):Prop where
 mem:Bq k.mem=true
 len:k.infos.length=12
 inf:∀f,f<12→Qn (infoAt k.infos f)
 cache:Bu k.cache=true
 envl:k.envs.length=3
 rights:∀e,e<3→Ax (Cm k e)=true
 roots:∀e,e<3→AY k e= -1∨(0≤AY k e∧AY k e≤11∧A4 k (AY k e).toNat=3)
 allow:∀e,e<3→∀f,f∈A5 k.mem (AY k e)→Cc (Cm k e) (infoAt k.infos f).g=true
 tabs:∀f,f<12→Bg (A4 k f)=true→∀w∈AK k.mem f,(BV w=true∧A1 w≠f∧A4 k (A1 w)=A4 k f - 1)∨w=0
 refs:∀f,f<12→(infoAt k.infos f).r=(countP k.mem k.infos f:Int)+(Ex k.envs f:Int)
 trans:∀x∈k.cache,Fc k x=true
theorem Gg {envs:List DQ} (h:envs.length=3) (g:Nat):Ex envs g=Hv (decide ((AD envs 0).root=(g:Int)))+Hv (decide ((AD envs 1).root=(g:Int)))+Hv (decide ((AD envs 2).root=(g:Int))):=by
 match envs,h with
 | [a,b,c],_=>simp only[Ex,List.countP_cons,List.countP_nil,AD,Hv];simp;omega
section
variable {k:AH} (h:DV k)
include h
theorem DV.row {f:Nat} (hf:f<12):(AK k.mem f).length=4:=(BZ.1 ((Af.1 h.mem).2 f hf)).1
theorem DV.word {f i:Nat} (hf:f<12) (hi:i<4):0≤Ar k.mem f i∧Ar k.mem f i≤9999:=(BZ.1 ((Af.1 h.mem).2 f hf)).2 _ (De (by rw[h.row hf];exact hi))
theorem DV.named {f g:Nat} (hf:f<12) (ht:Bg (A4 k f)=true) (hg:g∈named (AK k.mem f)):g<12∧g≠f∧A4 k g=A4 k f - 1:=by
 obtain⟨w,hw,h1,rfl⟩:=Er.1 hg
 rcases h.tabs f hf ht w hw with⟨_,a,b⟩|rfl
 ·exact⟨Dg h1,a,b⟩
 ·simp[BV] at h1
theorem DV.root_kind {e:Nat} (he:e<3) (hr:0≤AY k e):(AY k e).toNat<12∧A4 k (AY k e).toNat=3:=by
 rcases h.roots e he with a|⟨a,b,c⟩
 ·omega
 ·exact⟨by omega,c⟩
theorem DV.low_kind {e t:Nat} (he:e<3) (hr:0≤AY k e) (ht:t∈Go.Proofs.YteocokgpmgfbaaaGreatDoor.named (AK k.mem (AY k e).toNat)):t<12∧A4 k t=2:=by obtain⟨a,b⟩:=h.root_kind he hr;have:=h.named a (by rw[b];rfl) ht;exact⟨this.1,by omega⟩
theorem DV.data_kind {e t f:Nat} (he:e<3) (hr:0≤AY k e) (ht:t∈Go.Proofs.YteocokgpmgfbaaaGreatDoor.named (AK k.mem (AY k e).toNat)) (hf:f∈Go.Proofs.YteocokgpmgfbaaaGreatDoor.named (AK k.mem t)):f<12∧A4 k f=1:=by obtain⟨a,b⟩:=h.low_kind he hr ht;have:=h.named a (by rw[b];rfl) hf;exact⟨this.1,by omega⟩
theorem DV.reach_lt {e f:Nat} (he:e<3) (hf:f∈A5 k.mem (AY k e)):f<12∧1≤A4 k f:=by
 obtain⟨hr,h1⟩:=DK.1 hf
 rcases h1 with rfl|h1|⟨t,ht,h1⟩
 ·have:=h.root_kind he hr;exact⟨this.1,by omega⟩
 ·have:=h.low_kind he hr h1;exact⟨this.1,by omega⟩
 ·have:=h.data_kind he hr ht h1;exact⟨this.1,by omega⟩
theorem DV.cnt_zero {g:Nat} (hg:g<12):Kl k.mem k.infos g g=0:=by
 unfold Kl
 split
 ·rename_i ht
  rw[List.count_eq_zero];intro hm;exact(h.named hg ht hm).2.1 rfl
 ·rfl
theorem DV.cnt_le {g t:Nat} (ht:t<12):Kl k.mem k.infos g t≤4:=by
 unfold Kl
 split
 ·have h1:(Go.Proofs.YteocokgpmgfbaaaGreatDoor.named (AK k.mem t)).count g≤_:=List.count_le_length
  have h2:=FM (r:=AK k.mem t);rw[h.row ht] at h2;omega
 ·omega
theorem DV.count_le {g:Nat} (hg:g<12):countP k.mem k.infos g≤44:=by
 have:((List.range 12).map (Kl k.mem k.infos g)).sum+4≤4*12:=Rw hg (fun t ht=>h.cnt_le (g:=g) ht) (h.cnt_zero hg);rw[Dk];omega
theorem DV.refs_le {f:Nat} (hf:f<12):0≤(infoAt k.infos f).r∧(infoAt k.infos f).r≤47:=by
 have h1:=h.count_le hf;have h2:Ex k.envs f≤3:=by
  have:=List.countP_le_length (p:=fun e:DQ=>decide (e.root=(f:Int))) (l:=k.envs);rw[h.envl] at this;exact this
 rw[h.refs f hf];omega
theorem DV.unused {f:Nat} (hf:f<12) (h0:(infoAt k.infos f).r=0):(∀t,t<12→Bg (A4 k t)=true→f∉Go.Proofs.YteocokgpmgfbaaaGreatDoor.named (AK k.mem t))∧∀e,e<3→AY k e≠(f:Int):=by
 have h1:=h.refs f hf;have h2:countP k.mem k.infos f=0:=by omega
 have h3:Ex k.envs f=0:=by omega
 rw[Dk,Qe] at h2;constructor
 ·intro t ht htab hm
  have:=h2 t ht;unfold Kl A4 at*;rw[if_pos htab,List.count_eq_zero] at this;exact this hm
 ·intro e he
  rw[Gg h.envl] at h3;unfold Hv at h3;have:e=0∨e=1∨e=2:=by omega
  intro hr;unfold AY at hr
  rcases this with rfl|rfl|rfl<;>simp[hr] at h3
theorem DV.free_unused {f:Nat} (hf:f<12) (h0:A4 k f=0):(infoAt k.infos f).r=0:=by
 rw[h.refs f hf];have h2:countP k.mem k.infos f=0:=by
  rw[Dk,Qe];intro t ht;unfold Kl
  split
  ·rename_i htab
   rw[List.count_eq_zero];intro hm;have:=(h.named ht htab hm).2.2;have:A4 k t=2∨A4 k t=3:=GI.1 htab;omega
  ·rfl
 have h3:Ex k.envs f=0:=by
  rw[Gg h.envl];have key:∀e,e<3→Hv (decide ((AD k.envs e).root=(f:Int)))=0:=by
   intro e he;unfold Hv
   by_cases hr:(AD k.envs e).root=(f:Int)
   ·exfalso
    have:AY k e=(f:Int):=hr;have:=h.root_kind he (by omega);rw[‹AY k e=(f:Int)›] at this;simp at this;omega
   ·simp[hr]
  rw[key 0 (by omega),key 1 (by omega),key 2 (by omega)]
 omega
theorem DV.walk_data {e a:Nat} (he:e<3) (hr:0≤AY k e) (hw:(BS k.mem (AY k e).toNat a).1=0):(BS k.mem (AY k e).toNat a).2.1<12∧A4 k (BS k.mem (AY k e).toNat a).2.1=1∧(BS k.mem (AY k e).toNat a).2.1∈A5 k.mem (AY k e):=by
 unfold BS at hw ⊢
 split at hw
 ·rename_i h1
  split at hw
  ·rename_i h2
   rw[if_pos h1,if_pos h2];have m1:=Kg h1;have m2:=Kg h2;have:=h.data_kind he hr m1 m2;exact⟨this.1,this.2,DK.2 ⟨hr, .inr (.inr ⟨_,m1,m2⟩)⟩⟩
  ·simp at hw
 ·simp at hw
end
theorem TF {x:AL} (h:Qn x) (h0:0≤x.r) (h1:x.r≤50) (hz:x.k=0→x.r=0):Cb x=true:=by
 rcases h with⟨a,b⟩|⟨a,b,c⟩
 ·have:x=AL.zero:=by
   obtain⟨k,g,r⟩:=x;simp at a b hz;subst a b;simp[AL.zero,hz rfl]
  simp[Cb,this]
 ·simp[Cb,Bv,a,b,c,h0,h1]
theorem TE {x:AL} (h:Cb x=true):Qn x:=by
 unfold Cb at h;simp only[Bool.or_eq_true,decide_eq_true_eq,Bool.and_eq_true,Ac] at h
 rcases h with rfl|⟨⟨⟨a,b⟩,c⟩,_⟩
 ·exact .inl ⟨rfl,rfl⟩
 ·exact .inr ⟨a,b,c⟩
theorem Au {l:List AL}:A3 l=true↔l.length=12∧∀f,f<12→Cb (infoAt l f)=true:=by
 simp only[A3,Bool.and_eq_true,List.all_eq_true,decide_eq_true_eq];constructor
 ·rintro⟨h1,h2⟩
  exact⟨h2,fun f hf=>h1 _ (De (by omega))⟩
 ·rintro⟨h1,h2⟩
  refine⟨fun r hr=>?_,h1⟩;obtain⟨i,hi,rfl⟩:=Gr (d:=AL.zero) hr;exact h2 i (by omega)
theorem JP {infos:List AL} {f:Nat} {kind:Int} {rights:List ByteArray} {w:Int}:EY infos f kind rights w=true↔(BV w=true∧A1 w≠f∧(infoAt infos (A1 w)).k=kind - 1∧Cc rights (infoAt infos (A1 w)).g=true)∨(BV w=false∧w=0):=by unfold EY;cases h:BV w<;>simp[and_assoc]
theorem K4 {m:List (List Int)} {infos:List AL} {f:Nat} {kind:Int} {rights:List ByteArray}:Gp m infos f kind rights=true↔∀w∈AK m f,EY infos f kind rights w=true:=by simp[Gp,List.all_eq_true]
theorem Nd {envs:List DQ} (h:envs.length=3) {p:DQ→Bool}:envs.all p=true↔∀e,e<3→p (AD envs e)=true:=by
 rw[List.all_eq_true];constructor
 ·intro hp e he
  exact hp _ (De (by omega))
 ·intro hp x hx
  obtain⟨i,hi,rfl⟩:=Gr (d:=⟨[],0⟩) hx;exact hp i (by omega)
theorem J2 {k:AH}:Ox k=true↔DV k:=by
 unfold Ox;simp only[Bool.and_eq_true,JY];constructor
 ·rintro⟨⟨⟨⟨⟨⟨h1,h2⟩,h3⟩,h4⟩,h5⟩,h6⟩,h7⟩
  unfold Q0 at h4;simp only[Bool.and_eq_true,decide_eq_true_eq] at h4;obtain⟨h4,hl⟩:=h4;rw[Nd hl] at h4;rw[Au] at h2;have hE:∀e,e<3→Ax (Cm k e)=true∧(AY k e= -1∨(0≤AY k e∧AY k e≤11)∧A4 k (AY k e).toNat=3)∧At k.infos (A5 k.mem (AY k e)) (Cm k e)=true:=by intro e he;have:=h4 e he;unfold UB at this;simp only[Bool.and_eq_true,Bool.or_eq_true,decide_eq_true_eq,Ac] at this;exact⟨this.1.1,this.1.2,this.2⟩
  refine⟨h1,h2.1,fun f hf=>TE (h2.2 f hf),h3,hl,fun e he=>(hE e he).1,fun e he=>?_,fun e he=>F1.1 (hE e he).2.2,fun f hf ht w hw=>?_,fun f hf=>?_,fun x hx=>List.all_eq_true.1 h7 x hx⟩
  ·rcases(hE e he).2.1 with a|⟨⟨a,b⟩,c⟩
   ·exact .inl a
   ·exact .inr ⟨a,b,c⟩
  ·have:=h5 f hf
   unfold PY at this;unfold A4 at ht;rw[ht,Bool.not_true,Bool.false_or,K4] at this
   rcases JP.1 (this w hw) with⟨a,b,c,_⟩|⟨_,a⟩
   ·exact .inl ⟨a,b,c⟩
   ·exact .inr a
  ·have:=h6 f hf
   simpa[UY] using this
 ·intro h
  refine⟨⟨⟨⟨⟨⟨h.mem,?_⟩,h.cache⟩,?_⟩,fun f hf=>?_⟩,fun f hf=>?_⟩,List.all_eq_true.2 h.trans⟩
  ·rw[Au]
   refine⟨h.len,fun f hf=>TF (h.inf f hf) (h.refs_le hf).1 (by have:=(h.refs_le hf).2;omega) (fun h0=>h.free_unused hf h0)⟩
  ·unfold Q0
   simp only[Bool.and_eq_true,decide_eq_true_eq];refine⟨?_,h.envl⟩;rw[Nd h.envl];intro e he;unfold UB;simp only[Bool.and_eq_true,Bool.or_eq_true,decide_eq_true_eq,Ac];refine⟨⟨h.rights e he,?_⟩,F1.2 (h.allow e he)⟩
   rcases h.roots e he with a|⟨a,b,c⟩
   ·exact .inl a
   ·exact .inr ⟨⟨a,b⟩,c⟩
  ·unfold PY
   simp only[Bool.or_eq_true,Bool.not_eq_true'];cases ht:Bg (infoAt k.infos f).k
   ·exact .inl rfl
   ·right
    rw[K4];intro w hw;rw[JP]
    rcases h.tabs f hf ht w hw with⟨a,b,c⟩|rfl
    ·exact .inl ⟨a,b,c,UQ _⟩
    ·exact .inr ⟨rfl,rfl⟩
  ·simp[UY,h.refs f hf]
theorem MQ {l:List AL} {f g:Nat} {x:AL}:infoAt (l.set f x) g=if g=f∧f<l.length then x else infoAt l g:=Gn
theorem EM {l:List AL} {f g:Nat} {u:AL→AL}:infoAt (AR l f u) g=if g=f∧f<l.length then u (infoAt l f) else infoAt l g:=J4
theorem JN {l:List DQ} {f g:Nat} {u:DQ→DQ}:AD (AR l f u) g=if g=f∧f<l.length then u (AD l f) else AD l g:=J4
theorem DV.data {k:AH} (h:DV k) {f:Nat} (hf:f<12) (hk:A4 k f=0∨A4 k f=1) {row:List Int} (hrow:Em row=true) {x:AL} (hx:Qn x) (hx1:x.k=0∨x.k=1) (hr:x.r=(infoAt k.infos f).r)
 (hsame:(x.k=A4 k f∧x.g=(infoAt k.infos f).g)∨(infoAt k.infos f).r=0) {cache:List AU} (hc:Bu cache=true) (ht:∀y∈cache,Fc k y=true):DV ⟨k.mem.set f row,k.infos.set f x,k.envs,cache⟩:=by
 have hml:=(Af.1 h.mem).1;have hrow':∀g,g≠f→AK (k.mem.set f row) g=AK k.mem g:=fun g hg=>by rw[Ta,if_neg (by rintro⟨a,_⟩;exact hg a)]
 have hinf':∀g,g≠f→infoAt (k.infos.set f x) g=infoAt k.infos g:=fun g hg=>by rw[MQ,if_neg (by rintro⟨a,_⟩;exact hg a)]
 have hinff:infoAt (k.infos.set f x) f=x:=by rw[MQ,if_pos ⟨rfl,by rw[h.len];exact hf⟩]
 have htab:∀t,Bg (infoAt (k.infos.set f x) t).k=true→t≠f∧Bg (A4 k t)=true:=by
  intro t ht
  by_cases e:t=f
  ·subst e
   rw[hinff,GI] at ht;omega
  ·rw[hinf' t e] at ht
   exact⟨e,ht⟩
 have hnf:∀t,Bg (A4 k t)=true→t≠f:=by intro t ht e;subst e;rw[GI] at ht;omega
 have hkeep:∀t g,t<12→Bg (A4 k t)=true→g∈Go.Proofs.YteocokgpmgfbaaaGreatDoor.named (AK k.mem t)→(infoAt (k.infos.set f x) g).k=A4 k g∧(infoAt (k.infos.set f x) g).g=(infoAt k.infos g).g:=by
  intro t g ht htb hg
  by_cases e:g=f
  ·subst e
   rw[hinff]
   rcases hsame with hs|h0
   ·exact hs
   ·exact absurd hg ((h.unused hf h0).1 t ht htb)
  ·rw[hinf' g e];exact⟨rfl,rfl⟩
 have hroot:∀e,e<3→0≤AY k e→(AY k e).toNat≠f:=fun e he h0=>hnf _ (by rw[(h.root_kind he h0).2];rfl)
 have hlow:∀e,e<3→0≤AY k e→∀t,t∈Go.Proofs.YteocokgpmgfbaaaGreatDoor.named (AK k.mem (AY k e).toNat)→t≠f:=fun e he h0 t ht=>hnf _ (by rw[(h.low_kind he h0 ht).2];rfl)
 have hreach:∀e,e<3→∀g,g∈A5 (k.mem.set f row) (AY k e)↔g∈A5 k.mem (AY k e):=fun e he=>LS (fun h0=>hrow' _ (hroot e he h0)) (fun h0 t ht=>hrow' _ (hlow e he h0 t ht))
 refine⟨Np h.mem hrow,by simp[h.len],fun g hg=>?_,hc,h.envl,h.rights,fun e he=>?_,fun e he g hg=>?_,fun t ht htb w hw=>?_,fun g hg=>?_,fun y hy=>?_⟩
 ·by_cases e:g=f
  ·subst e;rw[hinff];exact hx
  ·rw[hinf' g e];exact h.inf g hg
 ·rcases h.roots e he with a|⟨a,b,c⟩
  ·exact .inl a
  ·refine .inr ⟨a,b,?_⟩
   show(infoAt (k.infos.set f x) (AY k e).toNat).k=3
   rw[hinf' _ (hroot e he a)];exact c
 ·have hg':=(hreach e he g).1 hg
  have hm:=h.allow e he g hg'
  show Cc (Cm k e) (infoAt (k.infos.set f x) g).g=true
  obtain⟨h0,h1⟩:=DK.1 hg';have hrk:=h.root_kind he h0;have e:(infoAt (k.infos.set f x) g).g=(infoAt k.infos g).g:=by
   rcases h1 with rfl|h1|⟨t,h1,h2⟩
   ·rw[hinf' _ (hroot e he h0)]
   ·exact(hkeep _ g hrk.1 (by rw[hrk.2];rfl) h1).2
   ·have hlk:=h.low_kind he h0 h1
    exact(hkeep _ g hlk.1 (by rw[hlk.2];rfl) h2).2
  rw[e];exact hm
 ·obtain⟨hne,htb'⟩:=htab t htb
  rw[show AK (k.mem.set f row) t=AK k.mem t from hrow' t hne] at hw
  rcases h.tabs t ht htb' w hw with⟨a,b,c⟩|rfl
  ·refine .inl ⟨a,b,?_⟩
   have:=(hkeep t (A1 w) ht htb' (Er.2 ⟨w,hw,a,rfl⟩)).1
   show(infoAt (k.infos.set f x) (A1 w)).k=(infoAt (k.infos.set f x) t).k - 1
   rw[this,hinf' t hne];exact c
  ·exact .inr rfl
 ·have hcount:countP (k.mem.set f row) (k.infos.set f x) g=countP k.mem k.infos g:=by
   rw[Dk,Dk];refine LD fun t ht=>?_
   unfold Kl
   by_cases e:t=f
   ·subst e
    rw[hinff,if_neg (by rw[GI];omega),if_neg (by rw[GI];unfold A4 at hk;omega)]
   ·rw[hinf' t e,hrow' t e]
  show(infoAt (k.infos.set f x) g).r=(countP (k.mem.set f row) (k.infos.set f x) g:Int)+(Ex k.envs g:Int)
  rw[hcount,←h.refs g hg]
  by_cases e:g=f
  ·subst e;rw[hinff,hr]
  ·rw[hinf' g e]
 ·have h1:=ht y hy
  have hyc:=(EF.1 hc).1 y hy;unfold Ca at hyc;simp only[Bool.and_eq_true,Ac] at hyc;have he:y.e.toNat<3:=by omega
  unfold Fc at h1 ⊢;simp only[Bool.and_eq_true,decide_eq_true_eq] at h1 ⊢;refine⟨h1.1,?_⟩;have hw:=Mx (m:=k.mem) (m':=k.mem.set f row) (root:=(AY k y.e.toNat).toNat) (a:=4*y.p.toNat) (hrow' _ (hroot _ he h1.1)) (fun t ht=>hrow' _ (hlow _ he h1.1 t ht));exact hw.trans h1.2
theorem Gf {infos:List AL} {fs:List Nat} {n:Int}:(Av infos fs n).length=infos.length:=by
 unfold Av
 induction fs generalizing infos with
 |nil=>rfl
 |cons f fs ih=>rw[List.foldl_cons,ih,As]
theorem Mn {infos:List AL} {fs:List Nat} {n:Int} {g:Nat} (hg:g<infos.length):infoAt (Av infos fs n) g= {infoAt infos g with r:=(infoAt infos g).r+n*(fs.count g:Int)}:=by
 unfold Av
 induction fs generalizing infos with
 |nil=>simp
 |cons f fs ih=>
  rw[List.foldl_cons,ih (by rw[As];exact hg),EM,List.count_cons]
  by_cases e:g=f
  ·subst e
   rw[if_pos ⟨rfl,hg⟩];simp[DD];rw[Int.mul_add];omega
  ·rw[if_neg (by rintro⟨a,_⟩;exact e a)]
   have e':¬f=g:=fun a=>e a.symm
   simp[e']
theorem DV.retype {k:AH} (h:DV k) {f:Nat} (hf:f<12) (h0:(infoAt k.infos f).r=0) {kind n:Int} (hk1:1≤kind) (hk3:kind≤3) (hfk:A4 k f≠0)
 (hn:(n=1∧Bg (A4 k f)=false∧Bg kind=true)∨(n= -1∧Bg (A4 k f)=true∧Bg kind=false))
 (hgood:Bg kind=true→∀w∈AK k.mem f,(BV w=true∧A1 w≠f∧A4 k (A1 w)=kind - 1)∨w=0):
 DV {k with infos:=AR (Av k.infos (Go.Proofs.YteocokgpmgfbaaaGreatDoor.named (AK k.mem f)) n) f (Co kind)}:=by
 obtain⟨u1,u2⟩:=h.unused hf h0;have hl:(Av k.infos (Go.Proofs.YteocokgpmgfbaaaGreatDoor.named (AK k.mem f)) n).length=12:=by rw[Gf,h.len]
 have hat:∀g,g<12→infoAt (AR (Av k.infos (Go.Proofs.YteocokgpmgfbaaaGreatDoor.named (AK k.mem f)) n) f (Co kind)) g= {(infoAt k.infos g) with k:=if g=f then kind else A4 k g,r:=(infoAt k.infos g).r+n*((Go.Proofs.YteocokgpmgfbaaaGreatDoor.named (AK k.mem f)).count g:Int)}:=by
  intro g hg;rw[EM,hl]
  by_cases e:g=f
  ·subst e
   rw[if_pos ⟨rfl,hf⟩,Mn (by rw[h.len];exact hg)];simp[Co]
  ·rw[if_neg (by rintro⟨a,_⟩;exact e a),Mn (by rw[h.len];exact hg)]
   simp[e,A4]
 have hself:f∉Go.Proofs.YteocokgpmgfbaaaGreatDoor.named (AK k.mem f):=by
  intro hm
  rcases hn with⟨_,_,c⟩|⟨_,b,_⟩
  ·obtain⟨w,hw,h1,h2⟩:=Er.1 hm
   rcases hgood c w hw with⟨_,a,_⟩|rfl
   ·exact a h2
   ·simp[BV] at h1
  ·exact u1 f hf b hm
 refine⟨h.mem,by rw[As];exact hl,fun g hg=>?_,h.cache,h.envl,h.rights,fun e he=>?_,fun e he g hg=>?_,fun t ht htb w hw=>?_,fun g hg=>?_,h.trans⟩
 ·show Qn (infoAt (AR _ f (Co kind)) g)
  rw[hat g hg]
  by_cases e:g=f
  ·subst e
   rcases h.inf g hg with⟨a,b⟩|⟨a,b,c⟩
   ·exact absurd a hfk
   ·right;simp;exact⟨hk1,hk3,c⟩
  ·simp only[e,if_false]
   exact h.inf g hg
 ·rcases h.roots e he with a|⟨a,b,c⟩
  ·exact .inl a
  ·refine .inr ⟨a,b,?_⟩
   show(infoAt (AR _ f (Co kind)) (AY k e).toNat).k=3
   rw[hat _ (by omega)];have:(AY k e).toNat≠f:=fun e'=>u2 e he (by omega)
   simp only[this,if_false];exact c
 ·show Cc (Cm k e) (infoAt (AR _ f (Co kind)) g).g=true
  have:=h.allow e he g hg;rw[hat _ (h.reach_lt he hg).1];exact this
 ·have htb2:Bg (infoAt (AR (Av k.infos (Go.Proofs.YteocokgpmgfbaaaGreatDoor.named (AK k.mem f)) n) f (Co kind)) t).k=true:=htb
  rw[hat t ht] at htb2
  show(BV w=true∧A1 w≠t∧(infoAt (AR (Av k.infos (Go.Proofs.YteocokgpmgfbaaaGreatDoor.named (AK k.mem f)) n) f (Co kind)) (A1 w)).k=(infoAt (AR (Av k.infos (Go.Proofs.YteocokgpmgfbaaaGreatDoor.named (AK k.mem f)) n) f (Co kind)) t).k - 1)∨w=0
  rw[hat t ht]
  by_cases e:t=f
  ·subst e
   simp only[if_true] at htb2
   rcases hgood htb2 w hw with⟨a,b,c⟩|rfl
   ·refine .inl ⟨a,b,?_⟩
    rw[hat _ (Dg a)];simp only[if_true,b,if_false];exact c
   ·exact .inr rfl
  ·simp only[e,if_false] at htb2
   rcases h.tabs t ht htb2 w hw with⟨a,b,c⟩|rfl
   ·refine .inl ⟨a,b,?_⟩
    rw[hat _ (Dg a)];have:A1 w≠f:=fun e'=>u1 t ht htb2 (Er.2 ⟨w,hw,a,e'⟩)
    simp only[this,if_false,e];exact c
   ·exact .inr rfl
 ·show(infoAt (AR (Av k.infos (Go.Proofs.YteocokgpmgfbaaaGreatDoor.named (AK k.mem f)) n) f (Co kind)) g).r=(countP k.mem (AR (Av k.infos (Go.Proofs.YteocokgpmgfbaaaGreatDoor.named (AK k.mem f)) n) f (Co kind)) g:Int)+(Ex k.envs g:Int)
  rw[hat g hg];have hsum:=Ja (F:=Kl k.mem (AR (Av k.infos (Go.Proofs.YteocokgpmgfbaaaGreatDoor.named (AK k.mem f)) n) f (Co kind)) g) (G:=Kl k.mem k.infos g) hf (fun t ht hne=>by unfold Kl;rw[hat t ht];simp only[hne,if_false];rfl)
  rw[←Dk,←Dk] at hsum;have c1:Kl k.mem (AR (Av k.infos (Go.Proofs.YteocokgpmgfbaaaGreatDoor.named (AK k.mem f)) n) f (Co kind)) g f=if Bg kind then(Go.Proofs.YteocokgpmgfbaaaGreatDoor.named (AK k.mem f)).count g else 0:=by unfold Kl;rw[hat f hf];simp
  have c2:Kl k.mem k.infos g f=if Bg (A4 k f) then(Go.Proofs.YteocokgpmgfbaaaGreatDoor.named (AK k.mem f)).count g else 0:=rfl
  rw[c1,c2] at hsum;have:=h.refs g hg
  rcases hn with⟨rfl,a,b⟩|⟨rfl,a,b⟩
  ·rw[a,b] at hsum
   simp at hsum ⊢;omega
  ·rw[a,b] at hsum
   simp at hsum ⊢;omega
theorem IU {infos:List AL} (h:¬Cs infos<0):(Cs infos).toNat<infos.length∧(infoAt infos (Cs infos).toNat).k=0∧0≤Cs infos:=by
 unfold Cs at h ⊢
 split
 ·rename_i ha
  obtain⟨x,hx,hs⟩:=Li.1 ha;have hl:infos.findIdx (fun x=>decide (x.k=0))<infos.length:=List.findIdx_lt_length.2 ⟨x,hx,hs⟩;refine⟨by simpa using hl,?_,by omega⟩;have:=List.findIdx_getElem (w:=hl);simpa[infoAt,hl] using this
 ·rename_i ha
  rw[if_neg ha] at h;omega
theorem Kc {α:Type} {l:List α} {i:Nat} {d:α}:l.set i (l.getD i d)=l:=by
 apply List.ext_getElem?;intro j;rw[List.getElem?_set]
 by_cases h:i=j
 ·subst h
  by_cases h2:i<l.length
  ·simp[h2]
  ·simp[h2]
 ·simp[h]
theorem Uj {k:AH} (h:DV k) {c:AM}:DV (IK k c).1:=by
 unfold IK
 split
 ·exact h
 ·rename_i hn
  split
  ·exact h
  ·split
   ·exact h
   ·rename_i hf
    obtain⟨a,b,_⟩:=IU hf;rw[h.len] at a;have hr:=h.free_unused a b;refine h.data (x:=⟨1,c.nm,0⟩) a (.inl b) (by decide) (.inr ⟨by show(1:Int)≤1;omega,by show(1:Int)≤3;omega,by simpa using hn⟩) (.inr rfl) hr.symm (.inr hr) h.cache h.trans
theorem UH {k:AH} (h:DV k) {c:AM} (ha:c.a.toNat<12):DV (KO k c).1:=by
 unfold KO
 split
 ·exact h
 ·rename_i hk
  split
  ·exact h
  ·rename_i hr
   have hr:(infoAt k.infos c.a.toNat).r=0:=by omega
   have:=h.data (x:=AL.zero) ha (.inr (by unfold A4;omega)) ((Af.1 h.mem).2 _ ha) (.inl ⟨rfl,rfl⟩) (.inl rfl) hr.symm (.inr hr) h.cache h.trans;rw[show k.mem.set c.a.toNat (AK k.mem c.a.toNat)=k.mem from Kc] at this;exact this
theorem SY {k:AH} (h:DV k) {f i:Nat} {w:Int} (hf:f<12) (hk:A4 k f=1) (hw:Ee w=true) {cache:List AU} (hc:Bu cache=true) (ht:∀y∈cache,Fc k y=true):DV {k with mem:=CZ k.mem f i w,cache:=cache}:=by have:=h.data (x:=infoAt k.infos f) hf (.inr hk) (OE (i:=i) (w:=w) ((Af.1 h.mem).2 _ hf) hw) (h.inf f hf) (.inr hk) rfl (.inl ⟨rfl,rfl⟩) hc ht;rw[show k.infos.set f (infoAt k.infos f)=k.infos from Kc] at this;rw[Ms];exact this
theorem UV {k:AH} (h:DV k) {c:AM} (ha:c.a.toNat<12):DV (Ka k c).1:=by
 unfold Ka
 split
 ·exact h
 ·rename_i hn
  simp only[not_or] at hn;obtain⟨h1,h2,h3⟩:=hn;exact SY h ha (by unfold A4;omega) (by simpa using h3) h.cache h.trans
theorem OA {k:AH} (h:DV k) {r:List AL×Int} (hr:r.2=0→DV {k with infos:=r.1}):DV (DG k r).1:=by
 unfold DG
 split
 ·exact hr ‹_›
 ·exact h
theorem VB {k:AH} (h:DV k) {f:Nat} (hf:f<12) {kind:Int} {rights:List ByteArray} (hk:Bg kind=true):(Et k.mem k.infos f kind rights).2=0→DV {k with infos:=(Et k.mem k.infos f kind rights).1}:=by
 unfold Et
 split
 ·intro h;simp at h
 ·rename_i hn
  simp only[not_or,Decidable.not_not] at hn
  split
  ·intro h;simp at h
  ·rename_i hg
   have hg:Gp k.mem k.infos f kind rights=true:=by simpa using hg
   split
   ·intro _
    have hkk:=GI.1 hk;refine h.retype hf hn.2 (by omega) (by omega) (by unfold A4;omega) (.inl ⟨rfl,?_,hk⟩) (fun _ w hw=>?_)
    ·unfold A4;rw[hn.1];rfl
    ·rcases JP.1 (K4.1 hg w hw) with⟨a,b,c,_⟩|⟨_,a⟩
     ·exact .inl ⟨a,b,c⟩
     ·exact .inr a
   ·intro h;simp at h
theorem Te {k:AH} (h:DV k) {f:Nat} (hf:f<12):(Cq k.mem k.infos f).2=0→DV {k with infos:=(Cq k.mem k.infos f).1}:=by
 unfold Cq
 split
 ·intro h;simp at h
 ·rename_i hn
  simp only[not_or,Decidable.not_not,Bool.not_eq_false] at hn
  split
  ·intro _
   have hkk:=GI.1 hn.1;exact h.retype hf hn.2 (by omega) (by omega) (by unfold A4;omega) (.inr ⟨rfl,hn.1,rfl⟩) (fun hh=>by simp[Bg] at hh)
  ·intro h;simp at h
theorem Cj {infos:List AL} {w n:Int}:(Aw infos w n).length=infos.length:=by
 unfold Aw
 split
 ·exact As
 ·rfl
theorem LA {infos:List AL} {w n:Int} {g:Nat} (hl:infos.length=12):infoAt (Aw infos w n) g= {infoAt infos g with r:=(infoAt infos g).r+n*(Hv (Ef g w):Int)}:=by
 unfold Aw
 split
 ·rename_i hg
  rw[EM]
  by_cases e:g=A1 w
  ·subst e
   rw[if_pos ⟨rfl,by rw[hl];exact Dg hg⟩];simp[DD,Ef,hg,Hv]
  ·have e':¬A1 w=g:=fun x=>e x.symm
   rw[if_neg (by rintro⟨a,_⟩;exact e a)];simp[Ef,hg,Hv,e']
 ·rename_i hg
  simp[Ef,hg,Hv]
theorem OK {k:AH} {a e:Nat}:e∈ET k a↔e<3∧a∈A5 k.mem (AY k e):=by simp[ET,AY]
theorem VH {k:AH} (h:DV k) {c:AM} (ha:c.a.toNat<12) (hw9:0≤c.c→c.c≤9999∨BV c.c=true∨c.c=0→Ee c.c=true):DV (FY k c).1:=by
 unfold FY
 split
 ·exact h
 rename_i hn
 simp only[not_or,Bool.not_eq_false] at hn;obtain⟨h1,h2,h3⟩:=hn;unfold DU at h3
 split
 ·exact h
 rename_i hall
 have hall:((ET k c.a.toNat).all fun e=>At k.infos (DA k c.c) (AD k.envs e).rights)=true:=by simpa using hall
 split
 ·exact h
 rename_i hmay
 generalize hfd:c.a.toNat=f at*;have hb:c.b.toNat<4:=by have:=Ac.1 h2;omega
 generalize hbd:c.b.toNat=b at*;generalize hwd:c.c=w at*;have hl:=h.len;have hml:=(Af.1 h.mem).1;have hrl:=h.row ha;have hwG:BV w=true→A4 k (A1 w)=A4 k f - 1:=by intro hg;rw[if_pos hg] at h3;simpa[A4] using h3
 have hw0:BV w=false→w=0:=by intro hg;rw[if_neg (by simp[hg])] at h3;simpa using h3
 have hkf:=GI.1 h1;have hword:Ee w=true:=by
  cases hg:BV w
  ·rw[hw0 hg];rfl
  ·have hg':=hg
   simp only[BV,Bool.and_eq_true,decide_eq_true_eq] at hg';refine Ac.2 ⟨by omega,by omega⟩
 have hwne:BV w=true→A1 w≠f:=by intro hg e;have:=hwG hg;rw[e] at this;omega
 have hat:∀g,infoAt (Aw (Aw k.infos (Ar k.mem f b) (-1)) w 1) g= {infoAt k.infos g with r:=(infoAt k.infos g).r+(-1)*(Hv (Ef g (Ar k.mem f b)):Int)+1*(Hv (Ef g w):Int)}:=by intro g;rw[LA (by rw[Cj];exact hl),LA hl]
 have hkind:∀g,(infoAt (Aw (Aw k.infos (Ar k.mem f b) (-1)) w 1) g).k=A4 k g:=fun g=>by rw[hat];rfl
 have hguard:∀g,(infoAt (Aw (Aw k.infos (Ar k.mem f b) (-1)) w 1) g).g=(infoAt k.infos g).g:=fun g=>by rw[hat]
 have hrowf:AK (CZ k.mem f b w) f=(AK k.mem f).set b w:=by rw[JE,if_pos ⟨rfl,by omega⟩]
 have hrow:∀g,g≠f→AK (CZ k.mem f b w) g=AK k.mem g:=fun g hg=>by rw[JE,if_neg (by rintro⟨a,_⟩;exact hg a)]
 have hnamed:∀t g,g∈Go.Proofs.YteocokgpmgfbaaaGreatDoor.named (AK (CZ k.mem f b w) t)→g∈Go.Proofs.YteocokgpmgfbaaaGreatDoor.named (AK k.mem t)∨(t=f∧BV w=true∧A1 w=g):=by
  intro t g hg
  by_cases e:t=f
  ·subst e
   rw[hrowf] at hg
   rcases NR hg with a|a
   ·exact .inl a
   ·exact .inr ⟨rfl,a⟩
  ·rw[hrow t e] at hg
   exact .inl hg
 have hnu:∀e,e<3→f∉A5 k.mem (AY k e)→(0≤AY k e→AK (CZ k.mem f b w) (AY k e).toNat=AK k.mem (AY k e).toNat)∧(0≤AY k e→∀t,t∈Go.Proofs.YteocokgpmgfbaaaGreatDoor.named (AK k.mem (AY k e).toNat)→AK (CZ k.mem f b w) t=AK k.mem t):=by
  intro e he hnr;rw[DK] at hnr;refine⟨fun h0=>hrow _ (fun e'=>hnr ⟨h0, .inl e'.symm⟩),fun h0 t ht=>hrow _ (fun e'=>hnr ⟨h0, .inr (.inl (e'▸ht))⟩)⟩
 refine⟨?_,by rw[Cj,Cj];exact hl,fun g hg=>?_,Pr h.cache,h.envl,h.rights,fun e he=>?_,fun e he g hg=>?_,fun t ht htb x hx=>?_,fun g hg=>?_,fun y hy=>?_⟩
 ·show Bq (CZ k.mem f b w)=true
  rw[Ms];exact Np h.mem (OE ((Af.1 h.mem).2 f ha) hword)
 ·show Qn (infoAt (Aw (Aw k.infos (Ar k.mem f b) (-1)) w 1) g)
  rw[hat];exact h.inf g hg
 ·rcases h.roots e he with x|⟨x,y,z⟩
  ·exact .inl x
  ·exact .inr ⟨x,y,by show(infoAt (Aw (Aw k.infos (Ar k.mem f b) (-1)) w 1) (AY k e).toNat).k=3;rw[hkind];exact z⟩
 ·show Cc (Cm k e) (infoAt (Aw (Aw k.infos (Ar k.mem f b) (-1)) w 1) g).g=true
  rw[hguard]
  by_cases hr:f∈A5 k.mem (AY k e)
  ·have hu:∀g,g∈DA k w→Cc (Cm k e) (infoAt k.infos g).g=true:=F1.1 (List.all_eq_true.1 hall e (OK.2 ⟨he,hr⟩))
   have hneed:∀g,BV w=true→(A1 w=g∨(Bg (A4 k (A1 w))=true∧g∈Go.Proofs.YteocokgpmgfbaaaGreatDoor.named (AK k.mem (A1 w))))→g∈DA k w:=by
    intro g hg hh;unfold DA;rw[if_pos hg]
    rcases hh with rfl|⟨h1,h2⟩
    ·exact List.mem_cons_self ..
    ·unfold A4 at h1
     rw[if_pos h1];exact List.mem_cons_of_mem _ h2
   obtain⟨h0,hg'⟩:=DK.1 hg
   change 0≤AY k e at h0
   have old:∀g,(g=(AY k e).toNat∨g∈Go.Proofs.YteocokgpmgfbaaaGreatDoor.named (AK k.mem (AY k e).toNat)∨∃t,t∈Go.Proofs.YteocokgpmgfbaaaGreatDoor.named (AK k.mem (AY k e).toNat)∧g∈Go.Proofs.YteocokgpmgfbaaaGreatDoor.named (AK k.mem t))→Cc (Cm k e) (infoAt k.infos g).g=true:=fun g hh=>h.allow e he g (DK.2 ⟨h0,hh⟩)
   rcases hg' with hg'|hg'|⟨t,ht,hg'⟩
   ·exact old g (.inl hg')
   ·rcases hnamed _ _ hg' with a|⟨_,a,b⟩
    ·exact old g (.inr (.inl a))
    ·exact hu g (hneed g a (.inl b))
   ·rcases hnamed _ _ hg' with a|⟨_,a,b⟩
    ·rcases hnamed _ _ ht with a'|⟨er,a',b'⟩
     ·exact old g (.inr (.inr ⟨t,a',a⟩))
     ·have hrk:=(h.root_kind he h0).2
      change (AY k e).toNat=f at er
      rw[er] at hrk;refine hu g (hneed g a' (.inr ⟨?_,by rw[b'];exact a⟩));rw[hwG a',hrk];rfl
    ·exact hu g (hneed g a (.inl b))
  ·obtain⟨r0,r1⟩:=hnu e he hr
   exact h.allow e he g ((LS r0 r1 g).1 hg)
 ·have htb2:Bg (infoAt (Aw (Aw k.infos (Ar k.mem f b) (-1)) w 1) t).k=true:=htb
  rw[hkind] at htb2
  show(BV x=true∧A1 x≠t∧(infoAt (Aw (Aw k.infos (Ar k.mem f b) (-1)) w 1) (A1 x)).k=(infoAt (Aw (Aw k.infos (Ar k.mem f b) (-1)) w 1) t).k - 1)∨x=0
  rw[hkind,hkind];have hx2:x∈AK (CZ k.mem f b w) t:=hx
  by_cases e:t=f
  ·subst e
   rw[hrowf] at hx2
   rcases List.mem_or_eq_of_mem_set hx2 with hx2|rfl
   ·exact h.tabs t ht htb2 x hx2
   ·cases hg:BV x
    ·exact .inr (hw0 hg)
    ·exact .inl ⟨rfl,hwne hg,hwG hg⟩
  ·rw[hrow t e] at hx2
   exact h.tabs t ht htb2 x hx2
 ·show(infoAt (Aw (Aw k.infos (Ar k.mem f b) (-1)) w 1) g).r=(countP (CZ k.mem f b w) (Aw (Aw k.infos (Ar k.mem f b) (-1)) w 1) g:Int)+(Ex k.envs g:Int)
  have hsum:=Ja (F:=Kl (CZ k.mem f b w) (Aw (Aw k.infos (Ar k.mem f b) (-1)) w 1) g) (G:=Kl k.mem k.infos g) ha (fun t ht hne=>by unfold Kl;rw[hkind,hrow t hne];rfl)
  rw[←Dk,←Dk] at hsum;have c1:Kl (CZ k.mem f b w) (Aw (Aw k.infos (Ar k.mem f b) (-1)) w 1) g f=(Go.Proofs.YteocokgpmgfbaaaGreatDoor.named ((AK k.mem f).set b w)).count g:=by unfold Kl;rw[hkind,hrowf];exact if_pos h1
  have c2:Kl k.mem k.infos g f=(Go.Proofs.YteocokgpmgfbaaaGreatDoor.named (AK k.mem f)).count g:=if_pos h1;have c3:(Go.Proofs.YteocokgpmgfbaaaGreatDoor.named ((AK k.mem f).set b w)).count g+Hv (Ef g (Ar k.mem f b))=(Go.Proofs.YteocokgpmgfbaaaGreatDoor.named (AK k.mem f)).count g+Hv (Ef g w):=TO (show b<(AK k.mem f).length by omega);rw[c1,c2] at hsum;have:=h.refs g hg;rw[hat];simp only;omega
 ·obtain⟨hy1,hy2⟩:=Sq.1 hy
  have h4:=h.trans y hy1;have hyc:=(EF.1 h.cache).1 y hy1;unfold Ca at hyc;simp only[Bool.and_eq_true,Ac] at hyc;have he:y.e.toNat<3:=by omega
  have hnr:f∉A5 k.mem (AY k y.e.toNat):=fun hr=>hy2 y.e.toNat (OK.2 ⟨he,hr⟩) (by omega)
  obtain⟨r0,r1⟩:=hnu _ he hnr;unfold Fc at h4 ⊢;simp only[Bool.and_eq_true,decide_eq_true_eq] at h4 ⊢;exact⟨h4.1,(Mx (a:=4*y.p.toNat) (r0 h4.1) (r1 h4.1)).trans h4.2⟩
def FI (infos:List AL) (old new:Int):List AL:=
 if 0≤new then AR (if 0≤old then AR infos old.toNat (DD (-1)) else infos) new.toNat (DD 1) else(if 0≤old then AR infos old.toNat (DD (-1)) else infos)
theorem Rm {infos:List AL} {old new:Int}:(FI infos old new).length=infos.length:=by
 unfold FI
 split<;>split<;>simp[As]
theorem TY {infos:List AL} {old new:Int} {g:Nat} (hl:infos.length=12) (hg:g<12):infoAt (FI infos old new) g= {infoAt infos g with r:=(infoAt infos g).r - (Hv (decide (old=(g:Int))):Int)+(Hv (decide (new=(g:Int))):Int)}:=by
 have h1:infoAt (if 0≤old then AR infos old.toNat (DD (-1)) else infos) g= {infoAt infos g with r:=(infoAt infos g).r - (Hv (decide (old=(g:Int))):Int)}:=by
  split
  ·rw[EM]
   by_cases e:g=old.toNat
   ·rw[if_pos ⟨e,by omega⟩,←e]
    have:old=(g:Int):=by omega
    simp[DD,Hv,this];omega
   ·rw[if_neg (by rintro⟨a,_⟩;exact e a)]
    have:¬old=(g:Int):=by omega
    simp[Hv,this]
  ·have:¬old=(g:Int):=by omega
   simp[Hv,this]
 have h2:(if 0≤old then AR infos old.toNat (DD (-1)) else infos).length=12:=by split<;>simp[As,hl]
 unfold FI
 split
 ·rw[EM,h2]
  by_cases e:g=new.toNat
  ·rw[if_pos ⟨e,by omega⟩,←e,h1]
   have:new=(g:Int):=by omega
   simp[DD,Hv,this]
  ·rw[if_neg (by rintro⟨a,_⟩;exact e a),h1]
   have:¬new=(g:Int):=by omega
   simp[Hv,this]
 ·rw[h1]
  have:¬new=(g:Int):=by omega
  simp[Hv,this]
theorem TZ {envs:List DQ} (hl:envs.length=3) {e g:Nat} (he:e<3) {n:Int}:Ex (AR envs e (Bl n)) g+Hv (decide ((AD envs e).root=(g:Int)))=Ex envs g+Hv (decide (n=(g:Int))):=by
 rw[Gg (by rw[As];exact hl),Gg hl];simp only[JN,hl];have:e=0∨e=1∨e=2:=by omega
 rcases this with rfl|rfl|rfl<;>simp[Bl]<;>omega
theorem Rn {envs:List DQ} (hl:envs.length=3) {e g:Nat} {ss:List ByteArray}:Ex (AR envs e (A7 ss)) g=Ex envs g:=by
 rw[Gg (by rw[As];exact hl),Gg hl];simp only[JN]
 by_cases h0:0=e∧e<envs.length<;>by_cases h1:1=e∧e<envs.length<;>by_cases h2:2=e∧e<envs.length<;>simp only[h0,h1,h2,if_true,if_false,A7]<;>(try (obtain⟨rfl,_⟩:=h0))<;>(try (obtain⟨rfl,_⟩:=h1))<;>(try (obtain⟨rfl,_⟩:=h2))<;>simp
theorem Ua {k:AH} (h:DV k) {c:AM} (he:0≤c.e∧c.e≤2):DV (Fi k c).1:=by
 unfold Fi
 split
 ·exact h
 rename_i h1
 split
 ·exact h
 rename_i h2
 have h2:At k.infos (A5 k.mem c.a) (Cm k c.e.toNat)=true:=by simpa[Cm] using h2
 rw[F1] at h2;have hen:c.e.toNat<3:=by omega
 generalize hed:c.e.toNat=e at*;generalize c.a=n at*;have h1:n= -1∨(0≤n∧n≤11∧A4 k n.toNat=3):=by
  by_cases hn:n= -1
  ·exact .inl hn
  ·right
   have h1:¬(Bv n 0 11=false∨(infoAt k.infos n.toNat).k≠3):=fun hh=>h1 ⟨hn,hh⟩
   simp only[not_or,Bool.not_eq_false,Decidable.not_not] at h1;have:=Ac.1 h1.1;exact⟨this.1,this.2,h1.2⟩
 show DV ⟨k.mem,FI k.infos (AY k e) n,AR k.envs e (Bl n),Cg k.cache c.e⟩
 have hat:=fun g (hg:g<12)=>TY (infos:=k.infos) (old:=AY k e) (new:=n) (g:=g) h.len hg
 have henv:∀j,AD (AR k.envs e (Bl n)) j=if j=e then⟨Cm k e,n⟩ else AD k.envs j:=by
  intro j;rw[JN,h.envl]
  by_cases hj:j=e
  ·rw[if_pos ⟨hj,hen⟩,if_pos hj];rfl
  ·rw[if_neg (by rintro⟨a,_⟩;exact hj a),if_neg hj]
 refine⟨h.mem,by rw[Rm];exact h.len,fun g hg=>?_,Pq h.cache,by rw[As];exact h.envl,fun j hj=>?_,fun j hj=>?_,fun j hj g hg=>?_,fun t ht htb x hx=>?_,fun g hg=>?_,fun y hy=>?_⟩
 ·show Qn (infoAt (FI _ _ _) g)
  rw[hat g hg];exact h.inf g hg
 ·show Ax (AD (AR k.envs e (Bl n)) j).rights=true
  rw[henv]
  split
  ·exact h.rights e hen
  ·exact h.rights j hj
 ·show(AD (AR k.envs e (Bl n)) j).root= -1∨(0≤(AD (AR k.envs e (Bl n)) j).root∧(AD (AR k.envs e (Bl n)) j).root≤11∧(infoAt (FI k.infos (AY k e) n) (AD (AR k.envs e (Bl n)) j).root.toNat).k=3)
  rw[henv]
  split
  ·rcases h1 with h1|⟨a,b,d⟩
   ·exact .inl h1
   ·refine .inr ⟨a,b,?_⟩
    rw[hat _ (by simp;omega)];exact d
  ·rcases h.roots j hj with x|⟨x,y,z⟩
   ·exact .inl x
   ·refine .inr ⟨x,y,?_⟩
    have hx:(AD k.envs j).root=AY k j:=rfl;rw[hx,hat _ (by omega)];exact z
 ·have hg2:g∈A5 k.mem (AD (AR k.envs e (Bl n)) j).root:=hg
  show Cc (AD (AR k.envs e (Bl n)) j).rights (infoAt (FI k.infos (AY k e) n) g).g=true
  rw[henv] at hg2 ⊢
  by_cases hj':j=e
  ·simp only[hj',if_true] at hg2 ⊢
   have hg12:g<12:=by
    obtain⟨h0,hh⟩:=DK.1 hg2
    rcases hh with rfl|hh|⟨t,_,hh⟩
    ·rcases h1 with h1|h1<;>omega
    ·exact Ek hh
    ·exact Ek hh
   rw[hat g hg12];exact h2 g hg2
  ·simp only[hj',if_false] at hg2 ⊢
   rw[hat g (h.reach_lt hj hg2).1];exact h.allow j hj g hg2
 ·have htb2:Bg (infoAt (FI k.infos (AY k e) n) t).k=true:=htb
  rw[hat t ht] at htb2
  show(BV x=true∧A1 x≠t∧(infoAt (FI k.infos (AY k e) n) (A1 x)).k=(infoAt (FI k.infos (AY k e) n) t).k - 1)∨x=0
  rcases h.tabs t ht htb2 x hx with⟨a,b,d⟩|rfl
  ·refine .inl ⟨a,b,?_⟩
   rw[hat t ht,hat _ (Dg a)];exact d
  ·exact .inr rfl
 ·show(infoAt (FI k.infos (AY k e) n) g).r=(countP k.mem (FI k.infos (AY k e) n) g:Int)+(Ex (AR k.envs e (Bl n)) g:Int)
  have hc:countP k.mem (FI k.infos (AY k e) n) g=countP k.mem k.infos g:=by
   rw[Dk,Dk];refine LD fun t ht=>?_
   unfold Kl;rw[hat t ht]
  have hr:=TZ (g:=g) h.envl hen (n:=n);have:=h.refs g hg;rw[hc,hat g hg];have e':(AD k.envs e).root=AY k e:=rfl;rw[e'] at hr;simp only;omega
 ·obtain⟨hy1,hy2⟩:=Nc.1 hy
  have h4:=h.trans y hy1;have hyc:=(EF.1 h.cache).1 y hy1;unfold Ca at hyc;simp only[Bool.and_eq_true,Ac] at hyc;have hne:y.e.toNat≠e:=by omega
  unfold Fc at h4 ⊢;rw[show AD (AH.envs ⟨k.mem,FI k.infos (AY k e) n,AR k.envs e (Bl n),Cg k.cache c.e⟩) y.e.toNat=AD k.envs y.e.toNat from by show AD (AR k.envs e (Bl n)) y.e.toNat=_;rw[henv,if_neg hne]];exact h4
theorem DV.rights_turn {k:AH} (h:DV k) {e:Nat} (he:e<3) {ss:List ByteArray} (hs:Ax ss=true) (ha:∀f,f∈A5 k.mem (AY k e)→Cc ss (infoAt k.infos f).g=true):DV {k with envs:=AR k.envs e (A7 ss)}:=by
 have henv:∀j,AD (AR k.envs e (A7 ss)) j=if j=e then⟨ss,AY k e⟩ else AD k.envs j:=by
  intro j;rw[JN,h.envl]
  by_cases hj:j=e
  ·rw[if_pos ⟨hj,he⟩,if_pos hj];rfl
  ·rw[if_neg (by rintro⟨a,_⟩;exact hj a),if_neg hj]
 have hroot:∀j,(AD (AR k.envs e (A7 ss)) j).root=AY k j:=by
  intro j;rw[henv]
  split
  ·rename_i hj;rw[hj]
  ·rfl
 refine⟨h.mem,h.len,h.inf,h.cache,by rw[As];exact h.envl,fun j hj=>?_,fun j hj=>?_,fun j hj g hg=>?_,h.tabs,fun g hg=>?_,fun y hy=>?_⟩
 ·show Ax (AD (AR k.envs e (A7 ss)) j).rights=true
  rw[henv]
  split
  ·exact hs
  ·exact h.rights j hj
 ·show(AD (AR k.envs e (A7 ss)) j).root= -1∨(0≤(AD (AR k.envs e (A7 ss)) j).root∧(AD (AR k.envs e (A7 ss)) j).root≤11∧(infoAt k.infos (AD (AR k.envs e (A7 ss)) j).root.toNat).k=3)
  rw[hroot];exact h.roots j hj
 ·have hg2:g∈A5 k.mem (AD (AR k.envs e (A7 ss)) j).root:=hg
  show Cc (AD (AR k.envs e (A7 ss)) j).rights (infoAt k.infos g).g=true
  rw[hroot] at hg2;rw[henv]
  split
  ·rename_i hj'
   rw[hj'] at hg2;exact ha g hg2
  ·exact h.allow j hj g hg2
 ·show(infoAt k.infos g).r=(countP k.mem k.infos g:Int)+(Ex (AR k.envs e (A7 ss)) g:Int)
  rw[Rn h.envl];exact h.refs g hg
 ·have h4:=h.trans y hy
  unfold Fc at h4 ⊢;rw[show(AD (AH.envs {k with envs:=AR k.envs e (A7 ss)}) y.e.toNat).root=(AD k.envs y.e.toNat).root from hroot _];exact h4
theorem TD {k:AH} (h:DV k) {c:AM}:DV (EL k c).1:=by
 unfold EL
 split
 ·exact h
 rename_i h1
 simp only[not_or,Bool.not_eq_false] at h1;have:=Ac.1 h1.1
 split
 ·exact h
 split
 ·exact h
 exact h.rights_turn (by omega) (VT (h.rights _ (by omega)) h1.2) (fun f hf=>TN (fun s hs=>Tt hs) (h.allow _ (by omega) f hf))
theorem Rl {k:AH} (h:DV k) {c:AM}:DV (DL k c).1:=by
 unfold DL
 split
 ·exact h
 rename_i h1
 simp only[not_or,Bool.not_eq_false] at h1;have:=Ac.1 h1.1
 split
 ·exact h
 split
 ·exact h
 rename_i h3
 have h3:=F1.1 (show At k.infos (A5 k.mem (AY k c.a.toNat)) (A9 (AD k.envs c.a.toNat).rights c.nm)=true by simpa[AY] using h3);exact h.rights_turn (by omega) (Su (h.rights _ (by omega))) h3
theorem VJ {k:AH} (h:DV k) {c:AM} (he:0≤c.e∧c.e≤2):DV (Gz k c).1:=by
 unfold Gz;simp only
 split
 ·exact h
 rename_i h1
 simp only[not_or,Bool.not_eq_false] at h1;obtain⟨ha,hr,hb⟩:=h1
 split
 ·exact h
 rename_i hw
 split
 ·exact h
 have hen:c.e.toNat<3:=by omega
 have hr:0≤AY k c.e.toNat:=by unfold AY;omega
 have hw:(BS k.mem (AY k c.e.toNat).toNat c.a.toNat).1=0:=by simpa[AY] using hw
 obtain⟨hf,hk,_⟩:=h.walk_data hen hr hw;have ha:=Ac.1 ha;have hC:Bu (if Eu k.cache c.e (c.a/4)<0 then El k.cache ⟨c.e,c.a/4,((BS k.mem (AY k c.e.toNat).toNat c.a.toNat).2.1:Nat),(BS k.mem (AY k c.e.toNat).toNat c.a.toNat).2.2⟩ else k.cache)=true:=by
  split
  ·refine VD h.cache ?_
   simp only[Ca,Bool.and_eq_true,Ac];omega
  ·exact h.cache
 have hT:∀y∈(if Eu k.cache c.e (c.a/4)<0 then El k.cache ⟨c.e,c.a/4,((BS k.mem (AY k c.e.toNat).toNat c.a.toNat).2.1:Nat),(BS k.mem (AY k c.e.toNat).toNat c.a.toNat).2.2⟩ else k.cache),Fc k y=true:=by
  intro y hy
  split at hy
  ·rcases QV hy with rfl|hy
   ·unfold Fc
    simp only[Bool.and_eq_true,decide_eq_true_eq];refine⟨hr,?_⟩;have e1:4*(c.a/4).toNat/16=c.a.toNat/16:=by omega
    have e2:4*(c.a/4).toNat/4%4=c.a.toNat/4%4:=by omega
    have e3:BS k.mem (AD k.envs c.e.toNat).root.toNat (4*(c.a/4).toNat)=BS k.mem (AY k c.e.toNat).toNat c.a.toNat:=by unfold BS;rw[e1,e2];rfl
    rw[e3,Int.toNat_natCast];exact Prod.ext hw rfl
   ·exact h.trans y hy
  ·exact h.trans y hy
 split
 ·rename_i h11
  refine SY h hf hk ?_ hC hT;simp only[not_and,Bool.not_eq_false] at hb;exact hb h11
 ·have:=h.data (x:=infoAt k.infos (BS k.mem (AY k c.e.toNat).toNat c.a.toNat).2.1) hf (.inr hk) ((Af.1 h.mem).2 _ hf) (h.inf _ hf) (.inr hk) rfl (.inl ⟨rfl,rfl⟩) hC hT
  rw[show k.infos.set _ (infoAt k.infos (BS k.mem (AY k c.e.toNat).toNat c.a.toNat).2.1)=k.infos from Kc,show k.mem.set _ (AK k.mem (BS k.mem (AY k c.e.toNat).toNat c.a.toNat).2.1)=k.mem from Kc] at this;exact this
theorem Sy {k:AH} (h:DV k) {c:AM}:DV (FF k c).1:=by
 unfold FF
 split
 ·exact h
 rename_i h1
 simp only[not_or,Bool.not_eq_false,not_and] at h1;have ha:=Ac.1 h1.1;have han:c.a.toNat<12:=by omega
 split
 ·exact h
 split
 ·exact UH h han
 split
 ·exact UV h han
 split
 ·rename_i h4
  exact OA h (VB h han (h1.2.2 h4))
 split
 ·exact OA h (Te h han)
 exact VH h han (fun h0 hh=>by
  rcases hh with hh|hh|hh
  ·exact Ac.2 ⟨h0,hh⟩
  ·simp only[BV,Bool.and_eq_true,decide_eq_true_eq] at hh
   exact Ac.2 ⟨by omega,by omega⟩
  ·rw[hh];rfl)
theorem Tz {k:AH} (h:DV k) {c:AM} (he:0≤c.e∧c.e≤2):DV (AO k c).1:=by
 unfold AO
 split
 ·exact Uj h
 split
 ·exact Sy h
 split
 ·exact Ua h he
 split
 ·exact TD h
 split
 ·exact Rl h
 split
 ·exact VJ h he
 ·exact h
structure DR where
 w:Int
 a:Int
 u:Bool
 deriving DecidableEq
structure BU where
 kern:AH
 swap:List (List Int)
 low:List Int
 pages:List DR
 hand:Int
 limit:Int
 deriving DecidableEq
def gA:ByteArray:=⟨#[97]⟩
def AW (l:List DR) (n:Nat):DR:=l.getD n ⟨0,0,false⟩
def GD (l:List Int) (n:Nat):Int:=l.getD n 0
def Ry (s:List (List Int)):Bool:=s.all (fun r=>r.isEmpty||Em r)&&decide (s.length=16)
def Og (f:Int):Int:=4*f+3
def QP (infos:List AL) (f:Nat):Bool:=decide ((infoAt infos f).g=gA)&&decide ((infoAt infos f).r=1)
def UN (p:BU) (i:Nat):Bool:=Bv (GD p.low i) 0 11&&decide (Ar p.kern.mem (AY p.kern 0).toNat i=Og (GD p.low i))&&QP p.kern.infos (GD p.low i).toNat
def OJ (p:BU):Bool:=decide (0≤AY p.kern 0)&&decide (p.low.length=4)&&QP p.kern.infos (AY p.kern 0).toNat&&(List.range 4).all (UN p)
def Eh (p:BU) (n:Nat):Int:=Ar p.kern.mem (GD p.low (n/4)).toNat (n%4)
def PK (p:BU) (n:Nat):Bool:=
 if(AW p.pages n).w=0 then decide ((AW p.pages n).a=0)&&!(AW p.pages n).u&&decide (Eh p n=0)
 else if(AW p.pages n).w=1 then Bv (AW p.pages n).a 0 11&&decide (Eh p n=Og (AW p.pages n).a)&&QP p.kern.infos (AW p.pages n).a.toNat
 else if(AW p.pages n).w=2 then Bv (AW p.pages n).a 0 15&&!(AK p.swap (AW p.pages n).a.toNat).isEmpty&&!(AW p.pages n).u&&decide (Eh p n=0)
 else false
def Tv (s:Nat) (x:DR):Bool:=decide (x.w=2)&&decide (x.a=(s:Int))
def Lo (pages:List DR) (s:Nat):Nat:=pages.countP (Tv s)
def Sf (p:BU) (s:Nat):Bool:=decide (Lo p.pages s=if(AK p.swap s).isEmpty then 0 else 1)
def Tu (k:AH):Bool:=Cc (Cm k 0) gA&&!Cc (Cm k 1) gA&&!Cc (Cm k 2) gA
def VP (w:Int) (x:DR):Bool:=decide (x.w=w)
def Gj (pages:List DR) (w:Int):Nat:=pages.countP (VP w)
def SX (p:BU):Bool:=
 Ox p.kern&&Ry p.swap&&Tu p.kern&&OJ p&&decide (p.pages.length=16)&&(List.range 16).all (Sf p)&&(List.range 16).all (PK p)&&Bv p.hand 0 15&&Bv p.limit 1 6&&decide ((Gj p.pages 1:Int)≤p.limit)
def DP (kind a b c:Int):AM:=⟨kind,0,a,b,c,gA⟩
def Qg (x:DR):DR:= {x with u:=false}
def OM (p:BU) (a:Nat):Int:=
 if(AW p.pages (a/4)).w=1 then Ar p.kern.mem (AW p.pages (a/4)).a.toNat (a%4)
 else if(AW p.pages (a/4)).w=2 then Ar p.swap (AW p.pages (a/4)).a.toNat (a%4) else 0
def Qo (infos:List AL) (f:Nat):Prop:=(infoAt infos f).g=gA∧(infoAt infos f).r=1
theorem Nq {infos:List AL} {f:Nat}:QP infos f=true↔Qo infos f:=by simp[QP,Qo]
def Lz (p:BU) (n:Nat):Prop:=
 ((AW p.pages n).w=0∧(AW p.pages n).a=0∧(AW p.pages n).u=false∧Eh p n=0)∨
 ((AW p.pages n).w=1∧(0≤(AW p.pages n).a∧(AW p.pages n).a≤11)∧Eh p n=Og (AW p.pages n).a∧Qo p.kern.infos (AW p.pages n).a.toNat)∨
 ((AW p.pages n).w=2∧(0≤(AW p.pages n).a∧(AW p.pages n).a≤15)∧AK p.swap (AW p.pages n).a.toNat≠[]∧(AW p.pages n).u=false∧Eh p n=0)
theorem Ov {α:Type} {l:List α}:l.isEmpty=true↔l=[]:=List.isEmpty_iff
theorem Rh {p:BU} {n:Nat}:PK p n=true↔Lz p n:=by
 unfold PK Lz
 by_cases h0:(AW p.pages n).w=0
 ·simp[h0,and_assoc]
 ·by_cases h1:(AW p.pages n).w=1
  ·simp[h1,and_assoc,Ac,Nq]
  ·by_cases h2:(AW p.pages n).w=2
   ·simp[h2,and_assoc,Ac]
   ·simp[h0,h1,h2]
structure KF (p:BU):Prop where
 k:DV p.kern
 swapl:p.swap.length=16
 swapr:∀s,s<16→AK p.swap s=[]∨Em (AK p.swap s)=true
 may:Cc (Cm p.kern 0) gA=true
 alone:∀e,1≤e→e<3→Cc (Cm p.kern e) gA=false
 root:0≤AY p.kern 0
 lowl:p.low.length=4
 mroot:Qo p.kern.infos (AY p.kern 0).toNat
 lows:∀i,i<4→0≤GD p.low i∧GD p.low i≤11∧Ar p.kern.mem (AY p.kern 0).toNat i=Og (GD p.low i)∧Qo p.kern.infos (GD p.low i).toNat
 pagel:p.pages.length=16
 slots:∀s,s<16→Lo p.pages s=if(AK p.swap s).isEmpty then 0 else 1
 pages:∀n,n<16→Lz p n
 hand:0≤p.hand∧p.hand≤15
 limit:1≤p.limit∧p.limit≤6
 count:(Gj p.pages 1:Int)≤p.limit
theorem Rz {s:List (List Int)}:Ry s=true↔s.length=16∧∀i,i<16→AK s i=[]∨Em (AK s i)=true:=by
 simp only[Ry,Bool.and_eq_true,List.all_eq_true,decide_eq_true_eq,Bool.or_eq_true,Ov];constructor
 ·rintro⟨h1,h2⟩
  exact⟨h2,fun f hf=>h1 _ (De (by omega))⟩
 ·rintro⟨h1,h2⟩
  refine⟨fun r hr=>?_,h1⟩;obtain⟨i,hi,rfl⟩:=Gr (d:=[]) hr;exact h2 i (by omega)
theorem QU {p:BU}:SX p=true↔KF p:=by
 unfold SX OJ Tu;simp only[Bool.and_eq_true,JY,Rh,Ac,decide_eq_true_eq,J2,Rz,Sf,UN,Nq,Bool.not_eq_true'];constructor
 ·rintro⟨⟨⟨⟨⟨⟨⟨⟨⟨h1,h2⟩,h3⟩,h4⟩,h5⟩,h6⟩,h7⟩,h8⟩,h9⟩,h10⟩
  obtain⟨⟨⟨a,b⟩,c⟩,d⟩:=h4;refine⟨h1,h2.1,h2.2,h3.1.1,fun e he he'=>?_,a,b,c,fun i hi=>?_,h5,h6,h7,h8,h9,h10⟩
  ·have:e=1∨e=2:=by omega
   rcases this with rfl|rfl
   ·exact h3.1.2
   ·exact h3.2
  ·obtain⟨⟨x,y⟩,z⟩:=d i hi
   exact⟨x.1,x.2,y,z⟩
 ·intro h
  exact⟨⟨⟨⟨⟨⟨⟨⟨⟨h.k,h.swapl,h.swapr⟩,⟨h.may,h.alone 1 (by omega) (by omega)⟩,h.alone 2 (by omega) (by omega)⟩,⟨⟨h.root,h.lowl⟩,h.mroot⟩,fun i hi=>by obtain⟨x,y,z,u⟩:=h.lows i hi;exact⟨⟨⟨x,y⟩,z⟩,u⟩⟩,h.pagel⟩,h.slots⟩,h.pages⟩,h.hand⟩,h.limit⟩,h.count⟩
theorem K0 {f:Int} (h0:0≤f) (h1:f≤11):BV (Og f)=true∧A1 (Og f)=f.toNat∧IS (Og f)=true:=by unfold BV A1 IS Og;simp only[Bool.and_eq_true,decide_eq_true_eq];refine⟨⟨⟨?_,?_⟩,?_⟩,?_,?_⟩<;>omega
theorem R6 {F:Nat→Nat} {n a b:Nat} (ha:a<n) (hb:b<n) (hne:a≠b) (h1:1≤F a) (h2:1≤F b):2≤((List.range n).map F).sum:=by
 have e1:=Ja (F:=F) (G:=fun t=>if t=a then 0 else F t) ha (fun t _ hne=>by simp[hne]);have e2:=Ja (F:=fun t=>if t=a then 0 else F t) (G:=fun t=>if t=b then 0 else if t=a then 0 else F t) hb (fun t _ hne=>by simp[hne]);have hba:¬b=a:=fun e=>hne e.symm
 simp only[if_true,hba,if_false] at e1 e2;omega
theorem Re {F:Nat→Nat} {n a:Nat} (ha:a<n):F a≤((List.range n).map F).sum:=by
 have e1:=Ja (F:=F) (G:=fun t=>if t=a then 0 else F t) ha (fun t _ hne=>by simp[hne]);simp only[if_true] at e1;omega
theorem Sp {r:List Int} {p:Int→Bool} {i j:Nat} (hi:i<r.length) (hj:j<r.length) (hne:i≠j) (h1:p (r.getD i 0)=true) (h2:p (r.getD j 0)=true):2≤r.countP p:=by
 induction r generalizing i j with
 |nil=>simp at hi
 |cons x r ih=>
  rw[List.countP_cons];cases i with
  |zero=>
   cases j with
   |zero=>omega
   |succ j=>simp at h1 h2 hj;have:0<r.countP p:=List.countP_pos_iff.2 ⟨_,De (d:=0) hj,by simpa using h2⟩;rw[if_pos (by simpa using h1)];omega
  |succ i=>
   cases j with
   |zero=>simp at h1 h2 hi;have:0<r.countP p:=List.countP_pos_iff.2 ⟨_,De (d:=0) hi,by simpa using h1⟩;rw[if_pos (by simpa using h2)];omega
   |succ j=>have:=ih (i:=i) (j:=j) (by simpa using hi) (by simpa using hj) (by omega) (by simpa using h1) (by simpa using h2);omega
section
variable {k:AH} (h:DV k)
include h
theorem DV.cnt_pos {f t i:Nat} (ht:t<12) (htb:Bg (A4 k t)=true) (hi:i<4) (hn:Ef f (Ar k.mem t i)=true):1≤Kl k.mem k.infos f t:=by unfold Kl;unfold A4 at htb;rw[if_pos htb,G7];exact List.countP_pos_iff.2 ⟨_,De (d:=0) (by rw[h.row ht];exact hi),hn⟩
theorem DV.once {f t i t' i':Nat} (hf:f<12) (h1:(infoAt k.infos f).r=1) (ht:t<12) (htb:Bg (A4 k t)=true) (hi:i<4) (hn:Ef f (Ar k.mem t i)=true)
 (ht':t'<12) (htb':Bg (A4 k t')=true) (hi':i'<4) (hn':Ef f (Ar k.mem t' i')=true):t=t'∧i=i':=by
 have hr:=h.refs f hf;have hc:countP k.mem k.infos f≤1:=by omega
 rw[Dk] at hc
 by_cases e:t=t'
 ·subst e
  refine⟨rfl,?_⟩
  by_cases e:i=i'
  ·exact e
  ·exfalso
   have h2:2≤Kl k.mem k.infos f t:=by unfold Kl;unfold A4 at htb;rw[if_pos htb,G7];exact Sp (by rw[h.row ht];exact hi) (by rw[h.row ht];exact hi') e hn hn'
   have:=Re (F:=Kl k.mem k.infos f) ht;omega
 ·exfalso
  have:=R6 (F:=Kl k.mem k.infos f) ht ht' e (h.cnt_pos ht htb hi hn) (h.cnt_pos ht' htb' hi' hn');omega
end
section
variable {p:BU} (h:KF p)
include h
theorem KF.root_lt:(AY p.kern 0).toNat<12∧A4 p.kern (AY p.kern 0).toNat=3:=h.k.root_kind (by omega) h.root
theorem KF.low_names {i:Nat} (hi:i<4):Ef (GD p.low i).toNat (Ar p.kern.mem (AY p.kern 0).toNat i)=true:=by obtain⟨a,b,c,_⟩:=h.lows i hi;obtain⟨x,y,_⟩:=K0 a b;rw[c];simp[Ef,x,y]
theorem KF.low_kind {i:Nat} (hi:i<4):(GD p.low i).toNat<12∧A4 p.kern (GD p.low i).toNat=2:=by obtain⟨a,b,c,_⟩:=h.lows i hi;obtain⟨x,y,_⟩:=K0 a b;have hm:=Kg (m:=p.kern.mem) (f:=(AY p.kern 0).toNat) (i:=i) (by rw[c];exact x);rw[c,y] at hm;exact h.k.low_kind (by omega) h.root hm
theorem KF.low_inj {i j:Nat} (hi:i<4) (hj:j<4) (e:(GD p.low i).toNat=(GD p.low j).toNat):i=j:=by have hr:=h.root_lt;have hl:=h.low_kind hi;have h1:=h.low_names hi;have h2:=h.low_names hj;rw[←e] at h2;exact(h.k.once hl.1 (h.lows i hi).2.2.2.2 hr.1 (by rw[hr.2];rfl) hi h1 hr.1 (by rw[hr.2];rfl) hj h2).2
theorem KF.frame_names {n:Nat} (hn:n<16) (hw:(AW p.pages n).w=1):Ef (AW p.pages n).a.toNat (Eh p n)=true∧(0≤(AW p.pages n).a∧(AW p.pages n).a≤11)∧Qo p.kern.infos (AW p.pages n).a.toNat:=by
 rcases h.pages n hn with⟨a,_⟩|⟨_,b,c,d⟩|⟨a,_⟩
 ·omega
 ·obtain⟨x,y,_⟩:=K0 b.1 b.2
  refine⟨?_,b,d⟩;rw[c];simp[Ef,x,y]
 ·omega
theorem KF.frame_kind {n:Nat} (hn:n<16) (hw:(AW p.pages n).w=1):(AW p.pages n).a.toNat<12∧A4 p.kern (AW p.pages n).a.toNat=1:=by
 obtain⟨a,b,_⟩:=h.frame_names hn hw;have hl:=h.low_kind (i:=n/4) (by omega);have ha:BV (Eh p n)=true∧A1 (Eh p n)=(AW p.pages n).a.toNat:=by simpa[Ef] using a
 have hm:=Kg (m:=p.kern.mem) (f:=(GD p.low (n/4)).toNat) (i:=n%4) ha.1;have:=h.k.named hl.1 (by rw[hl.2];rfl) hm;have e:A1 (Ar p.kern.mem (GD p.low (n/4)).toNat (n%4))=(AW p.pages n).a.toNat:=ha.2;rw[e] at this;exact⟨this.1,by omega⟩
theorem KF.frame_inj {n m:Nat} (hn:n<16) (hm:m<16) (hw:(AW p.pages n).w=1) (hw':(AW p.pages m).w=1) (e:(AW p.pages n).a.toNat=(AW p.pages m).a.toNat):n=m:=by obtain⟨a,b,c⟩:=h.frame_names hn hw;obtain⟨a',_,_⟩:=h.frame_names hm hw';rw[←e] at a';have hl:=h.low_kind (i:=n/4) (by omega);have hl':=h.low_kind (i:=m/4) (by omega);have hk:=h.frame_kind hn hw;have:=h.k.once hk.1 c.2 hl.1 (by rw[hl.2];rfl) (i:=n%4) (by omega) a hl'.1 (by rw[hl'.2];rfl) (i':=m%4) (by omega) a';have:=h.low_inj (by omega) (by omega) this.1;omega
end
theorem Po {α:Type} {q:α→Bool} {l:List α} {n:Nat} {y d:α} (hn:n<l.length):(l.set n y).countP q+Hv (q (l.getD n d))=l.countP q+Hv (q y):=by
 induction l generalizing n with
 |nil=>simp at hn
 |cons x r ih=>
  cases n with
  |zero=>simp only[List.set_cons_zero,List.countP_cons,List.getD_cons_zero,Hv];omega
  |succ n=>simp only[List.set_cons_succ,List.countP_cons,List.getD_cons_succ];have:=ih (n:=n) (by simpa using hn);omega
theorem Rg {l:List DR} {n m:Nat} {x:DR}:AW (l.set n x) m=if m=n∧n<l.length then x else AW l m:=Gn
theorem So {l:List DR} {n:Nat} {y:DR} {w:Int} (hn:n<l.length):Gj (l.set n y) w+Hv (VP w (AW l n))=Gj l w+Hv (VP w y):=Po hn
theorem count_le {l:List DR} {n:Nat} (hn:n<l.length) {w:Int} (hw:(AW l n).w≠w):Gj l w+1≤l.length:=by
 have h1:=So (y:=⟨w,0,false⟩) (w:=w) hn;have h2:Gj (l.set n ⟨w,0,false⟩) w≤(l.set n ⟨w,0,false⟩).length:=List.countP_le_length;rw[List.length_set] at h2;have h3:Hv (VP w (AW l n))=0:=by simp[VP,hw,Hv]
 have h4:Hv (VP w ⟨w,0,false⟩)=1:=by simp[VP,Hv]
 omega
theorem Uh {m:List (List Int)} {t b f i:Nat} {w:Int} (ht:t<m.length) (hb:b<(AK m t).length):Ar (CZ m t b w) f i=if f=t∧i=b then w else Ar m f i:=by
 unfold Ar;rw[JE]
 by_cases e:f=t
 ·subst e
  rw[if_pos ⟨rfl,ht⟩,Gn]
  by_cases e2:i=b
  ·simp[e2,hb]
  ·simp[e2]
 ·simp[e]
end Go.Proofs.YteocokgpmgfbaaaGreatDoor
set_option linter.unusedVariables false
namespace Go.Proofs.YteocokgpmgfbaaaGreatDoor
open Go.Proofs.Tryz
open Go.RowKit
theorem Io {P:Program} {f:FuncId} {args:Array Value} {w1:World} {v:Value} (h:∀w',Below w1.heap.size w1 w'→Calls P f args w' fun e w''=>e= .returned v∧Below w'.heap.size w' w''):
 ∀d os,Calls P f args (Sort.grow (redrawn w1 d) os) fun e w''=>e= .returned v∧∃p:Regrown,w''=Sort.grow (redrawn w1 p.d) p.os:=fun d os=>Calls.regrown_of (h _ (below_regrown w1 d os))
theorem GU {P:Program} {f:FuncId} {args:Array Value} {w1:World} {v:Value} (h:∀w',Calls P f args w' fun e w''=>e= .returned v∧w'=w''):
 ∀d os,Calls P f args (Sort.grow (redrawn w1 d) os) fun e w''=>e= .returned v∧∃p:Regrown,w''=Sort.grow (redrawn w1 p.d) p.os:=Io fun w' _=>(h w').mono fun e w'' ⟨he,hw⟩=>⟨he,hw▸Below.refl _ _⟩
theorem Ab {P:Program} {f:FuncId} {args:Array Value} {w:World} {v:Value} (h:Calls P f args w fun e w'=>e= .returned v∧w=w'):Calls P f args w fun e w'=>e= .returned v∧Below w.heap.size w w':=h.mono fun e w'' ⟨he,hw⟩=>⟨he,hw▸Below.refl _ _⟩
theorem Kb {P:Program} {f:FuncId} {args:Array Value} {w:World} {v:Value} (h:Calls P f args w fun e w'=>e= .returned v∧∃n,w'=w.drewN n):Calls P f args w fun e w'=>e= .returned v∧Below w.heap.size w w':=
 h.mono fun e w'' ⟨he,n,hw⟩=>⟨he,hw▸Ao (Below.refl _ _) n⟩
theorem LB {a b:Value} (h:a=b):Ending.returned a= .returned b:=by rw[h]
section
variable {w:World} {a:Option Addr}
theorem Ql.infoCells {xs:List AL} (h:Ql 3 AX w a xs) {k:Nat} (hk:k<xs.length):∃b off,a=some ⟨b,off,none⟩∧b<w.heap.size∧w.cell? ⟨b,off+k*3,none⟩=some (.int .i64 (infoAt xs k).k)∧w.cell? ⟨b,off+k*3+1,none⟩=some (.string (infoAt xs k).g)∧w.cell? ⟨b,off+k*3+2,none⟩=some (.int .i64 (infoAt xs k).r):=by obtain⟨b,off,rfl,hlt,hc⟩:=h k (infoAt xs k) (by simp[infoAt,hk]);exact⟨b,off,rfl,hlt,hc 0 _ rfl,hc 1 _ rfl,hc 2 _ rfl⟩
theorem Ql.cachedCells {xs:List AU} (h:Ql 4 AJ w a xs) {k:Nat} (hk:k<xs.length):∃b off,a=some ⟨b,off,none⟩∧b<w.heap.size∧w.cell? ⟨b,off+k*4,none⟩=some (.int .i64 (Ae xs k).e)∧w.cell? ⟨b,off+k*4+1,none⟩=some (.int .i64 (Ae xs k).p)∧w.cell? ⟨b,off+k*4+2,none⟩=some (.int .i64 (Ae xs k).f)∧w.cell? ⟨b,off+k*4+3,none⟩=some (.bool (Ae xs k).w):=by obtain⟨b,off,rfl,hlt,hc⟩:=h k (Ae xs k) (by simp[Ae,hk]);exact⟨b,off,rfl,hlt,hc 0 _ rfl,hc 1 _ rfl,hc 2 _ rfl,hc 3 _ rfl⟩
end
theorem Gh.cellAt {w:World} {a:Option Addr} {xs:List Int} (h:Gh w a xs) {k:Nat} (hk:k<xs.length):∃b off,a=some ⟨b,off,none⟩∧b<w.heap.size∧w.cell? ⟨b,off+k,none⟩=some (.int .i64 (nth xs k)):=by obtain⟨b,off,rfl,hc⟩:=h.at hk;exact⟨b,off,rfl,World.block_lt_of_cell? w _ hc,hc⟩
def Ip (w:World) (a:Option Addr) (m:List (List Int)):Prop:=∀f,f<m.length→∃b off u,a=some ⟨b,off,none⟩∧b<w.heap.size∧w.cell? ⟨b,off+f,none⟩=some u∧Ap w u (AK m f)
theorem BI.open {w:World} {v:Value} {m:List (List Int)} (h:BI w v m):∃a cap,v= .slice a m.length cap∧m.length≤cap∧cap≤maxLen∧Ip w a m:=by
 obtain⟨vs,h1,h2⟩:=h;obtain⟨a,cap,rfl,hc,hcm,H⟩:=A6.open D8 (by decide) h1;refine⟨a,cap,by rw[h2.1],by rw[←h2.1];exact hc,hcm,fun f hf=>?_⟩;have hv:f<vs.length:=by rw[h2.1];exact hf
 obtain⟨b,off,rfl,hlt,hcell⟩:=H f _ (List.getElem?_eq_getElem hv);refine⟨b,off,vs[f],rfl,hlt,by simpa using hcell 0 _ rfl,h2.2 f _ _ (List.getElem?_eq_getElem hv) ?_⟩;unfold AK;exact Ba hf
theorem Ip.below {w w':World} {a:Option Addr} {m:List (List Int)} (h:Ip w a m) (hb:Below w.heap.size w w'):Ip w' a m:=by intro f hf;obtain⟨b,off,u,rfl,hlt,hc,hr⟩:=h f hf;exact⟨b,off,u,rfl,Nat.lt_of_lt_of_le hlt hb.size,(hb.cell (p:=⟨b,off+f,none⟩) hlt).trans hc,hr.below hb⟩
theorem Cn {lo:Nat} {w:World} {t ty:TypeId} (e:TypeId) (z:Value) (sz bytes:Nat) (ht:prog.underlying t=some (.slice e)) (hi:(prog.info? e).map (fun i=>(i.zero,i.size,i.bytes))=some (some z,sz,bytes))
 (hzs:z.cells.size=sz) (hsz:0<sz) {g:Nat} (hb:w.heap[g]? =some (.cells #[] e (0,0))) (hlo:lo≤g) {u:Value} {m:Nat} {news:List Value} (hr:Rd w u sz m news) (h1:∀u∈news,u.oneCell'=true)
 (hbytes:m*bytes≤140737488355328):∃v' w',(Builtin.append_ #[t,t] ty #[.slice (some ⟨g,0,none⟩) 0 0,u]).run prog w= .ok v' w'∧w'.ownsRow lo e sz v' m news∧Below w.heap.size w w'∧(∀k,v'.ownBlock=some k→k=g∨w.heap.size≤k):=by
 obtain⟨i0,hi0,hz0,hz1,hz2⟩:=info_parts hi;obtain⟨ao,c,rfl,hmc,hcm,hl,hnil,hc⟩:=hr;have hgl:g<w.heap.size:=(Array.getElem?_eq_some_iff.1 hb).1;have hown:∀l,l≤g→w.ownsRow l e sz (.slice (some ⟨g,0,none⟩) 0 0) 0 []:=fun l hl=>⟨by simp, .inr ⟨g,0,#[],rfl,hl,hb,Nat.le_refl _,by simp[maxLen],by simp,by simp⟩⟩
 rcases Nat.eq_zero_or_pos m with rfl|hm
 ·have hnews:news=[]:=List.eq_nil_of_length_eq_zero (by simpa using hl)
  subst hnews;cases ao with
  |none=>have hc0:=hnil rfl;subst hc0;exact⟨_,w,by simp[Builtin.append_,run_underlying ht,sizeOf,typeInfo,hi0,Builtin.lenOf,Builtin.firstCells,storeCells],hown lo hlo,Below.refl _ _,fun k hk=>by simp[Value.ownBlock] at hk;exact .inl hk.symm⟩
  |some a=>have hf:=run_firstCells_some (P:=prog) w i0.size 0 a 0 c [] (by simp) (by simp);exact⟨_,w,by simp[Builtin.append_,run_underlying ht,sizeOf,typeInfo,hi0,Builtin.lenOf,hf,storeCells],hown lo hlo,Below.refl _ _,fun k hk=>by simp[Value.ownBlock] at hk;exact .inl hk.symm⟩
 ·obtain⟨b,off,rfl,hcell⟩:=hc hm
  obtain⟨v',w',hrun,r1,r2⟩:=run_append_arg_grows (P:=prog) w t ty e i0 z sz bytes ht hi0 hz0 hz1 hz2 hzs hsz ⟨g,0,none⟩ 0 0 [] (by simp) (by simp) ⟨b,off,none⟩ m c news hl (by
   intro j u hu;have hj:j<news.length:=(List.getElem?_eq_some_iff.1 hu).1;have hadd:(⟨b,off,none⟩:Addr).add j=⟨b,off+j,none⟩:=by unfold Addr.add;split<;>simp_all
   rw[hadd,hcell j (by omega),hu]) (by omega) (by omega) (by rw[Nat.zero_add];exact hbytes)
  have hB:=Below.of_grown r2;have r1':w'.ownsRow w.heap.size e sz v' m news:=by simpa using r1
  exact⟨v',w',hrun,Bd r1' (by omega),hB,fun k hk=> .inr (r1'.lt k hk).1⟩
theorem Nv {w:World} {vs:List Value} {m:List (List Int)} (h:Ei (Ap w) vs m):∀u∈Bf Dz vs,u.oneCell'=true:=by
 intro u hu;obtain⟨x,hx,hs⟩:=List.mem_flatMap.1 hu;simp[Dz] at hs;subst hs;obtain⟨i,hi⟩:=List.getElem?_of_mem hx;obtain⟨r,hr⟩:∃r,m[i]? =some r:=⟨_,List.getElem?_eq_getElem (by rw[←h.1];exact(List.getElem?_eq_some_iff.1 hi).1)⟩
 obtain⟨a,c,rfl,_⟩:=(h.2 i _ r hi hr).open;rfl
theorem TQ {w:World} {ps:List (Value×Int)} {es:List DQ} (h:Ei (fun p e=>BG w p.1 e.rights∧p.2=e.root) ps es):∀u∈Bf DO ps,u.oneCell'=true:=by
 intro u hu;obtain⟨x,hx,hs⟩:=List.mem_flatMap.1 hu;obtain⟨i,hi⟩:=List.getElem?_of_mem hx;obtain⟨r,hr⟩:∃r,es[i]? =some r:=⟨_,List.getElem?_eq_getElem (by rw[←h.1];exact(List.getElem?_eq_some_iff.1 hi).1)⟩
 obtain⟨a,c,e,_⟩:=A6.shape (h.2 i _ r hi hr).1;simp[DO] at hs
 rcases hs with rfl|rfl
 ·rw[e];rfl
 ·rfl
theorem Tryz.infoInfoK:(prog.info? 91).map (fun i=>(i.zero,i.size,i.bytes))=some (some (.agg #[.int .i64 0, .string ⟨#[]⟩, .int .i64 0]),3,32):=by kernel_rfl
theorem Eb (v:Value) (xs:List AL) (w:World) (h:A6 3 AX w v xs) (hs:xs.length≤1048576):
 Calls prog 60 #[v] w fun e w'=>∃v',e= .returned v'∧AC w.heap.size 91 3 AX w' v' xs∧Below w.heap.size w w':=by
 have hone:∀u∈Bf AX xs,u.oneCell'=true:=by
  intro u hu;obtain⟨s,_,hs⟩:=List.mem_flatMap.1 hu;simp[AX] at hs
  rcases hs with rfl|rfl|rfl<;>rfl
 have h':=h;obtain⟨a,c,rfl,hnc,hcm,hl,hnil,hc⟩:=h';have hq:=fun w=>Lib.run_eql_slice_nil (P:=prog) w 23 91 a xs.length c 0 0 underlying23
 have Hone:=AA hone;clear hone;cases a with
 |none=>have hc0:=hnil rfl;subst hc0;have h0:xs=[]:=List.eq_nil_of_length_eq_zero (by omega);subst h0;simp only[List.length_nil] at hq;go_in;go_wp2;go_ret;exact⟨_,rfl,World.ownsRow_nil _ _ _ _,Below.refl _ _⟩
 |some ad=>clear hc hnil;have hl':(Bf AX xs).length=xs.length*3:=hl;have Hl:=AA hl';clear hl hl';go_in;go_wp2_with (refine DF (lo:=w.heap.size) (v:= .slice (some ⟨w.heap.size,0,none⟩) 0 0) (n:=0) (xs:=[]) (m:=xs.length) (news:=Bf AX xs) rfl rfl 91 (.agg #[.int .i64 0, .string ⟨#[]⟩, .int .i64 0]) 3 32 underlying23 Tryz.infoInfoK rfl (by decide) rfl (By _ _ _) rfl (Rd.alloc h _) Hone.out (by unfold maxLen;omega) (by omega) (by simp) ?_;intro v' w' hown _ hbel);go_ret;refine⟨_,rfl,by simpa[AC] using hown,((Below.refl _ _).alloc (Nat.le_refl _) _).trans hbel⟩
theorem Tryz.infoEnvK:(prog.info? 62).map (fun i=>(i.zero,i.size,i.bytes))=some (some (.agg #[.slice none 0 0, .int .i64 0]),2,32):=by kernel_rfl
theorem OS (v:Value) (xs:List (Value×Int)) (w:World) (h:A6 2 DO w v xs) (hs:xs.length≤1048576) (hone:∀u∈Bf DO xs,u.oneCell'=true):
 Calls prog 61 #[v] w fun e w'=>∃v',e= .returned v'∧AC w.heap.size 62 2 DO w' v' xs∧Below w.heap.size w w':=by
 have h':=h;obtain⟨a,c,rfl,hnc,hcm,hl,hnil,hc⟩:=h';have hq:=fun w=>Lib.run_eql_slice_nil (P:=prog) w 24 62 a xs.length c 0 0 underlying24
 have Hone:=AA hone;clear hone;cases a with
 |none=>have hc0:=hnil rfl;subst hc0;have h0:xs=[]:=List.eq_nil_of_length_eq_zero (by omega);subst h0;simp only[List.length_nil] at hq;go_in;go_wp2;go_ret;exact⟨_,rfl,World.ownsRow_nil _ _ _ _,Below.refl _ _⟩
 |some ad=>clear hc hnil;have hl':(Bf DO xs).length=xs.length*2:=hl;have Hl:=AA hl';clear hl hl';go_in;go_wp2_with (refine DF (lo:=w.heap.size) (v:= .slice (some ⟨w.heap.size,0,none⟩) 0 0) (n:=0) (xs:=[]) (m:=xs.length) (news:=Bf DO xs) rfl rfl 62 (.agg #[.slice none 0 0, .int .i64 0]) 2 32 underlying24 Tryz.infoEnvK rfl (by decide) rfl (By _ _ _) rfl (Rd.alloc h _) Hone.out (by unfold maxLen;omega) (by omega) (by simp) ?_;intro v' w' hown _ hbel);go_ret;refine⟨_,rfl,by simpa[AC] using hown,((Below.refl _ _).alloc (Nat.le_refl _) _).trans hbel⟩
theorem Tryz.infoCachedK:(prog.info? 95).map (fun i=>(i.zero,i.size,i.bytes))=some (some (.agg #[.int .i64 0, .int .i64 0, .int .i64 0, .bool false]),4,32):=by kernel_rfl
theorem GM (v:Value) (xs:List AU) (w:World) (h:A6 4 AJ w v xs) (hs:xs.length≤1048576):
 Calls prog 62 #[v] w fun e w'=>∃v',e= .returned v'∧AC w.heap.size 95 4 AJ w' v' xs∧Below w.heap.size w w':=by
 have hone:∀u∈Bf AJ xs,u.oneCell'=true:=by
  intro u hu;obtain⟨s,_,hs⟩:=List.mem_flatMap.1 hu;simp[AJ] at hs
  rcases hs with rfl|rfl|rfl|rfl<;>rfl
 have h':=h;obtain⟨a,c,rfl,hnc,hcm,hl,hnil,hc⟩:=h';have hq:=fun w=>Lib.run_eql_slice_nil (P:=prog) w 25 95 a xs.length c 0 0 underlying25
 have Hone:=AA hone;clear hone;cases a with
 |none=>have hc0:=hnil rfl;subst hc0;have h0:xs=[]:=List.eq_nil_of_length_eq_zero (by omega);subst h0;simp only[List.length_nil] at hq;go_in;go_wp2;go_ret;exact⟨_,rfl,World.ownsRow_nil _ _ _ _,Below.refl _ _⟩
 |some ad=>clear hc hnil;have hl':(Bf AJ xs).length=xs.length*4:=hl;have Hl:=AA hl';clear hl hl';go_in;go_wp2_with (refine DF (lo:=w.heap.size) (v:= .slice (some ⟨w.heap.size,0,none⟩) 0 0) (n:=0) (xs:=[]) (m:=xs.length) (news:=Bf AJ xs) rfl rfl 95 (.agg #[.int .i64 0, .int .i64 0, .int .i64 0, .bool false]) 4 32 underlying25 Tryz.infoCachedK rfl (by decide) rfl (By _ _ _) rfl (Rd.alloc h _) Hone.out (by unfold maxLen;omega) (by omega) (by simp) ?_;intro v' w' hown _ hbel);go_ret;refine⟨_,rfl,by simpa[AC] using hown,((Below.refl _ _).alloc (Nat.le_refl _) _).trans hbel⟩
def CQ (x:DR):List Value:=[.int .i64 x.w, .int .i64 x.a, .bool x.u]
theorem Gu (x:DR):(CQ x).length=3:=rfl
theorem Tryz.infoPageK:(prog.info? 73).map (fun i=>(i.zero,i.size,i.bytes))=some (some (.agg #[.int .i64 0, .int .i64 0, .bool false]),3,24):=by kernel_rfl
theorem M8 (v:Value) (xs:List DR) (w:World) (h:A6 3 CQ w v xs) (hs:xs.length≤1048576):
 Calls prog 43 #[v] w fun e w'=>∃v',e= .returned v'∧AC w.heap.size 73 3 CQ w' v' xs∧Below w.heap.size w w':=by
 have hone:∀u∈Bf CQ xs,u.oneCell'=true:=by
  intro u hu;obtain⟨s,_,hs⟩:=List.mem_flatMap.1 hu;simp[CQ] at hs
  rcases hs with rfl|rfl|rfl<;>rfl
 have h':=h;obtain⟨a,c,rfl,hnc,hcm,hl,hnil,hc⟩:=h';have hq:=fun w=>Lib.run_eql_slice_nil (P:=prog) w 29 73 a xs.length c 0 0 underlying29
 have Hone:=AA hone;clear hone;cases a with
 |none=>have hc0:=hnil rfl;subst hc0;have h0:xs=[]:=List.eq_nil_of_length_eq_zero (by omega);subst h0;simp only[List.length_nil] at hq;go_in;go_wp2;go_ret;exact⟨_,rfl,World.ownsRow_nil _ _ _ _,Below.refl _ _⟩
 |some ad=>clear hc hnil;have hl':(Bf CQ xs).length=xs.length*3:=hl;have Hl:=AA hl';clear hl hl';go_in;go_wp2_with (refine DF (lo:=w.heap.size) (v:= .slice (some ⟨w.heap.size,0,none⟩) 0 0) (n:=0) (xs:=[]) (m:=xs.length) (news:=Bf CQ xs) rfl rfl 73 (.agg #[.int .i64 0, .int .i64 0, .bool false]) 3 24 underlying29 Tryz.infoPageK rfl (by decide) rfl (By _ _ _) rfl (Rd.alloc h _) Hone.out (by unfold maxLen;omega) (by omega) (by simp) ?_;intro v' w' hown _ hbel);go_ret;refine⟨_,rfl,by simpa[AC] using hown,((Below.refl _ _).alloc (Nat.le_refl _) _).trans hbel⟩
theorem Tryz.infoStringK:(prog.info? 9).map (fun i=>(i.zero,i.size,i.bytes))=some (some (.string ⟨#[]⟩),1,16):=by kernel_rfl
theorem EV (v:Value) (xs:List ByteArray) (w:World) (h:A6 1 Ag w v xs) (hs:xs.length≤1048576):
 Calls prog 37 #[v] w fun e w'=>∃v',e= .returned v'∧AC w.heap.size 9 1 Ag w' v' xs∧Below w.heap.size w w':=by
 have hone:∀u∈Bf Ag xs,u.oneCell'=true:=by intro u hu;obtain⟨s,_,hs⟩:=List.mem_flatMap.1 hu;simp[Ag] at hs;subst hs;rfl
 have h':=h;obtain⟨a,c,rfl,hnc,hcm,hl,hnil,hc⟩:=h';have hq:=fun w=>Lib.run_eql_slice_nil (P:=prog) w 40 9 a xs.length c 0 0 underlying40
 have Hone:=AA hone;clear hone;cases a with
 |none=>have hc0:=hnil rfl;subst hc0;have h0:xs=[]:=List.eq_nil_of_length_eq_zero (by omega);subst h0;simp only[List.length_nil] at hq;go_in;go_wp2;go_ret;exact⟨_,rfl,World.ownsRow_nil _ _ _ _,Below.refl _ _⟩
 |some ad=>clear hc hnil;have hl':(Bf Ag xs).length=xs.length*1:=hl;have Hl:=AA hl';clear hl hl';go_in;go_wp2_with (refine DF (lo:=w.heap.size) (v:= .slice (some ⟨w.heap.size,0,none⟩) 0 0) (n:=0) (xs:=[]) (m:=xs.length) (news:=Bf Ag xs) rfl rfl 9 (.string ⟨#[]⟩) 1 16 underlying40 Tryz.infoStringK rfl (by decide) rfl (By _ _ _) rfl (Rd.alloc h _) Hone.out (by unfold maxLen;omega) (by omega) (by simp) ?_;intro v' w' hown _ hbel);go_ret;refine⟨_,rfl,by simpa[AC] using hown,((Below.refl _ _).alloc (Nat.le_refl _) _).trans hbel⟩
theorem Tryz.infoRowsK:(prog.info? 28).map (fun i=>(i.zero,i.size,i.bytes))=some (some (.slice none 0 0),1,24):=by kernel_rfl
theorem Jf (v:Value) (xs:List Value) (w:World) (h:A6 1 Dz w v xs) (hs:xs.length≤1048576) (hone:∀u∈Bf Dz xs,u.oneCell'=true):
 Calls prog 63 #[v] w fun e w'=>∃v',e= .returned v'∧AC w.heap.size 28 1 Dz w' v' xs∧Below w.heap.size w w':=by
 have h':=h;obtain⟨a,c,rfl,hnc,hcm,hl,hnil,hc⟩:=h';have hq:=fun w=>Lib.run_eql_slice_nil (P:=prog) w 22 28 a xs.length c 0 0 underlying22
 have Hone:=AA hone;clear hone;cases a with
 |none=>have hc0:=hnil rfl;subst hc0;have h0:xs=[]:=List.eq_nil_of_length_eq_zero (by omega);subst h0;simp only[List.length_nil] at hq;go_in;go_wp2;go_ret;exact⟨_,rfl,World.ownsRow_nil _ _ _ _,Below.refl _ _⟩
 |some ad=>clear hc hnil;have hl':(Bf Dz xs).length=xs.length*1:=hl;have Hl:=AA hl';clear hl hl';go_in;go_wp2_with (refine DF (lo:=w.heap.size) (v:= .slice (some ⟨w.heap.size,0,none⟩) 0 0) (n:=0) (xs:=[]) (m:=xs.length) (news:=Bf Dz xs) rfl rfl 28 (.slice none 0 0) 1 24 underlying22 Tryz.infoRowsK rfl (by decide) rfl (By _ _ _) rfl (Rd.alloc h _) Hone.out (by unfold maxLen;omega) (by omega) (by simp) ?_;intro v' w' hown _ hbel);go_ret;refine⟨_,rfl,by simpa[AC] using hown,((Below.refl _ _).alloc (Nat.le_refl _) _).trans hbel⟩
def ON (w:World) (a:Option Addr) (bs:List Int):Prop:=
 ∀k,k<bs.length→∃b off,a=some ⟨b,off,none⟩∧∀j,j<bs.length→w.cell? ⟨b,off+j,none⟩=some (.int .u8 (nth bs j))∧0≤nth bs j∧nth bs j<256
theorem KG.open {w:World} {v:Value} {xs:List Int} (h:KG w v xs):
 ∃a cap,v= .slice a xs.length cap∧xs.length≤cap∧cap≤maxLen∧ON w a xs:=by
 obtain⟨⟨a,cap,rfl,hnc,hcm,hl,_,hc⟩,hby⟩:=h;refine⟨a,cap,rfl,hnc,hcm,fun k hk=>?_⟩;obtain⟨b,off,rfl,hcell⟩:=hc (by omega);refine⟨b,off,rfl,fun j hj=>⟨?_,?_⟩⟩
 ·rw[hcell j (by omega),List.getElem?_map,Mh hj]
  rfl
 ·rw[PG hj]
  exact hby _ (List.getElem_mem hj)
theorem ON.at {w:World} {a:Option Addr} {xs:List Int} (h:ON w a xs) {k:Nat} (hk:k<xs.length):
 ∃b off,a=some ⟨b,off,none⟩∧w.cell? ⟨b,off+k,none⟩=some (.int .u8 (nth xs k))∧0≤nth xs k∧nth xs k<256:=by
 obtain⟨b,off,rfl,hc⟩:=h k hk;exact⟨b,off,rfl,hc k hk⟩
theorem KG.take {w:World} {a:Option Addr} {c:Nat} {bs:List Int} (h:KG w (.slice a bs.length c) bs) (k:Nat) (hk:k≤bs.length):KG w (.slice a k c) (bs.take k):=by
 obtain⟨⟨a',cap,hv,hnc,hcm,hl,hnil,hc⟩,hby⟩:=h;simp only[Value.slice.injEq,true_and] at hv;obtain⟨rfl,rfl⟩:=hv;have e:(bs.take k).length=k:=by rw[List.length_take];omega
 refine⟨⟨a,c,by rw[e],by omega,hcm,by simp,hnil,fun hn=>?_⟩,fun b hb=>hby b (List.mem_of_mem_take hb)⟩;rw[e] at hn ⊢;obtain⟨b,off,rfl,hcell⟩:=hc (by omega);refine⟨b,off,rfl,fun j hj=>?_⟩;rw[hcell j (by omega),List.map_take,List.getElem?_take,if_pos (by omega)]
theorem J7 {lo lo':Nat} {w:World} {v:Value} {xs:List Int} (h:AE lo w v xs) (hl:lo'≤lo):AE lo' w v xs:=by
 refine⟨h.1,?_⟩
 rcases h.2 with h'|⟨g,cap,cur,rfl,hb,rest⟩
 ·exact .inl h'
 ·exact .inr ⟨g,cap,cur,rfl,Nat.le_trans hl hb,rest⟩
def Ih (xs:List Int):Bool:=xs.length==4&&xs.all (Bv · 0 9999)
theorem J1 (n:Int) (w:World):
 Calls prog 123 #[.int .i64 n] w fun e w'=>e= .returned (.bool (Bv n 0 9999))∧w=w':=by
 go_in;go_wp2_with (go_at_call 14;refine(EU _ _ _ _).mono ?_;rintro e w' ⟨rfl,rfl⟩);go_ret;exact⟨rfl,rfl⟩
theorem Ow (n:Int) (w:World):
 Calls prog 216 #[.int .i64 n] w fun e w'=>e= .returned (.bool (!Bv n 0 9999))∧w=w':=by
 go_in;go_wp2_with (go_at_call 123;refine(J1 _ _).mono ?_;rintro e w' ⟨rfl,rfl⟩);go_ret;exact⟨rfl,rfl⟩
theorem Qj (xs:List Int):(!xs.any fun x=>!Bv x 0 9999)=xs.all (Bv · 0 9999):=by simp[List.all_eq_not_any_not]
theorem P9 (v:Value) (xs:List Int) (w:World) (h:Ap w v xs):
 Calls prog 198 #[v] w fun e w'=>e= .returned (.bool (Ih xs))∧w=w':=by
 obtain⟨a,c,rfl,hc,hcm,H0⟩:=h.open;unfold maxLen at hcm
 by_cases h4:xs.length=4
 ·have e1:Ih xs=xs.all (Bv · 0 9999):=by simp[Ih,h4]
  have hb:((xs.length:Int)==4)=true:=by simp[h4]
  have H:=AA e1;clear e1;clear h4;go_in;go_wp2_with (go_at_call 165;refine(Kp 216 #[] (fun x=>!Bv x 0 9999) _ xs _ h (fun _ _=>by kernel_rfl) (fun x w=>Ow x w)).mono ?_;rintro e w' ⟨rfl,rfl⟩);go_ret;exact⟨AP (by rw[H.out,Qj]),rfl⟩
 ·have e1:Ih xs=false:=by simp[Ih,h4]
  have hb:((xs.length:Int)==4)=false:=by simp;omega
  have H:=AA e1;clear e1;clear h4;go_in;go_wp2_with fail;go_ret;exact⟨AP H.out.symm,rfl⟩
structure Na where
 k:Int
 a:Int
 x:Int
 ck:Int
 ce:Int
 ca:Int
 cb:Int
 cc:Int
 nm:ByteArray
def Na.cells (s:Na):Array Value:= #[.int .i64 s.k, .int .i64 s.a, .int .i64 s.x, .int .i64 s.ck, .int .i64 s.ce, .int .i64 s.ca, .int .i64 s.cb, .int .i64 s.cc, .string s.nm]
def Na.val (s:Na):Value:= .agg s.cells
def Na.ok (s:Na):Bool:=if s.k=1 then Bv s.a 0 63 else if s.k=2 then Bv s.a 0 63&&Bv s.x 0 9999 else if s.k=3 then Bv s.ce 1 2 else false
theorem Jk (n:Int) (w:World):
 Calls prog 134 #[.int .i64 n] w fun e w'=>e= .returned (.bool (Bv n 0 63))∧w=w':=by
 go_in;go_wp2_with (go_at_call 14;refine(EU _ _ _ _).mono ?_;rintro e w' ⟨rfl,rfl⟩);go_ret;exact⟨rfl,rfl⟩
theorem Dx (n:Int) (w:World):
 Calls prog 107 #[.int .i64 n] w fun e w'=>e= .returned (.bool (Bv n 0 63))∧w=w':=by
 go_in;go_wp2_with (go_at_call 9;refine(DH _ _ _ _).mono ?_;rintro e w' ⟨rfl,rfl⟩);go_ret;exact⟨rfl,rfl⟩
theorem Bc (n:Int) (w:World):Calls prog 39 #[.int .i64 n] w fun e w'=>e= .returned (.bool (Bv n 0 11))∧w=w':=by go_in;go_wp2_with (go_at_call 14;refine(EU _ _ _ _).mono ?_;rintro e w' ⟨rfl,rfl⟩);go_ret;exact⟨rfl,rfl⟩
theorem LK (n:Int) (w:World):Calls prog 122 #[.int .i64 n] w fun e w'=>e= .returned (.bool (Bv n 0 3))∧w=w':=by go_in;go_wp2_with (go_at_call 14;refine(EU _ _ _ _).mono ?_;rintro e w' ⟨rfl,rfl⟩);go_ret;exact⟨rfl,rfl⟩
theorem RW (n:Int) (w:World):Calls prog 208 #[.int .i64 n] w fun e w'=>e= .returned (.bool (Bv n 0 15))∧w=w':=by go_in;go_wp2_with (go_at_call 14;refine(EU _ _ _ _).mono ?_;rintro e w' ⟨rfl,rfl⟩);go_ret;exact⟨rfl,rfl⟩
theorem OT (f:Int) (w:World) (h0:0≤f) (h1:f≤11):Calls prog 17 #[.int .i64 f, .bool true] w fun e w'=>e= .returned (.tuple #[.int .i64 (Og f), .bool true])∧w=w':=by have H:=AA (show Bv f 0 11=true from Ac.2 ⟨h0,h1⟩);go_in;go_wp2_with (go_at_call 39;refine(Bc _ _).mono ?_;rintro e w' ⟨rfl,rfl⟩;rw[H.out]);go_ret2;exact⟨rfl,rfl⟩
theorem Pt {x:Int} (h:BV x=true):0<x∧x<48∧x%2=1:=by simp only[BV,Bool.and_eq_true,decide_eq_true_eq] at h;omega
theorem Ps {x:Int} (h:BV x=true):((A1 x:Nat):Int)=x/4:=by have:=Pt h;unfold A1;omega
def Oh (x:Int):Value:= .tuple #[.int .i64 (if BV x then((A1 x:Nat):Int) else 0), .bool (BV x&&IS x), .bool (BV x)]
theorem Dd {x:Int} (h:BV x=true):Oh x= .tuple #[.int .i64 ((A1 x:Nat):Int), .bool (IS x), .bool true]:=by simp[Oh,h]
theorem Dh {x:Int} (h:BV x=false):Oh x= .tuple #[.int .i64 0, .bool false, .bool false]:=by simp[Oh,h]
theorem EI (x:Int) (w:World) (hx:x≤9223372036854775807):Calls prog 160 #[.int .i64 x] w fun e w'=>e= .returned (Oh x)∧w=w':=by
 by_cases h0:x<0
 ·have E:=AA (Dh (x:=x) (by simp[BV];omega))
  go_in;go_wp2_with fail;go_ret3;exact⟨LB E.out.symm,rfl⟩
 ·have h0':0≤x:=by omega
  by_cases h1:x%2=0
  ·have E:=AA (Dh (x:=x) (by simp[BV];omega))
   have t:(x%2==0)=true:=by simp[h1]
   clear h1;go_in;go_wp2_with fail;go_ret3;exact⟨LB E.out.symm,rfl⟩
  ·have t:(x%2==0)=false:=by simp;omega
   cases hb:Bv (x/4) 0 11
   ·have E:=AA (Dh (x:=x) (by have:=RO.1 hb;simp[BV];omega))
    have H:=AA hb;clear hb h1;go_in;go_wp2_with (go_at_call 39;refine(Bc _ _).mono ?_;rintro e w' ⟨rfl,rfl⟩;rw[H.out]);go_ret3;exact⟨LB E.out.symm,rfl⟩
   ·have hg:BV x=true:=by have:=Ac.1 hb;simp[BV];omega
    have W:IS x=(x%4==3):=by cases h:(x%4==3)<;>simp_all[IS]
    have E:=AA (show Oh x= .tuple #[.int .i64 (x/4), .bool (x%4==3), .bool true] by rw[Dd hg,Ps hg,W]);clear W;have H:=AA hb;clear hb h1 hg;go_in;go_wp2_with (go_at_call 39;refine(Bc _ _).mono ?_;rintro e w' ⟨rfl,rfl⟩;rw[H.out]);go_ret3;exact⟨LB E.out.symm,rfl⟩
theorem Lp (a:Nat) (w:World) (h:a<64):Calls prog 176 #[.int .i64 a] w fun e w'=>e= .returned (.tuple #[.int .i64 ((a/16:Nat):Int), .int .i64 ((a/4%4:Nat):Int), .int .i64 ((a%4:Nat):Int), .bool true])∧w=w':=by
 have H:=AA (show Bv (a:Int) 0 63=true from Ac.2 (by omega));have e1:(a:Int)/16=((a/16:Nat):Int):=by omega
 have e2:(a:Int)/4%4=((a/4%4:Nat):Int):=by omega
 have e3:(a:Int)%4=((a%4:Nat):Int):=by omega
 have E:=AA (And.intro e1 (And.intro e2 e3));clear e1 e2 e3;go_in;go_wp2_with (go_at_call 134;refine(Jk _ _).mono ?_;rintro e w' ⟨rfl,rfl⟩;rw[H.out]);refine bodyPost_ret (v:= .tuple #[.int .i64 ((a:Int)/16), .int .i64 ((a:Int)/4%4), .int .i64 ((a:Int)%4), .bool true]) (by simp[results,Tryz.results176,go_sem]) rfl ⟨?_,rfl⟩;rw[E.out.1,E.out.2.1,E.out.2.2]
theorem It (k:Int) (w:World):Calls prog 161 #[.int .i64 k] w fun e w'=>e= .returned (.int .i64 (QQ k))∧w=w':=by
 by_cases h3:k=3
 ·subst h3
  go_in;go_wp2_with fail;go_ret;exact⟨rfl,rfl⟩
 ·have t3:(k==3)=false:=by simp[h3]
  by_cases h2:k=2
  ·subst h2
   go_in;go_wp2_with fail;go_ret;exact⟨rfl,rfl⟩
  ·have t2:(k==2)=false:=by simp[h2]
   have E:=AA (show QQ k=0 by simp[QQ,Bg,h2,h3]);clear h2 h3;go_in;go_wp2_with fail;go_ret;exact⟨BQ E.out.symm,rfl⟩
theorem CV (k:Int) (w:World):Calls prog 81 #[.int .i64 k] w fun e w'=>e= .returned (.bool (Bg k))∧w=w':=by
 by_cases h2:k=2
 ·subst h2
  go_in;go_wp2_with fail;go_ret;exact⟨rfl,rfl⟩
 ·have t2:(k==2)=false:=by simp[h2]
  have E:=AA (show Bg k=(k==3) by cases h:(k==3)<;>simp_all[Bg]);clear h2;go_in;go_wp2_with fail;go_ret;exact⟨AP E.out.symm,rfl⟩
theorem LQ (k:Int) (w:World):Calls prog 125 #[.int .i64 k] w fun e w'=>e= .returned (.int .i64 (GZ k))∧w=w':=by
 by_cases h3:k=0
 ·subst h3
  go_in;go_wp2_with fail;go_ret;exact⟨rfl,rfl⟩
 ·have t3:(k==0)=false:=by simp[h3]
  by_cases h2:k=1
  ·subst h2
   go_in;go_wp2_with fail;go_ret;exact⟨rfl,rfl⟩
  ·have t2:(k==1)=false:=by simp[h2]
   have E:=AA (show GZ k=3 by simp[GZ,h2,h3]);clear h2 h3;go_in;go_wp2_with fail;go_ret;exact⟨BQ E.out.symm,rfl⟩
theorem LT {s:ByteArray} {k:Nat} (h:k<s.size) (hc:D5 s[k]=false):Az s=false:=by
 have:s.data.toList.all D5=false:=by rw[List.all_eq_false];exact⟨s[k],by simp[ByteArray.getElem_eq_getElem_data],by simp[hc]⟩
 simp[Az,this]
theorem PQ {s:ByteArray} (h:∀k (hk:k<s.size),D5 s[k]=true):Az s=decide ((s.size:Int)≤4):=by
 have:s.data.toList.all D5=true:=by rw[List.all_eq_true];intro x hx;obtain⟨k,hk,rfl⟩:=List.getElem_of_mem hx;have:=h k (by simpa using hk);simpa[ByteArray.getElem_eq_getElem_data] using this
 rw[Az,this,Bool.true_and]
 by_cases h4:s.size≤4
 ·have:(s.size:Int)≤4:=by omega
  simp[h4,this]
 ·have:¬(s.size:Int)≤4:=by omega
  simp[h4,this]
theorem DN (s:ByteArray) (w:World) (hs:s.size≤maxLen):
 Calls prog 54 #[.string s] w fun e w'=>e= .returned (.bool (Az s))∧w=w':=by
 unfold maxLen at hs;go_in;go_wp2_with fail;go_loop [3] (fun i=>∃k:Nat,k≤s.size∧i= .int .i64 k∧∀j (hj:j<s.size),j<k→D5 s[j]=true) (fun i=>s.size - (intOf i).toNat)
 case atStart=>exact⟨0,Nat.zero_le _,rfl,fun j _ hj=>absurd hj (Nat.not_lt_zero _)⟩
 case round=>
  obtain⟨k,hk,rfl,hpre⟩:=hrel;have Hpre:=AA hpre;clear hpre
  by_cases hlt:k<s.size
  ·by_cases h1:s[k].toNat<97
   ·have S:=AA (LT (s:=s) hlt (by simp[D5];omega))
    have t1:(s[k].toNat:Int)<97:=by omega
    go_wp2_with fail;go_ret;exact⟨AP S.out.symm,rfl⟩
   ·by_cases h2:99<s[k].toNat
    ·have S:=AA (LT (s:=s) hlt (by simp[D5];omega))
     have t1:(99:Int)<s[k].toNat:=by omega
     have t2:¬(s[k].toNat:Int)<97:=by omega
     go_wp2_with fail;go_ret;exact⟨AP S.out.symm,rfl⟩
    ·have Ok:=AA (show D5 s[k]=true by simp[D5];omega)
     have t1:¬(99:Int)<s[k].toNat:=by omega
     have t2:¬(s[k].toNat:Int)<97:=by omega
     go_wp2_with fail;go_round
     case rel=>exact⟨k+1,by omega,by go_num,fun j hj hjk=>by
      rcases Nat.lt_succ_iff_lt_or_eq.1 hjk with h|h
      ·exact Hpre.out j hj h
      ·subst h;exact Ok.out⟩
     case measure=>simp[intOf];omega
  ·have S:=AA (PQ (s:=s) (fun j hj=>Hpre.out j hj (by omega)))
   go_wp2_with fail;go_ret;exact⟨AP S.out.symm,rfl⟩
theorem Ig {P:Program} {f:FuncId} {args:Array Value} {w:World} {n:Nat} {v:Value} (h:Calls P f args (w.drewN n) fun e w'=>e= .returned v∧w.drewN n=w'):Calls P f args (w.drewN n) fun e w''=>e= .returned v∧∃m,w''=w.drewN m:=
 h.mono fun _ _ ⟨he,hm⟩=>⟨he,n,hm.symm⟩
theorem Lk {w wr:World} (h:∃n,wr=w.drewN n) (m:Nat):∃n,wr.drewN m=w.drewN n:=by obtain⟨n,rfl⟩:=h;exact⟨n+m,LH w n m⟩
theorem Ga {ss:List ByteArray} {k:Nat} (h:k<ss.length) (hc:Bo ss k=false):Ax ss=false:=by have:(List.range ss.length).all (Bo ss)=false:=List.all_eq_false.2 ⟨k,List.mem_range.2 h,by simp[hc]⟩;simp[Ax,this]
theorem Jp {ss:List ByteArray} (h:∀k,k<ss.length→Bo ss k=true):Ax ss=decide ((ss.length:Int)≤6):=by
 have:(List.range ss.length).all (Bo ss)=true:=List.all_eq_true.2 fun k hk=>h k (List.mem_range.1 hk)
 rw[Ax,this,Bool.true_and]
 by_cases h4:ss.length≤6
 ·have:(ss.length:Int)≤6:=by omega
  simp[h4,this]
 ·have:¬(ss.length:Int)≤6:=by omega
  simp[h4,this]
theorem Ql.str {w:World} {a:Option Addr} {ss:List ByteArray} (h:Ql 1 Ag w a ss) {k:Nat} (hk:k<ss.length):∃b off,a=some ⟨b,off,none⟩∧w.cell? ⟨b,off+k,none⟩=some (.string (Bi ss k)):=by obtain⟨b,off,rfl,_,hc⟩:=h k _ (FV hk);exact⟨b,off,rfl,by simpa using hc 0 _ rfl⟩
def Dr (ss:List ByteArray):Prop:=∀s∈ss,s.size≤maxLen
theorem Dr.nth {ss:List ByteArray} (h:Dr ss) {k:Nat} (hk:k<ss.length):(Bi ss k).size≤maxLen:=h _ (List.mem_of_getElem? (FV hk))
theorem Fm (v:Value) (ss:List ByteArray) (w:World) (h:BG w v ss) (hs:Dr ss):
 Calls prog 32 #[v] w fun e w'=>e= .returned (.bool (Ax ss))∧∃n,w'=w.drewN n:=by
 obtain⟨a,c,rfl,hc,hcm,H0⟩:=A6.open DE (by decide) h;unfold maxLen at hcm;have Hs:=AA hs;clear hs h;go_in;go_wp2_with fail;go_loopw [3] (fun i wr=>∃k:Nat,k≤ss.length∧i= .int .i64 k∧(∀j,j<k→Bo ss j=true)∧∃n,wr=w.drewN n) (fun i _=>ss.length - (intOf i).toNat)
 case atStart=>exact⟨0,Nat.zero_le _,rfl,fun j hj=>absurd hj (Nat.not_lt_zero _),0,rfl⟩
 case round=>
  obtain⟨k,hk,rfl,hpre,hw⟩:=hrel;have Hpre:=AA hpre;clear hpre;have Hw:=AA hw;clear hw
  by_cases hlt:k<ss.length
  ·obtain⟨b,off,rfl,D0⟩:=H0.str hlt
   have D:wr.cell? ⟨b,off+k,none⟩=some (.string (Bi ss k)):=by obtain⟨n,rfl⟩:=Hw.out;exact D0
   have hk1:(k:Int)<ss.length:=by omega
   have hsz:=Hs.out.nth hlt;cases hok:Az (Bi ss k)
   ·have S:=AA (Ga hlt (by simp[Bo,hok]))
    have HQ:=AA (show ∀W,Calls prog 54 #[.string (Bi ss k)] W fun e w'=>e= .returned (.bool false)∧W=w' from fun W=>by have:=DN (Bi ss k) W hsz;rwa [hok] at this);clear hok D0;go_wp2_with fail;go_quiet ((go_at_call 54;exact Ig (HQ.out _)));go_wp2_with fail;go_ret;exact⟨AP S.out.symm,Lk Hw.out _⟩
   ·have HQ:=AA (show ∀W,Calls prog 54 #[.string (Bi ss k)] W fun e w'=>e= .returned (.bool true)∧W=w' from fun W=>by have:=DN (Bi ss k) W hsz;rwa [hok] at this)
    by_cases hk0:k=0
    ·have Ok:=AA (show Bo ss k=true by simp[Bo,hok];exact .inl hk0)
     have t0:decide (0<k)=false:=by simp;omega
     clear hok hk0 D0;go_wp2_with fail;go_quiet ((go_at_call 54;exact Ig (HQ.out _)));go_wp2_with fail;go_roundw
     case rel=>exact⟨k+1,by omega,by go_num,BK Hpre.out Ok.out,Lk Hw.out _⟩
     case measure=>simp[intOf];omega
    ·obtain⟨b',off',hbb,E0⟩:=H0.str (show k - 1<ss.length by omega)
     obtain⟨rfl,rfl⟩:b=b'∧off=off':=by simpa using hbb
     have E:wr.cell? ⟨b,off+(k - 1),none⟩=some (.string (Bi ss (k - 1))):=by obtain⟨n,rfl⟩:=Hw.out;exact E0
     have t0:decide (0<k)=true:=by simp;omega
     have t0':(0:Int)<k:=by omega
     have s0:IntKind.i64.wrap ((k:Int) - 1)=(k:Int) - 1:=IntWalk.i64_in _ (by omega);have s1:((k:Int) - 1).toNat=k - 1:=by omega
     have s2:(k:Int) - 1<ss.length:=by omega
     have s3:(1:Int)≤k:=by omega
     have s4:(0:Int)≤(k:Int) - 1:=by omega
     clear D0 E0 hbb;cases hge:J9 (Bi ss (k - 1)) (Bi ss k)
     ·have Ok:=AA (show Bo ss k=true by simp[Bo,hok,hge])
      have hL:Op.bytesLess (Bi ss (k - 1)).toList (Bi ss k).toList=true:=by simpa[J9] using hge
      clear hok hge;go_wp2_with fail;go_quiet ((go_at_call 54;exact Ig (HQ.out _)));go_wp2_with fail;go_roundw
      case rel=>exact⟨k+1,by omega,by go_num,BK Hpre.out Ok.out,Lk Hw.out _⟩
      case measure=>simp[intOf];omega
     ·have S:=AA (Ga hlt (by simp[Bo,hok,hge,hk0]))
      have hL:Op.bytesLess (Bi ss (k - 1)).toList (Bi ss k).toList=false:=by simpa[J9] using hge
      clear hok hge;go_wp2_with fail;go_quiet ((go_at_call 54;exact Ig (HQ.out _)));go_wp2_with fail;go_ret;exact⟨AP S.out.symm,Lk Hw.out _⟩
  ·have S:=AA (Jp (ss:=ss) (fun j hj=>Hpre.out j (by omega)))
   go_wp2_with fail;go_ret;exact⟨AP S.out.symm,Hw.out⟩
def EJ {α:Type} (p:α→Bool) (xs:List α):Int:=if xs.any p then(xs.findIdx p:Int) else -1
section
variable {α:Type} {p:α→Bool} {xs:List α}
theorem FK (h:∀(j:Nat) x,xs[j]? =some x→p x=false):EJ p xs= -1:=by
 unfold EJ;have:xs.any p=false:=by rw[List.any_eq_false];intro x hx;obtain⟨j,hj⟩:=List.getElem?_of_mem hx;simp[h j x hj]
 simp[this]
theorem Gb {k:Nat} {x:α} (hk:xs[k]? =some x) (h:∀(j:Nat) y,j<k→xs[j]? =some y→p y=false) (hp:p x=true):EJ p xs=k:=by
 unfold EJ;obtain⟨hlt,rfl⟩:=List.getElem?_eq_some_iff.1 hk;have h1:xs.any p=true:=List.any_eq_true.2 ⟨xs[k],List.getElem_mem hlt,hp⟩;have h2:xs.findIdx p=k:=by
  rw[List.findIdx_eq hlt];exact⟨hp,fun j hj=>h j _ hj (List.getElem?_eq_getElem (by omega))⟩
 simp[h1,h2]
theorem Gc:decide (0≤EJ p xs)=xs.any p:=by unfold EJ;cases xs.any p<;>simp
theorem FJ {k:Nat} {x:α} (h:∀(j:Nat) y,j<k→xs[j]? =some y→p y=false) (hk:xs[k]? =some x) (hp:p x=false):∀(j:Nat) y,j<k+1→xs[j]? =some y→p y=false:=by
 intro j y hj hy
 rcases Nat.lt_succ_iff_lt_or_eq.1 hj with h'|h'
 ·exact h j y h' hy
 ·subst h'
  rw[hk] at hy;cases hy;exact hp
end
theorem G3 (F:Nat) (caps:Array Value) (p:AL→Bool) (v:Value) (xs:List AL) (w:World) (h:BH w v xs)
 (hF:∀args w,(callFunc F args).run prog w= .ok (.enter F args) w) (hf:∀x,x∈xs→∀W,Below w.heap.size w W→Calls prog F (#[x.val]++caps) W fun e W'=>e= .returned (.bool (p x))∧Below W.heap.size W W'):
 Calls prog 192 #[v, .func (.func F) #[] caps] w fun e w'=>e= .returned (.int .i64 (EJ p xs))∧Below w.heap.size w w':=by
 obtain⟨a,c,rfl,hc,hcm,H0⟩:=A6.open Ak (by decide) h;clear h;unfold maxLen at hcm;have Hf:=AA hf;clear hf;go_in;go_wp2;go_loopw [8] (fun i wr=>∃k:Nat,k≤xs.length∧i= .int .i64 k∧(∀(j:Nat) x,j<k→xs[j]? =some x→p x=false)∧Below w.heap.size w wr) (fun i _=>xs.length - (intOf i).toNat)
 case atStart=>exact⟨0,Nat.zero_le _,rfl,fun j x hj=>absurd hj (Nat.not_lt_zero _),Below.refl _ _⟩
 case round=>
  obtain⟨k,hk,rfl,hpre,hbel⟩:=hrel;have Hpre:=AA hpre;clear hpre
  by_cases hlt:k<xs.length
  ·have hx:xs[k]? =some (infoAt xs k):=by simp[infoAt,hlt]
   obtain⟨b,off,rfl,hbl,D0',D1',D2'⟩:=H0.infoCells hlt;have D0:=(hbel.cell (p:=⟨b,off+k*3,none⟩) hbl).trans D0';have D1:=(hbel.cell (p:=⟨b,off+k*3+1,none⟩) hbl).trans D1';have D2:=(hbel.cell (p:=⟨b,off+k*3+2,none⟩) hbl).trans D2';clear D0' D1' D2';have Hx:=AA hx;have Hc:=AA (Hf.out _ (List.mem_of_getElem? hx) wr hbel);clear hx;cases hp:p (infoAt xs k)
   ·have Hp:=AA hp;clear hp
    go_wp2_with (refine(Hc.out).mono ?_;rintro e w' ⟨rfl,hb2⟩;rw[Hp.out]);go_roundw
    case rel=>exact⟨k+1,by omega,by go_num,FJ Hpre.out Hx.out Hp.out,hbel.trans (hb2.mono hbel.size)⟩
    case measure=>simp[intOf];omega
   ·have Hp:=AA hp;clear hp
    have hres:=AA (Gb Hx.out Hpre.out Hp.out);go_wp2_with (refine(Hc.out).mono ?_;rintro e w' ⟨rfl,hb2⟩;rw[Hp.out]);go_ret;exact⟨BQ hres.out.symm,hbel.trans (hb2.mono hbel.size)⟩
  ·have hres:=AA (FK (p:=p) (xs:=xs) (fun j x hx=>Hpre.out j x (by have:=(List.getElem?_eq_some_iff.1 hx).1;omega) hx))
   go_wp2;go_ret;exact⟨BQ hres.out.symm,hbel⟩
theorem Iq (F:Nat) (caps:Array Value) (p:AL→Bool) (v:Value) (xs:List AL) (w:World) (h:BH w v xs)
 (hF:∀args w,(callFunc F args).run prog w= .ok (.enter F args) w) (hf:∀x,x∈xs→∀W,Below w.heap.size w W→Calls prog F (#[x.val]++caps) W fun e W'=>e= .returned (.bool (p x))∧Below W.heap.size W W'):
 Calls prog 189 #[v, .func (.func F) #[] caps] w fun e w'=>e= .returned (.bool (xs.any p))∧Below w.heap.size w w':=by
 have E:=AA (Gc (p:=p) (xs:=xs));have C:=AA (G3 F caps p v xs w h hF hf);clear h hf;go_in;go_wp2_with (refine(C.out).mono ?_;rintro e w' ⟨rfl,hb2⟩);go_ret;exact⟨AP E.out,hb2⟩
theorem GP (F:Nat) (caps:Array Value) (p:AU→Bool) (v:Value) (xs:List AU) (w:World) (h:Bh w v xs)
 (hF:∀args w,(callFunc F args).run prog w= .ok (.enter F args) w) (hf:∀x,x∈xs→∀W,Below w.heap.size w W→Calls prog F (#[x.val]++caps) W fun e W'=>e= .returned (.bool (p x))∧Below W.heap.size W W'):
 Calls prog 177 #[v, .func (.func F) #[] caps] w fun e w'=>e= .returned (.int .i64 (EJ p xs))∧Below w.heap.size w w':=by
 obtain⟨a,c,rfl,hc,hcm,H0⟩:=A6.open BP (by decide) h;clear h;unfold maxLen at hcm;have Hf:=AA hf;clear hf;go_in;go_wp2;go_loopw [8] (fun i wr=>∃k:Nat,k≤xs.length∧i= .int .i64 k∧(∀(j:Nat) x,j<k→xs[j]? =some x→p x=false)∧Below w.heap.size w wr) (fun i _=>xs.length - (intOf i).toNat)
 case atStart=>exact⟨0,Nat.zero_le _,rfl,fun j x hj=>absurd hj (Nat.not_lt_zero _),Below.refl _ _⟩
 case round=>
  obtain⟨k,hk,rfl,hpre,hbel⟩:=hrel;have Hpre:=AA hpre;clear hpre
  by_cases hlt:k<xs.length
  ·have hx:xs[k]? =some (Ae xs k):=by simp[Ae,hlt]
   obtain⟨b,off,rfl,hbl,D0',D1',D2',D3'⟩:=H0.cachedCells hlt;have D0:=(hbel.cell (p:=⟨b,off+k*4,none⟩) hbl).trans D0';have D1:=(hbel.cell (p:=⟨b,off+k*4+1,none⟩) hbl).trans D1';have D2:=(hbel.cell (p:=⟨b,off+k*4+2,none⟩) hbl).trans D2';have D3:=(hbel.cell (p:=⟨b,off+k*4+3,none⟩) hbl).trans D3';clear D0' D1' D2' D3';have Hx:=AA hx;have Hc:=AA (Hf.out _ (List.mem_of_getElem? hx) wr hbel);clear hx;cases hp:p (Ae xs k)
   ·have Hp:=AA hp;clear hp
    go_wp2_with (refine(Hc.out).mono ?_;rintro e w' ⟨rfl,hb2⟩;rw[Hp.out]);go_roundw
    case rel=>exact⟨k+1,by omega,by go_num,FJ Hpre.out Hx.out Hp.out,hbel.trans (hb2.mono hbel.size)⟩
    case measure=>simp[intOf];omega
   ·have Hp:=AA hp;clear hp
    have hres:=AA (Gb Hx.out Hpre.out Hp.out);go_wp2_with (refine(Hc.out).mono ?_;rintro e w' ⟨rfl,hb2⟩;rw[Hp.out]);go_ret;exact⟨BQ hres.out.symm,hbel.trans (hb2.mono hbel.size)⟩
  ·have hres:=AA (FK (p:=p) (xs:=xs) (fun j x hx=>Hpre.out j x (by have:=(List.getElem?_eq_some_iff.1 hx).1;omega) hx))
   go_wp2;go_ret;exact⟨BQ hres.out.symm,hbel⟩
theorem GQ (F:Nat) (caps:Array Value) (p:ByteArray→Bool) (v:Value) (xs:List ByteArray) (w:World) (h:BG w v xs)
 (hF:∀args w,(callFunc F args).run prog w= .ok (.enter F args) w) (hf:∀x,x∈xs→∀W,Below w.heap.size w W→Calls prog F (#[Value.string x]++caps) W fun e W'=>e= .returned (.bool (p x))∧Below W.heap.size W W'):
 Calls prog 194 #[v, .func (.func F) #[] caps] w fun e w'=>e= .returned (.int .i64 (EJ p xs))∧Below w.heap.size w w':=by
 obtain⟨a,c,rfl,hc,hcm,H0⟩:=A6.open DE (by decide) h;clear h;unfold maxLen at hcm;have Hf:=AA hf;clear hf;go_in;go_wp2;go_loopw [8] (fun i wr=>∃k:Nat,k≤xs.length∧i= .int .i64 k∧(∀(j:Nat) x,j<k→xs[j]? =some x→p x=false)∧Below w.heap.size w wr) (fun i _=>xs.length - (intOf i).toNat)
 case atStart=>exact⟨0,Nat.zero_le _,rfl,fun j x hj=>absurd hj (Nat.not_lt_zero _),Below.refl _ _⟩
 case round=>
  obtain⟨k,hk,rfl,hpre,hbel⟩:=hrel;have Hpre:=AA hpre;clear hpre
  by_cases hlt:k<xs.length
  ·have hx:xs[k]? =some (Bi xs k):=by simp[Bi,hlt]
   obtain⟨b,off,rfl,D0'⟩:=H0.str hlt;have hbl:=World.block_lt_of_cell? w _ D0';have D0:wr.cell? ⟨b,off+k,none⟩=some (.string (Bi xs k)):=(hbel.cell (p:=⟨b,off+k,none⟩) hbl).trans D0';clear D0';have Hx:=AA hx;have Hc:=AA (Hf.out _ (List.mem_of_getElem? hx) wr hbel);clear hx;cases hp:p (Bi xs k)
   ·have Hp:=AA hp;clear hp
    go_wp2_with (refine(Hc.out).mono ?_;rintro e w' ⟨rfl,hb2⟩;rw[Hp.out]);go_roundw
    case rel=>exact⟨k+1,by omega,by go_num,FJ Hpre.out Hx.out Hp.out,hbel.trans (hb2.mono hbel.size)⟩
    case measure=>simp[intOf];omega
   ·have Hp:=AA hp;clear hp
    have hres:=AA (Gb Hx.out Hpre.out Hp.out);go_wp2_with (refine(Hc.out).mono ?_;rintro e w' ⟨rfl,hb2⟩;rw[Hp.out]);go_ret;exact⟨BQ hres.out.symm,hbel.trans (hb2.mono hbel.size)⟩
  ·have hres:=AA (FK (p:=p) (xs:=xs) (fun j x hx=>Hpre.out j x (by have:=(List.getElem?_eq_some_iff.1 hx).1;omega) hx))
   go_wp2;go_ret;exact⟨BQ hres.out.symm,hbel⟩
theorem IL (F:Nat) (caps:Array Value) (p:ByteArray→Bool) (v:Value) (xs:List ByteArray) (w:World) (h:BG w v xs)
 (hF:∀args w,(callFunc F args).run prog w= .ok (.enter F args) w) (hf:∀x,x∈xs→∀W,Below w.heap.size w W→Calls prog F (#[Value.string x]++caps) W fun e W'=>e= .returned (.bool (p x))∧Below W.heap.size W W'):
 Calls prog 154 #[v, .func (.func F) #[] caps] w fun e w'=>e= .returned (.bool (xs.any p))∧Below w.heap.size w w':=by
 have E:=AA (Gc (p:=p) (xs:=xs));have C:=AA (GQ F caps p v xs w h hF hf);clear h hf;go_in;go_wp2_with (refine(C.out).mono ?_;rintro e w' ⟨rfl,hb2⟩);go_ret;exact⟨AP E.out,hb2⟩
theorem KD (F:Nat) (caps:Array Value) (p:List Int→Bool) (v:Value) (m:List (List Int)) (w:World) (h:BI w v m)
 (hF:∀args w,(callFunc F args).run prog w= .ok (.enter F args) w) (hf:∀u r,r∈m→∀W,Below w.heap.size w W→Ap W u r→Calls prog F (#[u]++caps) W fun e W'=>e= .returned (.bool (p r))∧Below W.heap.size W W'):
 Calls prog 215 #[v, .func (.func F) #[] caps] w fun e w'=>e= .returned (.int .i64 (EJ p m))∧Below w.heap.size w w':=by
 obtain⟨vs,h1,h2⟩:=h;obtain⟨a,c,rfl,hc,hcm,H0⟩:=A6.open D8 (by decide) h1;clear h1;unfold maxLen at hcm;have Hf:=AA hf;clear hf;have H2:=AA h2;clear h2;go_in;go_wp2;go_loopw [8] (fun i wr=>∃k:Nat,k≤vs.length∧i= .int .i64 k∧(∀(j:Nat) x,j<k→m[j]? =some x→p x=false)∧Below w.heap.size w wr) (fun i _=>vs.length - (intOf i).toNat)
 case atStart=>exact⟨0,Nat.zero_le _,rfl,fun j x hj=>absurd hj (Nat.not_lt_zero _),Below.refl _ _⟩
 case round=>
  obtain⟨k,hk,rfl,hpre,hbel⟩:=hrel;have Hpre:=AA hpre;clear hpre
  by_cases hlt:k<vs.length
  ·obtain⟨u,hu⟩:∃u,vs[k]? =some u:=⟨_,List.getElem?_eq_getElem hlt⟩
   obtain⟨r,hx⟩:∃r,m[k]? =some r:=⟨_,List.getElem?_eq_getElem (by rw[←H2.out.1];exact hlt)⟩
   obtain⟨b,off,rfl,hbl,hcell⟩:=H0 k u hu;have D0:wr.cell? ⟨b,off+k,none⟩=some u:=(hbel.cell (p:=⟨b,off+k,none⟩) hbl).trans (by simpa using hcell 0 u rfl);have hr:=H2.out.2 k u r hu hx;have Hx:=AA hx;have Hc:=AA (Hf.out u r (List.mem_of_getElem? hx) wr hbel (Ap.below hr hbel));clear hx hu hcell hr;cases hp:p r
   ·have Hp:=AA hp;clear hp
    go_wp2_with (refine(Hc.out).mono ?_;rintro e w' ⟨rfl,hb2⟩;rw[Hp.out]);go_roundw
    case rel=>exact⟨k+1,by omega,by go_num,FJ Hpre.out Hx.out Hp.out,hbel.trans (hb2.mono hbel.size)⟩
    case measure=>simp[intOf];omega
   ·have Hp:=AA hp;clear hp
    have hres:=AA (Gb Hx.out Hpre.out Hp.out);go_wp2_with (refine(Hc.out).mono ?_;rintro e w' ⟨rfl,hb2⟩;rw[Hp.out]);go_ret;exact⟨BQ hres.out.symm,hbel.trans (hb2.mono hbel.size)⟩
  ·have hres:=AA (FK (p:=p) (xs:=m) (fun j x hx=>Hpre.out j x (by have:=(List.getElem?_eq_some_iff.1 hx).1;rw[←H2.out.1] at this;omega) hx))
   go_wp2;go_ret;exact⟨BQ hres.out.symm,hbel⟩
theorem Ir (F:Nat) (caps:Array Value) (p:List Int→Bool) (v:Value) (m:List (List Int)) (w:World) (h:BI w v m)
 (hF:∀args w,(callFunc F args).run prog w= .ok (.enter F args) w) (hf:∀u r,r∈m→∀W,Below w.heap.size w W→Ap W u r→Calls prog F (#[u]++caps) W fun e W'=>e= .returned (.bool (p r))∧Below W.heap.size W W'):
 Calls prog 196 #[v, .func (.func F) #[] caps] w fun e w'=>e= .returned (.bool (m.any p))∧Below w.heap.size w w':=by
 have E:=AA (Gc (p:=p) (xs:=m));have C:=AA (KD F caps p v m w h hF hf);clear h hf;go_in;go_wp2_with (refine(C.out).mono ?_;rintro e w' ⟨rfl,hb2⟩);go_ret;exact⟨AP E.out,hb2⟩
theorem Jt (F:Nat) (caps:Array Value) (p:List ByteArray→Bool) (v:Value) (m:List (List ByteArray)) (w:World) (h:G4 w v m)
 (hF:∀args w,(callFunc F args).run prog w= .ok (.enter F args) w) (hf:∀u r,r∈m→∀W,Below w.heap.size w W→BG W u r→Calls prog F (#[u]++caps) W fun e W'=>e= .returned (.bool (p r))∧Below W.heap.size W W'):
 Calls prog 57 #[v, .func (.func F) #[] caps] w fun e w'=>e= .returned (.int .i64 (EJ p m))∧Below w.heap.size w w':=by
 obtain⟨vs,h1,h2⟩:=h;obtain⟨a,c,rfl,hc,hcm,H0⟩:=A6.open D8 (by decide) h1;clear h1;unfold maxLen at hcm;have Hf:=AA hf;clear hf;have H2:=AA h2;clear h2;go_in;go_wp2;go_loopw [8] (fun i wr=>∃k:Nat,k≤vs.length∧i= .int .i64 k∧(∀(j:Nat) x,j<k→m[j]? =some x→p x=false)∧Below w.heap.size w wr) (fun i _=>vs.length - (intOf i).toNat)
 case atStart=>exact⟨0,Nat.zero_le _,rfl,fun j x hj=>absurd hj (Nat.not_lt_zero _),Below.refl _ _⟩
 case round=>
  obtain⟨k,hk,rfl,hpre,hbel⟩:=hrel;have Hpre:=AA hpre;clear hpre
  by_cases hlt:k<vs.length
  ·obtain⟨u,hu⟩:∃u,vs[k]? =some u:=⟨_,List.getElem?_eq_getElem hlt⟩
   obtain⟨r,hx⟩:∃r,m[k]? =some r:=⟨_,List.getElem?_eq_getElem (by rw[←H2.out.1];exact hlt)⟩
   obtain⟨b,off,rfl,hbl,hcell⟩:=H0 k u hu;have D0:wr.cell? ⟨b,off+k,none⟩=some u:=(hbel.cell (p:=⟨b,off+k,none⟩) hbl).trans (by simpa using hcell 0 u rfl);have hr:=H2.out.2 k u r hu hx;have Hx:=AA hx;have Hc:=AA (Hf.out u r (List.mem_of_getElem? hx) wr hbel (A6.below hr hbel));clear hx hu hcell hr;cases hp:p r
   ·have Hp:=AA hp;clear hp
    go_wp2_with (refine(Hc.out).mono ?_;rintro e w' ⟨rfl,hb2⟩;rw[Hp.out]);go_roundw
    case rel=>exact⟨k+1,by omega,by go_num,FJ Hpre.out Hx.out Hp.out,hbel.trans (hb2.mono hbel.size)⟩
    case measure=>simp[intOf];omega
   ·have Hp:=AA hp;clear hp
    have hres:=AA (Gb Hx.out Hpre.out Hp.out);go_wp2_with (refine(Hc.out).mono ?_;rintro e w' ⟨rfl,hb2⟩;rw[Hp.out]);go_ret;exact⟨BQ hres.out.symm,hbel.trans (hb2.mono hbel.size)⟩
  ·have hres:=AA (FK (p:=p) (xs:=m) (fun j x hx=>Hpre.out j x (by have:=(List.getElem?_eq_some_iff.1 hx).1;rw[←H2.out.1] at this;omega) hx))
   go_wp2;go_ret;exact⟨BQ hres.out.symm,hbel⟩
theorem Il (F:Nat) (caps:Array Value) (p:List ByteArray→Bool) (v:Value) (m:List (List ByteArray)) (w:World) (h:G4 w v m)
 (hF:∀args w,(callFunc F args).run prog w= .ok (.enter F args) w) (hf:∀u r,r∈m→∀W,Below w.heap.size w W→BG W u r→Calls prog F (#[u]++caps) W fun e W'=>e= .returned (.bool (p r))∧Below W.heap.size W W'):
 Calls prog 34 #[v, .func (.func F) #[] caps] w fun e w'=>e= .returned (.bool (m.any p))∧Below w.heap.size w w':=by
 have E:=AA (Gc (p:=p) (xs:=m));have C:=AA (Jt F caps p v m w h hF hf);clear h hf;go_in;go_wp2_with (refine(C.out).mono ?_;rintro e w' ⟨rfl,hb2⟩);go_ret;exact⟨AP E.out,hb2⟩
section
variable {α:Type} {lo e sz:Nat} {cs:α→List Value} {w:World} {g cap k:Nat} {xs:List α}
theorem AC.shapeOwn {v:Value} (h:AC lo e sz cs w v xs) (hn:0<xs.length):∃g cap,v= .slice (some ⟨g,0,none⟩) xs.length cap∧xs.length≤cap∧cap≤maxLen∧lo≤g∧g<w.heap.size∧∀j,w.frozen? ⟨g,j,none⟩=false:=by
 obtain⟨g,cap,rfl,h1,h2⟩:=JW h hn;obtain⟨a,c,hv,h3,h4⟩:=h.rd.shape;cases hv;exact⟨g,cap,rfl,h3,h4,h1,h2,fun j=>World.ownsRow.frozenAt h j⟩
theorem AC.stored (hs:∀x,(cs x).length=sz) (h:AC lo e sz cs w (.slice (some ⟨g,0,none⟩) xs.length cap) xs) (hk:k<xs.length) (y:α):
 AC lo e sz cs (Eg w g (k*sz) 0 (cs y)) (.slice (some ⟨g,0,none⟩) xs.length cap) (xs.set k y)∧w.grownBy (Eg w g (k*sz) 0 (cs y)) (some g):=by
 obtain⟨h1,h2⟩:=Db h (k*sz) 0 (cs y);rw[Pv hs hk] at h1;refine⟨?_,h2⟩;unfold AC;rw[List.length_set];exact h1
theorem AC.cellsAt (hs:∀x,(cs x).length=sz) (h:AC lo e sz cs w (.slice (some ⟨g,0,none⟩) xs.length cap) xs) {x:α} (hk:xs[k]? =some x):∀(j:Nat) u,(cs x)[j]? =some u→w.cell? ⟨g,k*sz+j,none⟩=some u:=by
 intro j u hj;have hlt:=(List.getElem?_eq_some_iff.1 hk).1;have hj':j<sz:=by rw[←hs x];exact(List.getElem?_eq_some_iff.1 hj).1
 have hm:k*sz+sz≤xs.length*sz:=by rw[←Nat.succ_mul];exact Nat.mul_le_mul_right _ hlt
 rw[World.ownsRow.cellAt h (k*sz+j) (by omega),Ll hs hk hj',hj]
end
theorem AC.infoCells {lo e g cap k:Nat} {w:World} {xs:List AL} (h:AC lo e 3 AX w (.slice (some ⟨g,0,none⟩) xs.length cap) xs) (hk:k<xs.length):
 w.cell? ⟨g,k*3,none⟩=some (.int .i64 (infoAt xs k).k)∧w.cell? ⟨g,k*3+1,none⟩=some (.string (infoAt xs k).g)∧w.cell? ⟨g,k*3+2,none⟩=some (.int .i64 (infoAt xs k).r):=by
 have hc:=AC.cellsAt Ak h (k:=k) (x:=infoAt xs k) (by simp[infoAt,hk]);exact⟨hc 0 _ rfl,hc 1 _ rfl,hc 2 _ rfl⟩
theorem AC.cachedCells {lo e g cap k:Nat} {w:World} {xs:List AU} (h:AC lo e 4 AJ w (.slice (some ⟨g,0,none⟩) xs.length cap) xs) (hk:k<xs.length):
 w.cell? ⟨g,k*4,none⟩=some (.int .i64 (Ae xs k).e)∧w.cell? ⟨g,k*4+1,none⟩=some (.int .i64 (Ae xs k).p)∧w.cell? ⟨g,k*4+2,none⟩=some (.int .i64 (Ae xs k).f)∧w.cell? ⟨g,k*4+3,none⟩=some (.bool (Ae xs k).w):=by
 have hc:=AC.cellsAt BP h (k:=k) (x:=Ae xs k) (by simp[Ae,hk]);exact⟨hc 0 _ rfl,hc 1 _ rfl,hc 2 _ rfl,hc 3 _ rfl⟩
theorem AN {B:Nat} {w w' w'':World} {g:Nat} (h:Below B w w') (hg:w'.grownBy w'' (some g)) (hB:B≤g) (hs:B≤w'.heap.size):Below B w w'':=h.grown hg hs (fun k hk=>by cases hk;exact hB)
theorem E9 (b o:Nat) (vs:List Value):∀(j:Nat) (w:World),w.setCells b (o+j) vs=Eg w b o j vs:=by
 induction vs with
 |nil=>intro j w;rfl
 |cons v vs ih=>intro j w;exact ih (j+1) _
theorem PV (xs us:List Value) (o:Nat):∀(j:Nat),(Dq xs o j us).take o=xs.take o:=by
 induction us generalizing xs with
 |nil=>intro j;rfl
 |cons u us ih=>
  intro j;rw[Dq,ih];apply List.ext_getElem?;intro k
  by_cases hk:k<o
  ·rw[List.getElem?_take_of_lt hk,List.getElem?_take_of_lt hk,List.getElem?_set_ne (by omega)]
  ·rw[List.getElem?_take_eq_none (by omega),List.getElem?_take_eq_none (by omega)]
theorem LP {lo e sz n k:Nat} {w:World} {g cap:Nat} {xs:List Value} (h:w.ownsRow lo e sz (.slice (some ⟨g,0,none⟩) n cap) n xs) (hk:k≤n):w.ownsRow lo e sz (.slice (some ⟨g,0,none⟩) k cap) k (xs.take (k*sz)):=by
 rcases h.2 with⟨h0,_⟩|⟨g',cap',cur,hv,hb,hg,hnc,hcm,hcs,htake⟩
 ·cases h0
 ·cases hv
  have hm:k*sz≤n*sz:=Nat.mul_le_mul_right _ hk;refine⟨by rw[List.length_take,h.1];omega, .inr ⟨g,cap,cur,rfl,hb,hg,by omega,hcm,hcs,?_⟩⟩;rw[←htake,List.take_take,Nat.min_eq_left hm]
theorem H5 {P:Program} {lo e sz n k g cap t:Nat} {w:World} {xs:List Value} {z:Value} (ht:P.underlying t=some (.slice e)) (hv:∀w,(zeroValue e).run P w= .ok z w) (hzs:z.cells.size=sz) (h1:∀u∈z.cells.toList,u.oneCell'=true)
 (h:w.ownsRow lo e sz (.slice (some ⟨g,0,none⟩) n cap) n xs) (hk:k<n):
 ∃w',(∀ty c,(Builtin.clear_ #[t] ty #[.slice (some ⟨g,k*sz,none⟩) (n - k) c]).run P w= .ok (.tuple #[]) w')∧w'.ownsRow lo e sz (.slice (some ⟨g,0,none⟩) k cap) k (xs.take (k*sz))∧w.grownBy w' (some g):=by
 have hlen:(Builtin.zeroCells z.cells (n - k)).toList.length=(n - k)*sz:=by simp[Builtin.zeroCells,hzs,Nat.mul_comm]
 have hxl:=h.1;have hmul:k*sz+(n - k)*sz=n*sz:=by rw[←Nat.add_mul];congr 1;omega
 have hst:=run_storeCells_cells (P:=P) g (k*sz) (Builtin.zeroCells z.cells (n - k)).toList 0 w (by
  intro j hj;rw[hlen] at hj;have:=World.ownsRow.cellAt h (k*sz+j) (by omega);simp only[Nat.add_zero] at this ⊢;rw[this];simp;omega) (by intro j _;exact World.ownsRow.frozenAt h _) (by
  intro u hu;simp only[Builtin.zeroCells,Array.toList_map,List.mem_map,Array.mem_toList_iff,Array.mem_range] at hu;obtain⟨i,hi,rfl⟩:=hu;have hs:0<z.cells.size:=by
   rcases Nat.eq_zero_or_pos z.cells.size with h0|h0
   ·rw[h0] at hi;simp at hi
   ·exact h0
  have hlt:i%z.cells.size<z.cells.size:=Nat.mod_lt _ hs;refine h1 _ ?_;simp[hlt])
 obtain⟨m,hm⟩:∃m,n - k=m+1:=⟨n - k - 1,by omega⟩
 simp only[Nat.add_zero] at hst;refine⟨w.setCells g (k*sz) (Builtin.zeroCells z.cells (n - k)).toList,fun ty c=>?_,?_,?_⟩
 ·rw[hm] at hst ⊢
  simp[Builtin.clear_,run_underlying ht,hv,hst]
 ·have e0:=E9 g (k*sz) (Builtin.zeroCells z.cells (n - k)).toList 0 w
  rw[Nat.add_zero] at e0;rw[e0];obtain⟨a1,_⟩:=Db h (k*sz) 0 (Builtin.zeroCells z.cells (n - k)).toList;have:=LP a1 (Nat.le_of_lt hk);rw[PV] at this;exact this
 ·have e0:=E9 g (k*sz) (Builtin.zeroCells z.cells (n - k)).toList 0 w
  rw[Nat.add_zero] at e0;rw[e0];exact(Db h (k*sz) 0 (Builtin.zeroCells z.cells (n - k)).toList).2
end Go.Proofs.YteocokgpmgfbaaaGreatDoor
