/-
  Packed:21 texts.
-/
import Derived.Test.YtnieoiclifjoaaaGreatDoorY1
import Derived.Lib.QuietBelow
import Derived.Outline
import Derived.Lib.SliceRun
import Derived.ArgAppend
set_option linter.unusedVariables false
set_option linter.unusedSimpArgs false
set_option maxHeartbeats 16000000
set_option maxRecDepth 100000
namespace Go.Proofs.YtnieoiclifjoaaaGreatDoor
open Go.Proofs.Tryz
theorem Iy {infos:List AQ} (h:¬Cy infos<0):(Cy infos).toNat<infos.length∧(infoAt infos (Cy infos).toNat).k=0∧0≤Cy infos:=by
 unfold Cy at h ⊢
 split
 ·rename_i ha
  obtain⟨x,hx,hs⟩:=MI.1 ha;have hl:infos.findIdx (fun x=>decide (x.k=0))<infos.length:=List.findIdx_lt_length.2 ⟨x,hx,hs⟩;refine⟨by simpa using hl,?_,by omega⟩;have:=List.findIdx_getElem (w:=hl);simpa[infoAt,hl] using this
 ·rename_i ha
  rw[if_neg ha] at h;omega
theorem K2 {α:Type} {l:List α} {i:Nat} {d:α}:l.set i (l.getD i d)=l:=by
 apply List.ext_getElem?;intro j;rw[List.getElem?_set]
 by_cases h:i=j
 ·subst h
  by_cases h2:i<l.length
  ·simp[h2]
  ·simp[h2]
 ·simp[h]
theorem U8 {k:AN} (h:De k) {c:AR}:De (Io k c).1:=by
 unfold Io
 split
 ·exact h
 ·rename_i hn
  split
  ·exact h
  ·split
   ·exact h
   ·rename_i hf
    obtain⟨a,b,_⟩:=Iy hf;rw[h.len] at a;have hr:=h.free_unused a b;refine h.data (x:=⟨1,c.nm,0⟩) a (.inl b) (by decide) (.inr ⟨by show(1:Int)≤1;omega,by show(1:Int)≤3;omega,by simpa using hn⟩) (.inr rfl) hr.symm (.inr hr) h.cache h.trans
theorem Ue {k:AN} (h:De k) {c:AR} (ha:c.a.toNat<12):De (Kr k c).1:=by
 unfold Kr
 split
 ·exact h
 ·rename_i hk
  split
  ·exact h
  ·rename_i hr
   have hr:(infoAt k.infos c.a.toNat).r=0:=by omega
   have:=h.data (x:=AQ.zero) ha (.inr (by unfold A7;omega)) ((Af.1 h.mem).2 _ ha) (.inl ⟨rfl,rfl⟩) (.inl rfl) hr.symm (.inr hr) h.cache h.trans;rw[show k.mem.set c.a.toNat (AL k.mem c.a.toNat)=k.mem from K2] at this;exact this
theorem Sm {k:AN} (h:De k) {f i:Nat} {w:Int} (hf:f<12) (hk:A7 k f=1) (hw:E9 w=true) {cache:List Aa} (hc:Bc cache=true) (ht:∀y∈cache,Dd k y=true):De {k with mem:=Ch k.mem f i w,cache:=cache}:=by have:=h.data (x:=infoAt k.infos f) hf (.inr hk) (Og (i:=i) (w:=w) ((Af.1 h.mem).2 _ hf) hw) (h.inf f hf) (.inr hk) rfl (.inl ⟨rfl,rfl⟩) hc ht;rw[show k.infos.set f (infoAt k.infos f)=k.infos from K2] at this;rw[NR];exact this
theorem Uw {k:AN} (h:De k) {c:AR} (ha:c.a.toNat<12):De (Kz k c).1:=by
 unfold Kz
 split
 ·exact h
 ·rename_i hn
  simp only[not_or] at hn;obtain⟨h1,h2,h3⟩:=hn;exact Sm h ha (by unfold A7;omega) (by simpa using h3) h.cache h.trans
theorem Oc {k:AN} (h:De k) {r:List AQ×Int} (hr:r.2=0→De {k with infos:=r.1}):De (DQ k r).1:=by
 unfold DQ
 split
 ·exact hr ‹_›
 ·exact h
theorem VV {k:AN} (h:De k) {f:Nat} (hf:f<12) {kind:Int} {rights:List ByteArray} (hk:Ba kind=true):(FU k.mem k.infos f kind rights).2=0→De {k with infos:=(FU k.mem k.infos f kind rights).1}:=by
 unfold FU
 split
 ·intro h;simp at h
 ·rename_i hn
  simp only[not_or,Decidable.not_not] at hn
  split
  ·intro h;simp at h
  ·rename_i hg
   have hg:Gv k.mem k.infos f kind rights=true:=by simpa using hg
   split
   ·intro _
    have hkk:=Gg.1 hk;refine h.retype hf hn.2 (by omega) (by omega) (by unfold A7;omega) (.inl ⟨rfl,?_,hk⟩) (fun _ w hw=>?_)
    ·unfold A7;rw[hn.1];rfl
    ·rcases Js.1 (LY.1 hg w hw) with⟨a,b,c,_⟩|⟨_,a⟩
     ·exact .inl ⟨a,b,c⟩
     ·exact .inr a
   ·intro h;simp at h
theorem Ty {k:AN} (h:De k) {f:Nat} (hf:f<12):(Cw k.mem k.infos f).2=0→De {k with infos:=(Cw k.mem k.infos f).1}:=by
 unfold Cw
 split
 ·intro h;simp at h
 ·rename_i hn
  simp only[not_or,Decidable.not_not,Bool.not_eq_false] at hn
  split
  ·intro _
   have hkk:=Gg.1 hn.1;exact h.retype hf hn.2 (by omega) (by omega) (by unfold A7;omega) (.inr ⟨rfl,hn.1,rfl⟩) (fun hh=>by simp[Ba] at hh)
  ·intro h;simp at h
theorem Cr {infos:List AQ} {w n:Int}:(A1 infos w n).length=infos.length:=by
 unfold A1
 split
 ·exact Au
 ·rfl
theorem Le {infos:List AQ} {w n:Int} {g:Nat} (hl:infos.length=12):infoAt (A1 infos w n) g= {infoAt infos g with r:=(infoAt infos g).r+n*(GG (FB g w):Int)}:=by
 unfold A1
 split
 ·rename_i hg
  rw[Ej]
  by_cases e:g=Ax w
  ·subst e
   rw[if_pos ⟨rfl,by rw[hl];exact DZ hg⟩];simp[DK,FB,hg,GG]
  ·have e':¬Ax w=g:=fun x=>e x.symm
   rw[if_neg (by rintro⟨a,_⟩;exact e a)];simp[FB,hg,GG,e']
 ·rename_i hg
  simp[FB,hg,GG]
theorem Ol {k:AN} {a e:Nat}:e∈Eo k a↔e<3∧a∈Az k.mem (AY k e):=by simp[Eo,AY]
theorem Vb {k:AN} (h:De k) {c:AR} (ha:c.a.toNat<12) (hw9:0≤c.c→c.c≤9999∨BX c.c=true∨c.c=0→E9 c.c=true):De (GC k c).1:=by
 unfold GC
 split
 ·exact h
 rename_i hn
 simp only[not_or,Bool.not_eq_false] at hn;obtain⟨h1,h2,h3⟩:=hn;unfold Dl at h3
 split
 ·exact h
 rename_i hall
 have hall:((Eo k c.a.toNat).all fun e=>Aq k.infos (DH k c.c) (AC k.envs e).rights)=true:=by simpa using hall
 split
 ·exact h
 rename_i hmay
 generalize hfd:c.a.toNat=f at*;have hb:c.b.toNat<4:=by have:=AZ.1 h2;omega
 generalize hbd:c.b.toNat=b at*;generalize hwd:c.c=w at*;have hl:=h.len;have hml:=(Af.1 h.mem).1;have hrl:=h.row ha;have hwG:BX w=true→A7 k (Ax w)=A7 k f - 1:=by intro hg;rw[if_pos hg] at h3;simpa[A7] using h3
 have hw0:BX w=false→w=0:=by intro hg;rw[if_neg (by simp[hg])] at h3;simpa using h3
 have hkf:=Gg.1 h1;have hword:E9 w=true:=by
  cases hg:BX w
  ·rw[hw0 hg];rfl
  ·have hg':=hg
   simp only[BX,Bool.and_eq_true,decide_eq_true_eq] at hg';refine AZ.2 ⟨by omega,by omega⟩
 have hwne:BX w=true→Ax w≠f:=by intro hg e;have:=hwG hg;rw[e] at this;omega
 have hat:∀g,infoAt (A1 (A1 k.infos (Am k.mem f b) (-1)) w 1) g= {infoAt k.infos g with r:=(infoAt k.infos g).r+(-1)*(GG (FB g (Am k.mem f b)):Int)+1*(GG (FB g w):Int)}:=by intro g;rw[Le (by rw[Cr];exact hl),Le hl]
 have hkind:∀g,(infoAt (A1 (A1 k.infos (Am k.mem f b) (-1)) w 1) g).k=A7 k g:=fun g=>by rw[hat];rfl
 have hguard:∀g,(infoAt (A1 (A1 k.infos (Am k.mem f b) (-1)) w 1) g).g=(infoAt k.infos g).g:=fun g=>by rw[hat]
 have hrowf:AL (Ch k.mem f b w) f=(AL k.mem f).set b w:=by rw[Jh,if_pos ⟨rfl,by omega⟩]
 have hrow:∀g,g≠f→AL (Ch k.mem f b w) g=AL k.mem g:=fun g hg=>by rw[Jh,if_neg (by rintro⟨a,_⟩;exact hg a)]
 have hnamed:∀t g,g∈Go.Proofs.YtnieoiclifjoaaaGreatDoor.named (AL (Ch k.mem f b w) t)→g∈Go.Proofs.YtnieoiclifjoaaaGreatDoor.named (AL k.mem t)∨(t=f∧BX w=true∧Ax w=g):=by
  intro t g hg
  by_cases e:t=f
  ·subst e
   rw[hrowf] at hg
   rcases Np hg with a|a
   ·exact .inl a
   ·exact .inr ⟨rfl,a⟩
  ·rw[hrow t e] at hg
   exact .inl hg
 have hnu:∀e,e<3→f∉Az k.mem (AY k e)→(0≤AY k e→AL (Ch k.mem f b w) (AY k e).toNat=AL k.mem (AY k e).toNat)∧(0≤AY k e→∀t,t∈Go.Proofs.YtnieoiclifjoaaaGreatDoor.named (AL k.mem (AY k e).toNat)→AL (Ch k.mem f b w) t=AL k.mem t):=by
  intro e he hnr;rw[DN] at hnr;refine⟨fun h0=>hrow _ (fun e'=>hnr ⟨h0, .inl e'.symm⟩),fun h0 t ht=>hrow _ (fun e'=>hnr ⟨h0, .inr (.inl (e'▸ht))⟩)⟩
 refine⟨?_,by rw[Cr,Cr];exact hl,fun g hg=>?_,QG h.cache,h.envl,h.rights,fun e he=>?_,fun e he g hg=>?_,fun t ht htb x hx=>?_,fun g hg=>?_,fun y hy=>?_⟩
 ·show Bg (Ch k.mem f b w)=true
  rw[NR];exact OT h.mem (Og ((Af.1 h.mem).2 f ha) hword)
 ·show Ou (infoAt (A1 (A1 k.infos (Am k.mem f b) (-1)) w 1) g)
  rw[hat];exact h.inf g hg
 ·rcases h.roots e he with x|⟨x,y,z⟩
  ·exact .inl x
  ·exact .inr ⟨x,y,by show(infoAt (A1 (A1 k.infos (Am k.mem f b) (-1)) w 1) (AY k e).toNat).k=3;rw[hkind];exact z⟩
 ·show Ca (CQ k e) (infoAt (A1 (A1 k.infos (Am k.mem f b) (-1)) w 1) g).g=true
  rw[hguard]
  by_cases hr:f∈Az k.mem (AY k e)
  ·have hu:∀g,g∈DH k w→Ca (CQ k e) (infoAt k.infos g).g=true:=Ga.1 (List.all_eq_true.1 hall e (Ol.2 ⟨he,hr⟩))
   have hneed:∀g,BX w=true→(Ax w=g∨(Ba (A7 k (Ax w))=true∧g∈Go.Proofs.YtnieoiclifjoaaaGreatDoor.named (AL k.mem (Ax w))))→g∈DH k w:=by
    intro g hg hh;unfold DH;rw[if_pos hg]
    rcases hh with rfl|⟨h1,h2⟩
    ·exact List.mem_cons_self ..
    ·unfold A7 at h1
     rw[if_pos h1];exact List.mem_cons_of_mem _ h2
   obtain⟨h0,hg'⟩:=DN.1 hg
   change 0≤AY k e at h0
   have old:∀g,(g=(AY k e).toNat∨g∈Go.Proofs.YtnieoiclifjoaaaGreatDoor.named (AL k.mem (AY k e).toNat)∨∃t,t∈Go.Proofs.YtnieoiclifjoaaaGreatDoor.named (AL k.mem (AY k e).toNat)∧g∈Go.Proofs.YtnieoiclifjoaaaGreatDoor.named (AL k.mem t))→Ca (CQ k e) (infoAt k.infos g).g=true:=fun g hh=>h.allow e he g (DN.2 ⟨h0,hh⟩)
   rcases hg' with hg'|hg'|⟨t,ht,hg'⟩
   ·exact old g (.inl hg')
   ·rcases hnamed _ _ hg' with a|⟨_,a,b⟩
    ·exact old g (.inr (.inl a))
    ·exact hu g (hneed g a (.inl b))
   ·rcases hnamed _ _ hg' with a|⟨_,a,b⟩
    ·rcases hnamed _ _ ht with a'|⟨er,a',b'⟩
     ·exact old g (.inr (.inr ⟨t,a',a⟩))
     ·have hrk:=(h.root_kind he h0).2
      change (AY k e).toNat=f at er
      rw[er] at hrk;refine hu g (hneed g a' (.inr ⟨?_,by rw[b'];exact a⟩));rw[hwG a',hrk];rfl
    ·exact hu g (hneed g a (.inl b))
  ·obtain⟨r0,r1⟩:=hnu e he hr
   exact h.allow e he g ((Lw r0 r1 g).1 hg)
 ·have htb2:Ba (infoAt (A1 (A1 k.infos (Am k.mem f b) (-1)) w 1) t).k=true:=htb
  rw[hkind] at htb2
  show(BX x=true∧Ax x≠t∧(infoAt (A1 (A1 k.infos (Am k.mem f b) (-1)) w 1) (Ax x)).k=(infoAt (A1 (A1 k.infos (Am k.mem f b) (-1)) w 1) t).k - 1)∨x=0
  rw[hkind,hkind];have hx2:x∈AL (Ch k.mem f b w) t:=hx
  by_cases e:t=f
  ·subst e
   rw[hrowf] at hx2
   rcases List.mem_or_eq_of_mem_set hx2 with hx2|rfl
   ·exact h.tabs t ht htb2 x hx2
   ·cases hg:BX x
    ·exact .inr (hw0 hg)
    ·exact .inl ⟨rfl,hwne hg,hwG hg⟩
  ·rw[hrow t e] at hx2
   exact h.tabs t ht htb2 x hx2
 ·show(infoAt (A1 (A1 k.infos (Am k.mem f b) (-1)) w 1) g).r=(countP (Ch k.mem f b w) (A1 (A1 k.infos (Am k.mem f b) (-1)) w 1) g:Int)+(Dr k.envs g:Int)
  have hsum:=J1 (F:=LC (Ch k.mem f b w) (A1 (A1 k.infos (Am k.mem f b) (-1)) w 1) g) (G:=LC k.mem k.infos g) ha (fun t ht hne=>by unfold LC;rw[hkind,hrow t hne];rfl)
  rw[←EF,←EF] at hsum;have c1:LC (Ch k.mem f b w) (A1 (A1 k.infos (Am k.mem f b) (-1)) w 1) g f=(Go.Proofs.YtnieoiclifjoaaaGreatDoor.named ((AL k.mem f).set b w)).count g:=by unfold LC;rw[hkind,hrowf];exact if_pos h1
  have c2:LC k.mem k.infos g f=(Go.Proofs.YtnieoiclifjoaaaGreatDoor.named (AL k.mem f)).count g:=if_pos h1;have c3:(Go.Proofs.YtnieoiclifjoaaaGreatDoor.named ((AL k.mem f).set b w)).count g+GG (FB g (Am k.mem f b))=(Go.Proofs.YtnieoiclifjoaaaGreatDoor.named (AL k.mem f)).count g+GG (FB g w):=Tf (show b<(AL k.mem f).length by omega);rw[c1,c2] at hsum;have:=h.refs g hg;rw[hat];simp only;omega
 ·obtain⟨hy1,hy2⟩:=TG.1 hy
  have h4:=h.trans y hy1;have hyc:=(Ef.1 h.cache).1 y hy1;unfold CZ at hyc;simp only[Bool.and_eq_true,AZ] at hyc;have he:y.e.toNat<3:=by omega
  have hnr:f∉Az k.mem (AY k y.e.toNat):=fun hr=>hy2 y.e.toNat (Ol.2 ⟨he,hr⟩) (by omega)
  obtain⟨r0,r1⟩:=hnu _ he hnr;unfold Dd at h4 ⊢;simp only[Bool.and_eq_true,decide_eq_true_eq] at h4 ⊢;exact⟨h4.1,(NZ (a:=4*y.p.toNat) (r0 h4.1) (r1 h4.1)).trans h4.2⟩
def Fx (infos:List AQ) (old new:Int):List AQ:=
 if 0≤new then AV (if 0≤old then AV infos old.toNat (DK (-1)) else infos) new.toNat (DK 1) else(if 0≤old then AV infos old.toNat (DK (-1)) else infos)
theorem SA {infos:List AQ} {old new:Int}:(Fx infos old new).length=infos.length:=by
 unfold Fx
 split<;>split<;>simp[Au]
theorem Tt {infos:List AQ} {old new:Int} {g:Nat} (hl:infos.length=12) (hg:g<12):infoAt (Fx infos old new) g= {infoAt infos g with r:=(infoAt infos g).r - (GG (decide (old=(g:Int))):Int)+(GG (decide (new=(g:Int))):Int)}:=by
 have h1:infoAt (if 0≤old then AV infos old.toNat (DK (-1)) else infos) g= {infoAt infos g with r:=(infoAt infos g).r - (GG (decide (old=(g:Int))):Int)}:=by
  split
  ·rw[Ej]
   by_cases e:g=old.toNat
   ·rw[if_pos ⟨e,by omega⟩,←e]
    have:old=(g:Int):=by omega
    simp[DK,GG,this];omega
   ·rw[if_neg (by rintro⟨a,_⟩;exact e a)]
    have:¬old=(g:Int):=by omega
    simp[GG,this]
  ·have:¬old=(g:Int):=by omega
   simp[GG,this]
 have h2:(if 0≤old then AV infos old.toNat (DK (-1)) else infos).length=12:=by split<;>simp[Au,hl]
 unfold Fx
 split
 ·rw[Ej,h2]
  by_cases e:g=new.toNat
  ·rw[if_pos ⟨e,by omega⟩,←e,h1]
   have:new=(g:Int):=by omega
   simp[DK,GG,this]
  ·rw[if_neg (by rintro⟨a,_⟩;exact e a),h1]
   have:¬new=(g:Int):=by omega
   simp[GG,this]
 ·rw[h1]
  have:¬new=(g:Int):=by omega
  simp[GG,this]
theorem Tu {envs:List EM} (hl:envs.length=3) {e g:Nat} (he:e<3) {n:Int}:Dr (AV envs e (Bu n)) g+GG (decide ((AC envs e).root=(g:Int)))=Dr envs g+GG (decide (n=(g:Int))):=by
 rw[G8 (by rw[Au];exact hl),G8 hl];simp only[Jp,hl];have:e=0∨e=1∨e=2:=by omega
 rcases this with rfl|rfl|rfl<;>simp[Bu]<;>omega
theorem SF {envs:List EM} (hl:envs.length=3) {e g:Nat} {ss:List ByteArray}:Dr (AV envs e (A9 ss)) g=Dr envs g:=by
 rw[G8 (by rw[Au];exact hl),G8 hl];simp only[Jp]
 by_cases h0:0=e∧e<envs.length<;>by_cases h1:1=e∧e<envs.length<;>by_cases h2:2=e∧e<envs.length<;>simp only[h0,h1,h2,if_true,if_false,A9]<;>(try (obtain⟨rfl,_⟩:=h0))<;>(try (obtain⟨rfl,_⟩:=h1))<;>(try (obtain⟨rfl,_⟩:=h2))<;>simp
theorem U0 {k:AN} (h:De k) {c:AR} (he:0≤c.e∧c.e≤2):De (GI k c).1:=by
 unfold GI
 split
 ·exact h
 rename_i h1
 split
 ·exact h
 rename_i h2
 have h2:Aq k.infos (Az k.mem c.a) (CQ k c.e.toNat)=true:=by simpa[CQ] using h2
 rw[Ga] at h2;have hen:c.e.toNat<3:=by omega
 generalize hed:c.e.toNat=e at*;generalize c.a=n at*;have h1:n= -1∨(0≤n∧n≤11∧A7 k n.toNat=3):=by
  by_cases hn:n= -1
  ·exact .inl hn
  ·right
   have h1:¬(Bk n 0 11=false∨(infoAt k.infos n.toNat).k≠3):=fun hh=>h1 ⟨hn,hh⟩
   simp only[not_or,Bool.not_eq_false,Decidable.not_not] at h1;have:=AZ.1 h1.1;exact⟨this.1,this.2,h1.2⟩
 show De ⟨k.mem,Fx k.infos (AY k e) n,AV k.envs e (Bu n),Co k.cache c.e⟩
 have hat:=fun g (hg:g<12)=>Tt (infos:=k.infos) (old:=AY k e) (new:=n) (g:=g) h.len hg
 have henv:∀j,AC (AV k.envs e (Bu n)) j=if j=e then⟨CQ k e,n⟩ else AC k.envs j:=by
  intro j;rw[Jp,h.envl]
  by_cases hj:j=e
  ·rw[if_pos ⟨hj,hen⟩,if_pos hj];rfl
  ·rw[if_neg (by rintro⟨a,_⟩;exact hj a),if_neg hj]
 refine⟨h.mem,by rw[SA];exact h.len,fun g hg=>?_,QF h.cache,by rw[Au];exact h.envl,fun j hj=>?_,fun j hj=>?_,fun j hj g hg=>?_,fun t ht htb x hx=>?_,fun g hg=>?_,fun y hy=>?_⟩
 ·show Ou (infoAt (Fx _ _ _) g)
  rw[hat g hg];exact h.inf g hg
 ·show A2 (AC (AV k.envs e (Bu n)) j).rights=true
  rw[henv]
  split
  ·exact h.rights e hen
  ·exact h.rights j hj
 ·show(AC (AV k.envs e (Bu n)) j).root= -1∨(0≤(AC (AV k.envs e (Bu n)) j).root∧(AC (AV k.envs e (Bu n)) j).root≤11∧(infoAt (Fx k.infos (AY k e) n) (AC (AV k.envs e (Bu n)) j).root.toNat).k=3)
  rw[henv]
  split
  ·rcases h1 with h1|⟨a,b,d⟩
   ·exact .inl h1
   ·refine .inr ⟨a,b,?_⟩
    rw[hat _ (by simp;omega)];exact d
  ·rcases h.roots j hj with x|⟨x,y,z⟩
   ·exact .inl x
   ·refine .inr ⟨x,y,?_⟩
    have hx:(AC k.envs j).root=AY k j:=rfl;rw[hx,hat _ (by omega)];exact z
 ·have hg2:g∈Az k.mem (AC (AV k.envs e (Bu n)) j).root:=hg
  show Ca (AC (AV k.envs e (Bu n)) j).rights (infoAt (Fx k.infos (AY k e) n) g).g=true
  rw[henv] at hg2 ⊢
  by_cases hj':j=e
  ·simp only[hj',if_true] at hg2 ⊢
   have hg12:g<12:=by
    obtain⟨h0,hh⟩:=DN.1 hg2
    rcases hh with rfl|hh|⟨t,_,hh⟩
    ·rcases h1 with h1|h1<;>omega
    ·exact FL hh
    ·exact FL hh
   rw[hat g hg12];exact h2 g hg2
  ·simp only[hj',if_false] at hg2 ⊢
   rw[hat g (h.reach_lt hj hg2).1];exact h.allow j hj g hg2
 ·have htb2:Ba (infoAt (Fx k.infos (AY k e) n) t).k=true:=htb
  rw[hat t ht] at htb2
  show(BX x=true∧Ax x≠t∧(infoAt (Fx k.infos (AY k e) n) (Ax x)).k=(infoAt (Fx k.infos (AY k e) n) t).k - 1)∨x=0
  rcases h.tabs t ht htb2 x hx with⟨a,b,d⟩|rfl
  ·refine .inl ⟨a,b,?_⟩
   rw[hat t ht,hat _ (DZ a)];exact d
  ·exact .inr rfl
 ·show(infoAt (Fx k.infos (AY k e) n) g).r=(countP k.mem (Fx k.infos (AY k e) n) g:Int)+(Dr (AV k.envs e (Bu n)) g:Int)
  have hc:countP k.mem (Fx k.infos (AY k e) n) g=countP k.mem k.infos g:=by
   rw[EF,EF];refine Lh fun t ht=>?_
   unfold LC;rw[hat t ht]
  have hr:=Tu (g:=g) h.envl hen (n:=n);have:=h.refs g hg;rw[hc,hat g hg];have e':(AC k.envs e).root=AY k e:=rfl;rw[e'] at hr;simp only;omega
 ·obtain⟨hy1,hy2⟩:=OH.1 hy
  have h4:=h.trans y hy1;have hyc:=(Ef.1 h.cache).1 y hy1;unfold CZ at hyc;simp only[Bool.and_eq_true,AZ] at hyc;have hne:y.e.toNat≠e:=by omega
  unfold Dd at h4 ⊢;rw[show AC (AN.envs ⟨k.mem,Fx k.infos (AY k e) n,AV k.envs e (Bu n),Co k.cache c.e⟩) y.e.toNat=AC k.envs y.e.toNat from by show AC (AV k.envs e (Bu n)) y.e.toNat=_;rw[henv,if_neg hne]];exact h4
theorem De.rights_turn {k:AN} (h:De k) {e:Nat} (he:e<3) {ss:List ByteArray} (hs:A2 ss=true) (ha:∀f,f∈Az k.mem (AY k e)→Ca ss (infoAt k.infos f).g=true):De {k with envs:=AV k.envs e (A9 ss)}:=by
 have henv:∀j,AC (AV k.envs e (A9 ss)) j=if j=e then⟨ss,AY k e⟩ else AC k.envs j:=by
  intro j;rw[Jp,h.envl]
  by_cases hj:j=e
  ·rw[if_pos ⟨hj,he⟩,if_pos hj];rfl
  ·rw[if_neg (by rintro⟨a,_⟩;exact hj a),if_neg hj]
 have hroot:∀j,(AC (AV k.envs e (A9 ss)) j).root=AY k j:=by
  intro j;rw[henv]
  split
  ·rename_i hj;rw[hj]
  ·rfl
 refine⟨h.mem,h.len,h.inf,h.cache,by rw[Au];exact h.envl,fun j hj=>?_,fun j hj=>?_,fun j hj g hg=>?_,h.tabs,fun g hg=>?_,fun y hy=>?_⟩
 ·show A2 (AC (AV k.envs e (A9 ss)) j).rights=true
  rw[henv]
  split
  ·exact hs
  ·exact h.rights j hj
 ·show(AC (AV k.envs e (A9 ss)) j).root= -1∨(0≤(AC (AV k.envs e (A9 ss)) j).root∧(AC (AV k.envs e (A9 ss)) j).root≤11∧(infoAt k.infos (AC (AV k.envs e (A9 ss)) j).root.toNat).k=3)
  rw[hroot];exact h.roots j hj
 ·have hg2:g∈Az k.mem (AC (AV k.envs e (A9 ss)) j).root:=hg
  show Ca (AC (AV k.envs e (A9 ss)) j).rights (infoAt k.infos g).g=true
  rw[hroot] at hg2;rw[henv]
  split
  ·rename_i hj'
   rw[hj'] at hg2;exact ha g hg2
  ·exact h.allow j hj g hg2
 ·show(infoAt k.infos g).r=(countP k.mem k.infos g:Int)+(Dr (AV k.envs e (A9 ss)) g:Int)
  rw[SF h.envl];exact h.refs g hg
 ·have h4:=h.trans y hy
  unfold Dd at h4 ⊢;rw[show(AC (AN.envs {k with envs:=AV k.envs e (A9 ss)}) y.e.toNat).root=(AC k.envs y.e.toNat).root from hroot _];exact h4
theorem TT {k:AN} (h:De k) {c:AR}:De (Ei k c).1:=by
 unfold Ei
 split
 ·exact h
 rename_i h1
 simp only[not_or,Bool.not_eq_false] at h1;have:=AZ.1 h1.1
 split
 ·exact h
 split
 ·exact h
 exact h.rights_turn (by omega) (Vm (h.rights _ (by omega)) h1.2) (fun f hf=>Te (fun s hs=>UL hs) (h.allow _ (by omega) f hf))
theorem R9 {k:AN} (h:De k) {c:AR}:De (Dc k c).1:=by
 unfold Dc
 split
 ·exact h
 rename_i h1
 simp only[not_or,Bool.not_eq_false] at h1;have:=AZ.1 h1.1
 split
 ·exact h
 split
 ·exact h
 rename_i h3
 have h3:=Ga.1 (show Aq k.infos (Az k.mem (AY k c.a.toNat)) (BA (AC k.envs c.a.toNat).rights c.nm)=true by simpa[AY] using h3);exact h.rights_turn (by omega) (TH (h.rights _ (by omega))) h3
theorem Vc {k:AN} (h:De k) {c:AR} (he:0≤c.e∧c.e≤2):De (IF k c).1:=by
 unfold IF;simp only
 split
 ·exact h
 rename_i h1
 simp only[not_or,Bool.not_eq_false] at h1;obtain⟨ha,hr,hb⟩:=h1
 split
 ·exact h
 rename_i hw
 split
 ·exact h
 have hen:c.e.toNat<3:=by omega
 have hr:0≤AY k c.e.toNat:=by unfold AY;omega
 have hw:(BV k.mem (AY k c.e.toNat).toNat c.a.toNat).1=0:=by simpa[AY] using hw
 obtain⟨hf,hk,_⟩:=h.walk_data hen hr hw;have ha:=AZ.1 ha;have hC:Bc (if FX k.cache c.e (c.a/4)<0 then FM k.cache ⟨c.e,c.a/4,((BV k.mem (AY k c.e.toNat).toNat c.a.toNat).2.1:Nat),(BV k.mem (AY k c.e.toNat).toNat c.a.toNat).2.2⟩ else k.cache)=true:=by
  split
  ·refine VW h.cache ?_
   simp only[CZ,Bool.and_eq_true,AZ];omega
  ·exact h.cache
 have hT:∀y∈(if FX k.cache c.e (c.a/4)<0 then FM k.cache ⟨c.e,c.a/4,((BV k.mem (AY k c.e.toNat).toNat c.a.toNat).2.1:Nat),(BV k.mem (AY k c.e.toNat).toNat c.a.toNat).2.2⟩ else k.cache),Dd k y=true:=by
  intro y hy
  split at hy
  ·rcases Qm hy with rfl|hy
   ·unfold Dd
    simp only[Bool.and_eq_true,decide_eq_true_eq];refine⟨hr,?_⟩;have e1:4*(c.a/4).toNat/16=c.a.toNat/16:=by omega
    have e2:4*(c.a/4).toNat/4%4=c.a.toNat/4%4:=by omega
    have e3:BV k.mem (AC k.envs c.e.toNat).root.toNat (4*(c.a/4).toNat)=BV k.mem (AY k c.e.toNat).toNat c.a.toNat:=by unfold BV;rw[e1,e2];rfl
    rw[e3,Int.toNat_natCast];exact Prod.ext hw rfl
   ·exact h.trans y hy
  ·exact h.trans y hy
 split
 ·rename_i h11
  refine Sm h hf hk ?_ hC hT;simp only[not_and,Bool.not_eq_false] at hb;exact hb h11
 ·have:=h.data (x:=infoAt k.infos (BV k.mem (AY k c.e.toNat).toNat c.a.toNat).2.1) hf (.inr hk) ((Af.1 h.mem).2 _ hf) (h.inf _ hf) (.inr hk) rfl (.inl ⟨rfl,rfl⟩) hC hT
  rw[show k.infos.set _ (infoAt k.infos (BV k.mem (AY k c.e.toNat).toNat c.a.toNat).2.1)=k.infos from K2,show k.mem.set _ (AL k.mem (BV k.mem (AY k c.e.toNat).toNat c.a.toNat).2.1)=k.mem from K2] at this;exact this
theorem TN {k:AN} (h:De k) {c:AR}:De (Fs k c).1:=by
 unfold Fs
 split
 ·exact h
 rename_i h1
 simp only[not_or,Bool.not_eq_false,not_and] at h1;have ha:=AZ.1 h1.1;have han:c.a.toNat<12:=by omega
 split
 ·exact h
 split
 ·exact Ue h han
 split
 ·exact Uw h han
 split
 ·rename_i h4
  exact Oc h (VV h han (h1.2.2 h4))
 split
 ·exact Oc h (Ty h han)
 exact Vb h han (fun h0 hh=>by
  rcases hh with hh|hh|hh
  ·exact AZ.2 ⟨h0,hh⟩
  ·simp only[BX,Bool.and_eq_true,decide_eq_true_eq] at hh
   exact AZ.2 ⟨by omega,by omega⟩
  ·rw[hh];rfl)
theorem UP {k:AN} (h:De k) {c:AR} (he:0≤c.e∧c.e≤2):De (AU k c).1:=by
 unfold AU
 split
 ·exact U8 h
 split
 ·exact TN h
 split
 ·exact U0 h he
 split
 ·exact TT h
 split
 ·exact R9 h
 split
 ·exact Vc h he
 ·exact h
structure DI where
 w:Int
 a:Int
 u:Bool
 deriving DecidableEq
structure BO where
 kern:AN
 swap:List (List Int)
 low:List Int
 pages:List DI
 hand:Int
 limit:Int
 deriving DecidableEq
def gA:ByteArray:=⟨#[97]⟩
def AO (l:List DI) (n:Nat):DI:=l.getD n ⟨0,0,false⟩
def D6 (l:List Int) (n:Nat):Int:=l.getD n 0
def IE (s:List (List Int)):Bool:=s.all (fun r=>r.isEmpty||Ed r)&&decide (s.length=16)
def J5 (f:Int):Int:=4*f+3
def Ff (infos:List AQ) (f:Nat):Bool:=decide ((infoAt infos f).g=gA)&&decide ((infoAt infos f).r=1)
def Ja (p:BO) (i:Nat):Bool:=Bk (D6 p.low i) 0 11&&decide (Am p.kern.mem (AY p.kern 0).toNat i=J5 (D6 p.low i))&&Ff p.kern.infos (D6 p.low i).toNat
def DG (p:BO):Bool:=decide (0≤AY p.kern 0)&&decide (p.low.length=4)&&Ff p.kern.infos (AY p.kern 0).toNat&&(List.range 4).all (Ja p)
def DC (p:BO) (n:Nat):Int:=Am p.kern.mem (D6 p.low (n/4)).toNat (n%4)
def Jy (p:BO) (n:Nat):Bool:=
 if(AO p.pages n).w=0 then decide ((AO p.pages n).a=0)&&!(AO p.pages n).u&&decide (DC p n=0)
 else if(AO p.pages n).w=1 then Bk (AO p.pages n).a 0 11&&decide (DC p n=J5 (AO p.pages n).a)&&Ff p.kern.infos (AO p.pages n).a.toNat
 else if(AO p.pages n).w=2 then Bk (AO p.pages n).a 0 15&&!(AL p.swap (AO p.pages n).a.toNat).isEmpty&&!(AO p.pages n).u&&decide (DC p n=0)
 else false
def Mi (s:Nat) (x:DI):Bool:=decide (x.w=2)&&decide (x.a=(s:Int))
def FD (pages:List DI) (s:Nat):Nat:=pages.countP (Mi s)
def FV (p:BO) (s:Nat):Bool:=decide (FD p.pages s=if(AL p.swap s).isEmpty then 0 else 1)
def It (k:AN):Bool:=Ca (CQ k 0) gA&&!Ca (CQ k 1) gA&&!Ca (CQ k 2) gA
def TY (w:Int) (x:DI):Bool:=decide (x.w=w)
def DT (pages:List DI) (w:Int):Nat:=pages.countP (TY w)
def DP (p:BO):Bool:=
 DU p.kern&&IE p.swap&&It p.kern&&DG p&&decide (p.pages.length=16)&&(List.range 16).all (FV p)&&(List.range 16).all (Jy p)&&Bk p.hand 0 15&&Bk p.limit 1 6&&decide ((DT p.pages 1:Int)≤p.limit)
def Dh (kind a b c:Int):AR:=⟨kind,0,a,b,c,gA⟩
def Qu (x:DI):DI:= {x with u:=false}
def F1 (p:BO) (a:Nat):Int:=
 if(AO p.pages (a/4)).w=1 then Am p.kern.mem (AO p.pages (a/4)).a.toNat (a%4)
 else if(AO p.pages (a/4)).w=2 then Am p.swap (AO p.pages (a/4)).a.toNat (a%4) else 0
def Q3 (infos:List AQ) (f:Nat):Prop:=(infoAt infos f).g=gA∧(infoAt infos f).r=1
theorem OV {infos:List AQ} {f:Nat}:Ff infos f=true↔Q3 infos f:=by simp[Ff,Q3]
def MZ (p:BO) (n:Nat):Prop:=
 ((AO p.pages n).w=0∧(AO p.pages n).a=0∧(AO p.pages n).u=false∧DC p n=0)∨
 ((AO p.pages n).w=1∧(0≤(AO p.pages n).a∧(AO p.pages n).a≤11)∧DC p n=J5 (AO p.pages n).a∧Q3 p.kern.infos (AO p.pages n).a.toNat)∨
 ((AO p.pages n).w=2∧(0≤(AO p.pages n).a∧(AO p.pages n).a≤15)∧AL p.swap (AO p.pages n).a.toNat≠[]∧(AO p.pages n).u=false∧DC p n=0)
theorem PO {α:Type} {l:List α}:l.isEmpty=true↔l=[]:=List.isEmpty_iff
theorem Rv {p:BO} {n:Nat}:Jy p n=true↔MZ p n:=by
 unfold Jy MZ
 by_cases h0:(AO p.pages n).w=0
 ·simp[h0,and_assoc]
 ·by_cases h1:(AO p.pages n).w=1
  ·simp[h1,and_assoc,AZ,OV]
  ·by_cases h2:(AO p.pages n).w=2
   ·simp[h2,and_assoc,AZ]
   ·simp[h0,h1,h2]
structure KO (p:BO):Prop where
 k:De p.kern
 swapl:p.swap.length=16
 swapr:∀s,s<16→AL p.swap s=[]∨Ed (AL p.swap s)=true
 may:Ca (CQ p.kern 0) gA=true
 alone:∀e,1≤e→e<3→Ca (CQ p.kern e) gA=false
 root:0≤AY p.kern 0
 lowl:p.low.length=4
 mroot:Q3 p.kern.infos (AY p.kern 0).toNat
 lows:∀i,i<4→0≤D6 p.low i∧D6 p.low i≤11∧Am p.kern.mem (AY p.kern 0).toNat i=J5 (D6 p.low i)∧Q3 p.kern.infos (D6 p.low i).toNat
 pagel:p.pages.length=16
 slots:∀s,s<16→FD p.pages s=if(AL p.swap s).isEmpty then 0 else 1
 pages:∀n,n<16→MZ p n
 hand:0≤p.hand∧p.hand≤15
 limit:1≤p.limit∧p.limit≤6
 count:(DT p.pages 1:Int)≤p.limit
theorem NS {s:List (List Int)}:IE s=true↔s.length=16∧∀i,i<16→AL s i=[]∨Ed (AL s i)=true:=by
 simp only[IE,Bool.and_eq_true,List.all_eq_true,decide_eq_true_eq,Bool.or_eq_true,PO];constructor
 ·rintro⟨h1,h2⟩
  exact⟨h2,fun f hf=>h1 _ (Dz (by omega))⟩
 ·rintro⟨h1,h2⟩
  refine⟨fun r hr=>?_,h1⟩;obtain⟨i,hi,rfl⟩:=Hv (d:=[]) hr;exact h2 i (by omega)
theorem Je {p:BO}:DP p=true↔KO p:=by
 unfold DP DG It;simp only[Bool.and_eq_true,Jz,Rv,AZ,decide_eq_true_eq,GP,NS,FV,Ja,OV,Bool.not_eq_true'];constructor
 ·rintro⟨⟨⟨⟨⟨⟨⟨⟨⟨h1,h2⟩,h3⟩,h4⟩,h5⟩,h6⟩,h7⟩,h8⟩,h9⟩,h10⟩
  obtain⟨⟨⟨a,b⟩,c⟩,d⟩:=h4;refine⟨h1,h2.1,h2.2,h3.1.1,fun e he he'=>?_,a,b,c,fun i hi=>?_,h5,h6,h7,h8,h9,h10⟩
  ·have:e=1∨e=2:=by omega
   rcases this with rfl|rfl
   ·exact h3.1.2
   ·exact h3.2
  ·obtain⟨⟨x,y⟩,z⟩:=d i hi
   exact⟨x.1,x.2,y,z⟩
 ·intro h
  exact⟨⟨⟨⟨⟨⟨⟨⟨⟨h.k,h.swapl,h.swapr⟩,⟨h.may,h.alone 1 (by omega) (by omega)⟩,h.alone 2 (by omega) (by omega)⟩,⟨⟨h.root,h.lowl⟩,h.mroot⟩,fun i hi=>by obtain⟨x,y,z,u⟩:=h.lows i hi;exact⟨⟨⟨x,y⟩,z⟩,u⟩⟩,h.pagel⟩,h.slots⟩,h.pages⟩,h.hand⟩,h.limit⟩,h.count⟩
theorem LU {f:Int} (h0:0≤f) (h1:f≤11):BX (J5 f)=true∧Ax (J5 f)=f.toNat∧Iw (J5 f)=true:=by unfold BX Ax Iw J5;simp only[Bool.and_eq_true,decide_eq_true_eq];refine⟨⟨⟨?_,?_⟩,?_⟩,?_,?_⟩<;>omega
theorem SU {F:Nat→Nat} {n a b:Nat} (ha:a<n) (hb:b<n) (hne:a≠b) (h1:1≤F a) (h2:1≤F b):2≤((List.range n).map F).sum:=by
 have e1:=J1 (F:=F) (G:=fun t=>if t=a then 0 else F t) ha (fun t _ hne=>by simp[hne]);have e2:=J1 (F:=fun t=>if t=a then 0 else F t) (G:=fun t=>if t=b then 0 else if t=a then 0 else F t) hb (fun t _ hne=>by simp[hne]);have hba:¬b=a:=fun e=>hne e.symm
 simp only[if_true,hba,if_false] at e1 e2;omega
theorem Rp {F:Nat→Nat} {n a:Nat} (ha:a<n):F a≤((List.range n).map F).sum:=by
 have e1:=J1 (F:=F) (G:=fun t=>if t=a then 0 else F t) ha (fun t _ hne=>by simp[hne]);simp only[if_true] at e1;omega
theorem TF {r:List Int} {p:Int→Bool} {i j:Nat} (hi:i<r.length) (hj:j<r.length) (hne:i≠j) (h1:p (r.getD i 0)=true) (h2:p (r.getD j 0)=true):2≤r.countP p:=by
 induction r generalizing i j with
 |nil=>simp at hi
 |cons x r ih=>
  rw[List.countP_cons];cases i with
  |zero=>
   cases j with
   |zero=>omega
   |succ j=>simp at h1 h2 hj;have:0<r.countP p:=List.countP_pos_iff.2 ⟨_,Dz (d:=0) hj,by simpa using h2⟩;rw[if_pos (by simpa using h1)];omega
  |succ i=>
   cases j with
   |zero=>simp at h1 h2 hi;have:0<r.countP p:=List.countP_pos_iff.2 ⟨_,Dz (d:=0) hi,by simpa using h1⟩;rw[if_pos (by simpa using h2)];omega
   |succ j=>have:=ih (i:=i) (j:=j) (by simpa using hi) (by simpa using hj) (by omega) (by simpa using h1) (by simpa using h2);omega
section
variable {k:AN} (h:De k)
include h
theorem De.cnt_pos {f t i:Nat} (ht:t<12) (htb:Ba (A7 k t)=true) (hi:i<4) (hn:FB f (Am k.mem t i)=true):1≤LC k.mem k.infos f t:=by unfold LC;unfold A7 at htb;rw[if_pos htb,IN];exact List.countP_pos_iff.2 ⟨_,Dz (d:=0) (by rw[h.row ht];exact hi),hn⟩
theorem De.once {f t i t' i':Nat} (hf:f<12) (h1:(infoAt k.infos f).r=1) (ht:t<12) (htb:Ba (A7 k t)=true) (hi:i<4) (hn:FB f (Am k.mem t i)=true)
 (ht':t'<12) (htb':Ba (A7 k t')=true) (hi':i'<4) (hn':FB f (Am k.mem t' i')=true):t=t'∧i=i':=by
 have hr:=h.refs f hf;have hc:countP k.mem k.infos f≤1:=by omega
 rw[EF] at hc
 by_cases e:t=t'
 ·subst e
  refine⟨rfl,?_⟩
  by_cases e:i=i'
  ·exact e
  ·exfalso
   have h2:2≤LC k.mem k.infos f t:=by unfold LC;unfold A7 at htb;rw[if_pos htb,IN];exact TF (by rw[h.row ht];exact hi) (by rw[h.row ht];exact hi') e hn hn'
   have:=Rp (F:=LC k.mem k.infos f) ht;omega
 ·exfalso
  have:=SU (F:=LC k.mem k.infos f) ht ht' e (h.cnt_pos ht htb hi hn) (h.cnt_pos ht' htb' hi' hn');omega
end
section
variable {p:BO} (h:KO p)
include h
theorem KO.root_lt:(AY p.kern 0).toNat<12∧A7 p.kern (AY p.kern 0).toNat=3:=h.k.root_kind (by omega) h.root
theorem KO.low_names {i:Nat} (hi:i<4):FB (D6 p.low i).toNat (Am p.kern.mem (AY p.kern 0).toNat i)=true:=by obtain⟨a,b,c,_⟩:=h.lows i hi;obtain⟨x,y,_⟩:=LU a b;rw[c];simp[FB,x,y]
theorem KO.low_kind {i:Nat} (hi:i<4):(D6 p.low i).toNat<12∧A7 p.kern (D6 p.low i).toNat=2:=by obtain⟨a,b,c,_⟩:=h.lows i hi;obtain⟨x,y,_⟩:=LU a b;have hm:=K7 (m:=p.kern.mem) (f:=(AY p.kern 0).toNat) (i:=i) (by rw[c];exact x);rw[c,y] at hm;exact h.k.low_kind (by omega) h.root hm
theorem KO.low_inj {i j:Nat} (hi:i<4) (hj:j<4) (e:(D6 p.low i).toNat=(D6 p.low j).toNat):i=j:=by have hr:=h.root_lt;have hl:=h.low_kind hi;have h1:=h.low_names hi;have h2:=h.low_names hj;rw[←e] at h2;exact(h.k.once hl.1 (h.lows i hi).2.2.2.2 hr.1 (by rw[hr.2];rfl) hi h1 hr.1 (by rw[hr.2];rfl) hj h2).2
theorem KO.frame_names {n:Nat} (hn:n<16) (hw:(AO p.pages n).w=1):FB (AO p.pages n).a.toNat (DC p n)=true∧(0≤(AO p.pages n).a∧(AO p.pages n).a≤11)∧Q3 p.kern.infos (AO p.pages n).a.toNat:=by
 rcases h.pages n hn with⟨a,_⟩|⟨_,b,c,d⟩|⟨a,_⟩
 ·omega
 ·obtain⟨x,y,_⟩:=LU b.1 b.2
  refine⟨?_,b,d⟩;rw[c];simp[FB,x,y]
 ·omega
theorem KO.frame_kind {n:Nat} (hn:n<16) (hw:(AO p.pages n).w=1):(AO p.pages n).a.toNat<12∧A7 p.kern (AO p.pages n).a.toNat=1:=by
 obtain⟨a,b,_⟩:=h.frame_names hn hw;have hl:=h.low_kind (i:=n/4) (by omega);have ha:BX (DC p n)=true∧Ax (DC p n)=(AO p.pages n).a.toNat:=by simpa[FB] using a
 have hm:=K7 (m:=p.kern.mem) (f:=(D6 p.low (n/4)).toNat) (i:=n%4) ha.1;have:=h.k.named hl.1 (by rw[hl.2];rfl) hm;have e:Ax (Am p.kern.mem (D6 p.low (n/4)).toNat (n%4))=(AO p.pages n).a.toNat:=ha.2;rw[e] at this;exact⟨this.1,by omega⟩
theorem KO.frame_inj {n m:Nat} (hn:n<16) (hm:m<16) (hw:(AO p.pages n).w=1) (hw':(AO p.pages m).w=1) (e:(AO p.pages n).a.toNat=(AO p.pages m).a.toNat):n=m:=by obtain⟨a,b,c⟩:=h.frame_names hn hw;obtain⟨a',_,_⟩:=h.frame_names hm hw';rw[←e] at a';have hl:=h.low_kind (i:=n/4) (by omega);have hl':=h.low_kind (i:=m/4) (by omega);have hk:=h.frame_kind hn hw;have:=h.k.once hk.1 c.2 hl.1 (by rw[hl.2];rfl) (i:=n%4) (by omega) a hl'.1 (by rw[hl'.2];rfl) (i':=m%4) (by omega) a';have:=h.low_inj (by omega) (by omega) this.1;omega
end
theorem QD {α:Type} {q:α→Bool} {l:List α} {n:Nat} {y d:α} (hn:n<l.length):(l.set n y).countP q+GG (q (l.getD n d))=l.countP q+GG (q y):=by
 induction l generalizing n with
 |nil=>simp at hn
 |cons x r ih=>
  cases n with
  |zero=>simp only[List.set_cons_zero,List.countP_cons,List.getD_cons_zero,GG];omega
  |succ n=>simp only[List.set_cons_succ,List.countP_cons,List.getD_cons_succ];have:=ih (n:=n) (by simpa using hn);omega
theorem Rs {l:List DI} {n m:Nat} {x:DI}:AO (l.set n x) m=if m=n∧n<l.length then x else AO l m:=Hj
theorem TE {l:List DI} {n:Nat} {y:DI} {w:Int} (hn:n<l.length):DT (l.set n y) w+GG (TY w (AO l n))=DT l w+GG (TY w y):=QD hn
theorem count_le {l:List DI} {n:Nat} (hn:n<l.length) {w:Int} (hw:(AO l n).w≠w):DT l w+1≤l.length:=by
 have h1:=TE (y:=⟨w,0,false⟩) (w:=w) hn;have h2:DT (l.set n ⟨w,0,false⟩) w≤(l.set n ⟨w,0,false⟩).length:=List.countP_le_length;rw[List.length_set] at h2;have h3:GG (TY w (AO l n))=0:=by simp[TY,hw,GG]
 have h4:GG (TY w ⟨w,0,false⟩)=1:=by simp[TY,GG]
 omega
theorem U7 {m:List (List Int)} {t b f i:Nat} {w:Int} (ht:t<m.length) (hb:b<(AL m t).length):Am (Ch m t b w) f i=if f=t∧i=b then w else Am m f i:=by
 unfold Am;rw[Jh]
 by_cases e:f=t
 ·subst e
  rw[if_pos ⟨rfl,ht⟩,Hj]
  by_cases e2:i=b
  ·simp[e2,hb]
  ·simp[e2]
 ·simp[e]
end Go.Proofs.YtnieoiclifjoaaaGreatDoor
set_option linter.unusedVariables false
namespace Go.Proofs.YtnieoiclifjoaaaGreatDoor
open Go.Proofs.Tryz
open Go.RowKit
theorem MB {P:Program} {f:FuncId} {args:Array Value} {w1:World} {v:Value} (h:∀w',Below w1.heap.size w1 w'→Calls P f args w' fun e w''=>e= .returned v∧Below w'.heap.size w' w''):
 ∀d os,Calls P f args (Sort.grow (redrawn w1 d) os) fun e w''=>e= .returned v∧∃p:Regrown,w''=Sort.grow (redrawn w1 p.d) p.os:=fun d os=>Calls.regrown_of (h _ (below_regrown w1 d os))
theorem Gx {P:Program} {f:FuncId} {args:Array Value} {w1:World} {v:Value} (h:∀w',Calls P f args w' fun e w''=>e= .returned v∧w'=w''):
 ∀d os,Calls P f args (Sort.grow (redrawn w1 d) os) fun e w''=>e= .returned v∧∃p:Regrown,w''=Sort.grow (redrawn w1 p.d) p.os:=MB fun w' _=>(h w').mono fun e w'' ⟨he,hw⟩=>⟨he,hw▸Below.refl _ _⟩
theorem Ae {P:Program} {f:FuncId} {args:Array Value} {w:World} {v:Value} (h:Calls P f args w fun e w'=>e= .returned v∧w=w'):Calls P f args w fun e w'=>e= .returned v∧Below w.heap.size w w':=h.mono fun e w'' ⟨he,hw⟩=>⟨he,hw▸Below.refl _ _⟩
theorem K1 {P:Program} {f:FuncId} {args:Array Value} {w:World} {v:Value} (h:Calls P f args w fun e w'=>e= .returned v∧∃n,w'=w.drewN n):Calls P f args w fun e w'=>e= .returned v∧Below w.heap.size w w':=
 h.mono fun e w'' ⟨he,n,hw⟩=>⟨he,hw▸Ar (Below.refl _ _) n⟩
theorem Lf {a b:Value} (h:a=b):Ending.returned a= .returned b:=by rw[h]
section
variable {w:World} {a:Option Addr}
theorem Px.infoCells {xs:List AQ} (h:Px 3 Ag w a xs) {k:Nat} (hk:k<xs.length):∃b off,a=some ⟨b,off,none⟩∧b<w.heap.size∧w.cell? ⟨b,off+k*3,none⟩=some (.int .i64 (infoAt xs k).k)∧w.cell? ⟨b,off+k*3+1,none⟩=some (.string (infoAt xs k).g)∧w.cell? ⟨b,off+k*3+2,none⟩=some (.int .i64 (infoAt xs k).r):=by obtain⟨b,off,rfl,hlt,hc⟩:=h k (infoAt xs k) (by simp[infoAt,hk]);exact⟨b,off,rfl,hlt,hc 0 _ rfl,hc 1 _ rfl,hc 2 _ rfl⟩
theorem Px.cachedCells {xs:List Aa} (h:Px 4 AP w a xs) {k:Nat} (hk:k<xs.length):∃b off,a=some ⟨b,off,none⟩∧b<w.heap.size∧w.cell? ⟨b,off+k*4,none⟩=some (.int .i64 (Ac xs k).e)∧w.cell? ⟨b,off+k*4+1,none⟩=some (.int .i64 (Ac xs k).p)∧w.cell? ⟨b,off+k*4+2,none⟩=some (.int .i64 (Ac xs k).f)∧w.cell? ⟨b,off+k*4+3,none⟩=some (.bool (Ac xs k).w):=by obtain⟨b,off,rfl,hlt,hc⟩:=h k (Ac xs k) (by simp[Ac,hk]);exact⟨b,off,rfl,hlt,hc 0 _ rfl,hc 1 _ rfl,hc 2 _ rfl,hc 3 _ rfl⟩
end
theorem G9.cellAt {w:World} {a:Option Addr} {xs:List Int} (h:G9 w a xs) {k:Nat} (hk:k<xs.length):∃b off,a=some ⟨b,off,none⟩∧b<w.heap.size∧w.cell? ⟨b,off+k,none⟩=some (.int .i64 (nth xs k)):=by obtain⟨b,off,rfl,hc⟩:=h.at hk;exact⟨b,off,rfl,World.block_lt_of_cell? w _ hc,hc⟩
def JO (w:World) (a:Option Addr) (m:List (List Int)):Prop:=∀f,f<m.length→∃b off u,a=some ⟨b,off,none⟩∧b<w.heap.size∧w.cell? ⟨b,off+f,none⟩=some u∧Ap w u (AL m f)
theorem BJ.open {w:World} {v:Value} {m:List (List Int)} (h:BJ w v m):∃a cap,v= .slice a m.length cap∧m.length≤cap∧cap≤maxLen∧JO w a m:=by
 obtain⟨vs,h1,h2⟩:=h;obtain⟨a,cap,rfl,hc,hcm,H⟩:=A3.open EG (by decide) h1;refine⟨a,cap,by rw[h2.1],by rw[←h2.1];exact hc,hcm,fun f hf=>?_⟩;have hv:f<vs.length:=by rw[h2.1];exact hf
 obtain⟨b,off,rfl,hlt,hcell⟩:=H f _ (List.getElem?_eq_getElem hv);refine⟨b,off,vs[f],rfl,hlt,by simpa using hcell 0 _ rfl,h2.2 f _ _ (List.getElem?_eq_getElem hv) ?_⟩;unfold AL;exact A8 hf
theorem JO.below {w w':World} {a:Option Addr} {m:List (List Int)} (h:JO w a m) (hb:Below w.heap.size w w'):JO w' a m:=by intro f hf;obtain⟨b,off,u,rfl,hlt,hc,hr⟩:=h f hf;exact⟨b,off,u,rfl,Nat.lt_of_lt_of_le hlt hb.size,(hb.cell (p:=⟨b,off+f,none⟩) hlt).trans hc,hr.below hb⟩
def Om (w:World) (a:Option Addr) (bs:List Int):Prop:=
 ∀k,k<bs.length→∃b off,a=some ⟨b,off,none⟩∧∀j,j<bs.length→w.cell? ⟨b,off+j,none⟩=some (.int .u8 (nth bs j))∧0≤nth bs j∧nth bs j<256
theorem FR.open {w:World} {v:Value} {xs:List Int} (h:FR w v xs):
 ∃a cap,v= .slice a xs.length cap∧xs.length≤cap∧cap≤maxLen∧Om w a xs:=by
 obtain⟨⟨a,cap,rfl,hnc,hcm,hl,_,hc⟩,hby⟩:=h;refine⟨a,cap,rfl,hnc,hcm,fun k hk=>?_⟩;obtain⟨b,off,rfl,hcell⟩:=hc (by omega);refine⟨b,off,rfl,fun j hj=>⟨?_,?_⟩⟩
 ·rw[hcell j (by omega),List.getElem?_map,NB hj]
  rfl
 ·rw[Lc hj]
  exact hby _ (List.getElem_mem hj)
theorem Om.at {w:World} {a:Option Addr} {xs:List Int} (h:Om w a xs) {k:Nat} (hk:k<xs.length):
 ∃b off,a=some ⟨b,off,none⟩∧w.cell? ⟨b,off+k,none⟩=some (.int .u8 (nth xs k))∧0≤nth xs k∧nth xs k<256:=by
 obtain⟨b,off,rfl,hc⟩:=h k hk;exact⟨b,off,rfl,hc k hk⟩
def Ea (w0 w:World) (R:Value) (N:Nat):Prop:=
 ∃g bsv bs,∃p:Nat,R= .pointer (some ⟨g,0,none⟩)∧w0.heap.size≤g∧w.heap[g]? =some (.cells #[bsv, .int .i64 p] 117 (0,0))∧FR w0 bsv bs∧bs.length≤2000∧p≤N
theorem SY {X:Int} (h0:0≤X) (h1:X≤1000000000):0≤bits .xor .i64 X (X/64):=by
 obtain⟨x,rfl⟩:=Int.eq_ofNat_of_zero_le h0;have e:((x:Int)/64)=((x/64:Nat):Int):=by omega
 have ha:x<2 ^ 40:=by omega
 have hb:x/64<2 ^ 40:=by omega
 have ha':x%2 ^ IntKind.i64.bits=x:=Nat.mod_eq_of_lt (Nat.lt_of_lt_of_le ha (by decide));have hb':x/64%2 ^ IntKind.i64.bits=x/64:=Nat.mod_eq_of_lt (Nat.lt_of_lt_of_le hb (by decide));have hx:x ^^^ (x/64)<2 ^ 40:=Nat.xor_lt_two_pow ha hb;rw[e];simp only[bits,BitVec.ofInt_natCast,BitVec.toNat_xor,BitVec.toNat_ofNat,ha',hb'];rw[IntWalk.i64_in _ (by omega)];omega
def Q5 (w0 w:World) (R:Value) (N:Nat) (n:Int) (e:Ending) (w':World):Prop:=
 ∃x:Int,e= .returned (.int .i64 x)∧(0≤x∧(0<n→x<n)∧(n≤0→x=0))∧Ea w0 w' R (N+1)∧Below w0.heap.size w0 w'∧∃g,R= .pointer (some ⟨g,0,none⟩)∧w.grownBy w' (some g)
theorem Ea.stored {w0 w:World} {g p N:Nat} {bsv:Value} {bs:List Int} {n:Int} (hg:w0.heap.size≤g) (hblk:w.heap[g]? =some (.cells #[bsv, .int .i64 p] 117 (0,0))) (hr:FR w0 bsv bs) (hlen:bs.length≤2000) (hp:p≤N) (hb:Below w0.heap.size w0 w):
 ∀(k:Nat) (x:Int),0≤x→(0<n→x<n)→(n≤0→x=0)→Q5 w0 w (.pointer (some ⟨g,0,none⟩)) N n (.returned (.int .i64 x)) ((w.setCell ⟨g,1,none⟩ (.int .i64 (p+1))).drewN k):=by
 intro k x h1 h2 h3;refine⟨x,rfl,⟨h1,h2,h3⟩,⟨g,bsv,bs,p+1,rfl,hg,?_,hr,hlen,by omega⟩,Ar (hb.setCell hg _) k,g,rfl,?_⟩
 ·have:=heap_setCell_same w g 1 #[bsv, .int .i64 p] 117 (.int .i64 (p+1)) hblk
  simpa using this
 ·refine⟨rfl,rfl,rfl,by simp[World.drewN],fun b hb' hne=>?_⟩
  exact heap_setCell_other w ⟨g,1,none⟩ b _ (fun e=>hne (by simp[e]))
theorem Uu (w0:World) (R:Value) (N:Nat) (n:Int) (w:World) (h:Ea w0 w R N) (hb:Below w0.heap.size w0 w) (hN:N≤1000000) (hn:n≤1000000):
 Calls prog 38 #[R, .int .i64 n] w (Q5 w0 w R N n):=by
 obtain⟨g,bsv,bs,p,rfl,hg,hblk,hR,hlen,hp⟩:=h;have S:=AA (Ea.stored (n:=n) hg hblk hR hlen hp hb);have c0:w.cell? ⟨g,0,none⟩=some bsv:=cell_of_row w g 0 _ _ _ hblk;have c1:w.cell? ⟨g,1,none⟩=some (.int .i64 p):=cell_of_row w g 1 _ _ _ hblk;have f1:w.frozen? ⟨g,1,none⟩=false:=frozen_of_row w g 1 _ _ hblk;clear hblk
 by_cases h1:n<1
 ·go_in
  go_wp2;go_ret;exact S.out 0 0 (by omega) (by omega) (by omega)
 obtain⟨a,c,hv,hc,hcm,hA⟩:=hR.open;subst hv;unfold maxLen at hcm
 by_cases h2:bs.length=0
 ·have h2':((bs.length:Int)==0)=true:=by simp[h2]
  clear h2;go_in;go_wp2;go_ret;exact S.out 0 0 (by omega) (by omega) (by omega)
 have h2':((bs.length:Int)==0)=false:=by simp[h2]
 have h2'':0<bs.length:=by omega
 clear h2
 by_cases h3:p<bs.length
 ·obtain⟨b,off,rfl,D0,hb0,hb1⟩:=hA.at h3
  have hbl:=World.block_lt_of_cell? w0 _ D0;have D:w.cell? ⟨b,off+p,none⟩=some (.int .u8 (nth bs p)):=(hb.cell hbl).trans D0;clear D0 hA;have hne:b≠g:=by rintro rfl;simp at hbl;omega
  clear hbl;go_in;go_wp2;go_ret;exact S.out 0 _ (Int.emod_nonneg _ (by omega)) (fun _=>Int.emod_lt_of_pos _ (by omega)) (by omega)
 ·have m1:(p:Int).tmod bs.length=(p:Int)%bs.length:=Int.tmod_eq_emod_of_nonneg (by omega)
  have m2:0≤(p:Int)%bs.length:=Int.emod_nonneg _ (by omega);have m3:(p:Int)%bs.length<bs.length:=Int.emod_lt_of_pos _ (by omega);have m4:((p:Int)%bs.length).toNat=p%bs.length:=by rw[show(p:Int)%bs.length=((p%bs.length:Nat):Int) from rfl,Int.toNat_natCast]
  have q1:0≤(p:Int)/bs.length:=Int.ediv_nonneg (by omega) (by omega);have q2:(p:Int)/bs.length≤p:=Int.ediv_le_self _ (by omega);have s1:IntKind.i64.wrap ((p:Int)*7)=p*7:=IntWalk.i64_in _ (by omega);have s2:IntKind.i64.wrap ((p:Int)*7+3)=p*7+3:=IntWalk.i64_in _ (by omega);have k1:((p:Int)*7+3).tmod bs.length=((p:Int)*7+3)%bs.length:=Int.tmod_eq_emod_of_nonneg (by omega);have k2:0≤((p:Int)*7+3)%bs.length:=Int.emod_nonneg _ (by omega);have k3:((p:Int)*7+3)%bs.length<bs.length:=Int.emod_lt_of_pos _ (by omega);have k4:(((p:Int)*7+3)%bs.length).toNat=(p*7+3)%bs.length:=by rw[show((p:Int)*7+3)%bs.length=(((p*7+3)%bs.length:Nat):Int) by push_cast;rfl,Int.toNat_natCast]
  have hl1:p%bs.length<bs.length:=Nat.mod_lt _ h2'';have hl2:(p*7+3)%bs.length<bs.length:=Nat.mod_lt _ h2'';obtain⟨b,off,rfl,D0,hb0,hb1⟩:=hA.at hl1;obtain⟨b',off',hbb,E0,hc0,hc1⟩:=hA.at hl2;obtain⟨rfl,rfl⟩:b=b'∧off=off':=by simpa using hbb
  clear hbb hA;have hbl:=World.block_lt_of_cell? w0 _ D0;have D:w.cell? ⟨b,off+p%bs.length,none⟩=some (.int .u8 (nth bs (p%bs.length))):=(hb.cell hbl).trans D0;have E:w.cell? ⟨b,off+(p*7+3)%bs.length,none⟩=some (.int .u8 (nth bs ((p*7+3)%bs.length))):=(hb.cell (p:=⟨b,off+(p*7+3)%bs.length,none⟩) hbl).trans E0;clear D0 E0;have hne:b≠g:=by rintro rfl;simp at hbl;omega
  clear hbl;go_in;go_wp2;go_quiet (fail);have x0:0≤nth bs (p%bs.length)*131+nth bs ((p*7+3)%bs.length)*1117+(p:Int)*29+(p:Int)/bs.length*53:=by omega
  have x1:nth bs (p%bs.length)*131+nth bs ((p*7+3)%bs.length)*1117+(p:Int)*29+(p:Int)/bs.length*53≤1000000000:=by omega
  generalize nth bs (p%bs.length)*131+nth bs ((p*7+3)%bs.length)*1117+(p:Int)*29+(p:Int)/bs.length*53=X at x0 x1 ⊢;go_wp2;go_ret;have y0:=SY x0 (by omega:X≤1000000000);exact S.out _ _ (Int.tmod_nonneg _ y0) (fun hn0=>by rw[Int.tmod_eq_emod_of_nonneg y0];exact Int.emod_lt_of_pos _ hn0) (by omega)
def UJ (w:World) (e:Ending) (w':World):Prop:=∃R,e= .returned R∧Ea w w' R 0∧Below w.heap.size w w'
theorem FR.take {w:World} {a:Option Addr} {c:Nat} {bs:List Int} (h:FR w (.slice a bs.length c) bs) (k:Nat) (hk:k≤bs.length):FR w (.slice a k c) (bs.take k):=by
 obtain⟨⟨a',cap,hv,hnc,hcm,hl,hnil,hc⟩,hby⟩:=h;simp only[Value.slice.injEq,true_and] at hv;obtain⟨rfl,rfl⟩:=hv;have e:(bs.take k).length=k:=by rw[List.length_take];omega
 refine⟨⟨a,c,by rw[e],by omega,hcm,by simp,hnil,fun hn=>?_⟩,fun b hb=>hby b (List.mem_of_mem_take hb)⟩;rw[e] at hn ⊢;obtain⟨b,off,rfl,hcell⟩:=hc (by omega);refine⟨b,off,rfl,fun j hj=>?_⟩;rw[hcell j (by omega),List.map_take,List.getElem?_take,if_pos (by omega)]
theorem Ea.opened {w:World} {bsv:Value} {bs:List Int} (h:FR w bsv bs) (hl:bs.length≤2000):UJ w (.returned (.pointer (some ⟨w.heap.size,0,none⟩))) (w.alloc (.cells #[bsv, .int .i64 0] 117)):=
 ⟨_,rfl,⟨_,bsv,bs,0,rfl,Nat.le_refl _,heap_alloc_new w _,h,hl,Nat.le_refl _⟩,(Below.refl _ _).alloc (Nat.le_refl _) _⟩
theorem Rm (v:Value) (bs:List Int) (w:World) (h:FR w v bs):
 Calls prog 37 #[v] w (UJ w):=by
 obtain⟨a,c,hv,hc,hcm,hA⟩:=h.open;subst hv;unfold maxLen at hcm
 by_cases hl:bs.length≤2000
 ·have S:=AA (Ea.opened h hl)
  have hl':¬(2000<bs.length):=by omega
  clear hl hA;go_in;go_wp2;go_ret;exact S.out
 ·have S:=AA (Ea.opened (h.take 2000 (by omega)) (by rw[List.length_take];omega))
  have hl':2000<bs.length:=by omega
  have hl2:2000≤c:=by omega
  obtain⟨b,off,rfl,_⟩:=hA.at (k:=0) (by omega);clear hl hA;go_in;go_wp2;go_ret;exact S.out
theorem Ea.lt {w0 w:World} {R:Value} {N:Nat} (h:Ea w0 w R N):∃g,R= .pointer (some ⟨g,0,none⟩)∧g<w.heap.size:=by obtain⟨g,bsv,bs,p,rfl,hg,hblk,_⟩:=h;exact⟨g,rfl,(Array.getElem?_eq_some_iff.1 hblk).1⟩
theorem Ea.keep {w0 w w':World} {R:Value} {N:Nat} (h:Ea w0 w R N) (hb:Below w.heap.size w w'):Ea w0 w' R N:=by obtain⟨g,bsv,bs,p,rfl,hg,hblk,hr⟩:=h;exact⟨g,bsv,bs,p,rfl,hg,(hb.block g (Array.getElem?_eq_some_iff.1 hblk).1).trans hblk,hr⟩
theorem Ea.kept {w0 w w':World} {R:Value} {N lo:Nat} (h:Ea w0 w R N) {g:Nat} (hR:R= .pointer (some ⟨g,0,none⟩)) (hlt:g<lo) (hb:Below lo w w'):Ea w0 w' R N:=by
 obtain⟨g',bsv,bs,p,rfl,hg,hblk,hr⟩:=h;obtain rfl:g'=g:=by simpa using hR
 exact⟨g',bsv,bs,p,rfl,hg,(hb.block g' hlt).trans hblk,hr⟩
theorem Ea.mono {w0 w:World} {R:Value} {N M:Nat} (h:Ea w0 w R N) (hm:N≤M):Ea w0 w R M:=by obtain⟨g,bsv,bs,p,e1,hg,hblk,hr,hl,hp⟩:=h;exact⟨g,bsv,bs,p,e1,hg,hblk,hr,hl,Nat.le_trans hp hm⟩
theorem Pa {lo:Nat} {w w':World} {v:Value} {e sz n:Nat} {xs:List Value} {g:Nat} (h:w.ownsRow lo e sz v n xs) (hg:w.grownBy w' (some g)) (hlt:g<lo):w'.ownsRow lo e sz v n xs:=by
 refine World.ownsRow.kept h hg ?_;cases hv:v.ownBlock with
 |none=>exact .inl rfl
 |some k=>
  have:=(h.lt k hv).1;refine .inr fun e=>?_
  simp at e;omega
def D9 (w0:World) (lo g N:Nat) (o:Value) (xs:List Int) (w:World):Prop:=
 g<lo∧lo≤w.heap.size∧w0.heap.size≤lo∧Ea w0 w (.pointer (some ⟨g,0,none⟩)) N∧Below w0.heap.size w0 w∧AE lo w o xs
theorem D9.pick {w0 w w':World} {lo g N:Nat} {o:Value} {xs:List Int} {n:Int} {e:Ending} (h:D9 w0 lo g N o xs w) (hp:Q5 w0 w (.pointer (some ⟨g,0,none⟩)) N n e w'):
 ∃x:Int,e= .returned (.int .i64 x)∧0≤x∧(0<n→x<n)∧D9 w0 lo g (N+1) o xs w'∧w.grownBy w' (some g):=by
 obtain⟨h1,h2,h3,h4,h5,h6⟩:=h;obtain⟨x,rfl,⟨hx1,hx2,hx3⟩,hr,hb1,g1,hg1,hgr⟩:=hp;obtain rfl:g=g1:=by simpa using hg1
 exact⟨x,rfl,hx1,hx2,⟨h1,Nat.le_trans h2 hgr.size,h3,hr,hb1,Pa h6 hgr h1⟩,hgr⟩
theorem D9.append {w0 w w':World} {lo g N:Nat} {o o':Value} {xs:List Int} {x:Int} (h:D9 w0 lo g N o xs w) (hb:Below lo w w') (ho:w'.ownsRow lo 3 1 o' (xs.length+1) (xs.map (Value.int .i64)++[.int .i64 x])):D9 w0 lo g N o' (xs++[x]) w':=by obtain⟨h1,h2,h3,h4,h5,h6⟩:=h;refine⟨h1,Nat.le_trans h2 hb.size,h3,h4.kept rfl h1 hb,h5.trans (hb.mono h3),?_⟩;simpa[AE] using ho
theorem D9.step {w0 w w':World} {lo g N:Nat} {o:Value} {xs:List Int} (h:D9 w0 lo g N o xs w) (hb:Below w.heap.size w w'):D9 w0 lo g N o xs w':=by obtain⟨h1,h2,h3,h4,h5,h6⟩:=h;exact⟨h1,Nat.le_trans h2 hb.size,h3,h4.keep hb,h5.trans (hb.mono (Nat.le_trans h3 h2)),h6.below hb⟩
theorem D9.alloc {w0 w:World} {lo g N:Nat} {o:Value} {xs:List Int} (h:D9 w0 lo g N o xs w) (ob:Obj):D9 w0 lo g N o xs (w.alloc ob):=h.step ((Below.refl _ _).alloc (Nat.le_refl _) _)
theorem D9.set {w0 w:World} {lo g N:Nat} {q cap a:Nat} {xs:List Int} {x:Int} (h:D9 w0 lo g N (.slice (some ⟨q,0,none⟩) xs.length cap) xs w):D9 w0 lo g N (.slice (some ⟨q,0,none⟩) xs.length cap) (xs.set a x) (w.setCell ⟨q,a,none⟩ (.int .i64 x)):=by obtain⟨h1,h2,h3,h4,h5,h6⟩:=h;have hq:=(h6.lt q rfl).1;have S:=World.ownsRow.stored h6 a (.int .i64 x);have hb:Below lo w (w.setCell ⟨q,a,none⟩ (.int .i64 x)):=(Below.refl _ _).setCell hq _;exact⟨h1,Nat.le_trans h2 hb.size,h3,h4.kept rfl h1 hb,h5.trans (hb.mono h3),VU S.1⟩
theorem D9.mono {w0 w:World} {lo g N M:Nat} {o:Value} {xs:List Int} (h:D9 w0 lo g N o xs w) (hm:N≤M):D9 w0 lo g M o xs w:=by obtain⟨h1,h2,h3,h4,h5,h6⟩:=h;exact⟨h1,h2,h3,h4.mono hm,h5,h6⟩
theorem Kb {lo lo':Nat} {w:World} {v:Value} {xs:List Int} (h:AE lo w v xs) (hl:lo'≤lo):AE lo' w v xs:=by
 refine⟨h.1,?_⟩
 rcases h.2 with h'|⟨g,cap,cur,rfl,hb,rest⟩
 ·exact .inl h'
 ·exact .inr ⟨g,cap,cur,rfl,Nat.le_trans hl hb,rest⟩
def JI (xs:List Int):Bool:=xs.length==4&&xs.all (Bk · 0 9999)
theorem KX (n:Int) (w:World):
 Calls prog 89 #[.int .i64 n] w fun e w'=>e= .returned (.bool (Bk n 0 9999))∧w=w':=by
 go_in;go_wp2_with (go_at_call 39;refine(Cs _ _ _ _).mono ?_;rintro e w' ⟨rfl,rfl⟩);go_ret;exact⟨rfl,rfl⟩
theorem PP (n:Int) (w:World):
 Calls prog 185 #[.int .i64 n] w fun e w'=>e= .returned (.bool (!Bk n 0 9999))∧w=w':=by
 go_in;go_wp2_with (go_at_call 89;refine(KX _ _).mono ?_;rintro e w' ⟨rfl,rfl⟩);go_ret;exact⟨rfl,rfl⟩
theorem Qw (xs:List Int):(!xs.any fun x=>!Bk x 0 9999)=xs.all (Bk · 0 9999):=by simp[List.all_eq_not_any_not]
theorem Lo (v:Value) (xs:List Int) (w:World) (h:Ap w v xs):
 Calls prog 116 #[v] w fun e w'=>e= .returned (.bool (JI xs))∧w=w':=by
 obtain⟨a,c,rfl,hc,hcm,H0⟩:=h.open;unfold maxLen at hcm
 by_cases h4:xs.length=4
 ·have e1:JI xs=xs.all (Bk · 0 9999):=by simp[JI,h4]
  have hb:((xs.length:Int)==4)=true:=by simp[h4]
  have H:=AA e1;clear e1;clear h4;go_in;go_wp2_with (go_at_call 176;refine(LG 185 #[] (fun x=>!Bk x 0 9999) _ xs _ h (fun _ _=>by kernel_rfl) (fun x w=>PP x w)).mono ?_;rintro e w' ⟨rfl,rfl⟩);go_ret;exact⟨AK (by rw[H.out,Qw]),rfl⟩
 ·have e1:JI xs=false:=by simp[JI,h4]
  have hb:((xs.length:Int)==4)=false:=by simp;omega
  have H:=AA e1;clear e1;clear h4;go_in;go_wp2_with fail;go_ret;exact⟨AK H.out.symm,rfl⟩
structure OE where
 k:Int
 a:Int
 x:Int
 ck:Int
 ce:Int
 ca:Int
 cb:Int
 cc:Int
 nm:ByteArray
def OE.cells (s:OE):Array Value:= #[.int .i64 s.k, .int .i64 s.a, .int .i64 s.x, .int .i64 s.ck, .int .i64 s.ce, .int .i64 s.ca, .int .i64 s.cb, .int .i64 s.cc, .string s.nm]
def OE.val (s:OE):Value:= .agg s.cells
def OE.ok (s:OE):Bool:=if s.k=1 then Bk s.a 0 63 else if s.k=2 then Bk s.a 0 63&&Bk s.x 0 9999 else if s.k=3 then Bk s.ce 1 2 else false
theorem IW (n:Int) (w:World):
 Calls prog 87 #[.int .i64 n] w fun e w'=>e= .returned (.bool (Bk n 0 63))∧w=w':=by
 go_in;go_wp2_with (go_at_call 39;refine(Cs _ _ _ _).mono ?_;rintro e w' ⟨rfl,rfl⟩);go_ret;exact⟨rfl,rfl⟩
theorem EY (n:Int) (w:World):
 Calls prog 145 #[.int .i64 n] w fun e w'=>e= .returned (.bool (Bk n 0 63))∧w=w':=by
 go_in;go_wp2_with (go_at_call 44;refine(DV _ _ _ _).mono ?_;rintro e w' ⟨rfl,rfl⟩);go_ret;exact⟨rfl,rfl⟩
theorem BT (n:Int) (w:World):Calls prog 94 #[.int .i64 n] w fun e w'=>e= .returned (.bool (Bk n 0 11))∧w=w':=by go_in;go_wp2_with (go_at_call 39;refine(Cs _ _ _ _).mono ?_;rintro e w' ⟨rfl,rfl⟩);go_ret;exact⟨rfl,rfl⟩
theorem Ln (n:Int) (w:World):Calls prog 252 #[.int .i64 n] w fun e w'=>e= .returned (.bool (Bk n 0 3))∧w=w':=by go_in;go_wp2_with (go_at_call 39;refine(Cs _ _ _ _).mono ?_;rintro e w' ⟨rfl,rfl⟩);go_ret;exact⟨rfl,rfl⟩
theorem Rf (n:Int) (w:World):Calls prog 158 #[.int .i64 n] w fun e w'=>e= .returned (.bool (Bk n 0 15))∧w=w':=by go_in;go_wp2_with (go_at_call 39;refine(Cs _ _ _ _).mono ?_;rintro e w' ⟨rfl,rfl⟩);go_ret;exact⟨rfl,rfl⟩
theorem Iq (f:Int) (w:World) (h0:0≤f) (h1:f≤11):Calls prog 42 #[.int .i64 f, .bool true] w fun e w'=>e= .returned (.tuple #[.int .i64 (J5 f), .bool true])∧w=w':=by have H:=AA (show Bk f 0 11=true from AZ.2 ⟨h0,h1⟩);go_in;go_wp2_with (go_at_call 94;refine(BT _ _).mono ?_;rintro e w' ⟨rfl,rfl⟩;rw[H.out]);go_ret2;exact⟨rfl,rfl⟩
theorem Lj (f:Int) (b:Bool) (w:World) (h:Bk f 0 11=false):Calls prog 42 #[.int .i64 f, .bool b] w fun e w'=>e= .returned (.tuple #[.int .i64 0, .bool false])∧w=w':=by have H:=AA h;clear h;go_in;go_wp2_with (go_at_call 94;refine(BT _ _).mono ?_;rintro e w' ⟨rfl,rfl⟩;rw[H.out]);go_ret2;exact⟨rfl,rfl⟩
theorem QI {x:Int} (h:BX x=true):0<x∧x<48∧x%2=1:=by simp only[BX,Bool.and_eq_true,decide_eq_true_eq] at h;omega
theorem QH {x:Int} (h:BX x=true):((Ax x:Nat):Int)=x/4:=by have:=QI h;unfold Ax;omega
def PI (x:Int):Value:= .tuple #[.int .i64 (if BX x then((Ax x:Nat):Int) else 0), .bool (BX x&&Iw x), .bool (BX x)]
theorem Di {x:Int} (h:BX x=true):PI x= .tuple #[.int .i64 ((Ax x:Nat):Int), .bool (Iw x), .bool true]:=by simp[PI,h]
theorem Do {x:Int} (h:BX x=false):PI x= .tuple #[.int .i64 0, .bool false, .bool false]:=by simp[PI,h]
theorem EL (x:Int) (w:World) (hx:x≤9223372036854775807):Calls prog 175 #[.int .i64 x] w fun e w'=>e= .returned (PI x)∧w=w':=by
 by_cases h0:x<0
 ·have E:=AA (Do (x:=x) (by simp[BX];omega))
  go_in;go_wp2_with fail;go_ret3;exact⟨Lf E.out.symm,rfl⟩
 ·have h0':0≤x:=by omega
  by_cases h1:x%2=0
  ·have E:=AA (Do (x:=x) (by simp[BX];omega))
   have t:(x%2==0)=true:=by simp[h1]
   clear h1;go_in;go_wp2_with fail;go_ret3;exact⟨Lf E.out.symm,rfl⟩
  ·have t:(x%2==0)=false:=by simp;omega
   cases hb:Bk (x/4) 0 11
   ·have E:=AA (Do (x:=x) (by have:=Rc.1 hb;simp[BX];omega))
    have H:=AA hb;clear hb h1;go_in;go_wp2_with (go_at_call 94;refine(BT _ _).mono ?_;rintro e w' ⟨rfl,rfl⟩;rw[H.out]);go_ret3;exact⟨Lf E.out.symm,rfl⟩
   ·have hg:BX x=true:=by have:=AZ.1 hb;simp[BX];omega
    have W:Iw x=(x%4==3):=by cases h:(x%4==3)<;>simp_all[Iw]
    have E:=AA (show PI x= .tuple #[.int .i64 (x/4), .bool (x%4==3), .bool true] by rw[Di hg,QH hg,W]);clear W;have H:=AA hb;clear hb h1 hg;go_in;go_wp2_with (go_at_call 94;refine(BT _ _).mono ?_;rintro e w' ⟨rfl,rfl⟩;rw[H.out]);go_ret3;exact⟨Lf E.out.symm,rfl⟩
theorem MQ (a:Nat) (w:World) (h:a<64):Calls prog 183 #[.int .i64 a] w fun e w'=>e= .returned (.tuple #[.int .i64 ((a/16:Nat):Int), .int .i64 ((a/4%4:Nat):Int), .int .i64 ((a%4:Nat):Int), .bool true])∧w=w':=by
 have H:=AA (show Bk (a:Int) 0 63=true from AZ.2 (by omega));have e1:(a:Int)/16=((a/16:Nat):Int):=by omega
 have e2:(a:Int)/4%4=((a/4%4:Nat):Int):=by omega
 have e3:(a:Int)%4=((a%4:Nat):Int):=by omega
 have E:=AA (And.intro e1 (And.intro e2 e3));clear e1 e2 e3;go_in;go_wp2_with (go_at_call 87;refine(IW _ _).mono ?_;rintro e w' ⟨rfl,rfl⟩;rw[H.out]);refine bodyPost_ret (v:= .tuple #[.int .i64 ((a:Int)/16), .int .i64 ((a:Int)/4%4), .int .i64 ((a:Int)%4), .bool true]) (by simp[results,Tryz.results183,go_sem]) rfl ⟨?_,rfl⟩;rw[E.out.1,E.out.2.1,E.out.2.2]
theorem JS (k:Int) (w:World):Calls prog 182 #[.int .i64 k] w fun e w'=>e= .returned (.int .i64 (Qi k))∧w=w':=by
 by_cases h3:k=3
 ·subst h3
  go_in;go_wp2_with fail;go_ret;exact⟨rfl,rfl⟩
 ·have t3:(k==3)=false:=by simp[h3]
  by_cases h2:k=2
  ·subst h2
   go_in;go_wp2_with fail;go_ret;exact⟨rfl,rfl⟩
  ·have t2:(k==2)=false:=by simp[h2]
   have E:=AA (show Qi k=0 by simp[Qi,Ba,h2,h3]);clear h2 h3;go_in;go_wp2_with fail;go_ret;exact⟨Bd E.out.symm,rfl⟩
theorem By (k:Int) (w:World):Calls prog 111 #[.int .i64 k] w fun e w'=>e= .returned (.bool (Ba k))∧w=w':=by
 by_cases h2:k=2
 ·subst h2
  go_in;go_wp2_with fail;go_ret;exact⟨rfl,rfl⟩
 ·have t2:(k==2)=false:=by simp[h2]
  have E:=AA (show Ba k=(k==3) by cases h:(k==3)<;>simp_all[Ba]);clear h2;go_in;go_wp2_with fail;go_ret;exact⟨AK E.out.symm,rfl⟩
theorem Lu (k:Int) (w:World):Calls prog 254 #[.int .i64 k] w fun e w'=>e= .returned (.int .i64 (G0 k))∧w=w':=by
 by_cases h3:k=0
 ·subst h3
  go_in;go_wp2_with fail;go_ret;exact⟨rfl,rfl⟩
 ·have t3:(k==0)=false:=by simp[h3]
  by_cases h2:k=1
  ·subst h2
   go_in;go_wp2_with fail;go_ret;exact⟨rfl,rfl⟩
  ·have t2:(k==1)=false:=by simp[h2]
   have E:=AA (show G0 k=3 by simp[G0,h2,h3]);clear h2 h3;go_in;go_wp2_with fail;go_ret;exact⟨Bd E.out.symm,rfl⟩
section
variable {P:Program}
theorem KK {id:Nat} {Q:Exit→Act→World→Prop} {a0:Act} {w0:World} {l:List Oper} (n:Nat) (hm:P.follows .mixedOrders=true) (hB:IA l n=true)
 (N:Nat) (hN:a0.tmps.size=N) (hD:UV l n N=true) (s:Nat) (row:Option Nat) (R:Nat→Value→World→Prop)
 (hmono:∀i,i<n→i≠s→∀v w w',w0.grownBy w row→w.grownBy w' row→R i v w→R i v w') (hmonoS:∀v w w',Below w.heap.size w w'→R s v w→R s v w')
 (hstep:∀i,i<n→i≠s→∀o,l[i]? =some o→∀a w,Hid (a.defers=a0.defers∧a.tmps.size=a0.tmps.size∧∀t,(∀i,i<n→AX l i≠t)→a.tmps[t]? =a0.tmps[t]?)→
  Hid (∀j,Region.waitsFor .any l.toArray i j=true→R j (a.tmps[AX l j]?.getD undef) w)→w0.grownBy w row→
  ∀K:Act→World→Prop,Hid (∀v w',R i v w'→Below w.heap.size w w'→K (a.put o.dst v) w')→AI P l o a w K Q)
 (hstepS:∀o,l[s]? =some o→∀a w,Hid (a.defers=a0.defers∧a.tmps.size=a0.tmps.size∧∀t,(∀i,i<n→AX l i≠t)→a.tmps[t]? =a0.tmps[t]?)→
  Hid (∀j,Region.waitsFor .any l.toArray s j=true→R j (a.tmps[AX l j]?.getD undef) w)→Below w0.heap.size w0 w→
  ∀K:Act→World→Prop,Hid (∀v w',R s v w'→w.grownBy w' row→K (a.put o.dst v) w')→AI P l o a w K Q)
 (htail:∀(vs:Nat→Value) w,(∀i,i<n→R i (vs i) w)→w0.grownBy w row→wpList P l.toArray Q (l.drop n) {a0 with tmps:=Ai l (List.range n) vs a0.tmps} w):
 (Code.region id l.toArray true).wp P Q a0 w0:=by
 refine Fo n hm hB N hN hD R (fun L w=>w0.grownBy w row∧(L s=false→Below w0.heap.size w0 w)) ⟨Dt (Ar (Below.refl _ _) 1) _,fun _=>Ar (Below.refl _ _) 1⟩ ?_ (fun vs w h1 _ _ h2=>htail vs w h1 h2.1);intro i hi o ho a w Hb Hd L HL hG K HK
 by_cases his:i=s
 ·subst his
  exact hstepS o ho a w Hb Hd (hG.2 HL.out.1) K (AA fun v w' h1 h2=>HK.out v w' h1 ⟨EP hG.1 h2,fun h=>by simp[JK] at h⟩ (fun j u hj hjn _ h=>hmono j hjn hj u w w' hG.1 h2 h))
 ·exact hstep i hi his o ho a w Hb Hd hG.1 K (AA fun v w' h1 h2=>HK.out v w' h1 ⟨EP hG.1 (Dt h2 _),fun h=>(hG.2 (Em h)).trans (h2.mono hG.1.size)⟩ (fun j u hj hjn _ h=>by
   by_cases hjs:j=s
   ·subst hjs;exact hmonoS u w w' h2 h
   ·exact hmono j hjn hjs u w w' hG.1 (Dt h2 _) h))
end
theorem VC {l:List Oper} {tmps:Array Value} {g d:Nat} (hd:(l[g]?).bind (·.dst)=some d) (hv:tmps[d]?.getD undef=undef):yielded l.toArray tmps g=none:=by
 have h:(l.toArray[g]?).bind (·.dst)=some d:=by simpa using hd
 unfold yielded;rw[h,Option.bind_some];cases hx:tmps[d]? with
 |none=>rfl
 |some x=>rw[hx] at hv;simp at hv;subst hv;rfl
theorem AI.un {P:Program} {l:List Oper} {o:Oper} {a:Act} {w:World} {K:Act→World→Prop} {Q:Exit→Act→World→Prop} {g d:Nat} {b:Bool} (hg:o.guard=some (g,b)) (hd:(l[g]?).bind (·.dst)=some d) (hv:a.tmps[d]?.getD undef=undef) (h:K (a.put o.dst undef) w):AI P l o a w K Q:=
 ⟨fun hw=>by rw[Region.wanted,hg] at hw;simp only[VC hd hv] at hw;cases b<;>simp at hw,fun _=>h⟩
theorem EX {w w':World} {row:Option Nat} {b o:Nat} (h:w.grownBy w' row) (hb:b<w.heap.size) (hne:row≠some b):w'.cell? ⟨b,o,none⟩=w.cell? ⟨b,o,none⟩:=World.cell?_of_block (h.block b hb (fun e=>hne e.symm))
theorem Cg (n:Int) (w:World):Calls prog 156 #[.int .i64 n] w fun e w'=>e= .returned (.bool (Bk n 0 11))∧w=w':=by go_in;go_wp2_with (go_at_call 44;refine(DV _ _ _ _).mono ?_;rintro e w' ⟨rfl,rfl⟩);go_ret;exact⟨rfl,rfl⟩
theorem Ic (n:Int) (w:World):Calls prog 264 #[.int .i64 n] w fun e w'=>e= .returned (.bool (Bk n 0 2))∧w=w':=by go_in;go_wp2_with (go_at_call 44;refine(DV _ _ _ _).mono ?_;rintro e w' ⟨rfl,rfl⟩);go_ret;exact⟨rfl,rfl⟩
theorem F6 (n:Int) (w:World):Calls prog 215 #[.int .i64 n] w fun e w'=>e= .returned (.bool (Ba n))∧w=w':=by
 by_cases h2:n=2
 ·subst h2
  go_in;go_wp2_with fail;go_ret;exact⟨rfl,rfl⟩
 ·have t2:(n==2)=false:=by simp[h2]
  have E:=AA (show Ba n=(n==3) by by_cases h3:n=3<;>simp[Ba,h2,h3]);clear h2;go_in;go_wp2_with fail;go_ret;exact⟨AK E.out.symm,rfl⟩
def Da (x:Int):Int:=if x=0 then 0 else if BX x then 1 else 2
theorem IV (x:Int) (w:World):Calls prog 286 #[.int .i64 x] w fun e w'=>e= .returned (.int .i64 (Da x))∧w=w':=by
 by_cases h0:x=0
 ·subst h0
  go_in;go_wp2_with fail;go_ret;exact⟨rfl,rfl⟩
 ·have t0:(x==0)=false:=by simp[h0]
  by_cases h1:0<x
  ·by_cases h2:x%2=1
   ·have t2:(x%2==1)=true:=by simp[h2]
    by_cases h3:x<48
    ·have E:=AA (show Da x=1 by unfold Da;rw[if_neg h0,if_pos (by simp[BX,h1,h2,h3])])
     clear h2 h0;go_in;go_wp2_with fail;go_ret;exact⟨Bd E.out.symm,rfl⟩
    ·have E:=AA (show Da x=2 by unfold Da;rw[if_neg h0,if_neg (by simp[BX,h1,h2,h3])])
     clear h2 h0;go_in;go_wp2_with fail;go_ret;exact⟨Bd E.out.symm,rfl⟩
   ·have t2:(x%2==1)=false:=by simp[h2]
    have E:=AA (show Da x=2 by unfold Da;rw[if_neg h0,if_neg (by simp[BX,h2])]);clear h2 h0;go_in;go_wp2_with fail;go_ret;exact⟨Bd E.out.symm,rfl⟩
  ·have E:=AA (show Da x=2 by unfold Da;rw[if_neg h0,if_neg (by simp[BX,h1])])
   clear h0;go_in;go_wp2_with fail;go_ret;exact⟨Bd E.out.symm,rfl⟩
theorem Cc (x:Int) (w:World) (hx:x≤9223372036854775807):Calls prog 270 #[.int .i64 x] w fun e w'=>e= .returned (PI x)∧w=w':=by
 cases hg:BX x
 ·have E:=AA (Do hg)
  have K:(Da x !=1)=true:=by unfold Da;split<;>simp[hg]
  generalize hk:Da x=k at K;have HK:=AA hk;clear hg hk;go_in;go_wp2_with (go_at_call 286;refine(IV _ _).mono ?_;rintro e w' ⟨rfl,rfl⟩;rw[HK.out]);go_ret3;exact⟨Lf E.out.symm,rfl⟩
 ·have hp:0<x∧x%2=1∧x<48:=by simpa[BX,and_assoc] using hg
  have W:Iw x=(x%4==3):=by cases h:(x%4==3)<;>simp_all[Iw]
  have E:=AA (show PI x= .tuple #[.int .i64 (x/4), .bool (x%4==3), .bool true] by rw[Di hg,QH hg,W]);have HK:=AA (show Da x=1 by unfold Da;rw[if_neg (by omega),hg];rfl);have h0:0≤x:=by omega
  clear hg W hp;go_in;go_wp2_with (go_at_call 286;refine(IV _ _).mono ?_;rintro e w' ⟨rfl,rfl⟩;rw[HK.out]);go_ret3;exact⟨Lf E.out.symm,rfl⟩
theorem Lz {s:ByteArray} {k:Nat} (h:k<s.size) (hc:Ec s[k]=false):A4 s=false:=by
 have:s.data.toList.all Ec=false:=by rw[List.all_eq_false];exact⟨s[k],by simp[ByteArray.getElem_eq_getElem_data],by simp[hc]⟩
 simp[A4,this]
theorem Pd {s:ByteArray} (h:∀k (hk:k<s.size),Ec s[k]=true):A4 s=decide ((s.size:Int)≤4):=by
 have:s.data.toList.all Ec=true:=by rw[List.all_eq_true];intro x hx;obtain⟨k,hk,rfl⟩:=List.getElem_of_mem hx;have:=h k (by simpa using hk);simpa[ByteArray.getElem_eq_getElem_data] using this
 rw[A4,this,Bool.true_and]
 by_cases h4:s.size≤4
 ·have:(s.size:Int)≤4:=by omega
  simp[h4,this]
 ·have:¬(s.size:Int)≤4:=by omega
  simp[h4,this]
theorem Df (s:ByteArray) (w:World) (hs:s.size≤maxLen):
 Calls prog 166 #[.string s] w fun e w'=>e= .returned (.bool (A4 s))∧w=w':=by
 unfold maxLen at hs;go_in;go_wp2_with fail;go_loop [3] (fun i=>∃k:Nat,k≤s.size∧i= .int .i64 k∧∀j (hj:j<s.size),j<k→Ec s[j]=true) (fun i=>s.size - (intOf i).toNat)
 case atStart=>exact⟨0,Nat.zero_le _,rfl,fun j _ hj=>absurd hj (Nat.not_lt_zero _)⟩
 case round=>
  obtain⟨k,hk,rfl,hpre⟩:=hrel;have Hpre:=AA hpre;clear hpre
  by_cases hlt:k<s.size
  ·by_cases h1:s[k].toNat<97
   ·have S:=AA (Lz (s:=s) hlt (by simp[Ec];omega))
    have t1:(s[k].toNat:Int)<97:=by omega
    go_wp2_with fail;go_ret;exact⟨AK S.out.symm,rfl⟩
   ·by_cases h2:99<s[k].toNat
    ·have S:=AA (Lz (s:=s) hlt (by simp[Ec];omega))
     have t1:(99:Int)<s[k].toNat:=by omega
     have t2:¬(s[k].toNat:Int)<97:=by omega
     go_wp2_with fail;go_ret;exact⟨AK S.out.symm,rfl⟩
    ·have Ok:=AA (show Ec s[k]=true by simp[Ec];omega)
     have t1:¬(99:Int)<s[k].toNat:=by omega
     have t2:¬(s[k].toNat:Int)<97:=by omega
     go_wp2_with fail;go_round
     case rel=>exact⟨k+1,by omega,by go_num,fun j hj hjk=>by
      rcases Nat.lt_succ_iff_lt_or_eq.1 hjk with h|h
      ·exact Hpre.out j hj h
      ·subst h;exact Ok.out⟩
     case measure=>simp[intOf];omega
  ·have S:=AA (Pd (s:=s) (fun j hj=>Hpre.out j hj (by omega)))
   go_wp2_with fail;go_ret;exact⟨AK S.out.symm,rfl⟩
theorem VO (a b:ByteArray):((b.extract 0 a.size).toList==a.toList)=LR a b:=by rw[Bool.eq_iff_iff,beq_iff_eq,Lib.toList_data,Lib.toList_data];unfold LR;rw[List.isPrefixOf_iff_prefix,List.prefix_iff_eq_take];simp only[ByteArray.data_extract,Array.toList_extract,List.extract,Nat.sub_zero,List.drop_zero,Array.length_toList,ByteArray.size_data];exact eq_comm
theorem KB (a b:ByteArray) (w:World) (ha:a.size≤maxLen) (hb:b.size≤maxLen):Calls prog 219 #[.string a, .string b] w fun e w'=>e= .returned (.bool (LR a b))∧w=w':=by
 unfold maxLen at ha hb
 by_cases h:a.size≤b.size
 ·have h1:(a.size:Int)≤b.size:=by omega
  have E:=AA (VO a b);go_in;go_wp2_with fail;go_ret;exact⟨AK E.out,rfl⟩
 ·have h1:¬(a.size:Int)≤b.size:=by omega
  have E:=AA (show LR a b=false by
   cases hc:LR a b
   ·rfl
   ·have:=(List.isPrefixOf_iff_prefix.1 hc).length_le
    simp at this;omega)
  go_in;go_wp2_with fail;go_ret;exact⟨AK E.out.symm,rfl⟩
theorem Kj {α:Type} {p:α→Bool} {xs:List α} {f:Nat→α} (hf:∀k,k<xs.length→xs[k]? =some (f k)) (h:∀j,j<xs.length→p (f j)=true):xs.all p=true:=by rw[List.all_eq_true];intro x hx;obtain⟨j,hj,rfl⟩:=List.getElem_of_mem hx;have:=h j hj;have e:=hf j hj;rw[List.getElem?_eq_getElem hj] at e;rw[So_ e];exact this
theorem Mh {α:Type} {p:α→Bool} {xs:List α} {x:α} {k:Nat} (hx:xs[k]? =some x) (hp:p x=false):xs.all p=false:=by rw[List.all_eq_false];exact⟨x,List.mem_of_getElem? hx,by simp[hp]⟩
theorem PB {α:Type} {p:α→Bool} {xs:List α} {x:α} {k:Nat} (hx:xs[k]? =some x) (hp:p x=true):xs.any p=true:=List.any_eq_true.2 ⟨x,List.mem_of_getElem? hx,hp⟩
theorem Kk {α:Type} {p:α→Bool} {xs:List α} {f:Nat→α} (hf:∀k,k<xs.length→xs[k]? =some (f k)) (h:∀j,j<xs.length→p (f j)=false):xs.any p=false:=by rw[List.any_eq_false];intro x hx;obtain⟨j,hj,rfl⟩:=List.getElem_of_mem hx;have:=h j hj;have e:=hf j hj;rw[List.getElem?_eq_getElem hj] at e;rw[So_ e];simp[this]
theorem MP {xs:List Int} {k:Nat} (h:k<xs.length):xs[k]? =some (nth xs k):=NB h
theorem Qf (v:Value) (r:List Int) (w:World) (h:Ap w v r):Calls prog 154 #[v] w fun e w'=>e= .returned (.bool (Ed r))∧Below w.heap.size w w':=by
 obtain⟨a,c,rfl,hc,hcm,H⟩:=h.open;unfold maxLen at hcm;have HH:=AA H;clear h H;go_in;go_wp2_with fail;go_loopw [3] (fun ix wr=>∃k:Nat,k≤r.length∧ix= .int .i64 k∧(∀j,j<k→E9 (nth r j)=true)∧Below w.heap.size w wr) (fun ix _=>r.length - (intOf ix).toNat)
 case atStart=>exact⟨0,Nat.zero_le _,rfl,fun j hj=>absurd hj (Nat.not_lt_zero _),Below.refl _ _⟩
 case round=>
  obtain⟨k,hk,rfl,hpre,hb⟩:=hrel;have Hpre:=AA hpre;clear hpre
  by_cases hlt:k<r.length
  ·have hlti:(k:Int)<(r.length:Int):=by omega
   obtain⟨b,off,rfl,D⟩:=(HH.out.below hb).at hlt;cases hp:E9 (nth r k)
   ·have S:=AA (show Ed r=false by unfold Ed;rw[Mh (MP hlt) hp];rfl)
    have Hp:=AA hp;clear hp;go_wp2_with fail;refine(DV _ _ _ _).mono ?_;rintro e w' ⟨rfl,rfl⟩;rw[show Bk _ 0 9999=false from Hp.out];go_wp2_with fail;go_ret;exact⟨AK S.out.symm,hb⟩
   ·have Hp:=AA hp
    clear hp;go_wp2_with fail;refine(DV _ _ _ _).mono ?_;rintro e w' ⟨rfl,rfl⟩;rw[show Bk _ 0 9999=true from Hp.out];go_wp2_with fail;go_roundw
    case rel=>exact⟨k+1,by omega,by go_num,Ay Hpre.out Hp.out,hb⟩
    case measure=>simp[intOf];omega
  ·have ek:k=r.length:=by omega
   have hpre:=Hpre.out;rw[ek] at hpre;have S:=AA (show Ed r=((r.length:Int)==4) by unfold Ed;rw[Kj (fun k hk=>MP hk) hpre];by_cases h4:r.length=4<;>simp[h4]<;>omega);clear Hpre hpre;go_wp2_with fail;go_ret;exact⟨AK S.out.symm,hb⟩
theorem Pf {m:List (List Int)} {k:Nat} (h:k<m.length):m[k]? =some (AL m k):=by unfold AL;exact A8 h
theorem Lg (v:Value) (m:List (List Int)) (w:World) (h:BJ w v m):Calls prog 147 #[v] w fun e w'=>e= .returned (.bool (Bg m))∧Below w.heap.size w w':=by
 obtain⟨a,c,rfl,hc,hcm,H⟩:=h.open;unfold maxLen at hcm;have HH:=AA H;clear h H;go_in;go_wp2_with fail;go_loopw [3] (fun ix wr=>∃k:Nat,k≤m.length∧ix= .int .i64 k∧(∀j,j<k→Ed (AL m j)=true)∧Below w.heap.size w wr) (fun ix _=>m.length - (intOf ix).toNat)
 case atStart=>exact⟨0,Nat.zero_le _,rfl,fun j hj=>absurd hj (Nat.not_lt_zero _),Below.refl _ _⟩
 case round=>
  obtain⟨k,hk,rfl,hpre,hb⟩:=hrel;have Hpre:=AA hpre;clear hpre
  by_cases hlt:k<m.length
  ·have hlti:(k:Int)<(m.length:Int):=by omega
   obtain⟨b,off,u,rfl,hbl,D,hr⟩:=(HH.out.below hb) k hlt;have C:=AA (Qf u _ wr hr);clear hr;cases hp:Ed (AL m k)
   ·have S:=AA (show Bg m=false by unfold Bg;rw[Mh (Pf hlt) hp];rfl)
    have Hp:=AA hp;clear hp;go_wp2_with fail;refine C.out.mono ?_;rintro e w2 ⟨rfl,b2⟩;rw[Hp.out];go_wp2_with fail;go_ret;exact⟨AK S.out.symm,hb.trans (b2.mono hb.size)⟩
   ·have Hp:=AA hp
    clear hp;go_wp2_with fail;refine C.out.mono ?_;rintro e w2 ⟨rfl,b2⟩;rw[Hp.out];go_wp2_with fail;go_roundw
    case rel=>exact⟨k+1,by omega,by go_num,Ay Hpre.out Hp.out,hb.trans (b2.mono hb.size)⟩
    case measure=>simp[intOf];omega
  ·have ek:k=m.length:=by omega
   have hpre:=Hpre.out;rw[ek] at hpre;have S:=AA (show Bg m=((m.length:Int)==12) by unfold Bg;rw[Kj (fun k hk=>Pf hk) hpre];by_cases h4:m.length=12<;>simp[h4]<;>omega);clear Hpre hpre;go_wp2_with fail;go_ret;exact⟨AK S.out.symm,hb⟩
theorem SI {x:AQ} (hk:x.k=0):Cj x=decide (x=AQ.zero):=by unfold Cj;rw[show Bk x.k 1 3=false from Rc.2 (by omega)];simp
theorem Kc {x:AQ} (hk:x.k≠0):Cj x=(Bk x.k 1 3&&A4 x.g&&Bk x.r 0 50):=by unfold Cj;rw[show decide (x=AQ.zero)=false by simp;intro e;rw[e] at hk;exact hk rfl];simp
theorem QX (x:AQ) (w:World) (hs:x.g.size≤maxLen):Calls prog 210 #[x.val] w fun e w'=>e= .returned (.bool (Cj x))∧Below w.heap.size w w':=by
 have E0:=SI (x:=x);have E1:=Kc (x:=x);generalize Cj x=res at E0 E1 ⊢;obtain⟨k,g,r⟩:=x;simp only[AQ.val];dsimp only at E0 E1 hs;have C:=AA (fun W=>Df g W hs)
 by_cases hk:k=0
 ·subst hk
  have R:=AA (show res=(decide (g=⟨#[]⟩)&&decide (r=0)) by rw[E0 rfl];simp[AQ.zero]);clear E0 E1
  by_cases hg:g=⟨#[]⟩
  ·subst hg
   by_cases hr:r=0
   ·subst hr
    go_in;go_wp2_with fail;go_ret;exact⟨AK (by rw[R.out];rfl),AG _ _⟩
   ·have R2:=AA (show res=false by rw[R.out];simp[hr])
    go_in;go_wp2_with fail;go_ret;exact⟨AK R2.out.symm,AG _ _⟩
  ·have R2:=AA (show res=false by rw[R.out];simp[hg])
   have hgl:¬g.toList=[]:=fun e=>hg (by rw[Lib.toList_data] at e;obtain⟨⟨l⟩⟩:=g;simp at e;rw[e])
   go_in;go_wp2_with fail;go_ret;exact⟨AK R2.out.symm,AG _ _⟩
 ·have t0:(k==0)=false:=by simp[hk]
  have R:=AA (E1 hk);clear E0 E1 hk;go_in;go_wp2_with fail;refine(DV _ _ _ _).mono ?_;rintro e w2 ⟨rfl,rfl⟩;cases h1:Bk k 1 3
  ·have R2:=AA (show res=false by rw[R.out,h1];rfl)
   go_wp2_with fail;go_ret;exact⟨AK R2.out.symm,AG _ _⟩
  ·go_wp2_with fail
   refine(C.out _).mono ?_;rintro e w2 ⟨rfl,rfl⟩;cases h2:A4 g
   ·have R2:=AA (show res=false by rw[R.out,h1,h2];rfl)
    go_wp2_with fail;go_ret;exact⟨AK R2.out.symm,AG _ _⟩
   ·have R2:=AA (show res=Bk r 0 50 by rw[R.out,h1,h2];rfl)
    go_wp2_with fail;refine(DV _ _ _ _).mono ?_;rintro e w2 ⟨rfl,rfl⟩;go_wp2_with fail;go_ret;exact⟨AK R2.out.symm,AG _ _⟩
theorem JH {P:Program} {f:FuncId} {args:Array Value} {w:World} {n:Nat} {v:Value} (h:Calls P f args (w.drewN n) fun e w'=>e= .returned v∧w.drewN n=w'):Calls P f args (w.drewN n) fun e w''=>e= .returned v∧∃m,w''=w.drewN m:=
 h.mono fun _ _ ⟨he,hm⟩=>⟨he,n,hm.symm⟩
theorem MJ {w wr:World} (h:∃n,wr=w.drewN n) (m:Nat):∃n,wr.drewN m=w.drewN n:=by obtain⟨n,rfl⟩:=h;exact⟨n+m,JX w n m⟩
theorem G1 {ss:List ByteArray} {k:Nat} (h:k<ss.length) (hc:Bx ss k=false):A2 ss=false:=by have:(List.range ss.length).all (Bx ss)=false:=List.all_eq_false.2 ⟨k,List.mem_range.2 h,by simp[hc]⟩;simp[A2,this]
theorem KG {ss:List ByteArray} (h:∀k,k<ss.length→Bx ss k=true):A2 ss=decide ((ss.length:Int)≤6):=by
 have:(List.range ss.length).all (Bx ss)=true:=List.all_eq_true.2 fun k hk=>h k (List.mem_range.1 hk)
 rw[A2,this,Bool.true_and]
 by_cases h4:ss.length≤6
 ·have:(ss.length:Int)≤6:=by omega
  simp[h4,this]
 ·have:¬(ss.length:Int)≤6:=by omega
  simp[h4,this]
theorem Px.str {w:World} {a:Option Addr} {ss:List ByteArray} (h:Px 1 An w a ss) {k:Nat} (hk:k<ss.length):∃b off,a=some ⟨b,off,none⟩∧w.cell? ⟨b,off+k,none⟩=some (.string (Bp ss k)):=by obtain⟨b,off,rfl,_,hc⟩:=h k _ (F8 hk);exact⟨b,off,rfl,by simpa using hc 0 _ rfl⟩
def EB (ss:List ByteArray):Prop:=∀s∈ss,s.size≤maxLen
theorem EB.nth {ss:List ByteArray} (h:EB ss) {k:Nat} (hk:k<ss.length):(Bp ss k).size≤maxLen:=h _ (List.mem_of_getElem? (F8 hk))
theorem GL (v:Value) (ss:List ByteArray) (w:World) (h:BC w v ss) (hs:EB ss):
 Calls prog 100 #[v] w fun e w'=>e= .returned (.bool (A2 ss))∧∃n,w'=w.drewN n:=by
 obtain⟨a,c,rfl,hc,hcm,H0⟩:=A3.open EJ (by decide) h;unfold maxLen at hcm;have Hs:=AA hs;clear hs h;go_in;go_wp2_with fail;go_loopw [3] (fun i wr=>∃k:Nat,k≤ss.length∧i= .int .i64 k∧(∀j,j<k→Bx ss j=true)∧∃n,wr=w.drewN n) (fun i _=>ss.length - (intOf i).toNat)
 case atStart=>exact⟨0,Nat.zero_le _,rfl,fun j hj=>absurd hj (Nat.not_lt_zero _),0,rfl⟩
 case round=>
  obtain⟨k,hk,rfl,hpre,hw⟩:=hrel;have Hpre:=AA hpre;clear hpre;have Hw:=AA hw;clear hw
  by_cases hlt:k<ss.length
  ·obtain⟨b,off,rfl,D0⟩:=H0.str hlt
   have D:wr.cell? ⟨b,off+k,none⟩=some (.string (Bp ss k)):=by obtain⟨n,rfl⟩:=Hw.out;exact D0
   have hk1:(k:Int)<ss.length:=by omega
   have hsz:=Hs.out.nth hlt;cases hok:A4 (Bp ss k)
   ·have S:=AA (G1 hlt (by simp[Bx,hok]))
    have HQ:=AA (show ∀W,Calls prog 166 #[.string (Bp ss k)] W fun e w'=>e= .returned (.bool false)∧W=w' from fun W=>by have:=Df (Bp ss k) W hsz;rwa [hok] at this);clear hok D0;go_wp2_with fail;go_quiet ((go_at_call 166;exact JH (HQ.out _)));go_wp2_with fail;go_ret;exact⟨AK S.out.symm,MJ Hw.out _⟩
   ·have HQ:=AA (show ∀W,Calls prog 166 #[.string (Bp ss k)] W fun e w'=>e= .returned (.bool true)∧W=w' from fun W=>by have:=Df (Bp ss k) W hsz;rwa [hok] at this)
    by_cases hk0:k=0
    ·have Ok:=AA (show Bx ss k=true by simp[Bx,hok];exact .inl hk0)
     have t0:decide (0<k)=false:=by simp;omega
     clear hok hk0 D0;go_wp2_with fail;go_quiet ((go_at_call 166;exact JH (HQ.out _)));go_wp2_with fail;go_roundw
     case rel=>exact⟨k+1,by omega,by go_num,Ay Hpre.out Ok.out,MJ Hw.out _⟩
     case measure=>simp[intOf];omega
    ·obtain⟨b',off',hbb,E0⟩:=H0.str (show k - 1<ss.length by omega)
     obtain⟨rfl,rfl⟩:b=b'∧off=off':=by simpa using hbb
     have E:wr.cell? ⟨b,off+(k - 1),none⟩=some (.string (Bp ss (k - 1))):=by obtain⟨n,rfl⟩:=Hw.out;exact E0
     have t0:decide (0<k)=true:=by simp;omega
     have t0':(0:Int)<k:=by omega
     have s0:IntKind.i64.wrap ((k:Int) - 1)=(k:Int) - 1:=IntWalk.i64_in _ (by omega);have s1:((k:Int) - 1).toNat=k - 1:=by omega
     have s2:(k:Int) - 1<ss.length:=by omega
     have s3:(1:Int)≤k:=by omega
     have s4:(0:Int)≤(k:Int) - 1:=by omega
     clear D0 E0 hbb;cases hge:Kd (Bp ss (k - 1)) (Bp ss k)
     ·have Ok:=AA (show Bx ss k=true by simp[Bx,hok,hge])
      have hL:Op.bytesLess (Bp ss (k - 1)).toList (Bp ss k).toList=true:=by simpa[Kd] using hge
      clear hok hge;go_wp2_with fail;go_quiet ((go_at_call 166;exact JH (HQ.out _)));go_wp2_with fail;go_roundw
      case rel=>exact⟨k+1,by omega,by go_num,Ay Hpre.out Ok.out,MJ Hw.out _⟩
      case measure=>simp[intOf];omega
     ·have S:=AA (G1 hlt (by simp[Bx,hok,hge,hk0]))
      have hL:Op.bytesLess (Bp ss (k - 1)).toList (Bp ss k).toList=false:=by simpa[Kd] using hge
      clear hok hge;go_wp2_with fail;go_quiet ((go_at_call 166;exact JH (HQ.out _)));go_wp2_with fail;go_ret;exact⟨AK S.out.symm,MJ Hw.out _⟩
  ·have S:=AA (KG (ss:=ss) (fun j hj=>Hpre.out j (by omega)))
   go_wp2_with fail;go_ret;exact⟨AK S.out.symm,Hw.out⟩
end Go.Proofs.YtnieoiclifjoaaaGreatDoor
set_option linter.unusedVariables false
namespace Go.Proofs.YtnieoiclifjoaaaGreatDoor
open Go.Proofs.Tryz
def GX (fs:List Nat):List Nat:=(List.range 12).filter fun f=>fs.contains f
theorem Jm {fs:List Nat} {f:Nat}:f∈GX fs↔f<12∧f∈fs:=by simp[GX]
theorem Jl {fs:List Nat}:(GX fs).length≤12:=by
 have:=List.length_filter_le (fun f=>fs.contains f) (List.range 12);simpa[GX] using this
def EA (m:List (List Int)) (root:Nat):List Nat:=GX (named (AL m root))
def Gy (m:List (List Int)) (root:Nat):List Nat:=GX ((EA m root).flatMap fun t=>named (AL m t))
def El (m:List (List Int)) (root:Int):List Nat:=if root<0 then[] else GX (root.toNat::EA m root.toNat++Gy m root.toNat)
theorem Gh {m:List (List Int)} {root f:Nat}:f∈EA m root↔f∈named (AL m root):=by
 unfold EA;rw[Jm];exact⟨fun h=>h.2,fun h=>⟨FL h,h⟩⟩
theorem QN {m:List (List Int)} {root f:Nat}:f∈Gy m root↔∃t,t∈named (AL m root)∧f∈named (AL m t):=by
 unfold Gy;rw[Jm,List.mem_flatMap];constructor
 ·rintro⟨_,t,ht,hf⟩
  exact⟨t,Gh.1 ht,hf⟩
 ·rintro⟨t,ht,hf⟩
  exact⟨FL hf,t,Gh.2 ht,hf⟩
theorem GT {m:List (List Int)} {root:Int} (h:root<12) (f:Nat):f∈El m root↔f∈Az m root:=by
 rw[DN];unfold El
 by_cases h0:root<0
 ·rw[if_pos h0]
  simp;omega
 ·rw[if_neg h0,Jm,List.cons_append,List.mem_cons,List.mem_append,Gh,QN]
  constructor
  ·rintro⟨_,h⟩
   exact⟨by omega,h⟩
  ·rintro⟨_,h⟩
   refine⟨?_,h⟩
   rcases h with rfl|h|⟨t,_,h⟩
   ·omega
   ·exact FL h
   ·exact FL h
def NW (k:AN) (a e:Nat):Bool:=decide (AY k e=(a:Int))||(decide (0≤AY k e)&&(EA k.mem (AY k e).toNat).contains a)
def Pr (k:AN) (a:Nat):List Nat:=(List.range 3).filter (NW k a)
theorem Tz {k:AN} (h:De k) {a:Nat} (ha:Ba (A7 k a)=true):Pr k a=Eo k a:=by
 unfold Pr Eo;refine List.filter_congr fun e he=>?_
 have he3:=List.mem_range.1 he;rw[Bool.eq_iff_iff,List.contains_iff_mem]
 show _↔a∈Az k.mem (AY k e)
 rw[DN];unfold NW;simp only[Bool.or_eq_true,Bool.and_eq_true,decide_eq_true_eq,List.contains_iff_mem,Gh];constructor
 ·rintro(h1|⟨h0,h1⟩)
  ·exact⟨by omega, .inl (by omega)⟩
  ·exact⟨h0, .inr (.inl h1)⟩
 ·rintro⟨h0,h1|h1|⟨t,ht,h1⟩⟩
  ·exact .inl (by omega)
  ·exact .inr ⟨h0,h1⟩
  ·have:=(h.data_kind he3 h0 ht h1).2
   rw[this] at ha;cases ha
def Iu (k:AN) (w:Int):List Nat:=if BX w then Ax w::(if(infoAt k.infos (Ax w)).k=2 then named (AL k.mem (Ax w)) else[]) else[]
theorem Q8 {k:AN} {w:Int} (h:BX w=true→(infoAt k.infos (Ax w)).k≠3):Iu k w=DH k w:=by
 unfold Iu DH;cases hg:BX w
 ·rfl
 ·have:=h hg
  simp only[if_true]
  congr 1
  by_cases h2:(infoAt k.infos (Ax w)).k=2
  ·rw[if_pos h2,if_pos (by simp[Ba,h2])]
  ·rw[if_neg h2,if_neg (by simp[Ba,h2,this])]
theorem Lr {infos:List AQ} {fs:List Nat} {n kind:Int} {f:Nat}:AV (Aw infos fs n) f (Cu kind)=Aw (AV infos f (Cu kind)) fs n:=by
 induction fs generalizing infos with
 |nil=>rfl
 |cons g fs ih=>
  show AV (Aw (AV infos g (DK n)) fs n) f (Cu kind)=Aw (AV (AV infos f (Cu kind)) g (DK n)) fs n
  rw[ih]
  congr 1
  simp only[Ig (d:=AQ.zero),Hj]
  by_cases e:f=g
  ·subst e
   rw[List.set_set,List.set_set]
   by_cases hl:f<infos.length
   ·rw[if_pos ⟨rfl,hl⟩,if_pos ⟨rfl,hl⟩]
    rfl
   ·rw[List.set_eq_of_length_le (by omega),List.set_eq_of_length_le (by omega)]
  ·rw[if_neg (fun h=>e h.1),if_neg (fun h=>e h.1.symm),List.set_comm _ _ (fun h=>e h.symm)]
def LS (ss:List ByteArray) (s:ByteArray):Nat:=(ss.takeWhile fun x=>!Kd x s).length
theorem KJ {α:Type} (p:α→Bool) (l:List α):l.take (l.takeWhile p).length=l.takeWhile p∧l.drop (l.takeWhile p).length=l.dropWhile p:=by
 induction l with
 |nil=>simp
 |cons x l ih=>
  by_cases h:p x=true
  ·simp[h,ih.1,ih.2]
  ·simp[h]
theorem UK {ss:List ByteArray} {s:ByteArray}:Mg ss s=ss.take (LS ss s)++s::ss.drop (LS ss s):=by unfold Mg LS;rw[(KJ _ _).1,(KJ _ _).2]
theorem PG {ss:List ByteArray} {s:ByteArray} {k:Nat} (hk:k≤ss.length) (h1:∀j,j<k→Ke (Bp ss j) s=true) (h2:k<ss.length→Ke (Bp ss k) s=false):LS ss s=k:=by
 unfold LS
 induction ss generalizing k with
 |nil=>simp at hk;subst hk;rfl
 |cons x ss ih=>
  cases k with
  |zero=>have:=h2 (by simp);have e:Ke x s=false:=this;rw[List.takeWhile_cons,if_neg (by simp[KU,e])];rfl
  |succ k=>
   have e:Ke x s=true:=h1 0 (by omega);rw[List.takeWhile_cons,if_pos (by simp[KU,e]),List.length_cons]
   congr 1
   refine ih (by simpa using hk) (fun j hj=>?_) (fun hk'=>?_)
   ·exact h1 (j+1) (by omega)
   ·exact h2 (by simpa using hk')
theorem Uq {a:ByteArray}:Ke a a=false:=by
 cases h:Ke a a
 ·rfl
 ·exact absurd (JD.1 h) (List.lt_irrefl _)
theorem VM {ss:List ByteArray} {s:ByteArray} (h:A2 ss=true):ss.any (fun x=>decide (x=s))=(decide (LS ss s<ss.length)&&decide (Bp ss (LS ss s)=s)):=by
 obtain⟨_,hp,_⟩:=ER.1 h;have hd:=List.takeWhile_append_dropWhile (p:=fun x=>!Kd x s) (l:=ss);rw[Bool.eq_iff_iff];simp only[Bool.and_eq_true,decide_eq_true_eq,List.any_eq_true];constructor
 ·rintro⟨x,hx,rfl⟩
  obtain⟨j,hj,hjx⟩:=List.getElem_of_mem hx;have hc:LS ss x=j:=by
   refine PG (Nat.le_of_lt hj) (fun i hi=>?_) (fun _=>?_)
   ·have:=List.pairwise_iff_getElem.1 hp i j (by omega) hj hi
    unfold Bp;rw[List.getD_eq_getElem?_getD,List.getElem?_eq_getElem (by omega)];simpa[hjx] using this
   ·unfold Bp
    rw[List.getD_eq_getElem?_getD,List.getElem?_eq_getElem hj];simpa[hjx] using Uq
  rw[hc];refine⟨hj,?_⟩;unfold Bp;rw[List.getD_eq_getElem?_getD,List.getElem?_eq_getElem hj];simpa using hjx
 ·rintro⟨hl,hx⟩
  exact⟨_,List.mem_of_getElem? (F8 hl),hx⟩
end Go.Proofs.YtnieoiclifjoaaaGreatDoor
set_option linter.unusedVariables false
namespace Go.Proofs.YtnieoiclifjoaaaGreatDoor
open Go.Proofs.Tryz
open Go.RowKit
def Eh {α:Type} (p:α→Bool) (xs:List α):Int:=if xs.any p then(xs.findIdx p:Int) else -1
section
variable {α:Type} {p:α→Bool} {xs:List α}
theorem Fz (h:∀(j:Nat) x,xs[j]? =some x→p x=false):Eh p xs= -1:=by
 unfold Eh;have:xs.any p=false:=by rw[List.any_eq_false];intro x hx;obtain⟨j,hj⟩:=List.getElem?_of_mem hx;simp[h j x hj]
 simp[this]
theorem G4 {k:Nat} {x:α} (hk:xs[k]? =some x) (h:∀(j:Nat) y,j<k→xs[j]? =some y→p y=false) (hp:p x=true):Eh p xs=k:=by
 unfold Eh;obtain⟨hlt,rfl⟩:=List.getElem?_eq_some_iff.1 hk;have h1:xs.any p=true:=List.any_eq_true.2 ⟨xs[k],List.getElem_mem hlt,hp⟩;have h2:xs.findIdx p=k:=by
  rw[List.findIdx_eq hlt];exact⟨hp,fun j hj=>h j _ hj (List.getElem?_eq_getElem (by omega))⟩
 simp[h1,h2]
theorem G5:decide (0≤Eh p xs)=xs.any p:=by unfold Eh;cases xs.any p<;>simp
theorem Fy {k:Nat} {x:α} (h:∀(j:Nat) y,j<k→xs[j]? =some y→p y=false) (hk:xs[k]? =some x) (hp:p x=false):∀(j:Nat) y,j<k+1→xs[j]? =some y→p y=false:=by
 intro j y hj hy
 rcases Nat.lt_succ_iff_lt_or_eq.1 hj with h'|h'
 ·exact h j y h' hy
 ·subst h'
  rw[hk] at hy;cases hy;exact hp
end
theorem II (F:Nat) (caps:Array Value) (p:AQ→Bool) (v:Value) (xs:List AQ) (w:World) (h:BH w v xs)
 (hF:∀args w,(callFunc F args).run prog w= .ok (.enter F args) w) (hf:∀x,x∈xs→∀W,Below w.heap.size w W→Calls prog F (#[x.val]++caps) W fun e W'=>e= .returned (.bool (p x))∧Below W.heap.size W W'):
 Calls prog 232 #[v, .func (.func F) #[] caps] w fun e w'=>e= .returned (.int .i64 (Eh p xs))∧Below w.heap.size w w':=by
 obtain⟨a,c,rfl,hc,hcm,H0⟩:=A3.open As (by decide) h;clear h;unfold maxLen at hcm;have Hf:=AA hf;clear hf;go_in;go_wp2;go_loopw [8] (fun i wr=>∃k:Nat,k≤xs.length∧i= .int .i64 k∧(∀(j:Nat) x,j<k→xs[j]? =some x→p x=false)∧Below w.heap.size w wr) (fun i _=>xs.length - (intOf i).toNat)
 case atStart=>exact⟨0,Nat.zero_le _,rfl,fun j x hj=>absurd hj (Nat.not_lt_zero _),Below.refl _ _⟩
 case round=>
  obtain⟨k,hk,rfl,hpre,hbel⟩:=hrel;have Hpre:=AA hpre;clear hpre
  by_cases hlt:k<xs.length
  ·have hx:xs[k]? =some (infoAt xs k):=by simp[infoAt,hlt]
   obtain⟨b,off,rfl,hbl,D0',D1',D2'⟩:=H0.infoCells hlt;have D0:=(hbel.cell (p:=⟨b,off+k*3,none⟩) hbl).trans D0';have D1:=(hbel.cell (p:=⟨b,off+k*3+1,none⟩) hbl).trans D1';have D2:=(hbel.cell (p:=⟨b,off+k*3+2,none⟩) hbl).trans D2';clear D0' D1' D2';have Hx:=AA hx;have Hc:=AA (Hf.out _ (List.mem_of_getElem? hx) wr hbel);clear hx;cases hp:p (infoAt xs k)
   ·have Hp:=AA hp;clear hp
    go_wp2_with (refine(Hc.out).mono ?_;rintro e w' ⟨rfl,hb2⟩;rw[Hp.out]);go_roundw
    case rel=>exact⟨k+1,by omega,by go_num,Fy Hpre.out Hx.out Hp.out,hbel.trans (hb2.mono hbel.size)⟩
    case measure=>simp[intOf];omega
   ·have Hp:=AA hp;clear hp
    have hres:=AA (G4 Hx.out Hpre.out Hp.out);go_wp2_with (refine(Hc.out).mono ?_;rintro e w' ⟨rfl,hb2⟩;rw[Hp.out]);go_ret;exact⟨Bd hres.out.symm,hbel.trans (hb2.mono hbel.size)⟩
  ·have hres:=AA (Fz (p:=p) (xs:=xs) (fun j x hx=>Hpre.out j x (by have:=(List.getElem?_eq_some_iff.1 hx).1;omega) hx))
   go_wp2;go_ret;exact⟨Bd hres.out.symm,hbel⟩
theorem JP (F:Nat) (caps:Array Value) (p:AQ→Bool) (v:Value) (xs:List AQ) (w:World) (h:BH w v xs)
 (hF:∀args w,(callFunc F args).run prog w= .ok (.enter F args) w) (hf:∀x,x∈xs→∀W,Below w.heap.size w W→Calls prog F (#[x.val]++caps) W fun e W'=>e= .returned (.bool (p x))∧Below W.heap.size W W'):
 Calls prog 170 #[v, .func (.func F) #[] caps] w fun e w'=>e= .returned (.bool (xs.any p))∧Below w.heap.size w w':=by
 have E:=AA (G5 (p:=p) (xs:=xs));have C:=AA (II F caps p v xs w h hF hf);clear h hf;go_in;go_wp2_with (refine(C.out).mono ?_;rintro e w' ⟨rfl,hb2⟩);go_ret;exact⟨AK E.out,hb2⟩
theorem Gs (F:Nat) (caps:Array Value) (p:Aa→Bool) (v:Value) (xs:List Aa) (w:World) (h:Bn w v xs)
 (hF:∀args w,(callFunc F args).run prog w= .ok (.enter F args) w) (hf:∀x,x∈xs→∀W,Below w.heap.size w W→Calls prog F (#[x.val]++caps) W fun e W'=>e= .returned (.bool (p x))∧Below W.heap.size W W'):
 Calls prog 234 #[v, .func (.func F) #[] caps] w fun e w'=>e= .returned (.int .i64 (Eh p xs))∧Below w.heap.size w w':=by
 obtain⟨a,c,rfl,hc,hcm,H0⟩:=A3.open Bi (by decide) h;clear h;unfold maxLen at hcm;have Hf:=AA hf;clear hf;go_in;go_wp2;go_loopw [8] (fun i wr=>∃k:Nat,k≤xs.length∧i= .int .i64 k∧(∀(j:Nat) x,j<k→xs[j]? =some x→p x=false)∧Below w.heap.size w wr) (fun i _=>xs.length - (intOf i).toNat)
 case atStart=>exact⟨0,Nat.zero_le _,rfl,fun j x hj=>absurd hj (Nat.not_lt_zero _),Below.refl _ _⟩
 case round=>
  obtain⟨k,hk,rfl,hpre,hbel⟩:=hrel;have Hpre:=AA hpre;clear hpre
  by_cases hlt:k<xs.length
  ·have hx:xs[k]? =some (Ac xs k):=by simp[Ac,hlt]
   obtain⟨b,off,rfl,hbl,D0',D1',D2',D3'⟩:=H0.cachedCells hlt;have D0:=(hbel.cell (p:=⟨b,off+k*4,none⟩) hbl).trans D0';have D1:=(hbel.cell (p:=⟨b,off+k*4+1,none⟩) hbl).trans D1';have D2:=(hbel.cell (p:=⟨b,off+k*4+2,none⟩) hbl).trans D2';have D3:=(hbel.cell (p:=⟨b,off+k*4+3,none⟩) hbl).trans D3';clear D0' D1' D2' D3';have Hx:=AA hx;have Hc:=AA (Hf.out _ (List.mem_of_getElem? hx) wr hbel);clear hx;cases hp:p (Ac xs k)
   ·have Hp:=AA hp;clear hp
    go_wp2_with (refine(Hc.out).mono ?_;rintro e w' ⟨rfl,hb2⟩;rw[Hp.out]);go_roundw
    case rel=>exact⟨k+1,by omega,by go_num,Fy Hpre.out Hx.out Hp.out,hbel.trans (hb2.mono hbel.size)⟩
    case measure=>simp[intOf];omega
   ·have Hp:=AA hp;clear hp
    have hres:=AA (G4 Hx.out Hpre.out Hp.out);go_wp2_with (refine(Hc.out).mono ?_;rintro e w' ⟨rfl,hb2⟩;rw[Hp.out]);go_ret;exact⟨Bd hres.out.symm,hbel.trans (hb2.mono hbel.size)⟩
  ·have hres:=AA (Fz (p:=p) (xs:=xs) (fun j x hx=>Hpre.out j x (by have:=(List.getElem?_eq_some_iff.1 hx).1;omega) hx))
   go_wp2;go_ret;exact⟨Bd hres.out.symm,hbel⟩
theorem Gt (F:Nat) (caps:Array Value) (p:ByteArray→Bool) (v:Value) (xs:List ByteArray) (w:World) (h:BC w v xs)
 (hF:∀args w,(callFunc F args).run prog w= .ok (.enter F args) w) (hf:∀x,x∈xs→∀W,Below w.heap.size w W→Calls prog F (#[Value.string x]++caps) W fun e W'=>e= .returned (.bool (p x))∧Below W.heap.size W W'):
 Calls prog 186 #[v, .func (.func F) #[] caps] w fun e w'=>e= .returned (.int .i64 (Eh p xs))∧Below w.heap.size w w':=by
 obtain⟨a,c,rfl,hc,hcm,H0⟩:=A3.open EJ (by decide) h;clear h;unfold maxLen at hcm;have Hf:=AA hf;clear hf;go_in;go_wp2;go_loopw [8] (fun i wr=>∃k:Nat,k≤xs.length∧i= .int .i64 k∧(∀(j:Nat) x,j<k→xs[j]? =some x→p x=false)∧Below w.heap.size w wr) (fun i _=>xs.length - (intOf i).toNat)
 case atStart=>exact⟨0,Nat.zero_le _,rfl,fun j x hj=>absurd hj (Nat.not_lt_zero _),Below.refl _ _⟩
 case round=>
  obtain⟨k,hk,rfl,hpre,hbel⟩:=hrel;have Hpre:=AA hpre;clear hpre
  by_cases hlt:k<xs.length
  ·have hx:xs[k]? =some (Bp xs k):=by simp[Bp,hlt]
   obtain⟨b,off,rfl,D0'⟩:=H0.str hlt;have hbl:=World.block_lt_of_cell? w _ D0';have D0:wr.cell? ⟨b,off+k,none⟩=some (.string (Bp xs k)):=(hbel.cell (p:=⟨b,off+k,none⟩) hbl).trans D0';clear D0';have Hx:=AA hx;have Hc:=AA (Hf.out _ (List.mem_of_getElem? hx) wr hbel);clear hx;cases hp:p (Bp xs k)
   ·have Hp:=AA hp;clear hp
    go_wp2_with (refine(Hc.out).mono ?_;rintro e w' ⟨rfl,hb2⟩;rw[Hp.out]);go_roundw
    case rel=>exact⟨k+1,by omega,by go_num,Fy Hpre.out Hx.out Hp.out,hbel.trans (hb2.mono hbel.size)⟩
    case measure=>simp[intOf];omega
   ·have Hp:=AA hp;clear hp
    have hres:=AA (G4 Hx.out Hpre.out Hp.out);go_wp2_with (refine(Hc.out).mono ?_;rintro e w' ⟨rfl,hb2⟩;rw[Hp.out]);go_ret;exact⟨Bd hres.out.symm,hbel.trans (hb2.mono hbel.size)⟩
  ·have hres:=AA (Fz (p:=p) (xs:=xs) (fun j x hx=>Hpre.out j x (by have:=(List.getElem?_eq_some_iff.1 hx).1;omega) hx))
   go_wp2;go_ret;exact⟨Bd hres.out.symm,hbel⟩
theorem Ip (F:Nat) (caps:Array Value) (p:ByteArray→Bool) (v:Value) (xs:List ByteArray) (w:World) (h:BC w v xs)
 (hF:∀args w,(callFunc F args).run prog w= .ok (.enter F args) w) (hf:∀x,x∈xs→∀W,Below w.heap.size w W→Calls prog F (#[Value.string x]++caps) W fun e W'=>e= .returned (.bool (p x))∧Below W.heap.size W W'):
 Calls prog 118 #[v, .func (.func F) #[] caps] w fun e w'=>e= .returned (.bool (xs.any p))∧Below w.heap.size w w':=by
 have E:=AA (G5 (p:=p) (xs:=xs));have C:=AA (Gt F caps p v xs w h hF hf);clear h hf;go_in;go_wp2_with (refine(C.out).mono ?_;rintro e w' ⟨rfl,hb2⟩);go_ret;exact⟨AK E.out,hb2⟩
theorem Kg (F:Nat) (caps:Array Value) (p:List Int→Bool) (v:Value) (m:List (List Int)) (w:World) (h:BJ w v m)
 (hF:∀args w,(callFunc F args).run prog w= .ok (.enter F args) w) (hf:∀u r,r∈m→∀W,Below w.heap.size w W→Ap W u r→Calls prog F (#[u]++caps) W fun e W'=>e= .returned (.bool (p r))∧Below W.heap.size W W'):
 Calls prog 184 #[v, .func (.func F) #[] caps] w fun e w'=>e= .returned (.int .i64 (Eh p m))∧Below w.heap.size w w':=by
 obtain⟨vs,h1,h2⟩:=h;obtain⟨a,c,rfl,hc,hcm,H0⟩:=A3.open EG (by decide) h1;clear h1;unfold maxLen at hcm;have Hf:=AA hf;clear hf;have H2:=AA h2;clear h2;go_in;go_wp2;go_loopw [8] (fun i wr=>∃k:Nat,k≤vs.length∧i= .int .i64 k∧(∀(j:Nat) x,j<k→m[j]? =some x→p x=false)∧Below w.heap.size w wr) (fun i _=>vs.length - (intOf i).toNat)
 case atStart=>exact⟨0,Nat.zero_le _,rfl,fun j x hj=>absurd hj (Nat.not_lt_zero _),Below.refl _ _⟩
 case round=>
  obtain⟨k,hk,rfl,hpre,hbel⟩:=hrel;have Hpre:=AA hpre;clear hpre
  by_cases hlt:k<vs.length
  ·obtain⟨u,hu⟩:∃u,vs[k]? =some u:=⟨_,List.getElem?_eq_getElem hlt⟩
   obtain⟨r,hx⟩:∃r,m[k]? =some r:=⟨_,List.getElem?_eq_getElem (by rw[←H2.out.1];exact hlt)⟩
   obtain⟨b,off,rfl,hbl,hcell⟩:=H0 k u hu;have D0:wr.cell? ⟨b,off+k,none⟩=some u:=(hbel.cell (p:=⟨b,off+k,none⟩) hbl).trans (by simpa using hcell 0 u rfl);have hr:=H2.out.2 k u r hu hx;have Hx:=AA hx;have Hc:=AA (Hf.out u r (List.mem_of_getElem? hx) wr hbel (Ap.below hr hbel));clear hx hu hcell hr;cases hp:p r
   ·have Hp:=AA hp;clear hp
    go_wp2_with (refine(Hc.out).mono ?_;rintro e w' ⟨rfl,hb2⟩;rw[Hp.out]);go_roundw
    case rel=>exact⟨k+1,by omega,by go_num,Fy Hpre.out Hx.out Hp.out,hbel.trans (hb2.mono hbel.size)⟩
    case measure=>simp[intOf];omega
   ·have Hp:=AA hp;clear hp
    have hres:=AA (G4 Hx.out Hpre.out Hp.out);go_wp2_with (refine(Hc.out).mono ?_;rintro e w' ⟨rfl,hb2⟩;rw[Hp.out]);go_ret;exact⟨Bd hres.out.symm,hbel.trans (hb2.mono hbel.size)⟩
  ·have hres:=AA (Fz (p:=p) (xs:=m) (fun j x hx=>Hpre.out j x (by have:=(List.getElem?_eq_some_iff.1 hx).1;rw[←H2.out.1] at this;omega) hx))
   go_wp2;go_ret;exact⟨Bd hres.out.symm,hbel⟩
theorem GY (F:Nat) (caps:Array Value) (p:List Int→Bool) (v:Value) (m:List (List Int)) (w:World) (h:BJ w v m)
 (hF:∀args w,(callFunc F args).run prog w= .ok (.enter F args) w) (hf:∀u r,r∈m→∀W,Below w.heap.size w W→Ap W u r→Calls prog F (#[u]++caps) W fun e W'=>e= .returned (.bool (p r))∧Below W.heap.size W W'):
 Calls prog 114 #[v, .func (.func F) #[] caps] w fun e w'=>e= .returned (.bool (m.any p))∧Below w.heap.size w w':=by
 have E:=AA (G5 (p:=p) (xs:=m));have C:=AA (Kg F caps p v m w h hF hf);clear h hf;go_in;go_wp2_with (refine(C.out).mono ?_;rintro e w' ⟨rfl,hb2⟩);go_ret;exact⟨AK E.out,hb2⟩
theorem KM (F:Nat) (caps:Array Value) (p:List ByteArray→Bool) (v:Value) (m:List (List ByteArray)) (w:World) (h:IJ w v m)
 (hF:∀args w,(callFunc F args).run prog w= .ok (.enter F args) w) (hf:∀u r,r∈m→∀W,Below w.heap.size w W→BC W u r→Calls prog F (#[u]++caps) W fun e W'=>e= .returned (.bool (p r))∧Below W.heap.size W W'):
 Calls prog 160 #[v, .func (.func F) #[] caps] w fun e w'=>e= .returned (.int .i64 (Eh p m))∧Below w.heap.size w w':=by
 obtain⟨vs,h1,h2⟩:=h;obtain⟨a,c,rfl,hc,hcm,H0⟩:=A3.open EG (by decide) h1;clear h1;unfold maxLen at hcm;have Hf:=AA hf;clear hf;have H2:=AA h2;clear h2;go_in;go_wp2;go_loopw [8] (fun i wr=>∃k:Nat,k≤vs.length∧i= .int .i64 k∧(∀(j:Nat) x,j<k→m[j]? =some x→p x=false)∧Below w.heap.size w wr) (fun i _=>vs.length - (intOf i).toNat)
 case atStart=>exact⟨0,Nat.zero_le _,rfl,fun j x hj=>absurd hj (Nat.not_lt_zero _),Below.refl _ _⟩
 case round=>
  obtain⟨k,hk,rfl,hpre,hbel⟩:=hrel;have Hpre:=AA hpre;clear hpre
  by_cases hlt:k<vs.length
  ·obtain⟨u,hu⟩:∃u,vs[k]? =some u:=⟨_,List.getElem?_eq_getElem hlt⟩
   obtain⟨r,hx⟩:∃r,m[k]? =some r:=⟨_,List.getElem?_eq_getElem (by rw[←H2.out.1];exact hlt)⟩
   obtain⟨b,off,rfl,hbl,hcell⟩:=H0 k u hu;have D0:wr.cell? ⟨b,off+k,none⟩=some u:=(hbel.cell (p:=⟨b,off+k,none⟩) hbl).trans (by simpa using hcell 0 u rfl);have hr:=H2.out.2 k u r hu hx;have Hx:=AA hx;have Hc:=AA (Hf.out u r (List.mem_of_getElem? hx) wr hbel (A3.below hr hbel));clear hx hu hcell hr;cases hp:p r
   ·have Hp:=AA hp;clear hp
    go_wp2_with (refine(Hc.out).mono ?_;rintro e w' ⟨rfl,hb2⟩;rw[Hp.out]);go_roundw
    case rel=>exact⟨k+1,by omega,by go_num,Fy Hpre.out Hx.out Hp.out,hbel.trans (hb2.mono hbel.size)⟩
    case measure=>simp[intOf];omega
   ·have Hp:=AA hp;clear hp
    have hres:=AA (G4 Hx.out Hpre.out Hp.out);go_wp2_with (refine(Hc.out).mono ?_;rintro e w' ⟨rfl,hb2⟩;rw[Hp.out]);go_ret;exact⟨Bd hres.out.symm,hbel.trans (hb2.mono hbel.size)⟩
  ·have hres:=AA (Fz (p:=p) (xs:=m) (fun j x hx=>Hpre.out j x (by have:=(List.getElem?_eq_some_iff.1 hx).1;rw[←H2.out.1] at this;omega) hx))
   go_wp2;go_ret;exact⟨Bd hres.out.symm,hbel⟩
theorem JL (F:Nat) (caps:Array Value) (p:List ByteArray→Bool) (v:Value) (m:List (List ByteArray)) (w:World) (h:IJ w v m)
 (hF:∀args w,(callFunc F args).run prog w= .ok (.enter F args) w) (hf:∀u r,r∈m→∀W,Below w.heap.size w W→BC W u r→Calls prog F (#[u]++caps) W fun e W'=>e= .returned (.bool (p r))∧Below W.heap.size W W'):
 Calls prog 90 #[v, .func (.func F) #[] caps] w fun e w'=>e= .returned (.bool (m.any p))∧Below w.heap.size w w':=by
 have E:=AA (G5 (p:=p) (xs:=m));have C:=AA (KM F caps p v m w h hF hf);clear h hf;go_in;go_wp2_with (refine(C.out).mono ?_;rintro e w' ⟨rfl,hb2⟩);go_ret;exact⟨AK E.out,hb2⟩
section
variable {α:Type} {lo e sz:Nat} {cs:α→List Value} {w:World} {g cap k:Nat} {xs:List α}
theorem AJ.shapeOwn {v:Value} (h:AJ lo e sz cs w v xs) (hn:0<xs.length):∃g cap,v= .slice (some ⟨g,0,none⟩) xs.length cap∧xs.length≤cap∧cap≤maxLen∧lo≤g∧g<w.heap.size∧∀j,w.frozen? ⟨g,j,none⟩=false:=by
 obtain⟨g,cap,rfl,h1,h2⟩:=Jx h hn;obtain⟨a,c,hv,h3,h4⟩:=h.rd.shape;cases hv;exact⟨g,cap,rfl,h3,h4,h1,h2,fun j=>World.ownsRow.frozenAt h j⟩
theorem AJ.stored (hs:∀x,(cs x).length=sz) (h:AJ lo e sz cs w (.slice (some ⟨g,0,none⟩) xs.length cap) xs) (hk:k<xs.length) (y:α):
 AJ lo e sz cs (Fm w g (k*sz) 0 (cs y)) (.slice (some ⟨g,0,none⟩) xs.length cap) (xs.set k y)∧w.grownBy (Fm w g (k*sz) 0 (cs y)) (some g):=by
 obtain⟨h1,h2⟩:=Du h (k*sz) 0 (cs y);rw[QM hs hk] at h1;refine⟨?_,h2⟩;unfold AJ;rw[List.length_set];exact h1
theorem AJ.cellsAt (hs:∀x,(cs x).length=sz) (h:AJ lo e sz cs w (.slice (some ⟨g,0,none⟩) xs.length cap) xs) {x:α} (hk:xs[k]? =some x):∀(j:Nat) u,(cs x)[j]? =some u→w.cell? ⟨g,k*sz+j,none⟩=some u:=by
 intro j u hj;have hlt:=(List.getElem?_eq_some_iff.1 hk).1;have hj':j<sz:=by rw[←hs x];exact(List.getElem?_eq_some_iff.1 hj).1
 have hm:k*sz+sz≤xs.length*sz:=by rw[←Nat.succ_mul];exact Nat.mul_le_mul_right _ hlt
 rw[World.ownsRow.cellAt h (k*sz+j) (by omega),MM hs hk hj',hj]
end
theorem AJ.infoCells {lo e g cap k:Nat} {w:World} {xs:List AQ} (h:AJ lo e 3 Ag w (.slice (some ⟨g,0,none⟩) xs.length cap) xs) (hk:k<xs.length):
 w.cell? ⟨g,k*3,none⟩=some (.int .i64 (infoAt xs k).k)∧w.cell? ⟨g,k*3+1,none⟩=some (.string (infoAt xs k).g)∧w.cell? ⟨g,k*3+2,none⟩=some (.int .i64 (infoAt xs k).r):=by
 have hc:=AJ.cellsAt As h (k:=k) (x:=infoAt xs k) (by simp[infoAt,hk]);exact⟨hc 0 _ rfl,hc 1 _ rfl,hc 2 _ rfl⟩
theorem AJ.cachedCells {lo e g cap k:Nat} {w:World} {xs:List Aa} (h:AJ lo e 4 AP w (.slice (some ⟨g,0,none⟩) xs.length cap) xs) (hk:k<xs.length):
 w.cell? ⟨g,k*4,none⟩=some (.int .i64 (Ac xs k).e)∧w.cell? ⟨g,k*4+1,none⟩=some (.int .i64 (Ac xs k).p)∧w.cell? ⟨g,k*4+2,none⟩=some (.int .i64 (Ac xs k).f)∧w.cell? ⟨g,k*4+3,none⟩=some (.bool (Ac xs k).w):=by
 have hc:=AJ.cellsAt Bi h (k:=k) (x:=Ac xs k) (by simp[Ac,hk]);exact⟨hc 0 _ rfl,hc 1 _ rfl,hc 2 _ rfl,hc 3 _ rfl⟩
theorem AT {B:Nat} {w w' w'':World} {g:Nat} (h:Below B w w') (hg:w'.grownBy w'' (some g)) (hB:B≤g) (hs:B≤w'.heap.size):Below B w w'':=h.grown hg hs (fun k hk=>by cases hk;exact hB)
theorem Fj (b o:Nat) (vs:List Value):∀(j:Nat) (w:World),w.setCells b (o+j) vs=Fm w b o j vs:=by
 induction vs with
 |nil=>intro j w;rfl
 |cons v vs ih=>intro j w;exact ih (j+1) _
theorem Pm (xs us:List Value) (o:Nat):∀(j:Nat),(ES xs o j us).take o=xs.take o:=by
 induction us generalizing xs with
 |nil=>intro j;rfl
 |cons u us ih=>
  intro j;rw[ES,ih];apply List.ext_getElem?;intro k
  by_cases hk:k<o
  ·rw[List.getElem?_take_of_lt hk,List.getElem?_take_of_lt hk,List.getElem?_set_ne (by omega)]
  ·rw[List.getElem?_take_eq_none (by omega),List.getElem?_take_eq_none (by omega)]
theorem Lt {lo e sz n k:Nat} {w:World} {g cap:Nat} {xs:List Value} (h:w.ownsRow lo e sz (.slice (some ⟨g,0,none⟩) n cap) n xs) (hk:k≤n):w.ownsRow lo e sz (.slice (some ⟨g,0,none⟩) k cap) k (xs.take (k*sz)):=by
 rcases h.2 with⟨h0,_⟩|⟨g',cap',cur,hv,hb,hg,hnc,hcm,hcs,htake⟩
 ·cases h0
 ·cases hv
  have hm:k*sz≤n*sz:=Nat.mul_le_mul_right _ hk;refine⟨by rw[List.length_take,h.1];omega, .inr ⟨g,cap,cur,rfl,hb,hg,by omega,hcm,hcs,?_⟩⟩;rw[←htake,List.take_take,Nat.min_eq_left hm]
theorem IZ {P:Program} {lo e sz n k g cap t:Nat} {w:World} {xs:List Value} {z:Value} (ht:P.underlying t=some (.slice e)) (hv:∀w,(zeroValue e).run P w= .ok z w) (hzs:z.cells.size=sz) (h1:∀u∈z.cells.toList,u.oneCell'=true)
 (h:w.ownsRow lo e sz (.slice (some ⟨g,0,none⟩) n cap) n xs) (hk:k<n):
 ∃w',(∀ty c,(Builtin.clear_ #[t] ty #[.slice (some ⟨g,k*sz,none⟩) (n - k) c]).run P w= .ok (.tuple #[]) w')∧w'.ownsRow lo e sz (.slice (some ⟨g,0,none⟩) k cap) k (xs.take (k*sz))∧w.grownBy w' (some g):=by
 have hlen:(Builtin.zeroCells z.cells (n - k)).toList.length=(n - k)*sz:=by simp[Builtin.zeroCells,hzs,Nat.mul_comm]
 have hxl:=h.1;have hmul:k*sz+(n - k)*sz=n*sz:=by rw[←Nat.add_mul];congr 1;omega
 have hst:=run_storeCells_cells (P:=P) g (k*sz) (Builtin.zeroCells z.cells (n - k)).toList 0 w (by
  intro j hj;rw[hlen] at hj;have:=World.ownsRow.cellAt h (k*sz+j) (by omega);simp only[Nat.add_zero] at this ⊢;rw[this];simp;omega) (by intro j _;exact World.ownsRow.frozenAt h _) (by
  intro u hu;simp only[Builtin.zeroCells,Array.toList_map,List.mem_map,Array.mem_toList_iff,Array.mem_range] at hu;obtain⟨i,hi,rfl⟩:=hu;have hs:0<z.cells.size:=by
   rcases Nat.eq_zero_or_pos z.cells.size with h0|h0
   ·rw[h0] at hi;simp at hi
   ·exact h0
  have hlt:i%z.cells.size<z.cells.size:=Nat.mod_lt _ hs;refine h1 _ ?_;simp[hlt])
 obtain⟨m,hm⟩:∃m,n - k=m+1:=⟨n - k - 1,by omega⟩
 simp only[Nat.add_zero] at hst;refine⟨w.setCells g (k*sz) (Builtin.zeroCells z.cells (n - k)).toList,fun ty c=>?_,?_,?_⟩
 ·rw[hm] at hst ⊢
  simp[Builtin.clear_,run_underlying ht,hv,hst]
 ·have e0:=Fj g (k*sz) (Builtin.zeroCells z.cells (n - k)).toList 0 w
  rw[Nat.add_zero] at e0;rw[e0];obtain⟨a1,_⟩:=Du h (k*sz) 0 (Builtin.zeroCells z.cells (n - k)).toList;have:=Lt a1 (Nat.le_of_lt hk);rw[Pm] at this;exact this
 ·have e0:=Fj g (k*sz) (Builtin.zeroCells z.cells (n - k)).toList 0 w
  rw[Nat.add_zero] at e0;rw[e0];exact(Du h (k*sz) 0 (Builtin.zeroCells z.cells (n - k)).toList).2
section
variable {α:Type} {p:α→Bool} {xs ys:List α} {i j:Nat}
structure Gr (p:α→Bool) (xs ys:List α) (i j:Nat):Prop where
 len:ys.length=xs.length
 lt:i<j
 le:j≤xs.length
 kept:ys.take i=(xs.take j).filter fun x=>!p x
 rest:ys.drop j=xs.drop j
theorem Gr.start {k:Nat} {x:α} (hk:xs[k]? =some x) (h:∀(j:Nat) y,j<k→xs[j]? =some y→p y=false) (hp:p x=true):Gr p xs xs k (k+1):=by
 have hlt:=(List.getElem?_eq_some_iff.1 hk).1;refine⟨rfl,by omega,by omega,?_,rfl⟩;rw[Cv hk,List.filter_append];have h1:(xs.take k).filter (fun x=>!p x)=xs.take k:=by rw[List.filter_eq_self];intro y hy;obtain⟨j,hj⟩:=List.getElem?_of_mem hy;have hjk:=(List.getElem?_eq_some_iff.1 hj).1;rw[List.length_take] at hjk;rw[List.getElem?_take_of_lt (by omega)] at hj;simp[h j y (by omega) hj]
 rw[h1];simp[hp]
theorem Gr.drop (h:Gr p xs ys i j) {x:α} (hx:xs[j]? =some x) (hp:p x=true):Gr p xs ys i (j+1):=by
 have hlt:=(List.getElem?_eq_some_iff.1 hx).1;refine⟨h.len,by have:=h.lt;omega,by omega,?_,?_⟩
 ·rw[h.kept,Cv hx,List.filter_append]
  simp[hp]
 ·have:=congrArg (List.drop 1) h.rest
  rw[List.drop_drop,List.drop_drop] at this;exact this
theorem Gr.keep (h:Gr p xs ys i j) {x:α} (hx:xs[j]? =some x) (hp:p x=false):Gr p xs (ys.set i x) (i+1) (j+1):=by
 have hlt:=(List.getElem?_eq_some_iff.1 hx).1;have hij:=h.lt;refine⟨by rw[List.length_set];exact h.len,by omega,by omega,?_,?_⟩
 ·have e:(ys.set i x).take (i+1)=ys.take i++[x]:=by
   have hi:(ys.set i x)[i]? =some x:=by rw[List.getElem?_set_self (by rw[h.len];omega)]
   rw[Cv hi,List.take_set_of_le (Nat.le_refl _)]
  rw[e,h.kept,Cv hx,List.filter_append];simp[hp]
 ·rw[List.drop_set_of_lt (by omega)]
  have:=congrArg (List.drop 1) h.rest;rw[List.drop_drop,List.drop_drop] at this;exact this
theorem Gr.next (h:Gr p xs ys i j):ys[j]? =xs[j]? :=by
 have:=congrArg (fun l=>l[0]?) h.rest;simpa using this
theorem Gr.done (h:Gr p xs ys i j) (hj:j=xs.length):ys.take i=xs.filter fun x=>!p x:=by rw[h.kept,hj,List.take_length]
theorem Kq (h:Eh p xs≠ -1):∃k x,Eh p xs=((k:Nat):Int)∧xs[k]? =some x∧p x=true∧∀(j:Nat) y,j<k→xs[j]? =some y→p y=false:=by
 unfold Eh at h ⊢
 split
 ·rename_i ha
  have hl:xs.findIdx p<xs.length:=List.findIdx_lt_length.2 (List.any_eq_true.1 ha);refine⟨_,xs[xs.findIdx p],rfl,List.getElem?_eq_getElem hl,List.findIdx_getElem,fun j y hj hy=>?_⟩;obtain⟨hjl,rfl⟩:=List.getElem?_eq_some_iff.1 hy;have:=List.not_of_lt_findIdx hj;simpa using this
 ·rename_i ha
  rw[if_neg ha] at h;exact absurd rfl h
theorem Mq (h:Eh p xs= -1):xs.filter (fun x=>!p x)=xs:=by
 rw[List.filter_eq_self];intro x hx;unfold Eh at h
 split at h
 ·omega
 ·rename_i ha
  simp only[List.any_eq_true,not_exists,not_and] at ha;simpa using ha x hx
end
theorem AJ.strCells {lo e g cap k:Nat} {w:World} {xs:List ByteArray} (h:AJ lo e 1 An w (.slice (some ⟨g,0,none⟩) xs.length cap) xs) (hk:k<xs.length):w.cell? ⟨g,k,none⟩=some (.string (Bp xs k)):=by have hc:=AJ.cellsAt EJ h (k:=k) (x:=Bp xs k) (by simp[Bp,hk]);simpa using hc 0 _ rfl
theorem Vd {lo e n sz g cap:Nat} {w:World} {xs:List Value} (h:w.ownsRow lo e sz (.slice (some ⟨g,0,none⟩) n cap) n xs):lo≤g∧g<w.heap.size:=World.ownsRow.lt h g rfl
theorem L7:∀w,(zeroValue 140).run prog w= .ok (.agg #[.int .i64 0, .int .i64 0, .int .i64 0, .bool false]) w:=fun _=>by kernel_rfl
theorem GZ {lo:Nat} (F:Nat) (caps:Array Value) (p:Aa→Bool) (v:Value) (xs:List Aa) (w:World) (h:AJ lo 140 4 AP w v xs) (hlo:lo≤w.heap.size)
 (hF:∀args w,(callFunc F args).run prog w= .ok (.enter F args) w) (hf:∀x,x∈xs→∀W,Below lo w W→Calls prog F (#[x.val]++caps) W fun e W'=>e= .returned (.bool (p x))∧Below W.heap.size W W'):
 Calls prog 321 #[v, .func (.func F) #[] caps] w fun e w'=>∃v',e= .returned v'∧AJ lo 140 4 AP w' v' (xs.filter fun x=>!p x)∧Below lo w w':=by
 have C0:=Gs F caps p v xs w h.rd hF (fun x hx W hW=>hf x hx W (hW.mono hlo))
 by_cases hnone:Eh p xs= -1
 ·have S:=AA (Mq hnone)
  rw[hnone] at C0;have H:=AA h;obtain⟨a,c,rfl,hc,hcm⟩:=h.rd.shape;have C:=AA C0;clear C0 hf hnone h;go_in;go_wp2_with (refine(C.out).mono ?_;rintro e w1 ⟨rfl,hb1⟩);go_ret;exact⟨_,rfl,by rw[S.out];exact H.out.below hb1,hb1.mono hlo⟩
 ·obtain⟨k,x0,hk,hx0,hp0,hpre⟩:=Kq hnone
  rw[hk] at C0;have hkl:k<xs.length:=(List.getElem?_eq_some_iff.1 hx0).1;obtain⟨g,cap,rfl,hc,hcm,hg,hgl,hfz0⟩:=h.shapeOwn (by omega);unfold maxLen at hcm;have t0:((k:Int)== -1)=false:=by rw[beq_eq_false_iff_ne];omega
  have C:=AA C0;have Hf:=AA hf;have S0:=AA (Gr.start hx0 hpre hp0);have HO:=AA h;clear C0 hf hnone hk hx0 hp0 hpre h hfz0;go_in;go_wp2_with (refine(C.out).mono ?_;rintro e w1 ⟨rfl,hb1⟩);go_loopw [5,6] (fun i5 j6 wr=>∃i j:Nat,∃ys:List Aa,i5= .int .i64 i∧j6= .int .i64 j∧Gr p xs ys i j∧AJ lo 140 4 AP wr (.slice (some ⟨g,0,none⟩) xs.length cap) ys∧Below lo w wr) (fun _ j6 _=>xs.length - (intOf j6).toNat)
  case atStart=>exact⟨k,k+1,xs,rfl,by go_num,S0.out,HO.out.below hb1,hb1.mono hlo⟩
  case round=>
   clear hb1 HO;obtain⟨i,j,ys,rfl,rfl,hS,hO,hbel⟩:=hrel;have hij:=hS.lt;have hjl:=hS.le;have hlen:=hS.len;have S:=AA hS;have hO2:AJ lo 140 4 AP wr (.slice (some ⟨g,0,none⟩) ys.length cap) ys:=by rw[hlen];exact hO
   have hfz:∀q,wr.frozen? ⟨g,q,none⟩=false:=fun q=>World.ownsRow.frozenAt hO2 q
   have hlo2:lo≤wr.heap.size:=Nat.le_trans hlo hbel.size
   by_cases hlt:j<xs.length
   ·obtain⟨x,hx⟩:∃x,xs[j]? =some x:=⟨_,List.getElem?_eq_getElem hlt⟩
    have hj2:j<ys.length:=by omega
    have hi2:i<ys.length:=by omega
    obtain⟨d0,d1,d2,d3⟩:=AJ.cachedCells hO2 (k:=j) hj2;obtain⟨e0,e1,e2,e3⟩:=AJ.cachedCells hO2 (k:=i) hi2;have hyx:Ac ys j=x:=by have:=S.out.next;rw[hx] at this;simp[Ac,this]
    rw[hyx] at d0 d1 d2 d3;have hgw:=(Vd hO2);have Cf:=AA (Hf.out x (List.mem_of_getElem? hx) (wr.alloc (.cells #[.int .i64 x.e, .int .i64 x.p, .int .i64 x.f, .bool x.w] 140)) (hbel.alloc hlo2 _));have Hx:=AA hx;have HO2:=AA hO2;have Hi2:i<xs.length:=by omega
    clear hS hO hO2 hx hyx hlen hj2 hi2;go_wp2_with fail;refine(Cf.out).mono ?_;rintro e w2 ⟨rfl,hb2⟩;have hb3:=(hbel.alloc hlo2 (.cells #[.int .i64 x.e, .int .i64 x.p, .int .i64 x.f, .bool x.w] 140)).trans (hb2.mono (by simp;omega));have hgr:=(AG wr (.cells #[.int .i64 x.e, .int .i64 x.p, .int .i64 x.f, .bool x.w] 140)).trans (hb2.mono (AG _ _).size);have HO3:=AA (HO2.out.below hgr);obtain⟨hc2,hf2⟩:=UM hb2;have hz:wr.heap.size<w2.heap.size:=by have:=hb2.size;simp at this;omega
    cases hp:p x
    ·have SK:=AA (S.out.keep Hx.out hp)
     have Hp:=AA hp;clear hp;have ST0:=AJ.stored Bi HO3.out (k:=i) (by rw[S.out.len];exact Hi2) x;have ST:=AA ST0;clear ST0;have BL:=AA (AT hb3 ST.out.2 hg (Nat.le_trans hlo2 hgr.size));clear hgr hb3 hb2;go_wp2_with fail;go_roundw
     case rel=>exact⟨i+1,j+1,ys.set i x,by go_num,by go_num,SK.out,by have:=ST.out.1;rw[S.out.len] at this;exact this,BL.out⟩
     case measure=>simp[intOf];omega
    ·have SD:=AA (S.out.drop Hx.out hp)
     have Hp:=AA hp;clear hp;have HB:=AA hb3;clear hgr hb3 hb2;go_wp2_with fail;go_roundw
     case rel=>exact⟨i,j+1,ys,rfl,by go_num,SD.out,by have:=HO3.out;rw[S.out.len] at this;exact this,HB.out⟩
     case measure=>simp[intOf];omega
   ·have hje:j=xs.length:=by omega
    have hd:=AA (hS.done hje);have hin:i<xs.length:=by omega
    have hO3:wr.ownsRow lo 140 4 (.slice (some ⟨g,0,none⟩) xs.length cap) xs.length (Bj AP ys):=by have:=hO2;unfold AJ at this;rwa [hlen] at this
    obtain⟨w3,hcl,hO4,hg4⟩:=IZ (P:=prog) (sz:=4) (t:=27) underlying27 L7 rfl (by simp[Value.cells,Value.oneCell']) hO3 hin;have hE:(Bj AP ys).take (i*4)=Bj AP (xs.filter fun x=>!p x):=by
     rw[←hd.out]
     conv=>lhs;rw[←List.take_append_drop i ys,BS]
     rw[List.take_left'];rw[Gc Bi,List.length_take]
     congr 1;omega
    have hL:(xs.filter fun x=>!p x).length=i:=by rw[←hd.out,List.length_take];omega
    rw[hE] at hO4;have R:=AA (show AJ lo 140 4 AP w3 (.slice (some ⟨g,0,none⟩) i cap) (xs.filter fun x=>!p x) by unfold AJ;rw[hL];exact hO4);have BL:=AA (AT hbel hg4 hg hlo2);have hcap:¬cap=i:=by omega
    have hcl2:=fun ty=>hcl ty (cap - i)
    clear hO hO2 hO3 hO4 hE hL hcl hg4 hlen hS hfz hje hd;go_wp2_with fail;go_ret;exact⟨_,rfl,R.out,BL.out⟩
theorem Qy:∀w,(zeroValue 9).run prog w= .ok (.string ⟨#[]⟩) w:=fun _=>by kernel_rfl
theorem JQ {lo:Nat} (F:Nat) (caps:Array Value) (p:ByteArray→Bool) (v:Value) (xs:List ByteArray) (w:World) (h:AJ lo 9 1 An w v xs) (hlo:lo≤w.heap.size)
 (hF:∀args w,(callFunc F args).run prog w= .ok (.enter F args) w) (hf:∀x,x∈xs→∀W,Below lo w W→Calls prog F (#[Value.string x]++caps) W fun e W'=>e= .returned (.bool (p x))∧Below W.heap.size W W'):
 Calls prog 325 #[v, .func (.func F) #[] caps] w fun e w'=>∃v',e= .returned v'∧AJ lo 9 1 An w' v' (xs.filter fun x=>!p x)∧Below lo w w':=by
 have C0:=Gt F caps p v xs w h.rd hF (fun x hx W hW=>hf x hx W (hW.mono hlo))
 by_cases hnone:Eh p xs= -1
 ·have S:=AA (Mq hnone)
  rw[hnone] at C0;have H:=AA h;obtain⟨a,c,rfl,hc,hcm⟩:=h.rd.shape;have C:=AA C0;clear C0 hf hnone h;go_in;go_wp2_with (refine(C.out).mono ?_;rintro e w1 ⟨rfl,hb1⟩);go_ret;exact⟨_,rfl,by rw[S.out];exact H.out.below hb1,hb1.mono hlo⟩
 ·obtain⟨k,x0,hk,hx0,hp0,hpre⟩:=Kq hnone
  rw[hk] at C0;have hkl:k<xs.length:=(List.getElem?_eq_some_iff.1 hx0).1;obtain⟨g,cap,rfl,hc,hcm,hg,hgl,hfz0⟩:=h.shapeOwn (by omega);unfold maxLen at hcm;have t0:((k:Int)== -1)=false:=by rw[beq_eq_false_iff_ne];omega
  have C:=AA C0;have Hf:=AA hf;have S0:=AA (Gr.start hx0 hpre hp0);have HO:=AA h;clear C0 hf hnone hk hx0 hp0 hpre h hfz0;go_in;go_wp2_with (refine(C.out).mono ?_;rintro e w1 ⟨rfl,hb1⟩);go_loopw [5,6] (fun i5 j6 wr=>∃i j:Nat,∃ys:List ByteArray,i5= .int .i64 i∧j6= .int .i64 j∧Gr p xs ys i j∧AJ lo 9 1 An wr (.slice (some ⟨g,0,none⟩) xs.length cap) ys∧Below lo w wr) (fun _ j6 _=>xs.length - (intOf j6).toNat)
  case atStart=>exact⟨k,k+1,xs,rfl,by go_num,S0.out,HO.out.below hb1,hb1.mono hlo⟩
  case round=>
   clear hb1 HO;obtain⟨i,j,ys,rfl,rfl,hS,hO,hbel⟩:=hrel;have hij:=hS.lt;have hjl:=hS.le;have hlen:=hS.len;have S:=AA hS;have hO2:AJ lo 9 1 An wr (.slice (some ⟨g,0,none⟩) ys.length cap) ys:=by rw[hlen];exact hO
   have hfz:∀q,wr.frozen? ⟨g,q,none⟩=false:=fun q=>World.ownsRow.frozenAt hO2 q
   have hlo2:lo≤wr.heap.size:=Nat.le_trans hlo hbel.size
   by_cases hlt:j<xs.length
   ·obtain⟨x,hx⟩:∃x,xs[j]? =some x:=⟨_,List.getElem?_eq_getElem hlt⟩
    have hj2:j<ys.length:=by omega
    have hi2:i<ys.length:=by omega
    have d0:=AJ.strCells hO2 (k:=j) hj2;have e0:=AJ.strCells hO2 (k:=i) hi2;have hyx:Bp ys j=x:=by have:=S.out.next;rw[hx] at this;simp[Bp,this]
    rw[hyx] at d0;have hgw:=(Vd hO2);have Cf:=AA (Hf.out x (List.mem_of_getElem? hx) wr hbel);have Hx:=AA hx;have HO2:=AA hO2;have Hi2:i<xs.length:=by omega
    clear hS hO hO2 hx hyx hlen hj2 hi2;go_wp2_with fail;refine(Cf.out).mono ?_;rintro e w2 ⟨rfl,hb2⟩;have hb3:=hbel.trans (hb2.mono hlo2);have hgr:=hb2;have HO3:=AA (HO2.out.below hgr);obtain⟨hc2,hf2⟩:=UM hb2;have hz:=hb2.size;cases hp:p x
    ·have SK:=AA (S.out.keep Hx.out hp)
     have Hp:=AA hp;clear hp;have ST0:=AJ.stored EJ HO3.out (k:=i) (by rw[S.out.len];exact Hi2) x;simp only[Nat.mul_one] at ST0;have ST:=AA ST0;clear ST0;have BL:=AA (AT hb3 ST.out.2 hg (Nat.le_trans hlo2 hgr.size));clear hgr hb3 hb2;go_wp2_with fail;go_roundw
     case rel=>exact⟨i+1,j+1,ys.set i x,by go_num,by go_num,SK.out,by have:=ST.out.1;rw[S.out.len] at this;exact this,BL.out⟩
     case measure=>simp[intOf];omega
    ·have SD:=AA (S.out.drop Hx.out hp)
     have Hp:=AA hp;clear hp;have HB:=AA hb3;clear hgr hb3 hb2;go_wp2_with fail;go_roundw
     case rel=>exact⟨i,j+1,ys,rfl,by go_num,SD.out,by have:=HO3.out;rw[S.out.len] at this;exact this,HB.out⟩
     case measure=>simp[intOf];omega
   ·have hje:j=xs.length:=by omega
    have hd:=AA (hS.done hje);have hin:i<xs.length:=by omega
    have hO3:wr.ownsRow lo 9 1 (.slice (some ⟨g,0,none⟩) xs.length cap) xs.length (Bj An ys):=by have:=hO2;unfold AJ at this;rwa [hlen] at this
    obtain⟨w3,hcl,hO4,hg4⟩:=IZ (P:=prog) (sz:=1) (t:=67) underlying67 Qy rfl (by simp[Value.cells,Value.oneCell']) hO3 hin;have hE:(Bj An ys).take (i*1)=Bj An (xs.filter fun x=>!p x):=by
     rw[←hd.out]
     conv=>lhs;rw[←List.take_append_drop i ys,BS]
     rw[List.take_left'];rw[Gc EJ,List.length_take]
     congr 1;omega
    have hL:(xs.filter fun x=>!p x).length=i:=by rw[←hd.out,List.length_take];omega
    rw[hE] at hO4;have R:=AA (show AJ lo 9 1 An w3 (.slice (some ⟨g,0,none⟩) i cap) (xs.filter fun x=>!p x) by unfold AJ;rw[hL];exact hO4);have BL:=AA (AT hbel hg4 hg hlo2);have hcap:¬cap=i:=by omega
    have hcl2:=fun ty=>hcl ty (cap - i)
    simp only[Nat.mul_one] at hcl2;clear hO hO2 hO3 hO4 hE hL hcl hg4 hlen hS hfz hje hd;go_wp2_with fail;go_ret;exact⟨_,rfl,R.out,BL.out⟩
theorem Ct {lo:Nat} {w:World} {t ty:TypeId} (e:TypeId) (z:Value) (sz bytes:Nat) (ht:prog.underlying t=some (.slice e)) (hi:(prog.info? e).map (fun i=>(i.zero,i.size,i.bytes))=some (some z,sz,bytes))
 (hzs:z.cells.size=sz) (hsz:0<sz) {g:Nat} (hb:w.heap[g]? =some (.cells #[] e (0,0))) (hlo:lo≤g) {u:Value} {m:Nat} {news:List Value} (hr:Rd w u sz m news) (h1:∀u∈news,u.oneCell'=true)
 (hbytes:m*bytes≤140737488355328):∃v' w',(Builtin.append_ #[t,t] ty #[.slice (some ⟨g,0,none⟩) 0 0,u]).run prog w= .ok v' w'∧w'.ownsRow lo e sz v' m news∧Below w.heap.size w w'∧(∀k,v'.ownBlock=some k→k=g∨w.heap.size≤k):=by
 obtain⟨i0,hi0,hz0,hz1,hz2⟩:=info_parts hi;obtain⟨ao,c,rfl,hmc,hcm,hl,hnil,hc⟩:=hr;have hgl:g<w.heap.size:=(Array.getElem?_eq_some_iff.1 hb).1;have hown:∀l,l≤g→w.ownsRow l e sz (.slice (some ⟨g,0,none⟩) 0 0) 0 []:=fun l hl=>⟨by simp, .inr ⟨g,0,#[],rfl,hl,hb,Nat.le_refl _,by simp[maxLen],by simp,by simp⟩⟩
 rcases Nat.eq_zero_or_pos m with rfl|hm
 ·have hnews:news=[]:=List.eq_nil_of_length_eq_zero (by simpa using hl)
  subst hnews;cases ao with
  |none=>have hc0:=hnil rfl;subst hc0;exact⟨_,w,by simp[Builtin.append_,run_underlying ht,sizeOf,typeInfo,hi0,Builtin.lenOf,Builtin.firstCells,storeCells],hown lo hlo,Below.refl _ _,fun k hk=>by simp[Value.ownBlock] at hk;exact .inl hk.symm⟩
  |some a=>have hf:=run_firstCells_some (P:=prog) w i0.size 0 a 0 c [] (by simp) (by simp);exact⟨_,w,by simp[Builtin.append_,run_underlying ht,sizeOf,typeInfo,hi0,Builtin.lenOf,hf,storeCells],hown lo hlo,Below.refl _ _,fun k hk=>by simp[Value.ownBlock] at hk;exact .inl hk.symm⟩
 ·obtain⟨b,off,rfl,hcell⟩:=hc hm
  obtain⟨v',w',hrun,r1,r2⟩:=run_append_arg_grows (P:=prog) w t ty e i0 z sz bytes ht hi0 hz0 hz1 hz2 hzs hsz ⟨g,0,none⟩ 0 0 [] (by simp) (by simp) ⟨b,off,none⟩ m c news hl (by
   intro j u hu;have hj:j<news.length:=(List.getElem?_eq_some_iff.1 hu).1;have hadd:(⟨b,off,none⟩:Addr).add j=⟨b,off+j,none⟩:=by unfold Addr.add;split<;>simp_all
   rw[hadd,hcell j (by omega),hu]) (by omega) (by omega) (by rw[Nat.zero_add];exact hbytes)
  have hB:=Below.of_grown r2;have r1':w'.ownsRow w.heap.size e sz v' m news:=by simpa using r1
  exact⟨v',w',hrun,BQ r1' (by omega),hB,fun k hk=> .inr (r1'.lt k hk).1⟩
end Go.Proofs.YtnieoiclifjoaaaGreatDoor
