/-
  Packed:8 texts.
-/
import Derived.Test.YtpdjjjdkhedibaaGreatDoorY10
import Derived.Test.YtpdjjjdkhedibaaGreatDoorY5
import Derived.Test.YtpdjjjdkhedibaaGreatDoorY3
import Derived.Test.YtpdjjjdkhedibaaGreatDoorY1
import Derived.Test.YtpdjjjdkhedibaaGreatDoorY8
import Derived.Test.YtpdjjjdkhedibaaGreatDoorY9
import Derived.Test.YtpdjjjdkhedibaaGreatDoorY6
import Derived.Test.YtpdjjjdkhedibaaGreatDoorY7
set_option linter.unusedVariables false
set_option linter.unusedSimpArgs false
set_option maxHeartbeats 16000000
set_option maxRecDepth 100000
open Go Go.Proofs.YtpdjjjdkhedibaaGreatDoor
open And renaming intro->xZ
open Go.RowKit.Below renaming cell->tD,refl->yD
open Go.Value renaming int->yf,slice->xF
open Go.World renaming block_lt_of_cell?->yA
open Go.World.ownsRow renaming cellAt->xB,frozenAt->xN,lt->yq
open Go renaming bodyPost_ret->yk,heap_alloc_new->yv,heap_setCell_same->ym
open Int renaming tmod_eq_emod_of_nonneg->wy,toNat_natCast->yb
open List renaming foldl_cons->yy,foldl_nil->yw,getElem?_replicate->wm,length_replicate->vY,mem_of_getElem?->ye,range->yC,replicate->xV
open List.range renaming loop->yz
open Nat renaming le_refl->yt,le_trans->yB,lt_of_lt_of_le->xX
variable {W:World} {c' e' i' m' v:Value}
namespace Go.Proofs.YtpdjjjdkhedibaaGreatDoor
open Go.Proofs.Tryz
open Go.RowKit
def KL(w:World)(res:ML)(r:Ending)(w':World):Prop:=∃m i e c,r=.returned (.tuple #[.agg #[m,i,e,c],.int .i64 res.2.1,.bool (res.2.2==0)])/\DP w.heap.size w' m i e c res.1/\Below w.heap.size w w'
theorem FR{m i e c:Value}{k:AN}{w:World}(h:Ma w m i e c k)(hk:DJ k)(kind a b x:Int)(hx:x<=9223372036854775807):
 Calls prog 32 #[.agg #[m,i,e,c],.int .i64 kind,.int .i64 a,.int .i64 b,.int .i64 x] w (KL w (Ad k (Ah kind a b x))):=by
 obtain⟨N0,N1,ad,bk⟩:=Jy w (.cells #[m,i,e,c] 28) (.cells #[.slice none 0 0,.slice none 0 0,.slice none 0 0,.slice none 0 0] 28);have C:=LI (h.below ad) hk (Ah kind a b x) ⟨Int.le_refl 0,show(0:Int)<3 by decide⟩ (show gA.size<=maxLen by decide) hx;simp only[Aa.cs,Ah,gA] at C ⊢;generalize Ad k ⟨kind,0,a,b,x,⟨#[97]⟩⟩=res at C ⊢;obtain⟨kr,vr,nr⟩:=res;have C:=AA C;clear h hk hx;obtain⟨x0,x1,x2,x3⟩:=AG N0;go_in;go_wp2_with fail;generalize(w.alloc _).alloc _=W0 at*;refine C.out.mono ?_;rintro r w1 ⟨m1,i1,e1,c1,rfl,O1,b1⟩;obtain⟨⟨ma,mn,mc,rfl⟩,⟨ia,iN,ic,rfl⟩,⟨ea,en,ec,rfl⟩,⟨qa,qn,qc,rfl⟩⟩:=O1.zQ;have N2:=yv w1 (.cells #[.slice ma mn mc,.slice ia iN ic,.slice ea en ec,.slice qa qn qc] 28);have b2:=AE w1 (.cells #[.slice ma mn mc,.slice ia iN ic,.slice ea en ec,.slice qa qn qc] 28);have dD:=AC (AC N1 b1) b2;have O2:=O1.below b2;have HW:=AA (ad.trans ((b1.trans (b2.mono b1.size)).mono ad.size));have fO:=AK dD;obtain⟨z0,z1,z2,z3⟩:=AG dD;obtain⟨p0,p1,p2,p3⟩:=AG N2;obtain⟨E0,E1,E2,E3⟩:=Jc (m':=.slice ma mn mc) (i':=.slice ia iN ic) (e':=.slice ea en ec) (c':=.slice qa qn qc) dD;have HE:=AA (xZ E0 (xZ E1 (xZ E2 E3)));have ac:=Ao (w1.alloc (.cells #[.slice ma mn mc,.slice ia iN ic,.slice ea en ec,.slice qa qn qc] 28)) (w.heap.size+1) (.slice ma mn mc) (.slice ia iN ic) (.slice ea en ec) (.slice qa qn qc);have iM:=AA (show DP w.heap.size _ (.slice ma mn mc) (.slice ia iN ic) (.slice ea en ec) (.slice qa qn qc) kr from(O2.yL ac dD).lower ad.size);have bx:=AA (AM HW.out ac (by omega) HW.out.size);clear E0 E1 E2 E3 ac dD N0 N1 N2 x0 x1 x2 x3 O1 O2 b1 b2 ad bk C;go_wp2_with fail;exact yk (v:=.tuple #[.agg #[_,_,_,_],_,_]) (by simp[results,Tryz.results32,go_sem,HE.out]) rfl ⟨_,_,_,_,rfl,iM.out,bx.out⟩
def Og(lo:Nat)(w:World)(m i e c:Value)(k:AN):Prop:=(∃vs,AQ lo 29 1 GC w m vs/\Fh (AF lo w) vs k.mem)/\AQ lo 92 3 A2 w i k.zZ/\(∃ps,AQ lo 74 2 Ec w e ps/\Fh (λp e=>AQ lo 9 1 BB w p.1 e.zT/\p.2=e.root) ps k.zX)/\AQ lo 112 4 Ag w c k.zW
def YL(lo:Nat)(w:World)(u:Value)(r:List Int):Prop:=AF lo w u r∨(r=[]/\∃a ay,u=.slice a 0 ay/\ay<=maxLen/\(a=none->ay=0))
theorem YL.rd{lo:Nat}{w:World}{u:Value}{r:List Int}(h:YL lo w u r):Aw w u r:=by
 rcases h with h|⟨rfl,a,ay,rfl,h1,h2⟩
 .exact AF.rd h
 .exact⟨a,ay,rfl,Nat.zero_le _,h1,rfl,h2,λh0=>absurd h0 (Nat.lt_irrefl 0)⟩
def OE(lo:Nat)(w:World)(m i e c s l q:Value)(P:AR):Prop:=Og lo w m i e c P.zV/\(∃vs,AQ lo 29 1 GC w s vs/\Fh (YL lo w) vs P.swap)/\AF lo w l P.low/\AQ lo 43 3 Cw w q P.zY
section
variable {lo lo':Nat} {w w':World} {m i e c s l q:Value} {k:AN} {P:AR}
theorem DP.sf(h:DP lo w m i e c k):Og lo w m i e c k:=by obtain⟨⟨vs,h1,h2,_⟩,h3,⟨ps,h4,h5,_⟩,h6⟩:=h;exact⟨⟨vs,h1,h2⟩,h3,⟨ps,h4,h5⟩,h6⟩
theorem FG.sf(h:FG lo w m i e c s l q P):OE lo w m i e c s l q P:=by
 obtain⟨vs,h1,h2,_⟩:=h.swp;exact⟨h.ker.sf,⟨vs,h1,h2.mono λ_ _ h=> .inl h⟩,h.low,h.pgs⟩
theorem Og.rd(h:Og lo w m i e c k):Ma w m i e c k:=by
 obtain⟨⟨vs,h1,h2⟩,h3,⟨ps,h4,h5⟩,h6⟩:=h;exact⟨⟨vs,h1.rd,h2.mono λ_ _ h=>AF.rd h⟩,h3.rd,⟨ps,h4.rd,h5.mono λ_ _ h=>⟨h.1.rd,h.2⟩⟩,h6.rd⟩
theorem OE.rd(h:OE lo w m i e c s l q P):Kx w m i e c s l q P:=by
 obtain⟨h0,⟨vs,h1,h2⟩,h3,h4⟩:=h;exact⟨h0.rd,⟨vs,h1.rd,h2.mono λ_ _ h=>h.rd⟩,h3.rd,h4.rd⟩
theorem Og.map(h:Og lo w m i e c k)(f:∀t sz n v xs,t≠28->t≠32->w.ownsRow lo t sz v n xs->w'.ownsRow lo' t sz v n xs):Og lo' w' m i e c k:=by
 obtain⟨⟨vs,h1,h2⟩,h3,⟨ps,h4,h5⟩,h6⟩:=h;exact⟨⟨vs,f _ _ _ _ _ (by decide) (by decide) h1,h2.mono λ_ _ h=>f _ _ _ _ _ (by decide) (by decide) h⟩,f _ _ _ _ _ (by decide) (by decide) h3,⟨ps,f _ _ _ _ _ (by decide) (by decide) h4,h5.mono λ_ _ h=>⟨f _ _ _ _ _ (by decide) (by decide) h.1,h.2⟩⟩,f _ _ _ _ _ (by decide) (by decide) h6⟩
theorem OE.map(h:OE lo w m i e c s l q P)(f:∀t sz n v xs,t≠28->t≠32->w.ownsRow lo t sz v n xs->w'.ownsRow lo' t sz v n xs):OE lo' w' m i e c s l q P:=by
 obtain⟨h0,⟨vs,h1,h2⟩,h3,h4⟩:=h;exact⟨h0.map f,⟨vs,f _ _ _ _ _ (by decide) (by decide) h1,h2.mono λ_ _ h=>h.imp (f _ _ _ _ _ (by decide) (by decide)) id⟩,f _ _ _ _ _ (by decide) (by decide) h3,f _ _ _ _ _ (by decide) (by decide) h4⟩
theorem GN{g:Nat}(hg:w.grownBy w' (some g))(hl:g<lo)(av:lo'<=lo):∀t sz n v xs,t≠28->t≠32->w.ownsRow lo t sz v n xs->w'.ownsRow lo' t sz v n xs:=λ_ _ _ _ _ _ _ h=>BO (Bq h hg (λk hk=>by cases hk;exact hl)) av
theorem KE(hb:Below w.heap.size w w')(av:lo'<=lo):∀t sz n v xs,t≠28->t≠32->w.ownsRow lo t sz v n xs->w'.ownsRow lo' t sz v n xs:=λ_ _ _ _ _ _ _ h=>BO (Co h hb) av
theorem Kf{b T:Nat}{cu:Array Value}(hg:w.grownBy w' (some b))(hB:w.heap[b]?=some (.cells cu T (0,0)))(hT:T=28∨T=32)(av:lo'<=lo):∀t sz n v xs,t≠28->t≠32->w.ownsRow lo t sz v n xs->w'.ownsRow lo' t sz v n xs:=
 λ_ _ _ _ _ h1 h2 h=>BO (Eu h hg hB (by rcases hT with rfl|rfl;(· exact h1);(· exact h2))) av
theorem Og.zQ(h:Og lo w m i e c k):(∃a n q,m=.slice a n q)/\(∃a n q,i=.slice a n q)/\(∃a n q,e=.slice a n q)/\∃a n q,c=.slice a n q:=by obtain⟨⟨vs,h1,h2⟩,h3,⟨ps,h4,h5⟩,h6⟩:=h;obtain⟨_,_,rfl,_,_⟩:=h1.rd.shape;obtain⟨_,_,rfl,_,_⟩:=h3.rd.shape;obtain⟨_,_,rfl,_,_⟩:=h4.rd.shape;obtain⟨_,_,rfl,_,_⟩:=h6.rd.shape;exact⟨⟨_,_,_,rfl⟩,⟨_,_,_,rfl⟩,⟨_,_,_,rfl⟩,⟨_,_,_,rfl⟩⟩
theorem OE.zQ(h:OE lo w m i e c s l q P):((∃a n q,m=.slice a n q)/\(∃a n q,i=.slice a n q)/\(∃a n q,e=.slice a n q)/\∃a n q,c=.slice a n q)/\(∃a n q,s=.slice a n q)/\(∃a n q,l=.slice a n q)/\∃a n r,q=.slice a n r:=by obtain⟨h0,⟨vs,h1,h2⟩,h3,h4⟩:=h;have h5:=h0.zQ;obtain⟨_,_,rfl,_,_⟩:=h1.rd.shape;obtain⟨_,_,rfl,_,_⟩:=h3.rd.shape;obtain⟨_,_,rfl,_,_⟩:=h4.rd.shape;exact⟨h5,⟨_,_,_,rfl⟩,⟨_,_,_,rfl⟩,⟨_,_,_,rfl⟩⟩
end
theorem Lp(f:Int)(w:World)(h0:0<=f)(h1:f<=11):Calls prog 81 #[.int .i64 f,.bool true] w λe w'=>e=.returned (.int .i64 (Hh f))/\Below w.heap.size w w':=by unfold Hh;go_in;go_wp2_with fail;go_ret;exact⟨rfl,yD _ _⟩
def GB(W:World)(q:Nat)(k:AN)(t:Bool)(ww:World):Prop:=match t with
 |false=>Below W.heap.size W ww
 |true=>∃wz m i e c,Below W.heap.size W wz/\DP W.heap.size wz m i e c k/\Below wz.heap.size (Ex wz q m i e c) ww
theorem GB.grow{q:Nat}{k:AN}{t:Bool}{ww bs:World}(h:GB W q k t ww)(hb:Below ww.heap.size ww bs):GB W q k t bs:=by
 cases t
 .exact Below.trans h (hb.mono (Below.size h))
 .obtain⟨wz,m,i,e,c,h1,h3,h2⟩:=h
  exact⟨wz,m,i,e,c,h1,h3,h2.trans (hb.mono (by have:=h2.size;simpa[Ex] using this))⟩
theorem GB.cell{q:Nat}{k:AN}{t:Bool}{ww:World}(h:GB W q k t ww)(ht:t=false){g o:Nat}{v:Value}(hg:g<W.heap.size)(hc:W.cell? ⟨g,o,none⟩=some v):ww.cell? ⟨g,o,none⟩=some v:=by subst ht;exact(tD (p:=⟨g,o,none⟩) h hg).trans hc
theorem GB.other{q:Nat}{k:AN}{t:Bool}{ww:World}(h:GB W q k t ww){g o:Nat}{v:Value}(hg:g<W.heap.size)(ex:g≠q)(hc:W.cell? ⟨g,o,none⟩=some v):ww.cell? ⟨g,o,none⟩=some v:=by
 cases t
 .exact(tD (p:=⟨g,o,none⟩) h hg).trans hc
 .obtain⟨wz,m,i,e,c,h1,_,h2⟩:=h
  have hz:g<wz.heap.size:=xX hg h1.size;exact(tD (p:=⟨g,o,none⟩) h2 (by simpa[Ex] using hz)).trans ((F5 (o:=o) (Ao wz q m i e c) hz (λe=>ex (yF e).symm)).trans ((h1.cell (p:=⟨g,o,none⟩) hg).trans hc))
def Ei(lo:Nat)(v:Value)(w:World)(k:AN)(x:Int)(b:Bool):Prop:=∃m i e c,v=.tuple #[.agg #[m,i,e,c],.int .i64 x,.bool b]/\DP lo w m i e c k
theorem Ei.below{lo:Nat}{w w':World}{k:AN}{x:Int}{b:Bool}(h:Ei lo v w k x b)(hb:Below w.heap.size w w'):Ei lo v w' k x b:=by obtain⟨m,i,e,c,h1,h2⟩:=h;exact⟨m,i,e,c,h1,h2.below hb⟩
theorem Ei.yL{lo g:Nat}{w w':World}{k:AN}{x:Int}{b:Bool}{cu:Array Value}(h:Ei lo v w k x b)(hg:w.grownBy w' (some g))(hB:w.heap[g]?=some (.cells cu 28 (0,0))):Ei lo v w' k x b:=by obtain⟨m,i,e,c,h1,h2⟩:=h;exact⟨m,i,e,c,h1,h2.yL hg hB⟩
def Nd(lo:Nat)(w:World)(v:Value):Prop:=∃vs,AQ lo 29 1 GC w v vs/\vs.length=16/\∀u∈vs,∃a ay,u=.slice a 0 ay/\ay<=maxLen/\(a=none->ay=0)
theorem Nd.of{lo:Nat}{w:World}{vs:List Value}(h:Au lo w v vs (xV 16 [])):Nd lo w v:=by
 have hl:vs.length=16:=h.2.1.1.trans (vY ..);refine⟨vs,h.1,hl,λu hu=>?_⟩;obtain⟨j,hj⟩:=List.getElem?_of_mem hu;have dO:=(List.getElem?_eq_some_iff.1 hj).1;have hr:=h.2.1.2 j u [] hj (by rw[wm,if_pos (by omega)]);obtain⟨a,ay,rfl,_,hc,_,hn,_⟩:=hr.rd;exact⟨a,ay,rfl,hc,hn⟩
theorem Nd.below{lo:Nat}{w w':World}(h:Nd lo w v)(hb:Below w.heap.size w w'):Nd lo w' v:=by obtain⟨vs,h1,h2⟩:=h;exact⟨vs,AQ.below h1 hb,h2⟩
theorem Nd.lower{lo lo':Nat}{w:World}(h:Nd lo w v)(hl:lo'<=lo):Nd lo' w v:=by obtain⟨vs,h1,h2⟩:=h;exact⟨vs,BO h1 hl,h2⟩
theorem Nd.yL{lo g T:Nat}{w w':World}{cu:Array Value}{fr:Nat×Nat}(h:Nd lo w v)(hg:w.grownBy w' (some g))(hB:w.heap[g]?=some (.cells cu T fr))(hT:29≠T:=by decide):Nd lo w' v:=by obtain⟨vs,h1,h2⟩:=h;exact⟨vs,AQ.yL h1 hg hB hT,h2⟩
theorem Nd.grown{lo:Nat}{w w':World}{o:Option Nat}(h:Nd lo w v)(hg:w.grownBy w' o)(hT:∀b,v.ownBlock=some b->o≠some b):Nd lo w' v:=by
 obtain⟨vs,h1,h2⟩:=h;refine⟨vs,Av h1 hg ?_,h2⟩
 rcases hv:v.ownBlock with _|b
 .exact .inl rfl
 .exact .inr (hT b hv).symm
theorem Nd.rd{lo:Nat}{w:World}(h:Nd lo w v):Bf w v (xV 16 []):=by
 obtain⟨vs,h1,h2,h3⟩:=h;refine⟨vs,h1.rd,⟨by rw[h2,vY],λi x y hx hy=>?_⟩⟩;obtain⟨a,ay,rfl,hc,hn⟩:=h3 x (ye hx);rw[wm] at hy
 split at hy
 .cases hy
  exact⟨a,ay,rfl,Nat.zero_le _,hc,rfl,hn,λh0=>absurd h0 (Nat.lt_irrefl 0)⟩
 .cases hy
theorem Nd.sf{lo:Nat}{w:World}(h:Nd lo w v):∃vs,AQ lo 29 1 GC w v vs/\Fh (YL lo w) vs (xV 16 []):=by
 obtain⟨vs,h1,h2,h3⟩:=h;refine⟨vs,h1,⟨by rw[h2,vY],λi x y hx hy=>?_⟩⟩;rw[wm] at hy
 split at hy
 .cases hy
  exact .inr ⟨rfl,h3 x (ye hx)⟩
 .cases hy
theorem Nd.slice{lo:Nat}{w:World}(h:Nd lo w v):∃a n c,v=.slice a n c:=by obtain⟨vs,h1,_⟩:=h;obtain⟨_,_,rfl,_,_⟩:=h1.rd.shape;exact⟨_,_,_,rfl⟩
structure J0(lo g gk q:Nat)(w:World)(l:Int)(n j:Nat)(m i e c sv lv qv:Value):Prop where
 pb:w.heap[g]?=some (.cells #[.slice none 0 0,.slice none 0 0,.slice none 0 0,.slice none 0 0,sv,lv,qv,.int .i64 0,.int .i64 l] 32 (0,0))
 kb:w.heap[q]?=some (.cells #[m,i,e,c] 28 (0,0))
 gb:∃a b c d,w.heap[gk]?=some (.cells #[a,b,c,d] 28 (0,0))
 yJ:lo<=g/\lo<=gk/\lo<=q/\lo<=w.heap.size
 ker:DP lo w m i e c (Dx n)
 swp:Nd lo w sv
 low:AF lo w lv (LN j)
 pgs:AQ lo 43 3 Cw w qv (xV 16 ⟨0,0,false⟩)
section
variable {lo g gk q:Nat} {w w1:World} {l:Int} {n j:Nat} {m i e c sv lv qv:Value}
theorem J0.below(h:J0 lo g gk q w l n j m i e c sv lv qv)(hb:Below w.heap.size w w1):J0 lo g gk q w1 l n j m i e c sv lv qv:=by obtain⟨a,b,c',d,hg⟩:=h.gb;exact⟨AC h.pb hb,AC h.kb hb,⟨a,b,c',d,AC hg hb⟩,⟨h.yJ.1,h.yJ.2.1,h.yJ.2.2.1,yB h.yJ.2.2.2 hb.size⟩,h.ker.below hb,h.swp.below hb,h.low.below hb,h.pgs.below hb⟩
theorem J0.keep(h:J0 lo g gk q w l n j m i e c sv lv qv){p:Nat}{cu:Array Value}(hp:w.heap[p]?=some (.cells cu 28 (0,0)))(hg:w.grownBy w1 (some p)):
 w1.heap[g]?=some (.cells #[.slice none 0 0,.slice none 0 0,.slice none 0 0,.slice none 0 0,sv,lv,qv,.int .i64 0,.int .i64 l] 32 (0,0))/\Nd lo w1 sv/\AF lo w1 lv (LN j)/\AQ lo 43 3 Cw w1 qv (xV 16 ⟨0,0,false⟩):=
 ⟨Ap h.pb hg (Bp hp h.pb),h.swp.yL hg hp,Eu h.low hg hp,h.pgs.yL hg hp⟩
theorem J0.put{n':Nat}(h:J0 lo g gk q w l n j m i e c sv lv qv)(hb:Below w.heap.size w w1)(O:DP w.heap.size w1 m' i' e' c' (Dx n')):J0 lo g gk q (Ex w1 q m' i' e' c') l n' j m' i' e' c' sv lv qv:=by
 have h':=h.below hb;have ac:=Ao w1 q m' i' e' c';obtain⟨k1,k2,k3,k4⟩:=h'.keep h'.kb ac;obtain⟨a,b,c2,d,hg⟩:=h'.gb;refine⟨k1,Cs h'.kb,?_,⟨h.yJ.1,h.yJ.2.1,h.yJ.2.2.1,yB h'.yJ.2.2.2 ac.size⟩,(O.yL ac h'.kb).lower h.yJ.2.2.2,k2,k3,k4⟩
 by_cases e:q=gk
 .subst e
  exact⟨_,_,_,_,Cs h'.kb⟩
 .exact⟨a,b,c2,d,Ap hg ac e⟩
theorem J0.new{n':Nat}(h:J0 lo g gk q w l n j m i e c sv lv qv)(hb:Below w.heap.size w w1)(O:DP w.heap.size w1 m' i' e' c' (Dx n')):J0 lo g gk w1.heap.size (w1.alloc (.cells #[m',i',e',c'] 28)) l n' j m' i' e' c' sv lv qv:=by have h':=(h.below hb).below (AE w1 (.cells #[m',i',e',c'] 28));exact⟨h'.pb,yv _ _,h'.gb,⟨h.yJ.1,h.yJ.2.1,yB h.yJ.2.2.2 hb.size,h'.yJ.2.2.2⟩,(O.below (AE _ _)).lower h.yJ.2.2.2,h'.swp,h'.low,h'.pgs⟩
theorem J0.back(h:J0 lo g gk q w l n j m i e c sv lv qv):J0 lo g gk gk (Ex w gk m i e c) l n j m i e c sv lv qv:=by obtain⟨a,b,c2,d,hg⟩:=h.gb;have ac:=Ao w gk m i e c;obtain⟨k1,k2,k3,k4⟩:=h.keep hg ac;exact⟨k1,Cs hg,⟨_,_,_,_,Cs hg⟩,⟨h.yJ.1,h.yJ.2.1,h.yJ.2.1,yB h.yJ.2.2.2 ac.size⟩,h.ker.yL ac hg,k2,k3,k4⟩
theorem J0.push{B:Nat}{w4 w5:World}{o':Value}{fr:Int}(h:J0 lo g gk q w l n j m i e c sv lv qv)(K:DP B w m i e c (Dx n))(hB:lo<=B)(hr:∀b,lv.ownBlock=some b->b<B)(b4:Below w.heap.size w w4)(q1:w5.ownsRow lo 3 1 o' (j+1) ((LN j).map (yf .i64)++[.int .i64 fr]))(q2:w4.grownBy w5 lv.ownBlock)(cr:fr=((j+1:Nat):Int)):
 w5.heap[g]?=some (.cells #[.slice none 0 0,.slice none 0 0,.slice none 0 0,.slice none 0 0,sv,lv,qv,.int .i64 0,.int .i64 l] 32 (0,0))/\J0 lo g gk q (w5.setCell ⟨g,5,none⟩ o') l n (j+1) m i e c sv o' qv:=by
 have h4:=h.below b4;have ex:=Dg h4.low h4.pb (by decide);have hD:=Dg h4.low h4.kb (by decide);obtain⟨a,b,c2,d,hg⟩:=h4.gb;have hF:=Dg h4.low hg (by decide);have cx:=(q2.block g (AW h4.pb) (λe=>ex e.symm)).trans h4.pb;have fY:=(q2.block q (AW h4.kb) (λe=>hD e.symm)).trans h4.kb;have f0:=(q2.block gk (AW hg) (λe=>hF e.symm)).trans hg;have gr:=Aq w5 g 5 o';have S6:=(h4.swp.grown q2 (λb hb he=>by obtain⟨vs,o1,_⟩:=h4.swp;obtain⟨jg,hZ⟩:=A6 o1 b hb;obtain⟨jf,fS⟩:=A6 h4.low b he;rw[hZ] at fS;simp at fS)).yL gr cx
 have ez:AF lo w5 o' (LN (j+1)):=by rw[V4,<-cr];simpa[AF,Rt] using q1
 refine⟨cx,⟨?_,Ap fY gr (Bp cx fY),⟨a,b,c2,d,Ap f0 gr (Bp cx f0)⟩,⟨h.yJ.1,h.yJ.2.1,h.yJ.2.2.1,yB h4.yJ.2.2.2 (yB q2.size gr.size)⟩,(((K.below b4).past q2 hr).lower hB).yL gr cx,S6,Eu ez gr cx,Eu (Av h4.pgs q2 (A7 h4.pgs h4.low (by decide)).ne) gr cx⟩⟩
 .have:=ym w5 g 5 _ _ o' cx
  simpa using this
end
theorem Rw{w:World}{m i e c:Value}{n:Nat}(h:Ma w m i e c (Dx n))(hn:n<=15)(kind a b x:Int)(hx:x<=9223372036854775807){v:Int}(hc:Ad (Dx n) (Ah kind a b x)=(Dx (n+1),v,0)):
 Calls prog 32 #[.agg #[m,i,e,c],.int .i64 kind,.int .i64 a,.int .i64 b,.int .i64 x] w
  (λr w'=>∃m i e c,r=.returned (.tuple #[.agg #[m,i,e,c],.int .i64 v,.bool true])/\DP w.heap.size w' m i e c (Dx (n+1))/\Below w.heap.size w w'):=by
 have:=FR h (Y3 n hn) kind a b x hx;rw[hc] at this;exact this
def aR(w:World)(P:AR)(b:Bool)(r:Ending)(w':World):Prop:=∃m i e c s lo q,r=.returned (.tuple #[AO m i e c s lo q P.zR P.zU,.bool b])/\OE w.heap.size w' m i e c s lo q P/\Below w.heap.size w w'
def NU(lo:Nat)(v:Value)(w:World)(l:Int):Prop:=∃s lv q,v=.agg #[.slice none 0 0,.slice none 0 0,.slice none 0 0,.slice none 0 0,s,lv,q,.int .i64 0,.int .i64 l]/\Nd lo w s/\AF lo w lv []/\AQ lo 43 3 Cw w q (xV 16 ⟨0,0,false⟩)
theorem NU.below{lo:Nat}{w w':World}{l:Int}(h:NU lo v w l)(hb:Below w.heap.size w w'):NU lo v w' l:=by obtain⟨s,lv,q,h1,h2,h3,h4⟩:=h;exact⟨s,lv,q,h1,h2.below hb,h3.below hb,h4.below hb⟩
theorem M8(l:Int)(w:World)(h1:1<=l)(h6:l<=6):Calls prog 138 #[.int .i64 l] w (aR w (Us l) true):=by
 have N0:=yv w (.cells #[.slice none 0 0,.slice none 0 0,.slice none 0 0,.slice none 0 0,.slice none 0 0,.slice none 0 0,.slice none 0 0,.int .i64 0,.int .i64 0] 32);have b0:=AE w (.cells #[.slice none 0 0,.slice none 0 0,.slice none 0 0,.slice none 0 0,.slice none 0 0,.slice none 0 0,.slice none 0 0,.int .i64 0,.int .i64 0] 32);go_in;go_wp2_with fail;refine(Cv _ _ _ _).mono ?_;rintro e w' ⟨rfl,rfl⟩;rw[show Be l 1 6=true from Ab.2 ⟨h1,h6⟩];have fL:=AW N0;generalize w.alloc _=W0 at*;go_wp2_with fail;have fG:=Z0 W0 ⟨#[97]⟩ ⟨#[98]⟩ ⟨#[99]⟩ 9 72;have bn:=((HJ W0 (.cells #[.string ⟨#[97]⟩] 9) (.cells #[.string ⟨#[98]⟩] 9)).trans ((AE _ (.cells #[.string ⟨#[99]⟩] 9)).mono (HJ W0 _ _).size));replace bn:=bn.trans ((AE _ (.cells #[.slice (some ⟨W0.heap.size,0,none⟩) 1 1,.slice (some ⟨W0.heap.size+1,0,none⟩) 1 1,.slice (some ⟨W0.heap.size+1+1,0,none⟩) 1 1] 72)).mono bn.size);generalize(((W0.alloc _).alloc _).alloc _).alloc _=w5 at*;refine(Kw _ Mv w5 fG rfl Pr Q8).mono ?_;rintro e w6 ⟨mk,ik,ek,ck,rfl,O6,b6⟩;rw[Ur] at O6;obtain⟨⟨ma,mn,mc,rfl⟩,⟨ia,iN,ic,rfl⟩,⟨ea,en,ec,rfl⟩,⟨qa,qn,qc,rfl⟩⟩:=O6.zQ;have b7:=AE w6 (.cells #[.slice ma mn mc,.slice ia iN ic,.slice ea en ec,.slice qa qn qc] 28);have N7:=yv w6 (.cells #[.slice ma mn mc,.slice ia iN ic,.slice ea en ec,.slice qa qn qc] 28);have O7:=(O6.below b7).lower bn.size;have B7:=bn.trans ((b6.trans (b7.mono b6.size)).mono bn.size);have cK:W0.heap.size<=w6.heap.size:=yB bn.size b6.size;go_wp2_with fail;generalize w6.heap.size=gk at N7 cK ⊢;generalize w6.alloc _=W7 at*;have HO:=AA O7;have HB:=AA B7;have HN:=AA N0;have e5:=AA N7;have Hb:=AA b0;clear fG bn O6 b6 b7 N7 O7 B7 N0 b0;refine BN 6 87 [.z,.z,.z,.i l,.z,.z] (λix vv ww=>match ix with
  |0=>Nd W7.heap.size ww vv
  |1=>AF W7.heap.size ww vv []
  |2=>AQ W7.heap.size 43 3 Cw ww vv (xV 16 ⟨0,0,false⟩)
  |4=>NU W7.heap.size vv ww l
  |5=>Lh W7.heap.size vv ww
  |_=>True) ?_ ?_ ?_
 .intro i hi o ho a wx Hb Hd hG K HK
  match i,hi with
  |0,_=>exact sC ho HK Hb Hd (Vw _) (by rintro r w_ ⟨v',vs,rfl,hO,bf⟩;exact⟨_,rfl,((Nd.of hO).lower hG.size),bf⟩)
  |3,_=>exact sP ho HK Hb Hd
  |1,_=>obtain rfl:=yF ho;clear Hd Hb;refine yE ?_;go_simp;exact HK.out _ _ (BO (Ev wx) hG.size) (AE _ _)
  |2,_=>obtain rfl:=yF ho;clear Hd Hb;obtain⟨i0,fJ,fA,ar,bz⟩:=info_parts Tryz.zj;obtain⟨w9,de,h3,h4⟩:=run_make_full (P:=prog) wx wx.heap.size 30 43 i0 _ 3 underlying30 fJ fA ar .i64 .i64 16 (by rw[bz];decide) (by decide) (yt _);have h5:=Below.zu h4;rw[Xd] at h3;have fF:(Instr.makeSlice 30 (.int .i64 16) (.int .i64 16)).run prog wx=.ok (.slice (some ⟨wx.heap.size,0,none⟩) 16 16) w9:=de;clear fJ fA ar bz de;refine yE ?_;go_simp;exact HK.out _ _ (BO h3 hG.size) h5
  |4,_=>obtain rfl:=yF ho;have d0:Nd W7.heap.size wx (a.tmps[25]?.getD undef):=BM Hd 0;have d1:AF W7.heap.size wx (a.tmps[26]?.getD undef) []:=BM Hd 1;have d2:AQ W7.heap.size 43 3 Cw wx (a.tmps[27]?.getD undef) (xV 16 ⟨0,0,false⟩):=BM Hd 2;have d3:(a.tmps[28]?.getD undef)=.int .i64 l:=BM Hd 3;clear Hd Hb;generalize e25:a.tmps[25]?.getD undef=s' at d0;generalize e26:a.tmps[26]?.getD undef=l' at d1;generalize e27:a.tmps[27]?.getD undef=q' at d2;have D0:=AA d0;have D1:=AA d1;have D2:=AA d2;obtain⟨_,_,_,rfl⟩:=d0.slice;obtain⟨_,_,rfl,_,_,_⟩:=d1.rd.open;obtain⟨_,_,rfl,_,_⟩:=d2.rd.shape;clear d0 d1 d2;refine yE ?_;go_simp;exact HK.out _ _ ⟨_,_,_,rfl,D0.out,D1.out,D2.out⟩ (yD _ _)
  |5,_=>obtain rfl:=yF ho;clear Hd Hb;refine yE ?_;go_simp;exact HK.out _ _ ⟨_,rfl,hG.size,yv _ _⟩ (AE _ _)
 .intro i hi vv wz bs al hz
  match i,hi with
  |0,_=>exact(Nd.below hz al)
  |1,_=>exact(AF.below hz al)
  |2,_=>exact(AQ.below hz al)
  |4,_=>exact(NU.below hz al)
  |5,_=>exact(Lh.below hz al)
  |3,_=>exact hz
 .intro vs wx hR hG
  have q4:NU W7.heap.size (vs 4) wx l:=BW hR 4;have q5:Lh W7.heap.size (vs 5) wx:=BW hR 5;clear hR;simp only[Aj,Ae,yC,yz,yy,yw];simp;generalize vs 4=z4 at q4 ⊢;generalize vs 5=z5 at q5 ⊢;obtain⟨s',l',q',rfl,r1,r0,r2⟩:=q4;obtain⟨g,rfl,eD,ch⟩:=q5;obtain⟨sa,sn,sc,rfl⟩:=r1.slice;obtain⟨la,ln,lc,rfl⟩:∃a n c,l'=.slice a n c:=by obtain⟨_,_,rfl,_,_,_⟩:=r0.rd.open;exact⟨_,_,_,rfl⟩
  obtain⟨pa,pn,pc,rfl⟩:∃a n c,q'=.slice a n c:=by obtain⟨_,_,rfl,_,_⟩:=r2.rd.shape;exact⟨_,_,_,rfl⟩
  obtain⟨x0,x1,x2,x3,x4,x5,x6,x7,x8⟩:=AD ch;have fz:=AK ch;go_step;go_simp;have ac:=FD (w:=wx) (g:=g) (b0:=.slice none 0 0) (b1:=.slice none 0 0) (b2:=.slice none 0 0) (b3:=.slice none 0 0) (b4:=.slice sa sn sc) (b5:=.slice la ln lc) (b6:=.slice pa pn pc) (b7:=.int .i64 0) (b8:=.int .i64 l);have N8:=GV (b0:=.slice none 0 0) (b1:=.slice none 0 0) (b2:=.slice none 0 0) (b3:=.slice none 0 0) (b4:=.slice sa sn sc) (b5:=.slice la ln lc) (b6:=.slice pa pn pc) (b7:=.int .i64 0) (b8:=.int .i64 l) ch;have K8:=Ap (AC e5.out hG) ac (Bp ch (AC e5.out hG));have I8:J0 W0.heap.size g gk gk _ l 0 0 _ _ _ _ _ _ _:=⟨N8,K8,⟨_,_,_,_,K8⟩,⟨yB HB.out.size eD,cK,cK,yB HB.out.size (yB hG.size ac.size)⟩,(HO.out.below hG).yL ac ch,(r1.lower HB.out.size).yL ac ch,Eu (BO r0 HB.out.size) ac ch,AQ.yL (BO r2 HB.out.size) ac ch⟩;have B8:=AM (HB.out.trans (hG.mono HB.out.size)) ac (yB HB.out.size eD) (yB HB.out.size hG.size);clear r0 r1 r2 N8 K8 ac x0 x1 x2 x3 x4 x5 x6 x7 x8 fz ch eD hG HO HB e5;unfold Ew at I8 B8;generalize((((((((wx.setCell _ _).setCell _ _).setCell _ _).setCell _ _).setCell _ _).setCell _ _).setCell _ _).setCell _ _).setCell _ _=W8 at*;replace I8:=AA I8;replace B8:=AA B8;obtain⟨k0,k1,k2,k3⟩:=AG I8.out.kb;have C:=Rw (n:=0) I8.out.ker.rd (by omega) 1 0 0 0 (by decide) Zv;go_wp2_with fail;refine C.mono ?_;rintro r w9 ⟨m9,i9,e9,c9,rfl,O9,b9⟩;have I9:=AA (I8.out.put b9 O9);have B9:=AA (AM (B8.out.trans (b9.mono I8.out.yJ.2.2.2)) (Ao w9 gk m9 i9 e9 c9) I8.out.yJ.2.1 (yB I8.out.yJ.2.2.2 b9.size));have kf:=AK (I8.out.below b9).kb;obtain⟨k0,k1,k2,k3⟩:=AG (I8.out.below b9).kb;obtain⟨⟨ua,un,uc,rfl⟩,⟨va,vn,vc,rfl⟩,⟨ya,yn,yc,rfl⟩,⟨za,zn,zc,rfl⟩⟩:=O9.zQ;unfold Ex at I9;generalize hW9:(((w9.setCell _ _).setCell _ _).setCell _ _).setCell _ _=W9 at I9 B9;obtain⟨n0,n1,n2,n3⟩:=AG I9.out.kb;clear O9 b9 I8 B8 C;go_wp2_with fail;clear k0 k1 k2 k3 kf;have C:=Rw (n:=1) I9.out.ker.rd (by omega) 4 0 3 0 (by decide) Zt;refine C.mono ?_;rintro r fh ⟨gY,g9,dP,iu,rfl,cc,cU⟩;have bN:=AA (I9.out.put cU cc);have cd:=AA (AM (B9.out.trans (cU.mono I9.out.yJ.2.2.2)) (Ao fh gk gY g9 dP iu) I9.out.yJ.2.1 (yB I9.out.yJ.2.2.2 cU.size));have kf:=AK (I9.out.below cU).kb;obtain⟨k0,k1,k2,k3⟩:=AG (I9.out.below cU).kb;obtain⟨⟨ua,un,uc,rfl⟩,⟨va,vn,vc,rfl⟩,⟨ya,yn,yc,rfl⟩,⟨za,zn,zc,rfl⟩⟩:=cc.zQ;unfold Ex at bN;generalize hW10:(((fh.setCell _ _).setCell _ _).setCell _ _).setCell _ _=W10 at bN cd;obtain⟨n0,n1,n2,n3⟩:=AG bN.out.kb;clear cc cU I9 B9 C;go_wp2_with fail;clear k0 k1 k2 k3 kf;clear n0 n1 n2 n3;have C:=Rw (n:=2) bN.out.ker.rd (by omega) 7 0 0 0 (by decide) Y4
  refine C.mono ?_;rintro r ff ⟨gX,g8,io,it,rfl,eW,cT⟩;have dt:=AA (bN.out.put cT eW);have fe:=AA (AM (cd.out.trans (cT.mono bN.out.yJ.2.2.2)) (Ao ff gk gX g8 io it) bN.out.yJ.2.1 (yB bN.out.yJ.2.2.2 cT.size));have kf:=AK (bN.out.below cT).kb;obtain⟨k0,k1,k2,k3⟩:=AG (bN.out.below cT).kb;obtain⟨⟨ua,un,uc,rfl⟩,⟨va,vn,vc,rfl⟩,⟨ya,yn,yc,rfl⟩,⟨za,zn,zc,rfl⟩⟩:=eW.zQ;unfold Ex at dt;generalize hW11:(((ff.setCell _ _).setCell _ _).setCell _ _).setCell _ _=W11 at dt fe;obtain⟨n0,n1,n2,n3⟩:=AG dt.out.kb;clear eW cT bN cd C;go_wp2_with fail;clear k0 k1 k2 k3 kf;go_wp2_with fail;go_loopw [9,10,11,12] (λix _ _ _ wr=>∃k:Nat,k<=4/\ix=.int .i64 k/\∃m i e c la ln lc,J0 W0.heap.size g gk gk wr l (3*k+3) k m i e c (.slice sa sn sc) (.slice la ln lc) (.slice pa pn pc)/\Below W0.heap.size W0 wr) (λix _ _ _ _=>4 - (intOf ix).toNat)
  case atStart=>exact⟨0,by omega,rfl,_,_,_,_,_,_,_,dt.out,fe.out⟩
  case round=>
   clear dt fe;obtain⟨k,hk,rfl,mv,iv,ev,cv,la,ln,lc,I0,B0⟩:=hrel;replace I0:=AA I0;replace B0:=AA B0
   by_cases cI:k<4
   .obtain⟨fr,cr⟩:∃fr:Int,fr=((k+1:Nat):Int):=⟨_,rfl⟩
    have T1:=Y5 k cI;have T2:=Zs k cI;have T3:=Zu k cI;rw[<-cr] at T1 T2 T3;have fQ:0<=fr/\fr<=11:=by omega
    have dv:=AA cr;clear cr;have k4:(k:Int)<4:=by omega
    obtain⟨⟨ka,kn,kc,eS⟩,⟨ja,jn,jc,eR⟩,⟨fa,fn,fc,eQ⟩,⟨ra,rn,rc,eP⟩⟩:=I0.out.ker.zQ;subst eS eR eQ eP;obtain⟨k0,k1,k2,k3⟩:=AG I0.out.kb;have C:=Rw (n:=3*k+3) I0.out.ker.rd (by omega) 1 0 0 0 (by decide) T1;go_wp2_with fail;refine C.mono ?_;rintro r w1 ⟨m1,i1,e1,c1,rfl,O1,b1⟩;have I1:=AA (I0.out.new b1 O1);have B1:=AA (B0.out.trans ((b1.trans ((AE w1 (.cells #[m1,i1,e1,c1] 28)).mono b1.size)).mono I0.out.yJ.2.2.2));obtain⟨⟨ua,un,uc,rfl⟩,⟨va,vn,vc,rfl⟩,⟨ya,yn,yc,rfl⟩,⟨za,zn,zc,rfl⟩⟩:=O1.zQ;clear O1 b1 C k0 k1 k2 k3 I0 B0;obtain⟨k0,k1,k2,k3⟩:=AG I1.out.kb;go_wp2_with fail;clear k0 k1 k2 k3;obtain⟨q1,cQ⟩:∃q1,q1=w1.heap.size:=⟨_,rfl⟩
    rw[<-cQ] at I1 ⊢;clear cQ;generalize w1.alloc _=W1 at*;have C:=Rw (n:=3*k+4) I1.out.ker.rd (by omega) 4 fr 2 0 (by decide) T2;refine C.mono ?_;rintro r w2 ⟨m2,i2,e2,c2,rfl,O2,b2⟩;have I2:=AA (I1.out.put b2 O2);have B2:=AA (AM (B1.out.trans (b2.mono I1.out.yJ.2.2.2)) (Ao w2 q1 m2 i2 e2 c2) I1.out.yJ.2.2.1 (yB I1.out.yJ.2.2.2 b2.size));have kf:=AK (I1.out.below b2).kb;obtain⟨k0,k1,k2,k3⟩:=AG (I1.out.below b2).kb;obtain⟨⟨ua,un,uc,rfl⟩,⟨va,vn,vc,rfl⟩,⟨ya,yn,yc,rfl⟩,⟨za,zn,zc,rfl⟩⟩:=O2.zQ;unfold Ex at I2;generalize hW2:(((w2.setCell _ _).setCell _ _).setCell _ _).setCell _ _=W2 at I2 B2;obtain⟨n0,n1,n2,n3⟩:=AG I2.out.kb;clear O2 b2 I1 B1 C;go_wp2_with fail;clear k0 k1 k2 k3 kf;have a1:=I2.out.kb;have a3:=AW a1;have he:Hh fr<=9223372036854775807:=by unfold Hh;omega
    have CP:=AA (λW=>Lp fr W fQ.1 fQ.2);generalize Hh fr=en_ at T3 he CP;have RK:=I2.out.ker.rd;have CM:=AA (λW (hW:Below W2.heap.size W2 W)=>Rw (n:=3*k+5) (RK.below hW) (by omega) 6 0 (k:Int) en_ he T3);clear T1 T2 T3 RK;refine EB 11 87 (λix=>ix==10) [.a #[.slice ua un uc,.slice va vn vc,.slice ya yn yc,.slice za zn zc],.i 0,.i ((k:Int)),.i fr,.i en_,.z,.z,.z,.i 0,.b true,.z] (λll ix vv ww=>match ix with
     |5|6=>Ei W2.heap.size vv ww (Dx (3*k+6)) 0 true
     |7=>Ga W2.heap.size vv ww (Dx (3*k+6))
     |_=>True) (λll ww=>GB W2 (q1) (Dx (3*k+6)) (ll 10) ww) ?_ ?_ ?_ ?_ ?_ ?_
    .exact A8 (yD _ _) 1
    .intro j hj ll i vv wz bs hi hS cL eH al hz
     match j,hj with
     |5,_|6,_=>exact(Ei.below hz al)
     |7,_=>exact(Ga.below hz al)
     |0,_|1,_|2,_|3,_|4,_|8,_|9,_|10,_=>exact hz
    .intro ll i wz bs hi hS cL al hg
     show GB _ _ _ (GP ll i 10) _
     rw[GH (by rintro rfl;cases hS)];exact GB.grow hg al
    .intro i hi hS o ho a wx Hb ll Hd HL hG K HK
     match i,hi,hS with
     |0,_,_=>have dE:=Ba HL 10;have a8:=(show wx.cell? ⟨q1,0,none⟩=some (.slice ua un uc) from GB.cell hG (by cases hx:ll 10 with|false=>rfl|true=>exact absurd (HL.out.2.2 5 0 (HL.out.2.2 6 5 (HL.out.2.2 7 6 (HL.out.2.2 10 7 (hx) (by kernel_rfl)) (by kernel_rfl)) (by kernel_rfl)) (by kernel_rfl)) (by rw[HL.out.1];decide)) a3 n0);have az:=(show wx.cell? ⟨q1,1,none⟩=some (.slice va vn vc) from GB.cell hG (by cases hx:ll 10 with|false=>rfl|true=>exact absurd (HL.out.2.2 5 0 (HL.out.2.2 6 5 (HL.out.2.2 7 6 (HL.out.2.2 10 7 (hx) (by kernel_rfl)) (by kernel_rfl)) (by kernel_rfl)) (by kernel_rfl)) (by rw[HL.out.1];decide)) a3 n1);have a7:=(show wx.cell? ⟨q1,2,none⟩=some (.slice ya yn yc) from GB.cell hG (by cases hx:ll 10 with|false=>rfl|true=>exact absurd (HL.out.2.2 5 0 (HL.out.2.2 6 5 (HL.out.2.2 7 6 (HL.out.2.2 10 7 (hx) (by kernel_rfl)) (by kernel_rfl)) (by kernel_rfl)) (by kernel_rfl)) (by rw[HL.out.1];decide)) a3 n2);have bt:=(show wx.cell? ⟨q1,3,none⟩=some (.slice za zn zc) from GB.cell hG (by cases hx:ll 10 with|false=>rfl|true=>exact absurd (HL.out.2.2 5 0 (HL.out.2.2 6 5 (HL.out.2.2 7 6 (HL.out.2.2 10 7 (hx) (by kernel_rfl)) (by kernel_rfl)) (by kernel_rfl)) (by kernel_rfl)) (by rw[HL.out.1];decide)) a3 n3);exact Nl ho HK Hb Hd HL (hl:=Np ‹_› ‹_› ‹_› ‹_›)
     |1,_,_|2,_,_|3,_,_=>exact Wg ho HK Hb Hd HL
     |10,_,hs=>cases hs
     |4,_,_=>obtain rfl:=yF ho;have d3:(a.tmps[71]?.getD undef)=.int .i64 fr:=DV Hd HL 3;have dE:=Ba HL 10;clear Hd Hb;refine yE ?_;go_simp;refine(CP.out _).mono ?_;rintro r w_ ⟨rfl,bf⟩;exact HK.out _ _ rfl bf
     |5,_,_=>
      obtain rfl:=yF ho;have d0:(a.tmps[68]?.getD undef)=.agg #[.slice ua un uc,.slice va vn vc,.slice ya yn yc,.slice za zn zc]:=DV Hd HL 0;have d1:(a.tmps[69]?.getD undef)=.int .i64 0:=DV Hd HL 1;have d2:(a.tmps[70]?.getD undef)=.int .i64 k:=DV Hd HL 2;have d4:(a.tmps[72]?.getD undef)=.int .i64 en_:=DV Hd HL 4;have dE:=Ba HL 10;clear Hd Hb;refine yE ?_;go_simp;have ct:Below W2.heap.size W2 wx:=by
       rw[show ll 10=false from(by cases hx:ll 10 with|false=>rfl|true=>exact absurd (HL.out.2.2 6 5 (HL.out.2.2 7 6 (HL.out.2.2 10 7 (hx) (by kernel_rfl)) (by kernel_rfl)) (by kernel_rfl)) (by rw[HL.out.1];decide))] at hG;exact hG
      refine(CM.out _ ct).mono ?_;rintro r w_ ⟨m',i',e',c',rfl,hO,bf⟩;exact HK.out _ _ ⟨m',i',e',c',rfl,hO.lower ct.size⟩ bf
     |6,_,_=>obtain rfl:=yF ho;have d5:Ei W2.heap.size (a.tmps[73]?.getD undef) wx (Dx (3*k+6)) 0 true:=DV Hd HL 5;have dE:=Ba HL 10;clear Hd Hb;refine yE ?_;go_simp;exact HK.out _ _ d5 (yD _ _)
     |7,_,_=>obtain rfl:=yF ho;have d6:Ei W2.heap.size (a.tmps[67]?.getD undef) wx (Dx (3*k+6)) 0 true:=DV Hd HL 6;have dE:=Ba HL 10;clear Hd Hb;obtain⟨m',i',e',c',d6,hO⟩:=d6;refine yE ?_;go_simp;exact HK.out _ _ ⟨_,_,_,_,rfl,hO⟩ (yD _ _)
     |8,_,_=>obtain rfl:=yF ho;have d6:Ei W2.heap.size (a.tmps[67]?.getD undef) wx (Dx (3*k+6)) 0 true:=DV Hd HL 6;clear Hd Hb;obtain⟨m',i',e',c',d6,hO⟩:=d6;refine yE ?_;go_simp;exact HK.out _ _ rfl (yD _ _)
     |9,_,_=>obtain rfl:=yF ho;have d6:Ei W2.heap.size (a.tmps[67]?.getD undef) wx (Dx (3*k+6)) 0 true:=DV Hd HL 6;clear Hd Hb;obtain⟨m',i',e',c',d6,hO⟩:=d6;refine yE ?_;go_simp;exact HK.out _ _ rfl (yD _ _)
    .intro i hi hS o ho a wx Hb ll Hd HL hG K HK
     match i,hi,hS with
     |0,_,hs|1,_,hs|2,_,hs|3,_,hs|4,_,hs|5,_,hs|6,_,hs|7,_,hs|8,_,hs|9,_,hs=>cases hs
     |10,_,_=>
      obtain rfl:=yF ho;have dP:a.tmps[10]?.getD undef=.pointer (some ⟨q1,0,none⟩):=eg (Oj Hb 10);have d7:Ga W2.heap.size (a.tmps[74]?.getD undef) wx (Dx (3*k+6)):=DV Hd HL 7;clear Hd Hb;rw[HL.out.1] at hG;replace hG:Below W2.heap.size W2 wx:=hG;obtain⟨m',i',e',c',d7,hO⟩:=d7;obtain⟨⟨va,vn,vc,rfl⟩,⟨wa,wn,wc,rfl⟩,⟨xa,xn,xc,rfl⟩,⟨ya,yn,yc,rfl⟩⟩:=hO.zQ;have am:=AC a1 hG;obtain⟨c0,ds,c2,c3⟩:=AG am;have fq:=AK am;have ac:=AA (Ao wx (q1) (.slice va vn vc) (.slice wa wn wc) (.slice xa xn xc) (.slice ya yn yc));have Hq:=AA am;have HO:=AA hO;clear am hO;refine yE ?_;go_simp;exact HK.out undef _ trivial (by show GB _ _ _ (GP ll 10 10) _;rw[Gk];exact⟨wx,_,_,_,_,hG,HO.out,yD _ _⟩) (λj cq cJ dO hu=>match j,cJ with
       |0,_|1,_|2,_|3,_|4,_|8,_|9,_=>hu
       |5,_|6,_=>Ei.yL hu ac.out Hq.out
       |7,_=>Ga.yL hu ac.out Hq.out
       |10,_=>absurd rfl cq)
    .intro vs wx ll ax hR hG
     have q8:(vs 8)=.int .i64 0:=BW hR 8;clear hR;simp only[De,Bb,yC,yz,yy,yw,q8];simp;clear q8;rw[ax 10 (by decide)] at hG;obtain⟨wz,m3,i3,e3,c3,ar,hO,bz⟩:=hG;have ae:Below (Ex wz q1 m3 i3 e3 c3).heap.size (Ex wz q1 m3 i3 e3 c3) wx:=by simpa[Ex] using bz
     have I3:=(I2.out.put ar hO).below ae;have K3:=(hO.yL (Ao wz q1 m3 i3 e3 c3) (AC a1 ar)).below ae;have B3:=B2.out.trans ((AM (ar.mono I2.out.yJ.2.2.2) (Ao wz q1 m3 i3 e3 c3) I2.out.yJ.2.2.1 (yB I2.out.yJ.2.2.2 ar.size):Below W0.heap.size W2 _).trans (ae.mono (yB I2.out.yJ.2.2.2 (yB ar.size (Ao wz q1 m3 i3 e3 c3).size))));have dh:∀b,(xF la ln lc).ownBlock=some b->b<W2.heap.size:=λb hb=>(yq I2.out.low b hb).2
     have ig:=I2.out.yJ.2.2.2;clear ax ar bz ae hO a1 a3 n0 n1 n2 n3 CM CP;have fB:=Rt k;have HP:=AA (λw4 w5 o' (b4:Below wx.heap.size wx w4) q1 (q2:w4.grownBy w5 (xF la ln lc).ownBlock)=>J0.push (o':=o') (w5:=w5) I3 K3 ig dh b4 q1 q2 dv.out);obtain⟨_,_,_,_,_,c5,_⟩:=AD I3.pb;have f5:=AK I3.pb;have b4:=AE wx (.cells #[.int .i64 fr] 3);have cp:(wx.alloc (.cells #[.int .i64 fr] 3)).ownsRow W0.heap.size 3 1 (.slice la ln lc) k ((LN k).map (yf .i64)):=by have:=AF.below I3.low b4;unfold AF at this;rwa [fB] at this
     have hH:ln=k:=by obtain⟨_,_,hv,_⟩:=I3.low.rd.open;simp only[Value.slice.injEq] at hv;rw[fB] at hv;exact hv.2.1
     subst hH;have L4:=yB I3.yJ.2.2.2 b4.size;have HI:=AA (xZ B3 (xZ b4 L4));have hM:=AA I3.yJ.1;have ie:=I3.yJ.2.2.2;clear I3 I2 K3 B3 B2 dh;go_wp2_with (at_builtin;go_must (refine Bc (lo:=W0.heap.size) (n:=ln) (xs:=(LN ln).map (yf .i64)) (m:=1) (news:=[.int .i64 fr]) rfl rfl 3 (.int .i64 0) 1 8 underlying29 Tryz.zI rfl (by decide) rfl cp rfl (Rd.zC _ #[_] _ 1 1 _ (by simp) rfl (by simp[maxLen])) (by simp[Value.oneCell']) (by unfold maxLen;omega) (by omega) L4 ?_;intro o' w5 ef fj gR fi;obtain⟨oa,on,oc,rfl⟩:=Lt ef;have X:=HP.out _ _ _ HI.out.2.1 ef fj;have f6:=AK X.1;have c6:=cell_of_row _ _ 5 _ _ _ X.1;have HX:=AA X.2;have HQ:=AA fi;obtain⟨k0,k1,k2,k3⟩:=AG HX.out.kb;obtain⟨xa,xb,xc,xd,eC⟩:=HX.out.gb;obtain⟨v0,v1,v2,v3⟩:=AG eC;have je:=AK eC;obtain⟨⟨gQ,gI,gM,rfl⟩,⟨gP,gH,gL,rfl⟩,⟨gO,gG,gK,rfl⟩,⟨gN,gF,gJ,rfl⟩⟩:=HX.out.ker.zQ;clear X ef fj gR fi cp eC));have B5:=AA (AM (HI.out.1.trans ((HI.out.2.1.mono ie).trans HQ.out)) (Aq w5 g 5 (.slice oa on oc)) hM.out (yB HI.out.2.2 HQ.out.size));have I6:=HX.out.back;have B6:=AM B5.out (Ao _ gk (.slice gQ gI gM) (.slice gP gH gL) (.slice gO gG gK) (.slice gN gF gJ)) HX.out.yJ.2.1 HX.out.yJ.2.2.2;go_roundw
     case rel=>exact⟨ln+1,by omega,by go_num,_,_,_,_,_,_,_,I6,B6⟩
     case measure=>simp[intOf];omega
   .obtain rfl:k=4:=by omega
    obtain⟨⟨ka,kn,kc,eS⟩,⟨ja,jn,jc,eR⟩,⟨fa,fn,fc,eQ⟩,⟨ra,rn,rc,eP⟩⟩:=I0.out.ker.zQ;subst eS eR eQ eP;obtain⟨k0,k1,k2,k3⟩:=AG I0.out.kb;have co:=I0.out.pb;have ac:=Ao wr g (.slice ka kn kc) (.slice ja jn jc) (.slice fa fn fc) (.slice ra rn rc);have N1:=JU (m':=.slice ka kn kc) (i':=.slice ja jn jc) (e':=.slice fa fn fc) (c':=.slice ra rn rc) co;have ee:=(B0.out.block w.heap.size fL).trans HN.out;have br:=Ap ee ac (by have:=I0.out.yJ.1;omega);obtain⟨x0,x1,x2,x3,x4,x5,x6,x7,x8⟩:=AD co;have fz:=AK co;obtain⟨z0,z1,z2,z3,z4,z5,z6,z7,z8⟩:=AD N1;obtain⟨y0,y1,y2,y3,y4,y5,y6,y7,y8⟩:=AD br;have fy:=AK br;have bw:=FD (w:=((((wr.setCell ⟨g,0,none⟩ (.slice ka kn kc)).setCell ⟨g,1,none⟩ (.slice ja jn jc)).setCell ⟨g,2,none⟩ (.slice fa fn fc)).setCell ⟨g,3,none⟩ (.slice ra rn rc))) (g:=w.heap.size) (b0:=.slice ka kn kc) (b1:=.slice ja jn jc) (b2:=.slice fa fn fc) (b3:=.slice ra rn rc) (b4:=.slice sa sn sc) (b5:=.slice la ln lc) (b6:=.slice pa pn pc) (b7:=.int .i64 0) (b8:=.int .i64 l);have NN:=GV (b0:=.slice ka kn kc) (b1:=.slice ja jn jc) (b2:=.slice fa fn fc) (b3:=.slice ra rn rc) (b4:=.slice sa sn sc) (b5:=.slice la ln lc) (b6:=.slice pa pn pc) (b7:=.int .i64 0) (b8:=.int .i64 l) br;have RK:=(((I0.out.ker.yL ac co).yL bw br).sf);have RS:=((I0.out.swp.yL ac co).yL bw br).sf;have RL:AF _ _ _ _:=Eu (Eu I0.out.low ac co (by decide)) bw br;have RQ:=AQ.yL (AQ.yL I0.out.pgs ac co (by decide)) bw br;have RP:=AA (show OE w.heap.size _ (.slice ka kn kc) (.slice ja jn jc) (.slice fa fn fc) (.slice ra rn rc) (.slice sa sn sc) (.slice la ln lc) (.slice pa pn pc) (Us l) from OE.map (lo:=W0.heap.size) ⟨by have:=RK;rw[show 3*4+3=15 from rfl,V8] at this;exact this,RS,RL,RQ⟩ (λ_ _ _ _ _ _ _ h=>BO h (Nat.le_of_lt fL)));have BF:=AA (AM (AM (Hb.out.trans (B0.out.mono Hb.out.size)) ac (by have:=I0.out.yJ.1;omega) (yB (yB Hb.out.size (yt _)) I0.out.yJ.2.2.2)) bw (yt _) (yB (yB Hb.out.size I0.out.yJ.2.2.2) ac.size));have HE:=AA (AD NN);clear RK RS RL RQ bw NN ac N1 ee br co I0 B0;rw[show((4:Nat):Int)=4 from rfl];go_wp2_with fail;obtain⟨E0,E1,E2,E3,E4,E5,E6,E7,E8⟩:=HE.out;unfold Ew at E0 E1 E2 E3 E4 E5 E6 E7 E8;exact yk (v:=.tuple #[.agg #[_,_,_,_,_,_,_,_,_],_]) (by simp[results,Tryz.results138,go_sem,E0,E1,E2,E3,E4,E5,E6,E7,E8];exact⟨rfl,rfl⟩) rfl ⟨_,_,_,_,_,_,_,rfl,RP.out,BF.out⟩
theorem Tj(v:Value)(s:List (List Int))(sl:Int)(w:World)(h:Bf w v s)(hs:FE s=true):Calls prog 82 #[v,.int .i64 sl] w λe w'=>(∃v',e=.returned (.tuple #[v',.bool (Be sl 0 15&&!(AH s sl.toNat).isEmpty)]))/\Below w.heap.size w w':=by
 have CV:=Hz v s w h;rw[hs] at CV;have Hl:=AA (GF.1 hs).1;have iz:=AA (GF.1 hs).2;obtain⟨ao,c,rfl,hc,_,H⟩:=h.open;have CV:=AA CV;have HH:=AA H;generalize hbb:(Be sl 0 15&&!(AH s sl.toNat).isEmpty)=bb;have cN:=AA hbb;clear h H hs hbb;go_in;go_wp2_with fail;refine CV.out.mono ?_;rintro r w1 ⟨rfl,b1⟩;go_wp2_with fail;refine(Cv _ _ _ _).mono ?_;rintro r w2 ⟨rfl,rfl⟩;cases cR:Be sl 0 15
 .obtain rfl:bb=false:=by rw[<-cN.out,cR];rfl
  clear cR cN;go_wp2_with fail;exact yk (v:=.tuple #[.slice (some ⟨w1.heap.size,0,none⟩) 0 0,.bool false]) (by simp[results,Tryz.results82,go_sem]) rfl ⟨⟨_,rfl⟩,b1.trans ((AE _ _).mono b1.size)⟩
 .have ab:=Ab.1 cR
  obtain⟨n,rfl⟩:∃n:Nat,sl=(n:Int):=⟨sl.toNat,by omega⟩
  have ey:n<16:=by omega
  have i4:(n:Int)<s.length:=by have:=Hl.out;omega
  obtain⟨b,iW,u,rfl,i8,D,hr⟩:=(HH.out.below b1) n (by have:=Hl.out;omega);obtain⟨au,cu,rfl,_,_,_⟩:=hr.open;rw[yb,cR,Bool.true_and] at cN
  by_cases he:(AH s n).length=0
  .have t0:(((AH s n).length:Int)==0)=true:=by simp[he]
   obtain rfl:bb=false:=by rw[<-cN.out,List.isEmpty_iff.2 (List.eq_nil_of_length_eq_zero he)];rfl
   clear hr he cR cN ab;go_wp2_with fail;exact yk (v:=.tuple #[.slice (some ⟨w1.heap.size,0,none⟩) 0 0,.bool false]) (by simp[results,Tryz.results82,go_sem]) rfl ⟨⟨_,rfl⟩,b1.trans ((AE _ _).mono b1.size)⟩
  .have t0:(((AH s n).length:Int)==0)=false:=beq_eq_false_iff_ne.2 (by omega)
   obtain rfl:bb=true:=by rw[<-cN.out];cases hx:AH s n;rw[hx] at he;exact absurd rfl he;rfl
   have df:(AH s n).length<=4:=by
    rcases iz.out n ey with h0|h0
    .rw[h0];simp
    .exact Nat.le_of_eq (A3.1 h0).1
   have HR:=AA (Aw.below hr (AE w1 (.cells #[] 3)));have D':=((AE w1 (.cells #[] 3)).cell (yA _ _ D)).trans D;have f4:=AA b1;clear he cR hr cN ab;go_wp2_with (at_builtin;refine NP rfl rfl underlying29 rfl (Ev w1) rfl HR.out (by omega) (AE w1 (.cells #[] 3)).size ?_;intro u' w9 hu fT;have iF:=AA fT;clear hu fT);exact yk (v:=.tuple #[_,.bool true]) (by simp[results,Tryz.results82,go_sem];rfl) rfl ⟨⟨_,rfl⟩,f4.out.trans (((AE w1 (.cells #[] 3)).trans iF.out).mono f4.out.size)⟩
structure bM(P:AR):Prop where
 k:Cl P.zV=true
 s:FE P.swap=true
 ll:P.low.length=4
 lr:∀i,i<4->0<=BJ P.low i/\BJ P.low i<=11
 pl:P.zY.length=16
theorem V9(xs:List Bk):∀u∈Ci Cw xs,u.oneCell'=true:=by
 intro u hu;obtain⟨s,_,hs⟩:=List.mem_flatMap.1 hu;simp[Cw] at hs
 rcases hs with rfl|rfl|rfl<;>rfl
theorem LL(mv iv ev cv sv lv qv:Value)(P:AR)(w:World)(h:Kx w mv iv ev cv sv lv qv P)(hP:ED P):
 Calls prog 50 #[AO mv iv ev cv sv lv qv P.zR P.zU] w (Om w P):=by
 unfold AO Om;obtain⟨N0,N1,ad,bk⟩:=Jy w (.cells #[mv,iv,ev,cv,sv,lv,qv,.int .i64 P.zR,.int .i64 P.zU] 32) ((.cells #[.slice none 0 0,.slice none 0 0,.slice none 0 0,.slice none 0 0,.slice none 0 0,.slice none 0 0,.slice none 0 0,.int .i64 0,.int .i64 0] 32));have HR:=AA h;have ai:=AA (Uu hP);have hJ:=AA hP.zt;have dg:=AA hP.zO;have CK:=AA (LH mv iv ev cv P.zV _ (h.1.below ad) hP.k);obtain⟨x0,x1,x2,x3,_⟩:=AD N0;have eY:=AA bk;clear h hP bk;go_in;go_wp2_with fail;generalize(w.alloc _).alloc _=W0 at*;refine CK.out.mono ?_;rintro r w1 ⟨m1,i1,e1,c1,rfl,O1,b1⟩;obtain⟨⟨ma,mn,mc,rfl⟩,⟨ia,iN,ic,rfl⟩,⟨ea,en,ec,rfl⟩,⟨ka,kn,kc,rfl⟩⟩:=O1.zQ;have B1:=AC N0 b1;have R1:=AC N1 b1;have f1:=AK B1;obtain⟨y0,y1,y2,y3,_⟩:=AD B1;have B2:=JU (m':=.slice ma mn mc) (i':=.slice ia iN ic) (e':=.slice ea en ec) (c':=.slice ka kn kc) B1;have G2:=Ao w1 w.heap.size (.slice ma mn mc) (.slice ia iN ic) (.slice ea en ec) (.slice ka kn kc);have b2:=AM (ad.trans (b1.mono ad.size)) G2 (yt _) (yB ad.size b1.size);have fo:=yB ad.size (yt W0.heap.size);generalize hW2:(((w1.setCell _ _).setCell _ _).setCell _ _).setCell _ _=W2 at B2 G2 b2;obtain⟨_,_,_,_,c4,_⟩:=AD B2;have ci:=AA (xZ B1 R1);have ee:=AA B2;have gy:=AA G2;have dw:=AA b2;have gv:=AA (O1.lower ad.size);have iB:=AA fo;clear x0 x1 x2 x3 N0 N1 b1 O1 B1 R1 B2 G2 b2 ad CK fo;go_wp2_with fail;clear y0 y1 y2 y3 f1 c4;refine(MS sv P.swap W2 (HR.out.2.1.below dw.out) (by have:=ai.out.1;omega) (λf hf=>by have h1:=ai.out.1;have:=ai.out.2 f (by omega);omega)).mono ?_;rintro r w3 ⟨v3,vs,rfl,O3,b3⟩;obtain⟨sa,sn,sc,rfl⟩:∃a n c,v3=.slice a n c:=by obtain⟨_,_,rfl,_,_⟩:=O3.1.rd.shape;exact⟨_,_,_,rfl⟩
 have B3:=AC ee.out b3;have f3:=AK B3;obtain⟨_,_,_,_,y4,_⟩:=AD B3;have G4:=Aq w3 w.heap.size 4 (.slice sa sn sc);have B4:=ym w3 w.heap.size 4 _ 32 (.slice sa sn sc) B3;have b4:=AM (dw.out.trans (b3.mono dw.out.size)) G4 (yt _) (yB dw.out.size b3.size);generalize hW4:w3.setCell _ _=W4 at B4 G4 b4;replace B4:W4.heap[w.heap.size]?=some (.cells #[.slice ma mn mc,.slice ia iN ic,.slice ea en ec,.slice ka kn kc,.slice sa sn sc,lv,qv,.int .i64 P.zR,.int .i64 P.zU] 32 (0,0)):=by simpa using B4
 obtain⟨_,_,_,_,_,c5,_⟩:=AD B4;have br:=AA B3;have bx:=AA B4;have iS:=AA G4;have dW:=AA b4;have gu:=AA O3;have iH:=AA b3;have RL:=AA (Aw.below HR.out.2.2.1 (b4.trans ((AE W4 (.cells #[] 3)).mono b4.size)));have ir:=((AE W4 (.cells #[] 3)).cell (yA _ _ c5)).trans c5;clear B3 B4 G4 b4 O3 b3;go_wp2_with (first|(at_builtin;refine NP rfl rfl underlying29 rfl (Ev W4) rfl RL.out (by have:=hJ.out;omega) (AE W4 (.cells #[] 3)).size ?_;intro u5 w5 hu dn;obtain⟨la,db,rfl,_⟩:=(AF.rd hu).open;have b5:=(AE W4 (.cells #[] 3)).trans dn;have B5:=AC bx.out b5;have f5:=AK B5;obtain⟨_,_,_,_,_,y5,_⟩:=AD B5;have G6:=Aq w5 w.heap.size 5 (.slice la P.low.length db);have B6:=ym w5 w.heap.size 5 _ 32 (.slice la P.low.length db) B5;have b6:=AM (dW.out.trans (b5.mono dW.out.size)) G6 (yt _) (yB dW.out.size b5.size);generalize hW6:w5.setCell _ _=W6 at B6 G6 b6;replace B6:W6.heap[w.heap.size]?=some (.cells #[.slice ma mn mc,.slice ia iN ic,.slice ea en ec,.slice ka kn kc,.slice sa sn sc,.slice la P.low.length db,qv,.int .i64 P.zR,.int .i64 P.zU] 32 (0,0)):=(by simpa using B6);obtain⟨_,_,_,_,_,_,c6,_⟩:=AD B6;have iq:=((AE W6 (.cells #[] 43)).cell (yA _ _ c6)).trans c6;have HU:=AA hu;have dC:=AA B5;have iU:=AA B6;have iR:=AA G6;have iG:=AA b5;have cX:=AA b6;have RQ:=AA (BD.below HR.out.2.2.2 (cX.out.trans ((AE W6 (.cells #[] 43)).mono cX.out.size)));clear hu dn b5 B5 G6 B6 b6 c5 ir y4 f3)|(at_builtin;go_must (refine FO (cs:=Cw) rfl rfl 43 (.agg #[.int .i64 0,.int .i64 0,.bool false]) 3 24 underlying30 Tryz.zj rfl (by decide) rfl (By Cw W6 _ _) rfl RQ.out (V9 _) (by have:=dg.out;omega) (by decide) (AE W6 (.cells #[] 43)).size ?_;intro u7 w7 hq fU;obtain⟨pa,dG,rfl,_⟩:=hq.rd.shape;have b7:=(AE W6 (.cells #[] 43)).trans fU;have B7:=AC iU.out b7;have f7:=AK B7;obtain⟨_,_,_,_,_,_,y6,_⟩:=AD B7;have G8:=Aq w7 w.heap.size 6 (.slice pa P.zY.length dG);have B8:=ym w7 w.heap.size 6 _ 32 (.slice pa P.zY.length dG) B7;have b8:=AM (cX.out.trans (b7.mono cX.out.size)) G8 (yt _) (yB cX.out.size b7.size);generalize hW8:w7.setCell _ _=W8 at B8 G8 b8;replace B8:W8.heap[w.heap.size]?=some (.cells #[.slice ma mn mc,.slice ia iN ic,.slice ea en ec,.slice ka kn kc,.slice sa sn sc,.slice la P.low.length db,.slice pa P.zY.length dG,.int .i64 P.zR,.int .i64 P.zU] 32 (0,0)):=(by simpa using B8);have eJ:=AP iR.out (AP (AX b7 _) G8);have eK:=AP iS.out (AP (AX iG.out _) eJ);have eL:=AP gy.out (AP (AX iH.out _) eK);have R8:=Ap ci.out.2 eL (by omega);have O8:FG w.heap.size W8 (.slice ma mn mc) (.slice ia iN ic) (.slice ea en ec) (.slice ka kn kc) (.slice sa sn sc) (.slice la P.low.length db) (.slice pa P.zY.length dG) P:=⟨gv.out.yL eL ci.out.1,⟨vs,(gu.out.yL eK br.out).lower dw.out.size⟩,BO (Eu HU.out eJ dC.out) dW.out.size,BO (AQ.yL hq G8 B7) cX.out.size,λb hb h7=>(by obtain⟨us,r1⟩:=gv.out.1;have q1:=(yq r1.1 b hb).2;have q2:=(yq gu.out.1 b h7).1;have q3:=gy.out.size;omega)⟩;have S9:=DF R8 O8;obtain⟨d0,d1,d2,d3,d4,d5,d6,d7,d8⟩:=AD B8;obtain⟨z0,z1,z2,z3,z4,z5,z6,z7,z8⟩:=AD R8;have f8:=AK R8;have iJ:=AA S9;have gi:=AA b8;clear hq fU b7 B7 G8 B8 b8 eJ eK eL R8 O8 S9 c6 iq y5 f5)))
 obtain⟨N9,O9,ii⟩:=iJ.out;have B9:=AM gi.out ii (by omega) gi.out.size;unfold Ew at N9 O9 B9;exact yk (v:=.agg #[_,_,_,_,_,_,_,_,_]) (by simp[results,Tryz.results50,go_sem,AD N9]) rfl ⟨_,_,_,_,_,_,_,rfl,O9,B9⟩
theorem Tk(v u:Value)(S:List (List Int))(r:List Int)(w:World)(h:Bf w v S)(hs:FE S=true)(hr:Aw w u r)(ew:Di r=true){j:Nat}(hj:BY S=(j:Int))(hK:j<16):
 Calls prog 146 #[v,u] w λe w'=>(∃v' vs,e=.returned (.tuple #[v',.int .i64 j,.bool true])/\Au w.heap.size w' v' vs (S.set j r))/\Below w.heap.size w w':=by
 have C1:=Ui v S w h;rw[hj] at C1;have C1:=AA C1;have C2:=AA (λW (hW:Below w.heap.size w W)=>by have:=Hz v S W (h.below hW);rw[hs] at this;exact this);have C3:=AA (λW (hW:Below w.heap.size w W)=>by have:=LJ u r W (Aw.below hr hW);rw[ew] at this;exact this);have cn:=(GF.1 hs).1;have fD:=(GF.1 hs).2;have hA:∀f,f<S.length->(AH S f).length<=100:=λf hf=>by
  rcases fD f (by omega) with h0|h0
  .rw[h0];simp
  .have:=(A3.1 h0).1;omega
 have C4:=AA (λW (hW:Below w.heap.size w W)=>MS v S W (h.below hW) (by omega) hA);have HR:=AA (λW (hW:Below w.heap.size w W)=>Aw.below hr hW);have df:r.length<=1048576:=by have:=(A3.1 ew).1;omega
 have iy:=AA cn;have i5:¬(j:Int)<0:=by omega
 have i6:(j:Int)<16:=by omega
 clear h hs hr ew cn fD hj;go_in;go_wp2_with fail;refine C1.out.mono ?_;rintro e w1 ⟨rfl,b1⟩;go_wp2_with fail;refine(C2.out _ b1).mono ?_;rintro e w2 ⟨rfl,b2⟩;have B2:=b1.trans (b2.mono b1.size);go_wp2_with fail;refine(C3.out _ B2).mono ?_;rintro e w3 ⟨rfl,b3⟩;have B3:=B2.trans (b3.mono B2.size);clear b1 b2 b3 B2;go_wp2_with fail;refine(C4.out _ B3).mono ?_;rintro e w4 ⟨v',vs,rfl,O4,b4⟩;have a6:vs.length=16:=by rw[O4.2.1.1];exact iy.out
 obtain⟨gs,ay,rfl,c1,c2,q1,q2,fO⟩:=O4.1.zM (by omega);rw[a6] at O4 c1 ⊢;have B4:=B3.trans (b4.mono B3.size);have bx:=AA B4;have br:=AA B3;have gt:=AA O4;have dS:=AA a6;have iK:=AA (HR.out _ (B4.trans ((AE w4 (.cells #[] 3)).mono B4.size)));clear O4 b4 B3 B4 fO a6;go_wp2_with (at_builtin;refine NP rfl rfl underlying29 rfl (Ev w4) rfl iK.out df (AE w4 (.cells #[] 3)).size ?_;intro u5 w5 hu dn;have b5:=(AE w4 (.cells #[] 3)).trans dn;have R:=gt.out.set (B:=w4.heap.size) (j:=j) b5 hu (yt _) (by omega) dS.out.symm (by have:=dS.out;omega);have g1:w5.ownsRow w3.heap.size 29 1 (.slice (some ⟨gs,0,none⟩) 16 ay) 16 vs:=(by have:=(gt.out.below b5).1;unfold AQ at this;rwa [Gg,dS.out] at this);have K1:=xB g1 j (by omega);rw[List.getElem?_eq_getElem (by have:=dS.out;omega)] at K1;have F1:=xN g1 j;have iO:=AA (R.1.lower br.out.size);have B6:=AA (AM (bx.out.trans (b5.mono bx.out.size)) R.2 (by have:=br.out.size;omega) (yB bx.out.size b5.size));obtain⟨ra,rn,rc,rfl⟩:=Lt hu;have ji:(16:Int)<=ay:=(by omega);clear R g1 hu dn b5);exact yk (v:=.tuple #[_,_,.bool true]) (by simp[results,Tryz.results146,go_sem]) rfl ⟨⟨_,_,rfl,iO.out⟩,B6.out⟩
def En(w w':World):Prop:=∀(b:Nat)(cu:Array Value),w.heap[b]?=some (.cells cu 32 (0,0))->w'.heap[b]?=some (.cells cu 32 (0,0))
section
variable {w w1 w2:World} {p T:Nat} {cu:Array Value}
theorem En.refl(w:World):En w w:=λ_ _ h=>h
theorem En.trans(h:En w w1)(h':En w1 w2):En w w2:=λb cu hb=>h' b cu (h b cu hb)
theorem En.below(h:En w w1)(hb:Below w1.heap.size w1 w2):En w w2:=λb cu hB=>AC (h b cu hB) hb
theorem En.fresh(h:En w w1)(hg:w1.grownBy w2 (some p))(hp:w.heap.size<=p):En w w2:=λb cu hB=>Ap (h b cu hB) hg (by have:=AW hB;omega)
theorem En.other(h:En w w1)(hg:w1.grownBy w2 (some p))(hB:w1.heap[p]?=some (.cells cu T (0,0)))(hT:T≠32):En w w2:=λb c hb=>Ap (h b c hb) hg (Bp hB (h b c hb) hT)
end
def U9:Option Nat->Int
 |some n=>(n:Int)
 |none=> -1
def VO(lo:Nat)(w:World)(m i e c s l q:Value)(P:AR)(t:List Bk×Int×Option Nat)(r:Ending)(w':World):Prop:=
 r=.returned (.tuple #[AO m i e c s l q t.2.1 P.zU,.int .i64 (U9 t.2.2)])/\FG lo w' m i e c s l q {P with zY:=t.1,zR:=t.2.1}/\Below lo w w'/\En w w'
theorem Qw{lo:Nat}{w:World}{mv iv ev cv sv lv qv:Value}{P:AR}(h:FG lo w mv iv ev cv sv lv qv P)(av:lo<=w.heap.size)(hP:ED P):
 Calls prog 90 #[AO mv iv ev cv sv lv qv P.zR P.zU] w (VO lo w mv iv ev cv sv lv qv P (CQ 32 P.zY P.zR)):=by
 unfold AO VO AO;obtain⟨N0,N1,ad,bk⟩:=Jy w (.cells #[mv,iv,ev,cv,sv,lv,qv,.int .i64 P.zR,.int .i64 P.zU] 32) ((.cells #[.slice none 0 0,.slice none 0 0,.slice none 0 0,.slice none 0 0,.slice none 0 0,.slice none 0 0,.slice none 0 0,.int .i64 0,.int .i64 0] 32));have HI:=AA (⟨N0,av,h.below ad⟩:Gm lo w.heap.size _ mv iv ev cv sv lv qv P);obtain⟨⟨⟨ma,mn,mc,rfl⟩,⟨ia,iN,ic,rfl⟩,⟨ea,en,ec,rfl⟩,⟨ka,kn,kc,rfl⟩⟩,⟨sa,sn,sc,rfl⟩,⟨la,ln,lc,rfl⟩,⟨pa,pn,pc,e7⟩⟩:=h.zQ;obtain⟨gq,qc,e8,dN,di,fM,fm,_⟩:=HI.out.page (n:=0) (by rw[hP.zO];omega);rw[hP.zO] at e8 dN;subst e8;clear e7;have eY:=AA bk;have aq:=AA (yB av ad.size);have dx:=AA (ad.mono av);have dy:=AA ((En.refl w).below ad);have dA:=AA N1;have cC:=AA av;have h9:=AA hP;have hh:=hP.zR;have gS:=fm.symm;generalize hv:CQ 32 P.zY P.zR=t;obtain⟨pg,hd,o⟩:=t;have hV:=AA hv;clear h hP av N0 N1 ad bk hv;go_in;go_wp2_with fail;generalize(w.alloc _).alloc _=W0 at*;generalize hg:w.heap.size=g at*;have Hg:=AA hg;clear hg;go_loopw [4,5] (λix _ wr=>∃k zY zR,k<=32/\ix=.int .i64 ((32 - k:Nat):Int)/\Gm lo g wr (.slice ma mn mc) (.slice ia iN ic) (.slice ea en ec) (.slice ka kn kc) (.slice sa sn sc) (.slice la ln lc) (.slice (some ⟨gq,0,none⟩) 16 qc) {P with zY:=zY,zR:=zR}/\wr.heap[g+1]?=some (.cells #[.slice none 0 0,.slice none 0 0,.slice none 0 0,.slice none 0 0,.slice none 0 0,.slice none 0 0,.slice none 0 0,.int .i64 0,.int .i64 0] 32 (0,0))/\CQ k zY zR=(pg,hd,o)/\C8 P.zY zY/\0<=zR/\zR<=15/\Below lo w wr/\En w wr) (λix _ _=>32 - (intOf ix).toNat)
 case atStart=>exact⟨32,P.zY,P.zR,yt _,rfl,HI.out,dA.out,hV.out,C8.refl _,hh.1,hh.2,dx.out,dy.out⟩
 case round=>
  obtain⟨k,zY,zR,hk,rfl,hI,hN,bY,hU,h0,ih,hb,hst⟩:=hrel;cases k with
  |zero=>
   obtain⟨rfl,rfl,rfl⟩:zY=pg/\zR=hd/\none=o:=by unfold CQ at bY;simpa using bY
   have HS:=AA (DF hN hI.own);obtain⟨x0,x1,x2,x3,x4,x5,x6,x7,x8⟩:=hI.cells;obtain⟨z0,z1,z2,z3,z4,z5,z6,z7,z8⟩:=AD hN;have fz:=AK hN;have Hb:=AA hb;have iw:=AA hst;clear hI hN hb hst hU bY hk;rw[show((32 - 0:Nat):Int)=32 from rfl];go_wp2_with fail;obtain⟨N2,O2,bw⟩:=HS.out;have B2:=AM Hb.out bw (by have:=Hg.out;have:=cC.out;omega) (by have:=Hb.out.size;have:=Hg.out;have:=cC.out;omega);have T2:=iw.out.fresh bw (by have:=Hg.out;omega);unfold Ew at N2 O2 B2 T2;exact yk (v:=.tuple #[.agg #[_,_,_,_,_,_,_,_,_],_]) (by simp[results,Tryz.results90,go_sem,U9,AD N2]) rfl ⟨rfl,O2,B2,T2⟩
  |succ k=>
   rw[Od] at bY;obtain⟨j,rfl⟩:∃j:Nat,zR=(j:Int):=⟨zR.toNat,by omega⟩
   rw[yb] at bY;unfold Ea at bY;have hj:j<16:=by omega
   have cq:(j:Int)<16:=by omega
   obtain⟨ix,hix⟩:∃ix:Nat,ix=32 - (k+1):=⟨_,rfl⟩
   have hL:(ix:Int)<32:=by omega
   have iD:=AA (show 32 - k=ix+1 by omega);rw[<-hix];clear hix;have dg:zY.length=16:=by rw[hU.len];exact h9.out.zO
   obtain⟨_,_,_,_,_,_,_,x7,_⟩:=hI.cells;have fg:=AK hI.yK;have P1:=hI.zg (((j:Int)+1)%16);have B1:=AM hb P1.2 hI.yJ (by have:=hb.size;have:=Hg.out;have:=cC.out;omega);have N1:=Ap hN P1.2 (by omega);have I1:=P1.1;have T1:=hst.fresh P1.2 (by have:=Hg.out;omega);clear P1 hst;generalize hW1:wr.setCell _ _=W1 at I1 B1 N1 T1;have gp:=AA T1;clear T1;obtain⟨iZ,fq,p0,p1,p2⟩:=I1.pg (n:=j) (by show j<zY.length;rw[dg];exact hj);obtain⟨c0,c1,c2,c3,c4,c5,c6,c7,c8⟩:=I1.cells;have dq:0<=((j:Int)+1)%16/\((j:Int)+1)%16<=15:=Lr (zR:=(j:Int)) h0 ih;have hx:zY[j]?=some (AB zY j):=by unfold AB;exact A1 (by omega)
   replace p0:W1.cell? ⟨gq,j*3,none⟩=some (.int .i64 (AB zY j).w):=p0;replace p1:W1.cell? ⟨gq,j*3+1,none⟩=some (.int .i64 (AB zY j).a):=p1;replace p2:W1.cell? ⟨gq,j*3+2,none⟩=some (.bool (AB zY j).u):=p2;have gj:=AA (C8.trans hU (C8.one zY j));have jb:=AA hU;generalize hpj:AB zY j=x at bY p0 p1 p2 hx gj;obtain⟨xw,xa,xu⟩:=x;dsimp only at p0 p1 p2 bY;have HX:=AA hx;have iP:=AA dg;have cF:=AA I1;have ci:=AA B1;have HN:=AA N1;have dz:=AA dq;have HV:=AA bY;have Hk:=AA hk;clear hI hU hx bY dg hb I1 B1 N1 dq hN hpj hk
   by_cases hc:xw=1/\xu=false
   .obtain⟨rfl,rfl⟩:=hc
    have cH:=HV.out;rw[if_pos ⟨rfl,rfl⟩] at cH;simp only[Prod.mk.injEq] at cH;obtain⟨rfl,rfl,rfl⟩:=cH;clear HV hV;have HS:=AA (DF HN.out cF.out.own);obtain⟨z0,z1,z2,z3,z4,z5,z6,z7,z8⟩:=AD HN.out;have fz:=AK HN.out;go_wp2_with fail;obtain⟨N2,O2,bw⟩:=HS.out;have B2:=AM ci.out bw (by have:=Hg.out;have:=cC.out;omega) (by have:=ci.out.size;have:=Hg.out;have:=cC.out;omega);have T2:=gp.out.fresh bw (by have:=Hg.out;omega);unfold Ew at N2 O2 B2 T2;exact yk (v:=.tuple #[.agg #[_,_,_,_,_,_,_,_,_],_]) (by simp[results,Tryz.results90,go_sem,U9,AD N2]) rfl ⟨rfl,O2,B2,T2⟩
   .have cH:=HV.out
    rw[if_neg hc] at cH;have iI:=AA cH;have cS:=cF.out.zo (n:=j) (x:=⟨xw,xa,xu⟩) (y:=⟨xw,xa,false⟩) (j:=2) (u:=.bool false) iP.out.symm HX.out (by decide) rfl;have B2:=AA (AM ci.out cS.2.1 cS.2.2 (by have:=ci.out.size;have:=Hg.out;have:=cC.out;omega));have ib:=AA (Ap HN.out cS.2.1 (by obtain⟨cu,be⟩:=A6 cF.out.own.pgs gq rfl;exact(Bp be HN.out)));have iQ:=AA cS.1;obtain⟨eT,a9⟩:=A6 cF.out.own.pgs gq rfl;have T2:=AA (gp.out.other cS.2.1 a9 (by decide));clear cS cH HV hV
    by_cases eu:xw=1
    focus
     subst eu
     obtain rfl:xu=true:=by
      cases xu
      .exact absurd ⟨rfl,rfl⟩ hc
      .rfl
     clear hc
    rotate_left
    focus
     have t1:(xw==1)=false:=by simp[eu]
     clear hc eu
    rotate_left
    all_goals
     go_wp2_with fail;go_roundw
     case rel=>exact⟨k,_,_,by have:=Hk.out;omega,by rw[iD.out];go_num,iQ.out,ib.out,iI.out,gj.out,dz.out.1,dz.out.2,B2.out,T2.out⟩
     case measure=>simp[intOf];omega
section
variable {lo g:Nat} {w w':World} {m i e c s l q:Value} {P:AR}
theorem Gm.kfar{p:Nat}{cu:Array Value}(h:Gm lo g w m i e c s l q P)(hp:w.heap[p]?=some (.cells cu 28 (0,0)))(hg:w.grownBy w' (some p)):Gm lo g w' m i e c s l q P:=
 ⟨Ap h.yK hg (Bp hp h.yK),h.yJ,h.own.yL hg hp⟩
theorem Gm.putSw{s':Value}{vs:List Value}{S:List (List Int)}(h:Gm lo g w m i e c s l q P)(O:Au lo w s' vs S)(ha:Fg m s'):Gm lo g (w.setCell ⟨g,4,none⟩ s') m i e c s' l q {P with swap:=S}:=by have gr:=Aq w g 4 s';have F:=h.own.yL gr h.yK;have B:=ym w g 4 _ 32 s' h.yK;exact⟨by simpa using B,h.yJ,⟨F.ker,⟨vs,O.yL gr h.yK⟩,F.low,F.pgs,ha⟩⟩
theorem Gm.putK{k:AN}(h:Gm lo g w m i e c s l q P)(O:DP lo w m' i' e' c' k)(ha:Fg m' s):Gm lo g ((((w.setCell ⟨g,0,none⟩ m').setCell ⟨g,1,none⟩ i').setCell ⟨g,2,none⟩ e').setCell ⟨g,3,none⟩ c') m' i' e' c' s l q {P with zV:=k}:=by have gr:=Ao w g m' i' e' c';have F:=h.own.yL gr h.yK;exact⟨JU h.yK,h.yJ,⟨O.yL gr h.yK,F.swp,F.low,F.pgs,ha⟩⟩
end
def ZV(lo:Nat)(v:Value)(w:World)(S:List (List Int)):Prop:=∃vs,Au lo w v vs S
def Ky(lo:Nat)(v:Value)(w:World)(S:List (List Int))(x:Int):Prop:=∃u,v=.tuple #[u,.int .i64 x,.bool true]/\ZV lo u w S
theorem ZV.below{lo:Nat}{w w':World}{S:List (List Int)}(h:ZV lo v w S)(hb:Below w.heap.size w w'):ZV lo v w' S:=by obtain⟨vs,h⟩:=h;exact⟨vs,h.below hb⟩
theorem Ky.below{lo:Nat}{w w':World}{S:List (List Int)}{x:Int}(h:Ky lo v w S x)(hb:Below w.heap.size w w'):Ky lo v w' S x:=by obtain⟨u,h1,h2⟩:=h;exact⟨u,h1,h2.below hb⟩
def VL(lo:Nat)(w:World)(l q:Value)(Q:AR)(r:Ending)(w':World):Prop:=(∃m i e c s,r=.returned (AO m i e c s l q Q.zR Q.zU)/\FG lo w' m i e c s l q Q)/\Below lo w w'/\En w w'
theorem Vy{lo:Nat}{w:World}{mv iv ev cv sv lv qv:Value}{P:AR}(h:FG lo w mv iv ev cv sv lv qv P)(av:lo<=w.heap.size)(hP:ED P){n:Nat}(hn:n<16)(hw:(AB P.zY n).w=1):
 Calls prog 91 #[AO mv iv ev cv sv lv qv P.zR P.zU,.int .i64 n] w (VL lo w lv qv (EL P n)):=by
 have fP:=hP.zH hn hw;have hX:=(hP.zG hn hw).2.1;have bB:=hP.slot hn (by rw[hw];decide);obtain⟨f,hf⟩:∃f:Nat,(AB P.zY n).a=(f:Int):=⟨(AB P.zY n).a.toNat,by omega⟩
 obtain⟨sl,cn⟩:∃sl:Nat,BY P.swap=(sl:Int):=⟨(BY P.swap).toNat,by have:=bB.1;omega⟩
 have bi:sl<16:=by have:=bB.2.1;omega
 have dm:f<12:=by have:=fP.1;omega
 obtain⟨ta,ha⟩:∃a,a=n/4:=⟨_,rfl⟩
 obtain⟨tb,hb⟩:∃b,b=n%4:=⟨_,rfl⟩
 have q1:(n:Int)/4=(ta:Int):=by omega
 have q2:(n:Int)%4=(tb:Int):=by omega
 have eF:ta<4:=by omega
 have eI:DJ (Ad P.zV (Ah 6 (BJ P.low ta) (tb:Int) 0)).1:=Fy hP.k;have hQ:EL P n= {P with zV:=(Ad (Ad P.zV (Ah 6 (BJ P.low ta) (tb:Int) 0)).1 (Ah 2 (f:Int) 0 0)).1,swap:=P.swap.set sl (AH P.zV.mem f),zY:=P.zY.set n ⟨2,(sl:Int),false⟩}:=by unfold EL IS;rw[hf,cn,<-ha,<-hb,yb,yb]
 rw[hQ];have CM:=λm i e c W (hR:Ma W m i e c P.zV)=>FR hR hP.k 6 (BJ P.low ta) (tb:Int) 0 (by decide)
 generalize Ad P.zV (Ah 6 (BJ P.low ta) (tb:Int) 0)=res1 at CM eI ⊢;obtain⟨a0,bl,n1⟩:=res1;dsimp only at CM eI ⊢;have C4:=λm i e c W (hR:Ma W m i e c a0)=>FR hR eI 2 (f:Int) 0 0 (by decide)
 generalize Ad a0 (Ah 2 (f:Int) 0 0)=res2 at C4 ⊢;obtain⟨cl,cG,n2⟩:=res2;unfold KL at CM C4;dsimp only at CM C4 ⊢;generalize(n1==0)=br1 at CM;replace CM:=AA CM;replace C4:=AA C4;unfold AO VL AO;obtain⟨⟨_,⟨ia,iN,ic,rfl⟩,⟨ea,en,ec,rfl⟩,⟨ka,kn,kc,rfl⟩⟩,⟨sa,sn,sc,rfl⟩,_⟩:=h.zQ;obtain⟨gq,qc,e3,_,_,di,fM,_⟩:=h.pgs.zM (by rw[hP.zO];omega);rw[hP.zO] at e3;obtain⟨lb,lc,e2,ca,DL⟩:=JZ h.low (j:=ta) (by rw[hP.zt];exact eF);rw[hP.zt] at e2;obtain⟨vs,o1⟩:=h.ker.1;have fH:P.zV.mem.length=12:=hP.meml;have a6:vs.length=12:=by rw[o1.2.1.1];exact fH
 obtain⟨gm,cm,e1,hY,_,_,dk,_⟩:=o1.1.zM (by omega);have df:(AH P.zV.mem f).length=4:=hP.rowl dm;obtain⟨gw,cw,hu,bu,_,_⟩:=o1.row (f:=f) (by omega) (by omega);have DR:=AQ.zz EG (e1▸o1.1) hu 0 _ rfl;rw[a6] at e1;rw[df] at hu bu DR;rw[Nat.mul_one,Nat.add_zero] at DR;subst e1 e2 e3;obtain⟨N0,N1,ad,bk⟩:=Jy w (.cells #[.slice (some ⟨gm,0,none⟩) 12 cm,.slice ia iN ic,.slice ea en ec,.slice ka kn kc,.slice sa sn sc,.slice (some ⟨lb,0,none⟩) 4 lc,.slice (some ⟨gq,0,none⟩) 16 qc,.int .i64 P.zR,.int .i64 P.zU] 32) ((.cells #[.slice none 0 0,.slice none 0 0,.slice none 0 0,.slice none 0 0,.slice none 0 0,.slice none 0 0,.slice none 0 0,.int .i64 0,.int .i64 0] 32));have bq:=(⟨N0,av,h.below ad⟩:Gm lo w.heap.size _ _ _ _ _ _ _ _ P);replace DR:=(ad.cell (p:=⟨gm,f,none⟩) dk).trans DR;replace DL:=(ad.cell (p:=⟨lb,ta,none⟩) ca).trans DL;replace ca:=xX ca ad.size;replace dk:=xX dk ad.size;replace bu:=AF.below bu ad;have fV:=AF.rd bu;have fW:=bq.own.swp.choose_spec.rd;have fX:=bq.own.ker.rd;have ai:FE P.swap=true:=GF.2 ⟨hP.zD,hP.zv⟩;have fE:Di (AH P.zV.mem f)=true:=(Ai.1 hP.k.mem).2 f dm;obtain⟨_,_,p1,_⟩:True/\True/\_/\True:=⟨trivial,trivial,(bq.pg (n:=n) (by rw[hP.zO];exact hn)).2.2.2.1,trivial⟩;rw[hf] at p1;obtain⟨k0,k1,k2,k3,k4,k5,k6,_,_⟩:=bq.cells;have eY:=AA bk;have dA:=AA N1;have HI:=AA bq;have cC:=AA av;have dx:=AA (ad.mono av);have dy:=AA ((En.refl w).below ad);have HP:=AA hP;have HK:=AA hP.k;have iL:=AA fX;replace DL:_=some (yf .i64 (BJ P.low ta)):=DL;generalize BJ P.low ta=la at*;have CS:=AA (λW (hW:Below _ _ W)=>Tk (.slice sa sn sc) (.slice (some ⟨gw,0,none⟩) 4 cw) P.swap (AH P.zV.mem f) W (fW.below hW) ai (fV.below hW) fE cn bi);have hE:(n:Int)<16:=by omega
 have i7:(f:Int)<12:=by omega
 have h8:(ta:Int)<4:=by omega
 have aq:=AA (yB av ad.size);have cM:=AA (show n<P.zY.length by rw[hP.zO];exact hn);have dU:=AA hP.zO;clear h av hP hw fP hX bB hf cn hQ bq N0 N1 ad bk o1 hu bu df fH a6 fV fW fX ai fE hY ha hb;go_in;go_wp2_with fail;generalize(w.alloc _).alloc _=W0 at*;generalize hg:w.heap.size=g at*;have Hg:=AA hg;have fN:=AW HI.out.yK;clear hg;refine BN 15 64 [.p g 4,.v (.slice sa sn sc),.p g 0,.p g 0,.s gm 12 cm,.i ((f:Int)),.p gm f,.s gw 4 cw,.z,.z,.z,.i ((sl:Int)),.b true,.z,.i ((sl:Int))] (λix vv ww=>match ix with
  |8|9=>Ky W0.heap.size vv ww (P.swap.set sl (AH P.zV.mem f)) (sl:Int)
  |10|13=>ZV W0.heap.size vv ww (P.swap.set sl (AH P.zV.mem f))
  |_=>True) ?_ ?_ ?_
 .intro i hi o ho a wx Hb Hd hG K HK
  have a8:=bc hG fN k4;have az:=bc hG fN k0
  match i,hi with
  |0,_|2,_|3,_|5,_|14,_=>exact sP ho HK Hb Hd
  |1,_|4,_=>exact sL ho HK Hb Hd (hl:=GT ‹_›)
  |6,_=>exact sI ho HK Hb Hd (hr:=by clear Hd Hb HK;go_simp)
  |7,_=>exact sL ho HK Hb Hd (hl:=J5 (bc hG dk DR))
  |8,_=>exact sC ho HK Hb Hd (CS.out _ hG) (by rintro r w_ ⟨⟨v',gE,rfl,hO⟩,bf⟩;exact⟨_,rfl,⟨v',rfl,gE,hO.lower hG.size⟩,bf⟩)
  |9,_=>clear a8 az;obtain rfl:=yF ho;have d8:Ky W0.heap.size (a.tmps[27]?.getD undef) wx (P.swap.set sl (AH P.zV.mem f)) (sl:Int):=BM Hd 8;clear Hd Hb;refine yE ?_;go_simp;exact HK.out _ _ d8 (yD _ _)
  |10,_=>clear a8 az;obtain rfl:=yF ho;have d9:Ky W0.heap.size (a.tmps[18]?.getD undef) wx (P.swap.set sl (AH P.zV.mem f)) (sl:Int):=BM Hd 9;clear Hd Hb;obtain⟨v',d9,hO⟩:=d9;refine yE ?_;go_simp;exact HK.out _ _ hO (yD _ _)
  |11,_|12,_=>clear a8 az;obtain rfl:=yF ho;have d9:Ky W0.heap.size (a.tmps[18]?.getD undef) wx (P.swap.set sl (AH P.zV.mem f)) (sl:Int):=BM Hd 9;clear Hd Hb;obtain⟨v',d9,hO⟩:=d9;refine yE ?_;go_simp;exact HK.out _ _ rfl (yD _ _)
  |13,_=>clear a8 az;obtain rfl:=yF ho;have dQ:ZV W0.heap.size (a.tmps[28]?.getD undef) wx (P.swap.set sl (AH P.zV.mem f)):=BM Hd 10;clear Hd Hb;refine yE ?_;go_simp;exact HK.out _ _ dQ (yD _ _)
  |_+15,hq=>omega
 .intro i hi vv wz bs al hz
  match i,hi with
  |8,_|9,_=>exact(Ky.below hz al)
  |10,_|13,_=>exact(ZV.below hz al)
  |0,_|1,_|2,_|3,_|4,_|5,_|6,_|7,_|11,_|12,_|14,_=>exact hz
  |_+15,hq=>omega
 .intro vs wx hR hG
  have fl:(vs 12)=.bool true:=BW hR 12;have fk:ZV W0.heap.size (vs 13) wx (P.swap.set sl (AH P.zV.mem f)):=BW hR 13;have cZ:(vs 14)=.int .i64 sl:=BW hR 14;clear hR;simp only[Aj,Ae,yC,yz,yy,yw,fl,cZ];simp;generalize vs 13=gD at fk ⊢;clear fl cZ;obtain⟨cO,hO⟩:=fk;obtain⟨ua,un,uc,rfl⟩:∃a n c,gD=.slice a n c:=by obtain⟨_,_,rfl,_,_⟩:=hO.1.rd.shape;exact⟨_,_,_,rfl⟩
  obtain⟨W1,rfl⟩:∃W1,W1=wx:=⟨_,rfl⟩
  have HO:=AA hO;have cF:=AA (HI.out.below hG);have ci:=AA (dx.out.trans (hG.mono aq.out));have HN:=AA (AC dA.out hG);have HT:=AA (dy.out.below hG);have dj:=xX ca hG.size;replace DL:=(hG.cell (p:=⟨lb,ta,none⟩) ca).trans DL;have gz:=CM.out;clear CM;have CM:=AA (λW (hW:Below W1.heap.size W1 W)=>gz _ _ _ _ W ((iL.out.below hG).below hW));clear gz;have ca:=dj;have du:=AA hG.size;clear hO hG k0 k1 k2 k3 k4 k5 k6 p1 DR dk dj CS;obtain⟨k0,k1,k2,k3,k4,k5,k6,_,_⟩:=cF.out.cells;have dl:=AW cF.out.yK;go_wp2_with fail;refine EB 19 64 (λix=>ix==16) [.p g 0,.a #[.slice (some ⟨gm,0,none⟩) 12 cm,.slice ia iN ic,.slice ea en ec,.slice ka kn kc],.p g 5,.s lb 4 lc,.i ((n:Int)),.i ((ta:Int)),.p lb ta,.i la,.i ((n:Int)),.i ((tb:Int)),.z,.z,.z,.i bl,.b br1,.z,.z,.i bl,.b br1] (λll ix vv ww=>match ix with
   |10|11=>Ei W1.heap.size vv ww a0 bl br1
   |12=>Ga W1.heap.size vv ww a0
   |15=>JP W1.heap.size (ll 16) vv ww a0
   |_=>True) (λll ww=>Below W1.heap.size W1 ww) ?_ ?_ ?_ ?_ ?_ ?_
  .exact A8 (yD _ _) 1
  .intro j hj ll i vv wz bs hi hS cL eH al hz
   match j,hj with
   |10,_|11,_=>exact(Ei.below hz al)
   |12,_=>exact(Ga.below hz al)
   |15,_=>exact(JP.below (by rw[GH (by rintro rfl;cases hS)];exact hz) al)
   |0,_|1,_|2,_|3,_|4,_|5,_|6,_|7,_|8,_|9,_|13,_|14,_|16,_|17,_|18,_=>exact hz
   |_+19,hq=>omega
  .intro ll i wz bs hi hS cL al hg
   exact hg.trans (al.mono hg.size)
  .intro i hi hS o ho a wx Hb ll Hd HL hG K HK
   have a8:=bc hG dl k0;have az:=bc hG dl k1;have a7:=bc hG dl k2;have bt:=bc hG dl k3;have cg:=bc hG dl k5;have cf:=bc hG ca DL
   match i,hi,hS with
   |0,_,_|2,_,_|4,_,_|8,_,_|17,_,_|18,_,_=>exact Wg ho HK Hb Hd HL
   |1,_,_=>exact Nl ho HK Hb Hd HL (hl:=Np ‹_› ‹_› ‹_› ‹_›)
   |3,_,_=>exact Nl ho HK Hb Hd HL (hl:=J5 ‹_›)
   |7,_,_=>exact Nl ho HK Hb Hd HL (hl:=Fp ‹_›)
   |10,_,_=>exact bv ho HK Hb Hd HL (CM.out _ hG) (by rintro r w_ ⟨m',i',e',c',rfl,hO,bf⟩;exact⟨_,rfl,⟨m',i',e',c',rfl,hO.lower hG.size⟩,bf⟩)
   |16,_,hs=>cases hs
   |5,_,_=>clear a8 az a7 bt cg cf;obtain rfl:=yF ho;have d4:(a.tmps[36]?.getD undef)=.int .i64 n:=DV Hd HL 4;have a5:=Ba HL 16;clear Hd Hb;refine yE ?_;go_simp;exact HK.out _ _ (by show yf .i64 (IntKind.i64.wrap (ta:Int))=.int .i64 ta;rw[IntWalk.i64_in _ (by omega)]) (yD _ _)
   |6,_,_=>clear a8 az a7 bt cg cf;obtain rfl:=yF ho;have d3:(a.tmps[35]?.getD undef)=.slice (some ⟨lb,0,none⟩) 4 lc:=DV Hd HL 3;have d5:(a.tmps[37]?.getD undef)=.int .i64 ta:=DV Hd HL 5;have a5:=Ba HL 16;clear Hd Hb;refine yE ?_;go_simp;exact HK.out _ _ rfl (yD _ _)
   |9,_,_=>clear a8 az a7 bt cg cf;obtain rfl:=yF ho;have d8:(a.tmps[40]?.getD undef)=.int .i64 n:=DV Hd HL 8;have a5:=Ba HL 16;clear Hd Hb;refine yE ?_;go_simp;exact HK.out _ _ (by show yf .i64 (Int.tmod (n:Int) 4)=.int .i64 tb;rw[wy (by omega)];exact congrArg _ q2) (yD _ _)
   |11,_,_=>clear a8 az a7 bt cg cf;obtain rfl:=yF ho;have dQ:Ei W1.heap.size (a.tmps[42]?.getD undef) wx a0 bl br1:=DV Hd HL 10;have a5:=Ba HL 16;clear Hd Hb;refine yE ?_;go_simp;exact HK.out _ _ dQ (yD _ _)
   |12,_,_=>clear a8 az a7 bt cg cf;obtain rfl:=yF ho;have cz:Ei W1.heap.size (a.tmps[31]?.getD undef) wx a0 bl br1:=DV Hd HL 11;have a5:=Ba HL 16;clear Hd Hb;obtain⟨m',i',e',c',cz,hO⟩:=cz;refine yE ?_;go_simp;exact HK.out _ _ ⟨_,_,_,_,rfl,hO⟩ (yD _ _)
   |13,_,_|14,_,_=>clear a8 az a7 bt cg cf;obtain rfl:=yF ho;have cz:Ei W1.heap.size (a.tmps[31]?.getD undef) wx a0 bl br1:=DV Hd HL 11;clear Hd Hb;obtain⟨m',i',e',c',cz,hO⟩:=cz;refine yE ?_;go_simp;exact HK.out _ _ rfl (yD _ _)
   |15,_,_=>clear a8 az a7 bt cg cf;obtain rfl:=yF ho;have a5:=Ba HL 16;clear Hd Hb;refine yE ?_;go_simp;exact HK.out _ _ ⟨_,rfl,hG.size,by rw[GH (by decide),a5];exact yv _ _⟩ (AE _ _)
   |_+19,hq,_=>omega
  .intro i hi hS o ho a wx Hb ll Hd HL hG K HK
   match i,hi,hS with
   |0,_,hs|1,_,hs|2,_,hs|3,_,hs|4,_,hs|5,_,hs|6,_,hs|7,_,hs|8,_,hs|9,_,hs|10,_,hs|11,_,hs|12,_,hs|13,_,hs|14,_,hs|15,_,hs|17,_,hs|18,_,hs=>cases hs
   |16,_,_=>
    obtain rfl:=yF ho;have ip:JP W1.heap.size (ll 16) (a.tmps[9]?.getD undef) wx a0:=DV Hd HL 15;have cb:Ga W1.heap.size (a.tmps[43]?.getD undef) wx a0:=DV Hd HL 12;clear Hd Hb;obtain⟨qb,dP,cQ,am⟩:=ip;rw[HL.out.1] at am;replace am:wx.heap[qb]?=some (.cells #[.slice none 0 0,.slice none 0 0,.slice none 0 0,.slice none 0 0] 28 (0,0)):=am;obtain⟨m',i',e',c',cb,hO⟩:=cb;obtain⟨⟨va,vn,vc,rfl⟩,⟨wa,wn,wc,rfl⟩,⟨xa,xn,xc,rfl⟩,⟨ya,yn,yc,rfl⟩⟩:=hO.zQ;obtain⟨c0,ds,c2,c3⟩:=AG am;have fq:=AK am;have ac:=AA (Ao wx qb (.slice va vn vc) (.slice wa wn wc) (.slice xa xn xc) (.slice ya yn yc));have iV:=AA dP;have Hq:=AA am;have HO:=AA hO;clear am hO;refine yE ?_;go_simp;exact HK.out undef _ trivial (AM hG ac.out cQ hG.size) (λj cq cJ dO hu=>match j,cJ with
     |0,_|1,_|2,_|3,_|4,_|5,_|6,_|7,_|8,_|9,_|13,_|14,_|16,_|17,_|18,_=>hu
     |10,_|11,_=>Ei.yL hu ac.out Hq.out
     |12,_=>Ga.yL hu ac.out Hq.out
     |15,_=>⟨qb,iV.out,cQ,by rw[Gk];exact⟨_,_,_,_,Cs Hq.out,HO.out.yL ac.out Hq.out⟩⟩
     |_+19,hq=>absurd hq (by omega))
   |_+19,hq,_=>omega
  .intro vs wx ll ax hR hG
   have cY:JP W1.heap.size (ll 16) (vs 15) wx a0:=BW hR 15;clear hR;simp only[De,Bb,yC,yz,yy,yw];simp;generalize vs 15=z15 at cY ⊢;obtain⟨qb,rfl,cQ,am⟩:=cY;rw[ax 16 (by decide),if_pos rfl] at am;obtain⟨m',i',e',c',a1,eG⟩:=am;clear ax k0 k1 k2 k3 k4 k5 k6 DL;obtain⟨⟨va,vn,vc,rfl⟩,⟨wa,wn,wc,rfl⟩,⟨xa,xn,xc,rfl⟩,⟨ya,yn,yc,rfl⟩⟩:=eG.zQ;obtain⟨c0,ds,c2,c3⟩:=AG a1;have C4:=AA (C4.out _ _ _ _ _ eG.rd);have HG:=AA hG;have iA:=AA a1;clear hG a1 eG;go_wp2_with fail;refine C4.out.mono ?_;rintro r w5 ⟨m2,i2,e2,jh,rfl,O2,b5⟩;obtain⟨⟨dJ,dI,a7,rfl⟩,⟨er,es,ep,rfl⟩,⟨eO,eM,eN,rfl⟩,⟨eo,el,em,rfl⟩⟩:=O2.zQ;clear C4 c0 ds c2 c3;have Q5:=AC iA.out b5;have fq:=AK Q5;obtain⟨z0,z1,z2,z3⟩:=AG Q5;have G6:=Ao w5 qb (.slice dJ dI a7) (.slice er es ep) (.slice eO eM eN) (.slice eo el em);have I6:=((cF.out.below HG.out).below b5).kfar Q5 G6;have N5:=AC (AC HN.out HG.out) b5;have N6:=Ap N5 G6 (Bp Q5 N5);have K6:=O2.yL G6 Q5;have S6:=((HO.out.below HG.out).below b5).yL G6 Q5;have l5:lo<=w5.heap.size:=yB aq.out (yB du.out (yB HG.out.size b5.size));have B6:=AM ((ci.out.trans (HG.out.mono (yB aq.out du.out))).trans (b5.mono (yB aq.out (yB du.out HG.out.size)))) G6 (by have:=aq.out;have:=du.out;omega) l5;have Q6:=Cs (m':=.slice dJ dI a7) (i':=.slice er es ep) (e':=.slice eO eM eN) (c':=.slice eo el em) Q5;have l6:=yB l5 G6.size;have T6:=((HT.out.below HG.out).below b5).other G6 Q5 (by decide);have gg:Fg (.slice dJ dI a7) (.slice ua un uc):=λj h1 h2=>by obtain⟨us,r1⟩:=O2.1;have e1:=(yq r1.1 j h1).1;have e2:=(yq HO.out.1 j h2).2;have e3:=HG.out.size;omega
   have gf:Fg (.slice (some ⟨gm,0,none⟩) 12 cm) (.slice ua un uc):=λj h1 h2=>by obtain⟨us,r1⟩:=HI.out.own.ker.1;have e1:=(yq r1.1 j h1).2;have e2:=(yq HO.out.1 j h2).1;omega
   generalize hW6:(((w5.setCell _ _).setCell _ _).setCell _ _).setCell _ _=W6 at G6 I6 N6 K6 S6 B6 Q6 l6 T6;have I7:=I6.putSw (S6.lower aq.out) gf;have G7:=Aq W6 g 4 (.slice ua un uc);have K7:=K6.yL G7 I6.yK;have N7:=Ap N6 G7 (by omega);have Q7:=Ap Q6 G7 (Bp I6.yK Q6);have B7:=AM B6 G7 I6.yJ l6;have l7:=yB l6 G7.size;have T7:=T6.fresh G7 (by have:=Hg.out;omega);obtain⟨_,_,_,_,a4,_⟩:=I6.cells;have fa:=AK I6.yK;generalize hW7:W6.setCell _ _=W7 at G7 I7 K7 N7 Q7 B7 l7 T7;have I8:=I7.putK (K7.lower (yB aq.out (yB du.out HG.out.size))) gg;have G8:=Ao W7 g (.slice dJ dI a7) (.slice er es ep) (.slice eO eM eN) (.slice eo el em);have N8:=Ap N7 G8 (by omega);have B8:=AM B7 G8 I7.yJ l7;have l8:=yB l7 G8.size;have T8:=T7.fresh G8 (by have:=Hg.out;omega);obtain⟨d0,d1,d2,d3⟩:=AG Q7;obtain⟨t0,t1,t2,t3,_⟩:=I7.cells;have ft:=AK I7.yK;generalize hW8:(((W7.setCell _ _).setCell _ _).setCell _ _).setCell _ _=W8 at I8 G8 N8 B8 l8 T8;obtain⟨_,_,_,_,_,_,s6,_,_⟩:=I8.cells;obtain⟨hC,f8,p0,p1,p2⟩:=I8.pg (n:=n) cM.out;have I9:=I8.zp (n:=n) dU.out.symm cM.out ⟨2,(sl:Int),false⟩;have N9:=Ap N8 I9.2.1 (by obtain⟨cu,be⟩:=A6 I8.own.pgs gq rfl;exact(Bp be N8));have B9:=AM B8 I9.2.1 I9.2.2 l8;have l9:=yB l8 I9.2.1.size;obtain⟨eT,a9⟩:=A6 I8.own.pgs gq rfl;have T9:=T8.other I9.2.1 a9 (by decide);have I9:=I9.1;generalize hW9:((W8.setCell _ _).setCell _ _).setCell _ _=W9 at I9 N9 B9 l9 T9;have e4:=AA T9;have eV:=AA (DF N9 I9.own);obtain⟨x0,x1,x2,x3,x4,x5,x6,x7,x8⟩:=I9.cells;obtain⟨r0,r1,r2,r3,r4,r5,r6,r7,r8⟩:=AD N9;have fr:=AK N9;have fd:=AA B9;have e0:=AA l9;clear T6 T7 T8 T9 I6 N5 N6 K6 S6 B6 Q6 l6 I7 K7 N7 Q7 B7 l7 I8 N8 B8 l8 I9 N9 B9 l9 gg gf O2 b5 Q5 G6 G7 G8 l5;go_wp2_with fail;obtain⟨cW,cc,bm⟩:=eV.out;have cd:=AM fd.out bm (by have:=HI.out.yJ;omega) e0.out;have cV:=e4.out.fresh bm (by have:=Hg.out;omega);unfold Ew at cW cc cd cV;exact yk (v:=.agg #[_,_,_,_,_,_,_,_,_]) (by simp[results,Tryz.results91,go_sem,AD cW]) rfl ⟨⟨_,_,_,_,_,rfl,cc⟩,cd,cV⟩
structure VE(lo g qk:Nat)(w:World)(m i e c s l q:Value)(P:AR)(mk ik ek ck:Value)(kc:AN):Prop where
 box:w.heap[g]?=some (.cells #[m,i,e,c,s,l,q,.int .i64 P.zR,.int .i64 P.zU] 32 (0,0))
 res:w.heap[g+1]?=some (.cells #[.slice none 0 0,.slice none 0 0,.slice none 0 0,.slice none 0 0,.slice none 0 0,.slice none 0 0,.slice none 0 0,.int .i64 0,.int .i64 0] 32 (0,0))
 kb:w.heap[qk]?=some (.cells #[mk,ik,ek,ck] 28 (0,0))
 own:FG lo w mk ik ek ck s l q {P with zV:=kc}
 yJ:lo<=g/\lo<=qk/\lo<=w.heap.size
section
variable {lo g qk:Nat} {w w1:World} {m i e c s l q mk ik ek ck:Value} {P:AR} {kc:AN}
theorem VE.below(h:VE lo g qk w m i e c s l q P mk ik ek ck kc)(hb:Below w.heap.size w w1):VE lo g qk w1 m i e c s l q P mk ik ek ck kc:=
 ⟨AC h.box hb,AC h.res hb,AC h.kb hb,h.own.below hb,h.yJ.1,h.yJ.2.1,yB h.yJ.2.2 hb.size⟩
theorem VE.put{k':AN}(h:VE lo g qk w m i e c s l q P mk ik ek ck kc)(hb:Below w.heap.size w w1)(O:DP w.heap.size w1 m' i' e' c' k'):VE lo g qk (Ex w1 qk m' i' e' c') m i e c s l q P m' i' e' c' k':=by
 have h':=h.below hb;have gr:=Ao w1 qk m' i' e' c';have F:=h'.own.yL gr h'.kb;refine⟨Ap h'.box gr (Bp h'.kb h'.box),Ap h'.res gr (Bp h'.kb h'.res),Cs h'.kb,⟨(O.yL gr h'.kb).lower h.yJ.2.2,F.swp,F.low,F.pgs,λj h1 h2=>?_⟩,h.yJ.1,h.yJ.2.1,yB h'.yJ.2.2 gr.size⟩;obtain⟨us,r1⟩:=O.1;obtain⟨vs,r2⟩:=h.own.swp;have e1:=(yq r1.1 j h1).1;have e2:=(yq r2.1 j h2).2;omega
theorem VE.swap{gs ay sl:Nat}{v':Value}{r:List Int}(h:VE lo g qk w m i e c (.slice (some ⟨gs,0,none⟩) 16 ay) l q P mk ik ek ck kc)(hl:P.swap.length=16)(hb:Below w.heap.size w w1)(hO:AF w.heap.size w1 v' r)(hs:sl<16):
 VE lo g qk (w1.setCell ⟨gs,sl,none⟩ v') m i e c (.slice (some ⟨gs,0,none⟩) 16 ay) l q {P with swap:=P.swap.set sl r} mk ik ek ck kc/\w1.grownBy (w1.setCell ⟨gs,sl,none⟩ v') (some gs)/\lo<=gs:=by
 obtain⟨vs,ai⟩:=h.own.swp;replace ai:Au lo w (.slice (some ⟨gs,0,none⟩) 16 ay) vs P.swap:=ai;have a6:vs.length=16:=by rw[ai.2.1.1];exact hl
 have R:=ai.set (B:=w.heap.size) (j:=sl) (r:=r) (v':=v') hb hO (yt _) h.yJ.2.2 a6.symm (by omega);have h':=h.below hb;obtain⟨cu,be⟩:=A6 (ai.below hb).1 gs rfl;obtain⟨B,hglo,⟨⟨⟨ms,k1,k2,k3⟩,k4,⟨ps,k5,k6,k7⟩,k8⟩,⟨us,hs'⟩,hlw,hp,dp⟩⟩:True/\lo<=g/\FG lo w1 mk ik ek ck (.slice (some ⟨gs,0,none⟩) 16 ay) l q {P with zV:=kc}:=⟨trivial,h'.yJ.1,h'.own⟩;have hg:=R.2;refine⟨⟨Ap h'.box hg (Bp be h'.box),Ap h'.res hg (Bp be h'.res),Ap h'.kb hg (Bp be h'.kb),⟨⟨⟨ms,Av k1 hg dp.ne,k2.mono λ_ _ x=>Av x hg (A7 x hs'.1 (by decide)).ne,k3⟩,Av k4 hg (A7 k4 hs'.1 (by decide)).ne,⟨ps,Av k5 hg (A7 k5 hs'.1 (by decide)).ne,k6.mono λ_ _ x=>⟨Av x.1 hg (A7 x.1 hs'.1 (by decide)).ne,x.2⟩,k7⟩,Av k8 hg (A7 k8 hs'.1 (by decide)).ne⟩,⟨_,R.1⟩,Av hlw hg (A7 hlw hs'.1 (by decide)).ne,Av hp hg (A7 hp hs'.1 (by decide)).ne,dp⟩,h.yJ.1,h.yJ.2.1,yB h'.yJ.2.2 hg.size⟩,hg,(yq ai.1 gs rfl).1⟩
theorem VE.back(h:VE lo g qk w m i e c s l q P mk ik ek ck kc):Gm lo g (Ex w g mk ik ek ck) mk ik ek ck s l q {P with zV:=kc}/\(Ex w g mk ik ek ck).heap[g+1]?=some (.cells #[.slice none 0 0,.slice none 0 0,.slice none 0 0,.slice none 0 0,.slice none 0 0,.slice none 0 0,.slice none 0 0,.int .i64 0,.int .i64 0] 32 (0,0))/\w.grownBy (Ex w g mk ik ek ck) (some g):=by have gr:=Ao w g mk ik ek ck;exact⟨⟨JU h.box,h.yJ.1,h.own.yL gr h.box⟩,Ap h.res gr (by omega),gr⟩
end
def Tz(lo:Nat)(w:World)(s l q:Value)(Q:AR)(r:Ending)(w':World):Prop:=(∃m i e c,r=.returned (.tuple #[AO m i e c s l q Q.zR Q.zU,.bool true])/\FG lo w' m i e c s l q Q)/\Below lo w w'/\En w w'
theorem Yk{lo:Nat}{w:World}{m i e c s l q:Value}{Q Q':AR}(h:Q=Q')(O:FG lo W m i e c s l q Q')(B:Below lo w W)(T:En w W):Tz lo w s l q Q (.returned (.tuple #[AO m i e c s l q Q'.zR Q'.zU,.bool true])) W:=by subst h;exact⟨⟨_,_,_,_,rfl,O⟩,B,T⟩
theorem Xa{lo:Nat}{w:World}{mv iv ev cv sv lv qv:Value}{P:AR}(h:FG lo w mv iv ev cv sv lv qv P)(av:lo<=w.heap.size)(hP:ED P){n:Nat}(hn:n<16)(hw:(AB P.zY n).w≠1)(bC:0<=Am P.zV.zZ):
 Calls prog 92 #[AO mv iv ev cv sv lv qv P.zR P.zU,.int .i64 n] w (Tz lo w sv lv qv (Oh P n).1):=by
 obtain⟨k1,fr,bK,cr,fI⟩:∃k1 fr,Ad P.zV (Ah 1 0 0 0)=(k1,fr,0)/\(0<=fr/\fr<=11)/\DJ k1:=by obtain⟨g1,_,_⟩:=FU (zZ:=P.zV.zZ) (by omega);rw[hP.k.len] at g1;have hk:=Fy (kind:=1) (a:=0) (b:=0) (c:=0) hP.k;have e:=Lz (k:=P.zV) hP.may bC (a:=0) (b:=0) (c:=0);rw[e] at hk;exact⟨_,_,e,⟨bC,by omega⟩,hk⟩
 have fZ:=Vn (n:=n) bK;generalize a2:(Oh P n).1=QQ_;obtain⟨ta,ha⟩:∃a,a=n/4:=⟨_,rfl⟩
 obtain⟨tb,hb⟩:∃b,b=n%4:=⟨_,rfl⟩
 obtain⟨la,hla⟩:∃la,la=BJ P.low ta:=⟨_,rfl⟩
 have q1:(n:Int)/4=(ta:Int):=by omega
 have q2:(n:Int)%4=(tb:Int):=by omega
 have eF:ta<4:=by omega
 have h8:(ta:Int)<4:=by omega
 have hE:(n:Int)<16:=by omega
 rw[fZ] at a2;unfold IS at a2;rw[<-ha,<-hb,<-hla] at a2;replace a2:=a2.symm;generalize hpx:AB P.zY n=x at a2 hw;obtain⟨pw,pa,pu⟩:=x;dsimp only at a2 hw;unfold Tz AO;obtain⟨N0,N1,ad,bk⟩:=Jy w (.cells #[mv,iv,ev,cv,sv,lv,qv,.int .i64 P.zR,.int .i64 P.zU] 32) ((.cells #[.slice none 0 0,.slice none 0 0,.slice none 0 0,.slice none 0 0,.slice none 0 0,.slice none 0 0,.slice none 0 0,.int .i64 0,.int .i64 0] 32));have bq:=(⟨N0,av,h.below ad⟩:Gm lo w.heap.size _ mv iv ev cv sv lv qv P);obtain⟨⟨⟨ma,mn,mc,rfl⟩,⟨ia,iN,ic,rfl⟩,⟨ea,en,ec,rfl⟩,⟨ka,kn,kc,rfl⟩⟩,_,⟨dc,da,lc,rfl⟩,_⟩:=h.zQ;obtain⟨cO,ai⟩:=h.swp;have a6:cO.length=16:=by rw[ai.2.1.1];exact hP.zD
 obtain⟨gs,sc,e1,_,_,_,_,_⟩:=ai.1.zM (by omega);rw[a6] at e1;subst e1;obtain⟨gq,qc,rfl,dN,di,fM,fm,_⟩:=bq.page (n:=0) (by rw[hP.zO];omega);rw[hP.zO] at h bq N0 N1 ad bk dN ⊢;have C1:=FR bq.own.ker.rd hP.k 1 0 0 0 (by decide);unfold KL at C1;rw[bK] at C1;dsimp only at C1;rw[show((0:Int)==0)=true from rfl] at C1;obtain⟨k0,g4,k2,k3,_⟩:=bq.cells;have eY:=AA bk;have dA:=AA N1;have HI:=AA bq;have cC:=AA av;have aq:=AA (yB av ad.size);have dx:=AA (ad.mono av);have dy:=AA ((En.refl w).below ad);have HP:=AA hP;have dv:=AA cr;have fb:=AA fI;have cM:=AA (show n<P.zY.length by rw[hP.zO];exact hn);have dU:=AA hP.zO;have gh:=AA hP.zt;have iC:=AA hla.symm;have dT:=AA hpx;have dZ:=AA a2;have iT:=AA C1;clear h av hP cr fI hla hpx a2 bq N0 N1 ad bk ai a6 C1 bK fZ dN ha hb bC;go_in;go_wp2_with fail;generalize(w.alloc _).alloc _=W0 at*;generalize hg:w.heap.size=g at*;have Hg:=AA hg;clear hg;refine iT.out.mono ?_;rintro r w1 ⟨m1,i1,e1,c1,rfl,O1,b1⟩;obtain⟨⟨ej,ei,az,rfl⟩,⟨fw,fx,fv,rfl⟩,⟨gd,f9,ga,rfl⟩,⟨fu,fp,fs,rfl⟩⟩:=O1.zQ;have I1:=HI.out.below b1;have bA:=AE w1 (.cells #[.slice ej ei az,.slice fw fx fv,.slice gd f9 ga,.slice fu fp fs] 28);have I2:=I1.below bA;obtain⟨_,_,_,_,_,_,x6,_,_⟩:=I2.cells;obtain⟨am,f2,p0,p1,p2⟩:=I2.pg (n:=n) cM.out;rw[dT.out] at p0 p1 p2;dsimp only at p0 p1 p2;obtain⟨NA,NB,eU,_⟩:=Jy w1 (.cells #[.slice ej ei az,.slice fw fx fv,.slice gd f9 ga,.slice fu fp fs] 28) (.cells #[.int .i64 pw,.int .i64 pa,.bool pu] 43);have cj:=b1.trans (eU.mono b1.size);have dp:Fg (.slice ej ei az) (.slice (some ⟨gs,0,none⟩) 16 sc):=λj h1 h2=>by obtain⟨us,r1⟩:=O1.1;obtain⟨vs,r2⟩:=HI.out.own.swp;have e1:=(yq r1.1 j h1).1;have e2:=(yq r2.1 j h2).2;omega
 have I4:=AA (⟨AC HI.out.yK cj,AC dA.out cj,NA,⟨(O1.below eU).lower aq.out,⟨_,HI.out.own.swp.choose_spec.below cj⟩,AF.below HI.out.own.low cj,AQ.below HI.out.own.pgs cj,dp⟩,HI.out.yJ,yB aq.out b1.size,yB aq.out cj.size⟩:VE lo g w1.heap.size _ _ _ _ _ _ _ _ P _ _ _ _ k1);have bx:=AA (dx.out.trans (cj.mono aq.out));have dX:=AA (dy.out.below cj);have ed:=AA NB;clear I1 bA I2 NA NB eU cj dp O1 b1 k0 g4 k2 k3;go_wp2_with fail;generalize(w1.alloc _).alloc _=W3 at*;generalize w1.heap.size=qk at*;obtain⟨qx,dM⟩:∃qx,qx=qk+1:=⟨_,rfl⟩
 rw[<-dM] at ed ⊢;clear dM x6 p0 p1 p2 f2 am;obtain⟨mk,ik,ek,ck,I4⟩:∃mk ik ek ck,Hid (VE lo g qk W3 (.slice ma mn mc) (.slice ia iN ic) (.slice ea en ec) (.slice ka kn kc) (.slice (some ⟨gs,0,none⟩) 16 sc) (.slice dc da lc) (.slice (some ⟨gq,0,none⟩) 16 qc) P mk ik ek ck k1):=⟨_,_,_,_,I4⟩
 by_cases dd:pw=2
 focus
  subst dd;have a2:=dZ.out;rw[if_pos rfl,if_pos rfl] at a2;obtain⟨sl,cn,bi,hrow⟩:∃sl:Nat,pa=(sl:Int)/\sl<16/\Di (AH P.swap sl)=true:=by
   rcases HP.out.zY n (by have:=cM.out;have:=dU.out;omega) with⟨x,_⟩|⟨x,_⟩|⟨x1,x2,x3,x4,x5⟩
   .rw[dT.out] at x;exact absurd x (show ¬(2:Int)=0 by decide)
   .rw[dT.out] at x;exact absurd x (show ¬(2:Int)=1 by decide)
   .rw[dT.out] at x2 x3
    refine⟨pa.toNat,by have:=x2.1;simp only at this;omega,by have:=x2.2;simp only at this;omega,?_⟩
    rcases HP.out.zv pa.toNat (by have:=x2.2;simp only at this;omega) with x|x
    .exact absurd x x3
    .exact x
  subst cn;rw[yb] at a2;have HQ:=AA a2;have bp:=AA (A3.1 hrow);have hm:(sl:Int)<16:=by omega
  clear a2 dZ hrow;go_loopw [10] (λix wr=>∃j:Nat,j<=4/\ix=.int .i64 j/\(∃mk ik ek ck,VE lo g qk wr (.slice ma mn mc) (.slice ia iN ic) (.slice ea en ec) (.slice ka kn kc) (.slice (some ⟨gs,0,none⟩) 16 sc) (.slice dc da lc) (.slice (some ⟨gq,0,none⟩) 16 qc) P mk ik ek ck (GY k1 fr (AH P.swap sl) j))/\wr.heap[qx]?=some (.cells #[.int .i64 2,.int .i64 sl,.bool pu] 43 (0,0))/\Below lo w wr/\En w wr) (λix _=>4 - (intOf ix).toNat)
  case atStart=>exact⟨0,by omega,rfl,⟨_,_,_,_,I4.out⟩,ed.out,bx.out,dX.out⟩
  case' round=>
   clear I4 ed bx dX;obtain⟨j,hj,rfl,⟨mk,ik,ek,ck,I5⟩,cP,B5,T5⟩:=hrel;obtain⟨⟨⟨ua,un,uc,rfl⟩,⟨va,vn,vc,rfl⟩,⟨ya,yn,yc,rfl⟩,⟨za,zn,zc,rfl⟩⟩,_,_⟩:=I5.own.zQ;obtain⟨cO,ai⟩:=I5.own.swp;replace ai:Au lo wr (.slice (some ⟨gs,0,none⟩) 16 sc) cO P.swap:=ai;have a6:cO.length=16:=by rw[ai.2.1.1];exact HP.out.zD
   obtain⟨gr,rc,hu,bu,_,_⟩:=ai.row (f:=sl) (by rw[HP.out.zD];exact bi) (by rw[bp.out.1];decide);rw[bp.out.1] at hu bu;have DS:=AQ.zz EG (by rw[a6];exact ai.1) hu 0 _ rfl;rw[Nat.mul_one,Nat.add_zero] at DS;obtain⟨_,_,_,_,x4,_⟩:=AD I5.box;obtain⟨dH,eh,_⟩:=Fx cP;have dB:=AA I5;have eX:=AA cP;have dC:=AA B5;have gl:=AA T5;clear T5
   by_cases cI:j<4
   .have cq:(j:Int)<4:=by omega
    have DW:wr.cell? ⟨gr,j,none⟩=some (.int .i64 ((AH P.swap sl).getD j 0)):=by have:=xB (show wr.ownsRow lo 3 1 (.slice (some ⟨gr,0,none⟩) 4 rc) 4 ((AH P.swap sl).map (yf .i64)) by have:=bu;unfold AF at this;rwa [bp.out.1] at this) j cI;rw[this,List.getElem?_map,A1 (d:=0) (by rw[bp.out.1];exact cI)];rfl
    have fC:(AH P.swap sl).getD j 0<=9223372036854775807:=by have:=(bp.out.2 _ (DH (d:=0) (show j<(AH P.swap sl).length by rw[bp.out.1];exact cI))).2;omega
    have eZ:=AA (Kc (k:=k1) (f:=fr) (ws:=AH P.swap sl) (j:=j));have RK:=I5.own.ker.rd;have CM:=λW (hW:Below wr.heap.size wr W)=>FR (RK.below hW) (Kb fb.out (f:=fr) (ws:=AH P.swap sl) j) 3 fr (j:Int) ((AH P.swap sl).getD j 0) fC
    have ng:g≠qk:=Bp I5.box I5.kb;have nx:qx≠qk:=Bp cP I5.kb;have ns:gs≠qk:=by obtain⟨cu,be⟩:=A6 ai.1 gs rfl;exact Bp be I5.kb
    have nr:gr≠qk:=by obtain⟨cu,be⟩:=A6 bu gr rfl;exact Bp be I5.kb
    have eE:=AW I5.box;have dM:=AW cP;have eA:=(yq ai.1 gs rfl).2;have eB:=(yq bu gr rfl).2;have a1:=I5.kb;have a3:=AW a1;obtain⟨n0,n1,n2,n3⟩:=AG a1;generalize(AH P.swap sl).getD j 0=wd at*;generalize Ad (GY k1 fr (AH P.swap sl) j) (Ah 3 fr (j:Int) wd)=res1 at CM eZ;obtain⟨a0,bl,gU⟩:=res1;unfold KL at CM;dsimp only at CM eZ;generalize(gU==0)=br1 at CM;replace CM:=AA CM;clear RK fC ai hu bu a6 I5 cP B5 hj;go_wp2_with fail;refine EB 18 86 (λix=>ix==17) [.a #[.slice ua un uc,.slice va vn vc,.slice ya yn yc,.slice za zn zc],.i fr,.i ((j:Int)),.p g 4,.s gs 16 sc,.p qx 1,.i ((sl:Int)),.p gs sl,.s gr 4 rc,.i ((j:Int)),.p gr j,.i wd,.z,.z,.z,.i bl,.b br1,.z] (λll ix vv ww=>match ix with
     |12|13=>Ei wr.heap.size vv ww a0 bl br1
     |14=>Ga wr.heap.size vv ww a0
     |_=>True) (λll ww=>GB wr (qk) a0 (ll 17) ww) ?_ ?_ ?_ ?_ ?_ ?_
    .exact A8 (yD _ _) 1
    .intro j hj ll i vv wz bs hi hS cL eH al hz
     match j,hj with
     |12,_|13,_=>exact(Ei.below hz al)
     |14,_=>exact(Ga.below hz al)
     |0,_|1,_|2,_|3,_|4,_|5,_|6,_|7,_|8,_|9,_|10,_|11,_|15,_|16,_|17,_=>exact hz
     |_+18,hq=>omega
    .intro ll i wz bs hi hS cL al hg
     show GB _ _ _ (GP ll i 17) _
     rw[GH (by rintro rfl;cases hS)];exact GB.grow hg al
    .intro i hi hS o ho a wx Hb ll Hd HL hG K HK
     match i,hi,hS with
     |0,_,_=>have ce:=Ba HL 17;have a8:=(show wx.cell? ⟨qk,0,none⟩=some (.slice ua un uc) from GB.cell hG (by cases hx:ll 17 with|false=>rfl|true=>exact absurd (HL.out.2.2 12 0 (HL.out.2.2 13 12 (HL.out.2.2 14 13 (HL.out.2.2 17 14 (hx) (by kernel_rfl)) (by kernel_rfl)) (by kernel_rfl)) (by kernel_rfl)) (by rw[HL.out.1];decide)) a3 n0);have az:=(show wx.cell? ⟨qk,1,none⟩=some (.slice va vn vc) from GB.cell hG (by cases hx:ll 17 with|false=>rfl|true=>exact absurd (HL.out.2.2 12 0 (HL.out.2.2 13 12 (HL.out.2.2 14 13 (HL.out.2.2 17 14 (hx) (by kernel_rfl)) (by kernel_rfl)) (by kernel_rfl)) (by kernel_rfl)) (by rw[HL.out.1];decide)) a3 n1);have a7:=(show wx.cell? ⟨qk,2,none⟩=some (.slice ya yn yc) from GB.cell hG (by cases hx:ll 17 with|false=>rfl|true=>exact absurd (HL.out.2.2 12 0 (HL.out.2.2 13 12 (HL.out.2.2 14 13 (HL.out.2.2 17 14 (hx) (by kernel_rfl)) (by kernel_rfl)) (by kernel_rfl)) (by kernel_rfl)) (by rw[HL.out.1];decide)) a3 n2);have bt:=(show wx.cell? ⟨qk,3,none⟩=some (.slice za zn zc) from GB.cell hG (by cases hx:ll 17 with|false=>rfl|true=>exact absurd (HL.out.2.2 12 0 (HL.out.2.2 13 12 (HL.out.2.2 14 13 (HL.out.2.2 17 14 (hx) (by kernel_rfl)) (by kernel_rfl)) (by kernel_rfl)) (by kernel_rfl)) (by rw[HL.out.1];decide)) a3 n3);exact Nl ho HK Hb Hd HL (hl:=Np ‹_› ‹_› ‹_› ‹_›)
     |1,_,_|2,_,_|3,_,_|5,_,_|9,_,_=>exact Wg ho HK Hb Hd HL
     |4,_,_=>have ce:=Ba HL 17;have cg:=(show wx.cell? ⟨g,4,none⟩=some (.slice (some ⟨gs,0,none⟩) 16 sc) from GB.other hG eE ng x4);exact Nl ho HK Hb Hd HL (hl:=GT ‹_›)
     |6,_,_=>have ce:=Ba HL 17;have cf:=(show wx.cell? ⟨qx,1,none⟩=some (.int .i64 sl) from GB.other hG dM nx eh);exact Nl ho HK Hb Hd HL (hl:=Fp ‹_›)
     |8,_,_=>have ce:=Ba HL 17;have iY:=(show wx.cell? ⟨gs,sl,none⟩=some (.slice (some ⟨gr,0,none⟩) 4 rc) from GB.other hG eA ns DS);exact Nl ho HK Hb Hd HL (hl:=J5 ‹_›)
     |11,_,_=>have ce:=Ba HL 17;have iX:=(show wx.cell? ⟨gr,j,none⟩=some (.int .i64 wd) from GB.other hG eB nr DW);exact Nl ho HK Hb Hd HL (hl:=Fp ‹_›)
     |17,_,hs=>cases hs
     |7,_,_=>obtain rfl:=yF ho;have d4:(a.tmps[40]?.getD undef)=.slice (some ⟨gs,0,none⟩) 16 sc:=DV Hd HL 4;have d6:(a.tmps[42]?.getD undef)=.int .i64 sl:=DV Hd HL 6;have ce:=Ba HL 17;clear Hd Hb;refine yE ?_;go_simp;exact HK.out _ _ rfl (yD _ _)
     |10,_,_=>obtain rfl:=yF ho;have d8:(a.tmps[44]?.getD undef)=.slice (some ⟨gr,0,none⟩) 4 rc:=DV Hd HL 8;have d9:(a.tmps[45]?.getD undef)=.int .i64 j:=DV Hd HL 9;have ce:=Ba HL 17;clear Hd Hb;refine yE ?_;go_simp;exact HK.out _ _ rfl (yD _ _)
     |12,_,_=>
      obtain rfl:=yF ho;have d0:(a.tmps[36]?.getD undef)=.agg #[.slice ua un uc,.slice va vn vc,.slice ya yn yc,.slice za zn zc]:=DV Hd HL 0;have d1:(a.tmps[37]?.getD undef)=.int .i64 fr:=DV Hd HL 1;have d2:(a.tmps[38]?.getD undef)=.int .i64 j:=DV Hd HL 2;have cz:(a.tmps[47]?.getD undef)=.int .i64 wd:=DV Hd HL 11;have ce:=Ba HL 17;clear Hd Hb;refine yE ?_;go_simp;have ct:Below wr.heap.size wr wx:=by
       rw[show ll 17=false from(by cases hx:ll 17 with|false=>rfl|true=>exact absurd (HL.out.2.2 13 12 (HL.out.2.2 14 13 (HL.out.2.2 17 14 (hx) (by kernel_rfl)) (by kernel_rfl)) (by kernel_rfl)) (by rw[HL.out.1];decide))] at hG;exact hG
      refine(CM.out _ ct).mono ?_;rintro r w_ ⟨m',i',e',c',rfl,hO,bf⟩;exact HK.out _ _ ⟨m',i',e',c',rfl,hO.lower ct.size⟩ bf
     |13,_,_=>obtain rfl:=yF ho;have cb:Ei wr.heap.size (a.tmps[48]?.getD undef) wx a0 bl br1:=DV Hd HL 12;have ce:=Ba HL 17;clear Hd Hb;refine yE ?_;go_simp;exact HK.out _ _ cb (yD _ _)
     |14,_,_=>obtain rfl:=yF ho;have cy:Ei wr.heap.size (a.tmps[35]?.getD undef) wx a0 bl br1:=DV Hd HL 13;have ce:=Ba HL 17;clear Hd Hb;obtain⟨m',i',e',c',cy,hO⟩:=cy;refine yE ?_;go_simp;exact HK.out _ _ ⟨_,_,_,_,rfl,hO⟩ (yD _ _)
     |15,_,_|16,_,_=>obtain rfl:=yF ho;have cy:Ei wr.heap.size (a.tmps[35]?.getD undef) wx a0 bl br1:=DV Hd HL 13;clear Hd Hb;obtain⟨m',i',e',c',cy,hO⟩:=cy;refine yE ?_;go_simp;exact HK.out _ _ rfl (yD _ _)
     |_+18,hq,_=>omega
    .intro i hi hS o ho a wx Hb ll Hd HL hG K HK
     match i,hi,hS with
     |0,_,hs|1,_,hs|2,_,hs|3,_,hs|4,_,hs|5,_,hs|6,_,hs|7,_,hs|8,_,hs|9,_,hs|10,_,hs|11,_,hs|12,_,hs|13,_,hs|14,_,hs|15,_,hs|16,_,hs=>cases hs
     |17,_,_=>
      obtain rfl:=yF ho;have e6:a.tmps[6]?.getD undef=.pointer (some ⟨qk,0,none⟩):=eg (Oj Hb 6);have ge:Ga wr.heap.size (a.tmps[49]?.getD undef) wx a0:=DV Hd HL 14;clear Hd Hb;rw[HL.out.1] at hG;replace hG:Below wr.heap.size wr wx:=hG;obtain⟨m',i',e',c',ge,hO⟩:=ge;obtain⟨⟨va,vn,vc,rfl⟩,⟨wa,wn,wc,rfl⟩,⟨xa,xn,xc,rfl⟩,⟨ya,yn,yc,rfl⟩⟩:=hO.zQ;have am:=AC a1 hG;obtain⟨c0,ds,c2,c3⟩:=AG am;have fq:=AK am;have ac:=AA (Ao wx (qk) (.slice va vn vc) (.slice wa wn wc) (.slice xa xn xc) (.slice ya yn yc));have Hq:=AA am;have HO:=AA hO;clear am hO;refine yE ?_;go_simp;exact HK.out undef _ trivial (by show GB _ _ _ (GP ll 17 17) _;rw[Gk];exact⟨wx,_,_,_,_,hG,HO.out,yD _ _⟩) (λj cq cJ dO hu=>match j,cJ with
       |0,_|1,_|2,_|3,_|4,_|5,_|6,_|7,_|8,_|9,_|10,_|11,_|15,_|16,_=>hu
       |12,_|13,_=>Ei.yL hu ac.out Hq.out
       |14,_=>Ga.yL hu ac.out Hq.out
       |17,_=>absurd rfl cq
       |_+18,hq=>absurd hq (by omega))
     |_+18,hq,_=>omega
    .intro vs wx ll ax hR hG
     have cY:(vs 15)=.int .i64 bl:=BW hR 15;clear hR;simp only[De,Bb,yC,yz,yy,yw,cY];simp;clear cY;rw[ax 17 (by decide)] at hG;obtain⟨wz,m3,i3,e3,c3,ar,hO,bz⟩:=hG;have ae:Below (Ex wz qk m3 i3 e3 c3).heap.size (Ex wz qk m3 i3 e3 c3) wx:=by simpa[Ex] using bz
     have I7:=AA ((dB.out.put ar hO).below ae);have l6:=dB.out.yJ.2.2;have B7:=AA (dC.out.trans ((AM (ar.mono l6) (Ao wz qk m3 i3 e3 c3) dB.out.yJ.2.1 (yB l6 ar.size):Below lo wr _).trans (ae.mono (yB l6 (yB ar.size (Ao wz qk m3 i3 e3 c3).size)))));have X7:=AA (AC (Ap (AC eX.out ar) (Ao wz qk m3 i3 e3 c3) nx.symm) ae);have T7:=AA (((gl.out.below ar).other (Ao wz qk m3 i3 e3 c3) (AC a1 ar) (by decide)).below ae);clear ax ar bz ae hO a1 a3 n0 n1 n2 n3 CM dB eX dC x4 dH eh DS DW;go_wp2_with fail;go_roundw
     case rel=>exact⟨j+1,by omega,by go_num,⟨_,_,_,_,by rw[eZ.out];exact I7.out⟩,X7.out,B7.out,T7.out⟩
     case measure=>simp[intOf];omega
   obtain rfl:j=4:=by omega
   rw[show((4:Nat):Int)=4 from rfl];have X:=I5.swap (r:=[]) HP.out.zD (AE wr (.cells #[] 3)) (Ev wr) bi;have I6:=AA X.1;have B6:=AA (AM (B5.trans ((AE wr (.cells #[] 3)).mono I5.yJ.2.2)) X.2.1 X.2.2 (yB I5.yJ.2.2 (AE wr (.cells #[] 3)).size));have gx:=AA (Kb fb.out (f:=fr) (ws:=AH P.swap sl) 4);have D4:=((AE wr (.cells #[] 3)).cell (yA _ _ DS)).trans DS;have F4:=xN (show(wr.alloc (.cells #[] 3)).ownsRow lo 29 1 (.slice (some ⟨gs,0,none⟩) 16 sc) 16 cO by have:=(ai.below (AE wr (.cells #[] 3))).1;unfold AQ at this;rwa [Gg,a6] at this) sl;obtain⟨eT,a9⟩:=A6 (ai.below (AE wr (.cells #[] 3))).1 gs rfl;have T6:=AA ((gl.out.below (AE wr (.cells #[] 3))).other X.2.1 a9 (by decide));generalize hW6:World.setCell _ _ _=W6 at I6 B6 T6;clear X ai hu bu a6 I5 cP B5 hj dB eX dC;go_wp2_with fail;clear D4 F4 DS x4 dH eh hW6;have hQ:QQ_= {P with zV:=(Ad (GY k1 fr (AH P.swap sl) 4) (Ah 6 la (tb:Int) (Hh fr))).1,swap:=P.swap.set sl [],zY:=P.zY.set n ⟨1,fr,true⟩}:=HQ.out;clear HQ;obtain⟨mk,ik,ek,ck,I6⟩:∃mk ik ek ck,Hid (VE lo g qk W6 (.slice ma mn mc) (.slice ia iN ic) (.slice ea en ec) (.slice ka kn kc) (.slice (some ⟨gs,0,none⟩) 16 sc) (.slice dc da lc) (.slice (some ⟨gq,0,none⟩) 16 qc) ⟨P.zV,P.swap.set sl [],P.low,P.zY,P.zR,P.zU⟩ mk ik ek ck (GY k1 fr (AH P.swap sl) 4)):=⟨_,_,_,_,I6⟩
   generalize GY k1 fr (AH P.swap sl) 4=K2 at*;generalize P.swap.set sl []=S2 at*
 rotate_left
 focus
  have a2:=dZ.out;rw[if_neg dd,if_neg dd] at a2;have t2:(pw==2)=false:=by simp[dd]
  have HQ:=AA a2;have gx:=fb;have I6:=I4;have B6:=bx;have T6:=dX;obtain⟨dH,_,_⟩:=Fx ed.out;clear a2 dZ dd I4 bx dX;refine wp_loop_rounds 1 ?_;rw[rounds_succ];go_wp2_with fail;obtain⟨W6,rfl⟩:∃W6,W6=W3:=⟨_,rfl⟩
  clear dH;have hQ:QQ_= {P with zV:=(Ad (k1) (Ah 6 la (tb:Int) (Hh fr))).1,swap:=P.swap,zY:=P.zY.set n ⟨1,fr,true⟩}:=HQ.out;clear HQ;obtain⟨mk,ik,ek,ck,I6⟩:∃mk ik ek ck,Hid (VE lo g qk W6 (.slice ma mn mc) (.slice ia iN ic) (.slice ea en ec) (.slice ka kn kc) (.slice (some ⟨gs,0,none⟩) 16 sc) (.slice dc da lc) (.slice (some ⟨gq,0,none⟩) 16 qc) ⟨P.zV,P.swap,P.low,P.zY,P.zR,P.zU⟩ mk ik ek ck (k1)):=⟨_,_,_,_,I6⟩
  obtain⟨K2,rfl⟩:∃K2,K2=k1:=⟨_,rfl⟩
  generalize P.swap=S2 at hQ I6
 all_goals
  obtain⟨⟨⟨ua,un,uc,rfl⟩,⟨va,vn,vc,rfl⟩,⟨ya,yn,yc,rfl⟩,⟨za,zn,zc,rfl⟩⟩,_,_⟩:=I6.out.own.zQ;obtain⟨lb,gZ,dr,ca,DL⟩:=JZ I6.out.own.low (j:=ta) (by show ta<P.low.length;rw[gh.out];exact eF);replace dr:xF dc da lc=.slice (some ⟨lb,0,none⟩) P.low.length gZ:=dr;rw[gh.out] at dr;simp only[Value.slice.injEq] at dr;obtain⟨rfl,rfl,rfl⟩:=dr;replace DL:W6.cell? ⟨lb,ta,none⟩=some (.int .i64 (BJ P.low ta)):=DL;rw[iC.out] at DL;have nl:lb≠qk:=by obtain⟨cu,be⟩:=A6 I6.out.own.low lb rfl;exact Bp be I6.out.kb
  have ng:g≠qk:=Bp I6.out.box I6.out.kb;have eE:=AW I6.out.box;have a1:=I6.out.kb;have a3:=AW a1;obtain⟨n0,n1,n2,n3⟩:=AG a1;obtain⟨_,_,_,_,_,x5,_,_,_⟩:=AD I6.out.box;have he:Hh fr<=9223372036854775807:=by have:=dv.out;unfold Hh;omega
  have CP:=AA (λW=>Lp fr W dv.out.1 dv.out.2);have RK:Ma W6 _ _ _ _ (K2):=I6.out.own.ker.rd;have CM:=λW (hW:Below W6.heap.size W6 W)=>FR (RK.below hW) gx.out 6 la (tb:Int) (Hh fr) he
  generalize Hh fr=en_ at he CP CM hQ;generalize Ad (K2) (Ah 6 la (tb:Int) en_)=res2 at CM hQ;obtain⟨cl,cG,gT⟩:=res2;unfold KL at CM;dsimp only at CM hQ;have HQ:=AA hQ;clear hQ;generalize(gT==0)=br2 at CM;replace CM:=AA CM;clear RK he;go_wp2_with fail;refine EB 17 86 (λix=>ix==16) [.a #[.slice ua un uc,.slice va vn vc,.slice ya yn yc,.slice za zn zc],.p g 5,.s lb 4 lc,.i ((n:Int)),.i ((ta:Int)),.p lb ta,.i la,.i ((n:Int)),.i ((tb:Int)),.i fr,.i en_,.z,.z,.z,.i cG,.b br2,.z] (λll ix vv ww=>match ix with
   |11|12=>Ei W6.heap.size vv ww cl cG br2
   |13=>Ga W6.heap.size vv ww cl
   |_=>True) (λll ww=>GB W6 (qk) cl (ll 16) ww) ?_ ?_ ?_ ?_ ?_ ?_
  .exact A8 (yD _ _) 1
  .intro j hj ll i vv wz bs hi hS cL eH al hz
   match j,hj with
   |11,_|12,_=>exact(Ei.below hz al)
   |13,_=>exact(Ga.below hz al)
   |0,_|1,_|2,_|3,_|4,_|5,_|6,_|7,_|8,_|9,_|10,_|14,_|15,_|16,_=>exact hz
   |_+17,hq=>omega
  .intro ll i wz bs hi hS cL al hg
   show GB _ _ _ (GP ll i 16) _
   rw[GH (by rintro rfl;cases hS)];exact GB.grow hg al
  .intro i hi hS o ho a wx Hb ll Hd HL hG K HK
   match i,hi,hS with
   |0,_,_=>have a5:=Ba HL 16;have a8:=(show wx.cell? ⟨qk,0,none⟩=some (.slice ua un uc) from GB.cell hG (by cases hx:ll 16 with|false=>rfl|true=>exact absurd (HL.out.2.2 11 0 (HL.out.2.2 12 11 (HL.out.2.2 13 12 (HL.out.2.2 16 13 (hx) (by kernel_rfl)) (by kernel_rfl)) (by kernel_rfl)) (by kernel_rfl)) (by rw[HL.out.1];decide)) a3 n0);have az:=(show wx.cell? ⟨qk,1,none⟩=some (.slice va vn vc) from GB.cell hG (by cases hx:ll 16 with|false=>rfl|true=>exact absurd (HL.out.2.2 11 0 (HL.out.2.2 12 11 (HL.out.2.2 13 12 (HL.out.2.2 16 13 (hx) (by kernel_rfl)) (by kernel_rfl)) (by kernel_rfl)) (by kernel_rfl)) (by rw[HL.out.1];decide)) a3 n1);have a7:=(show wx.cell? ⟨qk,2,none⟩=some (.slice ya yn yc) from GB.cell hG (by cases hx:ll 16 with|false=>rfl|true=>exact absurd (HL.out.2.2 11 0 (HL.out.2.2 12 11 (HL.out.2.2 13 12 (HL.out.2.2 16 13 (hx) (by kernel_rfl)) (by kernel_rfl)) (by kernel_rfl)) (by kernel_rfl)) (by rw[HL.out.1];decide)) a3 n2);have bt:=(show wx.cell? ⟨qk,3,none⟩=some (.slice za zn zc) from GB.cell hG (by cases hx:ll 16 with|false=>rfl|true=>exact absurd (HL.out.2.2 11 0 (HL.out.2.2 12 11 (HL.out.2.2 13 12 (HL.out.2.2 16 13 (hx) (by kernel_rfl)) (by kernel_rfl)) (by kernel_rfl)) (by kernel_rfl)) (by rw[HL.out.1];decide)) a3 n3);exact Nl ho HK Hb Hd HL (hl:=Np ‹_› ‹_› ‹_› ‹_›)
   |1,_,_|3,_,_|7,_,_|9,_,_=>exact Wg ho HK Hb Hd HL
   |2,_,_=>have a5:=Ba HL 16;have cg:=(show wx.cell? ⟨g,5,none⟩=some (.slice (some ⟨lb,0,none⟩) 4 lc) from GB.other hG eE ng x5);exact Nl ho HK Hb Hd HL (hl:=J5 ‹_›)
   |6,_,_=>have a5:=Ba HL 16;have cf:=(show wx.cell? ⟨lb,ta,none⟩=some (.int .i64 la) from GB.other hG ca nl DL);exact Nl ho HK Hb Hd HL (hl:=Fp ‹_›)
   |16,_,hs=>cases hs
   |4,_,_=>obtain rfl:=yF ho;have d3:(a.tmps[65]?.getD undef)=.int .i64 n:=DV Hd HL 3;have a5:=Ba HL 16;clear Hd Hb;refine yE ?_;go_simp;exact HK.out _ _ (by show yf .i64 (IntKind.i64.wrap (ta:Int))=.int .i64 ta;rw[IntWalk.i64_in _ (by omega)]) (yD _ _)
   |5,_,_=>obtain rfl:=yF ho;have d2:(a.tmps[64]?.getD undef)=.slice (some ⟨lb,0,none⟩) 4 lc:=DV Hd HL 2;have d4:(a.tmps[66]?.getD undef)=.int .i64 ta:=DV Hd HL 4;have a5:=Ba HL 16;clear Hd Hb;refine yE ?_;go_simp;exact HK.out _ _ rfl (yD _ _)
   |8,_,_=>obtain rfl:=yF ho;have d7:(a.tmps[69]?.getD undef)=.int .i64 n:=DV Hd HL 7;have a5:=Ba HL 16;clear Hd Hb;refine yE ?_;go_simp;exact HK.out _ _ (by show yf .i64 (Int.tmod (n:Int) 4)=.int .i64 tb;rw[wy (by omega)];exact congrArg _ q2) (yD _ _)
   |10,_,_=>obtain rfl:=yF ho;have d9:(a.tmps[71]?.getD undef)=.int .i64 fr:=DV Hd HL 9;have a5:=Ba HL 16;clear Hd Hb;refine yE ?_;go_simp;refine(CP.out _).mono ?_;rintro r w_ ⟨rfl,bf⟩;exact HK.out _ _ rfl bf
   |11,_,_=>
    obtain rfl:=yF ho;have d0:(a.tmps[62]?.getD undef)=.agg #[.slice ua un uc,.slice va vn vc,.slice ya yn yc,.slice za zn zc]:=DV Hd HL 0;have d6:(a.tmps[68]?.getD undef)=.int .i64 la:=DV Hd HL 6;have d8:(a.tmps[70]?.getD undef)=.int .i64 tb:=DV Hd HL 8;have dQ:(a.tmps[72]?.getD undef)=.int .i64 en_:=DV Hd HL 10;have a5:=Ba HL 16;clear Hd Hb;refine yE ?_;go_simp;have ct:Below W6.heap.size W6 wx:=by
     rw[show ll 16=false from(by cases hx:ll 16 with|false=>rfl|true=>exact absurd (HL.out.2.2 12 11 (HL.out.2.2 13 12 (HL.out.2.2 16 13 (hx) (by kernel_rfl)) (by kernel_rfl)) (by kernel_rfl)) (by rw[HL.out.1];decide))] at hG;exact hG
    refine(CM.out _ ct).mono ?_;rintro r w_ ⟨m',i',e',c',rfl,hO,bf⟩;exact HK.out _ _ ⟨m',i',e',c',rfl,hO.lower ct.size⟩ bf
   |12,_,_=>obtain rfl:=yF ho;have cz:Ei W6.heap.size (a.tmps[73]?.getD undef) wx cl cG br2:=DV Hd HL 11;have a5:=Ba HL 16;clear Hd Hb;refine yE ?_;go_simp;exact HK.out _ _ cz (yD _ _)
   |13,_,_=>obtain rfl:=yF ho;have cb:Ei W6.heap.size (a.tmps[61]?.getD undef) wx cl cG br2:=DV Hd HL 12;have a5:=Ba HL 16;clear Hd Hb;obtain⟨m',i',e',c',cb,hO⟩:=cb;refine yE ?_;go_simp;exact HK.out _ _ ⟨_,_,_,_,rfl,hO⟩ (yD _ _)
   |14,_,_|15,_,_=>obtain rfl:=yF ho;have cb:Ei W6.heap.size (a.tmps[61]?.getD undef) wx cl cG br2:=DV Hd HL 12;clear Hd Hb;obtain⟨m',i',e',c',cb,hO⟩:=cb;refine yE ?_;go_simp;exact HK.out _ _ rfl (yD _ _)
   |_+17,hq,_=>omega
  .intro i hi hS o ho a wx Hb ll Hd HL hG K HK
   match i,hi,hS with
   |0,_,hs|1,_,hs|2,_,hs|3,_,hs|4,_,hs|5,_,hs|6,_,hs|7,_,hs|8,_,hs|9,_,hs|10,_,hs|11,_,hs|12,_,hs|13,_,hs|14,_,hs|15,_,hs=>cases hs
   |16,_,_=>
    obtain rfl:=yF ho;have e6:a.tmps[6]?.getD undef=.pointer (some ⟨qk,0,none⟩):=eg (Oj Hb 6);have cy:Ga W6.heap.size (a.tmps[74]?.getD undef) wx cl:=DV Hd HL 13;clear Hd Hb;rw[HL.out.1] at hG;replace hG:Below W6.heap.size W6 wx:=hG;obtain⟨m',i',e',c',cy,hO⟩:=cy;obtain⟨⟨va,vn,vc,rfl⟩,⟨wa,wn,wc,rfl⟩,⟨xa,xn,xc,rfl⟩,⟨ya,yn,yc,rfl⟩⟩:=hO.zQ;have am:=AC a1 hG;obtain⟨c0,ds,c2,c3⟩:=AG am;have fq:=AK am;have ac:=AA (Ao wx (qk) (.slice va vn vc) (.slice wa wn wc) (.slice xa xn xc) (.slice ya yn yc));have Hq:=AA am;have HO:=AA hO;clear am hO;refine yE ?_;go_simp;exact HK.out undef _ trivial (by show GB _ _ _ (GP ll 16 16) _;rw[Gk];exact⟨wx,_,_,_,_,hG,HO.out,yD _ _⟩) (λj cq cJ dO hu=>match j,cJ with
     |0,_|1,_|2,_|3,_|4,_|5,_|6,_|7,_|8,_|9,_|10,_|14,_|15,_=>hu
     |11,_|12,_=>Ei.yL hu ac.out Hq.out
     |13,_=>Ga.yL hu ac.out Hq.out
     |16,_=>absurd rfl cq
     |_+17,hq=>absurd hq (by omega))
   |_+17,hq,_=>omega
  .intro vs wx ll ax hR hG
   have cZ:(vs 14)=.int .i64 cG:=BW hR 14;clear hR;simp only[De,Bb,yC,yz,yy,yw,cZ];simp;clear cZ;rw[ax 16 (by decide)] at hG;obtain⟨wz,m3,i3,e3,c3,ar,hO,bz⟩:=hG;have ae:Below (Ex wz qk m3 i3 e3 c3).heap.size (Ex wz qk m3 i3 e3 c3) wx:=by simpa[Ex] using bz
   have I7:=(I6.out.put ar hO).below ae;have l6:=I6.out.yJ.2.2;have B7:=B6.out.trans ((AM (ar.mono l6) (Ao wz qk m3 i3 e3 c3) I6.out.yJ.2.1 (yB l6 ar.size):Below lo W6 _).trans (ae.mono (yB l6 (yB ar.size (Ao wz qk m3 i3 e3 c3).size))));have T7:=((T6.out.below ar).other (Ao wz qk m3 i3 e3 c3) (AC I6.out.kb ar) (by decide)).below ae;obtain⟨⟨⟨gW,gV,bt,rfl⟩,⟨g6,g7,g5,rfl⟩,⟨im,ij,il,rfl⟩,⟨g3,g0,g2,rfl⟩⟩,_,_⟩:=I7.own.zQ;clear ax ar bz ae hO a1 a3 n0 n1 n2 n3 CM CP x5 DL nl ng ca I6 B6;have X8:=I7.back;have B8:=AM B7 X8.2.2 I7.yJ.1 I7.yJ.2.2;have l8:=yB I7.yJ.2.2 X8.2.2.size;have N8:=X8.2.1;have T8:=T7.fresh X8.2.2 (by have:=Hg.out;omega);have I8:=X8.1;obtain⟨d0,d1,d2,d3⟩:=AG I7.kb;obtain⟨t0,t1,t2,t3,_⟩:=AD I7.box;have ft:=AK I7.box;clear X8;unfold Ex at I8 B8 N8 l8 T8;generalize hW8:(((wx.setCell _ _).setCell _ _).setCell _ _).setCell _ _=W8 at I8 N8 B8 l8 T8;obtain⟨_,_,_,_,_,_,s6,_,_⟩:=I8.cells;obtain⟨hC,f8,p0,p1,p2⟩:=I8.pg (n:=n) cM.out;have I9:=I8.zp (n:=n) dU.out.symm cM.out ⟨1,fr,true⟩;have N9:=Ap N8 I9.2.1 (by obtain⟨cu,be⟩:=A6 I8.own.pgs gq rfl;exact(Bp be N8));have B9:=AM B8 I9.2.1 I9.2.2 l8;have l9:=yB l8 I9.2.1.size;obtain⟨eT,a9⟩:=A6 I8.own.pgs gq rfl;have T9:=T8.other I9.2.1 a9 (by decide);have I9:=I9.1;generalize hW9:((W8.setCell _ _).setCell _ _).setCell _ _=W9 at I9 N9 B9 l9 T9;have e4:=AA T9;have eV:=AA (DF N9 I9.own);obtain⟨x0,x1,x2,x3,x4,x5,x6,x7,x8⟩:=I9.cells;obtain⟨r0,r1,r2,r3,r4,r5,r6,r7,r8⟩:=AD N9;have jd:=AK N9;have fd:=AA B9;have e0:=AA l9;have iE:=AA I9.yJ;clear I7 I8 N8 B8 l8 I9 N9 B9 l9 B7 l6 T7 T8 T9 T6;obtain⟨cW,cc,bm⟩:=eV.out;have cd:=AM fd.out bm (by have:=iE.out;omega) e0.out;have cV:=e4.out.fresh bm (by have:=Hg.out;omega);unfold Ew at cW cc cd cV;have dY:=Yk HQ.out cc cd cV;unfold Tz AO at dY;dsimp only at dY;have HR:=AA dY;have HE:=AA (AD cW);clear cW cc bm cd cV dY;go_wp2_with ((try simp only[Exit.inBlock,Exit.then]);with_reducible refine yk (v:=.tuple #[.agg #[.slice gW gV bt,.slice g6 g7 g5,.slice im ij il,.slice g3 g0 g2,.slice (some ⟨gs,0,none⟩) 16 sc,.slice (some ⟨lb,0,none⟩) 4 lc,.slice (some ⟨gq,0,none⟩) 16 qc,.int .i64 P.zR,.int .i64 P.zU],.bool true]) ?_ rfl HR.out);obtain⟨E0,E1,E2,E3,E4,E5,E6,E7,E8⟩:=HE.out;simp[results,Tryz.results92,go_sem,E0,E1,E2,E3,E4,E5,E6,E7,E8]
end Go.Proofs.YtpdjjjdkhedibaaGreatDoor
