/-
  Packed: 4 texts.
-/
import Derived.Test.YtjacdlekgdnndaaGreatDoorY11
import Derived.Test.YtjacdlekgdnndaaGreatDoorY6
import Derived.Test.YtjacdlekgdnndaaGreatDoorY12
import Derived.Test.YtjacdlekgdnndaaGreatDoorY3
import Derived.Test.YtjacdlekgdnndaaGreatDoorY2
import Derived.Lib.LaidTab
import Derived.Lib.LaidU8
import Derived.LaidLaws
import Derived.Handed
set_option linter.unusedVariables false
namespace Go.Proofs.YtjacdlekgdnndaaGreatDoor
open Go.RowKit
theorem kok_small {k : KernV} (h : KOk k) : SmallK k := by
 refine ⟨fun x hx => ?_, fun j hj => small_rights (h.rights j (by rw [h.envl] at hj; exact hj))⟩
 obtain ⟨f, hf⟩ := List.getElem?_of_mem hx
 have hl := (List.getElem?_eq_some_iff.1 hf).1
 rw [h.len] at hl
 have hi := h.inf f hl
 have e : infoAt k.infos f = x := by unfold infoAt; rw [List.getD_eq_getElem?_getD, hf]; rfl
 rw [e] at hi
 rcases hi with ⟨_, g⟩ | ⟨_, _, g⟩
 ·rw [g]; exact Nat.zero_le _
 ·unfold rightOk at g
  rw [Bool.and_eq_true, decide_eq_true_eq] at g
  have := g.2
  unfold maxLen
  omega
def kStep (st : KernV × List Int) (c : CallV) : KernV × List Int := if inB c.e 0 2 = true then ((callP st.1 c).1, st.2 ++ [(callP st.1 c).2.2]) else (st.1, st.2 ++ [5])
def kPlay (k : KernV) (cs : List CallV) : KernV × List Int := cs.foldl kStep (k, [])
theorem kPlay_next {k : KernV} {cs : List CallV} {j : Nat} {c : CallV} (h : cs[j]? = some c) : kPlay k (cs.take (j + 1)) = kStep (kPlay k (cs.take j)) c := by rw [take_one h]; simp [kPlay]
theorem kStep_ok {st : KernV × List Int} (h : KOk st.1) (c : CallV) : KOk (kStep st c).1 ∧ (kStep st c).2.length = st.2.length + 1 := by
 unfold kStep
 split
 ·next he => exact ⟨callP_ok h (by have := inB_iff.1 he; omega), by simp⟩
 ·exact ⟨h, by simp⟩
theorem kPlay_ok {k : KernV} (h : KOk k) (cs : List CallV) : KOk (kPlay k cs).1 ∧ (kPlay k cs).2.length = cs.length := by
 have : ∀ (cs : List CallV) (st : KernV × List Int), KOk st.1 → KOk (cs.foldl kStep st).1 ∧ (cs.foldl kStep st).2.length = st.2.length + cs.length := by
  intro cs
  induction cs with
  | nil => intro st h; exact ⟨h, by simp⟩
  | cons c cs ih =>
   intro st h
   obtain ⟨h1, h2⟩ := kStep_ok h c
   obtain ⟨h3, h4⟩ := ih _ h1
   refine ⟨h3, ?_⟩
   rw [List.foldl_cons, h4, h2, List.length_cons]; omega
 have := this cs (k, []) h
 exact ⟨this.1, by rw [show (kPlay k cs).2.length = _ from this.2]; simp⟩
def KRdCalls (w : World) (v : Value) (xs : List CallV) : Prop := ∃ a cap, v = .slice a xs.length cap ∧ xs.length ≤ cap ∧ cap ≤ maxLen ∧ AtF 6 (fun x : CallV => [.int .i64 x.k, .int .i64 x.e, .int .i64 x.a, .int .i64 x.b, .int .i64 x.c, .string x.nm]) w a xs
theorem KSix {w w' : World} {a : Option Addr} {xs : List CallV} (h : AtF 6 (fun x : CallV => [.int .i64 x.k, .int .i64 x.e, .int .i64 x.a, .int .i64 x.b, .int .i64 x.c, .string x.nm]) w a xs) (hb : Below w.heap.size w w') {k : Nat} {x : CallV} (hk : xs[k]? = some x) :
 ∃ b off, a = some ⟨b, off, none⟩ ∧ w'.cell? ⟨b, off + k * 6, none⟩ = some (.int .i64 x.k) ∧ w'.cell? ⟨b, off + k * 6 + 1, none⟩ = some (.int .i64 x.e) ∧ w'.cell? ⟨b, off + k * 6 + 2, none⟩ = some (.int .i64 x.a) ∧ w'.cell? ⟨b, off + k * 6 + 3, none⟩ = some (.int .i64 x.b) ∧ w'.cell? ⟨b, off + k * 6 + 4, none⟩ = some (.int .i64 x.c) ∧ w'.cell? ⟨b, off + k * 6 + 5, none⟩ = some (.string x.nm) := by
 obtain ⟨b, off, rfl, hlt, hc⟩ := h.below hb k x hk
 exact ⟨b, off, rfl, hc 0 _ rfl, hc 1 _ rfl, hc 2 _ rfl, hc 3 _ rfl, hc 4 _ rfl, hc 5 _ rfl⟩
structure KSt (lo g : Nat) (o : Value) (st : KernV × List Int) (w wr : World) (m i e c : Value) : Prop where
 blk : wr.heap[g]? = some (.cells #[m, i, e, c] 33 (0, 0))
 glo : lo ≤ g
 ker : ∃ vs, OwnRows lo wr m vs st.1.mem ∧ ∀ v ∈ vs, Apart o v
 inf : OwnF lo 89 3 infoCs wr i st.1.infos
 env : ∃ ps, OwnEnvs lo wr e ps st.1.envs
 cac : OwnF lo 94 4 cachedCs wr c st.1.cache
 out : OwnInts lo wr o st.2
 bel : Below lo w wr
 lo : lo ≤ wr.heap.size
section
variable {lo g : Nat} {o m i e c : Value} {st : KernV × List Int} {w wr w' : World}
theorem KSt.below (h : KSt lo g o st w wr m i e c) (hb : Below wr.heap.size wr w') : KSt lo g o st w w' m i e c := by
 obtain ⟨vs, h1, h2⟩ := h.ker
 obtain ⟨ps, h3⟩ := h.env
 exact ⟨blk_below h.blk hb, h.glo, ⟨vs, h1.below hb, h2⟩, h.inf.below hb, ⟨ps, h3.below hb⟩, h.cac.below hb, h.out.below hb, h.bel.trans (hb.mono h.lo), Nat.le_trans h.lo hb.size⟩
theorem KSt.own (h : KSt lo g o st w wr m i e c) : OwnK lo wr m i e c st.1 := by
 obtain ⟨vs, h1, _⟩ := h.ker
 exact ⟨⟨vs, h1⟩, h.inf, h.env, h.cac⟩
theorem KSt.start {k : KernV} {w2 : World} (O : OwnK lo w2 m i e c k) (hb : Below lo w w2) (hl : lo ≤ w2.heap.size) : KSt lo w2.heap.size (.slice none 0 0) (k, []) w (w2.alloc (.cells #[m, i, e, c] 33)) m i e c := by
 have b3 := below1 w2 (.cells #[m, i, e, c] 33)
 obtain ⟨⟨vs, h1⟩, h2, ⟨ps, h3⟩, h4⟩ := O.below b3
 exact ⟨heap_alloc_new _ _, hl, ⟨vs, h1, fun v hv b hb' => by simp [Value.ownBlock] at hb'⟩, h2, ⟨ps, h3⟩, h4, World.ownsRow_nil _ _ _ _, hb.trans (b3.mono hl), Nat.le_trans hl b3.size⟩
theorem KSt.put {m' i' e' c' : Value} {k' : KernV} (h : KSt lo g o st w wr m i e c) {w1 : World} (hb : Below wr.heap.size wr w1) (O : OwnK wr.heap.size w1 m' i' e' c' k') :
 KSt lo g o (k', st.2) w ((((w1.setCell ⟨g, 0, none⟩ m').setCell ⟨g, 1, none⟩ i').setCell ⟨g, 2, none⟩ e').setCell ⟨g, 3, none⟩ c') m' i' e' c' := by
 have h' := h.below hb
 have hgr := set4_grown w1 g m' i' e' c'
 obtain ⟨⟨vs, h1⟩, h2, ⟨ps, h3⟩, h4⟩ := O
 refine ⟨blk_set4 h'.blk, h.glo, ⟨vs, (h1.far hgr h'.blk (by decide) (by decide)).lower h.lo, fun v hv b hb1 hb2 => ?_⟩, (h2.far hgr h'.blk (by decide)).lower h.lo, ⟨ps, (h3.far hgr h'.blk (by decide) (by decide)).lower h.lo⟩, (h4.far hgr h'.blk (by decide)).lower h.lo, own_far h'.out hgr h'.blk (by decide), below_grown h'.bel hgr h.glo h'.lo, Nat.le_trans h'.lo hgr.size⟩
 obtain ⟨j, hj⟩ := List.getElem?_of_mem hv
 have hlen := h1.2.1.1
 obtain ⟨x, hx⟩ : ∃ x, k'.mem[j]? = some x := ⟨_, List.getElem?_eq_getElem (by rw [← hlen]; exact (List.getElem?_eq_some_iff.1 hj).1)⟩
 have := (World.ownsRow.lt (h1.2.1.2 j v x hj hx) b hb2).1
 have := (World.ownsRow.lt h.out b hb1).2
 omega
theorem KSt.push {o' : Value} {x : Int} (h : KSt lo g o st w wr m i e c) (h1 : w'.ownsRow lo 3 1 o' (st.2.length + 1) (st.2.map (Value.int .i64) ++ [.int .i64 x])) (h2 : wr.grownBy w' o.ownBlock) (h3 : o'.ownBlock = o.ownBlock ∨ o'.ownBlock = some wr.heap.size) (h4 : Below lo wr w') :
 KSt lo g o' (st.1, st.2 ++ [x]) w w' m i e c := by
 obtain ⟨vs, r1, r2⟩ := h.ker
 obtain ⟨ps, r3⟩ := h.env
 have hne := own_row_ne h.out h.blk (by decide)
 refine ⟨(h2.block g (blk_lt h.blk) (fun e => hne e.symm)).trans h.blk, h.glo, ⟨vs, ⟨own_grown r1.1 h2 (apart_type r1.1 h.out (by decide)).ne, ?_, r1.2.2⟩, ?_⟩, own_grown h.inf h2 (apart_type h.inf h.out (by decide)).ne, ⟨ps, own_grown r3.1 h2 (apart_type r3.1 h.out (by decide)).ne, r3.2.1.mono fun _ _ x => ⟨own_grown x.1 h2 (apart_type x.1 h.out (by decide)).ne, x.2⟩, r3.2.2⟩, own_grown h.cac h2 (apart_type h.cac h.out (by decide)).ne, by simpa [OwnInts] using h1, h.bel.trans h4, Nat.le_trans h.lo h4.size⟩
 ·refine ⟨r1.2.1.1, fun j u y hu hy => own_grown (r1.2.1.2 j u y hu hy) h2 ?_⟩
  exact (r2 u (List.mem_of_getElem? hu)).symm.ne
 ·intro v hv
  obtain ⟨j, hj⟩ := List.getElem?_of_mem hv
  obtain ⟨y, hy⟩ : ∃ y, st.1.mem[j]? = some y := ⟨_, List.getElem?_eq_getElem (by rw [← r1.2.1.1]; exact (List.getElem?_eq_some_iff.1 hj).1)⟩
  exact (r2 v hv).grown h3 (fun b hb => (World.ownsRow.lt (r1.2.1.2 j v y hj hy) b hb).2)
end
theorem two_blocks (w : World) (a b : Obj) : ((w.alloc a).alloc b).heap[w.heap.size]? = some a ∧ ((w.alloc a).alloc b).heap[w.heap.size + 1]? = some b ∧ Below w.heap.size w ((w.alloc a).alloc b) ∧ ((w.alloc a).alloc b).heap.size = w.heap.size + 2 := by
 have h1 := heap_alloc_new w a
 have h2 := heap_alloc_new (w.alloc a) b
 have h4 := blk_below h1 (below1 _ b)
 simp only [World.size_alloc] at h2
 exact ⟨h4, h2, below2 w a b, by simp⟩
def PlayRes (w : World) (r : KernV × List Int) (e : Ending) (w' : World) : Prop := ∃ m i ev c v, e = .returned (.tuple #[.agg #[m, i, ev, c], v]) ∧ OwnK w.heap.size w' m i ev c r.1 ∧ OwnInts w.heap.size w' v r.2 ∧ Below w.heap.size w w'
set_option maxRecDepth 100000 in
set_option maxHeartbeats 4000000 in
theorem KernelPlay_any (m i e c v : Value) (k : KernV) (cs : List CallV) (w : World) (h : RdK w m i e c k) (hk : KOk k) (hc : KRdCalls w v cs) (hsm : ∀ x ∈ cs, x.nm.size ≤ maxLen ∧ x.c ≤ 9223372036854775807) (hlen : cs.length ≤ 1000) :
 Calls Tryz.prog 12 #[.agg #[m, i, e, c], v] w (PlayRes w (kPlay k cs)) := by
 obtain ⟨a, cap, rfl, hcl, hcm, H0⟩ := hc
 unfold maxLen at hcm
 have HK := Lib.hid hk
 have HB := Lib.hid (kernOk_iff.2 hk)
 have C0 := Lib.hid (fun W (hW : Below w.heap.size w W) => KernelValid_impl m i e c k W (h.below hW) (kok_small hk))
 have C1 := Lib.hid (fun W (hW : Below w.heap.size w W) => own_any m i e c k W (h.below hW) hk)
 have Hsm := Lib.hid hsm
 clear h hk hsm
 obtain ⟨B0, B1, hb0, hs0⟩ := two_blocks w (.cells #[m, i, e, c] 33) (.cells #[.slice none 0 0, .slice none 0 0, .slice none 0 0, .slice none 0 0] 33)
 go_enter Tryz.func12, Tryz.ntmps12
 go_wp2_with fail
 generalize (w.alloc _).alloc _ = W0 at *
 refine (C0.out W0 hb0).mono ?_; rintro r w1 ⟨rfl, b1⟩; rw [HB.out]
 have B0' := blk_below B0 b1
 have B1' := Lib.hid B1
 have hs1 := b1.size
 have Hb0 := Lib.hid hb0
 have hb1 := hb0.trans (b1.mono hb0.size)
 obtain ⟨x0, x1, x2, x3⟩ := blk_cells4 B0'
 clear B0 B1 hb0 B0'
 go_wp2_with fail
 refine (C1.out w1 hb1).mono ?_; rintro r w2 ⟨m2, i2, e2, c2, rfl, O2, b2⟩
 obtain ⟨⟨ma, mn, mc, rfl⟩, ⟨ia, iN, ic, rfl⟩, ⟨ea, en, ec, rfl⟩, ⟨qa, qn, qc, rfl⟩⟩ := O2.shapes
 have St := KSt.start (O2.lower hs1) (b1.trans (b2.mono hs1)) (Nat.le_trans hs1 b2.size)
 clear O2 b1 b2 hb1 hs1 x0 x1 x2 x3
 go_wp2_with fail
 generalize w2.heap.size = g at St ⊢
 generalize w2.alloc _ = w3 at St ⊢
 go_loopw [7, 9, 10, 19] (fun o _ _ i wr => ∃ j : Nat, j ≤ cs.length ∧ i = .int .i64 j ∧ ∃ m i e c, KSt W0.heap.size g o (kPlay k (cs.take j)) W0 wr m i e c) (fun _ _ _ i _ => cs.length - (intOf i).toNat)
 case atStart => exact ⟨0, Nat.zero_le _, rfl, _, _, _, _, St⟩
 case round =>
  clear St
  obtain ⟨j, hj, rfl, m3, i3, e3, c3, St⟩ := hrel
  obtain ⟨⟨ma, mn, mc, rfl⟩, ⟨ia, iN, ic, rfl⟩, ⟨ea, en, ec, rfl⟩, ⟨qa, qn, qc, rfl⟩⟩ := St.own.shapes
  have hbw := Hb0.out.trans (St.bel.mono Hb0.out.size)
  by_cases hlt : j < cs.length
  ·obtain ⟨x, hx⟩ : ∃ x, cs[j]? = some x := ⟨_, List.getElem?_eq_getElem hlt⟩
   obtain ⟨b, off, rfl, D0, D1, D2, D3, D4, D5⟩ := KSix H0 hbw hx
   have Nx := Lib.hid (kPlay_next (k := k) hx)
   have Sm := Hsm.out x (List.mem_of_getElem? hx)
   have Hst := Lib.hid (kPlay_ok HK.out (cs.take j))
   have hsl := Hst.out.2
   rw [List.length_take, Nat.min_eq_left hj] at hsl
   generalize kPlay k (cs.take j) = st at St Nx Hst hsl
   obtain ⟨xk, xe, xa, xb, xc, xn⟩ := x
   dsimp only at D0 D1 D2 D3 D4 D5 Sm
   have St1 := St.below (below1 wr (.cells #[.int .i64 xk, .int .i64 xe, .int .i64 xa, .int .i64 xb, .int .i64 xc, .string xn] 60))
   obtain ⟨x0, x1, x2, x3⟩ := blk_cells4 St1.blk
   have HX := Lib.hid hx
   clear hx hbw
   go_wp2_with fail
   refine (isEnv_any xe _).mono ?_; rintro r w5 ⟨rfl, rfl⟩
   cases hE : inB xe 0 2
   ·have E := Lib.hid (show kStep st ⟨xk, xe, xa, xb, xc, xn⟩ = (st.1, st.2 ++ [5]) by unfold kStep; rw [if_neg (by rw [hE]; decide)])
    clear D0 D1 D2 D3 D4 D5
    go_wp2_with (at_builtin; go_must (refine wp_appendL (lo := W0.heap.size) (n := st.2.length) (xs := st.2.map (Value.int .i64)) (m := 1) (news := [.int .i64 5]) rfl rfl 3 (.int .i64 0) 1 8 Tryz.underlying38 Tryz.infoInt rfl (by decide) rfl (St1.below (below1 _ _)).out rfl (Rd.newsAt _ #[_] _ 1 1 _ (by simp) rfl (by simp [maxLen])) (by simp [Value.oneCell']) (by unfold maxLen; omega) (by omega) (St1.below (below1 _ _)).lo ?_; intro o' w7 g1 g2 g3 g4))
    go_roundw
    case rel => exact ⟨j + 1, by omega, by go_num, _, _, _, _, by rw [Nx.out, E.out]; exact (St1.below (below1 _ _)).push g1 g2 g3 g4⟩
    case measure => simp [intOf]; omega
   ·have E := Lib.hid (show kStep st ⟨xk, xe, xa, xb, xc, xn⟩ = ((callP st.1 ⟨xk, xe, xa, xb, xc, xn⟩).1, st.2 ++ [(callP st.1 ⟨xk, xe, xa, xb, xc, xn⟩).2.2]) by unfold kStep; rw [if_pos hE])
    have hEr := inB_iff.1 hE
    clear D0 D1 D2 D3 D4 D5
    go_wp2_with fail
    refine (called_any _ _ _ _ st.1 ⟨xk, xe, xa, xb, xc, xn⟩ _ St1.own.rd Hst.out.1 (by simp only; omega) (by simp only; omega) Sm.1 Sm.2).mono ?_; rintro r w6 ⟨m6, i6, e6, c6, rfl, O6, b6⟩
    generalize callP st.1 ⟨xk, xe, xa, xb, xc, xn⟩ = res at E O6 ⊢
    obtain ⟨kr, vr, nr⟩ := res
    dsimp only at E O6 ⊢
    have St2 := St1.put b6 O6
    have hB6 := (St1.below b6).blk
    obtain ⟨⟨ma', mn', mc', rfl⟩, ⟨ia', iN', ic', rfl⟩, ⟨ea', en', ec', rfl⟩, ⟨qa', qn', qc', rfl⟩⟩ := O6.shapes
    have hfz := blk_frozen hB6
    obtain ⟨z0, z1, z2, z3⟩ := blk_cells4 hB6
    clear x0 x1 x2 x3 b6 O6 hB6
    go_wp2_with (at_builtin; go_must (refine wp_appendL (lo := W0.heap.size) (n := st.2.length) (xs := st.2.map (Value.int .i64)) (m := 1) (news := [.int .i64 nr]) rfl rfl 3 (.int .i64 0) 1 8 Tryz.underlying38 Tryz.infoInt rfl (by decide) rfl (St2.below (below1 _ _)).out rfl (Rd.newsAt _ #[_] _ 1 1 _ (by simp) rfl (by simp [maxLen])) (by simp [Value.oneCell']) (by unfold maxLen; omega) (by omega) (St2.below (below1 _ _)).lo ?_; intro o' w7 g1 g2 g3 g4))
    go_roundw
    case rel => exact ⟨j + 1, by omega, by go_num, _, _, _, _, by rw [Nx.out, E.out]; exact (St2.below (below1 _ _)).push g1 g2 g3 g4⟩
    case measure => simp [intOf]; omega
  ·obtain rfl : j = cs.length := by omega
   have e1 : cs.take cs.length = cs := List.take_of_length_le (Nat.le_refl _)
   rw [e1] at St
   obtain ⟨x0, x1, x2, x3⟩ := blk_cells4 St.blk
   have B2' := (St.bel.block (w.heap.size + 1) (by omega)).trans B1'.out
   have hOut := St.out
   have CO := own_any _ _ _ _ (kPlay k cs).1 wr St.own.rd (kPlay_ok HK.out cs).1
   obtain ⟨_, _, rfl, _, _⟩ := hOut.rd.open
   clear St e1
   go_wp2_with fail
   refine CO.mono ?_; rintro r w4 ⟨m4, i4, e4, c4, rfl, O4, b4⟩
   have B4 := blk_below B2' b4
   have hfz := blk_frozen B4
   obtain ⟨z0, z1, z2, z3⟩ := blk_cells4 B4
   obtain ⟨E0, E1, E2, E3⟩ := set4_cells (m' := m4) (i' := i4) (e' := e4) (c' := c4) B4
   have HE := Lib.hid (And.intro E0 (And.intro E1 (And.intro E2 E3)))
   have hgr := set4_grown w4 (w.heap.size + 1) m4 i4 e4 c4
   have HR4 := Lib.hid (show OwnK w.heap.size _ m4 i4 e4 c4 (kPlay k cs).1 from (O4.far hgr B4 (by decide) (by decide) (by decide) (by decide) (by decide) (by decide)).lower hbw.size)
   have HO4 := Lib.hid (show OwnInts w.heap.size _ _ (kPlay k cs).2 from own_far (own_loV (OwnInts.below hOut b4) (show w.heap.size ≤ W0.heap.size by omega)) hgr B4 (by decide))
   have HB4 := Lib.hid (below_grown (hbw.trans (b4.mono hbw.size)) hgr (by omega) (by have := hbw.size; have := b4.size; omega))
   obtain ⟨⟨_, _, _, rfl⟩, ⟨_, _, _, rfl⟩, ⟨_, _, _, rfl⟩, ⟨_, _, _, rfl⟩⟩ := O4.shapes
   clear E0 E1 E2 E3 O4 b4 B4 hgr B2' x0 x1 x2 x3 hOut CO
   go_wp2_with fail
   obtain ⟨E0, E1, E2, E3⟩ := HE.out
   exact bodyPost_ret (v := .tuple #[.agg #[_, _, _, _], _]) (by simp [results, Tryz.results12, go_sem, E0, E1, E2, E3]) rfl ⟨_, _, _, _, _, rfl, HR4.out, HO4.out, HB4.out⟩
end Go.Proofs.YtjacdlekgdnndaaGreatDoor
set_option linter.unusedVariables false
set_option linter.unusedSimpArgs false
namespace Go.Proofs.YtjacdlekgdnndaaGreatDoor
open Go.RowKit
theorem fits_small {x : CallV} (h : fitsC x = true) : x.nm.size ≤ maxLen ∧ x.c ≤ 9223372036854775807 := by
 obtain ⟨k, e, a, b, c, hx, hk1, hk2, he, ha, hb, hc, hn, _⟩ := fits_ranges h
 rw [hx]
 refine ⟨Nat.le_trans hn (by decide), ?_⟩
 show (c : Int) ≤ _
 omega
def noTops : List (List ByteArray) := [[], [], []]
theorem noTops_ok : ∀ ts ∈ noTops, rightsOk ts = true := by
 intro ts hts
 simp only [noTops, List.mem_cons, List.not_mem_nil, or_false] at hts
 rcases hts with h | h | h <;> (subst h; decide)
theorem noTops_small : ∀ ts ∈ noTops, SmallS ts := by
 intro ts hts
 simp only [noTops, List.mem_cons, List.not_mem_nil, or_false] at hts
 rcases hts with h | h | h <;> (subst h; intro s hs; cases hs)
theorem noKern_ok : KOk (newKern noTops) := kernOk_iff.1 (by kernel_rfl)
theorem rd_lit0 (w : World) (t : TypeId) : RdStrs (w.alloc (.cells #[] t)) (.slice (some ⟨w.heap.size, 0, none⟩) 0 0) [] :=
 Rd.newsAt w #[] t 1 0 _ rfl rfl (by simp [maxLen])
theorem rd_none3 (w : World) (t u : TypeId) :
 RdTexts ((((w.alloc (.cells #[] t)).alloc (.cells #[] t)).alloc (.cells #[] t)).alloc (.cells #[.slice (some ⟨w.heap.size, 0, none⟩) 0 0, .slice (some ⟨w.heap.size + 1, 0, none⟩) 0 0, .slice (some ⟨w.heap.size + 1 + 1, 0, none⟩) 0 0] u))
  (.slice (some ⟨w.heap.size + 1 + 1 + 1, 0, none⟩) 3 3) noTops := by
 have h1 := rd_lit0 w t
 have h2 := rd_lit0 (w.alloc (.cells #[] t)) t
 have h3 := rd_lit0 ((w.alloc (.cells #[] t)).alloc (.cells #[] t)) t
 simp only [World.size_alloc] at h2 h3
 refine ⟨[.slice (some ⟨w.heap.size, 0, none⟩) 0 0, .slice (some ⟨w.heap.size + 1, 0, none⟩) 0 0, .slice (some ⟨w.heap.size + 1 + 1, 0, none⟩) 0 0], ?_, rfl, ?_⟩
 ·exact Rd.newsAt _ #[_, _, _] u 1 3 _ (by simp) rfl (by simp [maxLen])
 ·intro i x y hx hy
  match i, hx, hy with
  | 0, hx, hy => simp [noTops] at hx hy; subst hx hy; exact ((RdF.below h1 (below1 _ _)).below (below1 _ _)).below (below1 _ _)
  | 1, hx, hy => simp [noTops] at hx hy; subst hx hy; exact (RdF.below h2 (below1 _ _)).below (below1 _ _)
  | 2, hx, hy => simp [noTops] at hx hy; subst hx hy; exact RdF.below h3 (below1 _ _)
set_option maxRecDepth 100000 in
set_option maxHeartbeats 4000000 in
theorem fnCallsPlay.walkR (v : Value) (bs : List Int) (w : World) (h : RdBytes w v bs) (ht : PTabs w) :
 Calls Tryz.prog 3 #[v] w fun e w' => e = .returned (.bool true) ∧ Below w.heap.size w w' := by
 obtain ⟨a, c, hv, hc, hcm, _⟩ := h.open
 subst hv
 unfold maxLen at hcm
 have Ht := Lib.hid ht; clear ht
 by_cases hl : 1048576 < bs.length
 ·have t0 : (1048576 : Int) < bs.length := by omega
  go_enter Tryz.func3, Tryz.ntmps3
  go_wp2_with fail
  go_ret
  exact ⟨rfl, Below.refl _ _⟩
 have t0 : ¬ (1048576 : Int) < bs.length := by omega
 go_enter Tryz.func3, Tryz.ntmps3
 go_wp2_with fail
 refine (DrawCallsParse_any _ bs _ h).mono ?_; rintro e w1 ⟨⟨s, rfl, hs⟩, b1⟩
 have hs' : s.size ≤ 1048577 := by omega
 have B1 := Lib.hid b1
 clear b1
 go_wp2_with fail
 refine (CallsParse_impl s _ hs' (Ht.out.below B1.out)).mono ?_; rintro e w2 ⟨⟨v2, xs0, ok0, rfl, o2, hp⟩, b2⟩
 have B2 := Lib.hid (B1.out.trans (b2.mono B1.out.size))
 have Hp := Lib.hid hp
 have R2 := Lib.hid o2.rd
 obtain ⟨a2, c2, rfl, _, _, _⟩ := o2.rd.open
 clear b2 hp o2
 go_wp2_with fail
 refine (CallsParse_spec s _ hs').mono ?_; rintro e w3 ⟨⟨v3, xs, ok, rfl, o3, hp3⟩, b3⟩
 obtain ⟨rfl, rfl⟩ := hp3.uniq Hp.out
 have B3 := Lib.hid (B2.out.trans (b3.mono B2.out.size))
 have R3 := Lib.hid (R2.out.below b3)
 have R4 := Lib.hid o3.rd
 obtain ⟨a3, c3, rfl, _, _, _⟩ := o3.rd.open
 clear b3 hp3 o3 R2
 have E := Lib.hid (fun w' (hb : Below w3.heap.size w3 w') => sameCallList_same _ _ xs w' (R3.out.below hb) (R4.out.below hb))
 rcases Hp.out with ⟨rfl, hf, ht⟩ | ⟨rfl, rfl, _⟩
 ·have hall := (listFit_iff.1 hf).1
  have Hsm := Lib.hid (fun x hx => fits_small (hall x hx) : ∀ x ∈ xs, x.nm.size ≤ maxLen ∧ x.c ≤ 9223372036854775807)
  have HL := Lib.hid (listFit_iff.1 hf).2
  clear hf ht hall
  go_wp2_with fail
  refine (E.out _ (Below.refl _ _)).mono ?_; rintro e w4 ⟨rfl, b4⟩
  have hB4 := Lib.hid b4
  clear b4
  go_wp2_with fail
  have hr3 := rd_none3 w4 9 36
  have bn := ((below2 w4 (.cells #[] 9) (.cells #[] 9)).trans ((below1 _ (.cells #[] 9)).mono (below2 w4 _ _).size))
  replace bn := bn.trans ((below1 _ (.cells #[.slice (some ⟨w4.heap.size, 0, none⟩) 0 0, .slice (some ⟨w4.heap.size + 1, 0, none⟩) 0 0, .slice (some ⟨w4.heap.size + 1 + 1, 0, none⟩) 0 0] 36)).mono bn.size)
  generalize (((w4.alloc _).alloc _).alloc _).alloc _ = w5 at *
  refine (KernelNew_impl _ noTops w5 hr3 rfl noTops_ok noTops_small).mono ?_; rintro e w6 ⟨m6, i6, e6, c6, rfl, O6, b6⟩
  obtain ⟨⟨ma, mn, mc, rfl⟩, ⟨ia, iN, ic, rfl⟩, ⟨ea, en, ec, rfl⟩, ⟨qa, qn, qc, rfl⟩⟩ := O6.shapes
  have b7 := below1 w6 (.cells #[.slice ma mn mc, .slice ia iN ic, .slice ea en ec, .slice qa qn qc] 33)
  have B7 := Lib.hid (hB4.out.trans ((bn.trans ((b6.trans (b7.mono b6.size)).mono bn.size)).mono hB4.out.size))
  have R7 := R3.out.below B7.out
  have O7 := O6.rd.below b7
  have CP := KernelPlay_any _ _ _ _ _ (newKern noTops) xs _ O7 noKern_ok (by obtain ⟨a, cap, e, h1, h2, h3⟩ := R7.open; exact ⟨a, cap, e, h1, h2, h3⟩) Hsm.out (by have := HL.out; omega)
  clear hr3 bn O6 b6 b7 R7 O7
  go_wp2_with fail
  refine CP.mono ?_; rintro e w8 ⟨m8, i8, e8, c8, v8, rfl, O8, o8, b8⟩
  have hlen := (kPlay_ok noKern_ok xs).2
  obtain ⟨⟨ma', mn', mc', rfl⟩, ⟨ia', iN', ic', rfl⟩, ⟨ea', en', ec', rfl⟩, ⟨qa', qn', qc', rfl⟩⟩ := O8.shapes
  obtain ⟨_, _, rfl, _, _⟩ := o8.rd.open
  have b9 := below1 w8 (.cells #[.slice ma' mn' mc', .slice ia' iN' ic', .slice ea' en' ec', .slice qa' qn' qc'] 33)
  have B9 := Lib.hid (b8.trans (b9.mono b8.size))
  have O9 := O8.rd.below b9
  have CV := KernelValid_impl _ _ _ _ _ _ O9 (kok_small (kPlay_ok noKern_ok xs).1)
  rw [kernOk_iff.2 (kPlay_ok noKern_ok xs).1] at CV
  rw [hlen]
  clear O8 o8 b8 b9 O9 CP
  go_wp2_with fail
  refine CV.mono ?_; rintro e w10 ⟨rfl, b10⟩
  go_wp2_with fail
  go_ret
  exact ⟨rfl, B3.out.trans ((B7.out.trans ((B9.out.trans (b10.mono B9.out.size)).mono B7.out.size)).mono B3.out.size)⟩
 ·go_wp2_with fail
  refine (E.out _ (Below.refl _ _)).mono ?_; rintro e w4 ⟨rfl, b4⟩
  have hB4 := Lib.hid b4
  clear b4
  go_wp2_with fail
  refine (E.out _ hB4.out).mono ?_; rintro e w5 ⟨rfl, b5⟩
  go_wp2_with fail
  go_ret
  exact ⟨rfl, B3.out.trans ((hB4.out.trans (b5.mono hB4.out.size)).mono B3.out.size)⟩
end Go.Proofs.YtjacdlekgdnndaaGreatDoor
set_option linter.unusedVariables false
namespace Go.Proofs.YtjacdlekgdnndaaGreatDoor
open Go.RowKit
theorem tabs_of {w : World} {laid : List (String × DataW Unit)} (hL : laidMet Tryz.prog laid w) (hm : ("internal/strconv.uint64pow10", Lib.tabData .u64 Lib.pow10Tab) ∈ laid) : Tabs w := by
 obtain ⟨g, t, cs, fuel, p, hg, ht, hvar, hd⟩ := Lib.laidMet.reads hL hm
 refine Lib.tabBelow_of_tabIs ?_
 obtain rfl : t = 301 := by
  have h1 : Tryz.prog.globalNamed "internal/strconv.uint64pow10" = some 5 := by kernel_rfl
  obtain rfl := Option.some.inj (h1.symm.trans hg)
  have h2 : (Tryz.prog.globals[5]?).map (·.type) = some 301 := by kernel_rfl
  exact (Option.some.inj (h2.symm.trans ht)).symm
 unfold Lib.TabIs
 rw [hvar, ← Lib.cells_of_tab Tryz.underlying301 Tryz.underlying247 (by kernel_rfl) (by kernel_rfl) hd]
end Go.Proofs.YtjacdlekgdnndaaGreatDoor
set_option linter.unusedVariables false
namespace Go
section
variable {H : Type} {enc : TypeId × Value → H}
theorem returnsInHanded_of_listed_shaped {a : Assume} {C : Checked} {os : Os} {f : FuncId} {fn : Func} {s : ChangeSpec} {conds : List PathCond} {apart fresh handsOn again : Bool} {X : World → Array Value → Prop}
 (hX : ∀ (w w' : World) (args : Array Value), w.heap = w'.heap → X w args → X w' args)
 (own : ownKnob C.prog.godebug = none) (started : os.Started) (noInit : C.prog.inits.idxOf? f = none) (hfn : C.prog.funcs[f]? = some fn)
 (witness : ∃ (w : World) (tape : Tape) (i : Input), w.os = os ∧ (w.forCall tape i).Shaped C.prog ∧ i.vars = [] ∧ Input.okWide C.prog (w.forCall tape i) .any w.heap.size f i ∧
  ((s.pre enc C.prog fn conds apart (w.forCall tape i).memory i.args ∧ X (w.forCall tape i).memory i.args) ∧ sizedMet enc C.prog fn (OpenSpec.ofChange s) apart (w.forCall tape i).memory i.args) ∧ a.holds C.prog (lone (Frame.enter C.prog f i.args .normal) [] (w.forCall tape i)))
 (contract : ∀ (W : World) (base : Nat) (args : Array Value) (ds gs : List (DataW H)) (before : List MemPlace),
  (∀ (j : Nat) t v, fn.params[j]? = some t → args[j]? = some v → Value.okWide C.prog W .any base t v) →
  DataW.Whole enc C.prog fn.params.toList s.vars apart W args.toList ds gs before → X W args → W.ShapedOpen C.prog →
  Calls C.prog f args W fun e W' => ∃ v, e = .returned v ∧ s.post enc C.prog fn apart fresh handsOn again W args v W') :
 ReturnsInHanded a C os f .any (fun w args => (s.pre enc C.prog fn conds apart w args ∧ X w args) ∧ sizedMet enc C.prog fn (OpenSpec.ofChange s) apart w args) (s.post enc C.prog fn apart fresh handsOn again) := by
 refine returnsInHanded_of_calls own started noInit witness ?_
 intro w tape i _ hsh _ hok hpre _
 obtain ⟨_, _, _, fn', hfn', _, _, _, _, hval⟩ := hok
 obtain rfl : fn' = fn := Option.some.inj (hfn'.symm.trans hfn)
 obtain ⟨⟨⟨ds, gs, before, hw, _⟩, hx⟩, _⟩ := hpre
 refine (contract (w.forCall tape i) w.heap.size i.args ds gs before hval (DataW.Whole.of_heap (w' := w.forCall tape i) (by rfl) hw) (hX _ _ _ (by rfl) hx) hsh).mono fun e W' ⟨v, he, hp⟩ => ?_
 subst he
 exact ChangeSpec.post_blind hp
end
end Go
namespace Go.Proofs.YtjacdlekgdnndaaGreatDoor
open Go.RowKit
def errSynData {H : Type} : DataW H := .iface "*errors.errorString" (.ptr (.agg [.lit (.string [105, 110, 118, 97, 108, 105, 100, 32, 115, 121, 110, 116, 97, 120])]))
def errRngData {H : Type} : DataW H := .iface "*errors.errorString" (.ptr (.agg [.lit (.string [118, 97, 108, 117, 101, 32, 111, 117, 116, 32, 111, 102, 32, 114, 97, 110, 103, 101])]))
theorem iface_var {w : World} {n nm : String} {d : DataW Unit} {g : Nat} (hr : Lib.VarReads Tryz.prog w n (.iface nm d)) (hgn : Tryz.prog.globalNamed n = some g) (hty : (Tryz.prog.globals[g]?).map (·.type) = some 133) : ∃ t p, w.cell? ⟨g, 0, none⟩ = some (.iface t p) := by
 obtain ⟨g', t, cs, fuel, p, hg, ht, hvar, hd⟩ := hr
 obtain rfl := Option.some.inj (hgn.symm.trans hg)
 obtain rfl : t = 133 := (Option.some.inj (hty.symm.trans ht)).symm
 obtain ⟨f1, u, v, hcs, _⟩ := iface_of_trod Tryz.underlying133 hd
 have h0 := World.var?_cell hg hvar 0
 obtain ⟨l⟩ := cs
 simp only at hcs
 subst hcs
 exact ⟨u, v, by simpa using h0⟩
theorem ptabs_of {w : World} {laid : List (String × DataW Unit)} (hL : laidMet Tryz.prog laid w) (hsh : w.ShapedOpen Tryz.prog) (h1 : ("internal/strconv.uint64pow10", Lib.tabData .u64 Lib.pow10Tab) ∈ laid) (h2 : ("strconv.ErrSyntax", errSynData) ∈ laid) (h3 : ("strconv.ErrRange", errRngData) ∈ laid) : PTabs w :=
 ⟨tabs_of hL h1, Tryz.laysM146.s1_3 w hsh, iface_var (Lib.laidMet.reads hL h2) (by kernel_rfl) (by kernel_rfl), iface_var (Lib.laidMet.reads hL h3) (by kernel_rfl) (by kernel_rfl)⟩
end Go.Proofs.YtjacdlekgdnndaaGreatDoor
