/-
  Packed: 12 texts.
-/
import Derived.Test.YtjacdlekgdnndaaGreatDoorY9
import Derived.Test.YtjacdlekgdnndaaGreatDoorY5
import Derived.Test.YtjacdlekgdnndaaGreatDoorY6
import Derived.Test.YtjacdlekgdnndaaGreatDoorY8
set_option linter.unusedVariables false
namespace Go.Proofs.YtjacdlekgdnndaaGreatDoor
open Go.RowKit
set_option maxRecDepth 100000 in
set_option maxHeartbeats 2000000 in
theorem ownWords16_any (v : Value) (m : List (List Int)) (w : World) (h : RdRows w v m) (hml : m.length = 16) (hok : ∀ k, k < 16 → (rowAt m k).length ≤ 4) :
 Calls Tryz.prog 105 #[v] w fun e w' => ∃ v' vs, e = .returned v' ∧ OwnRows w.heap.size w' v' vs m ∧ Below w.heap.size w w' := by
 obtain ⟨vs, h1, h2⟩ := h
 have hvl : vs.length = 16 := by rw [h2.1, hml]
 have CC := Lib.hid (CloneRows_any v vs w h1 (by omega) (ones_rows h2))
 have CI := Lib.hid (fun k (hk : k < 16) W (hW : Below w.heap.size w W) => CloneInts_any (vs.getD k (.bool false)) (rowAt m k) W (RdInts.below (h2.2 k _ _ (getD_lt (by omega)) (by unfold rowAt; exact getD_lt (by omega))) hW) (by have := hok k hk; omega))
 have SH := Lib.hid (fun k (hk : k < 16) => (by obtain ⟨a, c, e, _⟩ := (h2.2 k _ _ (getD_lt (d := Value.bool false) (by omega)) (getD_lt (d := []) (by omega))).open; exact ⟨a, _, c, e⟩ : ∃ a n c, vs.getD k (.bool false) = .slice a n c))
 have Hvl := Lib.hid hvl
 have Hml := Lib.hid hml
 obtain ⟨ai, ci, rfl, _, _⟩ := h1.shape
 clear h1 h2 hok hml
 rw [hvl] at CC ⊢
 clear hvl
 go_enter Tryz.func105, Tryz.ntmps105
 go_wp2_with fail
 refine (CC.out).mono ?_; rintro e w1 ⟨v', rfl, hO, hb1⟩
 obtain ⟨g, cap, rfl, c1, c2, q1, q2, hfz⟩ := hO.shapeOwn (by have := Hvl.out; omega)
 unfold maxLen at c2
 rw [Hvl.out] at hO c1 ⊢
 have HO := Lib.hid hO
 have HB := Lib.hid hb1
 clear hO hb1 hfz
 go_wp2_with fail
 go_loopw [10] (fun i wr => ∃ us : List Value, us.length ≤ 16 ∧ i = .int .i64 us.length ∧ HalfRows w.heap.size wr (.slice (some ⟨g, 0, none⟩) 16 cap) us (vs.drop us.length) m ∧ Below w.heap.size w wr) (fun i _ => 16 - (intOf i).toNat)
 case atStart => exact ⟨[], by simp, rfl, ⟨HO.out, Both.nil, AllApart.nil⟩, HB.out⟩
 case round =>
  obtain ⟨us, hk, rfl, hH, hbel⟩ := hrel
  by_cases hlt : us.length < 16
  ·have hlv : us.length < vs.length := by rw [Hvl.out]; exact hlt
   have ed : vs.drop us.length = vs.getD us.length (.bool false) :: vs.drop (us.length + 1) := by
    rw [List.drop_eq_getElem_cons hlv]
    congr 1
    simp [hlv]
   rw [ed] at hH
   have hlen : (us ++ vs.getD us.length (.bool false) :: vs.drop (us.length + 1)).length = 16 := by
    have := Hvl.out
    simp only [List.length_append, List.length_cons, List.length_drop]
    omega
   have hH1 := hH.1
   rw [← hlen] at hH1
   have D := OwnF.cellsAt oneCs_len hH1 (k := us.length) (x := vs.getD us.length (.bool false)) (by simp) 0 _ rfl
   rw [Nat.mul_one, Nat.add_zero] at D
   have C := CI.out _ hlt wr hbel
   have hr : m[us.length]? = some (rowAt m us.length) := by unfold rowAt; exact getD_lt (by rw [Hml.out]; exact hlt)
   have HH := Lib.hid hH
   have HR := Lib.hid hr
   have CH := Lib.hid C
   have Hlen := Lib.hid hlen
   have hfz := World.ownsRow.frozenAt hH1 us.length
   have c12 : (16 : Int) ≤ cap := by omega
   clear hH hH1 hr C ed hlen
   generalize hu0 : vs.getD us.length (.bool false) = u0 at *
   obtain ⟨a0, n0, c0, rfl⟩ : ∃ a n c, u0 = .slice a n c := by have := SH.out _ hlt; rwa [hu0] at this
   go_wp2_with fail
   refine (CH.out).mono ?_; rintro e w2 ⟨u, rfl, hu, hb2⟩
   have D2 := (hb2.cell (p := ⟨g, us.length, none⟩) (World.block_lt_of_cell? wr _ D)).trans D
   have hfz2 := (hb2.frozen (p := ⟨g, us.length, none⟩) (World.block_lt_of_cell? wr _ D)).trans hfz
   have ST := Lib.hid (HalfRows.step HH.out Hlen.out.symm hb2 hbel.size hu HR.out)
   have HB2 := Lib.hid (below_grown (hbel.trans (hb2.mono hbel.size)) ST.out.2 q1 (Nat.le_trans hbel.size hb2.size))
   obtain ⟨a9, c9, rfl, _⟩ := hu.rd.open
   clear D hfz hu hb2 hbel
   go_wp2_with fail
   go_roundw
   case rel =>
    refine ⟨us ++ [.slice a9 (rowAt m us.length).length c9], by rw [List.length_append, List.length_singleton]; omega, by rw [List.length_append, List.length_singleton]; go_num, ?_, HB2.out⟩
    rw [List.length_append, List.length_singleton]
    exact ST.out.1
   case measure => simp [intOf]; omega
  ·have e12 : us.length = 16 := by omega
   rw [List.drop_eq_nil_of_le (by rw [e12, Hvl.out]; exact Nat.le_refl _)] at hH
   have R := Lib.hid (hH.whole (by rw [e12, Hml.out]))
   clear hH
   go_wp2_with fail
   go_ret
   exact ⟨_, us, rfl, R.out, hbel⟩
theorem OwnP.shapes {lo : Nat} {w : World} {m i e c s l q : Value} {P : PagerV} (h : OwnP lo w m i e c s l q P) : ((∃ a n q, m = .slice a n q) ∧ (∃ a n q, i = .slice a n q) ∧ (∃ a n q, e = .slice a n q) ∧ ∃ a n q, c = .slice a n q) ∧ (∃ a n q, s = .slice a n q) ∧ (∃ a n q, l = .slice a n q) ∧ ∃ a n r, q = .slice a n r := by
 obtain ⟨h1, ⟨_, h2⟩, h3, h4, _⟩ := h
 obtain ⟨_, _, rfl, _, _⟩ := h2.1.rd.shape
 obtain ⟨_, _, rfl, _, _⟩ := h3.rd.open
 obtain ⟨_, _, rfl, _, _⟩ := h4.rd.shape
 exact ⟨h1.shapes, ⟨_, _, _, rfl⟩, ⟨_, _, _, rfl⟩, ⟨_, _, _, rfl⟩⟩
theorem pok_swap {P : PagerV} (h : POk P) : P.swap.length = 16 ∧ ∀ k, k < 16 → (rowAt P.swap k).length ≤ 4 := by
 refine ⟨h.swapl, fun k hk => ?_⟩
 rcases h.swapr k hk with e | e
 ·rw [e]; exact Nat.zero_le _
 ·have := (rowOk_iff.1 e).1; omega
section
variable {w : World} {g t : Nat} {a0 a1 a2 a3 a4 a5 a6 a7 a8 b0 b1 b2 b3 b4 b5 b6 b7 b8 : Value}
def set7 (w : World) (g : Nat) (b0 b1 b2 b3 b4 b5 b6 : Value) : World := ((((((w.setCell ⟨g, 0, none⟩ b0).setCell ⟨g, 1, none⟩ b1).setCell ⟨g, 2, none⟩ b2).setCell ⟨g, 3, none⟩ b3).setCell ⟨g, 4, none⟩ b4).setCell ⟨g, 5, none⟩ b5).setCell ⟨g, 6, none⟩ b6
theorem set3_blk (h : w.heap[g]? = some (.cells #[a0, a1, a2, a3, a4, a5, a6, a7, a8] t (0, 0))) : (((w.setCell ⟨g, 4, none⟩ b4).setCell ⟨g, 5, none⟩ b5).setCell ⟨g, 6, none⟩ b6).heap[g]? = some (.cells #[a0, a1, a2, a3, b4, b5, b6, a7, a8] t (0, 0)) := by
 have h4 := heap_setCell_same _ g 4 _ t b4 h
 have h5 := heap_setCell_same _ g 5 _ t b5 h4
 have h6 := heap_setCell_same _ g 6 _ t b6 h5
 simpa using h6
theorem set3_grown : w.grownBy (((w.setCell ⟨g, 4, none⟩ b4).setCell ⟨g, 5, none⟩ b5).setCell ⟨g, 6, none⟩ b6) (some g) := grown_set' (grown_set' (grown_set _ _ _ _) _ _) _ _
theorem set7_blk (h : w.heap[g]? = some (.cells #[a0, a1, a2, a3, a4, a5, a6, a7, a8] t (0, 0))) : (set7 w g b0 b1 b2 b3 b4 b5 b6).heap[g]? = some (.cells #[b0, b1, b2, b3, b4, b5, b6, a7, a8] t (0, 0)) := by
 have h0 := heap_setCell_same w g 0 _ t b0 h
 have h1 := heap_setCell_same _ g 1 _ t b1 h0
 have h2 := heap_setCell_same _ g 2 _ t b2 h1
 have h3 := heap_setCell_same _ g 3 _ t b3 h2
 have h4 := heap_setCell_same _ g 4 _ t b4 h3
 have h5 := heap_setCell_same _ g 5 _ t b5 h4
 have h6 := heap_setCell_same _ g 6 _ t b6 h5
 unfold set7
 simpa using h6
theorem set7_grown : w.grownBy (set7 w g b0 b1 b2 b3 b4 b5 b6) (some g) := by
 unfold set7
 exact grown_set' (grown_set' (grown_set' (grown_set' (grown_set' (grown_set' (grown_set _ _ _ _) _ _) _ _) _ _) _ _) _ _) _ _
theorem set9_blk (h : w.heap[g]? = some (.cells #[a0, a1, a2, a3, a4, a5, a6, a7, a8] t (0, 0))) : (((set7 w g b0 b1 b2 b3 b4 b5 b6).setCell ⟨g, 7, none⟩ b7).setCell ⟨g, 8, none⟩ b8).heap[g]? = some (.cells #[b0, b1, b2, b3, b4, b5, b6, b7, b8] t (0, 0)) := by
 have h7 := heap_setCell_same _ g 7 _ t b7 (set7_blk (b0 := b0) (b1 := b1) (b2 := b2) (b3 := b3) (b4 := b4) (b5 := b5) (b6 := b6) h)
 have h8 := heap_setCell_same _ g 8 _ t b8 h7
 simpa using h8
theorem set9_grown : w.grownBy (((set7 w g b0 b1 b2 b3 b4 b5 b6).setCell ⟨g, 7, none⟩ b7).setCell ⟨g, 8, none⟩ b8) (some g) := grown_set' (grown_set' set7_grown _ _) _ _
end
def pagerAgg (m i e c s l q : Value) (h n : Int) : Value := .agg #[m, i, e, c, s, l, q, .int .i64 h, .int .i64 n]
def OwnPRes (w : World) (P : PagerV) (r : Ending) (w' : World) : Prop := ∃ m i e c s l q, r = .returned (pagerAgg m i e c s l q P.hand P.limit) ∧ OwnP w.heap.size w' m i e c s l q P ∧ Below w.heap.size w w'
theorem agg_apart {lo : Nat} {v m i e c s : Value} {w w' : World} {k : KernV} {vs : List Value} {xss : List (List Int)} (h : KAgg lo v w k) (E : v = .agg #[m, i, e, c]) (o : OwnRows w.heap.size w' s vs xss) : Apart m s := by
 obtain ⟨m1, i1, e1, c1, rfl, ⟨us, h1⟩, _⟩ := h
 simp only [Value.agg.injEq, Array.mk.injEq, List.cons.injEq, and_true] at E
 obtain ⟨rfl, _⟩ := E
 intro b hb hb'
 have := (World.ownsRow.lt h1.1 b hb).2
 have := (World.ownsRow.lt o.1 b hb').1
 omega
set_option maxRecDepth 100000 in
set_option maxHeartbeats 4000000 in
theorem pown_any (mv iv ev cv sv lv qv : Value) (P : PagerV) (w : World) (h : RdP w mv iv ev cv sv lv qv P) (hP : POk P) :
 Calls Tryz.prog 58 #[pagerAgg mv iv ev cv sv lv qv P.hand P.limit] w (OwnPRes w P) := by
 unfold pagerAgg
 obtain ⟨B0, B1, hb0, hs0⟩ := two_blocks w (.cells #[mv, iv, ev, cv, sv, lv, qv, .int .i64 P.hand, .int .i64 P.limit] 46) (.cells #[.slice none 0 0, .slice none 0 0, .slice none 0 0, .slice none 0 0, .slice none 0 0, .slice none 0 0, .slice none 0 0, .int .i64 0, .int .i64 0] 46)
 have h' := h.below hb0
 have hsw := pok_swap hP
 go_enter Tryz.func58, Tryz.ntmps58
 go_wp2_with fail
 generalize (w.alloc _).alloc _ = W0 at *
 have C1 := Lib.hid (fun W (hW : Below W0.heap.size W0 W) => own_any mv iv ev cv P.kern W (h'.1.below hW) hP.k)
 have C2 := Lib.hid (fun W (hW : Below W0.heap.size W0 W) => ownWords16_any sv P.swap W (h'.2.1.below hW) hsw.1 hsw.2)
 have C3 := Lib.hid (fun W (hW : Below W0.heap.size W0 W) => CloneInts_any lv P.low W (h'.2.2.1.below hW) (by rw [hP.lowl]; omega))
 have C4 := Lib.hid (fun W (hW : Below W0.heap.size W0 W) => ClonePage_any qv P.pages W (RdF.below h'.2.2.2 hW) (by rw [hP.pagel]; omega))
 have HB0 := Lib.hid B0
 have HB1 := Lib.hid B1
 have Hb0 := Lib.hid hb0
 obtain ⟨x0, x1, x2, x3, x4, x5, x6, x7, x8⟩ := blk_cells9 B0
 have hl0 : w.heap.size < W0.heap.size := by omega
 clear h h' hsw B0 B1 hb0 x7 x8 hP
 refine wp_region_pair 13 Tryz.mixed (by kernel_rfl) 20 rfl (by kernel_rfl) 2 5 (by kernel_rfl) (by decide) (by decide) (fun V1 V2 => ∀ m i e c, V1 = .agg #[m, i, e, c] → Apart m V2) (fun ix vv ww => match ix with
  | 0 => vv = .pointer (some ⟨w.heap.size, 0, none⟩)
  | 1 => vv = .agg #[mv, iv, ev, cv]
  | 2 => KAgg W0.heap.size vv ww P.kern
  | 3 => vv = .pointer (some ⟨w.heap.size, 4, none⟩)
  | 4 => vv = sv
  | 5 => ∃ vs', OwnRows W0.heap.size ww vv vs' P.swap
  | 6 => vv = .pointer (some ⟨w.heap.size, 5, none⟩)
  | 7 => vv = lv
  | 8 => OwnInts W0.heap.size ww vv P.low
  | 9 => vv = .pointer (some ⟨w.heap.size, 6, none⟩)
  | 10 => vv = qv
  | 11 => OwnF W0.heap.size 169 3 pageCs ww vv P.pages
  | 12 => vv = .pointer (some ⟨w.heap.size, 0, none⟩)
  | _ => True) ?_ ?_ ?_ ?_
 ·intro i hi vv wz ww' hbz hz
  match i, hi with
  | 0, _ | 1, _ => exact hz
  | 2, _ => exact (KAgg.below hz hbz)
  | 3, _ | 4, _ => exact hz
  | 5, _ => exact (by obtain ⟨vs', h'⟩ := hz; exact ⟨vs', h'.below hbz⟩)
  | 6, _ | 7, _ => exact hz
  | 8, _ => exact (OwnInts.below hz hbz)
  | 9, _ | 10, _ => exact hz
  | 11, _ => exact (OwnF.below hz hbz)
  | 12, _ => exact hz
 ·intro i hi his o ho a wx Hb Hd hG K HK
  match i, hi, his with
  | 0, _, _ => exact dF ho rfl (gn rfl) HK rfl fA46_0 (eb (Hb.out.2.2 1 (by decide))) rfl
  | 1, _, _ => exact dL ho rfl (gn rfl) HK rfl (et (Hd.out 0 (by kernel_rfl))) (lA33 (bc hG hl0 x0) (bc hG hl0 x1) (bc hG hl0 x2) (bc hG hl0 x3)) rfl
  | 2, _, _ =>
   obtain rfl := Option.some.inj ho
   have d1 : (a.tmps[4]?.getD undef) = .agg #[mv, iv, ev, cv] := Hd.out 1 (by kernel_rfl)
   clear Hd Hb
   refine Does.of rfl ?_
   go_simp
   refine (C1.out _ hG).mono ?_; rintro r w_ ⟨m', i', e', c', rfl, hO, hb2⟩
   exact HK.out _ _ ⟨m', i', e', c', rfl, hO.lower hG.size⟩ hb2
  | 3, _, _ => exact dF ho rfl (gn rfl) HK rfl fA46_1 (eb (Hb.out.2.2 1 (by decide))) rfl
  | 4, _, _ => exact dL ho rfl (gn rfl) HK rfl (et (Hd.out 3 (by kernel_rfl))) (lA28 (bc hG hl0 x4)) rfl
  | 5, _, hs => exact absurd rfl hs
  | 6, _, _ => exact dF ho rfl (gn rfl) HK rfl fA46_2 (eb (Hb.out.2.2 1 (by decide))) rfl
  | 7, _, _ => exact dL ho rfl (gn rfl) HK rfl (et (Hd.out 6 (by kernel_rfl))) (lA38 (bc hG hl0 x5)) rfl
  | 8, _, _ =>
   obtain rfl := Option.some.inj ho
   have d7 : (a.tmps[10]?.getD undef) = lv := Hd.out 7 (by kernel_rfl)
   clear Hd Hb
   refine Does.of rfl ?_
   go_simp
   refine (C3.out _ hG).mono ?_; rintro e w_ ⟨v', rfl, hO, hb2⟩
   exact HK.out _ _ (own_loV hO hG.size) hb2
  | 9, _, _ => exact dF ho rfl (gn rfl) HK rfl fA46_3 (eb (Hb.out.2.2 1 (by decide))) rfl
  | 10, _, _ => exact dL ho rfl (gn rfl) HK rfl (et (Hd.out 9 (by kernel_rfl))) (lA44 (bc hG hl0 x6)) rfl
  | 11, _, _ =>
   obtain rfl := Option.some.inj ho
   have d10 : (a.tmps[13]?.getD undef) = qv := Hd.out 10 (by kernel_rfl)
   clear Hd Hb
   refine Does.of rfl ?_
   go_simp
   refine (C4.out _ hG).mono ?_; rintro e w_ ⟨v', rfl, hO, hb2⟩
   exact HK.out _ _ (hO.lower hG.size) hb2
  | 12, _, _ => exact dF ho rfl (gn rfl) HK rfl fA46_0 (eb (Hb.out.2.2 1 (by decide))) rfl
 ·intro o ho a wx Hb Hd hG K HK
  obtain rfl := Option.some.inj ho
  have d4 : (a.tmps[7]?.getD undef) = sv := Hd.out 4 (by kernel_rfl)
  have d2 : KAgg W0.heap.size (a.tmps[5]?.getD undef) wx P.kern := Hd.out 2 (by kernel_rfl)
  clear Hd Hb
  refine Does.of rfl ?_
  go_simp
  refine (C2.out _ hG).mono ?_; rintro e w_ ⟨v', vs', rfl, hO, hb2⟩
  exact HK.out _ _ ⟨vs', hO.lower hG.size⟩ (fun m i e c E => agg_apart d2 E hO) hb2
 ·intro vs wx hR hP hG
  have q2 : KAgg W0.heap.size (vs 2) wx P.kern := hR 2 (by decide)
  have q5 : ∃ vs', OwnRows W0.heap.size wx (vs 5) vs' P.swap := hR 5 (by decide)
  have q8 : OwnInts W0.heap.size wx (vs 8) P.low := hR 8 (by decide)
  have q11 : OwnF W0.heap.size 169 3 pageCs wx (vs 11) P.pages := hR 11 (by decide)
  have q12 : (vs 12) = .pointer (some ⟨w.heap.size, 0, none⟩) := hR 12 (by decide)
  clear hR
  simp only [fillAt, dstOf, List.range, List.range.loop, List.foldl_cons, List.foldl_nil, q12]
  simp
  generalize vs 2 = z2 at q2 hP ⊢
  generalize vs 5 = z5 at q5 hP ⊢
  generalize vs 8 = z8 at q8 ⊢
  generalize vs 11 = z11 at q11 ⊢
  clear q12
  obtain ⟨m', i', e', c', rfl, k1⟩ := q2
  obtain ⟨vs', k2⟩ := q5
  have hap : Apart m' z5 := hP _ _ _ _ rfl
  have O := (⟨k1, ⟨vs', k2⟩, q8, q11, hap⟩ : OwnP W0.heap.size wx m' i' e' c' z5 z8 z11 P)
  obtain ⟨⟨⟨ma, mn, mc, rfl⟩, ⟨ia, iN, ic, rfl⟩, ⟨ea, en, ec, rfl⟩, ⟨qa, qn, qc, rfl⟩⟩, ⟨sa, sn, sc, rfl⟩, ⟨la, ln, lc, rfl⟩, ⟨pa, pn, pc, rfl⟩⟩ := O.shapes
  have B0 := (hG.block _ hl0).trans HB0.out
  have B1 := (hG.block (w.heap.size + 1) (by omega)).trans HB1.out
  obtain ⟨x0', x1', x2', x3', x4', x5', x6', x7', x8'⟩ := blk_cells9 B0
  have f0 := blk_frozen B0
  go_step
  go_simp
  have gr1 := set4_grown wx w.heap.size (.slice ma mn mc) (.slice ia iN ic) (.slice ea en ec) (.slice qa qn qc)
  have B0a := blk_set9 (m' := .slice ma mn mc) (i' := .slice ia iN ic) (e' := .slice ea en ec) (c' := .slice qa qn qc) B0
  have O1 := O.far gr1 B0 (by decide) (by decide) (by decide) (by decide) (by decide) (by decide) (by decide)
  have B1a := (gr1.block (w.heap.size + 1) (by have := hG.size; omega) (by intro e; have := Option.some.inj e; omega)).trans B1
  have bw := below_grown (Hb0.out.trans (hG.mono Hb0.out.size)) gr1 (Nat.le_refl _) (Nat.le_trans Hb0.out.size hG.size)
  clear O gr1 B0 B1 hG f0 x0' x1' x2' x3' x4' x5' x6' x7' x8' k1 k2 q8 q11 hP hap x0 x1 x2 x3 x4 x5 x6
  generalize (((wx.setCell _ _).setCell _ _).setCell _ _).setCell _ _ = W1 at *
  obtain ⟨_, _, _, _, c4, c5, c6, _⟩ := blk_cells9 B0a
  have f4 := blk_frozen B0a
  have S2 := set3_blk (b4 := .slice sa sn sc) (b5 := .slice la ln lc) (b6 := .slice pa pn pc) B0a
  have gr2 := set3_grown (w := W1) (g := w.heap.size) (b4 := .slice sa sn sc) (b5 := .slice la ln lc) (b6 := .slice pa pn pc)
  have O2 := O1.far gr2 B0a (by decide) (by decide) (by decide) (by decide) (by decide) (by decide) (by decide)
  have B1b := (gr2.block (w.heap.size + 1) (blk_lt B1a) (by intro e; have := Option.some.inj e; omega)).trans B1a
  have bw2 := below_grown bw gr2 (Nat.le_refl _) bw.size
  obtain ⟨y0, y1, y2, y3, y4, y5, y6, y7, y8⟩ := blk_cells9 S2
  obtain ⟨u0, u1, u2, u3, u4, u5, u6, u7, u8⟩ := blk_cells9 B1b
  have f1 := blk_frozen B1b
  have HO2 := Lib.hid O2
  have HB1b := Lib.hid B1b
  have Hbw2 := Lib.hid bw2
  clear O1 B0a B1a bw gr2 S2 O2 B1b bw2
  go_wp2_with fail
  clear y0 y1 y2 y3 y4 y5 y6 y7 y8 u0 u1 u2 u3 u4 u5 u6 u7 u8 f1 c4 c5 c6 f4
  generalize ((W1.setCell _ _).setCell _ _).setCell _ _ = W2 at *
  have gr3 := set9_grown (w := W2) (g := w.heap.size + 1) (b0 := .slice ma mn mc) (b1 := .slice ia iN ic) (b2 := .slice ea en ec) (b3 := .slice qa qn qc) (b4 := .slice sa sn sc) (b5 := .slice la ln lc) (b6 := .slice pa pn pc) (b7 := .int .i64 P.hand) (b8 := .int .i64 P.limit)
  have N3 := set9_blk (b0 := .slice ma mn mc) (b1 := .slice ia iN ic) (b2 := .slice ea en ec) (b3 := .slice qa qn qc) (b4 := .slice sa sn sc) (b5 := .slice la ln lc) (b6 := .slice pa pn pc) (b7 := .int .i64 P.hand) (b8 := .int .i64 P.limit) HB1b.out
  have O3 := (HO2.out.far gr3 HB1b.out (by decide) (by decide) (by decide) (by decide) (by decide) (by decide) (by decide)).lower Hb0.out.size
  have B3 := below_grown Hbw2.out gr3 (by omega) Hbw2.out.size
  unfold set7 at gr3 N3 O3 B3
  obtain ⟨E0, E1, E2, E3, E4, E5, E6, E7, E8⟩ := blk_cells9 N3
  exact bodyPost_ret (v := .agg #[_, _, _, _, _, _, _, _, _]) (by simp [results, Tryz.results58, go_sem, E0, E1, E2, E3, E4, E5, E6, E7, E8]) rfl ⟨_, _, _, _, _, _, _, rfl, O3, B3⟩
theorem OwnK.past {lo : Nat} {w w' : World} {m i e c : Value} {k : KernV} {row : Option Nat} (h : OwnK lo w m i e c k) (hg : w.grownBy w' row) (hr : ∀ b, row = some b → b < lo) : OwnK lo w' m i e c k := by
 obtain ⟨⟨vs, h1, h2, h3⟩, h4, ⟨ps, h5, h6, h7⟩, h8⟩ := h
 exact ⟨⟨vs, own_past h1 hg hr, h2.mono fun _ _ x => own_past x hg hr, h3⟩, own_past h4 hg hr, ⟨ps, own_past h5 hg hr, h6.mono fun _ _ x => ⟨own_past x.1 hg hr, x.2⟩, h7⟩, own_past h8 hg hr⟩
theorem rows_nils {lo : Nat} {w : World} {v : Value} (h : w.ownsRow lo 38 1 v 16 (List.replicate 16 (.slice none 0 0))) : OwnRows lo w v (List.replicate 16 (.slice none 0 0)) (List.replicate 16 []) := by
 refine ⟨h, ⟨rfl, fun i x y hx hy => ?_⟩, fun i j u u' _ hi hj => ?_⟩
 ·rw [List.getElem?_replicate] at hx hy
  split at hx
  ·rw [if_pos (by assumption)] at hy
   cases hx; cases hy
   exact World.ownsRow_nil _ _ _ _
  ·cases hx
 ·rw [List.getElem?_replicate] at hi
  split at hi
  ·cases hi; intro b hb; simp [Value.ownBlock] at hb
  ·cases hi
theorem rd3_lit (w : World) (s : ByteArray) (t : TypeId) : RdStrs (w.alloc (.cells #[.string s] t)) (.slice (some ⟨w.heap.size, 0, none⟩) 1 1) [s] :=
 Rd.newsAt w #[.string s] t 1 1 _ rfl rfl (by simp [maxLen])
theorem rd3_new (w : World) (a b c : ByteArray) (t u : TypeId) :
 RdTexts ((((w.alloc (.cells #[.string a] t)).alloc (.cells #[.string b] t)).alloc (.cells #[.string c] t)).alloc (.cells #[.slice (some ⟨w.heap.size, 0, none⟩) 1 1, .slice (some ⟨w.heap.size + 1, 0, none⟩) 1 1, .slice (some ⟨w.heap.size + 1 + 1, 0, none⟩) 1 1] u))
  (.slice (some ⟨w.heap.size + 1 + 1 + 1, 0, none⟩) 3 3) [[a], [b], [c]] := by
 have h1 := rd3_lit w a t
 have h2 := rd3_lit (w.alloc (.cells #[.string a] t)) b t
 have h3 := rd3_lit ((w.alloc (.cells #[.string a] t)).alloc (.cells #[.string b] t)) c t
 simp only [World.size_alloc] at h2 h3
 refine ⟨[.slice (some ⟨w.heap.size, 0, none⟩) 1 1, .slice (some ⟨w.heap.size + 1, 0, none⟩) 1 1, .slice (some ⟨w.heap.size + 1 + 1, 0, none⟩) 1 1], ?_, rfl, ?_⟩
 ·exact Rd.newsAt _ #[_, _, _] u 1 3 _ (by simp) rfl (by simp [maxLen])
 ·intro i x y hx hy
  match i, hx, hy with
  | 0, hx, hy => simp at hx hy; subst hx hy; exact ((RdF.below h1 (below1 _ _)).below (below1 _ _)).below (below1 _ _)
  | 1, hx, hy => simp at hx hy; subst hx hy; exact (RdF.below h2 (below1 _ _)).below (below1 _ _)
  | 2, hx, hy => simp at hx hy; subst hx hy; exact RdF.below h3 (below1 _ _)
def newTops : List (List ByteArray) := [[gA], [gB], [gC]]
theorem newTops_ok : ∀ ts ∈ newTops, rightsOk ts = true := by
 intro ts h
 simp only [newTops, List.mem_cons, List.not_mem_nil, or_false] at h
 rcases h with rfl | rfl | rfl <;> decide +kernel
theorem newTops_small : ∀ ts ∈ newTops, SmallS ts := fun ts h => small_rights (newTops_ok ts h)
theorem newKern_new : newKern newTops = newAt 0 := by kernel_rfl
def nP (l : Int) (n k : Nat) : PagerV := ⟨newAt n, List.replicate 16 [], (List.range k).map (fun j => ((j + 1 : Nat) : Int)), List.replicate 16 ⟨0, 0, false⟩, 0, l⟩
theorem nP_last (l : Int) : nP l 15 4 = newP l := by unfold nP newP; rw [newAt_last]; rfl
def NewPRes (w : World) (l : Int) (r : Ending) (w' : World) : Prop := ∃ m i e c s lo q, r = .returned (.tuple #[pagerAgg m i e c s lo q 0 l, .bool true]) ∧ OwnP w.heap.size w' m i e c s lo q (newP l) ∧ Below w.heap.size w w'
theorem madePages : (madeCells (Value.agg #[.int .i64 0, .int .i64 0, .bool false]).cells (16 * 3)).toList = flat pageCs (List.replicate 16 ⟨0, 0, false⟩) := by kernel_rfl
def BuiltP (lo : Nat) (v : Value) (w : World) (m i e c : Value) (l : Int) : Prop := ∃ s q, v = .agg #[m, i, e, c, s, .slice none 0 0, q, .int .i64 0, .int .i64 l] ∧ OwnRows lo w s (List.replicate 16 (.slice none 0 0)) (List.replicate 16 []) ∧ OwnF lo 169 3 pageCs w q (List.replicate 16 ⟨0, 0, false⟩)
theorem BuiltP.below {lo : Nat} {v : Value} {w w' : World} {m i e c : Value} {l : Int} (h : BuiltP lo v w m i e c l) (hb : Below w.heap.size w w') : BuiltP lo v w' m i e c l := by
 obtain ⟨s, q, h1, h2, h3⟩ := h
 exact ⟨s, q, h1, h2.below hb, h3.below hb⟩
def FreshPg (lo : Nat) (v : Value) (w : World) : Prop := ∃ g, v = .pointer (some ⟨g, 0, none⟩) ∧ lo ≤ g ∧ w.heap[g]? = some (.cells #[.slice none 0 0, .slice none 0 0, .slice none 0 0, .slice none 0 0, .slice none 0 0, .slice none 0 0, .slice none 0 0, .int .i64 0, .int .i64 0] 46 (0, 0))
theorem FreshPg.below {lo : Nat} {v : Value} {w w' : World} (h : FreshPg lo v w) (hb : Below w.heap.size w w') : FreshPg lo v w' := by
 obtain ⟨g, h1, h2, h3⟩ := h
 exact ⟨g, h1, h2, blk_below h3 hb⟩
theorem ncall {lo g : Nat} {w : World} {mv iv ev cv sv lv qv : Value} {l : Int} {n k : Nat} (h : InP lo g w mv iv ev cv sv lv qv (nP l n k)) (hlo : lo ≤ w.heap.size) (hn : n ≤ 15) (call : CallV) (he : call.e = 0) (hnm : call.nm.size ≤ maxLen) (hcc : call.c ≤ 9223372036854775807) {v : Int} (hc : callP (newAt n) call = (newAt (n + 1), v, 0)) :
 Calls Tryz.prog 56 #[.pointer (some ⟨g, 0, none⟩), .agg #[.int .i64 call.k, .int .i64 call.e, .int .i64 call.a, .int .i64 call.b, .int .i64 call.c, .string call.nm]] w
  (fun r w' => r = .returned (.int .i64 v) ∧ (∃ m i e c, InP lo g w' m i e c sv lv qv (nP l (n + 1) k) ∧ OwnK w.heap.size w' m i e c (newAt (n + 1))) ∧ Below lo w w' ∧ w.grownBy w' (some g)) := by
 refine (pcall_any h hlo (newAt_ok n hn) call (by omega) (by omega) hnm hcc).mono ?_
 rintro r w' ⟨h1, h2, h3⟩
 have e : callP (nP l n k).kern call = (newAt (n + 1), v, 0) := hc
 rw [e] at h1 h2
 exact ⟨h1, h2, h3⟩
theorem own_slice {w : World} {lo e sz n : Nat} {v : Value} {xs : List Value} (h : w.ownsRow lo e sz v n xs) : ∃ a n c, v = .slice a n c := by
 rcases h.2 with ⟨rfl, _⟩ | ⟨g', cap, cur, rfl, _⟩
 ·exact ⟨_, _, _, rfl⟩
 ·exact ⟨_, _, _, rfl⟩
def lowXs (k : Nat) : List Int := (List.range k).map fun j => ((j + 1 : Nat) : Int)
theorem lowXs_next (k : Nat) : lowXs (k + 1) = lowXs k ++ [((k + 1 : Nat) : Int)] := by simp [lowXs, List.range_succ]
theorem lowXs_len (k : Nat) : (lowXs k).length = k := by simp [lowXs]
theorem nP_push {lo B g n k : Nat} {w3 w4 w5 : World} {m i e c sv lv pv o' : Value} {l fr : Int} (I3 : InP lo g w3 m i e c sv lv pv (nP l n k)) (S3 : OwnRows lo w3 sv (List.replicate 16 (.slice none 0 0)) (List.replicate 16 [])) (K3 : OwnK B w3 m i e c (newAt n)) (hB : lo ≤ B)
 (hr : ∀ b, lv.ownBlock = some b → b < B) (b4 : Below w3.heap.size w3 w4) (q1 : w5.ownsRow lo 3 1 o' (k + 1) ((lowXs k).map (Value.int .i64) ++ [.int .i64 fr])) (q2 : w4.grownBy w5 lv.ownBlock) (hfr : fr = ((k + 1 : Nat) : Int)) :
 w5.heap[g]? = some (.cells #[m, i, e, c, sv, lv, pv, .int .i64 0, .int .i64 l] 46 (0, 0)) ∧ InP lo g (w5.setCell ⟨g, 5, none⟩ o') m i e c sv o' pv (nP l n (k + 1)) ∧ OwnRows lo (w5.setCell ⟨g, 5, none⟩ o') sv (List.replicate 16 (.slice none 0 0)) (List.replicate 16 []) := by
 have I4 := I3.below b4
 have S4 := S3.below b4
 have hne := own_row_ne I4.own.low I4.blk (by decide)
 have hB5 := (q2.block g (blk_lt I4.blk) (fun e => hne e.symm)).trans I4.blk
 have gr := grown_set w5 g 5 o'
 have S6 := (rows_nils (own_grown S4.1 q2 (apart_type S4.1 I4.own.low (by decide)).ne)).far gr hB5 (by decide) (by decide)
 refine ⟨hB5, ⟨?_, I3.glo, ⟨(((K3.below b4).past q2 hr).lower hB).far gr hB5 (by decide) (by decide) (by decide) (by decide) (by decide) (by decide), ⟨_, S6⟩, ?_, own_far (own_grown I4.own.pgs q2 (apart_type I4.own.pgs I4.own.low (by decide)).ne) gr hB5 (by decide), I3.own.apart⟩⟩, S6⟩
 ·have := heap_setCell_same w5 g 5 _ _ o' hB5
  simpa [nP] using this
 ·show OwnInts lo _ o' (lowXs (k + 1))
  rw [lowXs_next, ← hfr]
  have : OwnInts lo w5 o' (lowXs k ++ [fr]) := by simpa [OwnInts, lowXs_len] using q1
  exact own_far this gr hB5 (by decide)
set_option maxRecDepth 100000 in
set_option maxHeartbeats 2000000 in
theorem PagerNew_yes (l : Int) (w : World) (h1 : 1 ≤ l) (h6 : l ≤ 6) : Calls Tryz.prog 15 #[.int .i64 l] w (NewPRes w l) := by
 have N0 := heap_alloc_new w (.cells #[.slice none 0 0, .slice none 0 0, .slice none 0 0, .slice none 0 0, .slice none 0 0, .slice none 0 0, .slice none 0 0, .int .i64 0, .int .i64 0] 46)
 have b0 := below1 w (.cells #[.slice none 0 0, .slice none 0 0, .slice none 0 0, .slice none 0 0, .slice none 0 0, .slice none 0 0, .slice none 0 0, .int .i64 0, .int .i64 0] 46)
 have hs0 : (w.alloc (.cells #[.slice none 0 0, .slice none 0 0, .slice none 0 0, .slice none 0 0, .slice none 0 0, .slice none 0 0, .slice none 0 0, .int .i64 0, .int .i64 0] 46)).heap.size = w.heap.size + 1 := by simp
 go_enter Tryz.func15, Tryz.ntmps15
 go_wp2_with fail
 refine (within_any _ _ _ _).mono ?_; rintro e w' ⟨rfl, rfl⟩
 rw [show inB l 1 6 = true from inB_iff.2 ⟨h1, h6⟩]
 generalize w.alloc _ = W0 at *
 have Hs0 := Lib.hid hs0
 clear hs0
 go_wp2_with fail
 have hr3 := rd3_new W0 ⟨#[97]⟩ ⟨#[98]⟩ ⟨#[99]⟩ 9 36
 have bn := ((below2 W0 (.cells #[.string ⟨#[97]⟩] 9) (.cells #[.string ⟨#[98]⟩] 9)).trans ((below1 _ (.cells #[.string ⟨#[99]⟩] 9)).mono (below2 W0 _ _).size))
 replace bn := bn.trans ((below1 _ (.cells #[.slice (some ⟨W0.heap.size, 0, none⟩) 1 1, .slice (some ⟨W0.heap.size + 1, 0, none⟩) 1 1, .slice (some ⟨W0.heap.size + 1 + 1, 0, none⟩) 1 1] 36)).mono bn.size)
 generalize (((W0.alloc _).alloc _).alloc _).alloc _ = w5 at *
 refine (KernelNew_impl _ newTops w5 hr3 rfl newTops_ok newTops_small).mono ?_; rintro e w6 ⟨mk, ik, ek, ck, rfl, O6, b6⟩
 rw [newKern_new] at O6
 obtain ⟨⟨ma, mn, mc, rfl⟩, ⟨ia, iN, ic, rfl⟩, ⟨ea, en, ec, rfl⟩, ⟨qa, qn, qc, rfl⟩⟩ := O6.shapes
 have b7 := below1 w6 (.cells #[.slice ma mn mc, .slice ia iN ic, .slice ea en ec, .slice qa qn qc] 33)
 have N7 := heap_alloc_new w6 (.cells #[.slice ma mn mc, .slice ia iN ic, .slice ea en ec, .slice qa qn qc] 33)
 have O7 := (O6.below b7).lower bn.size
 have B7 := bn.trans ((b6.trans (b7.mono b6.size)).mono bn.size)
 go_wp2_with fail
 generalize w6.heap.size = gk at N7 ⊢
 generalize w6.alloc _ = W7 at *
 obtain ⟨k0, k1, k2, k3⟩ := blk_cells4 N7
 have hgk := blk_lt N7
 have HO := Lib.hid O7
 have HB := Lib.hid B7
 have HN := Lib.hid N0
 have Hb := Lib.hid b0
 clear hr3 bn O6 b6 b7 N7 O7 B7 N0 b0
 refine wp_region_grow 6 Tryz.mixed (by kernel_rfl) 64 rfl (by kernel_rfl) (fun ix vv ww => match ix with
  | 0 => vv = .agg #[.slice ma mn mc, .slice ia iN ic, .slice ea en ec, .slice qa qn qc]
  | 1 => OwnRows W7.heap.size ww vv (List.replicate 16 (.slice none 0 0)) (List.replicate 16 [])
  | 2 => OwnF W7.heap.size 169 3 pageCs ww vv (List.replicate 16 ⟨0, 0, false⟩)
  | 3 => vv = .int .i64 l
  | 4 => BuiltP W7.heap.size vv ww (.slice ma mn mc) (.slice ia iN ic) (.slice ea en ec) (.slice qa qn qc) l
  | 5 => FreshPg W7.heap.size vv ww
  | _ => True) ?_ ?_ ?_
 ·intro i hi vv wz ww' hbz hz
  match i, hi with
  | 0, _ => exact hz
  | 1, _ => exact (OwnRows.below hz hbz)
  | 2, _ => exact (OwnF.below hz hbz)
  | 3, _ => exact hz
  | 4, _ => exact (BuiltP.below hz hbz)
  | 5, _ => exact (FreshPg.below hz hbz)
 ·intro i hi o ho a wx Hb Hd hG K HK
  match i, hi with
  | 0, _ => exact dL ho rfl (gn rfl) HK rfl (eb (Hb.out.2.2 4 (by decide))) (lA33 (bc hG hgk k0) (bc hG hgk k1) (bc hG hgk k2) (bc hG hgk k3)) rfl
  | 1, _ =>
   obtain rfl := Option.some.inj ho
   clear Hd Hb
   obtain ⟨i0, hi0, hz0, hz1, hz2⟩ := info_parts Tryz.infoRow
   obtain ⟨w9, hrun, h3, h4⟩ := run_make_full (P := Tryz.prog) wx wx.heap.size 28 38 i0 _ 1 Tryz.underlying28 hi0 hz0 hz1 .i64 .i64 16 (by rw [hz2]; decide) (by decide) (Nat.le_refl _)
   have h5 := Below.of_grown h4
   rw [madeOnes (.slice none 0 0) rfl 16] at h3
   have hrun' : (Instr.makeSlice 28 (.int .i64 16) (.int .i64 16)).run Tryz.prog wx = .ok (.slice (some ⟨wx.heap.size, 0, none⟩) 16 16) w9 := hrun
   clear hi0 hz0 hz1 hz2 hrun
   refine Does.of rfl ?_
   go_simp
   exact HK.out _ _ ((rows_nils h3).lower hG.size) h5
  | 2, _ =>
   obtain rfl := Option.some.inj ho
   clear Hd Hb
   obtain ⟨i0, hi0, hz0, hz1, hz2⟩ := info_parts Tryz.infoPageK
   obtain ⟨w9, hrun, h3, h4⟩ := run_make_full (P := Tryz.prog) wx wx.heap.size 44 169 i0 _ 3 Tryz.underlying44 hi0 hz0 hz1 .i64 .i64 16 (by rw [hz2]; decide) (by decide) (Nat.le_refl _)
   have h5 := Below.of_grown h4
   rw [madePages] at h3
   have hrun' : (Instr.makeSlice 44 (.int .i64 16) (.int .i64 16)).run Tryz.prog wx = .ok (.slice (some ⟨wx.heap.size, 0, none⟩) 16 16) w9 := hrun
   clear hi0 hz0 hz1 hz2 hrun
   refine Does.of rfl ?_
   go_simp
   exact HK.out _ _ (own_loV h3 hG.size) h5
  | 3, _ => exact dM ho rfl (gn rfl) HK rfl (eb (Hb.out.2.2 0 (by decide))) rfl
  | 4, _ =>
   obtain rfl := Option.some.inj ho
   have d0 : (a.tmps[24]?.getD undef) = .agg #[.slice ma mn mc, .slice ia iN ic, .slice ea en ec, .slice qa qn qc] := Hd.out 0 (by kernel_rfl)
   have d1 : OwnRows W7.heap.size wx (a.tmps[25]?.getD undef) (List.replicate 16 (.slice none 0 0)) (List.replicate 16 []) := Hd.out 1 (by kernel_rfl)
   have d2 : OwnF W7.heap.size 169 3 pageCs wx (a.tmps[26]?.getD undef) (List.replicate 16 ⟨0, 0, false⟩) := Hd.out 2 (by kernel_rfl)
   have d3 : (a.tmps[27]?.getD undef) = .int .i64 l := Hd.out 3 (by kernel_rfl)
   clear Hd Hb
   generalize e25 : a.tmps[25]?.getD undef = s' at d1
   generalize e26 : a.tmps[26]?.getD undef = q' at d2
   have D1 := Lib.hid d1
   have D2 := Lib.hid d2
   obtain ⟨_, _, rfl, _, _⟩ := d1.1.rd.shape
   obtain ⟨_, _, rfl, _, _⟩ := d2.rd.shape
   clear d1 d2
   refine Does.of rfl ?_
   go_simp
   exact HK.out _ _ ⟨_, _, rfl, D1.out, D2.out⟩ (Below.refl _ _)
  | 5, _ =>
   obtain rfl := Option.some.inj ho
   clear Hd Hb
   refine Does.of rfl ?_
   go_simp
   exact HK.out _ _ ⟨_, rfl, hG.size, heap_alloc_new _ _⟩ (below1 _ _)
 ·intro vs wx hR hG
  have q4 : BuiltP W7.heap.size (vs 4) wx (.slice ma mn mc) (.slice ia iN ic) (.slice ea en ec) (.slice qa qn qc) l := hR 4 (by decide)
  have q5 : FreshPg W7.heap.size (vs 5) wx := hR 5 (by decide)
  clear hR
  simp only [fillAt, dstOf, List.range, List.range.loop, List.foldl_cons, List.foldl_nil]
  simp
  generalize vs 4 = z4 at q4 ⊢
  generalize vs 5 = z5 at q5 ⊢
  obtain ⟨s', q', rfl, r1, r2⟩ := q4
  obtain ⟨g, rfl, hg7, hgB⟩ := q5
  obtain ⟨sa, sn, sc, rfl⟩ : ∃ a n c, s' = .slice a n c := by obtain ⟨_, _, rfl, _, _⟩ := r1.1.rd.shape; exact ⟨_, _, _, rfl⟩
  obtain ⟨pa, pn, pc, rfl⟩ : ∃ a n c, q' = .slice a n c := by obtain ⟨_, _, rfl, _, _⟩ := r2.rd.shape; exact ⟨_, _, _, rfl⟩
  have hap : Apart (.slice ma mn mc) (.slice sa sn sc) := fun b hb hb' => by
   obtain ⟨us, hu⟩ := HO.out.1
   have := (World.ownsRow.lt hu.1 b hb).2
   have := (World.ownsRow.lt r1.1 b hb').1
   omega
  have OP : OwnP W0.heap.size wx (.slice ma mn mc) (.slice ia iN ic) (.slice ea en ec) (.slice qa qn qc) (.slice sa sn sc) (.slice none 0 0) (.slice pa pn pc) (nP l 0 0) := ⟨HO.out.below hG, ⟨_, r1.lower HB.out.size⟩, World.ownsRow_nil _ _ _ _, own_loV r2 HB.out.size, hap⟩
  obtain ⟨x0, x1, x2, x3, x4, x5, x6, x7, x8⟩ := blk_cells9 hgB
  have fz := blk_frozen hgB
  clear k0 k1 k2 k3 hgk r2 hap
  go_step
  go_simp
  have hgr := set9_grown (w := wx) (g := g) (b0 := .slice ma mn mc) (b1 := .slice ia iN ic) (b2 := .slice ea en ec) (b3 := .slice qa qn qc) (b4 := .slice sa sn sc) (b5 := .slice none 0 0) (b6 := .slice pa pn pc) (b7 := .int .i64 0) (b8 := .int .i64 l)
  have N8 := set9_blk (b0 := .slice ma mn mc) (b1 := .slice ia iN ic) (b2 := .slice ea en ec) (b3 := .slice qa qn qc) (b4 := .slice sa sn sc) (b5 := .slice none 0 0) (b6 := .slice pa pn pc) (b7 := .int .i64 0) (b8 := .int .i64 l) hgB
  have O8 := OP.far hgr hgB (by decide) (by decide) (by decide) (by decide) (by decide) (by decide) (by decide)
  have B8 := below_grown (HB.out.trans (hG.mono HB.out.size)) hgr (Nat.le_trans HB.out.size hg7) (Nat.le_trans HB.out.size hG.size)
  have L8 : W0.heap.size ≤ (((set7 wx g (.slice ma mn mc) (.slice ia iN ic) (.slice ea en ec) (.slice qa qn qc) (.slice sa sn sc) (.slice none 0 0) (.slice pa pn pc)).setCell ⟨g, 7, none⟩ (.int .i64 0)).setCell ⟨g, 8, none⟩ (.int .i64 l)).heap.size := Nat.le_trans HB.out.size (Nat.le_trans hG.size hgr.size)
  have S8 := (r1.lower HB.out.size).far hgr hgB (by decide) (by decide)
  have I8 : InP W0.heap.size g _ _ _ _ _ _ _ _ (nP l 0 0) := ⟨N8, Nat.le_trans HB.out.size hg7, O8⟩
  clear r1 N8 O8 hgr OP x0 x1 x2 x3 x4 x5 x6 x7 x8 fz hgB hg7 hG HO HB
  unfold set7 at I8 B8 L8 S8
  generalize ((((((((wx.setCell _ _).setCell _ _).setCell _ _).setCell _ _).setCell _ _).setCell _ _).setCell _ _).setCell _ _).setCell _ _ = W8 at *
  have C := ncall I8 L8 (by omega) ⟨1, 0, 0, 0, 0, ⟨#[97]⟩⟩ rfl (by decide) (by decide) new_top
  dsimp only at C
  go_wp2_with fail
  refine C.mono ?_; rintro r w9 ⟨rfl, ⟨m9, i9, e9, c9, I9, _⟩, b9, g9⟩
  have B9 := B8.trans b9
  have L9 := Nat.le_trans L8 b9.size
  have S9 := S8.far g9 I8.blk (by decide) (by decide)
  have C := ncall I9 L9 (by omega) ⟨4, 0, 0, 3, 0, ⟨#[]⟩⟩ rfl (by decide) (by decide) ((callP_nm (t := gA) ⟨by decide, by decide, by decide⟩).trans new_pin)
  dsimp only at C
  clear I8 S8 B8 L8 b9 g9
  go_wp2_with fail
  refine C.mono ?_; rintro r w10 ⟨rfl, ⟨m10, i10, e10, c10, I10, _⟩, b10, g10⟩
  have B10 := B9.trans b10
  have L10 := Nat.le_trans L9 b10.size
  have S10 := S9.far g10 I9.blk (by decide) (by decide)
  have C := ncall I10 L10 (by omega) ⟨7, 0, 0, 0, 0, ⟨#[]⟩⟩ rfl (by decide) (by decide) ((callP_nm (t := gA) ⟨by decide, by decide, by decide⟩).trans new_root)
  dsimp only at C
  clear I9 S9 B9 L9 b10 g10
  go_wp2_with fail
  refine C.mono ?_; rintro r w11 ⟨rfl, ⟨m11, i11, e11, c11, I11, _⟩, b11, g11⟩
  have B11 := B10.trans b11
  have L11 := Nat.le_trans L10 b11.size
  have S11 := S10.far g11 I10.blk (by decide) (by decide)
  clear I10 S10 B10 L10 b11 g11 C
  go_wp2_with fail
  go_loopw [8, 9, 10, 11, 37] (fun _ _ _ _ ix wr => ∃ k : Nat, k ≤ 4 ∧ ix = .int .i64 k ∧ ∃ m i e c lv, InP W0.heap.size g wr m i e c (.slice sa sn sc) lv (.slice pa pn pc) (nP l (3 * k + 3) k) ∧ OwnRows W0.heap.size wr (.slice sa sn sc) (List.replicate 16 (.slice none 0 0)) (List.replicate 16 []) ∧ Below W0.heap.size W0 wr ∧ W0.heap.size ≤ wr.heap.size) (fun _ _ _ _ ix _ => 4 - (intOf ix).toNat)
  case atStart => exact ⟨0, by omega, rfl, _, _, _, _, _, I11, S11, B11, L11⟩
  case round =>
   clear I11 S11 B11 L11
   obtain ⟨k, hk, rfl, mv, iv, ev, cv, lv, I0, S0, B0, L0⟩ := hrel
   by_cases hlt : k < 4
   ·obtain ⟨fr, hfr⟩ : ∃ fr : Int, fr = ((k + 1 : Nat) : Int) := ⟨_, rfl⟩
    have T1 := new_take k hlt
    have T2 := new_low k hlt
    have T3 := new_set k hlt
    rw [← hfr] at T1 T2 T3
    have hf0 : 0 ≤ fr ∧ fr ≤ 11 := by omega
    have Hfr := Lib.hid hfr
    clear hfr
    have k4 : (k : Int) < 4 := by omega
    have C := ncall I0 L0 (by omega) ⟨1, 0, 0, 0, 0, ⟨#[97]⟩⟩ rfl (by decide) (by decide) T1
    dsimp only at C
    go_wp2_with fail
    refine C.mono ?_; rintro r w1 ⟨rfl, ⟨m1, i1, e1, c1, I1, _⟩, b1, g1⟩
    have B1 := B0.trans b1
    have L1 := Nat.le_trans L0 b1.size
    have S1 := S0.far g1 I0.blk (by decide) (by decide)
    have C := ncall I1 L1 (by omega) ⟨4, 0, fr, 2, 0, ⟨#[]⟩⟩ rfl (show (0 : Nat) ≤ maxLen from Nat.zero_le _) (show (0 : Int) ≤ 9223372036854775807 by decide) ((callP_nm (t := gA) ⟨by decide, by decide, by decide⟩).trans T2)
    dsimp only at C
    clear I0 S0 B0 L0 b1 g1
    go_wp2_with fail
    refine C.mono ?_; rintro r w2 ⟨rfl, ⟨m2, i2, e2, c2, I2, _⟩, b2, g2⟩
    have B2 := B1.trans b2
    have L2 := Nat.le_trans L1 b2.size
    have S2 := S1.far g2 I1.blk (by decide) (by decide)
    clear I1 S1 B1 L1 b2 g2 C
    go_wp2_with fail
    refine (EntryPut_yes fr _ hf0.1 hf0.2).mono ?_; rintro r w3 ⟨rfl, rfl⟩
    have he : ent fr ≤ 9223372036854775807 := by unfold ent; omega
    generalize ent fr = en at T3 he ⊢
    have C := ncall I2 L2 (by omega) ⟨6, 0, 0, (k : Int), en, ⟨#[]⟩⟩ rfl (show (0 : Nat) ≤ maxLen from Nat.zero_le _) he ((callP_nm (t := gA) ⟨by decide, by decide, by decide⟩).trans T3)
    dsimp only at C
    go_wp2_with fail
    refine C.mono ?_; rintro r w3 ⟨rfl, ⟨m3, i3, e3, c3, I3, K3⟩, b3, g3⟩
    have B3 := B2.trans b3
    have L3 := Nat.le_trans L2 b3.size
    have S3 := S2.far g3 I2.blk (by decide) (by decide)
    have hxl := lowXs_len k
    have hlow : OwnInts W0.heap.size w3 lv (lowXs k) := I3.own.low
    have hlt2 : ∀ b, lv.ownBlock = some b → b < w2.heap.size := fun b hb => (World.ownsRow.lt I2.own.low b hb).2
    have HP := Lib.hid (fun w4 w5 o' (b4 : Below w3.heap.size w3 w4) q1 (q2 : w4.grownBy w5 lv.ownBlock) => nP_push (o' := o') (w5 := w5) I3 S3 K3 L2 hlt2 b4 q1 q2 Hfr.out)
    obtain ⟨_, _, _, _, _, c5, _⟩ := blk_cells9 I3.blk
    have f5 := blk_frozen I3.blk
    obtain ⟨la, lc, rfl, _, _, _⟩ := hlow.rd.open
    have b4 := below1 w3 (.cells #[.int .i64 fr] 3)
    have hlow4 : (w3.alloc (.cells #[.int .i64 fr] 3)).ownsRow W0.heap.size 3 1 (.slice la (lowXs k).length lc) k ((lowXs k).map (Value.int .i64)) := by have := OwnInts.below hlow b4; unfold OwnInts at this; rwa [hxl] at this ⊢
    rw [hxl] at hlow4 c5 HP
    have L4 := Nat.le_trans L3 b4.size
    have HI := Lib.hid (And.intro B3 (And.intro b4 L4))
    clear I2 I3 S2 S3 K3 B2 B3 L2 g3 b3 C hlow hlt2 T1 T2 T3
    go_wp2_with (at_builtin; go_must (refine wp_appendL (lo := W0.heap.size) (n := k) (xs := (lowXs k).map (Value.int .i64)) (m := 1) (news := [.int .i64 fr]) rfl rfl 3 (.int .i64 0) 1 8 Tryz.underlying38 Tryz.infoInt rfl (by decide) rfl hlow4 rfl (Rd.newsAt _ #[_] _ 1 1 _ (by simp) rfl (by simp [maxLen])) (by simp [Value.oneCell']) (by unfold maxLen; omega) (by omega) L4 ?_; intro o' w5 q1 q2 q3 q4; obtain ⟨oa, on, oc, rfl⟩ := own_slice q1; have X := HP.out _ _ _ HI.out.2.1 q1 q2; have f6 := blk_frozen X.1; have c6 := cell_of_row _ _ 5 _ _ _ X.1; have HX := Lib.hid X.2; have HQ := Lib.hid q4; clear X q1 q2 q3 q4 hlow4))
    go_roundw
    case rel => exact ⟨k + 1, by omega, by go_num, _, _, _, _, _, HX.out.1, HX.out.2, below_grown (HI.out.1.trans (((HI.out.2.1).mono L3).trans HQ.out)) (grown_set _ _ _ _) HX.out.1.glo (Nat.le_trans HI.out.2.2 HQ.out.size), Nat.le_trans (Nat.le_trans HI.out.2.2 HQ.out.size) (grown_set _ g 5 _).size⟩
    case measure => simp [intOf]; omega
   ·obtain rfl : k = 4 := by omega
    have I1 : InP W0.heap.size g wr mv iv ev cv (.slice sa sn sc) lv (.slice pa pn pc) (newP l) := nP_last l ▸ I0
    have C := pown_any _ _ _ _ _ _ _ (newP l) wr I1.own.rd (newP_ok h1 h6)
    unfold pagerAgg at C
    obtain ⟨x0, x1, x2, x3, x4, x5, x6, x7, x8⟩ := I1.cells
    replace x7 : wr.cell? ⟨g, 7, none⟩ = some (.int .i64 0) := x7
    replace x8 : wr.cell? ⟨g, 8, none⟩ = some (.int .i64 l) := x8
    clear I0 I1 S0
    rw [show ((4 : Nat) : Int) = 4 from rfl]
    go_wp2_with fail
    refine C.mono ?_; rintro r w7 ⟨m7, i7, e7, c7, s7, l7, q7, rfl, OO, b7⟩
    have BB := B0.trans (b7.mono L0)
    have HR := (BB.block w.heap.size (by have := Hs0.out; omega)).trans HN.out
    obtain ⟨⟨⟨na, nn, nc, rfl⟩, ⟨ja, jn, jc, rfl⟩, ⟨fa, fn, fc, rfl⟩, ⟨ra, rn, rc, rfl⟩⟩, ⟨ta, tn, tc, rfl⟩, ⟨la, ln, lc, rfl⟩, ⟨ua, un, uc, rfl⟩⟩ := OO.shapes
    obtain ⟨z0, z1, z2, z3, z4, z5, z6, z7, z8⟩ := blk_cells9 HR
    have fz := blk_frozen HR
    have gr := set9_grown (w := w7) (g := w.heap.size) (b0 := .slice na nn nc) (b1 := .slice ja jn jc) (b2 := .slice fa fn fc) (b3 := .slice ra rn rc) (b4 := .slice ta tn tc) (b5 := .slice la ln lc) (b6 := .slice ua un uc) (b7 := .int .i64 0) (b8 := .int .i64 l)
    have NN := set9_blk (b0 := .slice na nn nc) (b1 := .slice ja jn jc) (b2 := .slice fa fn fc) (b3 := .slice ra rn rc) (b4 := .slice ta tn tc) (b5 := .slice la ln lc) (b6 := .slice ua un uc) (b7 := .int .i64 0) (b8 := .int .i64 l) HR
    have OF := Lib.hid ((OO.far gr HR (by decide) (by decide) (by decide) (by decide) (by decide) (by decide) (by decide)).lower (Nat.le_trans Hb.out.size L0))
    have BF := Lib.hid (below_grown (Hb.out.trans (BB.mono Hb.out.size)) gr (Nat.le_refl _) (Nat.le_trans (Nat.le_trans Hb.out.size L0) b7.size))
    have HE := Lib.hid (blk_cells9 NN)
    dsimp only [pagerAgg, newP]
    clear OO BB HR gr NN C x0 x1 x2 x3 x4 x5 x6 x7 x8 B0 b7
    go_wp2_with fail
    obtain ⟨E0, E1, E2, E3, E4, E5, E6, E7, E8⟩ := HE.out
    unfold set7 at E0 E1 E2 E3 E4 E5 E6 E7 E8
    exact bodyPost_ret (v := .tuple #[.agg #[_, _, _, _, _, _, _, _, _], _]) (by simp [results, Tryz.results15, go_sem, E0, E1, E2, E3, E4, E5, E6, E7, E8]) rfl ⟨_, _, _, _, _, _, _, rfl, OF.out, BF.out⟩
def PTo (lo g : Nat) (w : World) (s l q : Value) (P : PagerV) (k' : KernV) (w' : World) : Prop :=
 (∃ m i e c, InP lo g w' m i e c s l q { P with kern := k' } ∧ OwnK w.heap.size w' m i e c k') ∧ Below lo w w' ∧ w.grownBy w' (some g)
theorem low_cell {lo : Nat} {w : World} {v : Value} {xs : List Int} (h : OwnInts lo w v xs) {j : Nat} (hj : j < xs.length) : ∃ b cap, v = .slice (some ⟨b, 0, none⟩) xs.length cap ∧ b < w.heap.size ∧ w.cell? ⟨b, j, none⟩ = some (.int .i64 (xs.getD j 0)) := by
 have h0 := h
 unfold OwnInts at h0
 rcases h0.2 with ⟨rfl, e⟩ | ⟨b, cap, cur, rfl, _, _, _⟩
 ·omega
 ·refine ⟨b, cap, rfl, (World.ownsRow.lt h0 b rfl).2, ?_⟩
  have := World.ownsRow.cellAt h0 j (by omega)
  rw [this]
  simp [List.getD_eq_getElem?_getD, hj]
set_option maxRecDepth 100000 in
set_option maxHeartbeats 1000000 in
theorem pset_any {lo g : Nat} {w : World} {mv iv ev cv sv lv qv : Value} {P : PagerV} (h : InP lo g w mv iv ev cv sv lv qv P) (hlo : lo ≤ w.heap.size) (hK : KOk P.kern) (hll : P.low.length = 4) {n : Nat} (hn : n < 16) (wd : Int) (hw : wd ≤ 9223372036854775807) :
 Calls Tryz.prog 259 #[.pointer (some ⟨g, 0, none⟩), .int .i64 (n : Int), .int .i64 wd] w (fun r w' => r = .returned (.tuple #[]) ∧ PTo lo g w sv lv qv P (callP P.kern (setCall P n wd)).1 w') := by
 obtain ⟨a, ha⟩ : ∃ a, a = n / 4 := ⟨_, rfl⟩
 obtain ⟨b, hb⟩ : ∃ b, b = n % 4 := ⟨_, rfl⟩
 have e : callP P.kern (setCall P n wd) = callP P.kern ⟨6, 0, lowAt P.low a, (b : Int), wd, ⟨#[]⟩⟩ := by
  subst ha hb
  exact (callP_nm ⟨by decide, by decide, by decide⟩)
 rw [e]
 have q1 : (n : Int) / 4 = (a : Int) := by omega
 have q2 : (n : Int) % 4 = (b : Int) := by omega
 have C := pcall_any h hlo hK ⟨6, 0, lowAt P.low a, (b : Int), wd, ⟨#[]⟩⟩ (show (0 : Int) ≤ 0 by decide) (show (0 : Int) < 3 by decide) (Nat.zero_le _) hw
 obtain ⟨_, _, _, _, _, c5, _⟩ := h.cells
 obtain ⟨lb, lc, rfl, hlb, D⟩ := low_cell h.own.low (j := a) (by omega)
 rw [hll] at C c5
 replace D : w.cell? ⟨lb, a, none⟩ = some (.int .i64 (lowAt P.low a)) := D
 have ha4 : (a : Int) < 4 := by omega
 have Hn := Lib.hid hn
 generalize lowAt P.low a = la at *
 dsimp only at C
 unfold PEnd at C
 clear h ha hb e hn
 go_enter Tryz.func259, Tryz.ntmps259
 go_wp2_with fail
 refine C.mono ?_; rintro r w1 ⟨rfl, h2⟩
 have H2 := Lib.hid h2
 clear h2 C D c5
 go_wp2_with fail
 go_returns
 exact ⟨rfl, by rw [hll]; exact H2.out⟩
theorem count_take {l : List PageV} {k : Nat} {x : PageV} (h : l[k]? = some x) (wh : Int) : countW (l.take (k + 1)) wh = countW (l.take k) wh + b2n (isW wh x) := by
 rw [take_one h]
 unfold countW
 rw [List.countP_append]
 simp [List.countP_cons, b2n]
set_option maxRecDepth 100000 in
set_option maxHeartbeats 1000000 in
theorem pcount_any {g : Nat} {w : World} {qv : Value} {ps : List PageV} (hq : w.cell? ⟨g, 6, none⟩ = some qv) (hR : RdF 3 pageCs w qv ps) (hl : ps.length = 16) (wh : Int) :
 Calls Tryz.prog 72 #[.pointer (some ⟨g, 0, none⟩), .int .i64 wh] w (fun r w' => r = .returned (.int .i64 (countW ps wh : Int)) ∧ Below w.heap.size w w') := by
 obtain ⟨a, c, rfl, _⟩ := hR.shape
 have H0 := AtF.of pageCs_len (by decide) hR
 rw [hl] at hq
 go_enter Tryz.func72, Tryz.ntmps72
 go_wp2_with fail
 go_loopw [5, 7, 13] (fun n _ ix wr => ∃ k : Nat, k ≤ 16 ∧ ix = .int .i64 k ∧ n = .int .i64 (countW (ps.take k) wh : Int) ∧ Below w.heap.size w wr) (fun _ _ ix _ => 16 - (intOf ix).toNat)
 case atStart => exact ⟨0, by omega, rfl, rfl, Below.refl _ _⟩
 case round =>
  obtain ⟨k, hk, rfl, rfl, hb⟩ := hrel
  by_cases hlt : k < 16
  ·obtain ⟨x, hx⟩ : ∃ x, ps[k]? = some x := ⟨_, List.getElem?_eq_getElem (by omega)⟩
   obtain ⟨b, off, rfl, hbl, hc⟩ := (H0.below hb) k x hx
   have D0 := hc 0 _ rfl
   have D1 := hc 1 _ rfl
   have D2 := hc 2 _ rfl
   rw [Nat.add_zero] at D0
   have Nx := Lib.hid (count_take hx wh)
   have hcl : countW (ps.take k) wh ≤ 16 := by unfold countW; exact Nat.le_trans List.countP_le_length (by rw [List.length_take]; omega)
   generalize countW (ps.take k) wh = n at *
   have k16 : (k : Int) < 16 := by omega
   obtain ⟨xw, xa, xu⟩ := x
   have bw := Lib.hid (hb.trans ((below1 wr (.cells #[.int .i64 xw, .int .i64 xa, .bool xu] 169)).mono hb.size))
   clear hc hx H0 hR
   by_cases hw : xw = wh
   ·subst hw
    have t1 : b2n (isW xw ⟨xw, xa, xu⟩) = 1 := by simp [isW, b2n]
    go_wp2_with fail
    go_roundw
    case rel => exact ⟨k + 1, by omega, by go_num, by rw [Nx.out, t1]; go_num, bw.out⟩
    case measure => simp [intOf]; omega
   ·have t1 : b2n (isW wh ⟨xw, xa, xu⟩) = 0 := by simp [isW, b2n, hw]
    have t2 : (xw == wh) = false := by simp [hw]
    clear hw
    go_wp2_with fail
    go_roundw
    case rel => exact ⟨k + 1, by omega, by go_num, by rw [Nx.out, t1]; go_num, bw.out⟩
    case measure => simp [intOf]; omega
  ·obtain rfl : k = 16 := by omega
   rw [List.take_of_length_le (by omega)]
   go_wp2_with fail
   go_ret
   exact ⟨rfl, hb⟩
theorem flat_oneCs (vs : List Value) : flat oneCs vs = vs := by
 induction vs with
 | nil => rfl
 | cons v vs ih => rw [flat_cons, ih]; rfl
theorem OwnRows.set {lo B : Nat} {w0 w : World} {gs n cap j : Nat} {vs : List Value} {S : List (List Int)} {v' : Value} {r : List Int} (h : OwnRows lo w0 (.slice (some ⟨gs, 0, none⟩) n cap) vs S) (hb : Below w0.heap.size w0 w) (hO : OwnInts B w v' r) (hB : w0.heap.size ≤ B) (hlo : lo ≤ w0.heap.size) (hn : n = vs.length) (hj : j < vs.length) :
 OwnRows lo (w.setCell ⟨gs, j, none⟩ v') (.slice (some ⟨gs, 0, none⟩) n cap) (vs.set j v') (S.set j r) ∧ w.grownBy (w.setCell ⟨gs, j, none⟩ v') (some gs) := by
 have h' := h.below hb
 obtain ⟨h1, ⟨h2l, h2⟩, h3⟩ := h'
 have g1 : w.ownsRow lo 38 1 (.slice (some ⟨gs, 0, none⟩) n cap) n vs := by have := h1; unfold OwnF at this; rw [flat_oneCs, ← hn] at this; exact this
 obtain ⟨s1, s2⟩ := World.ownsRow.stored g1 j v'
 obtain ⟨cur, hcur⟩ := own_type g1 gs rfl
 have old : ∀ (i : Nat) u, vs[i]? = some u → ∀ b, u.ownBlock = some b → b < w0.heap.size := fun i u hu b hb' => by
  obtain ⟨x, hx⟩ : ∃ x, S[i]? = some x := ⟨_, List.getElem?_eq_getElem (by rw [← h2l]; exact (List.getElem?_eq_some_iff.1 hu).1)⟩
  exact (World.ownsRow.lt (h.2.1.2 i u x hu hx) b hb').2
 refine ⟨⟨?_, ⟨by rw [List.length_set, List.length_set]; exact h2l, fun i u x hu hx => ?_⟩, fun i k u u' hik hu hu' => ?_⟩, s2⟩
 ·unfold OwnF
  rw [flat_oneCs, List.length_set, ← hn]
  exact s1
 ·rw [List.getElem?_set] at hu hx
  by_cases e : j = i
  ·subst e
   rw [if_pos rfl, if_pos hj] at hu
   rw [if_pos rfl, if_pos (by rw [← h2l]; exact hj)] at hx
   cases hu; cases hx
   exact own_far (own_loV hO (Nat.le_trans hlo hB)) s2 hcur (by decide)
  ·rw [if_neg e] at hu hx
   exact own_far (h2 i u x hu hx) s2 hcur (by decide)
 ·have fresh : ∀ b, v'.ownBlock = some b → w0.heap.size ≤ b := fun b hb' => Nat.le_trans hB (World.ownsRow.lt hO b hb').1
  rw [List.getElem?_set] at hu hu'
  by_cases e : j = i
  ·subst e
   rw [if_pos rfl, if_pos hj] at hu
   rw [if_neg hik] at hu'
   cases hu
   intro b hb1 hb2
   have := fresh b hb1; have := old k u' hu' b hb2; omega
  ·rw [if_neg e] at hu
   by_cases e' : j = k
   ·subst e'
    rw [if_pos rfl, if_pos hj] at hu'
    cases hu'
    intro b hb1 hb2
    have := fresh b hb2; have := old i u hu b hb1; omega
   ·rw [if_neg e'] at hu'
    exact h3 i k u u' hik hu hu'
set_option maxHeartbeats 400000 in
theorem swapPut1_any (v : Value) (r : List Int) (w : World) (h : RdInts w v r) : Calls Tryz.prog 338 #[v] w fun e w' => e = .returned (.bool r.isEmpty) ∧ Below w.heap.size w w' := by
 obtain ⟨a, c, rfl, _, _, _⟩ := h.open
 have S := Lib.hid (show ((r.length : Int) == 0) = r.isEmpty by cases r <;> simp <;> omega)
 go_enter Tryz.func338, Tryz.ntmps338
 go_wp2_with fail
 go_ret
 exact ⟨ret_bool S.out, Below.refl _ _⟩
set_option maxRecDepth 100000 in
set_option maxHeartbeats 1000000 in
theorem swapPut_any {lo : Nat} {w : World} {sv v : Value} {vs : List Value} {S : List (List Int)} {r : List Int} (hs : OwnRows lo w sv vs S) (hl : S.length = 16) (hlo : lo ≤ w.heap.size) (hr : RdInts w v r) (h4 : r.length ≤ 4) {j : Nat} (hj : freeSlot S = (j : Int)) (hj16 : j < 16) :
 Calls Tryz.prog 311 #[sv, v] w (fun e w' => e = .returned (.int .i64 (j : Int)) ∧ (∃ vs', OwnRows lo w' sv vs' (S.set j r)) ∧ Below lo w w' ∧ w.grownBy w' sv.ownBlock) := by
 have hvl : vs.length = 16 := by rw [hs.2.1.1, hl]
 have C := IndexFuncRows_any 338 #[] List.isEmpty sv S w hs.rd (fun _ _ => by kernel_rfl) (fun u r _ W _ hr => swapPut1_any u r W hr)
 rw [show findIx List.isEmpty S = (j : Int) from hj] at C
 obtain ⟨gs, cap, rfl, c1, c2, q1, q2, hfz⟩ := hs.1.shapeOwn (by omega)
 rw [hvl] at hs C ⊢
 have hj0 : ¬ (j : Int) < 0 := by omega
 have hj1 : (j : Int) < 16 := by omega
 go_enter Tryz.func311, Tryz.ntmps311
 go_wp2_with fail
 refine C.mono ?_; rintro e w1 ⟨rfl, b1⟩
 go_wp2_with fail
 refine (CloneInts_any v r w1 (hr.below b1) (by omega)).mono ?_; rintro e w2 ⟨v', rfl, hO, b2⟩
 have bb := b1.trans (b2.mono b1.size)
 have R := hs.set (B := w1.heap.size) (j := j) bb hO b1.size hlo hvl.symm (by omega)
 have g1 : w2.ownsRow lo 38 1 (.slice (some ⟨gs, 0, none⟩) 16 cap) 16 vs := by have := (hs.below bb).1; unfold OwnF at this; rwa [flat_oneCs, hvl] at this
 have C1 := World.ownsRow.cellAt g1 j (by omega)
 rw [List.getElem?_eq_getElem (by omega)] at C1
 have F1 := World.ownsRow.frozenAt g1 j
 have B1 := Lib.hid (below_grown (bb.mono hlo) R.2 (World.ownsRow.lt hs.1 gs rfl).1 (Nat.le_trans hlo bb.size))
 have G1 := Lib.hid (grown_trans (⟨bb.os, bb.tape, bb.output, bb.size, fun k hk _ => bb.block k hk⟩ : w.grownBy w2 (some gs)) R.2)
 have R1 := Lib.hid R.1
 have c16 : (16 : Int) ≤ cap := by omega
 obtain ⟨ra, rn, rc, rfl⟩ := own_slice hO
 clear C hO R g1 b1 b2 bb hfz
 go_wp2_with fail
 go_ret
 exact ⟨rfl, ⟨_, R1.out⟩, B1.out, G1.out⟩
theorem mineP_kind {infos : List InfoV} {f : Nat} (hk : KGok (infoAt infos f)) : mineP infos f = (decide ((infoAt infos f).g = gA) && decide ((infoAt infos f).r = 1) && decide ((infoAt infos f).k ≠ 0)) := by
 unfold mineP
 by_cases h : (infoAt infos f).g = gA
 ·have : (infoAt infos f).k ≠ 0 := fun e => by
   rcases hk with ⟨_, g⟩ | ⟨a, _⟩
   ·rw [h] at g; cases g
   ·omega
  simp [this]
 ·simp [h]
set_option maxRecDepth 100000 in
set_option maxHeartbeats 1000000 in
theorem isMine_any {g : Nat} {w : World} {iv : Value} {infos : List InfoV} (hi : w.cell? ⟨g, 1, none⟩ = some iv) (hR : RdF 3 infoCs w iv infos) (hl : infos.length = 12) {f : Nat} (hf : f < 12) (hk : KGok (infoAt infos f)) :
 Calls Tryz.prog 137 #[.pointer (some ⟨g, 0, none⟩), .int .i64 (f : Int)] w (fun r w' => r = .returned (.bool (mineP infos f)) ∧ Below w.heap.size w w') := by
 have E := Lib.hid (mineP_kind hk)
 obtain ⟨a, c, rfl, hc1, hc2⟩ := hR.shape
 have H0 := AtF.of infoCs_len (by decide) hR
 have hx : infos[f]? = some (infoAt infos f) := infoAt_get (by omega)
 obtain ⟨b, off, rfl, hbl, hc⟩ := H0 f _ hx
 have D0 := hc 0 _ rfl
 have D1 := hc 1 _ rfl
 have D2 := hc 2 _ rfl
 rw [Nat.add_zero] at D0
 rw [hl] at hi
 have hfi : (f : Int) < 12 := by omega
 generalize infoAt infos f = x at *
 obtain ⟨k, gd, r⟩ := x
 dsimp only at D0 D1 D2 E
 clear hc H0 hR hx hk hl
 have eg : gd = gA ↔ gd.toList = [97] := ⟨fun h => by subst h; rw [Lib.toList_data]; rfl, fun h => by rw [Lib.toList_data] at h; cases gd with | mk d => cases d with | mk l => simp at h; subst h; rfl⟩
 by_cases hg : gd.toList = [97]
 ·have t1 : (gd.toList == [97]) = true := by simp [hg]
  by_cases hr : r = 1
  ·subst hr
   have t3 : (k != 0) = decide (k ≠ 0) := by by_cases h : k = 0 <;> simp [h]
   have E2 := Lib.hid (show mineP infos f = (k != 0) by rw [E.out, t3]; simp [eg.2 hg])
   clear hg eg E t3
   go_enter Tryz.func137, Tryz.ntmps137
   go_wp2_with fail
   go_ret
   exact ⟨ret_bool E2.out.symm, below1 _ _⟩
  ·have t2 : (r == 1) = false := by simp [hr]
   have E2 := Lib.hid (show mineP infos f = false by rw [E.out]; simp [hr])
   clear hg eg E hr
   go_enter Tryz.func137, Tryz.ntmps137
   go_wp2_with fail
   go_ret
   exact ⟨ret_bool E2.out.symm, below1 _ _⟩
 ·have t1 : (gd.toList == [97]) = false := by simp [hg]
  have E2 := Lib.hid (show mineP infos f = false by rw [E.out]; simp [eg, hg])
  clear hg eg E
  go_enter Tryz.func137, Tryz.ntmps137
  go_wp2_with fail
  go_ret
  exact ⟨ret_bool E2.out.symm, below1 _ _⟩
set_option maxRecDepth 100000 in
set_option maxHeartbeats 1000000 in
theorem pword_any {g : Nat} {w : World} {mv iv ev cv sv lv qv : Value} {P : PagerV} (hB : w.heap[g]? = some (.cells #[mv, iv, ev, cv, sv, lv, qv, .int .i64 P.hand, .int .i64 P.limit] 46 (0, 0))) (h : RdP w mv iv ev cv sv lv qv P) (hm : P.kern.mem.length = 12) (hr : ∀ f, f < 12 → (rowAt P.kern.mem f).length = 4) (hll : P.low.length = 4) {n : Nat} (hn : n < 16) (hlo : 0 ≤ lowAt P.low (n / 4) ∧ lowAt P.low (n / 4) ≤ 11) :
 Calls Tryz.prog 141 #[.pointer (some ⟨g, 0, none⟩), .int .i64 (n : Int)] w (fun r w' => r = .returned (.int .i64 (tabWord P n)) ∧ Below w.heap.size w w') := by
 unfold tabWord wdAt
 obtain ⟨ja, ha⟩ : ∃ ja, ja = n / 4 := ⟨_, rfl⟩
 obtain ⟨jb, hb⟩ : ∃ jb, jb = n % 4 := ⟨_, rfl⟩
 rw [← ha] at hlo ⊢
 rw [← hb]
 have q1 : (n : Int) / 4 = (ja : Int) := by omega
 have q2 : (n : Int) % 4 = (jb : Int) := by omega
 have q2t : (n : Int).tmod 4 = (jb : Int) := by rw [Int.tmod_eq_emod_of_nonneg (by omega)]; exact q2
 have hb4 : jb < 4 := by omega
 have ha4 : ja < 4 := by omega
 obtain ⟨x0, _, _, _, _, x5, _⟩ := blk_cells9 hB
 have hg := blk_lt hB
 obtain ⟨al, lc, rfl, _, _, HL⟩ := h.2.2.1.open
 obtain ⟨lb, lof, rfl, DL⟩ := HL.at (k := ja) (by omega)
 have hlb := World.block_lt_of_cell? w _ DL
 replace DL : w.cell? ⟨lb, lof + ja, none⟩ = some (.int .i64 (lowAt P.low ja)) := DL
 obtain ⟨f, hf⟩ : ∃ f : Nat, lowAt P.low ja = (f : Int) := ⟨(lowAt P.low ja).toNat, by omega⟩
 rw [hf] at DL hlo ⊢
 have hf12 : f < 12 := by omega
 obtain ⟨vs, o1, o2⟩ := h.1.1
 have hvl : vs.length = 12 := by rw [o2.1, hm]
 obtain ⟨am, cm, rfl, hc12, _, HM⟩ := RdF.open oneCs_len (by decide) o1
 obtain ⟨u, hu⟩ : ∃ u, vs[f]? = some u := ⟨_, List.getElem?_eq_getElem (by omega)⟩
 have hrow := o2.2 f u (rowAt P.kern.mem f) hu (by unfold rowAt; exact getD_lt (by omega))
 obtain ⟨gm, mof, rfl, hgm, DR'⟩ := HM f u hu
 have DR := DR' 0 _ rfl
 obtain ⟨ar, rc, rfl, _, _, HRr⟩ := hrow.open
 obtain ⟨rb, rof, rfl, DW⟩ := HRr.at (k := jb) (by rw [hr f hf12]; exact hb4)
 have hrb := World.block_lt_of_cell? w _ DW
 rw [Nat.mul_one, Nat.add_zero, hr f hf12] at DR
 rw [hvl] at x0
 rw [hll] at x5
 rw [show ((f : Int)).toNat = f from rfl]
 have hfi : (f : Int) < 12 := by omega
 have hai : (ja : Int) < 4 := by omega
 have hbi : (jb : Int) < 4 := by omega
 unfold nth at DW
 generalize (rowAt P.kern.mem f).getD jb 0 = wd at DW ⊢
 clear h hm hr hll hlo hf o1 o2 hrow hu hvl hc12 ha hb HL HM HRr DR' hB
 go_enter Tryz.func141, Tryz.ntmps141
 go_wp2_with fail
 refine wp_region_grow 19 Tryz.mixed (by kernel_rfl) 24 rfl (by kernel_rfl) (fun ix vv ww => match ix with
  | 0 => vv = .pointer (some ⟨g, 0, none⟩)
  | 1 => vv = .pointer (some ⟨g, 0, none⟩)
  | 2 => vv = .pointer (some ⟨g, 0, none⟩)
  | 3 => vv = .pointer (some ⟨g, 0, none⟩)
  | 4 => vv = .slice (some ⟨gm, mof, none⟩) 12 cm
  | 5 => vv = .pointer (some ⟨g, 0, none⟩)
  | 6 => vv = .pointer (some ⟨g, 0, none⟩)
  | 7 => vv = .pointer (some ⟨g, 5, none⟩)
  | 8 => vv = .slice (some ⟨lb, lof, none⟩) 4 lc
  | 9 => vv = .int .i64 ((n : Int))
  | 10 => vv = .int .i64 ((ja : Int))
  | 11 => vv = .pointer (some ⟨lb, lof + ja, none⟩)
  | 12 => vv = .int .i64 ((f : Int))
  | 13 => vv = .pointer (some ⟨gm, mof + f, none⟩)
  | 14 => vv = .slice (some ⟨rb, rof, none⟩) 4 rc
  | 15 => vv = .int .i64 ((n : Int))
  | 16 => vv = .int .i64 ((jb : Int))
  | 17 => vv = .pointer (some ⟨rb, rof + jb, none⟩)
  | 18 => vv = .int .i64 wd
  | _ => True) ?_ ?_ ?_
 ·intro i hi vv wz ww' hbz hz
  match i, hi with
  | 0, _ | 1, _ | 2, _ | 3, _ | 4, _ | 5, _ | 6, _ | 7, _ | 8, _ | 9, _ | 10, _ | 11, _ | 12, _ | 13, _ | 14, _ | 15, _ | 16, _ | 17, _ | 18, _ => exact hz
  | _ + 19, hq => exact absurd hq (by omega)
 ·intro i hi o ho a wx Hb Hd hG K HK
  match i, hi with
  | 0, _ => exact dM ho rfl (gn rfl) HK rfl (eb (Hb.out.2.2 0 (by decide))) rfl
  | 1, _ => exact dC ho rfl (gn rfl) HK rfl (et (Hd.out 0 (by kernel_rfl))) rfl
  | 2, _ => exact dF ho rfl (gn rfl) HK rfl fA46_0 (et (Hd.out 1 (by kernel_rfl))) rfl
  | 3, _ => exact dF ho rfl (gn rfl) HK rfl fA33_0 (et (Hd.out 2 (by kernel_rfl))) rfl
  | 4, _ => exact dL ho rfl (gn rfl) HK rfl (et (Hd.out 3 (by kernel_rfl))) (lA28 (bc hG hg x0)) rfl
  | 5, _ => exact dM ho rfl (gn rfl) HK rfl (eb (Hb.out.2.2 0 (by decide))) rfl
  | 6, _ => exact dC ho rfl (gn rfl) HK rfl (et (Hd.out 5 (by kernel_rfl))) rfl
  | 7, _ => exact dF ho rfl (gn rfl) HK rfl fA46_2 (et (Hd.out 6 (by kernel_rfl))) rfl
  | 8, _ => exact dL ho rfl (gn rfl) HK rfl (et (Hd.out 7 (by kernel_rfl))) (lA38 (bc hG hg x5)) rfl
  | 9, _ => exact dM ho rfl (gn rfl) HK rfl (eb (Hb.out.2.2 1 (by decide))) rfl
  | 10, _ =>
   obtain rfl := Option.some.inj ho
   have d9 : (a.tmps[14]?.getD undef) = .int .i64 ((n : Int)) := Hd.out 9 (by kernel_rfl)
   clear Hd Hb
   refine Does.of rfl ?_
   go_simp
   exact HK.out _ _ (by show Value.int .i64 (IntKind.i64.wrap _) = _; rw [IntWalk.i64_in _ (by omega)]) (Below.refl _ _)
  | 11, _ =>
   obtain rfl := Option.some.inj ho
   have d8 : (a.tmps[13]?.getD undef) = .slice (some ⟨lb, lof, none⟩) 4 lc := Hd.out 8 (by kernel_rfl)
   have d10 : (a.tmps[15]?.getD undef) = .int .i64 ((ja : Int)) := Hd.out 10 (by kernel_rfl)
   clear Hd Hb
   refine Does.of rfl ?_
   go_simp
   exact HK.out _ _ rfl (Below.refl _ _)
  | 12, _ => exact dL ho rfl (gn rfl) HK rfl (et (Hd.out 11 (by kernel_rfl))) (lA3 (bc hG hlb DL)) rfl
  | 13, _ =>
   obtain rfl := Option.some.inj ho
   have d4 : (a.tmps[9]?.getD undef) = .slice (some ⟨gm, mof, none⟩) 12 cm := Hd.out 4 (by kernel_rfl)
   have d12 : (a.tmps[17]?.getD undef) = .int .i64 ((f : Int)) := Hd.out 12 (by kernel_rfl)
   clear Hd Hb
   refine Does.of rfl ?_
   go_simp
   exact HK.out _ _ rfl (Below.refl _ _)
  | 14, _ => exact dL ho rfl (gn rfl) HK rfl (et (Hd.out 13 (by kernel_rfl))) (lA38 (bc hG hgm DR)) rfl
  | 15, _ => exact dM ho rfl (gn rfl) HK rfl (eb (Hb.out.2.2 1 (by decide))) rfl
  | 16, _ =>
   obtain rfl := Option.some.inj ho
   have d15 : (a.tmps[20]?.getD undef) = .int .i64 ((n : Int)) := Hd.out 15 (by kernel_rfl)
   clear Hd Hb
   refine Does.of rfl ?_
   go_simp
   exact HK.out _ _ rfl (Below.refl _ _)
  | 17, _ =>
   obtain rfl := Option.some.inj ho
   have d14 : (a.tmps[19]?.getD undef) = .slice (some ⟨rb, rof, none⟩) 4 rc := Hd.out 14 (by kernel_rfl)
   have d16 : (a.tmps[21]?.getD undef) = .int .i64 ((jb : Int)) := Hd.out 16 (by kernel_rfl)
   clear Hd Hb
   refine Does.of rfl ?_
   go_simp
   exact HK.out _ _ rfl (Below.refl _ _)
  | 18, _ => exact dL ho rfl (gn rfl) HK rfl (et (Hd.out 17 (by kernel_rfl))) (lA3 (bc hG hrb DW)) rfl
  | _ + 19, hq => exact absurd hq (by omega)
 ·intro vs wx hR hG
  have q18 : (vs 18) = .int .i64 wd := hR 18 (by decide)
  clear hR
  simp only [fillAt, dstOf, List.range, List.range.loop, List.foldl_cons, List.foldl_nil, q18]
  simp
  clear q18
  go_wp2_with fail
  go_ret
  exact ⟨rfl, hG⟩
theorem all_no {p : Nat → Bool} {n k : Nat} (hk : k < n) (h : p k = false) : (List.range n).all p = false := List.all_eq_false.2 ⟨k, List.mem_range.2 hk, by simp [h]⟩
set_option maxRecDepth 100000 in
set_option maxHeartbeats 1000000 in
theorem tablesOk_any {g : Nat} {w : World} {mv iv ev cv sv lv qv : Value} {P : PagerV} (hB : w.heap[g]? = some (.cells #[mv, iv, ev, cv, sv, lv, qv, .int .i64 P.hand, .int .i64 P.limit] 46 (0, 0))) (h : RdP w mv iv ev cv sv lv qv P) (hK : KOk P.kern) :
 Calls Tryz.prog 69 #[.pointer (some ⟨g, 0, none⟩)] w (fun r w' => r = .returned (.bool (tablesOkP P)) ∧ Below w.heap.size w w') := by
 have T : tablesOkP P = (decide (0 ≤ rootOf P.kern 0) && decide (P.low.length = 4) && mineP P.kern.infos (rootOf P.kern 0).toNat && (List.range 4).all (lowOkP P)) := rfl
 have L : ∀ i, lowOkP P i = (inB (lowAt P.low i) 0 11 && decide (wdAt P.kern.mem (rootOf P.kern 0).toNat i = ent (lowAt P.low i)) && mineP P.kern.infos (lowAt P.low i).toNat) := fun i => rfl
 obtain ⟨x0, x1, x2, _, _, x5, _⟩ := blk_cells9 hB
 obtain ⟨ps, he1, he2⟩ := h.1.2.2.1
 have hpl : ps.length = 3 := by rw [he2.1, hK.envl]
 obtain ⟨ae, ce, rfl, _, _, HE⟩ := RdF.open pairCs_len (by decide) he1
 obtain ⟨p0, hp0⟩ : ∃ p, ps[0]? = some p := ⟨_, List.getElem?_eq_getElem (by omega)⟩
 obtain ⟨ge, eof, rfl, _, hce⟩ := HE 0 p0 hp0
 have DE := hce 1 _ rfl
 rw [show p0.2 = rootOf P.kern 0 from (he2.2 0 p0 (envAt P.kern.envs 0) hp0 (by unfold envAt; exact getD_lt (by rw [hK.envl]; omega))).2, Nat.zero_mul, Nat.add_zero] at DE
 rw [hpl] at x2
 obtain ⟨al, lc, rfl, hl1, hl2, HL⟩ := h.2.2.1.open
 unfold maxLen at hl2
 have hII := h.1.2.1
 have hlI := hK.len
 have hKG := Lib.hid hK.inf
 rcases hK.roots 0 (by omega) with hr | ⟨hr0, hr1, hr2⟩
 ·have S := Lib.hid (show tablesOkP P = false by rw [T, hr]; rfl)
  rw [hr] at DE
  clear T L hr hII hKG hlI HL h hB hK
  go_enter Tryz.func69, Tryz.ntmps69
  go_wp2_with fail
  go_ret
  exact ⟨ret_bool S.out.symm, Below.refl _ _⟩
 ·obtain ⟨rn, hrn⟩ : ∃ n : Nat, rootOf P.kern 0 = (n : Int) := ⟨(rootOf P.kern 0).toNat, by omega⟩
  have hrl : rn < 12 := by omega
  simp only [hrn, Int.toNat_natCast] at T L
  rw [hrn] at DE
  have nr : ¬ (rn : Int) < 0 := by omega
  by_cases hl4 : P.low.length = 4
  ·have CR := Lib.hid (fun W (hW : Below w.heap.size w W) => isMine_any (w := W) (f := rn) ((hW.cell (World.block_lt_of_cell? w _ x1)).trans x1) (RdF.below hII hW) hlI hrl (hKG.out rn hrl))
   obtain ⟨vs, o1, o2⟩ := h.1.1
   have hvl : vs.length = 12 := by rw [o2.1]; exact (memOk_iff.1 hK.mem).1
   obtain ⟨am, cm, rfl, _, _, HM⟩ := RdF.open oneCs_len (by decide) o1
   obtain ⟨u, hu⟩ : ∃ u, vs[rn]? = some u := ⟨_, List.getElem?_eq_getElem (by omega)⟩
   have hrow := o2.2 rn u (rowAt P.kern.mem rn) hu (by unfold rowAt; exact getD_lt (by rw [← o2.1]; omega))
   have hr4 : (rowAt P.kern.mem rn).length = 4 := (rowOk_iff.1 ((memOk_iff.1 hK.mem).2 rn hrl)).1
   obtain ⟨gm, mof, rfl, _, DR'⟩ := HM rn u hu
   have DR := DR' 0 _ rfl
   obtain ⟨ar, rc, rfl, _, _, HRr⟩ := hrow.open
   rw [Nat.mul_one, Nat.add_zero, hr4] at DR
   rw [hvl] at x0
   rw [hl4] at x5
   have HF := Lib.hid (And.intro x0 (And.intro x1 (And.intro x5 DR)))
   have HRw := Lib.hid (And.intro HRr (And.intro hr4 (And.intro HL hl4)))
   have hnn : (0 : Int) ≤ (rn : Int) := by omega
   have T2 := Lib.hid (show tablesOkP P = (mineP P.kern.infos rn && (List.range 4).all (lowOkP P)) by rw [T]; simp [hl4])
   have HL2 := Lib.hid L
   have CI := Lib.hid (fun (f : Nat) (hf : f < 12) W (hW : Below w.heap.size w W) => isMine_any (w := W) (f := f) ((hW.cell (World.block_lt_of_cell? w _ HF.out.2.1)).trans HF.out.2.1) (RdF.below hII hW) hlI hf (hKG.out f hf))
   clear T L hr0 hr1 hr2 hrn hII hKG hlI HL h hB hK o1 o2 hrow hu hvl HM DR' HRr hr4 hl1 DR hl4 x1
   cases hm : mineP P.kern.infos rn
   ·rw [hm] at CR T2
    go_enter Tryz.func69, Tryz.ntmps69
    go_wp2_with fail
    refine (CR.out _ (Below.refl _ _)).mono ?_; rintro r w1 ⟨rfl, b1⟩
    go_wp2_with fail
    go_ret
    exact ⟨ret_bool T2.out.symm, b1⟩
   ·rw [hm] at CR T2
    go_enter Tryz.func69, Tryz.ntmps69
    go_wp2_with fail
    refine (CR.out _ (Below.refl _ _)).mono ?_; rintro r w1 ⟨rfl, b1⟩
    replace x5 := (b1.cell (World.block_lt_of_cell? w _ x5)).trans x5
    have Hb1 := Lib.hid b1
    clear x0 x2 DE b1
    go_wp2_with fail
    clear x5
    go_loopw [4, 5, 6, 7, 37] (fun _ _ _ _ ix wr => ∃ k : Nat, k ≤ 4 ∧ ix = .int .i64 k ∧ (∀ j, j < k → lowOkP P j = true) ∧ Below w.heap.size w wr) (fun _ _ _ _ ix _ => 4 - (intOf ix).toNat)
    case atStart => exact ⟨0, by omega, rfl, fun j hj => by omega, Hb1.out⟩
    case round =>
     obtain ⟨k, hk, rfl, hall, hb⟩ := hrel
     by_cases hlt : k < 4
     ·have k4 : (k : Int) < 4 := by omega
      obtain ⟨lb, lof, rfl, DL⟩ := HRw.out.2.2.1.at (k := k) (by rw [HRw.out.2.2.2]; exact hlt)
      obtain ⟨rb, rof, rfl, DW⟩ := HRw.out.1.at (k := k) (by rw [HRw.out.2.1]; exact hlt)
      replace DL := (hb.cell (World.block_lt_of_cell? w _ DL)).trans DL
      replace DW := (hb.cell (World.block_lt_of_cell? w _ DW)).trans DW
      have x0 := (hb.cell (World.block_lt_of_cell? w _ HF.out.1)).trans HF.out.1
      have DR := (hb.cell (World.block_lt_of_cell? w _ HF.out.2.2.2)).trans HF.out.2.2.2
      have Hall := Lib.hid hall
      have Hb := Lib.hid hb
      have LK := HL2.out k
      replace DL : wr.cell? ⟨lb, lof + k, none⟩ = some (.int .i64 (lowAt P.low k)) := DL
      replace DW : wr.cell? ⟨rb, rof + k, none⟩ = some (.int .i64 (wdAt P.kern.mem rn k)) := DW
      generalize lowAt P.low k = v at DL LK
      generalize wdAt P.kern.mem rn k = wd at DW LK
      clear hall hb
      cases hin : inB v 0 11
      ·have S := Lib.hid (show tablesOkP P = false by rw [T2.out, all_no hlt (by rw [LK, hin]; rfl)]; rfl)
       clear LK
       go_wp2_with fail
       refine (EntryPut_no v true _ hin).mono ?_; rintro r w3 ⟨rfl, rfl⟩
       go_wp2_with fail
       go_ret
       exact ⟨ret_bool S.out.symm, Hb.out⟩
      ·have hv := inB_iff.1 hin
       obtain ⟨f, rfl⟩ : ∃ f : Nat, v = (f : Int) := ⟨v.toNat, by omega⟩
       have hf : f < 12 := by omega
       have CF := Lib.hid (CI.out f hf wr Hb.out)
       rw [hin, Int.toNat_natCast] at LK
       go_wp2_with fail
       refine (EntryPut_yes (f : Int) _ hv.1 hv.2).mono ?_; rintro r w3 ⟨rfl, rfl⟩
       by_cases he : wd = ent (f : Int)
       ·have t1 : (wd != ent (f : Int)) = false := by simp [he]
        have LK2 : lowOkP P k = mineP P.kern.infos f := by rw [LK]; simp [he]
        generalize ent (f : Int) = en at t1
        clear LK he hin
        go_wp2_with fail
        refine CF.out.mono ?_; rintro r w4 ⟨rfl, b4⟩
        have Hb4 := Lib.hid (Hb.out.trans (b4.mono Hb.out.size))
        cases hmf : mineP P.kern.infos f
        ·have S := Lib.hid (show tablesOkP P = false by rw [T2.out, all_no hlt (by rw [LK2, hmf])]; rfl)
         clear LK2 b4
         go_wp2_with fail
         go_ret
         exact ⟨ret_bool S.out.symm, Hb4.out⟩
        ·have LK3 := Lib.hid (LK2.trans hmf)
         clear LK2 b4
         go_wp2_with fail
         go_roundw
         case rel => exact ⟨k + 1, by omega, by go_num, fun j hj => by
          rcases Nat.lt_succ_iff_lt_or_eq.1 hj with x | x
          ·exact Hall.out j x
          ·subst x; exact LK3.out, Hb4.out⟩
         case measure => simp [intOf]; omega
       ·have t1 : (wd != ent (f : Int)) = true := by simp [he]
        have S := Lib.hid (show tablesOkP P = false by rw [T2.out, all_no hlt (by rw [LK]; simp [he])]; rfl)
        generalize ent (f : Int) = en at t1
        clear LK he hin
        go_wp2_with fail
        go_ret
        exact ⟨ret_bool S.out.symm, Hb.out⟩
     ·obtain rfl : k = 4 := by omega
      have S := Lib.hid (show tablesOkP P = true by rw [T2.out, Bool.true_and]; exact List.all_eq_true.2 fun j hj => hall j (List.mem_range.1 hj))
      clear hall
      rw [show ((4 : Nat) : Int) = 4 from rfl]
      go_wp2_with fail
      go_ret
      exact ⟨ret_bool S.out.symm, hb⟩
  ·have S := Lib.hid (show tablesOkP P = false by rw [T]; simp [hl4])
   have t4 : ((P.low.length : Int) != 4) = true := by simp; omega
   clear T L hr0 hr1 hr2 hrn hII hKG hlI HL h hB hK hl4
   go_enter Tryz.func69, Tryz.ntmps69
   go_wp2_with fail
   go_ret
   exact ⟨ret_bool S.out.symm, Below.refl _ _⟩
def pageHalf (P : PagerV) (n : Nat) : Bool :=
 if (pageAt P.pages n).w = 0 then decide ((pageAt P.pages n).a = 0) && !(pageAt P.pages n).u && decide (tabWord P n = 0)
 else if (pageAt P.pages n).w = 1 then inB (pageAt P.pages n).a 0 11 && decide (tabWord P n = ent (pageAt P.pages n).a) && mineP P.kern.infos (pageAt P.pages n).a.toNat
 else if (pageAt P.pages n).w = 2 then inB (pageAt P.pages n).a 0 15 && !(pageAt P.pages n).u && decide (tabWord P n = 0)
 else false
def keepOf (ks : List Int) (x : PageV) : List Int := if x.w = 2 then ks.set x.a.toNat (nth ks x.a.toNat + 1) else ks
def FreshPage (lo : Nat) (v : Value) (w : World) : Prop := ∃ q, v = .pointer (some ⟨q, 0, none⟩) ∧ lo ≤ q ∧ w.heap[q]? = some (.cells #[.int .i64 0, .int .i64 0, .bool false] 169 (0, 0))
theorem FreshPage.below {lo : Nat} {v : Value} {w w' : World} (h : FreshPage lo v w) (hb : Below w.heap.size w w') : FreshPage lo v w' := by
 obtain ⟨q, h1, h2, h3⟩ := h
 exact ⟨q, h1, h2, blk_below h3 hb⟩
def PageRes (lo : Nat) (w : World) (kv : Value) (ks : List Int) (b : Bool) (r : Ending) (w' : World) : Prop := r = .returned (.bool b) ∧ OwnInts lo w' kv ks ∧ w.grownBy w' kv.ownBlock ∧ Below lo w w'
set_option maxRecDepth 100000 in
set_option maxHeartbeats 1000000 in
theorem pageOk_any {lo g : Nat} {w : World} {mv iv ev cv sv lv qv kv : Value} {P : PagerV} {ks : List Int} (hB : w.heap[g]? = some (.cells #[mv, iv, ev, cv, sv, lv, qv, .int .i64 P.hand, .int .i64 P.limit] 46 (0, 0))) (h : RdP w mv iv ev cv sv lv qv P) (hK : KOk P.kern) (hll : P.low.length = 4) (hlo : ∀ i, i < 4 → 0 ≤ lowAt P.low i ∧ lowAt P.low i ≤ 11) (hpl : P.pages.length = 16)
 (hk : OwnInts lo w kv ks) (hkl : ks.length = 16) (hks : ∀ j, j < 16 → 0 ≤ nth ks j ∧ nth ks j ≤ 1000) (hlw : lo ≤ w.heap.size) {n : Nat} (hn : n < 16) :
 Calls Tryz.prog 71 #[.pointer (some ⟨g, 0, none⟩), .int .i64 (n : Int), kv] w (fun r w' => ∃ ks', PageRes lo w kv ks' (pageHalf P n) r w' ∧ (pageHalf P n = true → ks' = keepOf ks (pageAt P.pages n))) := by
 have CW := Lib.hid (fun W (hW : Below w.heap.size w W) => pword_any (w := W) (blk_below hB hW) (h.below hW) (memOk_iff.1 hK.mem).1 (fun f hf => (rowOk_iff.1 ((memOk_iff.1 hK.mem).2 f hf)).1) hll hn (hlo (n / 4) (by omega)))
 have x6 := (blk_cells9 hB).2.2.2.2.2.2.1
 have x1 := (blk_cells9 hB).2.1
 have CM := Lib.hid (fun (f : Nat) (hf : f < 12) W (hW : Below w.heap.size w W) => isMine_any (w := W) (f := f) ((hW.cell (World.block_lt_of_cell? w _ x1)).trans x1) (RdF.below h.1.2.1 hW) hK.len hf (hK.inf f hf))
 obtain ⟨aq, qc, rfl, hq1, hq2, HQ⟩ := RdF.open pageCs_len (by decide) h.2.2.2
 rw [hpl] at x6 hq1
 obtain ⟨qb, qof, rfl, hqb, hc⟩ := HQ n _ (show P.pages[n]? = some (pageAt P.pages n) from getD_lt (by omega))
 have D0 := hc 0 _ rfl
 have D1 := hc 1 _ rfl
 have D2 := hc 2 _ rfl
 rw [Nat.add_zero] at D0
 have hg := blk_lt hB
 have PH : pageHalf P n = (if (pageAt P.pages n).w = 0 then decide ((pageAt P.pages n).a = 0) && !(pageAt P.pages n).u && decide (tabWord P n = 0) else if (pageAt P.pages n).w = 1 then inB (pageAt P.pages n).a 0 11 && decide (tabWord P n = ent (pageAt P.pages n).a) && mineP P.kern.infos (pageAt P.pages n).a.toNat else if (pageAt P.pages n).w = 2 then inB (pageAt P.pages n).a 0 15 && !(pageAt P.pages n).u && decide (tabWord P n = 0) else false) := rfl
 generalize pageHalf P n = res at PH ⊢
 generalize tabWord P n = tw at PH CW
 generalize pageAt P.pages n = x at PH D0 D1 D2 ⊢
 obtain ⟨xw, xa, xu⟩ := x
 dsimp only at PH D0 D1 D2
 have hni : (n : Int) < 16 := by omega
 have HPH := Lib.hid PH
 have HKK := Lib.hid hk
 clear PH hc HQ h hB hK hll hlo hpl x1 hq1 hq2 hk
 obtain ⟨ka, kn, kc, rfl⟩ := own_slice HKK.out
 go_enter Tryz.func71, Tryz.ntmps71
 go_wp2_with fail
 refine wp_region_grow 11 Tryz.mixed (by kernel_rfl) 78 rfl (by kernel_rfl) (fun ix vv ww => match ix with
  | 0 => vv = .pointer (some ⟨g, 0, none⟩)
  | 1 => vv = .pointer (some ⟨g, 0, none⟩)
  | 2 => vv = .pointer (some ⟨g, 6, none⟩)
  | 3 => vv = .slice (some ⟨qb, qof, none⟩) 16 qc
  | 4 => vv = .int .i64 ((n : Int))
  | 5 => vv = .pointer (some ⟨qb, qof + n * 3, none⟩)
  | 6 => vv = .agg #[.int .i64 xw, .int .i64 xa, .bool xu]
  | 7 => vv = .pointer (some ⟨g, 0, none⟩)
  | 8 => vv = .int .i64 ((n : Int))
  | 9 => vv = .int .i64 tw
  | 10 => FreshPage w.heap.size vv ww
  | _ => True) ?_ ?_ ?_
 ·intro i hi vv wz ww' hbz hz
  match i, hi with
  | 0, _ | 1, _ | 2, _ | 3, _ | 4, _ | 5, _ | 6, _ | 7, _ | 8, _ | 9, _ => exact hz
  | 10, _ => exact (FreshPage.below hz hbz)
 ·intro i hi o ho a wx Hb Hd hG K HK
  match i, hi with
  | 0, _ => exact dM ho rfl (gn rfl) HK rfl (eb (Hb.out.2.2 0 (by decide))) rfl
  | 1, _ => exact dC ho rfl (gn rfl) HK rfl (et (Hd.out 0 (by kernel_rfl))) rfl
  | 2, _ => exact dF ho rfl (gn rfl) HK rfl fA46_3 (et (Hd.out 1 (by kernel_rfl))) rfl
  | 3, _ => exact dL ho rfl (gn rfl) HK rfl (et (Hd.out 2 (by kernel_rfl))) (lA44 (bc hG hg x6)) rfl
  | 4, _ => exact dM ho rfl (gn rfl) HK rfl (eb (Hb.out.2.2 1 (by decide))) rfl
  | 5, _ =>
   obtain rfl := Option.some.inj ho
   have d3 : (a.tmps[14]?.getD undef) = .slice (some ⟨qb, qof, none⟩) 16 qc := Hd.out 3 (by kernel_rfl)
   have d4 : (a.tmps[15]?.getD undef) = .int .i64 ((n : Int)) := Hd.out 4 (by kernel_rfl)
   clear Hd Hb
   refine Does.of rfl ?_
   go_simp
   exact HK.out _ _ rfl (Below.refl _ _)
  | 6, _ => exact dL ho rfl (gn rfl) HK rfl (et (Hd.out 5 (by kernel_rfl))) (lA169 (bc hG hqb D0) (bc hG hqb D1) (bc hG hqb D2)) rfl
  | 7, _ => exact dM ho rfl (gn rfl) HK rfl (eb (Hb.out.2.2 0 (by decide))) rfl
  | 8, _ => exact dM ho rfl (gn rfl) HK rfl (eb (Hb.out.2.2 1 (by decide))) rfl
  | 9, _ =>
   obtain rfl := Option.some.inj ho
   have d7 : (a.tmps[18]?.getD undef) = .pointer (some ⟨g, 0, none⟩) := Hd.out 7 (by kernel_rfl)
   have d8 : (a.tmps[19]?.getD undef) = .int .i64 ((n : Int)) := Hd.out 8 (by kernel_rfl)
   clear Hd Hb
   refine Does.of rfl ?_
   go_simp
   refine (CW.out _ hG).mono ?_; rintro r w_ ⟨rfl, hb2⟩
   exact HK.out _ _ rfl hb2
  | 10, _ =>
   obtain rfl := Option.some.inj ho
   clear Hd Hb
   refine Does.of rfl ?_
   go_simp
   exact HK.out _ _ ⟨_, rfl, hG.size, heap_alloc_new _ _⟩ (below1 _ _)
 ·intro vs wx hR hG
  have q6 : (vs 6) = .agg #[.int .i64 xw, .int .i64 xa, .bool xu] := hR 6 (by decide)
  have q9 : (vs 9) = .int .i64 tw := hR 9 (by decide)
  have q10 : FreshPage w.heap.size (vs 10) wx := hR 10 (by decide)
  clear hR
  simp only [fillAt, dstOf, List.range, List.range.loop, List.foldl_cons, List.foldl_nil, q6, q9]
  simp
  generalize vs 10 = z10 at q10 ⊢
  clear q6 q9
  obtain ⟨q, rfl, hqw, hqB⟩ := q10
  have c0 := cell_of_row _ _ 0 _ _ _ hqB
  have c1_ := cell_of_row _ _ 1 _ _ _ hqB
  have c2 := cell_of_row _ _ 2 _ _ _ hqB
  have fq := blk_frozen hqB
  have Pl := place_set (W := w) (a := .int .i64 xw) (b := .int .i64 xa) (c := .bool xu) hqB hG hqw
  go_step
  go_simp
  clear c0 c1_ c2 fq hqB hG D0 D1 D2 x6
  generalize ((wx.setCell _ _).setCell _ _).setCell _ _ = W1 at *
  have y0 := cell_of_row _ _ 0 _ _ _ Pl.1
  have y1 := cell_of_row _ _ 1 _ _ _ Pl.1
  have y2 := cell_of_row _ _ 2 _ _ _ Pl.1
  have HP2 := Lib.hid Pl.2
  have HK1 := Lib.hid (show OwnInts lo W1 (.slice ka kn kc) ks from HKK.out.below Pl.2)
  have NO := Lib.hid (fun (W : World) (hW : Below W1.heap.size W1 W) (b : Bool) (hb : res = b) (hw2 : xw ≠ 2 ∨ b = false) => (⟨ks, ⟨by rw [hb], HK1.out.below hW, ⟨(HP2.out.trans (hW.mono HP2.out.size)).os, (HP2.out.trans (hW.mono HP2.out.size)).tape, (HP2.out.trans (hW.mono HP2.out.size)).output, (HP2.out.trans (hW.mono HP2.out.size)).size, fun k hk _ => (HP2.out.trans (hW.mono HP2.out.size)).block k hk⟩, (HP2.out.trans (hW.mono HP2.out.size)).mono hlw⟩, fun ht => by
   rcases hw2 with x | x
   ·unfold keepOf; rw [if_neg x]
   ·rw [hb, x] at ht; cases ht⟩ : ∃ ks', PageRes lo w (.slice ka kn kc) ks' res (.returned (.bool b)) W ∧ (res = true → ks' = keepOf ks ⟨xw, xa, xu⟩)))
  clear Pl
  by_cases h0 : xw = 0
  ·subst h0
   by_cases ha : xa = 0
   ·have t1 : (xa == 0) = true := by simp [ha]
    cases xu
    ·have R := Lib.hid (show res = (tw == 0) by rw [HPH.out]; simp [ha]; by_cases h : tw = 0 <;> simp [h])
     clear ha
     go_wp2_with fail
     go_ret
     exact NO.out _ (Below.refl _ _) _ R.out (.inl (by decide))
    ·have R := Lib.hid (show res = false by rw [HPH.out]; simp)
     clear ha
     go_wp2_with fail
     go_ret
     exact NO.out _ (Below.refl _ _) _ R.out (.inl (by decide))
   ·have t1 : (xa == 0) = false := by simp [ha]
    have R := Lib.hid (show res = false by rw [HPH.out]; simp [ha])
    clear ha
    go_wp2_with fail
    go_ret
    exact NO.out _ (Below.refl _ _) _ R.out (.inl (by decide))
  ·have n0 : (xw == 0) = false := by simp [h0]
   by_cases h1 : xw = 1
   ·subst h1
    cases hin : inB xa 0 11
    ·have R := Lib.hid (show res = false by rw [HPH.out, hin]; rfl)
     go_wp2_with fail
     refine (EntryPut_no xa true _ hin).mono ?_; rintro r w3 ⟨rfl, rfl⟩
     go_wp2_with fail
     go_ret
     exact NO.out _ (Below.refl _ _) _ R.out (.inl (by decide))
    ·have hv := inB_iff.1 hin
     obtain ⟨f, rfl⟩ : ∃ f : Nat, xa = (f : Int) := ⟨xa.toNat, by omega⟩
     have hf : f < 12 := by omega
     have CF := Lib.hid (CM.out f hf W1 HP2.out)
     have R0 : res = (decide (tw = ent (f : Int)) && mineP P.kern.infos f) := by rw [HPH.out, hin]; simp
     go_wp2_with fail
     refine (EntryPut_yes (f : Int) _ hv.1 hv.2).mono ?_; rintro r w3 ⟨rfl, rfl⟩
     by_cases he : tw = ent (f : Int)
     ·have R := Lib.hid (show res = mineP P.kern.infos f by rw [R0]; simp [he])
      have t1 : (tw == ent (f : Int)) = true := by simp [he]
      generalize ent (f : Int) = en at t1
      clear R0 he hin
      go_wp2_with fail
      refine CF.out.mono ?_; rintro r w4 ⟨rfl, b4⟩
      have HB4 := Lib.hid b4
      clear b4
      go_wp2_with fail
      go_ret
      exact NO.out _ HB4.out _ R.out (.inl (by decide))
     ·have R := Lib.hid (show res = false by rw [R0]; simp [he])
      have t1 : (tw == ent (f : Int)) = false := by simp [he]
      generalize ent (f : Int) = en at t1
      clear R0 he hin
      go_wp2_with fail
      go_ret
      exact NO.out _ (Below.refl _ _) _ R.out (.inl (by decide))
   ·have n1 : (xw == 1) = false := by simp [h1]
    by_cases h2 : xw = 2
    ·subst h2
     cases hin : inB xa 0 15
     ·have R := Lib.hid (show res = false by rw [HPH.out, hin]; rfl)
      go_wp2_with fail
      refine (within_any _ _ _ _).mono ?_; rintro r w3 ⟨rfl, rfl⟩
      rw [hin]
      go_wp2_with fail
      go_ret
      exact NO.out _ (Below.refl _ _) _ R.out (.inr rfl)
     ·have hv := inB_iff.1 hin
      obtain ⟨sl, rfl⟩ : ∃ sl : Nat, xa = (sl : Int) := ⟨xa.toNat, by omega⟩
      have hsl : sl < 16 := by omega
      have hsli : (sl : Int) < 16 := by omega
      cases xu
      ·by_cases ht : tw = 0
       ·have t1 : (tw != 0) = false := by simp [ht]
        have R := Lib.hid (show res = true by rw [HPH.out, hin]; simp [ht])
        have hb := hks sl hsl
        obtain ⟨kb, kcap, ek, hkb, KC⟩ := low_cell HK1.out (j := sl) (by omega)
        cases ek
        rw [hkl] at HK1 ⊢
        replace KC : W1.cell? ⟨kb, sl, none⟩ = some (.int .i64 (nth ks sl)) := KC
        have own1 : W1.ownsRow lo 3 1 (.slice (some ⟨kb, 0, none⟩) 16 kc) 16 (ks.map (Value.int .i64)) := by have := HK1.out; unfold OwnInts at this; rwa [hkl] at this
        have FK := World.ownsRow.frozenAt own1 sl
        obtain ⟨s1, s2⟩ := World.ownsRow.stored own1 sl (.int .i64 (nth ks sl + 1))
        have hlk := (World.ownsRow.lt own1 kb rfl).1
        have OUT := Lib.hid (show PageRes lo w (.slice (some ⟨kb, 0, none⟩) 16 kc) (keepOf ks ⟨2, (sl : Int), false⟩) true (.returned (.bool true)) (W1.setCell ⟨kb, sl, none⟩ (.int .i64 (nth ks sl + 1))) from
         ⟨rfl, by
          show OwnInts _ _ _ (ks.set sl (nth ks sl + 1))
          unfold OwnInts
          rw [List.length_set, List.map_set, hkl]
          exact s1, grown_trans ⟨HP2.out.os, HP2.out.tape, HP2.out.output, HP2.out.size, fun k hk _ => HP2.out.block k hk⟩ s2, below_grown (HP2.out.mono hlw) s2 hlk (Nat.le_trans hlw HP2.out.size)⟩)
        generalize nth ks sl = old at KC hb OUT
        clear ht hin s1 s2 own1
        go_wp2_with fail
        refine (within_any _ _ _ _).mono ?_; rintro r w3 ⟨rfl, rfl⟩
        rw [show inB (sl : Int) 0 15 = true from inB_iff.2 hv]
        go_wp2_with fail
        go_ret
        exact ⟨_, by rw [R.out, hkl]; exact OUT.out, fun _ => rfl⟩
       ·have t1 : (tw != 0) = true := by simp [ht]
        have R := Lib.hid (show res = false by rw [HPH.out, hin]; simp [ht])
        clear ht
        go_wp2_with fail
        refine (within_any _ _ _ _).mono ?_; rintro r w3 ⟨rfl, rfl⟩
        rw [hin]
        go_wp2_with fail
        go_ret
        exact NO.out _ (Below.refl _ _) _ R.out (.inr rfl)
      ·have R := Lib.hid (show res = false by rw [HPH.out, hin]; simp)
       go_wp2_with fail
       refine (within_any _ _ _ _).mono ?_; rintro r w3 ⟨rfl, rfl⟩
       rw [hin]
       go_wp2_with fail
       go_ret
       exact NO.out _ (Below.refl _ _) _ R.out (.inr rfl)
    ·have n2 : (xw == 2) = false := by simp [h2]
     have R := Lib.hid (show res = false by rw [HPH.out]; simp [h0, h1, h2])
     clear h0 h1 h2
     go_wp2_with fail
     go_ret
     exact NO.out _ (Below.refl _ _) _ R.out (.inr rfl)
theorem keep_len (ks : List Int) (x : PageV) : (keepOf ks x).length = ks.length := by
 unfold keepOf
 split
 ·simp
 ·rfl
theorem keep_nth {ks : List Int} {x : PageV} (hl : ks.length = 16) (hx : x.w = 2 → 0 ≤ x.a ∧ x.a ≤ 15) (s : Nat) : nth (keepOf ks x) s = nth ks s + (b2n (atSlot s x) : Int) := by
 unfold keepOf atSlot
 by_cases h : x.w = 2
 ·rw [if_pos h]
  have := hx h
  unfold nth
  rw [List.getD_eq_getElem?_getD, List.getElem?_set]
  by_cases e : x.a.toNat = s
  ·subst e
   have e2 : x.a = ((x.a.toNat : Nat) : Int) := by omega
   have hb : b2n (decide (x.w = 2) && decide (x.a = ((x.a.toNat : Nat) : Int))) = 1 := by rw [← e2]; simp [h, b2n]
   rw [if_pos rfl, if_pos (by omega), hb]
   simp
  ·have hb : b2n (decide (x.w = 2) && decide (x.a = (s : Int))) = 0 := by
    have : x.a ≠ (s : Int) := by omega
    simp [this, b2n]
   rw [if_neg e, hb]
   simp [List.getD_eq_getElem?_getD]
 ·rw [if_neg h]
  have hb : b2n (decide (x.w = 2) && decide (x.a = (s : Int))) = 0 := by simp [h, b2n]
  rw [hb]; simp
theorem keep_all {l : List PageV} (hx : ∀ x ∈ l, x.w = 2 → 0 ≤ x.a ∧ x.a ≤ 15) {ks : List Int} (hl : ks.length = 16) (s : Nat) : (l.foldl keepOf ks).length = 16 ∧ nth (l.foldl keepOf ks) s = nth ks s + (slotUse l s : Int) := by
 induction l generalizing ks with
 | nil => exact ⟨hl, by simp [slotUse]⟩
 | cons x l ih =>
  have I := ih (fun y hy => hx y (List.mem_cons_of_mem _ hy)) (ks := keepOf ks x) (by rw [keep_len, hl])
  refine ⟨I.1, ?_⟩
  rw [List.foldl_cons, I.2, keep_nth hl (hx x (List.mem_cons_self ..))]
  unfold slotUse
  rw [List.countP_cons]
  unfold b2n
  split <;> simp_all <;> omega
theorem half_ok {P : PagerV} (hl : P.pages.length = 16) (hs : (List.range 16).all (slotOkP P) = true) {n : Nat} (hn : n < 16) : pageOkP P n = pageHalf P n := by
 unfold pageOkP pageHalf
 by_cases h0 : (pageAt P.pages n).w = 0
 ·rw [if_pos h0, if_pos h0]
 rw [if_neg h0, if_neg h0]
 by_cases h1 : (pageAt P.pages n).w = 1
 ·rw [if_pos h1, if_pos h1]
 rw [if_neg h1, if_neg h1]
 by_cases h2 : (pageAt P.pages n).w = 2
 ·rw [if_pos h2, if_pos h2]
  cases hin : inB (pageAt P.pages n).a 0 15
  ·simp
  ·have hv := inB_iff.1 hin
   have ho := List.all_eq_true.1 hs (pageAt P.pages n).a.toNat (List.mem_range.2 (by omega))
   unfold slotOkP at ho
   rw [decide_eq_true_eq] at ho
   have hm : pageAt P.pages n ∈ P.pages := by
    have : P.pages[n]? = some (pageAt P.pages n) := getD_lt (by omega)
    exact List.mem_of_getElem? this
   have hpos : 0 < slotUse P.pages (pageAt P.pages n).a.toNat := by
    unfold slotUse
    rw [List.countP_pos_iff]
    refine ⟨_, hm, ?_⟩
    unfold atSlot
    have : (pageAt P.pages n).a = (((pageAt P.pages n).a.toNat : Nat) : Int) := by omega
    rw [← this]
    simp [h2]
   cases he : (rowAt P.swap (pageAt P.pages n).a.toNat).isEmpty
   ·simp
   ·rw [he, if_pos rfl] at ho; omega
 ·rw [if_neg h2, if_neg h2]
theorem pagerOk_parts (P : PagerV) : pagerOk P = (kernOk P.kern && swapOk P.swap && decide (P.pages.length = 16) && tablesOkP P && aloneP P.kern && (List.range 16).all (pageHalf P) && (List.range 16).all (slotOkP P) && (inB P.hand 0 15 && inB P.limit 1 6 && decide ((countW P.pages 1 : Int) ≤ P.limit))) := by
 unfold pagerOk
 by_cases hl : P.pages.length = 16
 ·cases hs : (List.range 16).all (slotOkP P)
  ·simp
  ·have : (List.range 16).all (pageOkP P) = (List.range 16).all (pageHalf P) := by
    rw [Bool.eq_iff_iff, List.all_eq_true, List.all_eq_true]
    exact ⟨fun h n hn => by rw [← half_ok hl hs (List.mem_range.1 hn)]; exact h n hn, fun h n hn => by rw [half_ok hl hs (List.mem_range.1 hn)]; exact h n hn⟩
   rw [this]
   cases kernOk P.kern <;> cases swapOk P.swap <;> cases aloneP P.kern <;> cases tablesOkP P <;> cases (List.range 16).all (pageHalf P) <;> simp [hl, Bool.and_assoc]
 ·simp [hl]
theorem alone_no {K : KernV} {k : Nat} (hk : k < 3) (h : mayP (rightsOf K k) gA ≠ decide (k = 0)) : aloneP K = false := by
 unfold aloneP
 match k, hk, h with
 | 0, _, h => simp at h; simp [h]
 | 1, _, h => simp at h; simp [h]
 | 2, _, h => simp at h; simp [h]
theorem alone_yes {K : KernV} (h : ∀ j, j < 3 → mayP (rightsOf K j) gA = decide (j = 0)) : aloneP K = true := by
 unfold aloneP
 rw [h 0 (by omega), h 1 (by omega), h 2 (by omega)]
 rfl
theorem half_range {P : PagerV} (hl : P.pages.length = 16) {k : Nat} (h : ∀ j, j < k → pageHalf P j = true) : ∀ x ∈ P.pages.take k, x.w = 2 → 0 ≤ x.a ∧ x.a ≤ 15 := by
 intro x hx hw
 obtain ⟨j, hj⟩ := List.getElem?_of_mem hx
 have hjk : j < k := by have := (List.getElem?_eq_some_iff.1 hj).1; rw [List.length_take] at this; omega
 rw [List.getElem?_take, if_pos hjk] at hj
 have e : pageAt P.pages j = x := by unfold pageAt; rw [List.getD_eq_getElem?_getD, hj]; rfl
 have := h j hjk
 unfold pageHalf at this
 rw [e, if_neg (by omega), if_neg (by omega), if_pos hw] at this
 simp only [Bool.and_eq_true] at this
 exact inB_iff.1 this.1.1
theorem tables_low {P : PagerV} (h : tablesOkP P = true) : P.low.length = 4 ∧ ∀ i, i < 4 → 0 ≤ lowAt P.low i ∧ lowAt P.low i ≤ 11 := by
 unfold tablesOkP at h
 simp only [Bool.and_eq_true, decide_eq_true_eq, List.all_eq_true, List.mem_range] at h
 refine ⟨h.1.1.2, fun i hi => ?_⟩
 have := h.2 i hi
 unfold lowOkP at this
 simp only [Bool.and_eq_true] at this
 exact inB_iff.1 this.1.1
set_option maxRecDepth 100000 in
set_option maxHeartbeats 1000000 in
theorem PagerValid_any (mv iv ev cv sv lv qv : Value) (P : PagerV) (w : World) (h : RdP w mv iv ev cv sv lv qv P) (hs : SmallK P.kern) :
 Calls Tryz.prog 19 #[pagerAgg mv iv ev cv sv lv qv P.hand P.limit] w (fun r w' => r = .returned (.bool (pagerOk P)) ∧ Below w.heap.size w w') := by
 have Pt := pagerOk_parts P
 unfold pagerAgg
 have N0 := heap_alloc_new w (.cells #[mv, iv, ev, cv, sv, lv, qv, .int .i64 P.hand, .int .i64 P.limit] 46)
 have b0 := below1 w (.cells #[mv, iv, ev, cv, sv, lv, qv, .int .i64 P.hand, .int .i64 P.limit] 46)
 have h0 := h.below b0
 go_enter Tryz.func19, Tryz.ntmps19
 go_wp2_with fail
 generalize w.alloc _ = W0 at *
 have C1 := Lib.hid (fun W (hW : Below W0.heap.size W0 W) => KernelValid_impl mv iv ev cv P.kern W (h0.1.below hW) hs)
 have C2 := Lib.hid (fun W (hW : Below W0.heap.size W0 W) => SwapValid_impl sv P.swap W (h0.2.1.below hW))
 have Hb0 := Lib.hid b0
 obtain ⟨aq, qc, rfl, hq1, hq2⟩ := h0.2.2.2.shape
 unfold maxLen at hq2
 have hlt : w.heap.size < W0.heap.size := blk_lt N0
 cases hk : kernOk P.kern
 ·have S := Lib.hid (show pagerOk P = false by rw [Pt, hk]; rfl)
  rw [hk] at C1
  clear Pt
  refine (C1.out W0 (Below.refl _ _)).mono ?_; rintro r w1 ⟨rfl, b1⟩
  have HB := Lib.hid (Hb0.out.trans (b1.mono Hb0.out.size))
  clear N0 b0 h h0 b1
  go_wp2_with fail
  go_ret
  exact ⟨ret_bool S.out.symm, HB.out⟩
 rw [hk] at C1
 refine (C1.out W0 (Below.refl _ _)).mono ?_; rintro r w1 ⟨rfl, b1⟩
 have x4 := (blk_cells9 (blk_below N0 b1)).2.2.2.2.1
 have B1 := Lib.hid b1
 cases hsw : swapOk P.swap
 ·have S := Lib.hid (show pagerOk P = false by rw [Pt, hk, hsw]; rfl)
  have C := C2.out w1 b1
  rw [hsw] at C
  clear Pt N0 b0 h h0 b1
  go_wp2_with fail
  refine C.mono ?_; rintro r w2 ⟨rfl, b2⟩
  have HB := Lib.hid (Hb0.out.trans ((B1.out.trans (b2.mono B1.out.size)).mono Hb0.out.size))
  clear b2
  go_wp2_with fail
  go_ret
  exact ⟨ret_bool S.out.symm, HB.out⟩
 have C := C2.out w1 b1
 rw [hsw] at C
 clear b1
 go_wp2_with fail
 refine C.mono ?_; rintro r w2 ⟨rfl, b2⟩
 have B2 := Lib.hid (B1.out.trans (b2.mono B1.out.size))
 have x6 := (blk_cells9 (blk_below N0 B2.out)).2.2.2.2.2.2.1
 clear b2 C x4
 by_cases hl : P.pages.length = 16
 ·rw [hl] at x6
  cases ht : tablesOkP P
  ·have S := Lib.hid (show pagerOk P = false by rw [Pt, hk, hsw, ht]; simp)
   have C := tablesOk_any (blk_below N0 B2.out) (h0.below B2.out) (kernOk_iff.1 hk)
   rw [ht] at C
   clear Pt N0 b0 h h0
   go_wp2_with fail
   refine C.mono ?_; rintro r w3 ⟨rfl, b3⟩
   have HB := Lib.hid (Hb0.out.trans ((B2.out.trans (b3.mono B2.out.size)).mono Hb0.out.size))
   clear b3
   go_wp2_with fail
   go_ret
   exact ⟨ret_bool S.out.symm, HB.out⟩
  ·have C := tablesOk_any (blk_below N0 B2.out) (h0.below B2.out) (kernOk_iff.1 hk)
   rw [ht] at C
   go_wp2_with fail
   refine C.mono ?_; rintro r w3 ⟨rfl, b3⟩
   have B3 := Lib.hid (B2.out.trans (b3.mono B2.out.size))
   have HW3 := Lib.hid (Hb0.out.trans (B3.out.mono Hb0.out.size))
   have hK := kernOk_iff.1 hk
   have h3 := h0.below B3.out
   have N3 := blk_below N0 B3.out
   obtain ⟨ps, he1, he2⟩ := h3.1.2.2.1
   have hpl : ps.length = 3 := by rw [he2.1, hK.envl]
   obtain ⟨ae, ce, rfl, hce1, _, HE⟩ := RdF.open pairCs_len (by decide) he1
   have x2 := (blk_cells9 N3).2.2.1
   rw [hpl] at x2
   have Pt2 := Lib.hid (show pagerOk P = (aloneP P.kern && (List.range 16).all (pageHalf P) && (List.range 16).all (slotOkP P) && (inB P.hand 0 15 && inB P.limit 1 6 && decide ((countW P.pages 1 : Int) ≤ P.limit))) by rw [Pt, hk, hsw, ht]; simp [hl])
   have HK := Lib.hid hK
   have HL := Lib.hid (And.intro hl (And.intro hsw ht))
   have H3 := Lib.hid (And.intro N3 h3)
   have HEE := Lib.hid (And.intro HE he2)
   have HEL := Lib.hid hpl
   clear Pt hk hK hsw ht hl N0 b0 h h0 C1 C2 C b3 x6 HE he1 he2 hpl hs N3 h3 B1 B2
   go_wp2_with fail
   clear x2
   go_loopw [3, 4, 33] (fun _ _ ix wr => ∃ k : Nat, k ≤ 3 ∧ ix = .int .i64 k ∧ (∀ j, j < k → mayP (rightsOf P.kern j) gA = decide (j = 0)) ∧ Below w3.heap.size w3 wr) (fun _ _ ix _ => 3 - (intOf ix).toNat)
   case atStart => exact ⟨0, by omega, rfl, fun j hj => by omega, Below.refl _ _⟩
   case round =>
    obtain ⟨k, hkk, rfl, hall, hb⟩ := hrel
    by_cases hlt3 : k < 3
    ·have k3 : (k : Int) < 3 := by omega
     obtain ⟨p, hp⟩ : ∃ p, ps[k]? = some p := ⟨_, List.getElem?_eq_getElem (by have := HEL.out; omega)⟩
     obtain ⟨ge, eof, rfl, hgl, hce⟩ := HEE.out.1 k p hp
     have hrd := HEE.out.2.2 k p (envAt P.kern.envs k) hp (by unfold envAt; exact getD_lt (by rw [HK.out.envl]; omega))
     have D0 := (hb.cell (World.block_lt_of_cell? w3 _ (hce 0 _ rfl))).trans (hce 0 _ rfl)
     have D1 := (hb.cell (World.block_lt_of_cell? w3 _ (hce 1 _ rfl))).trans (hce 1 _ rfl)
     rw [Nat.add_zero] at D0
     obtain ⟨pv, pr⟩ := p
     dsimp only at D0 D1 hrd
     obtain ⟨pa, pn, rfl, _, _⟩ := RdF.shape hrd.1
     have bn := hb.trans ((below1 wr (.cells #[.slice pa (envAt P.kern.envs k).rights.length pn, .int .i64 pr] 80)).mono hb.size)
     have CM := may_any _ (envAt P.kern.envs k).rights gA _ (RdF.below hrd.1 bn)
     have Hall := Lib.hid hall
     have Hbn := Lib.hid bn
     have HM := Lib.hid (show mayP (rightsOf P.kern k) gA = mayP (envAt P.kern.envs k).rights gA from rfl)
     generalize mayP (envAt P.kern.envs k).rights gA = b at CM HM
     generalize (envAt P.kern.envs k).rights.length = rl at *
     clear hce hrd hall bn hp
     go_wp2_with fail
     refine CM.mono ?_; rintro r w5 ⟨rfl, b5⟩
     have Hb5 := Lib.hid (Hbn.out.trans (b5.mono Hbn.out.size))
     clear b5 CM
     by_cases k0 : k = 0
     ·have t0 : ((k : Int) == 0) = true := by simp [k0]
      cases b
      ·have S := Lib.hid (show pagerOk P = false by rw [Pt2.out, alone_no hlt3 (by rw [HM.out]; simp [k0])]; rfl)
       clear k0
       go_wp2_with fail
       go_ret
       exact ⟨ret_bool S.out.symm, HW3.out.trans (Hb5.out.mono HW3.out.size)⟩
      ·have K0 := Lib.hid k0
       clear k0
       go_wp2_with fail
       go_roundw
       case rel => exact ⟨k + 1, by omega, by go_num, fun j hj => by
        rcases Nat.lt_succ_iff_lt_or_eq.1 hj with x | x
        ·exact Hall.out j x
        ·subst x; rw [HM.out]; simp [K0.out], Hb5.out⟩
       case measure => simp [intOf]; omega
     ·have t0 : ((k : Int) == 0) = false := by simp [k0]
      cases b
      ·have K0 := Lib.hid k0
       clear k0
       go_wp2_with fail
       go_roundw
       case rel => exact ⟨k + 1, by omega, by go_num, fun j hj => by
        rcases Nat.lt_succ_iff_lt_or_eq.1 hj with x | x
        ·exact Hall.out j x
        ·subst x; rw [HM.out]; simp [K0.out], Hb5.out⟩
       case measure => simp [intOf]; omega
      ·have S := Lib.hid (show pagerOk P = false by rw [Pt2.out, alone_no hlt3 (by rw [HM.out]; simp [k0])]; rfl)
       clear k0
       go_wp2_with fail
       go_ret
       exact ⟨ret_bool S.out.symm, HW3.out.trans (Hb5.out.mono HW3.out.size)⟩
    ·obtain rfl : k = 3 := by omega
     have Pt3 := Lib.hid (show pagerOk P = ((List.range 16).all (pageHalf P) && (List.range 16).all (slotOkP P) && (inB P.hand 0 15 && inB P.limit 1 6 && decide ((countW P.pages 1 : Int) ≤ P.limit))) by rw [Pt2.out, alone_yes hall]; simp)
     have Hb3 := Lib.hid hb
     have TL := Lib.hid (tables_low HL.out.2.2)
     clear hall Pt2
     rw [show ((3 : Nat) : Int) = 3 from rfl]
     have x6 := (blk_cells9 (blk_below H3.out.1 hb)).2.2.2.2.2.2.1
     rw [HL.out.1] at x6
     go_wp2_with (refine wp_make (n := 16) rfl rfl 3 (.int .i64 0) 8 Tryz.underlying38 Tryz.infoInt rfl rfl (by omega) (by unfold maxLen; omega) ?_; intro w6 hown hbel hsz; replace x6 := (hbel.cell (World.block_lt_of_cell? wr _ x6)).trans x6)
     have St : OwnInts w3.heap.size w6 (.slice (some ⟨wr.heap.size, 0, none⟩) 16 16) (List.replicate 16 0) := own_loV (by simpa [OwnInts] using hown) Hb3.out.size
     have Hb6 := Lib.hid (Hb3.out.trans (hbel.mono Hb3.out.size))
     generalize wr.heap.size = gk at *
     clear hown hbel hsz hb
     go_wp2_with fail
     clear x6
     go_loopw [6, 49] (fun _ ix wx => ∃ k : Nat, k ≤ 16 ∧ ix = .int .i64 k ∧ (∀ j, j < k → pageHalf P j = true) ∧ OwnInts w3.heap.size wx (.slice (some ⟨gk, 0, none⟩) 16 16) ((P.pages.take k).foldl keepOf (List.replicate 16 0)) ∧ Below w3.heap.size w3 wx) (fun _ ix _ => 16 - (intOf ix).toNat)
     case atStart => exact ⟨0, by omega, rfl, fun j hj => by omega, St, Hb6.out⟩
     case round =>
      clear St
      obtain ⟨k, hkk, rfl, hall, St, hb⟩ := hrel
      have KA := Lib.hid (fun s => keep_all (l := P.pages.take k) (half_range HL.out.1 hall) (ks := List.replicate 16 0) (by simp) s)
      by_cases hlt16 : k < 16
      ·have k16 : (k : Int) < 16 := by omega
       have C := pageOk_any (blk_below H3.out.1 hb) (H3.out.2.below hb) HK.out TL.out.1 TL.out.2 HL.out.1 St (KA.out 0).1 (fun j hj => by
        rw [(KA.out j).2]
        have h0 : nth (List.replicate 16 (0 : Int)) j = 0 := by unfold nth; rw [List.getD_eq_getElem?_getD, List.getElem?_replicate]; split <;> rfl
        have h1 : slotUse (P.pages.take k) j ≤ (P.pages.take k).length := by unfold slotUse; exact List.countP_le_length
        have h2 : (P.pages.take k).length ≤ 16 := by rw [List.length_take]; omega
        omega) hb.size hlt16
       have Nx := Lib.hid (show (P.pages.take (k + 1)).foldl keepOf (List.replicate 16 0) = keepOf ((P.pages.take k).foldl keepOf (List.replicate 16 0)) (pageAt P.pages k) by
        rw [take_one (show P.pages[k]? = some (pageAt P.pages k) from getD_lt (by have := HL.out.1; omega)), List.foldl_append]; rfl)
       have Hall := Lib.hid hall
       have Hb := Lib.hid hb
       generalize (P.pages.take k).foldl keepOf (List.replicate 16 0) = ks at *
       clear hall hb St KA
       go_wp2_with fail
       refine C.mono ?_; rintro r w7 ⟨ks', ⟨rfl, o7, g7, b7⟩, e7⟩
       have Hb7 := Lib.hid (Hb.out.trans b7)
       have O7 := Lib.hid o7
       cases hph : pageHalf P k
       ·have S := Lib.hid (show pagerOk P = false by rw [Pt3.out, all_no hlt16 hph]; rfl)
        clear o7 g7 b7 e7 C
        go_wp2_with fail
        go_ret
        exact ⟨ret_bool S.out.symm, HW3.out.trans (Hb7.out.mono HW3.out.size)⟩
       ·have E7 := Lib.hid (e7 hph)
        have PH := Lib.hid hph
        clear o7 g7 b7 e7 C
        go_wp2_with fail
        go_roundw
        case rel => exact ⟨k + 1, by omega, by go_num, fun j hj => by
         rcases Nat.lt_succ_iff_lt_or_eq.1 hj with x | x
         ·exact Hall.out j x
         ·subst x; exact PH.out, by rw [Nx.out, ← E7.out]; exact O7.out, Hb7.out⟩
        case measure => simp [intOf]; omega
      ·obtain rfl : k = 16 := by omega
       have Pt4 := Lib.hid (show pagerOk P = ((List.range 16).all (slotOkP P) && (inB P.hand 0 15 && inB P.limit 1 6 && decide ((countW P.pages 1 : Int) ≤ P.limit))) by rw [Pt3.out, List.all_eq_true.2 (fun j hj => hall j (List.mem_range.1 hj))]; simp)
       rw [List.take_of_length_le (by have := HL.out.1; omega)] at St KA
       generalize P.pages.foldl keepOf (List.replicate 16 0) = ks at St KA
       have hkl := (KA.out 0).1
       have own1 : wr.ownsRow w3.heap.size 3 1 (.slice (some ⟨gk, 0, none⟩) 16 16) 16 (ks.map (Value.int .i64)) := by have := St; unfold OwnInts at this; rwa [hkl] at this
       have KC := Lib.hid (fun (j : Nat) (hj : j < 16) => show wr.cell? ⟨gk, j, none⟩ = some (.int .i64 (slotUse P.pages j : Int)) from by
        rw [World.ownsRow.cellAt own1 j (by omega), List.getElem?_map, List.getElem?_eq_getElem (by omega)]
        have e := (KA.out j).2
        have h0 : nth (List.replicate 16 (0 : Int)) j = 0 := by unfold nth; rw [List.getD_eq_getElem?_getD, List.getElem?_replicate]; split <;> rfl
        rw [h0, Int.zero_add] at e
        unfold nth at e
        rw [List.getD_eq_getElem?_getD, List.getElem?_eq_getElem (by omega)] at e
        simp at e
        rw [← e]; rfl)
       obtain ⟨vs, s1, s2⟩ := (H3.out.2.below hb).2.1
       have hsl : P.swap.length = 16 := (swapOk_iff.1 HL.out.2.1).1
       have hvl : vs.length = 16 := by rw [s2.1, hsl]
       obtain ⟨as_, cs_, rfl, _, _, HS⟩ := RdF.open oneCs_len (by decide) s1
       have x4 := (blk_cells9 (blk_below H3.out.1 hb)).2.2.2.2.1
       rw [hvl] at x4
       have Hx4 := Lib.hid x4
       have Hb := Lib.hid hb
       have HSS := Lib.hid (And.intro HS (And.intro s2 (And.intro hsl hvl)))
       clear hall hb St KA own1 hkl HS s1 s2 hsl hvl x4
       generalize hW4 : wr = w4 at *
       go_wp2_with fail
       go_loopw [7, 8, 59] (fun _ _ ix wx => ∃ k : Nat, k ≤ 16 ∧ ix = .int .i64 k ∧ (∀ j, j < k → slotOkP P j = true) ∧ w4 = wx) (fun _ _ ix _ => 16 - (intOf ix).toNat)
       case atStart => exact ⟨0, by omega, rfl, fun j hj => by omega, rfl⟩
       case round =>
        obtain ⟨k, hkk, rfl, hall, rfl⟩ := hrel
        by_cases hlt17 : k < 16
        ·have k17 : (k : Int) < 16 := by omega
         have KCk := KC.out k hlt17
         obtain ⟨u, hu⟩ : ∃ u, vs[k]? = some u := ⟨_, List.getElem?_eq_getElem (by have := HSS.out.2.2.2; omega)⟩
         obtain ⟨sb, sof, rfl, hsb, hcs⟩ := HSS.out.1 k u hu
         have DS := hcs 0 _ rfl
         have hru := HSS.out.2.1.2 k u (rowAt P.swap k) hu (by unfold rowAt; exact getD_lt (by have := HSS.out.2.2.1; omega))
         obtain ⟨ua, uc, rfl, _, _, _⟩ := hru.open
         rw [Nat.mul_one, Nat.add_zero] at DS
         have x4 := Hx4.out
         have Hall := Lib.hid hall
         have SO : slotOkP P k = decide (slotUse P.pages k = if (rowAt P.swap k).isEmpty then 0 else 1) := rfl
         generalize slotUse P.pages k = n at KCk SO
         generalize rowAt P.swap k = row at DS SO hru
         clear hcs hall hu hru
         by_cases hr : row = []
         ·subst hr
          simp only [List.length_nil] at DS
          by_cases hn0 : n = 0
          ·have PS := Lib.hid (show slotOkP P k = true by rw [SO, hn0]; rfl)
           subst hn0
           clear SO
           go_wp2_with fail
           go_roundw
           case rel => exact ⟨k + 1, by omega, by go_num, fun j hj => by
            rcases Nat.lt_succ_iff_lt_or_eq.1 hj with x | x
            ·exact Hall.out j x
            ·subst x; exact PS.out, trivial⟩
           case measure => simp [intOf]; omega
          ·have S := Lib.hid (show pagerOk P = false by rw [Pt4.out, all_no hlt17 (by rw [SO]; simp [hn0])]; rfl)
           have t1 : ((n : Int) != 0) = true := by simp; omega
           clear SO hn0
           go_wp2_with fail
           go_ret
           exact ⟨ret_bool S.out.symm, HW3.out.trans (Hb.out.mono HW3.out.size)⟩
         ·have hpos : 0 < row.length := List.length_pos_iff.2 hr
          have he : row.isEmpty = false := by cases row with | nil => exact absurd rfl hr | cons a l => rfl
          generalize row.length = rl at DS hpos
          have p1 : (0 : Int) < (rl : Int) := by omega
          have t2 : ((rl : Int) == 0) = false := by simp; omega
          rw [he] at SO
          clear hr he
          by_cases hn1 : n = 1
          ·have PS := Lib.hid (show slotOkP P k = true by rw [SO, hn1]; rfl)
           subst hn1
           clear SO
           go_wp2_with fail
           go_roundw
           case rel => exact ⟨k + 1, by omega, by go_num, fun j hj => by
            rcases Nat.lt_succ_iff_lt_or_eq.1 hj with x | x
            ·exact Hall.out j x
            ·subst x; exact PS.out, trivial⟩
           case measure => simp [intOf]; omega
          ·have S := Lib.hid (show pagerOk P = false by rw [Pt4.out, all_no hlt17 (by rw [SO]; simp [hn1])]; rfl)
           have t1 : ((n : Int) != 1) = true := by simp; omega
           clear SO hn1
           go_wp2_with fail
           go_ret
           exact ⟨ret_bool S.out.symm, HW3.out.trans (Hb.out.mono HW3.out.size)⟩
        ·obtain rfl : k = 16 := by omega
         have Pt5 := Lib.hid (show pagerOk P = (inB P.hand 0 15 && inB P.limit 1 6 && decide ((countW P.pages 1 : Int) ≤ P.limit)) by rw [Pt4.out, List.all_eq_true.2 (fun j hj => hall j (List.mem_range.1 hj))]; simp)
         have N4 := blk_below H3.out.1 Hb.out
         have hq4 := H3.out.2.below Hb.out
         have x7 := (blk_cells9 N4).2.2.2.2.2.2.2.1
         have x8 := (blk_cells9 N4).2.2.2.2.2.2.2.2
         have hbk := blk_lt N4
         have CN := Lib.hid (fun W (hW : Below w4.heap.size w4 W) => pcount_any (blk_cells9 (blk_below N4 hW)).2.2.2.2.2.2.1 (RdF.below hq4.2.2.2 hW) HL.out.1 1)
         have CH := Lib.hid (fun W => within_any P.hand 0 15 W)
         have CL := Lib.hid (fun W => within_any P.limit 1 6 W)
         clear hall N4 hq4
         cases hih : inB P.hand 0 15
         ·have S := Lib.hid (show pagerOk P = false by rw [Pt5.out, hih]; rfl)
          rw [hih] at CH
          go_wp2_with fail
          refine wp_region_grow 14 Tryz.mixed (by kernel_rfl) 103 rfl (by kernel_rfl) (fun ix vv ww => match ix with
           | 0 => vv = .pointer (some ⟨w.heap.size, 7, none⟩)
           | 1 => vv = .int .i64 (P.hand)
           | 2 => vv = .bool false
           | 3 => vv = .bool false
           | 4 | 5 | 6 => vv = undef
           | 7 => vv = .bool false
           | 8 => vv = .bool false
           | 9 | 10 | 11 | 12 => vv = undef
           | 13 => vv = .bool false
           | _ => True) ?_ ?_ ?_
          ·intro i hi vv wz ww' hbz hz
           match i, hi with
           | 0, _ | 1, _ | 2, _ | 3, _ | 4, _ | 5, _ | 6, _ | 7, _ | 8, _ | 9, _ | 10, _ | 11, _ | 12, _ | 13, _ => exact hz
          ·intro i hi o ho a wx Hb Hd hG K HK
           match i, hi with
           | 0, _ => exact dF ho rfl (gn rfl) HK rfl fA46_4 (eb (Hb.out.2.2 1 (by decide))) rfl
           | 1, _ => exact dL ho rfl (gn rfl) HK rfl (et (Hd.out 0 (by kernel_rfl))) (lA3 (bc hG hbk x7)) rfl
           | 2, _ =>
            obtain rfl := Option.some.inj ho
            have d1 : (a.tmps[90]?.getD undef) = .int .i64 (P.hand) := Hd.out 1 (by kernel_rfl)
            clear Hd Hb
            refine Does.of rfl ?_
            go_simp
            refine (CH.out _).mono ?_; rintro r w_ ⟨rfl, rfl⟩
            exact HK.out _ _ rfl (Below.refl _ _)
           | 3, _ => exact dM ho rfl (gn rfl) HK rfl (et (Hd.out 2 (by kernel_rfl))) rfl
           | 4, _ | 5, _ | 6, _ => exact dB ho rfl HK rfl rfl (Hd.out 3 (by kernel_rfl)) rfl
           | 7, _ => exact dE ho rfl (gn rfl) HK rfl (et (Hd.out 3 (by kernel_rfl))) rfl rfl
           | 8, _ => exact dM ho rfl (gn rfl) HK rfl (et (Hd.out 7 (by kernel_rfl))) rfl
           | 9, _ | 10, _ | 11, _ | 12, _ => exact dB ho rfl HK rfl rfl (Hd.out 8 (by kernel_rfl)) rfl
           | 13, _ => exact dE ho rfl (gn rfl) HK rfl (et (Hd.out 8 (by kernel_rfl))) rfl rfl
          ·intro vs wx hR hG
           have q13 : (vs 13) = .bool false := hR 13 (by decide)
           clear hR
           simp only [fillAt, dstOf, List.range, List.range.loop, List.foldl_cons, List.foldl_nil, q13]
           simp
           clear q13
           go_wp2_with fail
           go_ret
           exact ⟨ret_bool S.out.symm, HW3.out.trans ((Hb.out.trans (hG.mono Hb.out.size)).mono HW3.out.size)⟩
         ·rw [hih] at CH Pt5
          cases hil : inB P.limit 1 6
          ·have S := Lib.hid (show pagerOk P = false by rw [Pt5.out, hil]; rfl)
           rw [hil] at CL
           go_wp2_with fail
           refine wp_region_grow 14 Tryz.mixed (by kernel_rfl) 103 rfl (by kernel_rfl) (fun ix vv ww => match ix with
            | 0 => vv = .pointer (some ⟨w.heap.size, 7, none⟩)
            | 1 => vv = .int .i64 (P.hand)
            | 2 => vv = .bool true
            | 3 => vv = .bool true
            | 4 => vv = .pointer (some ⟨w.heap.size, 8, none⟩)
            | 5 => vv = .int .i64 (P.limit)
            | 6 => vv = .bool false
            | 7 => vv = .bool false
            | 8 => vv = .bool false
            | 9 | 10 | 11 | 12 => vv = undef
            | 13 => vv = .bool false
            | _ => True) ?_ ?_ ?_
           ·intro i hi vv wz ww' hbz hz
            match i, hi with
            | 0, _ | 1, _ | 2, _ | 3, _ | 4, _ | 5, _ | 6, _ | 7, _ | 8, _ | 9, _ | 10, _ | 11, _ | 12, _ | 13, _ => exact hz
           ·intro i hi o ho a wx Hb Hd hG K HK
            match i, hi with
            | 0, _ => exact dF ho rfl (gn rfl) HK rfl fA46_4 (eb (Hb.out.2.2 1 (by decide))) rfl
            | 1, _ => exact dL ho rfl (gn rfl) HK rfl (et (Hd.out 0 (by kernel_rfl))) (lA3 (bc hG hbk x7)) rfl
            | 2, _ =>
             obtain rfl := Option.some.inj ho
             have d1 : (a.tmps[90]?.getD undef) = .int .i64 (P.hand) := Hd.out 1 (by kernel_rfl)
             clear Hd Hb
             refine Does.of rfl ?_
             go_simp
             refine (CH.out _).mono ?_; rintro r w_ ⟨rfl, rfl⟩
             exact HK.out _ _ rfl (Below.refl _ _)
            | 3, _ => exact dM ho rfl (gn rfl) HK rfl (et (Hd.out 2 (by kernel_rfl))) rfl
            | 4, _ => exact dF ho rfl (gy rfl rfl (Hd.out 3 (by kernel_rfl))) HK rfl fA46_5 (eb (Hb.out.2.2 1 (by decide))) rfl
            | 5, _ => exact dL ho rfl (gy rfl rfl (Hd.out 3 (by kernel_rfl))) HK rfl (et (Hd.out 4 (by kernel_rfl))) (lA3 (bc hG hbk x8)) rfl
            | 6, _ =>
             obtain rfl := Option.some.inj ho
             have d5 : (a.tmps[94]?.getD undef) = .int .i64 (P.limit) := Hd.out 5 (by kernel_rfl)
             have d3 : (a.tmps[92]?.getD undef) = .bool true := Hd.out 3 (by kernel_rfl)
             clear Hd Hb
             refine Does.yes rfl rfl d3 ?_
             go_simp
             refine (CL.out _).mono ?_; rintro r w_ ⟨rfl, rfl⟩
             exact HK.out _ _ rfl (Below.refl _ _)
            | 7, _ => exact dT ho rfl (gn rfl) HK rfl (et (Hd.out 3 (by kernel_rfl))) (et (Hd.out 6 (by kernel_rfl))) rfl
            | 8, _ => exact dM ho rfl (gn rfl) HK rfl (et (Hd.out 7 (by kernel_rfl))) rfl
            | 9, _ | 10, _ | 11, _ | 12, _ => exact dB ho rfl HK rfl rfl (Hd.out 8 (by kernel_rfl)) rfl
            | 13, _ => exact dE ho rfl (gn rfl) HK rfl (et (Hd.out 8 (by kernel_rfl))) rfl rfl
           ·intro vs wx hR hG
            have q13 : (vs 13) = .bool false := hR 13 (by decide)
            clear hR
            simp only [fillAt, dstOf, List.range, List.range.loop, List.foldl_cons, List.foldl_nil, q13]
            simp
            clear q13
            go_wp2_with fail
            go_ret
            exact ⟨ret_bool S.out.symm, HW3.out.trans ((Hb.out.trans (hG.mono Hb.out.size)).mono HW3.out.size)⟩
          ·rw [hil] at CL Pt5
           have S := Lib.hid (show pagerOk P = decide ((countW P.pages 1 : Int) ≤ P.limit) by rw [Pt5.out]; simp)
           generalize countW P.pages 1 = cn at CN S
           go_wp2_with fail
           refine wp_region_grow 14 Tryz.mixed (by kernel_rfl) 103 rfl (by kernel_rfl) (fun ix vv ww => match ix with
            | 0 => vv = .pointer (some ⟨w.heap.size, 7, none⟩)
            | 1 => vv = .int .i64 (P.hand)
            | 2 => vv = .bool true
            | 3 => vv = .bool true
            | 4 => vv = .pointer (some ⟨w.heap.size, 8, none⟩)
            | 5 => vv = .int .i64 (P.limit)
            | 6 => vv = .bool true
            | 7 => vv = .bool true
            | 8 => vv = .bool true
            | 9 => vv = .int .i64 ((cn : Int))
            | 10 => vv = .pointer (some ⟨w.heap.size, 8, none⟩)
            | 11 => vv = .int .i64 (P.limit)
            | 12 => vv = .bool (decide ((cn : Int) ≤ P.limit))
            | 13 => vv = .bool (decide ((cn : Int) ≤ P.limit))
            | _ => True) ?_ ?_ ?_
           ·intro i hi vv wz ww' hbz hz
            match i, hi with
            | 0, _ | 1, _ | 2, _ | 3, _ | 4, _ | 5, _ | 6, _ | 7, _ | 8, _ | 9, _ | 10, _ | 11, _ | 12, _ | 13, _ => exact hz
           ·intro i hi o ho a wx Hb Hd hG K HK
            match i, hi with
            | 0, _ => exact dF ho rfl (gn rfl) HK rfl fA46_4 (eb (Hb.out.2.2 1 (by decide))) rfl
            | 1, _ => exact dL ho rfl (gn rfl) HK rfl (et (Hd.out 0 (by kernel_rfl))) (lA3 (bc hG hbk x7)) rfl
            | 2, _ =>
             obtain rfl := Option.some.inj ho
             have d1 : (a.tmps[90]?.getD undef) = .int .i64 (P.hand) := Hd.out 1 (by kernel_rfl)
             clear Hd Hb
             refine Does.of rfl ?_
             go_simp
             refine (CH.out _).mono ?_; rintro r w_ ⟨rfl, rfl⟩
             exact HK.out _ _ rfl (Below.refl _ _)
            | 3, _ => exact dM ho rfl (gn rfl) HK rfl (et (Hd.out 2 (by kernel_rfl))) rfl
            | 4, _ => exact dF ho rfl (gy rfl rfl (Hd.out 3 (by kernel_rfl))) HK rfl fA46_5 (eb (Hb.out.2.2 1 (by decide))) rfl
            | 5, _ => exact dL ho rfl (gy rfl rfl (Hd.out 3 (by kernel_rfl))) HK rfl (et (Hd.out 4 (by kernel_rfl))) (lA3 (bc hG hbk x8)) rfl
            | 6, _ =>
             obtain rfl := Option.some.inj ho
             have d5 : (a.tmps[94]?.getD undef) = .int .i64 (P.limit) := Hd.out 5 (by kernel_rfl)
             have d3 : (a.tmps[92]?.getD undef) = .bool true := Hd.out 3 (by kernel_rfl)
             clear Hd Hb
             refine Does.yes rfl rfl d3 ?_
             go_simp
             refine (CL.out _).mono ?_; rintro r w_ ⟨rfl, rfl⟩
             exact HK.out _ _ rfl (Below.refl _ _)
            | 7, _ => exact dT ho rfl (gn rfl) HK rfl (et (Hd.out 3 (by kernel_rfl))) (et (Hd.out 6 (by kernel_rfl))) rfl
            | 8, _ => exact dM ho rfl (gn rfl) HK rfl (et (Hd.out 7 (by kernel_rfl))) rfl
            | 9, _ =>
             obtain rfl := Option.some.inj ho
             have e1 : a.tmps[1]?.getD undef = .pointer (some ⟨w.heap.size, 0, none⟩) := eg (Hb.out.2.2 1 (by decide))
             have d8 : (a.tmps[97]?.getD undef) = .bool true := Hd.out 8 (by kernel_rfl)
             clear Hd Hb
             refine Does.yes rfl rfl d8 ?_
             go_simp
             refine (CN.out _ hG).mono ?_; rintro r w_ ⟨rfl, hb2⟩
             exact HK.out _ _ rfl hb2
            | 10, _ => exact dF ho rfl (gy rfl rfl (Hd.out 8 (by kernel_rfl))) HK rfl fA46_5 (eb (Hb.out.2.2 1 (by decide))) rfl
            | 11, _ => exact dL ho rfl (gy rfl rfl (Hd.out 8 (by kernel_rfl))) HK rfl (et (Hd.out 10 (by kernel_rfl))) (lA3 (bc hG hbk x8)) rfl
            | 12, _ =>
             obtain rfl := Option.some.inj ho
             have d9 : (a.tmps[98]?.getD undef) = .int .i64 ((cn : Int)) := Hd.out 9 (by kernel_rfl)
             have d11 : (a.tmps[100]?.getD undef) = .int .i64 (P.limit) := Hd.out 11 (by kernel_rfl)
             have d8 : (a.tmps[97]?.getD undef) = .bool true := Hd.out 8 (by kernel_rfl)
             clear Hd Hb
             refine Does.yes rfl rfl d8 ?_
             go_simp
             exact HK.out _ _ rfl (Below.refl _ _)
            | 13, _ => exact dT ho rfl (gn rfl) HK rfl (et (Hd.out 8 (by kernel_rfl))) (et (Hd.out 12 (by kernel_rfl))) rfl
           ·intro vs wx hR hG
            have q13 : (vs 13) = .bool (decide ((cn : Int) ≤ P.limit)) := hR 13 (by decide)
            clear hR
            simp only [fillAt, dstOf, List.range, List.range.loop, List.foldl_cons, List.foldl_nil, q13]
            simp
            clear q13
            go_wp2_with fail
            go_ret
            exact ⟨ret_bool S.out.symm, HW3.out.trans ((Hb.out.trans (hG.mono Hb.out.size)).mono HW3.out.size)⟩
 ·have S := Lib.hid (show pagerOk P = false by rw [Pt]; simp [hl])
  have t1 : ((P.pages.length : Int) != 16) = true := by simp; omega
  have HB := Lib.hid (Hb0.out.trans (B2.out.mono Hb0.out.size))
  clear Pt N0 b0 h h0 hl
  go_wp2_with fail
  go_ret
  exact ⟨ret_bool S.out.symm, HB.out⟩
section
variable {lo g : Nat} {w w1 : World} {m i e c s l q : Value} {P : PagerV}
theorem InP.putHand (h : InP lo g w m i e c s l q P) (x : Int) : InP lo g (w.setCell ⟨g, 7, none⟩ (.int .i64 x)) m i e c s l q { P with hand := x } ∧ w.grownBy (w.setCell ⟨g, 7, none⟩ (.int .i64 x)) (some g) := by
 have hgr := grown_set w g 7 (.int .i64 x)
 have F := h.own.far hgr h.blk (by decide) (by decide) (by decide) (by decide) (by decide) (by decide) (by decide)
 refine ⟨⟨?_, h.glo, ⟨F.ker, F.swp, F.low, F.pgs, F.apart⟩⟩, hgr⟩
 have := heap_setCell_same w g 7 _ 46 (.int .i64 x) h.blk
 simpa using this
theorem InP.putPage {gq n0 cap n j : Nat} {x y : PageV} {u : Value} (h : InP lo g w m i e c s l (.slice (some ⟨gq, 0, none⟩) n0 cap) P) (hn0 : n0 = P.pages.length) (hk : P.pages[n]? = some x) (hj : j < 3) (hy : pageCs y = (pageCs x).set j u) :
 InP lo g (w.setCell ⟨gq, n * 3 + j, none⟩ u) m i e c s l (.slice (some ⟨gq, 0, none⟩) n0 cap) { P with pages := P.pages.set n y } ∧ w.grownBy (w.setCell ⟨gq, n * 3 + j, none⟩ u) (some gq) ∧ lo ≤ gq := by
 obtain ⟨hB, hglo, ⟨k0, ⟨vs, hs⟩, hlw, hp, hap⟩⟩ := h
 subst hn0
 have S := OwnF.stored1 pageCs_len hp hk hj hy
 obtain ⟨cur, hc⟩ := own_type hp gq rfl
 exact ⟨⟨blk_grown hB S.2 (blk_ne hc hB (by decide)), hglo, ⟨k0.far S.2 hc (by decide) (by decide) (by decide) (by decide) (by decide) (by decide), ⟨vs, hs.far S.2 hc (by decide) (by decide)⟩, own_far hlw S.2 hc (by decide), S.1, hap⟩⟩, S.2, (World.ownsRow.lt hp gq rfl).1⟩
theorem InP.putPages {gq n0 cap n : Nat} (h : InP lo g w m i e c s l (.slice (some ⟨gq, 0, none⟩) n0 cap) P) (hn0 : n0 = P.pages.length) (hn : n < P.pages.length) (y : PageV) :
 InP lo g (((w.setCell ⟨gq, n * 3, none⟩ (.int .i64 y.w)).setCell ⟨gq, n * 3 + 1, none⟩ (.int .i64 y.a)).setCell ⟨gq, n * 3 + 2, none⟩ (.bool y.u)) m i e c s l (.slice (some ⟨gq, 0, none⟩) n0 cap) { P with pages := P.pages.set n y } ∧ w.grownBy (((w.setCell ⟨gq, n * 3, none⟩ (.int .i64 y.w)).setCell ⟨gq, n * 3 + 1, none⟩ (.int .i64 y.a)).setCell ⟨gq, n * 3 + 2, none⟩ (.bool y.u)) (some gq) ∧ lo ≤ gq := by
 obtain ⟨hB, hglo, ⟨k0, ⟨vs, hs⟩, hlw, hp, hap⟩⟩ := h
 subst hn0
 have S := OwnF.stored pageCs_len hp hn y
 obtain ⟨cur, hc⟩ := own_type hp gq rfl
 exact ⟨⟨blk_grown hB S.2 (blk_ne hc hB (by decide)), hglo, ⟨k0.far S.2 hc (by decide) (by decide) (by decide) (by decide) (by decide) (by decide), ⟨vs, hs.far S.2 hc (by decide) (by decide)⟩, own_far hlw S.2 hc (by decide), S.1, hap⟩⟩, S.2, (World.ownsRow.lt hp gq rfl).1⟩
theorem InP.putSwap (h : InP lo g w m i e c s l q P) {vs : List Value} {S : List (List Int)} (hg : w.grownBy w1 s.ownBlock) (hO : OwnRows lo w1 s vs S) : InP lo g w1 m i e c s l q { P with swap := S } := by
 obtain ⟨hB, hglo, ⟨⟨⟨ms, k1, k2, k3⟩, k4, ⟨ps, k5, k6, k7⟩, k8⟩, ⟨us, hs⟩, hlw, hp, hap⟩⟩ := h
 have hne := own_row_ne hs.1 hB (by decide)
 refine ⟨(hg.block g (blk_lt hB) (fun e => hne e.symm)).trans hB, hglo, ⟨⟨⟨ms, own_grown k1 hg hap.ne, k2.mono fun _ _ x => own_grown x hg (apart_type x hs.1 (by decide)).ne, k3⟩, own_grown k4 hg (apart_type k4 hs.1 (by decide)).ne, ⟨ps, own_grown k5 hg (apart_type k5 hs.1 (by decide)).ne, k6.mono fun _ _ x => ⟨own_grown x.1 hg (apart_type x.1 hs.1 (by decide)).ne, x.2⟩, k7⟩, own_grown k8 hg (apart_type k8 hs.1 (by decide)).ne⟩, ⟨vs, hO⟩, own_grown hlw hg (apart_type hlw hs.1 (by decide)).ne, own_grown hp hg (apart_type hp hs.1 (by decide)).ne, hap⟩⟩
theorem InP.page (h : InP lo g w m i e c s l q P) {n : Nat} (hn : n < P.pages.length) : ∃ gq cap, q = .slice (some ⟨gq, 0, none⟩) P.pages.length cap ∧ P.pages.length ≤ cap ∧ lo ≤ gq ∧ gq < w.heap.size ∧ gq ≠ g ∧ (∀ j, w.frozen? ⟨gq, j, none⟩ = false) ∧ w.cell? ⟨gq, n * 3, none⟩ = some (.int .i64 (pageAt P.pages n).w) ∧ w.cell? ⟨gq, n * 3 + 1, none⟩ = some (.int .i64 (pageAt P.pages n).a) ∧ w.cell? ⟨gq, n * 3 + 2, none⟩ = some (.bool (pageAt P.pages n).u) := by
 obtain ⟨gq, cap, rfl, h1, _, h3, h4, h5⟩ := h.own.pgs.shapeOwn (by omega)
 have hc := OwnF.cellsAt pageCs_len h.own.pgs (k := n) (x := pageAt P.pages n) (by unfold pageAt; exact getD_lt hn)
 obtain ⟨cur, hcur⟩ := own_type h.own.pgs gq rfl
 exact ⟨gq, cap, rfl, h1, h3, h4, blk_ne hcur h.blk (by decide), h5, hc 0 _ rfl, hc 1 _ rfl, hc 2 _ rfl⟩
theorem InP.pg {gq n0 cap : Nat} (h : InP lo g w m i e c s l (.slice (some ⟨gq, 0, none⟩) n0 cap) P) {n : Nat} (hn : n < P.pages.length) : gq < w.heap.size ∧ (∀ j, w.frozen? ⟨gq, j, none⟩ = false) ∧ w.cell? ⟨gq, n * 3, none⟩ = some (.int .i64 (pageAt P.pages n).w) ∧ w.cell? ⟨gq, n * 3 + 1, none⟩ = some (.int .i64 (pageAt P.pages n).a) ∧ w.cell? ⟨gq, n * 3 + 2, none⟩ = some (.bool (pageAt P.pages n).u) := by
 obtain ⟨gq', cap', e, h1, h2, h3, h4, h5⟩ := h.page hn
 simp only [Value.slice.injEq, Option.some.injEq, Addr.mk.injEq] at e
 obtain ⟨⟨rfl, _⟩, _, rfl⟩ := e
 exact ⟨h3, h5⟩
end
end Go.Proofs.YtjacdlekgdnndaaGreatDoor
set_option linter.unusedVariables false
namespace Go.Proofs.YtjacdlekgdnndaaGreatDoor
structure Full (p : PagerV) (n m : Nat) (pages : List PageV) (hand : Int) : Prop where
 vic : victimP 32 p.pages p.hand = (pages, hand, some m)
 m16 : m < 16
 mw : (pageAt p.pages m).w = 1
 ok1 : POk { p with pages := pages, hand := hand }
 mw1 : (pageAt pages m).w = 1
 ok2 : POk (outP { p with pages := pages, hand := hand } m)
 free : 0 ≤ freeP (outP { p with pages := pages, hand := hand } m).kern.infos
 nw : (pageAt (outP { p with pages := pages, hand := hand } m).pages n).w ≠ 1
 pg : (pageAt (outP { p with pages := pages, hand := hand } m).pages n).w = (pageAt p.pages n).w ∧ (pageAt (outP { p with pages := pages, hand := hand } m).pages n).a = (pageAt p.pages n).a
 room : (countW (outP { p with pages := pages, hand := hand } m).pages 1 : Int) + 1 ≤ p.limit
 is : touchP p n = inP (outP { p with pages := pages, hand := hand } m) n
theorem touch_full {p : PagerV} (h : POk p) {n : Nat} (hn : n < 16) (hw : (pageAt p.pages n).w ≠ 1) (hf : fullP p = true) (hno : ¬ (freeP p.kern.infos < 0 ∧ countW p.pages 1 = 0)) : ∃ m pages hand, Full p n m pages hand := by
 have hc : 0 < countW p.pages 1 := by
  rcases Nat.eq_zero_or_pos (countW p.pages 1) with h0 | h0
  ·exfalso
   unfold fullP at hf
   simp only [Bool.or_eq_true, decide_eq_true_eq] at hf
   have := h.limit
   rcases hf with hf | hf
   ·exact hno ⟨hf, h0⟩
   ·omega
  ·exact h0
 obtain ⟨i, hi, hiw⟩ := count_pos.1 hc
 rw [h.pagel] at hi
 obtain ⟨m, hm⟩ := victim_some 32 p.pages p.hand h.hand.1 h.hand.2 h.pagel i hi hiw (.inr (by have := far_lt h.hand.1 h.hand.2 hi; omega))
 have hU := victim_unused 32 p.pages p.hand
 have hH := victim_hand 32 p.pages p.hand h.hand.1 h.hand.2
 have hI := victim_is 32 p.pages p.hand h.hand.1 h.hand.2 m hm
 have hT : touchP p n = match victimP 32 p.pages p.hand with
  | (pages, hand, some m) => inP (outP { p with pages := pages, hand := hand } m) n
  | (_, _, none) => (p, false) := by
  unfold touchP
  rw [if_neg hw, if_neg hno, if_pos hf]
  rfl
 revert hU hH hI hm hT
 generalize hv : victimP 32 p.pages p.hand = r
 obtain ⟨pg, hd, o⟩ := r
 intro hm hU hH hI hT
 cases hm
 have h' := hU.ok h hH.1 hH.2
 have mw1 := (hU.w m).trans hI.2
 have ho := outP_ok h' hI.1 mw1
 have hmn : n ≠ m := fun e => hw (by rw [e]; exact hI.2)
 have hpp : pageAt (outP { p with pages := pg, hand := hd } m).pages n = pageAt pg n := by
  show pageAt (pg.set m _) n = _
  rw [pageAt_set, if_neg (fun h => hmn h.1)]
 refine ⟨m, pg, hd, hv, hI.1, hI.2, h', mw1, ho.1, ho.2.2.2, ?_, ?_, ?_, hT⟩
 ·rw [hpp, hU.w]; exact hw
 ·rw [hpp]; exact ⟨hU.w n, hU.at' n⟩
 ·have h1 : countW (outP { p with pages := pg, hand := hd } m).pages 1 + 1 = countW pg 1 := ho.2.2.1
  have h2 : countW pg 1 = countW p.pages 1 := hU.count 1
  have h3 := h.count
  omega
theorem touch_free {p : PagerV} (h : POk p) {n : Nat} (hw : (pageAt p.pages n).w ≠ 1) (hf : fullP p = false) : touchP p n = inP p n ∧ 0 ≤ freeP p.kern.infos := by
 have h1 : ¬ freeP p.kern.infos < 0 := fun e => by
  unfold fullP at hf
  simp [e] at hf
 refine ⟨?_, by omega⟩
 unfold touchP
 rw [if_neg hw, if_neg (fun x => h1 x.1), if_neg (by rw [hf]; simp)]
theorem touch_none {p : PagerV} {n : Nat} (hw : (pageAt p.pages n).w ≠ 1) (h : freeP p.kern.infos < 0 ∧ countW p.pages 1 = 0) : touchP p n = (p, false) := by
 unfold touchP
 rw [if_neg hw, if_pos h]
theorem victim_step {k : Nat} {pages : List PageV} {hand : Int} : victimP (k + 1) pages hand = if (pageAt pages hand.toNat).w = 1 ∧ (pageAt pages hand.toNat).u = false then (pages, nextHand hand, some hand.toNat) else victimP k (pages.set hand.toNat (unuse (pageAt pages hand.toNat))) (nextHand hand) := rfl
end Go.Proofs.YtjacdlekgdnndaaGreatDoor
set_option linter.unusedVariables false
namespace Go.Proofs.YtjacdlekgdnndaaGreatDoor
open Go.RowKit
def handOf (g : Nat) (w : World) : Int := match w.cell? ⟨g, 7, none⟩ with
 | some (.int _ n) => n
 | _ => 0
def usedOf (gq n : Nat) (w : World) : Bool := match w.cell? ⟨gq, n * 3 + 2, none⟩ with
 | some (.bool b) => b
 | _ => false
def outM (g gq n : Nat) (w : World) : Nat := far (handOf g w) n + if usedOf gq n w then 16 else 0
theorem outM_of {lo g gq qc : Nat} {w : World} {m i e c s l : Value} {P : PagerV} (h : InP lo g w m i e c s l (.slice (some ⟨gq, 0, none⟩) 16 qc) P) (hl : P.pages.length = 16) {n : Nat} (hn : n < 16) : outM g gq n w = far P.hand n + if (pageAt P.pages n).u then 16 else 0 := by
 obtain ⟨_, _, _, _, d2⟩ := h.pg (n := n) (by omega)
 unfold outM handOf usedOf
 rw [h.cells.2.2.2.2.2.2.2.1, d2]
theorem PTo.inp {lo g : Nat} {w w' : World} {s l q : Value} {P : PagerV} {k : KernV} (h : PTo lo g w s l q P k w') : ∃ m i e c, InP lo g w' m i e c s l q { P with kern := k } := by
 obtain ⟨⟨m, i, e, c, h, _⟩, _⟩ := h
 exact ⟨m, i, e, c, h⟩
theorem Unused.one (a : List PageV) (j : Nat) : Unused a (a.set j (unuse (pageAt a j))) := Unused.step (Unused.refl _)
theorem Unused.trans {a b c : List PageV} (h : Unused a b) (h' : Unused b c) : Unused a c := ⟨h'.len.trans h.len, fun i => (h'.w i).trans (h.w i), fun i => (h'.at' i).trans (h.at' i), fun i hu => h.u i (h'.u i hu)⟩
set_option maxRecDepth 100000 in
set_option maxHeartbeats 4000000 in
theorem moveOut_any {lo g : Nat} {w : World} {mv iv ev cv sv lv qv : Value} {P : PagerV} (h : InP lo g w mv iv ev cv sv lv qv P) (hlo : lo ≤ w.heap.size) (hP : POk P) {pg : List PageV} {hd : Int} {n : Nat} (hv : victimP 32 P.pages P.hand = (pg, hd, some n)) :
 Calls Tryz.prog 258 #[.pointer (some ⟨g, 0, none⟩)] w (fun r w' => r = .returned (.tuple #[]) ∧ (∃ m i e c, InP lo g w' m i e c sv lv qv (outP { P with pages := pg, hand := hd } n)) ∧ Below lo w w') := by
 obtain ⟨gq, qc, rfl, hqc, hloq, hgq, ngq, _⟩ := h.page (n := 0) (by rw [hP.pagel]; omega)
 rw [hP.pagel] at h hqc ⊢
 have hV := Lib.hid hv
 have hPO := Lib.hid hP
 have hn16 : n < 16 := by have := (victim_is 32 P.pages P.hand hP.hand.1 hP.hand.2 n (by rw [hv])); exact this.1
 have HI := Lib.hid h
 have Hlo := Lib.hid hlo
 have hh := hP.hand
 have ngq' := ngq.symm
 clear h hP hv hlo
 go_enter Tryz.func258, Tryz.ntmps258
 go_wp2_with fail
 go_loopw [2, 3] (fun _ _ wr => ∃ k pages hand, InP lo g wr mv iv ev cv sv lv (.slice (some ⟨gq, 0, none⟩) 16 qc) { P with pages := pages, hand := hand } ∧ victimP k pages hand = (pg, hd, some n) ∧ Unused P.pages pages ∧ 0 ≤ hand ∧ hand ≤ 15 ∧ Below lo w wr) (fun _ _ wr => outM g gq n wr)
 case atStart => exact ⟨32, P.pages, P.hand, HI.out, hV.out, Unused.refl _, hh.1, hh.2, Below.refl _ _⟩
 case round =>
  obtain ⟨k, pages, hand, hI, hvk, hU, h0, h15, hb⟩ := hrel
  obtain ⟨k, rfl⟩ : ∃ k', k = k' + 1 := by
   cases k with
   | zero => unfold victimP at hvk; cases hvk
   | succ k => exact ⟨k, rfl⟩
  rw [victim_step] at hvk
  obtain ⟨j, rfl⟩ : ∃ j : Nat, hand = (j : Int) := ⟨hand.toNat, by omega⟩
  rw [Int.toNat_natCast] at hvk
  unfold nextHand at hvk
  have hj : j < 16 := by omega
  have hji : (j : Int) < 16 := by omega
  have hpl : pages.length = 16 := by rw [hU.len]; exact hPO.out.pagel
  have hOk := Lib.hid (hU.ok hPO.out h0 h15)
  have M0 := Lib.hid (outM_of hI hpl hn16)
  obtain ⟨hqw, fq, p0, p1, p2⟩ := hI.pg (n := j) (by show j < pages.length; rw [hpl]; exact hj)
  obtain ⟨_, _, _, _, _, _, x6, x7, _⟩ := hI.cells
  have fg := blk_frozen hI.blk
  have I1 := (hI.putHand (((j : Int) + 1) % 16)).1
  have B1 := below_grown hb (hI.putHand (((j : Int) + 1) % 16)).2 hI.glo (Nat.le_trans Hlo.out hb.size)
  have hN : 0 ≤ ((j : Int) + 1) % 16 ∧ ((j : Int) + 1) % 16 ≤ 15 := next_in (hand := (j : Int)) h0 h15
  have hFar := Lib.hid (fun (hne : j ≠ n) => show far (((j : Int) + 1) % 16) n + 1 = far (j : Int) n from far_next (hand := (j : Int)) h0 h15 hn16 hne)
  have hBack := Lib.hid (show far (((j : Int) + 1) % 16) j = 15 from far_back (hand := (j : Int)) h0 h15)
  have hSelf := Lib.hid (show far (j : Int) j = 0 from far_self (hand := (j : Int)) h0)
  have hgw := blk_lt hI.blk
  have hx : pages[j]? = some (pageAt pages j) := by unfold pageAt; exact getD_lt (by omega)
  generalize hpj : pageAt pages j = x at hvk p0 p1 p2 hx
  obtain ⟨xw, xa, xu⟩ := x
  dsimp only at p0 p1 p2 hvk I1
  have HPJ := Lib.hid hpj
  have HX := Lib.hid hx
  have HPL := Lib.hid hpl
  have HI1 := Lib.hid I1
  have HB1 := Lib.hid B1
  have HU := Lib.hid hU
  have HN := Lib.hid hN
  have HV := Lib.hid hvk
  clear hI hU hpj hx hvk hpl hb I1 B1 hN hqw
  by_cases hc : xw = 1 ∧ xu = false
  ·obtain ⟨rfl, rfl⟩ := hc
   have hve := HV.out
   rw [if_pos ⟨rfl, rfl⟩] at hve
   simp only [Prod.mk.injEq, Option.some.injEq] at hve
   obtain ⟨rfl, rfl, rfl⟩ := hve
   have HOK := Lib.hid (HU.out.ok hPO.out HN.out.1 HN.out.2)
   clear HV M0 hFar hBack hSelf hV
   obtain ⟨k0, _, _, _, k4, _⟩ := HI1.out.cells
   go_wp2_with fail
   generalize wr.setCell _ _ = W1 at *
   clear x6 x7 p0 p1 p2 fg fq
   have hg1 := blk_lt HI1.out.blk
   have hlo1 : lo ≤ W1.heap.size := Nat.le_trans Hlo.out HB1.out.size
   obtain ⟨hq1, fq, p0, p1, p2⟩ := HI1.out.pg (n := j) (by show j < pages.length; rw [HPL.out]; exact hj)
   replace p1 : W1.cell? ⟨gq, j * 3 + 1, none⟩ = some (.int .i64 (pageAt pages j).a) := p1
   rw [HPJ.out] at p1
   have hfk := HOK.out.frame_kind hj (by show (pageAt pages j).w = 1; rw [HPJ.out])
   have hfn := (HOK.out.frame_names hj (by show (pageAt pages j).w = 1; rw [HPJ.out])).2.1
   simp only [HPJ.out] at hfk hfn
   obtain ⟨f, rfl⟩ : ∃ f : Nat, xa = (f : Int) := ⟨xa.toNat, by omega⟩
   have hf12 : f < 12 := by simpa using hfk.1
   obtain ⟨vs, o1⟩ := HI1.out.own.ker.1
   have hml : P.kern.mem.length = 12 := hPO.out.meml
   have hvl : vs.length = 12 := by rw [o1.2.1.1]; exact hml
   obtain ⟨gm, cm, e1, hcm, _, _, hgm, _⟩ := o1.1.shapeOwn (by omega)
   have hr4 : (rowAt P.kern.mem f).length = 4 := hPO.out.rowl hf12
   obtain ⟨gw, cw, hu, hxr, _, _⟩ := o1.row (f := f) (by show f < P.kern.mem.length; omega) (by show 0 < (rowAt P.kern.mem f).length; omega)
   subst e1
   rw [hvl] at k0
   replace hu : vs[f]? = some (.slice (some ⟨gw, 0, none⟩) (rowAt P.kern.mem f).length cw) := hu
   replace hxr : OwnInts lo W1 (.slice (some ⟨gw, 0, none⟩) (rowAt P.kern.mem f).length cw) (rowAt P.kern.mem f) := hxr
   rw [hr4] at hu hxr
   have DR := OwnF.cellsAt oneCs_len o1.1 hu 0 _ rfl
   rw [Nat.mul_one, Nat.add_zero] at DR
   have hslot := HOK.out.slot hj (by show (pageAt pages j).w ≠ 2; rw [HPJ.out]; show (1 : Int) ≠ 2; decide)
   obtain ⟨sl, hsl⟩ : ∃ sl : Nat, freeSlot P.swap = (sl : Int) := ⟨(freeSlot P.swap).toNat, by have := hslot.1; simp only at this; omega⟩
   have hsl16 : sl < 16 := by have := hslot.2.1; simp only [hsl] at this; omega
   have hRd := OwnInts.rd hxr
   obtain ⟨svs, hsw⟩ := HI1.out.own.swp
   have CS := Lib.hid (fun W (hW : Below W1.heap.size W1 W) => swapPut_any (hsw.below hW) hPO.out.swapl (Nat.le_trans hlo1 hW.size) (hRd.below hW) (by rw [hr4]; omega) hsl hsl16)
   have hfi : (f : Int) < 12 := by omega
   have Hsl := Lib.hid hsl
   have Hlo1 := Lib.hid hlo1
   clear hRd hxr hu hr4 hvl hml o1 hfn hslot hsw hsl p0 p2 hlo1 hfk
   refine wp_region_grow 15 Tryz.mixed (by kernel_rfl) 68 rfl (by kernel_rfl) (fun ix vv ww => match ix with
    | 0 => vv = .pointer (some ⟨g, 0, none⟩)
    | 1 => vv = .pointer (some ⟨g, 0, none⟩)
    | 2 => vv = .pointer (some ⟨g, 4, none⟩)
    | 3 => vv = sv
    | 4 => vv = .pointer (some ⟨g, 0, none⟩)
    | 5 => vv = .pointer (some ⟨g, 0, none⟩)
    | 6 => vv = .pointer (some ⟨g, 0, none⟩)
    | 7 => vv = .pointer (some ⟨g, 0, none⟩)
    | 8 => vv = .slice (some ⟨gm, 0, none⟩) 12 cm
    | 9 => vv = .pointer (some ⟨gq, j * 3, none⟩)
    | 10 => vv = .pointer (some ⟨gq, j * 3, none⟩)
    | 11 => vv = .pointer (some ⟨gq, j * 3 + 1, none⟩)
    | 12 => vv = .int .i64 ((f : Int))
    | 13 => vv = .pointer (some ⟨gm, f, none⟩)
    | 14 => vv = .slice (some ⟨gw, 0, none⟩) 4 cw
    | _ => True) ?_ ?_ ?_
   ·intro i hi vv wz ww' hbz hz
    match i, hi with
    | 0, _ | 1, _ | 2, _ | 3, _ | 4, _ | 5, _ | 6, _ | 7, _ | 8, _ | 9, _ | 10, _ | 11, _ | 12, _ | 13, _ | 14, _ => exact hz
    | _ + 15, hq => exact absurd hq (by omega)
   ·intro i hi o ho a wx Hb Hd hG K HK
    match i, hi with
    | 0, _ => exact dM ho rfl (gn rfl) HK rfl (eb (Hb.out.2.2 0 (by decide))) rfl
    | 1, _ => exact dC ho rfl (gn rfl) HK rfl (et (Hd.out 0 (by kernel_rfl))) rfl
    | 2, _ => exact dF ho rfl (gn rfl) HK rfl fA46_1 (et (Hd.out 1 (by kernel_rfl))) rfl
    | 3, _ => exact dL ho rfl (gn rfl) HK rfl (et (Hd.out 2 (by kernel_rfl))) (lA28 (bc hG hg1 k4)) rfl
    | 4, _ => exact dM ho rfl (gn rfl) HK rfl (eb (Hb.out.2.2 0 (by decide))) rfl
    | 5, _ => exact dC ho rfl (gn rfl) HK rfl (et (Hd.out 4 (by kernel_rfl))) rfl
    | 6, _ => exact dF ho rfl (gn rfl) HK rfl fA46_0 (et (Hd.out 5 (by kernel_rfl))) rfl
    | 7, _ => exact dF ho rfl (gn rfl) HK rfl fA33_0 (et (Hd.out 6 (by kernel_rfl))) rfl
    | 8, _ => exact dL ho rfl (gn rfl) HK rfl (et (Hd.out 7 (by kernel_rfl))) (lA28 (bc hG hg1 k0)) rfl
    | 9, _ => exact dM ho rfl (gn rfl) HK rfl (eb (Hb.out.2.2 3 (by decide))) rfl
    | 10, _ => exact dC ho rfl (gn rfl) HK rfl (et (Hd.out 9 (by kernel_rfl))) rfl
    | 11, _ => exact dF ho rfl (gn rfl) HK rfl fA169_1 (et (Hd.out 10 (by kernel_rfl))) rfl
    | 12, _ => exact dL ho rfl (gn rfl) HK rfl (et (Hd.out 11 (by kernel_rfl))) (lA3 (bc hG hq1 p1)) rfl
    | 13, _ =>
     obtain rfl := Option.some.inj ho
     have d8 : (a.tmps[46]?.getD undef) = .slice (some ⟨gm, 0, none⟩) 12 cm := Hd.out 8 (by kernel_rfl)
     have d12 : (a.tmps[50]?.getD undef) = .int .i64 ((f : Int)) := Hd.out 12 (by kernel_rfl)
     clear Hd Hb
     refine Does.of rfl ?_
     go_simp
     exact HK.out _ _ rfl (Below.refl _ _)
    | 14, _ => exact dL ho rfl (gn rfl) HK rfl (et (Hd.out 13 (by kernel_rfl))) (lA38 (bc hG hgm DR)) rfl
    | _ + 15, hq => exact absurd hq (by omega)
   ·intro vs wx hR hG
    have q3 : (vs 3) = sv := hR 3 (by decide)
    have q14 : (vs 14) = .slice (some ⟨gw, 0, none⟩) 4 cw := hR 14 (by decide)
    clear hR
    simp only [fillAt, dstOf, List.range, List.range.loop, List.foldl_cons, List.foldl_nil, q3, q14]
    simp
    clear q3 q14
    replace hG : Below W1.heap.size W1 wx := hG
    go_wp2_with fail
    refine (CS.out _ hG).mono ?_; rintro r w2 ⟨rfl, ⟨vs2, hO2⟩, hb2, hg2⟩
    have I2 := (HI1.out.below hG).putSwap hg2 hO2
    have B2 := HB1.out.trans ((hG.mono Hlo1.out).trans (hb2.mono (Nat.le_refl _)))
    have hlo2 : lo ≤ w2.heap.size := Nat.le_trans Hlo1.out (Nat.le_trans hG.size hg2.size)
    have C2 := Lib.hid (pset_any I2 hlo2 hPO.out.k hPO.out.lowl hj 0 (by decide))
    have HB2 := Lib.hid B2
    clear hO2 hb2 hg2 I2 B2 hG CS k0 k4 p1 DR hcm hgm
    go_wp2_with fail
    refine C2.out.mono ?_; rintro r w3 ⟨rfl, hT⟩
    obtain ⟨m3, i3, e3, c3, I3⟩ := hT.inp
    have B3 := Lib.hid (HB2.out.trans hT.2.1)
    have hlo3 : lo ≤ w3.heap.size := Nat.le_trans hlo2 hT.2.2.size
    obtain ⟨hq3, fq3, _, p1, _⟩ := I3.pg (n := j) (by show j < pages.length; rw [HPL.out]; exact hj)
    replace p1 : w3.cell? ⟨gq, j * 3 + 1, none⟩ = some (.int .i64 (pageAt pages j).a) := p1
    rw [HPJ.out] at p1
    have hk3 : KOk (callP P.kern (setCall { P with pages := pages, hand := (((j : Int) + 1) % 16), swap := P.swap.set sl (rowAt P.kern.mem f) } j 0)).1 := callP_pg hPO.out.k
    have C3 := pcall_any I3 hlo3 hk3 ⟨2, 0, (f : Int), 0, 0, ⟨#[]⟩⟩ (show (0 : Int) ≤ 0 by decide) (show (0 : Int) < 3 by decide) (Nat.zero_le _) (show (0 : Int) ≤ 9223372036854775807 by decide)
    have HC3 := Lib.hid C3
    clear hT I3 hk3 C3 C2
    go_wp2_with fail
    refine HC3.out.mono ?_; rintro r w4 ⟨rfl, ⟨m4, i4, e4, c4, I4, _⟩, hb4, hg4⟩
    have B4 := B3.out.trans hb4
    have hlo4 : lo ≤ w4.heap.size := Nat.le_trans hlo3 hg4.size
    have I5 := I4.putPages (n := j) HPL.out.symm (by show j < pages.length; rw [HPL.out]; exact hj) ⟨2, (sl : Int), false⟩
    obtain ⟨hq4, fq4, p0, p1, p2⟩ := I4.pg (n := j) (by show j < pages.length; rw [HPL.out]; exact hj)
    have B5 := Lib.hid (below_grown B4 I5.2.1 I5.2.2 hlo4)
    have HI5 := Lib.hid I5.1
    clear I4 I5 hb4 hg4 B4 HC3
    go_wp2_with fail
    go_returns
    refine ⟨rfl, ⟨m4, i4, e4, c4, ?_⟩, B5.out⟩
    have := HI5.out
    rw [callP_nm (t := gA) ⟨by decide, by decide, by decide⟩] at this
    unfold outP pgCall
    simp only [HPJ.out, Int.toNat_natCast, Hsl.out]
    exact this
  ·have hve := HV.out
   rw [if_neg hc] at hve
   have HVE := Lib.hid hve
   have hI2 := HI1.out.putPage (n := j) (x := ⟨xw, xa, xu⟩) (y := ⟨xw, xa, false⟩) (j := 2) (u := .bool false) HPL.out.symm HX.out (by decide) rfl
   have B2 := Lib.hid (below_grown HB1.out hI2.2.1 hI2.2.2 (Nat.le_trans Hlo.out HB1.out.size))
   have hU2 : Unused P.pages (pages.set j (unuse (pageAt pages j))) := Unused.trans HU.out (Unused.one pages j)
   have HI2 := Lib.hid hI2.1
   have M2 := Lib.hid (outM_of hI2.1 (by show (pages.set j _).length = 16; rw [List.length_set]; exact HPL.out) hn16)
   have HU2 := Lib.hid hU2
   have hlt : outM g gq n ((wr.setCell ⟨g, 7, none⟩ (.int .i64 ((((j : Int) + 1) % 16)))).setCell ⟨gq, j * 3 + 2, none⟩ (.bool false)) < outM g gq n wr := by
    rw [M0.out, M2.out]
    show far (((j : Int) + 1) % 16) n + _ < far (j : Int) n + _
    by_cases e : j = n
    ·subst e
     have hu : xu = true := by
      have hw1 : xw = 1 := by
       have := (victim_is 32 P.pages P.hand hPO.out.hand.1 hPO.out.hand.2 j (by rw [hV.out])).2
       rw [← HU.out.w j, HPJ.out] at this
       exact this
      cases xu
      ·exact absurd ⟨hw1, rfl⟩ hc
      ·rfl
     have e1 : (pageAt (pages.set j ⟨xw, xa, false⟩) j).u = false := by rw [pageAt_set, if_pos ⟨rfl, by rw [HPL.out]; exact hj⟩]
     have e2 : (pageAt pages j).u = true := by rw [HPJ.out]; exact hu
     have h1 := hBack.out
     have h2 := hSelf.out
     show _ + (if (pageAt (pages.set j ⟨xw, xa, false⟩) j).u = true then 16 else 0) < _ + (if (pageAt pages j).u = true then 16 else 0)
     rw [e1, e2, h1, h2]
     decide
    ·have e1 : (pageAt (pages.set j ⟨xw, xa, false⟩) n) = pageAt pages n := by rw [pageAt_set, if_neg (fun h => e h.1.symm)]
     have := hFar.out e
     show _ + (if (pageAt (pages.set j ⟨xw, xa, false⟩) n).u = true then 16 else 0) < _ + (if (pageAt pages n).u = true then 16 else 0)
     rw [e1]
     omega
   have Hlt := Lib.hid hlt
   clear hI2 hU2 hve HV hFar hBack hSelf M0 M2 hlt hV
   by_cases hw1 : xw = 1
   ·subst hw1
    obtain rfl : xu = true := by
     cases xu
     ·exact absurd ⟨rfl, rfl⟩ hc
     ·rfl
    clear hc
    go_wp2_with fail
    go_roundw
    case rel => exact ⟨k, _, _, HI2.out, HVE.out, by have := HU2.out; rw [HPJ.out] at this; exact this, HN.out.1, HN.out.2, B2.out⟩
    case measure => exact Hlt.out
   ·have t1 : (xw != 1) = true := by simp [hw1]
    clear hc hw1
    go_wp2_with fail
    go_roundw
    case rel => exact ⟨k, _, _, HI2.out, HVE.out, by have := HU2.out; rw [HPJ.out] at this; exact this, HN.out.1, HN.out.2, B2.out⟩
    case measure => exact Hlt.out
end Go.Proofs.YtjacdlekgdnndaaGreatDoor
