/-
  Walks: a new kernel of the reference.
-/
import Derived.Test.YtabaemnknjdjoaaKern4
import Derived.Test.YtabaemnknjdjoaaRight
set_option linter.unusedVariables false
namespace Go.Proofs.Ytabaemnknjdjoaa
open Go.RowKit

theorem Try.infoInfo : (Try.prog.info? 92).map (fun i => (i.zero, i.size, i.bytes)) = some (some (.agg #[.int .i64 0, .string ⟨#[]⟩, .int .i64 0]), 3, 32) := by kernel_rfl

theorem madeInfos : (madeCells (Value.agg #[.int .i64 0, .string ⟨#[]⟩, .int .i64 0]).cells (12 * 3)).toList = flat infoCs (List.replicate 12 InfoV.zero) := by kernel_rfl

def newR (lo : Nat) (i : Nat) (v : Value) (w : World) : Prop := match i with
  | 0 => ∃ vs, OwnRows lo w v vs (zeros 12)
  | 1 => OwnF lo 92 3 infoCs w v (List.replicate 12 InfoV.zero)
  | 2 => OwnF lo 85 2 pairCs w v []
  | 3 => OwnF lo 110 4 cachedCs w v []
  | 4 => ∃ m i e c, v = .agg #[m, i, e, c] ∧ (∃ vs, OwnRows lo w m vs (zeros 12)) ∧ OwnF lo 92 3 infoCs w i (List.replicate 12 InfoV.zero) ∧ OwnF lo 85 2 pairCs w e [] ∧ OwnF lo 110 4 cachedCs w c []
  | 5 => ∃ g, v = .pointer (some ⟨g, 0, none⟩) ∧ lo ≤ g ∧ w.heap[g]? = some (.cells #[.slice none 0 0, .slice none 0 0, .slice none 0 0, .slice none 0 0] 74 (0, 0))
  | _ => True

theorem newR_below {lo i : Nat} {v : Value} {w w' : World} (h : newR lo i v w) (hb : Below w.heap.size w w') : newR lo i v w' := by
  match i with
  | 0 => obtain ⟨vs, h⟩ := h; exact ⟨vs, h.below hb⟩
  | 1 => exact OwnF.below h hb
  | 2 => exact OwnF.below h hb
  | 3 => exact OwnF.below h hb
  | 4 =>
    obtain ⟨m, i, e, c, h0, ⟨vs, h1⟩, h2, h3, h4⟩ := h
    exact ⟨m, i, e, c, h0, ⟨vs, h1.below hb⟩, h2.below hb, h3.below hb, h4.below hb⟩
  | 5 =>
    obtain ⟨g, h0, h1, h2⟩ := h
    have : g < w.heap.size := by
      rcases Nat.lt_or_ge g w.heap.size with h | h
      · exact h
      · rw [Array.getElem?_eq_none h] at h2; cases h2
    exact ⟨g, h0, h1, (hb.block g this).trans h2⟩
  | _ + 6 => trivial

def newEnvs (tss : List (List ByteArray)) : List EnvV := tss.map fun ts => ⟨ts, -1⟩
def newKern (tss : List (List ByteArray)) : KernV := ⟨zeros 12, List.replicate 12 InfoV.zero, newEnvs tss, []⟩

/-- A kernel of the call's own is handed back. -/
def NewK (w : World) (b : Bool) (k : KernV) (e : Ending) (w' : World) : Prop := ∃ m i ev c, e = .returned (.tuple #[.agg #[m, i, ev, c], .bool b]) ∧ OwnK w.heap.size w' m i ev c k ∧ Below w.heap.size w w'

/-- The state of the loop: the kernel lies in block g. -/
def NewSt (w0 : World) (lo g : Nat) (es : List EnvV) (wr : World) : Prop :=
  ∃ m i ev c vs ps, wr.heap[g]? = some (.cells #[m, i, ev, c] 74 (0, 0)) ∧ lo ≤ g ∧ OwnRows lo wr m vs (zeros 12) ∧ OwnF lo 92 3 infoCs wr i (List.replicate 12 InfoV.zero) ∧ OwnEnvs lo wr ev ps es ∧ OwnF lo 110 4 cachedCs wr c [] ∧ Below lo w0 wr

set_option maxRecDepth 100000 in
set_option maxHeartbeats 2000000 in
theorem KernelNew_spec (v : Value) (tss : List (List ByteArray)) (w : World) (h : RdTexts w v tss) (h3 : tss.length = 3) (hok : ∀ ts ∈ tss, rightsOk ts = true) (hsm : ∀ ts ∈ tss, SmallS ts) :
    Calls Try.prog 56 #[v] w (NewK w true (newKern tss)) := by
  obtain ⟨vs, h1, h2⟩ := h
  obtain ⟨a, cv, rfl, hc, hcm, H0⟩ := RdF.open oneCs_len (by decide) h1
  unfold maxLen at hcm
  have hv3 : vs.length ≤ 3 := by rw [h2.1, h3]; omega
  have hv3' : 3 ≤ vs.length := by rw [h2.1, h3]; omega
  have HB := Lib.hid h2
  have H3 := Lib.hid h3
  have Hok := Lib.hid hok
  have Hsm := Lib.hid hsm
  clear h2 h3 hok hsm
  go_enter Try.func56, Try.ntmps56
  go_wp2_with fail
  have hb0 := below1 w (.cells #[.slice none 0 0, .slice none 0 0, .slice none 0 0, .slice none 0 0] 74)
  have hB0 : (w.alloc (.cells #[.slice none 0 0, .slice none 0 0, .slice none 0 0, .slice none 0 0] 74)).heap[w.heap.size]? = some (.cells #[.slice none 0 0, .slice none 0 0, .slice none 0 0, .slice none 0 0] 74 (0, 0)) := heap_alloc_new w _
  have hs0 : w.heap.size + 1 = (w.alloc (.cells #[.slice none 0 0, .slice none 0 0, .slice none 0 0, .slice none 0 0] 74)).heap.size := by simp
  generalize w.alloc (.cells #[.slice none 0 0, .slice none 0 0, .slice none 0 0, .slice none 0 0] 74) = W0 at hb0 hB0 hs0
  refine wp_region_posts 6 Try.mixed (by kernel_rfl) 41 rfl (by kernel_rfl) (newR W0.heap.size) (fun _ w' => Below W0.heap.size W0 w') ?_ ?_ ?_
  · exact below_drewN (Below.refl _ _) 1
  · intro i hi o ho a w1 Hb Hd L HL hG K HK
    have hsz := hG.size
    clear Hb HL
    match i, hi with
    | 0, _ =>
      obtain rfl := Option.some.inj ho
      clear Hd
      refine Does.of rfl ?_
      go_simp
      refine (l2New_any _).mono ?_; rintro e w2 ⟨v, vs, rfl, h3, h4⟩
      exact HK.out _ _ ⟨vs, h3.lower hsz⟩ (hG.trans (h4.mono hsz)) (fun j u _ _ _ h => newR_below h h4)
    | 1, _ =>
      obtain rfl := Option.some.inj ho
      clear Hd
      refine Does.of rfl ?_
      obtain ⟨i0, hi0, hz0, hz1, hz2⟩ := info_parts Try.infoInfo
      obtain ⟨w2, hrun, h3, h4⟩ := run_make_full (P := Try.prog) w1 w1.heap.size 70 92 i0 _ 3 Try.underlying70 hi0 hz0 hz1 .i64 .i64 12 (by rw [hz2]; decide) (by decide) (Nat.le_refl _)
      have h5 := Below.of_grown h4
      rw [madeInfos] at h3
      have hrun' : (Instr.makeSlice 70 (.int .i64 12) (.int .i64 12)).run Try.prog w1 = .ok (.slice (some ⟨w1.heap.size, 0, none⟩) 12 12) w2 := hrun
      clear hi0 hz0 hz1 hz2 hrun
      go_simp
      exact HK.out _ _ (own_loV h3 hsz) (hG.trans (h5.mono hsz)) (fun j u _ _ _ h => newR_below h h5)
    | 2, _ =>
      obtain rfl := Option.some.inj ho
      clear Hd
      refine Does.of rfl ?_
      go_simp
      exact HK.out _ _ ((own_empty _ _ _ _).lower hsz) (hG.alloc hsz _) (fun j u _ _ _ h => newR_below h (below1 _ _))
    | 3, _ =>
      obtain rfl := Option.some.inj ho
      clear Hd
      refine Does.of rfl ?_
      go_simp
      exact HK.out _ _ ((own_empty _ _ _ _).lower hsz) (hG.alloc hsz _) (fun j u _ _ _ h => newR_below h (below1 _ _))
    | 4, _ =>
      obtain rfl := Option.some.inj ho
      have d0 := Hd.out 0 (by kernel_rfl)
      have d1 := Hd.out 1 (by kernel_rfl)
      have d2 := Hd.out 2 (by kernel_rfl)
      have d3 := Hd.out 3 (by kernel_rfl)
      clear Hd
      change ∃ vs, OwnRows _ _ (a.tmps[6]?.getD undef) _ _ at d0
      change OwnF _ _ _ _ _ (a.tmps[7]?.getD undef) _ at d1
      change OwnF _ _ _ _ _ (a.tmps[8]?.getD undef) _ at d2
      change OwnF _ _ _ _ _ (a.tmps[9]?.getD undef) _ at d3
      refine Does.of rfl ?_
      generalize e6 : a.tmps[6]?.getD undef = m at d0
      generalize e7 : a.tmps[7]?.getD undef = i at d1
      generalize e8 : a.tmps[8]?.getD undef = e at d2
      generalize e9 : a.tmps[9]?.getD undef = c at d3
      obtain ⟨vs0, d0⟩ := d0
      have W := Lib.hid (show newR W0.heap.size 4 (.agg #[m, i, e, c]) w1 from ⟨m, i, e, c, rfl, ⟨vs0, d0⟩, d1, d2, d3⟩)
      obtain ⟨_, _, rfl, _, _⟩ := d0.1.rd.shape
      obtain ⟨_, _, rfl, _, _⟩ := d1.rd.shape
      obtain ⟨_, _, rfl, _, _⟩ := d2.rd.shape
      obtain ⟨_, _, rfl, _, _⟩ := d3.rd.shape
      clear d0 d1 d2 d3
      go_simp
      exact HK.out _ _ W.out hG (fun j u _ _ _ h => h)
    | 5, _ =>
      obtain rfl := Option.some.inj ho
      clear Hd
      refine Does.of rfl ?_
      go_simp
      exact HK.out _ _ ⟨_, rfl, hsz, heap_alloc_new _ _⟩ (hG.alloc hsz _) (fun j u _ _ _ h => newR_below h (below1 _ _))
  · intro xs w1 hR L hL hG
    obtain ⟨m, i, e, c, h0, ⟨rs, h1⟩, h2, h3, h4⟩ := hR 4 (by decide)
    obtain ⟨g, h5, h6, h7⟩ := hR 5 (by decide)
    clear hR hL
    simp only [fillAt, dstOf, List.range, List.range.loop, List.foldl_cons, List.foldl_nil, h0, h5]
    simp
    generalize xs 0 = y0
    generalize xs 1 = y1
    generalize xs 2 = y2
    generalize xs 3 = y3
    have St : NewSt W0 W0.heap.size g (newEnvs (tss.take 0)) ((((w1.setCell ⟨g, 0, none⟩ m).setCell ⟨g, 1, none⟩ i).setCell ⟨g, 2, none⟩ e).setCell ⟨g, 3, none⟩ c) := by
      have hgr := grown_set' (grown_set' (grown_set' (grown_set w1 g 0 m) 1 i) 2 e) 3 c
      exact ⟨m, i, e, c, rs, [], blk_set4 h7, h6, h1.far hgr h7 (by decide) (by decide), h2.far hgr h7 (by decide), ⟨h3.far hgr h7 (by decide), Both.nil, AllApart.nil⟩, h4.far hgr h7 (by decide), (((hG.setCell h6 _).setCell h6 _).setCell h6 _).setCell h6 _⟩
    obtain ⟨_, _, rfl, _, _⟩ := h1.1.rd.shape
    obtain ⟨_, _, rfl, _, _⟩ := h2.rd.shape
    obtain ⟨_, _, rfl, _, _⟩ := h3.rd.shape
    obtain ⟨_, _, rfl, _, _⟩ := h4.rd.shape
    obtain ⟨c0, c1, c2, c3⟩ := blk_cells4 h7
    have hfz := blk_frozen h7
    clear h0 h1 h2 h3 h4 h5 hG h6 h7
    go_wp2_with fail
    clear c0 c1 c2 c3 hfz
    simp only [List.length_replicate, List.length_nil]
    go_loopw [5] (fun i wr => ∃ k : Nat, k ≤ 3 ∧ i = .int .i64 k ∧ NewSt W0 W0.heap.size g (newEnvs (tss.take k)) wr) (fun i _ => 3 - (intOf i).toNat)
    case atStart => exact ⟨0, by omega, rfl, St⟩
    case round =>
      clear St
      obtain ⟨k, hk, rfl, m, iv, ev, c, rs, ps, hB, hg, o1, o2, o3, o4, hbel⟩ := hrel
      by_cases hlt : k < 3
      · have hlv : k < vs.length := by omega
        obtain ⟨u, hu⟩ : ∃ u, vs[k]? = some u := ⟨_, List.getElem?_eq_getElem hlv⟩
        obtain ⟨ts, hts⟩ : ∃ ts, tss[k]? = some ts := ⟨_, List.getElem?_eq_getElem (by rw [H3.out]; exact hlt)⟩
        have Ru := HB.out.2 k u ts hu hts
        have hok := Hok.out ts (List.mem_of_getElem? hts)
        have hsm := Hsm.out ts (List.mem_of_getElem? hts)
        obtain ⟨b, off, rfl, hbl0, hcell⟩ := H0 k u hu
        have Dw : w.cell? ⟨b, off + k, none⟩ = some u := by simpa using hcell 0 u rfl
        have hbw := hb0.trans (hbel.mono hb0.size)
        have D : wr.cell? ⟨b, off + k, none⟩ = some u := (hbw.cell (World.block_lt_of_cell? w _ Dw)).trans Dw
        have Hts := Lib.hid hts
        have Hu := Lib.hid hu
        clear hu hts Dw hcell
        go_wp2_with fail
        refine (RightsValid_spec u ts _ (RdF.below Ru hbw) hsm).mono ?_; rintro e w2 ⟨rfl, hw2⟩; rw [hok]
        have hbel2 : Below wr.heap.size wr w2 := by obtain ⟨n, rfl⟩ := hw2; exact below_drewN (Below.refl _ _) n
        clear hw2 hok
        have hbw := hbw.trans (hbel2.mono hbw.size)
        have D : w2.cell? ⟨b, off + k, none⟩ = some u := (hbel2.cell (World.block_lt_of_cell? wr _ D)).trans D
        have hbl := World.block_lt_of_cell? w2 _ D
        have hB2 := blk_below hB hbel2
        have o3' := o3.below hbel2
        have o1 := o1.below hbel2
        have o2 := o2.below hbel2
        have o4 := o4.below hbel2
        have hbel := hbel.trans (hbel2.mono hbel.size)
        clear hbel2 o3 hB
        have htl : ts.length ≤ 6 := by
          have := Hok.out ts (List.mem_of_getElem? Hts.out)
          simp only [rightsOk, Bool.and_eq_true, decide_eq_true_eq] at this
          exact this.2
        have hkv : (k : Int) < vs.length := by omega
        go_wp2_with fail
        have hevg : ev.ownBlock ≠ some g := fun he => by
          obtain ⟨cur, hc⟩ := own_type o3'.1 g he
          rw [hB2] at hc
          simp at hc
        have hevlt := fun k hk => (o3'.1.lt k hk).2
        have hevge := fun k hk => (o3'.1.lt k hk).1
        have hBlk : ∀ w3, w2.grownBy w3 ev.ownBlock → w3.heap[g]? = some (.cells #[m, iv, ev, c] 74 (0, 0)) := fun w3 h => (h.block g (blk_lt hB2) (fun e => hevg e.symm)).trans hB2
        have hOld : ∀ w3, w2.grownBy w3 ev.ownBlock → ∀ k, k < w.heap.size → w3.heap[k]? = w2.heap[k]? := fun w3 h k hk => h.block k (Nat.lt_of_lt_of_le hk hbw.size) (fun e => by have := hevge k e.symm; omega)
        have GS := Lib.hid (fun (L : Nat → Bool) (w3 : World) (i : Nat) (h : w2.grownBy w3 ev.ownBlock ∧ (L 10 = false → Below w2.heap.size w2 w3)) => (⟨h.1, fun h10 => h.2 (upd_no h10)⟩ : w2.grownBy w3 ev.ownBlock ∧ (upd L i 10 = false → Below w2.heap.size w2 w3)))
        have GB := Lib.hid (fun (L : Nat → Bool) (w3 w4 : World) (i : Nat) (h : w2.grownBy w3 ev.ownBlock ∧ (L 10 = false → Below w2.heap.size w2 w3)) (hb : Below w3.heap.size w3 w4) => (⟨grown_trans h.1 (grown_below hb _), fun h10 => (h.2 (upd_no h10)).trans (hb.mono h.1.size)⟩ : w2.grownBy w4 ev.ownBlock ∧ (upd L i 10 = false → Below w2.heap.size w2 w4)))
        refine wp_region_posts 12 Try.mixed (by kernel_rfl) 41 rfl (by kernel_rfl) (envR W0.heap.size w2.heap.size g (.slice (some ⟨b, off, none⟩) vs.length cv) u ev b (off + k) k ts ps (newEnvs (tss.take k))) (fun L w3 => w2.grownBy w3 ev.ownBlock ∧ (L 10 = false → Below w2.heap.size w2 w3)) ?_ ?_ ?_
        · exact ⟨grown_below (below_drewN (Below.refl _ _) 1) _, fun _ => below_drewN (Below.refl _ _) 1⟩
        · intro i hi o ho a w3 Hb Hd L HL hG K HK
          match i, hi with
          | 0, _ =>
            obtain rfl := Option.some.inj ho
            have e4 : a.tmps[4]?.getD undef = .pointer (some ⟨g, 0, none⟩) := by rw [Hb.out.2.2 4 (by decide)]; rfl
            clear Hd Hb
            refine Does.of rfl ?_
            go_simp
            exact HK.out _ _ rfl (GS.out _ _ _ hG) (fun j u _ _ _ h => h)
          | 1, _ =>
            obtain rfl := Option.some.inj ho
            have d0 := Hd.out 0 (by kernel_rfl)
            change a.tmps[24]?.getD undef = .pointer (some ⟨g, 2, none⟩) at d0
            clear Hd Hb
            refine Does.of rfl ?_
            have cg : w3.cell? ⟨g, 2, none⟩ = some ev := cell_of_row w3 g 2 _ _ _ (hBlk w3 hG.1)
            go_simp
            exact HK.out _ _ rfl (GS.out _ _ _ hG) (fun j u _ _ _ h => h)
          | 2, _ =>
            obtain rfl := Option.some.inj ho
            clear Hd Hb
            refine Does.of rfl ?_
            go_simp
            exact HK.out _ _ ⟨_, rfl, hG.1.size, heap_alloc_new _ _⟩ (GB.out _ _ _ _ hG (below1 _ _)) (fun j u _ _ _ h => envR_keep h (grown_below (below1 _ _) none) (fun k hk => by cases hk) (.inr rfl))
          | 3, _ =>
            obtain rfl := Option.some.inj ho
            have e0 : a.tmps[0]?.getD undef = .slice (some ⟨b, off, none⟩) vs.length cv := by rw [Hb.out.2.2 0 (by decide)]; rfl
            clear Hd Hb
            refine Does.of rfl ?_
            go_simp
            exact HK.out _ _ rfl (GS.out _ _ _ hG) (fun j u _ _ _ h => h)
          | 4, _ =>
            obtain rfl := Option.some.inj ho
            have e5 : a.tmps[5]?.getD undef = .int .i64 k := by rw [Hb.out.2.2 5 (by decide)]; rfl
            clear Hd Hb
            refine Does.of rfl ?_
            go_simp
            exact HK.out _ _ rfl (GS.out _ _ _ hG) (fun j u _ _ _ h => h)
          | 5, _ =>
            obtain rfl := Option.some.inj ho
            have d3 := Hd.out 3 (by kernel_rfl)
            change a.tmps[27]?.getD undef = .slice (some ⟨b, off, none⟩) vs.length cv at d3
            have d4 := Hd.out 4 (by kernel_rfl)
            change a.tmps[28]?.getD undef = .int .i64 k at d4
            clear Hd Hb
            refine Does.of rfl ?_
            go_simp
            exact HK.out _ _ rfl (GS.out _ _ _ hG) (fun j u _ _ _ h => h)
          | 6, _ =>
            obtain rfl := Option.some.inj ho
            have d5 := Hd.out 5 (by kernel_rfl)
            change a.tmps[29]?.getD undef = .pointer (some ⟨b, off + k, none⟩) at d5
            clear Hd Hb
            refine Does.of rfl ?_
            have cu : w3.cell? ⟨b, off + k, none⟩ = some u := (World.cell?_of_block (hOld w3 hG.1 b hbl0)).trans D
            go_simp
            exact HK.out _ _ rfl (GS.out _ _ _ hG) (fun j u _ _ _ h => h)
          | 7, _ =>
            obtain rfl := Option.some.inj ho
            have d2 := Hd.out 2 (by kernel_rfl)
            change ∃ g2, a.tmps[26]?.getD undef = .slice (some ⟨g2, 0, none⟩) 0 0 ∧ _ ≤ g2 ∧ _ at d2
            have d6 := Hd.out 6 (by kernel_rfl)
            change a.tmps[30]?.getD undef = u at d6
            clear Hd Hb
            refine Does.of rfl ?_
            obtain ⟨g2, d2, d2a, d2b⟩ := d2
            obtain ⟨v7, w4, hrun, r1, r2, r3⟩ := run_append_empty (lo := w2.heap.size) (w := w3) (t := 77) (ty := 77) 9 _ 1 16 Try.underlying77 Try.infoString rfl (by decide) d2b d2a (RdF.keep Ru (fun k hk => (hOld w3 hG.1 k hk).trans (hbw.block k hk))) mem_strs (by omega)
            refine wp_append_run rfl (eval_tmp d2) (eval_tmp d6) hrun ?_
            exact HK.out _ _ r1 (GB.out _ _ _ _ hG r2) (fun j u _ _ _ h => envR_keep h (grown_below r2 none) (fun k hk => by cases hk) (.inr rfl))
          | 8, _ =>
            obtain rfl := Option.some.inj ho
            have d7 := Hd.out 7 (by kernel_rfl)
            change OwnF _ _ _ _ _ (a.tmps[31]?.getD undef) _ at d7
            clear Hd Hb
            refine Does.of rfl ?_
            generalize e31 : a.tmps[31]?.getD undef = r at d7
            have W := Lib.hid (show envR W0.heap.size w2.heap.size g (.slice (some ⟨b, off, none⟩) vs.length cv) u ev b (off + k) k ts ps (newEnvs (List.take k tss)) 8 (.agg #[r, .int .i64 (-1)]) w3 from ⟨r, rfl, d7⟩)
            obtain ⟨_, _, rfl, _, _⟩ := d7.rd.shape
            clear d7
            go_simp
            exact HK.out _ _ W.out (GS.out _ _ _ hG) (fun j u _ _ _ h => h)
          | 9, _ =>
            obtain rfl := Option.some.inj ho
            have d8 := Hd.out 8 (by kernel_rfl)
            change ∃ r, a.tmps[32]?.getD undef = .agg #[r, .int .i64 (-1)] ∧ _ at d8
            clear Hd Hb
            refine Does.of rfl ?_
            obtain ⟨r, d8, d8a⟩ := d8
            go_simp
            exact HK.out _ _ ⟨r, _, rfl, hG.1.size, heap_alloc_new _ _, OwnF.below d8a (below1 _ _)⟩ (GB.out _ _ _ _ hG (below1 _ _)) (fun j u _ _ _ h => envR_keep h (grown_below (below1 _ _) none) (fun k hk => by cases hk) (.inr rfl))
          | 10, _ =>
            obtain rfl := Option.some.inj ho
            have d1 := Hd.out 1 (by kernel_rfl)
            change a.tmps[25]?.getD undef = ev at d1
            have d9 := Hd.out 9 (by kernel_rfl)
            change ∃ r g9, a.tmps[33]?.getD undef = .slice (some ⟨g9, 0, none⟩) 1 1 ∧ _ ≤ g9 ∧ _ ∧ _ at d9
            clear Hd Hb
            refine Does.of rfl ?_
            obtain ⟨r, g9, d9, d9a, d9b, d9c⟩ := d9
            have hB3 := hG.2 HL.out.1
            have o3w := o3'
            have o3' := o3'.below hB3
            obtain ⟨i0, hi0, hz0, hz1, hz2⟩ := info_parts Try.infoEnv
            have hpl : ps.length ≤ 3 := by rw [o3'.2.1.1]; simp [newEnvs]; omega
            obtain ⟨v10, w4, hrun, r1, r2, _, r4⟩ := run_append_own_at (P := Try.prog) w3 W0.heap.size 71 71 85 i0 _ 2 32 Try.underlying71 hi0 hz0 hz1 hz2 rfl (by decide) ev ps.length (flat pairCs ps) o3'.1 ⟨g9, 0, none⟩ 1 1 [r, .int .i64 (-1)] rfl (by
              intro j x hx
              match j, hx with
              | 0, hx => simp at hx; subst hx; exact cell_of_row w3 g9 0 _ _ _ d9b
              | 1, hx => simp at hx; subst hx; exact cell_of_row w3 g9 1 _ _ _ d9b) (by
              obtain ⟨_, _, rfl, _, _⟩ := d9c.rd.shape
              simp [Value.oneCell']) (by simp only [maxLen]; omega) (by omega) (Nat.le_trans hbel.size hB3.size)
            clear hi0 hz0 hz1 hz2
            refine wp_append_run rfl (eval_tmp d1) (eval_tmp d9) hrun ?_
            exact HK.out _ _ ⟨r, o3w.push hB3 hbel.size (Nat.le_refl _) d9c r1 r2⟩ ⟨grown_trans hG.1 r2, fun h => by simp [upd] at h⟩ (fun j x hj _ _ h => envR_keep h r2 hevlt (.inl hj))
          | 11, _ =>
            obtain rfl := Option.some.inj ho
            have e4 : a.tmps[4]?.getD undef = .pointer (some ⟨g, 0, none⟩) := by rw [Hb.out.2.2 4 (by decide)]; rfl
            clear Hd Hb
            refine Does.of rfl ?_
            go_simp
            exact HK.out _ _ rfl (GS.out _ _ _ hG) (fun j u _ _ _ h => h)
        · intro xs w3 hR L hL hG
          obtain ⟨r, o5⟩ := hR 10 (by decide)
          have h11 : xs 11 = .pointer (some ⟨g, 2, none⟩) := hR 11 (by decide)
          have hG := hG.1
          clear hR hL
          simp only [fillAt, dstOf, List.range, List.range.loop, List.foldl_cons, List.foldl_nil, h11]
          simp
          generalize xs 0 = z0
          generalize xs 1 = z1
          generalize xs 2 = z2
          generalize xs 3 = z3
          generalize xs 4 = z4
          generalize xs 5 = z5
          generalize xs 6 = z6
          generalize xs 7 = z7
          generalize xs 8 = z8
          generalize xs 9 = z9
          generalize xs 10 = ev' at o5
          clear h11
          have hB3 := hBlk w3 hG
          have hgr := grown_set w3 g 2 ev'
          have St : NewSt W0 W0.heap.size g (newEnvs (tss.take (k + 1))) (w3.setCell ⟨g, 2, none⟩ ev') := by
            have e1 : newEnvs (tss.take (k + 1)) = newEnvs (tss.take k) ++ [⟨ts, -1⟩] := by rw [take_one Hts.out]; simp [newEnvs]
            rw [e1]
            refine ⟨m, iv, ev', c, rs, _, ?_, hg, ?_, ?_, o5.far hgr hB3 (by decide) (by decide), ?_, ?_⟩
            · have := heap_setCell_same w3 g 2 _ 74 ev' hB3
              simpa using this
            · exact OwnRows.far (o1.kept hG o3'.1 (by decide) (by decide)) hgr hB3 (by decide) (by decide)
            · exact OwnF.far (own_grown o2 hG (apart_type o2 o3'.1 (by decide)).ne) hgr hB3 (by decide)
            · exact OwnF.far (own_grown o4 hG (apart_type o4 o3'.1 (by decide)).ne) hgr hB3 (by decide)
            · exact (hbel.grown hG hbel.size (fun k hk => hevge k hk)).setCell hg _
          obtain ⟨_, _, rfl, _, _⟩ := o5.1.rd.shape
          obtain ⟨_, _, rfl, _, _⟩ := o3'.1.rd.shape
          obtain ⟨c0, c1, c2, c3⟩ := blk_cells4 hB3
          have hfz := blk_frozen hB3
          simp only [List.length_append, List.length_cons, List.length_nil, Nat.zero_add] at St
          clear hB3 hgr o5 o1 o2 o3' o4 hBlk hOld GS GB hevg hevlt hevge
          go_wp2_with fail
          go_roundw
          case rel => exact ⟨k + 1, by omega, by go_num, St⟩
          case measure => simp [intOf]; omega
      · obtain rfl : k = 3 := by omega
        have e3 : tss.take 3 = tss := List.take_of_length_le (by rw [H3.out]; omega)
        rw [e3] at o3
        have hlv : ¬ (3 : Int) < vs.length := by omega
        have hl3 : ((vs.length : Int) != 3) = false := by simp; omega
        have hne : g ≠ w.heap.size := by omega
        have hBs : wr.heap[w.heap.size]? = some (.cells #[.slice none 0 0, .slice none 0 0, .slice none 0 0, .slice none 0 0] 74 (0, 0)) := (hbel.block _ (by omega)).trans hB0
        have S := Lib.hid (show ∀ w', wr.grownBy w' (some w.heap.size) → NewK w true (newKern tss) (.returned (.tuple #[.agg #[m, iv, ev, c], .bool true])) w' from fun w' hg' =>
          ⟨m, iv, ev, c, rfl, ⟨⟨rs, (o1.far hg' hBs (by decide) (by decide)).lower hb0.size⟩, (o2.far hg' hBs (by decide)).lower hb0.size, ⟨ps, (o3.far hg' hBs (by decide) (by decide)).lower hb0.size⟩, (o4.far hg' hBs (by decide)).lower hb0.size⟩, (hb0.trans (hbel.mono hb0.size)).grown hg' (hb0.trans (hbel.mono hb0.size)).size (fun k hk => by cases hk; exact Nat.le_refl _)⟩)
        have hgr : wr.grownBy ((((wr.setCell ⟨w.heap.size, 0, none⟩ m).setCell ⟨w.heap.size, 1, none⟩ iv).setCell ⟨w.heap.size, 2, none⟩ ev).setCell ⟨w.heap.size, 3, none⟩ c) (some w.heap.size) := grown_set' (grown_set' (grown_set' (grown_set wr w.heap.size 0 m) 1 iv) 2 ev) 3 c
        obtain ⟨E0, E1, E2, E3⟩ := blk_cells4 (blk_set4 (m' := m) (i' := iv) (e' := ev) (c' := c) hBs)
        have HE := Lib.hid (And.intro E0 (And.intro E1 (And.intro E2 E3)))
        clear E0 E1 E2 E3
        obtain ⟨_, _, rfl, _, _⟩ := o1.1.rd.shape
        obtain ⟨_, _, rfl, _, _⟩ := o2.rd.shape
        obtain ⟨_, _, rfl, _, _⟩ := o3.1.rd.shape
        obtain ⟨_, _, rfl, _, _⟩ := o4.rd.shape
        obtain ⟨c0, c1, c2, c3⟩ := blk_cells4 hB
        obtain ⟨d0, d1, d2, d3⟩ := blk_cells4 hBs
        have hfz := blk_frozen hBs
        clear hB hBs o1 o2 o3 o4
        simp only [List.length_replicate, List.length_nil] at HE S hgr ⊢
        go_wp2_with fail
        obtain ⟨E0, E1, E2, E3⟩ := HE.out
        exact bodyPost_ret (v := .tuple #[.agg #[_, _, _, _], .bool true]) (by simp [results, Try.results56, go_sem, E0, E1, E2, E3]) rfl (S.out _ hgr)
end Go.Proofs.Ytabaemnknjdjoaa
