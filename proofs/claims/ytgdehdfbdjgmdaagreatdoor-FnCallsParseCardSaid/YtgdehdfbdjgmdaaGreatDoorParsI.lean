/-
  Walks: a call read out of a text, by the program.
-/
import Derived.Test.YtgdehdfbdjgmdaaGreatDoorPars
import Derived.Test.YtgdehdfbdjgmdaaGreatDoorLib
set_option linter.unusedVariables false
namespace Go.Proofs.YtgdehdfbdjgmdaaGreatDoor
open Go.RowKit

theorem callText_fit (x : CallV) (w : World) (hf : fitsC x = true) (ht : Tabs w) :
    Calls Tryz.prog 20 #[x.val] w fun e' w' => e' = .returned (.string (callB x)) ∧ Below w.heap.size w w' := by
  obtain ⟨k, e, a, b, c, hx, h1, h2, h3, h4, h5, h6, h7, h8⟩ := fits_ranges hf
  rw [hx]
  exact callText_any k e a b c x.nm w ⟨h1, h2⟩ (by omega) h4 h5 h6 h7 ht

theorem numOk_atoi {s : ByteArray} {n : Int} (h : Lib.atoiAll s.data.toList = .ok n) : NumOk s n := by
  rintro m hm rfl
  have := atoiAll_dec hm
  have e : (decB m).data.toList = Lib.decDigits m := rfl
  rw [e, this] at h
  simpa using h.symm
theorem read_impl {ws : List ByteArray} {n0 n1 n2 n3 : Int} (h0 : Lib.atoiAll (nthS ws 1).data.toList = .ok n0) (h1 : Lib.atoiAll (nthS ws 2).data.toList = .ok n1) (h2 : Lib.atoiAll (nthS ws 3).data.toList = .ok n2) (h3 : Lib.atoiAll (nthS ws 4).data.toList = .ok n3) :
    ReadOk ws ⟨1 + Lib.idxOfS kindLs (nthS ws 0), n0, n1, n2, n3, dropSl (nthS ws 5)⟩ :=
  read_ok (fun j h1 h2 h3 => by have := kind_idx ⟨j, h2⟩ h1; rw [h3]; simp only at this; omega) (numOk_atoi h0) (numOk_atoi h1) (numOk_atoi h2) (numOk_atoi h3) (fun l hl => by rw [hl]; exact dropSl_ok l)
theorem parsed_atoi {s : ByteArray} {k : Nat} (hk : k < 4) (h : ∀ v, Lib.atoiAll (nthS (cutB 32 s) (k + 1)).data.toList ≠ .ok v) : ∀ y : CallV, fitsC y = true → callB y ≠ s := by
  rintro y hy rfl
  rw [cut_callB hy] at h
  obtain ⟨k', e, a, b, c, hx, h1, h2, h3, h4, h5, h6, h7, h8⟩ := fits_ranges hy
  rw [hx] at h
  match k, hk with
  | 0, _ => exact h _ (atoiAll_dec (n := e) (by omega))
  | 1, _ => exact h _ (atoiAll_dec h4)
  | 2, _ => exact h _ (atoiAll_dec h5)
  | 3, _ => exact h _ (atoiAll_dec h6)

/-- The state of the loop over the numbers. -/
def APSt (w : World) (ws : List ByteArray) (g k : Nat) (wr : World) : Prop := ∃ ns : List Int, ns.length = 4 ∧ wr.heap[g]? = some (.cells (ns.map (Value.int .i64)).toArray 50 (0, 0)) ∧ (∀ j, j < k → Lib.atoiAll (nthS ws (j + 1)).data.toList = .ok (nth ns j)) ∧
  wr.heap[w.heap.size]? = some (.cells CallV.zero.cells 30 (0, 0)) ∧ Below w.heap.size w wr
theorem ns_cell {w : World} {g : Nat} {ns : List Int} {t : TypeId} (h : w.heap[g]? = some (.cells (ns.map (Value.int .i64)).toArray t (0, 0))) {j : Nat} (hj : j < ns.length) : w.cell? ⟨g, j, none⟩ = some (.int .i64 (nth ns j)) := by
  rw [cell_of_row w g j _ _ _ h]
  simp [nth_lt hj]
theorem ns_set {w : World} {g : Nat} {ns : List Int} {t : TypeId} (h : w.heap[g]? = some (.cells (ns.map (Value.int .i64)).toArray t (0, 0))) (k : Nat) (n : Int) : (w.setCell ⟨g, k, none⟩ (.int .i64 n)).heap[g]? = some (.cells ((ns.set k n).map (Value.int .i64)).toArray t (0, 0)) := by
  rw [heap_setCell_same w g k _ t (.int .i64 n) h]
  simp [List.map_set]
theorem ap_step {w wr : World} {ws : List ByteArray} {g k : Nat} {ns : List Int} {n : Int} (hk : k < 4) (hl : ns.length = 4) (hg : wr.heap[g]? = some (.cells (ns.map (Value.int .i64)).toArray 50 (0, 0))) (hp : ∀ j, j < k → Lib.atoiAll (nthS ws (j + 1)).data.toList = .ok (nth ns j))
    (hn : Lib.atoiAll (nthS ws (k + 1)).data.toList = .ok n) (hq : wr.heap[w.heap.size]? = some (.cells CallV.zero.cells 30 (0, 0))) (hb : Below w.heap.size w wr) (hlt : w.heap.size < g) : APSt w ws g (k + 1) (wr.setCell ⟨g, k, none⟩ (.int .i64 n)) := by
  refine ⟨ns.set k n, by simpa using hl, ns_set hg k n, fun j hj => ?_, (heap_setCell_other wr ⟨g, k, none⟩ w.heap.size _ (by simp; omega)).trans hq, hb.setCell (by simp; omega) _⟩
  rcases Nat.lt_succ_iff_lt_or_eq.1 hj with h | h
  · rw [hp j h]
    congr 1
    simp only [nth, List.getD_eq_getElem?_getD]
    rw [List.getElem?_set_ne (by omega)]
  · subst h
    rw [hn]
    congr 1
    simp [nth, hl, hk]

theorem set6_far {w W : World} {q : Nat} {x : CallV} {o : Obj} (hb : Below w.heap.size w W) (hN : W.heap[w.heap.size]? = some o) (hq : w.heap.size < q) :
    Below w.heap.size w ((((((W.setCell ⟨q, 0, none⟩ (.int .i64 x.k)).setCell ⟨q, 1, none⟩ (.int .i64 x.e)).setCell ⟨q, 2, none⟩ (.int .i64 x.a)).setCell ⟨q, 3, none⟩ (.int .i64 x.b)).setCell ⟨q, 4, none⟩ (.int .i64 x.c)).setCell ⟨q, 5, none⟩ (.string x.nm)) ∧
    ((((((W.setCell ⟨q, 0, none⟩ (.int .i64 x.k)).setCell ⟨q, 1, none⟩ (.int .i64 x.e)).setCell ⟨q, 2, none⟩ (.int .i64 x.a)).setCell ⟨q, 3, none⟩ (.int .i64 x.b)).setCell ⟨q, 4, none⟩ (.int .i64 x.c)).setCell ⟨q, 5, none⟩ (.string x.nm)).heap[w.heap.size]? = some o := by
  have hl := Nat.le_of_lt hq
  have far : ∀ (W : World) (j : Nat) (u : Value), W.heap[w.heap.size]? = some o → (W.setCell ⟨q, j, none⟩ u).heap[w.heap.size]? = some o := fun W j u h => (heap_setCell_other W ⟨q, j, none⟩ w.heap.size u (by simp; omega)).trans h
  exact ⟨(((((hb.setCell hl _).setCell hl _).setCell hl _).setCell hl _).setCell hl _).setCell hl _, far _ _ _ (far _ _ _ (far _ _ _ (far _ _ _ (far _ _ _ (far _ _ _ hN)))))⟩

def cpR (b off cap g B : Nat) (s0 s5 : ByteArray) (ns : List Int) (ix : Nat) (vv : Value) (ww : World) : Prop := match ix with
  | 0 => ∃ q : Nat, vv = .slice (some ⟨q, 0, none⟩) 11 11 ∧ ww.heap[q]? = some (.cells kindArr 9 (0, 0))
  | 1 => vv = .slice (some ⟨b, off, none⟩) 6 cap
  | 2 => vv = .pointer (some ⟨b, off, none⟩)
  | 3 => vv = .string s0
  | 4 => vv = .int .i64 (Lib.idxOfS kindLs s0)
  | 5 => vv = .int .i64 (1 + Lib.idxOfS kindLs s0)
  | 6 => vv = .pointer (some ⟨g, 0, none⟩)
  | 7 => vv = .int .i64 (nth ns 0)
  | 8 => vv = .pointer (some ⟨g, 1, none⟩)
  | 9 => vv = .int .i64 (nth ns 1)
  | 10 => vv = .pointer (some ⟨g, 2, none⟩)
  | 11 => vv = .int .i64 (nth ns 2)
  | 12 => vv = .pointer (some ⟨g, 3, none⟩)
  | 13 => vv = .int .i64 (nth ns 3)
  | 14 => vv = .slice (some ⟨b, off, none⟩) 6 cap
  | 15 => vv = .pointer (some ⟨b, off + 5, none⟩)
  | 16 => vv = .string s5
  | 17 => vv = .string (dropSl s5)
  | 18 => vv = .agg #[.int .i64 (1 + Lib.idxOfS kindLs s0), .int .i64 (nth ns 0), .int .i64 (nth ns 1), .int .i64 (nth ns 2), .int .i64 (nth ns 3), .string (dropSl s5)]
  | 19 => ∃ q : Nat, vv = .pointer (some ⟨q, 0, none⟩) ∧ B ≤ q ∧ ww.heap[q]? = some (.cells CallV.zero.cells 30 (0, 0))
  | _ => True
theorem cpR_mono (b off cap g B : Nat) (s0 s5 : ByteArray) (ns : List Int) : ∀ i, i < 20 → ∀ vv ww ww', Below ww.heap.size ww ww' → cpR b off cap g B s0 s5 ns i vv ww → cpR b off cap g B s0 s5 ns i vv ww' := by
  intro i hi vv ww ww' hb h
  match i, hi with
  | 0, _ => exact (let ⟨q, e, h⟩ := h; ⟨q, e, blk_under h hb⟩)
  | 1, _ => exact h
  | 2, _ => exact h
  | 3, _ => exact h
  | 4, _ => exact h
  | 5, _ => exact h
  | 6, _ => exact h
  | 7, _ => exact h
  | 8, _ => exact h
  | 9, _ => exact h
  | 10, _ => exact h
  | 11, _ => exact h
  | 12, _ => exact h
  | 13, _ => exact h
  | 14, _ => exact h
  | 15, _ => exact h
  | 16, _ => exact h
  | 17, _ => exact h
  | 18, _ => exact h
  | 19, _ => exact (let ⟨q, e, h1, h⟩ := h; ⟨q, e, h1, blk_under h hb⟩)
  | _ + 20, hq => exact absurd hq (by omega)

set_option maxRecDepth 100000 in
set_option maxHeartbeats 8000000 in
theorem CallParse_impl (s : ByteArray) (w : World) (hs : s.size ≤ 1048577) (ht : PTabs w) :
    Calls Tryz.prog 16 #[.string s] w fun e w' => (∃ (x : CallV) (ok : Bool), e = .returned (.tuple #[x.val, .bool ok]) ∧ Parsed s x ok) ∧ Below w.heap.size w w' := by
  have hN := Lib.hid (heap_alloc_new w (.cells CallV.zero.cells 30))
  have hB := Lib.hid (below1 w (.cells CallV.zero.cells 30))
  have Ht := Lib.hid ht
  go_enter Tryz.func16, Tryz.ntmps16
  go_wp2_with fail
  refine (Split_any s 32 _ hs (Ht.out.below hB.out)).mono ?_; rintro e w1 ⟨v, rfl, ho, b1⟩
  have hN1 := (b1.block w.heap.size (by simp)).trans hN.out
  have hB1 := hB.out.trans (b1.mono hB.out.size)
  have hR := ho.rd
  by_cases hl : (cutB 32 s).length = 6
  · obtain ⟨b, off, cap, rfl, hcap, hbl, hc⟩ := hR.six hl
    have hz := fun k => Nat.le_trans (piece_size 32 s k) hs
    have P1 := Lib.hid (fun (k : Nat) (hk : k < 4) (h : ∀ v, Lib.atoiAll (nthS (cutB 32 s) (k + 1)).data.toList ≠ .ok v) => parsed_atoi (s := s) hk h)
    have P2 := Lib.hid (fun (x : CallV) (hr : ReadOk (cutB 32 s) x) (h : fitsC x = true → callB x ≠ s) => parsed_read hr h)
    have Hc := Lib.hid hc
    have Hz := Lib.hid hz
    have hA := Lib.hid (heap_alloc_new w1 (.cells (([0, 0, 0, 0] : List Int).map (Value.int .i64)).toArray 50))
    have hA1 := Lib.hid (below1 w1 (.cells (([0, 0, 0, 0] : List Int).map (Value.int .i64)).toArray 50))
    have HN := Lib.hid hN1
    have HB := Lib.hid hB1
    have hlt1 := blk_lt hN1
    clear hc hz hR ho hN1 hB1 b1 hl
    go_wp2_with fail
    go_loopw [16] (fun i wr => ∃ k : Nat, k ≤ 4 ∧ i = .int .i64 k ∧ APSt w (cutB 32 s) w1.heap.size k wr ∧ Below w1.heap.size w1 wr) (fun i _ => 4 - (intOf i).toNat)
    case atStart => exact ⟨0, Nat.zero_le _, rfl, ⟨[0, 0, 0, 0], rfl, hA.out, fun j hj => absurd hj (Nat.not_lt_zero _), (hA1.out.block _ hlt1).trans HN.out, HB.out.trans (hA1.out.mono HB.out.size)⟩, hA1.out⟩
    case round =>
      obtain ⟨k, hk, rfl, ⟨ns, hnl, hg, hp, hq, hbel⟩, hbe1⟩ := hrel
      have Hg := Lib.hid hg
      have Hp := Lib.hid hp
      have Hq := Lib.hid hq
      have Hb := Lib.hid hbel
      have H1 := Lib.hid hbe1
      have Hnl := Lib.hid hnl
      by_cases hlt : k < 4
      · have D : wr.cell? ⟨b, off + (k + 1), none⟩ = some (.string (nthS (cutB 32 s) (k + 1))) := (hbe1.cell (p := ⟨b, off + (k + 1), none⟩) hbl).trans (Hc.out (k + 1) (by omega))
        clear hg hp hq hbel hbe1 hnl
        go_wp2_with fail
        refine (Atoi_any _ _ (Hz.out _) (Ht.out.below Hb.out)).mono ?_; rintro e w2 ⟨⟨n, err, rfl, hres⟩, b2⟩
        have Hg2 := Lib.hid (blk_under Hg.out b2)
        have Hq2 := Lib.hid (blk_under Hq.out b2)
        have Hb2 := Lib.hid (Hb.out.trans (b2.mono Hb.out.size))
        have H12 := Lib.hid (H1.out.trans (b2.mono H1.out.size))
        clear D
        rcases hres with ⟨rfl, hok⟩ | ⟨⟨t, p, rfl⟩, hno⟩
        · have St := Lib.hid (ap_step hlt Hnl.out Hg2.out Hp.out hok Hq2.out Hb2.out hlt1)
          have St1 := Lib.hid (H12.out.setCell (p := ⟨w1.heap.size, k, none⟩) (Nat.le_refl _) (.int .i64 n))
          have D := ns_cell Hg2.out (j := k) (by rw [Hnl.out]; exact hlt)
          have hf := blk_frozen Hg2.out
          have i4 : (k : Int) < 4 := by omega
          clear hok b2
          go_wp2_with fail
          go_roundw
          case rel => exact ⟨k + 1, by omega, by go_num, St.out, St1.out⟩
          case measure => simp [intOf]; omega
        · have P := Lib.hid (P1.out _ hlt hno)
          obtain ⟨d0, d1, d2, d3, d4, d5⟩ := call_cells Hq2.out
          have hf := blk_frozen Hq2.out
          have Q := Lib.hid (rc_end CallV.zero Hq2.out Hb2.out)
          clear hno b2
          go_wp2_with fail
          obtain ⟨⟨E0, E1, E2, E3, E4, E5⟩, Fin⟩ := Q.out
          simp only [CallV.zero] at E0 E1 E2 E3 E4 E5 Fin
          exact bodyPost_ret (v := .tuple #[.agg #[.int .i64 0, .int .i64 0, .int .i64 0, .int .i64 0, .int .i64 0, .string ⟨#[]⟩], .bool false]) (by simp [results, Tryz.results16, go_sem, E0, E1, E2, E3, E4, E5]) rfl ⟨⟨CallV.zero, false, rfl, .inr ⟨rfl, rfl, P.out⟩⟩, Fin⟩
      · obtain rfl : k = 4 := by omega
        have D : ∀ j, j < 6 → ∀ wx, Below wr.heap.size wr wx → wx.cell? ⟨b, off + j, none⟩ = some (.string (nthS (cutB 32 s) j)) := fun j hj wx hx => (hx.cell (p := ⟨b, off + j, none⟩) (Nat.lt_of_lt_of_le hbl hbe1.size)).trans ((hbe1.cell (p := ⟨b, off + j, none⟩) hbl).trans (Hc.out j hj))
        have A : ∀ j, j < 4 → ∀ wx, Below wr.heap.size wr wx → wx.cell? ⟨w1.heap.size, j, none⟩ = some (.int .i64 (nth ns j)) := fun j hj wx hx => ns_cell (blk_under Hg.out hx) (by rw [hnl]; exact hj)
        have RO := Lib.hid (read_impl (hp 0 (by decide)) (hp 1 (by decide)) (hp 2 (by decide)) (hp 3 (by decide)))
        have hs5 := Nat.le_trans (dropSl_size _) (Hz.out 5)
        have C0 := Lib.hid (show ∀ wx, Below wr.heap.size wr wx → wx.cell? ⟨b, off, none⟩ = some (.string (nthS (cutB 32 s) 0)) from D 0 (by decide))
        have C5 := Lib.hid (D 5 (by decide))
        have A0 := Lib.hid (A 0 (by decide))
        have A1 := Lib.hid (A 1 (by decide))
        have A2 := Lib.hid (A 2 (by decide))
        have A3 := Lib.hid (A 3 (by decide))
        have HS5 := Lib.hid hs5
        have HN4 := Lib.hid Hq.out
        have HB4 := Lib.hid Hb.out
        have HT4 := Ht
        clear D A hg hp hq hbel hbe1 hnl hs5 Hp Hg Hq Hb H1 Hnl P1
        generalize nthS (cutB 32 s) 0 = s0 at C0 RO
        generalize nthS (cutB 32 s) 5 = s5 at C5 RO HS5
        generalize w1.heap.size = g at A0 A1 A2 A3 hlt1 ⊢
        go_wp2_with fail
        refine wp_region_grow 20 Tryz.mixed (by kernel_rfl) 65 rfl (by kernel_rfl) (cpR b off cap g wr.heap.size s0 s5 ns) (cpR_mono b off cap g wr.heap.size s0 s5 ns) ?_ ?_
        · intro i hi o ho a wx Hb Hd hG K HK
          match i, hi with
          | 0, _ =>
            obtain rfl := Option.some.inj ho
            clear Hd Hb
            refine Does.of rfl ?_
            go_simp
            refine (callWords_any _).mono ?_; rintro e' w1 ⟨rfl, hw1⟩
            exact HK.out _ _ ⟨_, rfl, hw1 ▸ heap_alloc_new _ _⟩ (hw1 ▸ below1 _ _)
          | 1, _ =>
            obtain rfl := Option.some.inj ho
            have e4 : a.tmps[4]?.getD undef = .slice (some ⟨b, off, none⟩) 6 cap := by rw [Hb.out.2.2 4 (by decide)]; rfl
            clear Hd Hb
            refine Does.of rfl ?_
            go_simp
            exact HK.out _ _ rfl (Below.refl _ _)
          | 2, _ =>
            obtain rfl := Option.some.inj ho
            have d1 := Hd.out 1 (by kernel_rfl)
            change a.tmps[36]?.getD undef = .slice (some ⟨b, off, none⟩) 6 cap at d1
            clear Hd Hb
            refine Does.of rfl ?_
            go_simp
            exact HK.out _ _ rfl (Below.refl _ _)
          | 3, _ =>
            obtain rfl := Option.some.inj ho
            have d2 := Hd.out 2 (by kernel_rfl)
            change a.tmps[37]?.getD undef = .pointer (some ⟨b, off, none⟩) at d2
            clear Hd Hb
            have c0 := C0.out wx hG
            refine Does.of rfl ?_
            go_simp
            exact HK.out _ _ rfl (Below.refl _ _)
          | 4, _ =>
            obtain rfl := Option.some.inj ho
            have d0 := Hd.out 0 (by kernel_rfl)
            change ∃ q : Nat, a.tmps[35]?.getD undef = .slice (some ⟨q, 0, none⟩) 11 11 ∧ wx.heap[q]? = some (.cells kindArr 9 (0, 0)) at d0
            obtain ⟨q, d0, hq⟩ := d0
            have d3 := Hd.out 3 (by kernel_rfl)
            change a.tmps[38]?.getD undef = .string s0 at d3
            clear Hd Hb
            refine Does.of rfl ?_
            go_simp
            refine (Index_kinds q s0 _ hq).mono ?_; rintro e' w1 ⟨rfl, hw1⟩
            exact HK.out _ _ rfl (hw1 ▸ Below.refl _ _)
          | 5, _ =>
            obtain rfl := Option.some.inj ho
            have d4 := Hd.out 4 (by kernel_rfl)
            change a.tmps[39]?.getD undef = .int .i64 (Lib.idxOfS kindLs s0) at d4
            clear Hd Hb
            have s9 : IntKind.i64.wrap (1 + Lib.idxOfS kindLs s0) = 1 + Lib.idxOfS kindLs s0 := IntWalk.i64_in _ (by have := idx_kinds s0; omega)
            refine Does.of rfl ?_
            go_simp
            exact HK.out _ _ rfl (Below.refl _ _)
          | 6, _ =>
            obtain rfl := Option.some.inj ho
            have e5 : a.tmps[5]?.getD undef = .pointer (some ⟨g, 0, none⟩) := by rw [Hb.out.2.2 5 (by decide)]; rfl
            clear Hd Hb
            refine Does.of rfl ?_
            go_simp
            exact HK.out _ _ rfl (Below.refl _ _)
          | 7, _ =>
            obtain rfl := Option.some.inj ho
            have d6 := Hd.out 6 (by kernel_rfl)
            change a.tmps[41]?.getD undef = .pointer (some ⟨g, 0, none⟩) at d6
            clear Hd Hb
            have c0 := A0.out wx hG
            refine Does.of rfl ?_
            go_simp
            exact HK.out _ _ rfl (Below.refl _ _)
          | 8, _ =>
            obtain rfl := Option.some.inj ho
            have e5 : a.tmps[5]?.getD undef = .pointer (some ⟨g, 0, none⟩) := by rw [Hb.out.2.2 5 (by decide)]; rfl
            clear Hd Hb
            refine Does.of rfl ?_
            go_simp
            exact HK.out _ _ rfl (Below.refl _ _)
          | 9, _ =>
            obtain rfl := Option.some.inj ho
            have d8 := Hd.out 8 (by kernel_rfl)
            change a.tmps[43]?.getD undef = .pointer (some ⟨g, 1, none⟩) at d8
            clear Hd Hb
            have c0 := A1.out wx hG
            refine Does.of rfl ?_
            go_simp
            exact HK.out _ _ rfl (Below.refl _ _)
          | 10, _ =>
            obtain rfl := Option.some.inj ho
            have e5 : a.tmps[5]?.getD undef = .pointer (some ⟨g, 0, none⟩) := by rw [Hb.out.2.2 5 (by decide)]; rfl
            clear Hd Hb
            refine Does.of rfl ?_
            go_simp
            exact HK.out _ _ rfl (Below.refl _ _)
          | 11, _ =>
            obtain rfl := Option.some.inj ho
            have d10 := Hd.out 10 (by kernel_rfl)
            change a.tmps[45]?.getD undef = .pointer (some ⟨g, 2, none⟩) at d10
            clear Hd Hb
            have c0 := A2.out wx hG
            refine Does.of rfl ?_
            go_simp
            exact HK.out _ _ rfl (Below.refl _ _)
          | 12, _ =>
            obtain rfl := Option.some.inj ho
            have e5 : a.tmps[5]?.getD undef = .pointer (some ⟨g, 0, none⟩) := by rw [Hb.out.2.2 5 (by decide)]; rfl
            clear Hd Hb
            refine Does.of rfl ?_
            go_simp
            exact HK.out _ _ rfl (Below.refl _ _)
          | 13, _ =>
            obtain rfl := Option.some.inj ho
            have d12 := Hd.out 12 (by kernel_rfl)
            change a.tmps[47]?.getD undef = .pointer (some ⟨g, 3, none⟩) at d12
            clear Hd Hb
            have c0 := A3.out wx hG
            refine Does.of rfl ?_
            go_simp
            exact HK.out _ _ rfl (Below.refl _ _)
          | 14, _ =>
            obtain rfl := Option.some.inj ho
            have e4 : a.tmps[4]?.getD undef = .slice (some ⟨b, off, none⟩) 6 cap := by rw [Hb.out.2.2 4 (by decide)]; rfl
            clear Hd Hb
            refine Does.of rfl ?_
            go_simp
            exact HK.out _ _ rfl (Below.refl _ _)
          | 15, _ =>
            obtain rfl := Option.some.inj ho
            have d14 := Hd.out 14 (by kernel_rfl)
            change a.tmps[49]?.getD undef = .slice (some ⟨b, off, none⟩) 6 cap at d14
            clear Hd Hb
            refine Does.of rfl ?_
            go_simp
            exact HK.out _ _ rfl (Below.refl _ _)
          | 16, _ =>
            obtain rfl := Option.some.inj ho
            have d15 := Hd.out 15 (by kernel_rfl)
            change a.tmps[50]?.getD undef = .pointer (some ⟨b, off + 5, none⟩) at d15
            clear Hd Hb
            have c0 := C5.out wx hG
            refine Does.of rfl ?_
            go_simp
            exact HK.out _ _ rfl (Below.refl _ _)
          | 17, _ =>
            obtain rfl := Option.some.inj ho
            have d16 := Hd.out 16 (by kernel_rfl)
            change a.tmps[51]?.getD undef = .string s5 at d16
            clear Hd Hb
            refine Does.of rfl ?_
            go_simp
            refine (TrimPrefix_any s5 _).mono ?_; rintro e' w1 ⟨rfl, hw1⟩
            exact HK.out _ _ rfl (hw1 ▸ Below.refl _ _)
          | 18, _ =>
            obtain rfl := Option.some.inj ho
            have d5 := Hd.out 5 (by kernel_rfl)
            change a.tmps[40]?.getD undef = .int .i64 (1 + Lib.idxOfS kindLs s0) at d5
            have d7 := Hd.out 7 (by kernel_rfl)
            change a.tmps[42]?.getD undef = .int .i64 (nth ns 0) at d7
            have d9 := Hd.out 9 (by kernel_rfl)
            change a.tmps[44]?.getD undef = .int .i64 (nth ns 1) at d9
            have d11 := Hd.out 11 (by kernel_rfl)
            change a.tmps[46]?.getD undef = .int .i64 (nth ns 2) at d11
            have d13 := Hd.out 13 (by kernel_rfl)
            change a.tmps[48]?.getD undef = .int .i64 (nth ns 3) at d13
            have d17 := Hd.out 17 (by kernel_rfl)
            change a.tmps[52]?.getD undef = .string (dropSl s5) at d17
            clear Hd Hb
            refine Does.of rfl ?_
            go_simp
            exact HK.out _ _ rfl (Below.refl _ _)
          | 19, _ =>
            obtain rfl := Option.some.inj ho
            clear Hd Hb
            refine Does.of rfl ?_
            go_simp
            exact HK.out _ _ ⟨_, rfl, hG.size, heap_alloc_new _ _⟩ (below1 _ _)
          | _ + 20, hq => exact absurd hq (by omega)
        · intro vs wx hR hG
          have q18 := hR 18 (by decide)
          change vs 18 = .agg #[.int .i64 (1 + Lib.idxOfS kindLs s0), .int .i64 (nth ns 0), .int .i64 (nth ns 1), .int .i64 (nth ns 2), .int .i64 (nth ns 3), .string (dropSl s5)] at q18
          have q19 := hR 19 (by decide)
          change ∃ q : Nat, vs 19 = .pointer (some ⟨q, 0, none⟩) ∧ wr.heap.size ≤ q ∧ wx.heap[q]? = some (.cells CallV.zero.cells 30 (0, 0)) at q19
          obtain ⟨q9, q19, hq9, hqb⟩ := q19
          clear hR
          simp only [fillAt, dstOf, List.range, List.range.loop, List.foldl_cons, List.foldl_nil, q18]
          simp
          generalize vs 0 = z0
          generalize vs 1 = z1
          generalize vs 2 = z2
          generalize vs 3 = z3
          generalize vs 4 = z4
          generalize vs 5 = z5
          generalize vs 6 = z6
          generalize vs 7 = z7
          generalize vs 8 = z8
          generalize vs 9 = z9
          generalize vs 10 = z10
          generalize vs 11 = z11
          generalize vs 12 = z12
          generalize vs 13 = z13
          generalize vs 14 = z14
          generalize vs 15 = z15
          generalize vs 16 = z16
          generalize vs 17 = z17
          generalize vs 19 = z19 at q19 ⊢
          subst q19
          clear q18
          generalize hK : 1 + Lib.idxOfS kindLs s0 = K at RO ⊢
          generalize hn0 : nth ns 0 = n0 at RO ⊢
          generalize hn1 : nth ns 1 = n1 at RO ⊢
          generalize hn2 : nth ns 2 = n2 at RO ⊢
          generalize hn3 : nth ns 3 = n3 at RO ⊢
          generalize dropSl s5 = nm at RO HS5 ⊢
          clear hK hn0 hn1 hn2 hn3
          have hx' : nm.size ≤ maxLen := Nat.le_trans HS5.out (by decide)
          have HB5 := Lib.hid (HB4.out.trans (hG.mono HB4.out.size))
          have HN5 := Lib.hid (blk_under HN4.out hG)
          have hq := Nat.lt_of_lt_of_le (blk_lt HN4.out) hq9
          clear HB4 HN4 C0 C5 A0 A1 A2 A3 hG hq9
          have F := Lib.hid (fun w => CallFits_impl ⟨K, n0, n1, n2, n3, nm⟩ w hx')
          have hN3 := set6 (x := ⟨K, n0, n1, n2, n3, nm⟩) hqb
          have h6 := set6_far (x := ⟨K, n0, n1, n2, n3, nm⟩) HB5.out HN5.out hq
          dsimp only at hN3 h6
          obtain ⟨z0, z1, z2, z3, z4, z5⟩ := call_cells hqb
          obtain ⟨y0, y1, y2, y3, y4, y5⟩ := call_cells hN3
          dsimp only at y0 y1 y2 y3 y4 y5
          have hfz := blk_frozen hqb
          have hqlt := Lib.hid (blk_lt hN3)
          have hN3 := Lib.hid hN3
          have HB6 := Lib.hid h6.1
          have HN6 := Lib.hid h6.2
          clear h6 hqb HB5 HN5
          cases hf : fitsC ⟨K, n0, n1, n2, n3, nm⟩
          · have P := Lib.hid (P2.out _ RO.out (fun h => by rw [hf] at h; cases h))
            rw [hf] at F
            clear hf
            simp only [CallV.val, CallV.cells] at F
            go_wp2_with fail
            refine (F.out _).mono ?_; rintro e' w3 ⟨rfl, b3⟩
            clear y0 y1 y2 y3 y4 y5 z0 z1 z2 z3 z4 z5 hfz
            have HN7 := blk_under HN6.out b3
            have HB7 := HB6.out.trans (b3.mono HB6.out.size)
            obtain ⟨d0, d1, d2, d3, d4, d5⟩ := call_cells HN7
            have hf := blk_frozen HN7
            have Q := Lib.hid (rc_end CallV.zero HN7 HB7)
            clear HN7 HB7 b3
            go_wp2_with fail
            obtain ⟨⟨E0, E1, E2, E3, E4, E5⟩, Fin⟩ := Q.out
            simp only [CallV.zero] at E0 E1 E2 E3 E4 E5 Fin
            exact bodyPost_ret (v := .tuple #[.agg #[.int .i64 0, .int .i64 0, .int .i64 0, .int .i64 0, .int .i64 0, .string ⟨#[]⟩], .bool false]) (by simp [results, Tryz.results16, go_sem, E0, E1, E2, E3, E4, E5]) rfl ⟨⟨CallV.zero, false, rfl, .inr ⟨rfl, rfl, P.out⟩⟩, Fin⟩
          · have T := Lib.hid (fun w h => callText_fit ⟨K, n0, n1, n2, n3, nm⟩ w hf h)
            rw [hf] at F
            by_cases hc : callB ⟨K, n0, n1, n2, n3, nm⟩ = s
            · have P := Lib.hid (show Parsed s ⟨K, n0, n1, n2, n3, nm⟩ true from .inl ⟨rfl, hf, hc⟩)
              have tq : ((callB ⟨K, n0, n1, n2, n3, nm⟩).toList == s.toList) = true := by simp [hc]
              clear hf hc RO
              have Q1 := Lib.hid (fun (w W : World) (hR : W.heap[w.heap.size]? = some (.cells CallV.zero.cells 30 (0, 0))) (hb : Below w.heap.size w W) => rc_end ⟨K, n0, n1, n2, n3, nm⟩ hR hb)
              generalize callB ⟨K, n0, n1, n2, n3, nm⟩ = cb at T tq
              simp only [CallV.val, CallV.cells] at F T
              go_wp2_with fail
              refine (F.out _).mono ?_; rintro e' w3 ⟨rfl, b3⟩
              clear y0 y1 y2 y3 y4 y5 z0 z1 z2 z3 z4 z5 hfz
              have hN4 := (b3.block q9 hqlt.out).trans hN3.out
              have HN7 := Lib.hid (blk_under HN6.out b3)
              have HB7 := Lib.hid (HB6.out.trans (b3.mono HB6.out.size))
              obtain ⟨d0, d1, d2, d3, d4, d5⟩ := call_cells (x := ⟨K, n0, n1, n2, n3, nm⟩) hN4
              have HN4 := Lib.hid hN4
              clear hN4 b3
              go_wp2_with fail
              refine (T.out _ (HT4.out.below HB7.out).1).mono ?_; rintro e' w4 ⟨rfl, b4⟩
              have hN5 := blk_under HN4.out b4
              have HN8 := blk_under HN7.out b4
              have HB8 := HB7.out.trans (b4.mono HB7.out.size)
              clear d0 d1 d2 d3 d4 d5
              obtain ⟨d0, d1, d2, d3, d4, d5⟩ := call_cells (x := ⟨K, n0, n1, n2, n3, nm⟩) hN5
              obtain ⟨r0, r1, r2, r3, r4, r5⟩ := call_cells HN8
              have hf := blk_frozen HN8
              have Q := Lib.hid (Q1.out _ _ HN8 HB8)
              clear HN8 HB8 hN5 b4
              go_wp2_with fail
              obtain ⟨⟨E0, E1, E2, E3, E4, E5⟩, Fin⟩ := Q.out
              dsimp only at E0 E1 E2 E3 E4 E5 Fin
              exact bodyPost_ret (v := .tuple #[.agg #[_, _, _, _, _, _], .bool true]) (by simp [results, Tryz.results16, go_sem, E0, E1, E2, E3, E4, E5]) rfl ⟨⟨⟨K, n0, n1, n2, n3, nm⟩, true, rfl, P.out⟩, Fin⟩
            · have P := Lib.hid (P2.out _ RO.out (fun _ => hc))
              have tq : ((callB ⟨K, n0, n1, n2, n3, nm⟩).toList == s.toList) = false := by
                rw [beq_eq_false_iff_ne]
                intro e
                apply hc
                rw [Lib.toList_data, Lib.toList_data] at e
                rw [← ofL_of (callB _), e, ofL_of]
              clear hf hc RO
              generalize callB ⟨K, n0, n1, n2, n3, nm⟩ = cb at T tq
              simp only [CallV.val, CallV.cells] at F T
              go_wp2_with fail
              refine (F.out _).mono ?_; rintro e' w3 ⟨rfl, b3⟩
              clear y0 y1 y2 y3 y4 y5 z0 z1 z2 z3 z4 z5 hfz
              have hN4 := (b3.block q9 hqlt.out).trans hN3.out
              have HN7 := Lib.hid (blk_under HN6.out b3)
              have HB7 := Lib.hid (HB6.out.trans (b3.mono HB6.out.size))
              obtain ⟨d0, d1, d2, d3, d4, d5⟩ := call_cells (x := ⟨K, n0, n1, n2, n3, nm⟩) hN4
              clear hN4 b3
              go_wp2_with fail
              refine (T.out _ (HT4.out.below HB7.out).1).mono ?_; rintro e' w4 ⟨rfl, b4⟩
              have HN8 := blk_under HN7.out b4
              have HB8 := HB7.out.trans (b4.mono HB7.out.size)
              clear d0 d1 d2 d3 d4 d5
              obtain ⟨r0, r1, r2, r3, r4, r5⟩ := call_cells HN8
              have hf := blk_frozen HN8
              have Q := Lib.hid (rc_end CallV.zero HN8 HB8)
              clear HN8 HB8 b4
              go_wp2_with fail
              obtain ⟨⟨E0, E1, E2, E3, E4, E5⟩, Fin⟩ := Q.out
              simp only [CallV.zero] at E0 E1 E2 E3 E4 E5 Fin
              exact bodyPost_ret (v := .tuple #[.agg #[.int .i64 0, .int .i64 0, .int .i64 0, .int .i64 0, .int .i64 0, .string ⟨#[]⟩], .bool false]) (by simp [results, Tryz.results16, go_sem, E0, E1, E2, E3, E4, E5]) rfl ⟨⟨CallV.zero, false, rfl, .inr ⟨rfl, rfl, P.out⟩⟩, Fin⟩
  · have t : (((cutB 32 s).length : Int) != 6) = true := by simp; omega
    have P := Lib.hid (parsed_len hl)
    have Q := Lib.hid (rc_end CallV.zero hN1 hB1)
    obtain ⟨d0, d1, d2, d3, d4, d5⟩ := call_cells hN1
    have hf := blk_frozen hN1
    obtain ⟨a, cap, rfl, hnc, hcm, _⟩ := hR.open
    clear hl hR ho hN1 hB1 b1
    go_wp2_with fail
    obtain ⟨⟨E0, E1, E2, E3, E4, E5⟩, Fin⟩ := Q.out
    simp only [CallV.zero] at E0 E1 E2 E3 E4 E5 Fin
    exact bodyPost_ret (v := .tuple #[.agg #[.int .i64 0, .int .i64 0, .int .i64 0, .int .i64 0, .int .i64 0, .string ⟨#[]⟩], .bool false]) (by simp [results, Tryz.results16, go_sem, E0, E1, E2, E3, E4, E5]) rfl ⟨⟨CallV.zero, false, rfl, .inr ⟨rfl, rfl, P.out⟩⟩, Fin⟩
end Go.Proofs.YtgdehdfbdjgmdaaGreatDoor
