/-
  Walks: a call read out of six words, by the reference.
-/
import Derived.Test.YtgdehdfbdjgmdaaGreatDoorNum
set_option linter.unusedVariables false
namespace Go.Proofs.YtgdehdfbdjgmdaaGreatDoor
open Go.RowKit

theorem RdStrs.six {w : World} {v : Value} {ws : List ByteArray} (h : RdStrs w v ws) (hl : ws.length = 6) : ∃ b off cap, v = .slice (some ⟨b, off, none⟩) 6 cap ∧ 6 ≤ cap ∧ b < w.heap.size ∧ ∀ k, k < 6 → w.cell? ⟨b, off + k, none⟩ = some (.string (nthS ws k)) := by
  obtain ⟨a, cap, rfl, hc, hcm, hA⟩ := h.open
  obtain ⟨b, off, rfl, hb, _⟩ := hA 0 (by omega)
  refine ⟨b, off, cap, by rw [hl], by omega, hb, fun k hk => ?_⟩
  obtain ⟨b', off', e, _, hc⟩ := hA k (by omega)
  simp only [Option.some.injEq, Addr.mk.injEq, and_true] at e
  obtain ⟨rfl, rfl⟩ := e
  exact hc

/-- The words of the text of a call. -/
def callWsB (x : CallV) : List ByteArray := (callWs x.k.toNat x.e.toNat x.a.toNat x.b.toNat x.c.toNat x.nm.data.toList).map ofL
/-- The kind found among those below k. -/
def KindAt (s : ByteArray) (k : Nat) (K : Int) : Prop := ∀ j : Nat, 1 ≤ j → j < k → s = kindB j → K = j
theorem kindB_inj {j k : Nat} (hj : 1 ≤ j) (hj' : j ≤ 11) (hk : 1 ≤ k) (hk' : k ≤ 11) (h : kindB j = kindB k) : j = k := by
  have h2 : kindL j = kindL k := by simpa [kindB] using h
  have := kind_inj ⟨j, by omega⟩ ⟨k, by omega⟩ hj hk h2
  simpa using this
theorem KindAt.hit {s : ByteArray} {k : Nat} (h1 : 1 ≤ k) (hk : k ≤ 11) (h : s = kindB k) : KindAt s (k + 1) k := by
  rintro j h2 h3 rfl
  rw [kindB_inj h2 (by omega) h1 hk h]
theorem KindAt.miss {s : ByteArray} {k : Nat} {K : Int} (h : KindAt s k K) (hne : s ≠ kindB k) : KindAt s (k + 1) K := by
  intro j h1 h2 h3
  rcases Nat.lt_succ_iff_lt_or_eq.1 h2 with h' | h'
  · exact h j h1 h' h3
  · subst h'; exact absurd h3 hne

/-- What reading six words gives: the call whose words they are, if there is one. -/
def ReadOk (ws : List ByteArray) (x : CallV) : Prop := ∀ y : CallV, fitsC y = true → ws = callWsB y → x = y
theorem read_ok {ws : List ByteArray} {K e a b c : Int} {nm : ByteArray} (hK : KindAt (nthS ws 0) 12 K) (he : NumOk (nthS ws 1) e) (ha : NumOk (nthS ws 2) a) (hb : NumOk (nthS ws 3) b) (hc : NumOk (nthS ws 4) c)
    (hn : ∀ l, nthS ws 5 = ofL (47 :: l) → nm = ofL l) : ReadOk ws ⟨K, e, a, b, c, nm⟩ := by
  rintro y hy rfl
  obtain ⟨k', e', a', b', c', hx, h1, h2, h3, h4, h5, h6, h7, h8⟩ := fits_ranges hy
  obtain ⟨yk, ye, ya, yb, yc, ynm⟩ := y
  simp only [CallV.mk.injEq, and_true] at hx
  obtain ⟨rfl, rfl, rfl, rfl, rfl⟩ := hx
  simp only [callWsB, callWs, Int.toNat_natCast, List.map_cons, List.map_nil] at hK he ha hb hc hn
  have q0 := hK k' h1 (by omega) rfl
  have q1 := he e' (by omega) rfl
  have q2 := ha a' h4 rfl
  have q3 := hb b' h5 rfl
  have q4 := hc c' h6 rfl
  have q5 := hn _ rfl
  rw [q0, q1, q2, q3, q4, q5, ofL_of]

/-- The state of the loop. -/
def RCSt (w : World) (s : ByteArray) (k : Nat) (wr : World) : Prop := ∃ K : Int, KindAt s k K ∧ wr.heap[w.heap.size + 1]? = some (.cells (CallV.mk K 0 0 0 0 ⟨#[]⟩).cells 30 (0, 0)) ∧ wr.heap[w.heap.size]? = some (.cells (CallV.mk 0 0 0 0 0 ⟨#[]⟩).cells 30 (0, 0)) ∧ Below w.heap.size w wr

def RcEnd (w : World) (x : CallV) (F : World) : Prop :=
  (F.cell? ⟨w.heap.size, 0, none⟩ = some (.int .i64 x.k) ∧ F.cell? ⟨w.heap.size, 1, none⟩ = some (.int .i64 x.e) ∧ F.cell? ⟨w.heap.size, 2, none⟩ = some (.int .i64 x.a) ∧ F.cell? ⟨w.heap.size, 3, none⟩ = some (.int .i64 x.b) ∧ F.cell? ⟨w.heap.size, 4, none⟩ = some (.int .i64 x.c) ∧ F.cell? ⟨w.heap.size, 5, none⟩ = some (.string x.nm)) ∧ Below w.heap.size w F
theorem rc_end {w W : World} {y : CallV} (x : CallV) (hR : W.heap[w.heap.size]? = some (.cells y.cells 30 (0, 0))) (hb : Below w.heap.size w W) : RcEnd w x ((((((W.setCell ⟨w.heap.size, 0, none⟩ (.int .i64 x.k)).setCell ⟨w.heap.size, 1, none⟩ (.int .i64 x.e)).setCell ⟨w.heap.size, 2, none⟩ (.int .i64 x.a)).setCell ⟨w.heap.size, 3, none⟩ (.int .i64 x.b)).setCell ⟨w.heap.size, 4, none⟩ (.int .i64 x.c)).setCell ⟨w.heap.size, 5, none⟩ (.string x.nm)) :=
  ⟨call_cells (set6 hR), (((((hb.setCell (Nat.le_refl _) _).setCell (Nat.le_refl _) _).setCell (Nat.le_refl _) _).setCell (Nat.le_refl _) _).setCell (Nat.le_refl _) _).setCell (Nat.le_refl _) _⟩
theorem rc_set {w W : World} {y : CallV} {j : Nat} (u : Value) (h : W.heap[w.heap.size]? = some (.cells y.cells 30 (0, 0)) ∧ Below w.heap.size w W) : (W.setCell ⟨w.heap.size + 1, j, none⟩ u).heap[w.heap.size]? = some (.cells y.cells 30 (0, 0)) ∧ Below w.heap.size w (W.setCell ⟨w.heap.size + 1, j, none⟩ u) :=
  ⟨(heap_setCell_other W ⟨w.heap.size + 1, j, none⟩ w.heap.size u (by simp)).trans h.1, h.2.setCell (by simp) u⟩

theorem name_ok (s : ByteArray) (h : 0 < s.size) : ∀ l, s = ofL (47 :: l) → s.extract 1 s.size = ofL l := by
  rintro l rfl
  rw [← ofL_of ((ofL (47 :: l)).extract 1 _), ext_list]
  congr 1
  rw [ofL_toList]
  simp [ofL, ByteArray.size]
theorem name_no {s : ByteArray} (h : ¬ 0 < s.size) (t : ByteArray) : ∀ l, s = ofL (47 :: l) → t = ofL l := by
  rintro l rfl
  exact absurd (by simp [ofL, ByteArray.size]) h

set_option maxRecDepth 100000 in
set_option maxHeartbeats 8000000 in
theorem l43Call_any (v : Value) (ws : List ByteArray) (w : World) (h : RdStrs w v ws) (hl : ws.length = 6) (hs : ∀ k, k < 6 → (nthS ws k).size ≤ 1048577) :
    Calls Tryz.prog 30 #[v] w fun e w' => (∃ x : CallV, e = .returned x.val ∧ x.nm.size ≤ 1048577 ∧ ReadOk ws x) ∧ Below w.heap.size w w' := by
  obtain ⟨b, off, cap, rfl, hcap, hbl, hc⟩ := h.six hl
  have Hc := Lib.hid hc; clear hc
  have Hs := Lib.hid hs; clear hs
  have n1 : b ≠ w.heap.size + 1 := by omega
  have n2 : b ≠ w.heap.size := by omega
  have n3 : w.heap.size ≠ w.heap.size + 1 := by omega
  have n4 : w.heap.size + 1 ≠ w.heap.size := by omega
  have hN := Lib.hid (heap_alloc_new w (.cells (CallV.mk 0 0 0 0 0 ⟨#[]⟩).cells 30))
  have hN1 := Lib.hid (by have := heap_alloc_new (w.alloc (.cells (CallV.mk 0 0 0 0 0 ⟨#[]⟩).cells 30)) (.cells (CallV.mk 0 0 0 0 0 ⟨#[]⟩).cells 30); rwa [World.size_alloc] at this)
  clear h hl
  go_enter Tryz.func30, Tryz.ntmps30
  go_wp2_with fail
  go_loopw [4] (fun i wr => ∃ k : Nat, 1 ≤ k ∧ k ≤ 12 ∧ i = .int .i64 k ∧ RCSt w (nthS ws 0) k wr) (fun i _ => 12 - (intOf i).toNat)
  case atStart => exact ⟨1, Nat.le_refl _, by decide, rfl, 0, fun j h1 h2 => by omega, hN1.out, blk_under hN.out (below1 _ _), below2 _ _ _⟩
  case round =>
    obtain ⟨k, hk1, hk2, rfl, K, hK, hB, hR, hbel⟩ := hrel
    have HK := Lib.hid hK; clear hK
    have HB := Lib.hid hB; clear hB
    have HR := Lib.hid hR; clear hR
    have Hb := Lib.hid hbel
    by_cases hlt : k < 12
    · have D0 : wr.cell? ⟨b, off, none⟩ = some (.string (nthS ws 0)) := (hbel.cell (p := ⟨b, off, none⟩) hbl).trans (Hc.out 0 (by decide))
      have k0 := cell_regrown D0
      have cW := Regrown.of (w1 := wr) (fun w => l43Word_any k w ⟨hk1, by omega⟩)
      clear hbel D0
      by_cases he : nthS ws 0 = kindB k
      · have t : ((nthS ws 0).toList == (kindB k).toList) = true := by simp [he]
        have T := Lib.hid (KindAt.hit hk1 (by omega) he)
        clear he
        go_wp2_with fail
        refine wp_region_quiet_below Tryz.mixed (by kernel_rfl) ?_
        repeat (quiet_step (exact cW _ _))
        refine wpQuiet_nil ?_
        intro _ hw'
        obtain ⟨⟨dq, osq⟩, hw''⟩ := hw'
        subst hw''
        have bq := below_regrown wr dq osq
        generalize Sort.grow (redrawn wr dq) osq = wq at bq
        have HB1 := Lib.hid (blk_under HB.out bq)
        have HR1 := Lib.hid (blk_under HR.out bq)
        have Hb1 := Lib.hid (Hb.out.trans (bq.mono Hb.out.size))
        clear k0 cW bq
        have S := Lib.hid (by have := heap_setCell_same wq (w.heap.size + 1) 0 _ _ (.int .i64 k) HB1.out; simpa [CallV.cells] using this)
        have S' := Lib.hid ((heap_setCell_other wq ⟨w.heap.size + 1, 0, none⟩ w.heap.size (.int .i64 k) (by simp)).trans HR1.out)
        have S2 := Lib.hid (Hb1.out.setCell (p := ⟨w.heap.size + 1, 0, none⟩) (by simp) (.int .i64 k))
        obtain ⟨c0, _⟩ := call_cells HB1.out
        have hf := blk_frozen HB1.out
        go_wp2_with fail
        go_roundw
        case rel => exact ⟨k + 1, by omega, by omega, by go_num, k, T.out, S.out, S'.out, S2.out⟩
        case measure => simp [intOf]; omega
      · have t : ((nthS ws 0).toList == (kindB k).toList) = false := by
          rw [beq_eq_false_iff_ne]
          intro e
          apply he
          rw [Lib.toList_data, Lib.toList_data] at e
          rw [← ofL_of (nthS ws 0), e, ofL_of]
        have T := Lib.hid (HK.out.miss he)
        clear he
        go_wp2_with fail
        refine wp_region_quiet_below Tryz.mixed (by kernel_rfl) ?_
        repeat (quiet_step (exact cW _ _))
        refine wpQuiet_nil ?_
        intro _ hw'
        obtain ⟨⟨dq, osq⟩, hw''⟩ := hw'
        subst hw''
        have bq := below_regrown wr dq osq
        generalize Sort.grow (redrawn wr dq) osq = wq at bq
        have HB1 := Lib.hid (blk_under HB.out bq)
        have HR1 := Lib.hid (blk_under HR.out bq)
        have Hb1 := Lib.hid (Hb.out.trans (bq.mono Hb.out.size))
        clear k0 cW bq
        go_wp2_with fail
        go_roundw
        case rel => exact ⟨k + 1, by omega, by omega, by go_num, K, T.out, HB1.out, HR1.out, Hb1.out⟩
        case measure => simp [intOf]; omega
    · obtain rfl : k = 12 := by omega
      have D : ∀ j, j < 6 → wr.cell? ⟨b, off + j, none⟩ = some (.string (nthS ws j)) := fun j hj => (hbel.cell (p := ⟨b, off + j, none⟩) hbl).trans (Hc.out j hj)
      have D1 := D 1 (by decide)
      have D2 := D 2 (by decide)
      have D3 := D 3 (by decide)
      have D4 := D 4 (by decide)
      have D5 := D 5 (by decide)
      obtain ⟨c0, c1, c2, c3, c4, c5⟩ := call_cells HB.out
      have hf := blk_frozen HB.out
      obtain ⟨r0, r1, r2, r3, r4, r5⟩ := call_cells HR.out
      have hf' := blk_frozen HR.out
      clear D hbel
      go_wp2_with fail
      refine (l43Number_any _ _ (Hs.out 1 (by decide))).mono ?_; rintro e' w1 ⟨⟨ne, rfl, He⟩, rfl⟩
      have He := Lib.hid He
      go_wp2_with fail
      refine (l43Number_any _ _ (Hs.out 2 (by decide))).mono ?_; rintro e' w1 ⟨⟨na, rfl, Ha⟩, rfl⟩
      have Ha := Lib.hid Ha
      go_wp2_with fail
      refine (l43Number_any _ _ (Hs.out 3 (by decide))).mono ?_; rintro e' w1 ⟨⟨nb, rfl, Hb'⟩, rfl⟩
      have Hb' := Lib.hid Hb'
      go_wp2_with fail
      refine (l43Number_any _ _ (Hs.out 4 (by decide))).mono ?_; rintro e' w1 ⟨⟨nc, rfl, Hc'⟩, rfl⟩
      have Hc' := Lib.hid Hc'
      have Q := Lib.hid (rc_set (.int .i64 nc) (j := 4) (rc_set (.int .i64 nb) (j := 3) (rc_set (.int .i64 na) (j := 2) (rc_set (.int .i64 ne) (j := 1) ⟨HR.out, Hb.out⟩))))
      have Z5 := Lib.hid (Hs.out 5 (by decide))
      by_cases h5 : 0 < (nthS ws 5).size
      · have NO := Lib.hid (name_ok _ h5)
        have RO := Lib.hid (read_ok HK.out He.out Ha.out Hb'.out Hc'.out NO.out)
        have i5 : (1 : Int) ≤ (nthS ws 5).size := by omega
        have i6 : decide ((0 : Int) < (nthS ws 5).size) = true := decide_eq_true (by omega)
        go_wp2_with fail
        obtain ⟨⟨E0, E1, E2, E3, E4, E5⟩, Fin⟩ := rc_end ⟨K, ne, na, nb, nc, (nthS ws 5).extract 1 (nthS ws 5).size⟩ (rc_set (.string ((nthS ws 5).extract 1 (nthS ws 5).size)) (j := 5) Q.out).1 (rc_set (.string ((nthS ws 5).extract 1 (nthS ws 5).size)) (j := 5) Q.out).2
        dsimp only at E0 E1 E2 E3 E4 E5 Fin
        exact bodyPost_ret (v := .agg #[_, _, _, _, _, _]) (by simp [results, Tryz.results30, go_sem, E0, E1, E2, E3, E4, E5]) rfl ⟨⟨⟨K, ne, na, nb, nc, (nthS ws 5).extract 1 (nthS ws 5).size⟩, rfl, by have := Z5.out; simp only [ByteArray.size_extract]; omega, RO.out⟩, Fin⟩
      · have NO := Lib.hid (name_no h5 ⟨#[]⟩)
        have RO := Lib.hid (read_ok HK.out He.out Ha.out Hb'.out Hc'.out NO.out)
        have i6 : decide ((0 : Int) < (nthS ws 5).size) = false := decide_eq_false (by omega)
        go_wp2_with fail
        obtain ⟨⟨E0, E1, E2, E3, E4, E5⟩, Fin⟩ := rc_end ⟨K, ne, na, nb, nc, ⟨#[]⟩⟩ Q.out.1 Q.out.2
        dsimp only at E0 E1 E2 E3 E4 E5 Fin
        exact bodyPost_ret (v := .agg #[_, _, _, _, _, _]) (by simp [results, Tryz.results30, go_sem, E0, E1, E2, E3, E4, E5]) rfl ⟨⟨⟨K, ne, na, nb, nc, ⟨#[]⟩⟩, rfl, (show (⟨#[]⟩ : ByteArray).size ≤ 1048577 by decide), RO.out⟩, Fin⟩
end Go.Proofs.YtgdehdfbdjgmdaaGreatDoor
