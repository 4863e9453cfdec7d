/-
  Walks: what the reader draws, of one value each.
-/
import Derived.Test.YtabaemnknjdjoaaPick
import Derived.Test.YtabaemnknjdjoaaRight
set_option linter.unusedVariables false
namespace Go.Proofs.Ytabaemnknjdjoaa
open Go.RowKit

/-- The reader lies in block g; what lay in the old world w0 is as it was. -/
def Dr (w0 : World) (g N : Nat) (w : World) : Prop := Reader w0 w (.pointer (some ⟨g, 0, none⟩)) N ∧ Below w0.heap.size w0 w ∧ w0.heap.size ≤ g ∧ g < w.heap.size

theorem Dr.of {w0 w : World} {R : Value} {N : Nat} (h : Reader w0 w R N) (hb : Below w0.heap.size w0 w) : ∃ g, R = .pointer (some ⟨g, 0, none⟩) ∧ Dr w0 g N w := by
  obtain ⟨g, bsv, bs, p, rfl, hg, hblk, hr⟩ := h
  exact ⟨g, rfl, ⟨g, bsv, bs, p, rfl, hg, hblk, hr⟩, hb, hg, (Array.getElem?_eq_some_iff.1 hblk).1⟩
theorem Dr.keep {w0 w w' : World} {g N : Nat} {row : Option Nat} (h : Dr w0 g N w) (hg : w.grownBy w' row) (h1 : row ≠ some g) (h2 : ∀ k, row = some k → w0.heap.size ≤ k) : Dr w0 g N w' := by
  obtain ⟨⟨g', bsv, bs, p, hR, hg', hblk, hr⟩, hb, hlo, hlt⟩ := h
  obtain rfl : g = g' := by simpa using hR
  exact ⟨⟨g, bsv, bs, p, rfl, hg', (hg.block g hlt (fun e => h1 e.symm)).trans hblk, hr⟩, hb.grown hg hb.size h2, hlo, Nat.lt_of_lt_of_le hlt hg.size⟩
theorem Dr.below {w0 w w' : World} {g N : Nat} (h : Dr w0 g N w) (hb : Below w.heap.size w w') : Dr w0 g N w' := h.keep (grown_below hb none) (by simp) (fun k hk => by cases hk)
theorem Dr.alloc {w0 w : World} {g N : Nat} (h : Dr w0 g N w) (o : Obj) : Dr w0 g N (w.alloc o) := h.below (below1 _ _)
theorem Dr.mono {w0 w : World} {g N M : Nat} (h : Dr w0 g N w) (hm : N ≤ M) : Dr w0 g M w := ⟨h.1.mono hm, h.2⟩
theorem Dr.set {w0 w : World} {g N b j : Nat} {u : Value} (h : Dr w0 g N w) (hne : b ≠ g) (hb : w0.heap.size ≤ b) : Dr w0 g N (w.setCell ⟨b, j, none⟩ u) :=
  h.keep (grown_set w b j u) (by simpa using hne) (fun k hk => by cases hk; exact hb)
theorem Dr.lt {w0 w : World} {g N : Nat} (h : Dr w0 g N w) : g < w.heap.size := h.2.2.2

theorem Dr.pick {w0 w : World} {g N : Nat} (n : Int) (h : Dr w0 g N w) (hN : N ≤ 1000000) (hn : n ≤ 1000000) :
    Calls Try.prog 37 #[.pointer (some ⟨g, 0, none⟩), .int .i64 n] w fun e w' => ∃ x : Int, e = .returned (.int .i64 x) ∧ 0 ≤ x ∧ (0 < n → x < n) ∧ Dr w0 g (N + 1) w' ∧ w.grownBy w' (some g) :=
  (pick_any w0 _ N n w h.1 h.2.1 hN hn).mono fun _ _ hp => by
    obtain ⟨x, rfl, ⟨hx1, hx2, hx3⟩, hr, hb1, g1, hg1, hgr⟩ := hp
    obtain rfl : g = g1 := by simpa using hg1
    exact ⟨x, rfl, hx1, hx2, ⟨hr, hb1, h.2.2.1, Nat.lt_of_lt_of_le h.2.2.2 hgr.size⟩, hgr⟩

theorem grown_alloc {w0 w : World} {row : Option Nat} (h : w0.grownBy w row) (o : Obj) : w0.grownBy (w.alloc o) row := grown_trans h (grown_below (below1 _ _) row)
theorem grown_new {w0 w : World} {row : Option Nat} (h : w0.grownBy w row) {b j : Nat} (hb : w0.heap.size ≤ b) (u : Value) : w0.grownBy (w.setCell ⟨b, j, none⟩ u) row :=
  ⟨h.os, h.tape, h.output, by simpa using h.size, fun k hk hne => (heap_setCell_other w ⟨b, j, none⟩ k u (by intro e; simp at e; omega)).trans (h.block k hk hne)⟩

/-- What a draw of one value leaves. -/
def DrPost (w0 : World) (g N : Nat) (w : World) (P : Value → Prop) (e : Ending) (w' : World) : Prop := ∃ v, e = .returned v ∧ P v ∧ Dr w0 g N w' ∧ w.grownBy w' (some g)

set_option maxHeartbeats 1000000 in
theorem of_any {w0 w : World} {g N : Nat} (b n : Nat) (ss : List ByteArray) (h : Dr w0 g N w) (hN : N ≤ 1000000) (hn : ss.length = n) (h0 : 0 < n) (h1 : n ≤ 1000) (hne : b ≠ g) (hb : b < w.heap.size) (hc : ∀ k, k < n → w.cell? ⟨b, k, none⟩ = some (.string (nthS ss k))) :
    Calls Try.prog 63 #[.pointer (some ⟨g, 0, none⟩), .slice (some ⟨b, 0, none⟩) n n] w (DrPost w0 g (N + 1) w fun v => ∃ s, s ∈ ss ∧ v = .string s) := by
  have Hc := Lib.hid hc; clear hc
  have Hn := Lib.hid hn; clear hn
  go_enter Try.func63, Try.ntmps63
  go_wp2_with fail
  refine (h.pick _ hN (by omega)).mono ?_; rintro e w1 ⟨x, rfl, hx0, hx1, h', hgr⟩
  have hx1 := hx1 (by omega)
  obtain ⟨x, rfl⟩ := Int.eq_ofNat_of_zero_le hx0
  have D : w1.cell? ⟨b, x, none⟩ = some (.string (nthS ss x)) := (World.cell?_of_block (hgr.block b hb (by simpa using hne))).trans (Hc.out x (by omega))
  have hx2 : x < n := by omega
  go_wp2_with fail
  go_ret
  exact ⟨_, rfl, ⟨nthS ss x, List.mem_of_getElem? (nthS_lt (by rw [Hn.out]; exact hx2)), rfl⟩, h', hgr⟩

set_option maxHeartbeats 1000000 in
theorem l1Put_any (f : Int) (b : Bool) (w : World) (h0 : 0 ≤ f) (h1 : f ≤ 1000) :
    Calls Try.prog 66 #[.int .i64 f, .bool b] w fun e w' => e = .returned (.int .i64 (if b then 4 * f + 3 else 4 * f + 1)) ∧ w = w' := by
  cases b <;> (go_enter Try.func66, Try.ntmps66; go_wp2_with fail; go_ret; exact ⟨rfl, rfl⟩)

theorem lit_after {w w1 : World} {g : Nat} {vs : Array Value} {t j : Nat} {u : Value} (hgr : (w.alloc (.cells vs t)).grownBy w1 (some g)) (hlt : g < w.heap.size) (hj : vs[j]? = some u) : w1.cell? ⟨w.heap.size, j, none⟩ = some u := by
  refine (World.cell?_of_block (hgr.block w.heap.size (by simp) (by simp; omega))).trans ?_
  rw [World.cell?_alloc_new]
  exact hj

set_option maxHeartbeats 2000000 in
theorem l91Address_any {w0 w : World} {g N : Nat} (h : Dr w0 g N w) (hN : N ≤ 900000) :
    Calls Try.prog 58 #[.pointer (some ⟨g, 0, none⟩)] w (DrPost w0 g (N + 2) w fun v => ∃ x : Int, v = .int .i64 x) := by
  go_enter Try.func58, Try.ntmps58
  go_wp2_with fail
  refine (h.pick _ (by omega) (by decide)).mono ?_; rintro e w1 ⟨x, rfl, hx0, hx1, h1, g1⟩
  by_cases hx : x = 0
  · subst hx
    go_wp2_with fail
    refine ((h1.alloc _).pick _ (by omega) (by decide)).mono ?_; rintro e w2 ⟨y, rfl, hy0, hy1, h2, g2⟩
    have hy1 := hy1 (by decide)
    have c0 := lit_after (j := 0) g2 h1.lt rfl
    have c1 := lit_after (j := 1) g2 h1.lt rfl
    have c2 := lit_after (j := 2) g2 h1.lt rfl
    have G := Lib.hid (grown_trans g1 (grown_trans (grown_below (below1 _ _) _) g2))
    clear g1 g2
    rcases (show y = 0 ∨ y = 1 ∨ y = 2 by omega) with rfl | rfl | rfl
    all_goals
      go_wp2_with fail
      go_ret
      exact ⟨_, rfl, ⟨_, rfl⟩, h2, G.out⟩
  · have t0 : (x == 0) = false := by simp [hx]
    clear hx
    go_wp2_with fail
    refine (h1.pick _ (by omega) (by decide)).mono ?_; rintro e w2 ⟨y, rfl, hy0, hy1, h2, g2⟩
    have G := Lib.hid (grown_trans g1 g2)
    clear g1 g2
    go_wp2_with fail
    go_ret
    exact ⟨_, rfl, ⟨_, rfl⟩, h2, G.out⟩

set_option maxHeartbeats 2000000 in
theorem l91Entry_any {w0 w : World} {g N : Nat} (h : Dr w0 g N w) (hN : N ≤ 900000) :
    Calls Try.prog 67 #[.pointer (some ⟨g, 0, none⟩)] w (DrPost w0 g (N + 3) w fun v => ∃ x : Int, v = .int .i64 x ∧ -1 ≤ x ∧ x ≤ 9999) := by
  go_enter Try.func67, Try.ntmps67
  go_wp2_with fail
  refine (h.pick _ (by omega) (by decide)).mono ?_; rintro e w1 ⟨x, rfl, hx0, hx1, h1, g1⟩
  have hx1 := hx1 (by decide)
  by_cases hx : x = 0
  · subst hx
    go_wp2_with fail
    go_ret
    exact ⟨_, rfl, ⟨0, rfl, by decide, by decide⟩, h1.mono (by omega), g1⟩
  by_cases hx' : x = 1
  · subst hx'
    go_wp2_with fail
    go_ret
    exact ⟨_, rfl, ⟨0, rfl, by decide, by decide⟩, h1.mono (by omega), g1⟩
  by_cases hx2 : x = 2
  · subst hx2
    clear hx hx'
    go_wp2_with fail
    refine ((h1.alloc _).pick _ (by omega) (by decide)).mono ?_; rintro e w2 ⟨y, rfl, hy0, hy1, h2, g2⟩
    have hy1 := hy1 (by decide)
    have c0 := lit_after (j := 0) g2 h1.lt rfl
    have c1 := lit_after (j := 1) g2 h1.lt rfl
    have c2 := lit_after (j := 2) g2 h1.lt rfl
    have c3 := lit_after (j := 3) g2 h1.lt rfl
    have c4 := lit_after (j := 4) g2 h1.lt rfl
    have c5 := lit_after (j := 5) g2 h1.lt rfl
    have c6 := lit_after (j := 6) g2 h1.lt rfl
    have G := Lib.hid (grown_trans g1 (grown_trans (grown_below (below1 _ _) _) g2))
    clear g1 g2
    rcases (show y = 0 ∨ y = 1 ∨ y = 2 ∨ y = 3 ∨ y = 4 ∨ y = 5 ∨ y = 6 by omega) with rfl | rfl | rfl | rfl | rfl | rfl | rfl
    all_goals
      go_wp2_with fail
      go_ret
      exact ⟨_, rfl, ⟨_, rfl, by decide, by decide⟩, h2.mono (by omega), G.out⟩
  · have t0 : (x == 0) = false := by simp [hx]
    have t1 : (x == 1) = false := by simp [hx']
    have t2 : (x == 2) = false := by simp [hx2]
    clear hx hx' hx2
    go_wp2_with fail
    refine (h1.pick _ (by omega) (by decide)).mono ?_; rintro e w2 ⟨y, rfl, hy0, hy1, h2, g2⟩
    have hy1 := hy1 (by decide)
    go_wp2_with fail
    refine (h2.pick _ (by omega) (by decide)).mono ?_; rintro e w3 ⟨z, rfl, hz0, hz1, h3, g3⟩
    have hz1 := hz1 (by decide)
    have G := Lib.hid (grown_trans (grown_trans g1 g2) g3)
    clear g1 g2 g3
    go_wp2_with fail
    go_ret
    exact ⟨_, rfl, ⟨_, rfl, by omega, by omega⟩, h3.mono (by omega), G.out⟩
end Go.Proofs.Ytabaemnknjdjoaa
