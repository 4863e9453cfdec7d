/-
  Walks of the draws of slices and their further arguments.
-/
import Derived.Test.YtpkbfkolllcjgaaDraw2
import Derived.Deep.RegionWith
namespace Go.Proofs.Ytpkbfkolllcjgaa
open Go.RowKit

def DrawnOne (w : World) (e : Ending) (w' : World) : Prop :=
  ∃ v xs a, e = .returned (.tuple #[v, .int .i64 a]) ∧ OwnInts w.heap.size w' v xs ∧ xs.length ≤ 11 ∧ Below w.heap.size w w'
def DrawnTwo (w : World) (e : Ending) (w' : World) : Prop :=
  ∃ v xs a b, e = .returned (.tuple #[v, .int .i64 a, .int .i64 b]) ∧ OwnInts w.heap.size w' v xs ∧ xs.length ≤ 11 ∧ Below w.heap.size w w'
theorem own_lo {lo lo' : Nat} {w : World} {v : Value} {xs : List Int} (h : OwnInts lo w v xs) (hl : lo' ≤ lo) : OwnInts lo' w v xs := by
  refine ⟨h.1, ?_⟩
  rcases h.2 with h' | ⟨g, cap, cur, rfl, hb, rest⟩
  · exact .inl h'
  · exact .inr ⟨g, cap, cur, rfl, Nat.le_trans hl hb, rest⟩

set_option maxHeartbeats 1000000 in
theorem DrawSlicesNext_any (v : Value) (bs : List Int) (w : World) (h : RdBytes w v bs) : Calls Try.prog 28 #[v] w (DrawnOne w) := by
  go_enter Try.func28, Try.ntmps28
  go_wp2_with fail
  refine (l6Open_any _ bs _ h).mono ?_; rintro e w1 ⟨R, rfl, hR, hb1⟩
  obtain ⟨g, rfl, hg⟩ := hR.lt
  go_wp2_with fail
  refine (l93Slices_any w _ 0 _ hR hb1 (by decide)).mono ?_; rintro e w2 ⟨v2, xs, rfl, ho, hl, hr, hb2, hs2⟩
  have hd : Drawing w w1.heap.size g 100 v2 xs w2 := ⟨hg, hs2, hb1.size, hr, hb2, ho⟩
  have hb1s := hb1.size
  obtain ⟨ao, co, rfl, hc1, hc2, _⟩ := ho.rd.open
  clear hr ho
  go_wp2_with fail
  refine (Drawing.pickable (by assumption) (by omega) (by omega)).mono ?_; rintro e w3 ⟨x, rfl, x1, x2, hd, hgr⟩; have x2 := x2 (by omega)
  go_wp2_with fail
  refine (Drawing.pickable (by assumption) (by omega) (by omega)).mono ?_; rintro e w3 ⟨y, rfl, y1, y2, hd, hgr⟩; have y2 := y2 (by omega)
  go_wp2_with fail
  go_ret2
  exact ⟨_, xs, _, rfl, own_lo hd.2.2.2.2.2 hb1s, hl, hd.2.2.2.2.1⟩

set_option maxHeartbeats 1000000 in
theorem DrawSlicesWait_any (v : Value) (bs : List Int) (w : World) (h : RdBytes w v bs) : Calls Try.prog 29 #[v] w (DrawnOne w) := by
  go_enter Try.func29, Try.ntmps29
  go_wp2_with fail
  refine (l6Open_any _ bs _ h).mono ?_; rintro e w1 ⟨R, rfl, hR, hb1⟩
  obtain ⟨g, rfl, hg⟩ := hR.lt
  go_wp2_with fail
  refine (l93Slices_any w _ 0 _ hR hb1 (by decide)).mono ?_; rintro e w2 ⟨v2, xs, rfl, ho, hl, hr, hb2, hs2⟩
  have hd : Drawing w w1.heap.size g 100 v2 xs w2 := ⟨hg, hs2, hb1.size, hr, hb2, ho⟩
  have hb1s := hb1.size
  obtain ⟨ao, co, rfl, hc1, hc2, _⟩ := ho.rd.open
  clear hr ho
  go_wp2_with fail
  refine (Drawing.pickable (by assumption) (by omega) (by omega)).mono ?_; rintro e w3 ⟨x, rfl, x1, x2, hd, hgr⟩; have x2 := x2 (by omega)
  go_wp2_with fail
  refine (Drawing.pickable (by assumption) (by omega) (by omega)).mono ?_; rintro e w3 ⟨y, rfl, y1, y2, hd, hgr⟩; have y2 := y2 (by omega)
  go_wp2_with fail
  go_ret2
  exact ⟨_, xs, _, rfl, own_lo hd.2.2.2.2.2 hb1s, hl, hd.2.2.2.2.1⟩

set_option maxHeartbeats 1000000 in
theorem DrawSlicesGive_any (v : Value) (bs : List Int) (w : World) (h : RdBytes w v bs) : Calls Try.prog 33 #[v] w (DrawnTwo w) := by
  go_enter Try.func33, Try.ntmps33
  go_wp2_with fail
  refine (l6Open_any _ bs _ h).mono ?_; rintro e w1 ⟨R, rfl, hR, hb1⟩
  obtain ⟨g, rfl, hg⟩ := hR.lt
  go_wp2_with fail
  refine (l93Slices_any w _ 0 _ hR hb1 (by decide)).mono ?_; rintro e w2 ⟨v2, xs, rfl, ho, hl, hr, hb2, hs2⟩
  have hd : Drawing w w1.heap.size g 100 v2 xs w2 := ⟨hg, hs2, hb1.size, hr, hb2, ho⟩
  have hb1s := hb1.size
  obtain ⟨ao, co, rfl, hc1, hc2, _⟩ := ho.rd.open
  clear hr ho
  go_wp2_with fail
  refine (Drawing.pickable (by assumption) (by omega) (by omega)).mono ?_; rintro e w3 ⟨x, rfl, x1, x2, hd, hgr⟩; have x2 := x2 (by omega)
  go_wp2_with fail
  refine (Drawing.pickable (by assumption) (by omega) (by omega)).mono ?_; rintro e w3 ⟨y, rfl, y1, y2, hd, hgr⟩; have y2 := y2 (by omega)
  go_wp2_with fail
  refine (Drawing.pickable (by assumption) (by omega) (by omega)).mono ?_; rintro e w3 ⟨z, rfl, z1, z2, hd, hgr⟩; have z2 := z2 (by omega)
  go_wp2_with fail
  go_ret3
  exact ⟨_, xs, _, _, rfl, own_lo hd.2.2.2.2.2 hb1s, hl, hd.2.2.2.2.1⟩

theorem DrawnTwo.of {w w' : World} {lo g N : Nat} {v : Value} {xs : List Int} {a b : Int} (hd : Drawing w lo g N v xs w') (hl : xs.length ≤ 11) (hlo : w.heap.size ≤ lo) : DrawnTwo w (.returned (.tuple #[v, .int .i64 a, .int .i64 b])) w' :=
  ⟨_, xs, _, _, rfl, own_lo hd.2.2.2.2.2 hlo, hl, hd.2.2.2.2.1⟩
theorem lit3 (w : World) (a b c : Int) (z : Nat) (hz : z < 3) (t : TypeId) : (w.alloc (.cells #[.int .i64 a, .int .i64 b, .int .i64 c] t)).cell? ⟨w.heap.size, z, none⟩ = some (.int .i64 (nth [a, b, c] z)) := by
  match z, hz with
  | 0, _ => simp [World.cell?_alloc_new, nth]
  | 1, _ => simp [World.cell?_alloc_new, nth]
  | 2, _ => simp [World.cell?_alloc_new, nth]
theorem lit3d (w : World) (a b c : Int) (z : Nat) (hz : z < 3) (t : TypeId) : ((w.alloc (.cells #[.int .i64 a, .int .i64 b, .int .i64 c] t)).drew).cell? ⟨w.heap.size, z, none⟩ = some (.int .i64 (nth [a, b, c] z)) := lit3 w a b c z hz t

set_option maxHeartbeats 2000000 in
theorem DrawSlicesRun_any (v : Value) (bs : List Int) (w : World) (h : RdBytes w v bs) : Calls Try.prog 35 #[v] w (DrawnTwo w) := by
  go_enter Try.func35, Try.ntmps35
  go_wp2_with fail
  refine (l6Open_any _ bs _ h).mono ?_; rintro e w1 ⟨R, rfl, hR, hb1⟩
  obtain ⟨g, rfl, hg⟩ := hR.lt
  go_wp2_with fail
  refine (l93Slices_any w _ 0 _ hR hb1 (by decide)).mono ?_; rintro e w2 ⟨v2, xs, rfl, ho, hl, hr, hb2, hs2⟩
  have hd : Drawing w w1.heap.size g 100 v2 xs w2 := ⟨hg, hs2, hb1.size, hr, hb2, ho⟩
  have hb1s := hb1.size
  obtain ⟨ao, co, rfl, hc1, hc2, _⟩ := ho.rd.open
  clear hr ho
  go_wp2_with fail
  refine (Drawing.pickable (by assumption) (by omega) (by omega)).mono ?_; rintro e w3 ⟨x, rfl, x1, x2, hd, hgr⟩; have x2 := x2 (by omega)
  go_wp2_with fail
  refine (Drawing.pickable (by assumption) (by omega) (by omega)).mono ?_; rintro e w3 ⟨y, rfl, y1, y2, hd, hgr⟩; have y2 := y2 (by omega)
  by_cases hy : y = 0
  · subst hy
    go_wp2_with fail
    go_region_with (go_at_call 46; refine (Drawing.pickable (hd.step (by first | exact (Below.refl _ _).drew | exact ((Below.refl _ _).alloc (Nat.le_refl _) _).drew)) (by omega) (by decide)).mono ?_; rintro e w4 ⟨z, rfl, hz1, hz2, hd4, hgr4⟩; have hz2 := hz2 (by decide); obtain ⟨z, rfl⟩ := Int.eq_ofNat_of_zero_le hz1; have cz := fun W => lit3 W (-1) 100 101 z (by omega) 3; first | (have c1 := hgr4.cell (lit3d w3 (-1) 100 101 z (by omega) 3) (by have := hd.1; have := hd.2.1; simp; omega)) | skip)
    all_goals
      go_wp2_with fail
      go_ret3
      first | exact DrawnTwo.of hd4 hl hb1s | exact DrawnTwo.of (hd4.alloc _) hl hb1s
  · have hy' : (y == 0) = false := by simp [hy]
    go_wp2_with fail
    refine (Drawing.pickable (by assumption) (by omega) (by omega)).mono ?_; rintro e w3 ⟨z, rfl, z1, z2, hd, hgr⟩; have z2 := z2 (by omega)
    go_wp2_with fail
    go_ret3
    exact ⟨_, xs, _, _, rfl, own_lo hd.2.2.2.2.2 hb1s, hl, hd.2.2.2.2.1⟩
end Go.Proofs.Ytpkbfkolllcjgaa
