/-
  Walks of the readers that draw pages: what they leave is some slice of numbers, in new memory.
-/
import Derived.Test.YtabaemnknjdjoaaPack3
import Derived.Deep.DeepCutAuto
namespace Go.Proofs.Ytabaemnknjdjoaa
open Go.RowKit

/-- What a drawn slice of numbers is: in new memory, at most L long. -/
def DrawnInts (w0 w : World) (R : Value) (N L : Nat) (e : Ending) (w' : World) : Prop :=
  ∃ v xs, e = .returned v ∧ OwnInts w.heap.size w' v xs ∧ xs.length ≤ L ∧ Reader w0 w' R N ∧ Below w0.heap.size w0 w' ∧ w.heap.size ≤ w'.heap.size

theorem OwnInts.take {lo : Nat} {w : World} {a : Option Addr} {c : Nat} {xs : List Int} (h : OwnInts lo w (.slice a xs.length c) xs) (k : Nat) (hk : k ≤ xs.length) : OwnInts lo w (.slice a k c) (xs.take k) := by
  have e : (xs.take k).length = k := by rw [List.length_take]; omega
  unfold OwnInts at h ⊢
  rw [e]
  obtain ⟨h1, h2⟩ := h
  refine ⟨by simp; omega, ?_⟩
  rcases h2 with ⟨h3, h4⟩ | ⟨g, cap, cur, h3, hb, hg, hnc, hcm, hcs, htake⟩
  · simp only [Value.slice.injEq] at h3
    obtain ⟨rfl, hl, rfl⟩ := h3
    exact .inl ⟨by simp; omega, by omega⟩
  · simp only [Value.slice.injEq, true_and] at h3
    obtain ⟨rfl, rfl⟩ := h3
    refine .inr ⟨g, c, cur, rfl, hb, hg, by omega, hcm, hcs, ?_⟩
    rw [List.map_take, ← htake, List.take_take]
    congr 1
    omega

theorem lit_cell {w w' : World} {g : Nat} {vs : Array Value} {t : TypeId} {z : Nat} {x : Value} (h : (w.alloc (.cells vs t)).grownBy w' (some g)) (hg : g < w.heap.size) (hz : vs[z]? = some x) : w'.cell? ⟨w.heap.size, z, none⟩ = some x :=
  h.cell (by simpa [World.cell?_alloc_new] using hz) (by simp; omega)

set_option maxHeartbeats 4000000 in
theorem l93Words_any (w0 : World) (R : Value) (N : Nat) (w : World) (h : Reader w0 w R N) (hb : Below w0.heap.size w0 w) (hN : N ≤ 900000) :
    Calls Try.prog 36 #[R] w (DrawnInts w0 w R (N + 30) 5) := by
  obtain ⟨g, hR, hlt⟩ := h.lt
  subst hR
  have hsz0 := hb.size
  have D : Drawing w0 w.heap.size g N (.slice (some ⟨w.heap.size, 0, none⟩) 0 0) [] (w.alloc (.cells #[] 3)) :=
    ⟨hlt, by simp, hsz0, h.keep ((Below.refl _ _).alloc (Nat.le_refl _) _), hb.alloc hsz0 _, ownsRow_empty _ _ _⟩
  clear h
  go_enter Try.func36, Try.ntmps36
  go_wp2_with fail
  go_loopw [3, 4] (fun o i wr => ∃ t : Nat, ∃ xs : List Int, t ≤ 4 ∧ xs.length = t ∧ i = .int .i64 t ∧ Drawing w0 w.heap.size g (N + 2 * t) o xs wr) (fun _ i _ => 4 - (intOf i).toNat)
  case atStart => exact ⟨0, [], Nat.zero_le _, rfl, rfl, D⟩
  case round =>
    clear D
    obtain ⟨t, xs, ht, hl, rfl, hd⟩ := hrel
    have Hl := Lib.hid hl; clear hl
    by_cases hlt : t < 4
    · go_wp2_with fail
      refine (hd.pickable (by omega) (by decide)).mono ?_; rintro e w1 ⟨x, rfl, hx1, hx2, hd, hgr⟩; have hx2 := hx2 (by decide)
      go_wp2_with fail
      refine (hd.pickable (by omega) (by decide)).mono ?_; rintro e w1 ⟨y, rfl, hy1, hy2, hd, hgr⟩; have hy2 := hy2 (by decide)
      have hm0 : 0 ≤ x * y := Int.mul_nonneg hx1 hy1
      have hm1 : x * y ≤ 6 := by
        have := Int.mul_le_mul (show x ≤ 2 by omega) (show y ≤ 3 by omega) hy1 (by omega)
        omega
      generalize hm : x * y = m at hm0 hm1
      have Hm := Lib.hid hm
      go_wp2_with (refine wp_append (lo := w.heap.size) (n := xs.length) (xs := xs.map (Value.int .i64)) (m := 1) (news := [.int .i64 m]) rfl rfl 3 (.int .i64 0) 1 8 Try.underlying30 Try.infoInt rfl (by decide) rfl (hd.alloc _).2.2.2.2.2 rfl (Rd.news _ #[_] _ 1 1 rfl (by simp [maxLen])) (by simp [Value.oneCell']) (by unfold maxLen; have := Hl.out; omega) (by have := Hl.out; omega) (hd.alloc _).2.1 ?_; intro v' w2 hown' _ hbel')
      go_roundw
      case rel => exact ⟨t + 1, xs ++ [m], by omega, by rw [List.length_append, Hl.out]; rfl, by go_num, ((hd.alloc _).append hbel' hown').mono (by omega)⟩
      case measure => simp [intOf]; omega
    · obtain rfl : t = 4 := by omega
      have hl4 := Hl.out
      clear Hl hlt
      obtain ⟨q, cap, rfl, hq, _⟩ := own_shape hd.2.2.2.2.2 (by omega)
      obtain ⟨_, _, he, hcap, hcapm, _⟩ := hd.2.2.2.2.2.rd.open
      simp only [Value.slice.injEq, true_and] at he
      obtain ⟨rfl, rfl⟩ := he
      have Hl := Lib.hid hl4
      unfold maxLen at hcapm
      have hxl : xs.length ≤ 4 ∧ 4 ≤ xs.length := by omega
      clear hl4
      go_wp2_with fail
      refine (hd.pickable (by omega) (by decide)).mono ?_; rintro e w1 ⟨x, rfl, hx1, hx2, hd, hgr⟩; have hx2 := hx2 (by decide)
      by_cases h0 : x = 0
      · subst h0
        go_wp2_with fail
        refine (hd.pickable (by omega) (by decide)).mono ?_; rintro e w2 ⟨y, rfl, hy1, hy2, hd, hgr⟩; have hy2 := hy2 (by decide)
        obtain ⟨y, rfl⟩ := Int.eq_ofNat_of_zero_le hy1
        go_wp2_with fail
        refine ((hd.alloc _).pickable (by omega) (by decide)).mono ?_; rintro e w3 ⟨z, rfl, hz1, hz2, hd3, hgr3⟩; have hz2 := hz2 (by decide)
        have hgq : g < w2.heap.size := Nat.lt_of_lt_of_le hd.1 hd.2.1
        have c0 : w3.cell? ⟨w2.heap.size, 0, none⟩ = some (.int .i64 (-1)) := hgr3.cell (by simp [World.cell?_alloc_new]) (by simp; omega)
        have c1 : w3.cell? ⟨w2.heap.size, 1, none⟩ = some (.int .i64 9999) := hgr3.cell (by simp [World.cell?_alloc_new]) (by simp; omega)
        have c2 : w3.cell? ⟨w2.heap.size, 2, none⟩ = some (.int .i64 10000) := hgr3.cell (by simp [World.cell?_alloc_new]) (by simp; omega)
        have C := (World.ownsRow.cellAt hd3.2.2.2.2.2 y (by omega)).trans (getElem_ints (xs := xs) (by omega))
        have Fr := World.ownsRow.frozenAt hd3.2.2.2.2.2 y
        rcases (show z = 0 ∨ z = 1 ∨ z = 2 by omega) with rfl | rfl | rfl
        · go_wp2_with fail
          go_ret
          have hd4 := Drawing.set (a := y) (x := (-1)) hd3
          exact ⟨_, xs.set y (-1), rfl, by rw [OwnInts, List.length_set]; have := hd4.2.2.2.2.2; rw [OwnInts, List.length_set] at this; exact this, by rw [List.length_set]; omega, hd4.2.2.2.1.mono (by omega), hd4.2.2.2.2.1, hd4.2.1⟩
        · go_wp2_with fail
          go_ret
          have hd4 := Drawing.set (a := y) (x := 9999) hd3
          exact ⟨_, xs.set y 9999, rfl, by rw [OwnInts, List.length_set]; have := hd4.2.2.2.2.2; rw [OwnInts, List.length_set] at this; exact this, by rw [List.length_set]; omega, hd4.2.2.2.1.mono (by omega), hd4.2.2.2.2.1, hd4.2.1⟩
        · go_wp2_with fail
          go_ret
          have hd4 := Drawing.set (a := y) (x := 10000) hd3
          exact ⟨_, xs.set y 10000, rfl, by rw [OwnInts, List.length_set]; have := hd4.2.2.2.2.2; rw [OwnInts, List.length_set] at this; exact this, by rw [List.length_set]; omega, hd4.2.2.2.1.mono (by omega), hd4.2.2.2.2.1, hd4.2.1⟩
      · by_cases h1 : x = 1
        · subst h1
          go_wp2_with fail
          refine (hd.pickable (by omega) (by decide)).mono ?_; rintro e w2 ⟨y, rfl, hy1, hy2, hd, hgr⟩; have hy2 := hy2 (by decide)
          obtain ⟨y, rfl⟩ := Int.eq_ofNat_of_zero_le hy1
          have hyc : y ≤ cap := by omega
          go_wp2_with fail
          go_ret
          exact ⟨_, xs.take y, rfl, OwnInts.take hd.2.2.2.2.2 y (by omega), by simp; omega, hd.2.2.2.1.mono (by omega), hd.2.2.2.2.1, hd.2.1⟩
        · by_cases h2 : x = 2
          · subst h2
            go_wp2_with (refine wp_append (lo := w.heap.size) (n := xs.length) (xs := xs.map (Value.int .i64)) (m := 1) (news := [.int .i64 1]) rfl rfl 3 (.int .i64 0) 1 8 Try.underlying30 Try.infoInt rfl (by decide) rfl (hd.alloc _).2.2.2.2.2 rfl (Rd.news _ #[_] _ 1 1 rfl (by simp [maxLen])) (by simp [Value.oneCell']) (by unfold maxLen; omega) (by omega) (hd.alloc _).2.1 ?_; intro v' w2 hown' _ hbel')
            go_ret
            have hd5 := (hd.alloc _).append hbel' hown'
            exact ⟨_, _, rfl, hd5.2.2.2.2.2, by simp; omega, hd5.2.2.2.1.mono (by omega), hd5.2.2.2.2.1, hd5.2.1⟩
          · have t0 : (x == 0) = false := by simp [h0]
            have t1 : (x == 1) = false := by simp [h1]
            have t2 : (x == 2) = false := by simp [h2]
            clear h0 h1 h2
            go_wp2_with fail
            go_ret
            exact ⟨_, xs, rfl, hd.2.2.2.2.2, by omega, hd.2.2.2.1.mono (by omega), hd.2.2.2.2.1, hd.2.1⟩
theorem packL_len (xs : List Int) : (packL xs).length ≤ 8 := by
  unfold packL
  split
  · exact (pack_len 4).1
  · simp

/-- What a drawn page of pairs is. -/
def DrawnNew (w : World) (L : Nat) (e : Ending) (w' : World) : Prop := ∃ v xs, e = .returned v ∧ OwnInts w.heap.size w' v xs ∧ xs.length ≤ L ∧ Below w.heap.size w w'

theorem DrawnNew.of {w w' : World} {lo g N L : Nat} {v : Value} {xs : List Int} (hd : Drawing w lo g N v xs w') (hl : xs.length ≤ L) (hlo : w.heap.size ≤ lo) : DrawnNew w L (.returned v) w' :=
  ⟨v, xs, rfl, own_lo hd.2.2.2.2.2 hlo, hl, hd.2.2.2.2.1⟩

set_option maxHeartbeats 4000000 in
theorem DrawPageUnpack_any (v : Value) (bs : List Int) (w : World) (h : RdBytes w v bs) :
    Calls Try.prog 14 #[v] w (DrawnNew w 10) := by
  go_enter Try.func14, Try.ntmps14
  go_wp2_with fail
  refine (l6Open_any _ bs _ h).mono ?_; rintro e w1 ⟨R, rfl, hr, hb⟩
  go_wp2_with fail
  refine (l93Words_any w R 0 w1 hr hb (by decide)).mono ?_; rintro e w2 ⟨v2, xs, rfl, ho2, hl2, hr2, hb2, hs2⟩
  go_wp2_with fail
  refine (PagePack_spec _ xs _ ho2.rd).mono ?_; rintro e w3 ⟨v3, rfl, ho3, hb3⟩
  obtain ⟨g, rfl, hg⟩ := hr2.lt
  have D : Drawing w w2.heap.size g 30 v3 (packL xs) w3 := ⟨hg, hb3.size, hb2.size, hr2.keep hb3, hb2.trans (hb3.mono hb2.size), ho3⟩
  have hlo := hb2.size
  have hL := packL_len xs
  clear hr hr2 ho2 ho3
  generalize packL xs = ps at D hL
  by_cases h0 : ps.length = 0
  · obtain ⟨a, c, rfl, _, _, _⟩ := D.2.2.2.2.2.rd.open
    have h0' : ¬ (0 : Int) < ps.length := by omega
    have S := Lib.hid (DrawnNew.of (L := 10) D (by omega) hlo)
    clear h0 hL
    go_wp2_with fail
    go_ret
    exact S.out
  obtain ⟨q, cap, rfl, hq, _⟩ := own_shape D.2.2.2.2.2 (by omega)
  have h0' : (0 : Int) < ps.length := by omega
  go_wp2_with fail
  refine (D.pickable (by omega) (by decide)).mono ?_; rintro e w4 ⟨x, rfl, hx1, hx2, hd, hgr⟩; have hx2 := hx2 (by decide)
  by_cases hx : x = 0
  · subst hx
    go_wp2_with fail
    refine (hd.pickable (by omega) (by omega)).mono ?_; rintro e w5 ⟨k, rfl, hk1, hk2, hd, hgr⟩; have hk2 := hk2 (by omega)
    obtain ⟨k, rfl⟩ := Int.eq_ofNat_of_zero_le hk1
    go_wp2_with fail
    refine (hd.pickable (by omega) (by decide)).mono ?_; rintro e w6 ⟨z, rfl, hz1, hz2, hd, hgr⟩; have hz2 := hz2 (by decide)
    rcases (show z = 0 ∨ z = 1 ∨ z = 2 by omega) with rfl | rfl | rfl
    · go_wp2_with fail
      refine (hd.pickable (by omega) (by decide)).mono ?_; rintro e w7 ⟨y, rfl, hy1, hy2, hd, hgr⟩
      have C := (World.ownsRow.cellAt hd.2.2.2.2.2 k (by omega)).trans (getElem_ints (xs := ps) (by omega))
      have Fr := World.ownsRow.frozenAt hd.2.2.2.2.2 k
      have hk' : k < ps.length := by omega
      go_wp2_with fail
      go_ret
      have hd4 := Drawing.set (a := k) (x := y) hd
      exact DrawnNew.of hd4 (by rw [List.length_set]; omega) hlo
    · go_wp2_with (refine wp_append (lo := w2.heap.size) (n := ps.length) (xs := ps.map (Value.int .i64)) (m := 1) (news := [.int .i64 1]) rfl rfl 3 (.int .i64 0) 1 8 Try.underlying30 Try.infoInt rfl (by decide) rfl (hd.alloc _).2.2.2.2.2 rfl (Rd.news _ #[_] _ 1 1 rfl (by simp [maxLen])) (by simp [Value.oneCell']) (by unfold maxLen; omega) (by omega) (hd.alloc _).2.1 ?_; intro v' w9 hown' _ hbel')
      go_ret
      exact DrawnNew.of ((hd.alloc _).append hbel' hown') (by simp; omega) hlo
    · go_wp2_with (refine wp_append (lo := w2.heap.size) (n := ps.length) (xs := ps.map (Value.int .i64)) (m := 2) (news := [.int .i64 1, .int .i64 5]) rfl rfl 3 (.int .i64 0) 1 8 Try.underlying30 Try.infoInt rfl (by decide) rfl (hd.alloc _).2.2.2.2.2 rfl (Rd.news _ #[_, _] _ 1 2 rfl (by simp [maxLen])) (by simp [Value.oneCell']) (by unfold maxLen; omega) (by omega) (hd.alloc _).2.1 ?_; intro v' w9 hown' _ hbel')
      go_ret
      obtain ⟨e1, e2, e3, e4, e5, e6⟩ := hd.alloc (.cells #[.int .i64 1, .int .i64 5] 3)
      refine ⟨_, ps ++ [1, 5], rfl, own_lo (lo := w2.heap.size) ?_ hlo, by simp; omega, e5.trans (hbel'.mono e3)⟩
      simpa [OwnInts] using hown'
  · have hx' : (x == 0) = false := by simp [hx]
    go_wp2_with fail
    go_ret
    exact DrawnNew.of hd (by omega) hlo
end Go.Proofs.Ytabaemnknjdjoaa
