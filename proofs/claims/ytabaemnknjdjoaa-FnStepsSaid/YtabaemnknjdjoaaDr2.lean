/-
  Walks: rights and frames drawn.
-/
import Derived.Test.YtabaemnknjdjoaaDr
set_option linter.unusedVariables false
namespace Go.Proofs.Ytabaemnknjdjoaa
open Go.RowKit

theorem lit_strs (w : World) (ss : List ByteArray) (t : TypeId) {k : Nat} (hk : k < ss.length) : (w.alloc (.cells (ss.map Value.string).toArray t)).cell? ⟨w.heap.size, k, none⟩ = some (.string (nthS ss k)) := by
  rw [World.cell?_alloc_new]
  simp only [List.getElem?_toArray, List.getElem?_map]
  rw [nthS_lt hk]
  rfl

set_option maxRecDepth 100000 in
set_option maxHeartbeats 2000000 in
theorem l91Right_any {w0 w : World} {g N : Nat} (h : Dr w0 g N w) (hN : N ≤ 900000) :
    Calls Try.prog 68 #[.pointer (some ⟨g, 0, none⟩)] w (DrPost w0 g (N + 2) w fun v => ∃ s, s.size ≤ 8 ∧ v = .string s) := by
  go_enter Try.func68, Try.ntmps68
  go_wp2_with fail
  refine (h.pick _ (by omega) (by decide)).mono ?_; rintro e w1 ⟨x, rfl, hx0, hx1, h1, g1⟩
  by_cases hx : x = 0
  · subst hx
    go_wp2_with fail
    refine (of_any w1.heap.size 4 [⟨#[100]⟩, ⟨#[65]⟩, ⟨#[97, 98, 99, 97, 98]⟩, ⟨#[97, 32, 98]⟩] (h1.alloc _) (by omega) rfl (by decide) (by decide) (by have := h1.lt; omega) (by simp) (fun k hk => lit_strs w1 [⟨#[100]⟩, ⟨#[65]⟩, ⟨#[97, 98, 99, 97, 98]⟩, ⟨#[97, 32, 98]⟩] _ hk)).mono ?_
    rintro e w2 ⟨v, rfl, ⟨s, hs, rfl⟩, h2, g2⟩
    have G := Lib.hid (grown_trans g1 (grown_trans (grown_below (below1 _ _) _) g2))
    have hl : s.size ≤ 8 := by
      simp only [List.mem_cons, List.not_mem_nil, or_false] at hs
      rcases hs with rfl | rfl | rfl | rfl <;> decide
    clear g1 g2 hs
    go_wp2_with fail
    go_ret
    exact ⟨_, rfl, ⟨s, hl, rfl⟩, h2, G.out⟩
  · have t0 : (x == 0) = false := by simp [hx]
    clear hx
    go_wp2_with fail
    refine (of_any w1.heap.size 12 [⟨#[]⟩, ⟨#[97]⟩, ⟨#[98]⟩, ⟨#[99]⟩, ⟨#[97, 98]⟩, ⟨#[97, 97]⟩, ⟨#[97, 98, 99]⟩, ⟨#[98, 97]⟩, ⟨#[98]⟩, ⟨#[97]⟩, ⟨#[97, 98, 99, 97]⟩, ⟨#[97, 99]⟩] (h1.alloc _) (by omega) rfl (by decide) (by decide) (by have := h1.lt; omega) (by simp) (fun k hk => lit_strs w1 [⟨#[]⟩, ⟨#[97]⟩, ⟨#[98]⟩, ⟨#[99]⟩, ⟨#[97, 98]⟩, ⟨#[97, 97]⟩, ⟨#[97, 98, 99]⟩, ⟨#[98, 97]⟩, ⟨#[98]⟩, ⟨#[97]⟩, ⟨#[97, 98, 99, 97]⟩, ⟨#[97, 99]⟩] _ hk)).mono ?_
    rintro e w2 ⟨v, rfl, ⟨s, hs, rfl⟩, h2, g2⟩
    have G := Lib.hid (grown_trans g1 (grown_trans (grown_below (below1 _ _) _) g2))
    have hl : s.size ≤ 8 := by
      simp only [List.mem_cons, List.not_mem_nil, or_false] at hs
      rcases hs with rfl | rfl | rfl | rfl | rfl | rfl | rfl | rfl | rfl | rfl | rfl | rfl <;> decide
    clear g1 g2 hs
    go_wp2_with fail
    go_ret
    exact ⟨_, rfl, ⟨s, hl, rfl⟩, h2, G.out⟩

theorem AtF.info {w : World} {a : Option Addr} {xs : List InfoV} (h : AtF 3 infoCs w a xs) {k : Nat} {x : InfoV} (hk : xs[k]? = some x) : ∃ b off, a = some ⟨b, off, none⟩ ∧ b < w.heap.size ∧ w.cell? ⟨b, off + k * 3, none⟩ = some (.int .i64 x.k) ∧ w.cell? ⟨b, off + k * 3 + 1, none⟩ = some (.string x.g) ∧ w.cell? ⟨b, off + k * 3 + 2, none⟩ = some (.int .i64 x.r) := by
  obtain ⟨b, off, rfl, hlt, hc⟩ := h k x hk
  exact ⟨b, off, rfl, hlt, hc 0 _ rfl, hc 1 _ rfl, hc 2 _ rfl⟩

def Small12 (xs : List Int) : Prop := ∀ x ∈ xs, 0 ≤ x ∧ x < 12

set_option maxRecDepth 100000 in
set_option maxHeartbeats 2000000 in
theorem l92Kind_any {w0 w : World} {g N : Nat} (m i e c : Value) (xs : List InfoV) (kind : Int) (h : Dr w0 g N w) (hN : N ≤ 900000) (hi : RdInfos w i xs) (hl : xs.length ≤ 12) :
    Calls Try.prog 65 #[.pointer (some ⟨g, 0, none⟩), .agg #[m, i, e, c], .int .i64 kind] w (DrPost w0 g (N + 1) w fun v => ∃ x : Int, v = .int .i64 x ∧ 0 ≤ x ∧ x < 12) := by
  obtain ⟨a, cap, rfl, hc, hcm, H0⟩ := RdF.open infoCs_len (by decide) hi
  unfold maxLen at hcm
  clear hi
  go_enter Try.func65, Try.ntmps65
  go_wp2_with fail
  have hb1 := below1 w (.cells #[m, .slice a xs.length cap, e, c] 74)
  have hB1 : (w.alloc (.cells #[m, .slice a xs.length cap, e, c] 74)).heap[w.heap.size]? = some (.cells #[m, .slice a xs.length cap, e, c] 74 (0, 0)) := heap_alloc_new w _
  have hs1 : w.heap.size + 1 = (w.alloc (.cells #[m, .slice a xs.length cap, e, c] 74)).heap.size := by simp
  generalize w.alloc (.cells #[m, .slice a xs.length cap, e, c] 74) = W at hb1 hB1 hs1
  rw [hs1]
  go_loopw [7, 8] (fun o i wr => ∃ k : Nat, ∃ ys : List Int, k ≤ xs.length ∧ ys.length ≤ k ∧ Small12 ys ∧ i = .int .i64 k ∧ OwnInts W.heap.size wr o ys ∧ Below W.heap.size W wr) (fun _ i _ => xs.length - (intOf i).toNat)
  case atStart => exact ⟨0, [], Nat.zero_le _, Nat.zero_le _, fun x hx => (by cases hx), rfl, ownsRow_empty _ _ _, below1 _ _⟩
  case round =>
    obtain ⟨k, ys, hk, hyl, hys, rfl, hown, hbel⟩ := hrel
    have Hys := Lib.hid hys; clear hys
    obtain ⟨c0, c1, c2, c3⟩ := blk_cells4 ((hbel.block _ (by omega)).trans hB1)
    clear c0 c2 c3
    by_cases hlt : k < xs.length
    · obtain ⟨x, hx⟩ : ∃ x, xs[k]? = some x := ⟨_, List.getElem?_eq_getElem hlt⟩
      obtain ⟨b, off, rfl, hbl, D0, _, _⟩ := H0.info hx
      have D : wr.cell? ⟨b, off + k * 3, none⟩ = some (.int .i64 x.k) := ((hb1.trans (hbel.mono hb1.size)).cell (p := ⟨b, off + k * 3, none⟩) hbl).trans D0
      clear D0 hx
      by_cases hkind : x.k = kind
      · have t0 : (x.k == kind) = true := by simp [hkind]
        clear hkind
        have hlo := hbel.size
        go_wp2_with (at_builtin; go_must (refine wp_appendL (lo := W.heap.size) (n := ys.length) (xs := ys.map (Value.int .i64)) (m := 1) (news := [.int .i64 k]) rfl rfl 3 (.int .i64 0) 1 8 Try.underlying30 Try.infoInt rfl (by decide) rfl (ownsRow_below hown (below1 _ _)) rfl (Rd.newsAt _ #[_] _ 1 1 _ (by simp) rfl (by simp [maxLen])) (by simp [Value.oneCell']) (by unfold maxLen; omega) (by omega) (by simp; omega) ?_; intro o' w4 g1 g2 g3 g4))
        go_roundw
        case rel => exact ⟨k + 1, ys ++ [(k : Int)], by omega, by simp; omega, fun y hy => by
            rcases List.mem_append.1 hy with h' | h'
            · exact Hys.out y h'
            · simp at h'; subst h'; omega, by go_num, by simpa [OwnInts] using g1, (hbel.alloc hbel.size _).trans g4⟩
        case measure => simp [intOf]; omega
      · have t0 : (x.k == kind) = false := by simp [hkind]
        clear hkind
        go_wp2_with fail
        go_roundw
        case rel => exact ⟨k + 1, ys, by omega, by omega, Hys.out, by go_num, hown, hbel⟩
        case measure => simp [intOf]; omega
    · have hD : Dr w0 g N wr := (h.below hb1).below hbel
      have hG0 : w.grownBy wr (some g) := grown_below (hb1.trans (hbel.mono hb1.size)) _
      have hgW : g < W.heap.size := Nat.lt_of_lt_of_le h.lt hb1.size
      by_cases hz : ys.length = 0
      · obtain ⟨_, _, rfl, _, _⟩ := (OwnInts.rd hown).open
        have t0 : ((ys.length : Int) == 0) = true := by simp [hz]
        clear hz
        go_wp2_with fail
        refine (hD.pick _ (by omega) (by decide)).mono ?_; rintro e w2 ⟨y, rfl, hy0, hy1, h2, g2⟩
        have hy1 := hy1 (by decide)
        go_wp2_with fail
        go_ret
        exact ⟨_, rfl, ⟨_, rfl, hy0, hy1⟩, h2, grown_trans hG0 g2⟩
      · obtain ⟨q, cq, rfl, hq, hql⟩ := own_shape hown (by omega)
        have t0 : ((ys.length : Int) == 0) = false := by simp [hz]
        have hpos : 0 < ys.length := by omega
        have hcq : ys.length ≤ cq ∧ cq ≤ maxLen := by
          obtain ⟨_, _, he, h1, h2, _⟩ := (OwnInts.rd hown).open
          simp at he
          obtain ⟨_, rfl⟩ := he
          exact ⟨h1, h2⟩
        obtain ⟨hq1, hq2⟩ := hcq
        unfold maxLen at hq2
        clear hz
        go_wp2_with fail
        refine (hD.pick _ (by omega) (by omega)).mono ?_; rintro e w2 ⟨y, rfl, hy0, hy1, h2, g2⟩
        have hy1 := hy1 (by omega)
        obtain ⟨y, rfl⟩ := Int.eq_ofNat_of_zero_le hy0
        have hown2 := own_grown hown g2 (.inr (by simp [Value.ownBlock]; omega))
        have C := (hown2.cellAt y (by omega)).trans (getElem_ints (xs := ys) (by omega))
        have hx := Hys.out (nth ys y) (by rw [nth_eq (by omega)]; exact List.getElem_mem _)
        go_wp2_with fail
        go_ret
        exact ⟨_, rfl, ⟨_, rfl, hx.1, hx.2⟩, h2, grown_trans hG0 g2⟩
end Go.Proofs.Ytabaemnknjdjoaa
