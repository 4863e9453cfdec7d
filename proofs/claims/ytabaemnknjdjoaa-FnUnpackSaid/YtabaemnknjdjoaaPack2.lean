/-
  Walks: pages packed as pairs.
-/
import Derived.Test.YtabaemnknjdjoaaPack1
namespace Go.Proofs.Ytabaemnknjdjoaa
open Go.RowKit

def PackedOk (w : World) (xs : List Int) (e : Ending) (w' : World) : Prop := ∃ v', e = .returned (.tuple #[v', .bool (wordsOk xs)]) ∧ OwnInts w.heap.size w' v' (packL xs) ∧ Below w.heap.size w w'

theorem packL_yes {xs : List Int} (h : wordsOk xs = true) : packL xs = packTo xs 4 := by rw [packL, if_pos h]
theorem packL_no {xs : List Int} (h : wordsOk xs = false) : packL xs = [] := by rw [packL, if_neg (by simp [h])]
theorem PackedOk.no {w w' : World} {xs : List Int} {v : Value} (h : wordsOk xs = false) (ho : OwnInts w.heap.size w' v []) (hb : Below w.heap.size w w') : PackedOk w xs (.returned (.tuple #[v, .bool false])) w' :=
  ⟨v, by rw [h], by rw [packL_no h]; exact ho, hb⟩
theorem PackedOk.yes {w w' : World} {xs : List Int} {v : Value} (h : wordsOk xs = true) (ho : OwnInts w.heap.size w' v (packTo xs 4)) (hb : Below w.heap.size w w') : PackedOk w xs (.returned (.tuple #[v, .bool true])) w' :=
  ⟨v, by rw [h], by rw [packL_yes h]; exact ho, hb⟩

set_option maxHeartbeats 400000 in
theorem PagePack_impl (v : Value) (xs : List Int) (w : World) (h : RdInts w v xs) :
    Calls Try.prog 18 #[v] w (PackedOk w xs) := by
  obtain ⟨a, c, hv, hc, hcm, H0⟩ := h.open
  subst hv
  unfold maxLen at hcm
  cases hok : wordsOk xs
  · have own0 : OwnInts w.heap.size w (.slice none 0 0) [] := World.ownsRow_nil _ _ _ _
    have S := Lib.hid (PackedOk.no (w := w) hok own0 (Below.refl _ _))
    clear own0
    have Hok := Lib.hid hok; clear hok H0
    go_enter Try.func18, Try.ntmps18
    go_wp2_with (go_at_call 41; refine (isWords_any _ xs _ h).mono ?_; rintro e w' ⟨rfl, rfl⟩; rw [Hok.out])
    go_ret2
    exact S.out
  · have Hl4 := Lib.hid (wordsOk_len hok)
    have S := Lib.hid (fun w' v' => PackedOk.yes (w := w) (w' := w') (v := v') hok)
    have Hok := Lib.hid hok; clear hok
    go_enter Try.func18, Try.ntmps18
    go_wp2_with (go_at_call 41; refine (isWords_any _ xs _ h).mono ?_; rintro e w' ⟨rfl, rfl⟩; rw [Hok.out])
    go_loopw [4, 12] (fun o i wr => ∃ k : Nat, k ≤ xs.length ∧ i = .int .i64 k ∧ OwnInts w.heap.size wr o (packTo xs k) ∧ Below w.heap.size w wr) (fun _ i _ => xs.length - (intOf i).toNat)
    case atStart => exact ⟨0, Nat.zero_le _, rfl, World.ownsRow_nil _ _ _ _, Below.refl _ _⟩
    case round =>
      obtain ⟨k, hk, rfl, hown, hbel⟩ := hrel
      by_cases hlt : k < xs.length
      · obtain ⟨b, off, rfl, D0⟩ := H0.at hlt
        have D : wr.cell? ⟨b, off + k, none⟩ = some (.int .i64 (nth xs k)) := (hbel.cell (World.block_lt_of_cell? w _ D0)).trans D0
        by_cases hsame : 0 < k ∧ nth xs (k - 1) = nth xs k
        · obtain ⟨q, rfl⟩ : ∃ q, k = q + 1 := ⟨k - 1, by omega⟩
          have D1 : wr.cell? ⟨b, off + q, none⟩ = some (.int .i64 (nth xs q)) := by
            obtain ⟨b', off', e, D1⟩ := H0.at (k := q) (by omega)
            obtain ⟨rfl, rfl⟩ : b = b' ∧ off = off' := by simpa using e
            exact (hbel.cell (World.block_lt_of_cell? w _ D1)).trans D1
          rw [Nat.add_sub_cancel] at hsame
          have he := hsame.2
          obtain ⟨f1, f2, f3, f4⟩ := pack_facts (xs := xs) (k := q + 1) (by omega)
          have P2 := Lib.hid (pack_same (xs := xs) (k := q + 1) (by omega) hsame.2)
          clear hsame D0
          obtain ⟨g, cap, rfl, hg, hg2⟩ := own_shape hown (by omega)
          obtain ⟨m, hm⟩ : ∃ m, (packTo xs (q + 1)).length = m + 2 := ⟨_, (Nat.sub_add_cancel f1).symm⟩
          have C := (hown.cellAt m (by omega)).trans (getElem_ints (by omega))
          have Fr := hown.frozenAt m
          rw [show (packTo xs (q + 1)).length - 2 = m by omega] at f3 f4 P2
          rw [he] at D1
          have hm6 : m ≤ 6 := by have := Hl4.out; omega
          have hq6 : q ≤ 2 := by have := Hl4.out; omega
          have He := Lib.hid he; clear he
          go_wp2_with fail
          go_roundw
          case rel => exact ⟨q + 2, by omega, by go_num, by rw [P2.out]; exact own_set (hown.stored m _).1, Below.of_grown_row hbel (hown.stored m _).2 hbel.size hg⟩
          case measure => simp [intOf]; omega
        · have hpos : (0 < k ∧ (nth xs (k - 1) != nth xs k) = true) ∨ k = 0 := by
            by_cases h0 : 0 < k
            · exact .inl ⟨h0, by simp; exact fun e => hsame ⟨h0, e⟩⟩
            · exact .inr (by omega)
          have P2 := Lib.hid (pack_other hsame)
          obtain ⟨f1, f2⟩ := pack_len (xs := xs) k
          have hm6 : (packTo xs k).length ≤ 6 := by have := Hl4.out; omega
          clear hsame D0
          have hnews := fun (w' : World) => Rd.news w' #[.int .i64 1, .int .i64 (nth xs k)] 3 1 2 rfl (by simp [maxLen])
          rcases hpos with ⟨h0, he⟩ | rfl
          · obtain ⟨q, rfl⟩ : ∃ q, k = q + 1 := ⟨k - 1, by omega⟩
            rw [Nat.add_sub_cancel] at he
            have he' : (nth xs q == nth xs (q + 1)) = false := by simpa using he
            have D1 : wr.cell? ⟨b, off + q, none⟩ = some (.int .i64 (nth xs q)) := by
              obtain ⟨b', off', e, D1⟩ := H0.at (k := q) (by omega)
              obtain ⟨rfl, rfl⟩ : b = b' ∧ off = off' := by simpa using e
              exact (hbel.cell (World.block_lt_of_cell? w _ D1)).trans D1
            have hq6 : q ≤ 2 := by have := Hl4.out; omega
            clear he h0
            go_wp2_with (refine wp_append (lo := w.heap.size) (n := (packTo xs (q + 1)).length) (xs := (packTo xs (q + 1)).map (Value.int .i64)) (m := 2) (news := [.int .i64 1, .int .i64 (nth xs (q + 1))]) rfl rfl 3 (.int .i64 0) 1 8 Try.underlying30 Try.infoInt rfl (by decide) rfl (ownsRow_below hown ((Below.refl _ _).alloc (Nat.le_refl _) _)) rfl (hnews _) (by simp [Value.oneCell']) (by unfold maxLen; omega) (by omega) (by have := hbel.size; simp; omega) ?_; intro v' w2 hown' _ hbel')
            go_roundw
            case rel => exact ⟨q + 2, by omega, by go_num, by rw [P2.out]; simpa [OwnInts] using hown', (hbel.alloc hbel.size _).trans hbel'⟩
            case measure => simp [intOf]; omega
          · have D' : wr.cell? ⟨b, off, none⟩ = some (.int .i64 (nth xs 0)) := by simpa using D
            clear D
            go_wp2_with (refine wp_append (lo := w.heap.size) (n := 0) (xs := []) (m := 2) (news := [.int .i64 1, .int .i64 (nth xs 0)]) rfl rfl 3 (.int .i64 0) 1 8 Try.underlying30 Try.infoInt rfl (by decide) rfl (ownsRow_below hown ((Below.refl _ _).alloc (Nat.le_refl _) _)) rfl (hnews _) (by simp [Value.oneCell']) (by unfold maxLen; omega) (by omega) (by have := hbel.size; simp; omega) ?_; intro v' w2 hown' _ hbel')
            go_roundw
            case rel => exact ⟨1, by omega, by go_num, by rw [P2.out]; simpa [OwnInts, packTo] using hown', (hbel.alloc hbel.size _).trans hbel'⟩
            case measure => simp [intOf]; omega
      · have e4 : k = 4 := by have := Hl4.out; omega
        subst e4
        go_wp2_with fail
        go_ret2
        exact S.out _ _ hown hbel

set_option maxHeartbeats 400000 in
theorem PagePack_spec (v : Value) (xs : List Int) (w : World) (h : RdInts w v xs) :
    Calls Try.prog 35 #[v] w (PackedOk w xs) := by
  obtain ⟨a, c, hv, hc, hcm, H0⟩ := h.open
  subst hv
  unfold maxLen at hcm
  cases hok : wordsOk xs
  · have own0 := ownsRow_empty w 3 1
    have S := Lib.hid (PackedOk.no (w := w) hok own0 ((Below.refl _ _).alloc (Nat.le_refl _) _))
    clear own0
    have Hok := Lib.hid hok; clear hok H0
    go_enter Try.func35, Try.ntmps35
    go_wp2_with (go_at_call 53; refine (l34Page_any _ xs _ (h.alloc _)).mono ?_; rintro e w' ⟨rfl, rfl⟩; rw [Hok.out])
    go_ret2
    exact S.out
  · have Hl4 := Lib.hid (wordsOk_len hok)
    have S := Lib.hid (fun w' v' => PackedOk.yes (w := w) (w' := w') (v := v') hok)
    have Hok := Lib.hid hok; clear hok
    go_enter Try.func35, Try.ntmps35
    go_wp2_with (go_at_call 53; refine (l34Page_any _ xs _ (h.alloc _)).mono ?_; rintro e w' ⟨rfl, rfl⟩; rw [Hok.out])
    go_loopw [4, 5] (fun o i wr => ∃ k : Nat, k ≤ xs.length ∧ i = .int .i64 k ∧ OwnInts w.heap.size wr o (packTo xs k) ∧ Below w.heap.size w wr) (fun _ i _ => xs.length - (intOf i).toNat)
    case atStart => exact ⟨0, Nat.zero_le _, rfl, ownsRow_empty _ _ _, (Below.refl _ _).alloc (Nat.le_refl _) _⟩
    case round =>
      obtain ⟨k, hk, rfl, hown, hbel⟩ := hrel
      by_cases hlt : k < xs.length
      · obtain ⟨b, off, rfl, D0⟩ := H0.at hlt
        have D : wr.cell? ⟨b, off + k, none⟩ = some (.int .i64 (nth xs k)) := (hbel.cell (World.block_lt_of_cell? w _ D0)).trans D0
        by_cases hsame : 0 < k ∧ nth xs (k - 1) = nth xs k
        · obtain ⟨q, rfl⟩ : ∃ q, k = q + 1 := ⟨k - 1, by omega⟩
          have D1 : wr.cell? ⟨b, off + q, none⟩ = some (.int .i64 (nth xs q)) := by
            obtain ⟨b', off', e, D1⟩ := H0.at (k := q) (by omega)
            obtain ⟨rfl, rfl⟩ : b = b' ∧ off = off' := by simpa using e
            exact (hbel.cell (World.block_lt_of_cell? w _ D1)).trans D1
          rw [Nat.add_sub_cancel] at hsame
          have he := hsame.2
          obtain ⟨f1, f2, f3, f4⟩ := pack_facts (xs := xs) (k := q + 1) (by omega)
          have P2 := Lib.hid (pack_same (xs := xs) (k := q + 1) (by omega) hsame.2)
          clear hsame D0
          obtain ⟨g, cap, rfl, hg, hg2⟩ := own_shape hown (by omega)
          have Hown := Lib.hid (fun n => (show OwnInts w.heap.size (wr.drewN n) _ _ from hown))
          obtain ⟨m, hm⟩ : ∃ m, (packTo xs (q + 1)).length = m + 2 := ⟨_, (Nat.sub_add_cancel f1).symm⟩
          have C := (hown.cellAt m (by omega)).trans (getElem_ints (by omega))
          have Fr := hown.frozenAt m
          rw [show (packTo xs (q + 1)).length - 2 = m by omega] at f3 f4 P2
          rw [he] at D1
          have hm6 : m ≤ 6 := by have := Hl4.out; omega
          have hq6 : q ≤ 2 := by have := Hl4.out; omega
          have He := Lib.hid he; clear he
          have hd : decide ((0 : Int) < (q : Int) + 1) = true := by simp
          go_wp2_with fail
          go_quiet (fail)
          go_wp2_with fail
          go_roundw
          case rel => exact ⟨q + 2, by omega, by go_num, by rw [P2.out]; exact own_set ((Hown.out _).stored m _).1, Below.of_grown_row (below_drewN hbel _) ((Hown.out _).stored m _).2 hbel.size hg⟩
          case measure => simp [intOf]; omega
        · have hpos : (0 < k ∧ (nth xs (k - 1) != nth xs k) = true) ∨ k = 0 := by
            by_cases h0 : 0 < k
            · exact .inl ⟨h0, by simp; exact fun e => hsame ⟨h0, e⟩⟩
            · exact .inr (by omega)
          have P2 := Lib.hid (pack_other hsame)
          obtain ⟨f1, f2⟩ := pack_len (xs := xs) k
          have hm6 : (packTo xs k).length ≤ 6 := by have := Hl4.out; omega
          clear hsame D0
          have hnews := fun (w' : World) => Rd.news w' #[.int .i64 1, .int .i64 (nth xs k)] 3 1 2 rfl (by simp [maxLen])
          rcases hpos with ⟨h0, he⟩ | rfl
          · obtain ⟨q, rfl⟩ : ∃ q, k = q + 1 := ⟨k - 1, by omega⟩
            rw [Nat.add_sub_cancel] at he
            have he' : (nth xs q == nth xs (q + 1)) = false := by simpa using he
            have D1 : wr.cell? ⟨b, off + q, none⟩ = some (.int .i64 (nth xs q)) := by
              obtain ⟨b', off', e, D1⟩ := H0.at (k := q) (by omega)
              obtain ⟨rfl, rfl⟩ : b = b' ∧ off = off' := by simpa using e
              exact (hbel.cell (World.block_lt_of_cell? w _ D1)).trans D1
            have hq6 : q ≤ 2 := by have := Hl4.out; omega
            clear he h0
            have hd : decide ((0 : Int) < (q : Int) + 1) = true := by simp
            go_wp2_with fail
            go_quiet (fail)
            go_wp2_with (refine wp_append (lo := w.heap.size) (n := (packTo xs (q + 1)).length) (xs := (packTo xs (q + 1)).map (Value.int .i64)) (m := 2) (news := [.int .i64 1, .int .i64 (nth xs (q + 1))]) rfl rfl 3 (.int .i64 0) 1 8 Try.underlying30 Try.infoInt rfl (by decide) rfl (ownsRow_below hown ((below_drewN (Below.refl _ _) _).alloc (Nat.le_refl _) _)) rfl (hnews _) (by simp [Value.oneCell']) (by unfold maxLen; omega) (by omega) (by have := hbel.size; simp; omega) ?_; intro v' w2 hown' _ hbel')
            go_roundw
            case rel => exact ⟨q + 2, by omega, by go_num, by rw [P2.out]; simpa [OwnInts] using hown', ((below_drewN hbel _).alloc hbel.size _).trans hbel'⟩
            case measure => simp [intOf]; omega
          · have D' : wr.cell? ⟨b, off, none⟩ = some (.int .i64 (nth xs 0)) := by simpa using D
            clear D
            go_wp2_with fail
            go_quiet (fail)
            go_wp2_with (refine wp_append (lo := w.heap.size) (n := 0) (xs := []) (m := 2) (news := [.int .i64 1, .int .i64 (nth xs 0)]) rfl rfl 3 (.int .i64 0) 1 8 Try.underlying30 Try.infoInt rfl (by decide) rfl (ownsRow_below hown ((below_drewN (Below.refl _ _) _).alloc (Nat.le_refl _) _)) rfl (hnews _) (by simp [Value.oneCell']) (by unfold maxLen; omega) (by omega) (by have := hbel.size; simp; omega) ?_; intro v' w2 hown' _ hbel')
            go_roundw
            case rel => exact ⟨1, by omega, by go_num, by rw [P2.out]; simpa [OwnInts, packTo] using hown', ((below_drewN hbel _).alloc hbel.size _).trans hbel'⟩
            case measure => simp [intOf]; omega
      · have e4 : k = 4 := by have := Hl4.out; omega
        subst e4
        go_wp2_with fail
        go_ret2
        exact S.out _ _ hown hbel
end Go.Proofs.Ytabaemnknjdjoaa
