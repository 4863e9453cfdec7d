/-
  Walks: pairs unpacked.
-/
import Derived.Test.YtabaemnknjdjoaaPack2
namespace Go.Proofs.Ytabaemnknjdjoaa
open Go.RowKit

def Unpacked (w : World) (r : List Int × Bool) (e : Ending) (w' : World) : Prop := ∃ v', e = .returned (.tuple #[v', .bool r.2]) ∧ OwnInts w.heap.size w' v' r.1 ∧ Below w.heap.size w w'
theorem Unpacked.of {w w' : World} {r : List Int × Bool} {v : Value} {xs : List Int} {b : Bool} (h : r = (xs, b)) (ho : OwnInts w.heap.size w' v xs) (hb : Below w.heap.size w w') : Unpacked w r (.returned (.tuple #[v, .bool b])) w' := by
  subst h; exact ⟨v, rfl, ho, hb⟩
theorem own_nil (lo : Nat) (w : World) : OwnInts lo w (.slice none 0 0) [] := World.ownsRow_nil _ _ _ _

theorem expN_p {ps : List Int} {p : Nat} (hp : p % 2 = 0) : expN ps ((p + 2) / 2) = expN ps (p / 2) ++ List.replicate (nth ps p).toNat (nth ps (p + 1)) := by
  have e1 : (p + 2) / 2 = p / 2 + 1 := by omega
  have e2 : 2 * (p / 2) = p := by omega
  rw [e1, expN_succ, e2]
theorem capN_p {ps : List Int} {p : Nat} (hp : p % 2 = 0) : capN ps ((p + 2) / 2) = capN ps (p / 2) ++ List.replicate (min (nth ps p).toNat (5 - (capN ps (p / 2)).length)) (nth ps (p + 1)) := by
  have e1 : (p + 2) / 2 = p / 2 + 1 := by omega
  have e2 : 2 * (p / 2) = p := by omega
  rw [e1, capN, e2]
theorem unpackI_odd {ps : List Int} (h : ps.length % 2 = 1) : unpackI ps = ([], false) := by
  rw [unpackI, if_neg]; rintro ⟨h1, _⟩; omega
theorem unpackI_long {ps : List Int} (h : 8 < ps.length) : unpackI ps = ([], false) := by
  rw [unpackI, if_neg]; rintro ⟨_, h1, _⟩; omega
theorem unpackI_count {ps : List Int} {p : Nat} (hp : p % 2 = 0) (hl : p + 1 < ps.length) (h : inB (nth ps p) 1 4 = false) : unpackI ps = ([], false) := by
  rw [unpackI, if_neg]
  rintro ⟨_, _, h1, _⟩
  have := h1 (p / 2) (by omega)
  rw [show 2 * (p / 2) = p by omega, h] at this
  exact absurd this (by simp)
theorem unpackI_words {ps : List Int} {p : Nat} (hp : ps.length = p) (h : wordsOk (expN ps (p / 2)) = false) : unpackI ps = ([], false) := by
  rw [unpackI, if_neg]; subst hp; rintro ⟨_, _, _, h1, _⟩; rw [h] at h1; exact absurd h1 (by simp)
theorem unpackI_other {ps : List Int} {p : Nat} (hp : ps.length = p) (h1 : wordsOk (expN ps (p / 2)) = true) (h : packL (expN ps (p / 2)) ≠ ps) : unpackI ps = ([], false) := by
  rw [unpackI, if_neg]; subst hp; rintro ⟨_, _, _, _, h2⟩; rw [packL_yes h1] at h; exact h h2
theorem unpackI_yes {ps : List Int} {p : Nat} (hp : ps.length = p) (h0 : p % 2 = 0) (h8 : p ≤ 8) (hc : ∀ j, j < p → j % 2 = 0 → inB (nth ps j) 1 4 = true) (h1 : wordsOk (expN ps (p / 2)) = true) (h : packL (expN ps (p / 2)) = ps) : unpackI ps = (expN ps (p / 2), true) := by
  rw [packL_yes h1] at h
  subst hp
  rw [unpackI, if_pos ⟨h0, h8, fun j hj => hc _ (by omega) (by omega), h1, h⟩]
theorem unpackS_words {ps : List Int} {p : Nat} (hp : ps.length / 2 = p / 2) (h : wordsOk (capN ps (p / 2)) = false) : unpackS ps = ([], false) := by
  rw [unpackS, hp, if_neg]; rintro ⟨h1, _⟩; rw [h] at h1; exact absurd h1 (by simp)
theorem unpackS_other {ps : List Int} {p : Nat} (hp : ps.length / 2 = p / 2) (h1 : wordsOk (capN ps (p / 2)) = true) (h : packL (capN ps (p / 2)) ≠ ps) : unpackS ps = ([], false) := by
  rw [unpackS, hp, if_neg]; rintro ⟨_, h2⟩; rw [packL_yes h1] at h; exact h h2
theorem unpackS_yes {ps : List Int} {p : Nat} (hp : ps.length / 2 = p / 2) (h1 : wordsOk (capN ps (p / 2)) = true) (h : packL (capN ps (p / 2)) = ps) : unpackS ps = (capN ps (p / 2), true) := by
  rw [packL_yes h1] at h
  rw [unpackS, hp, if_pos ⟨h1, h⟩]

theorem counts_next {ps : List Int} {p : Nat} (hc : ∀ j, j < p → j % 2 = 0 → inB (nth ps j) 1 4 = true) (hp : p % 2 = 0) (h : inB (nth ps p) 1 4 = true) : ∀ j, j < p + 2 → j % 2 = 0 → inB (nth ps j) 1 4 = true := fun j hj h2 => by
  by_cases h' : j < p
  · exact hc j h' h2
  · obtain rfl : j = p := by omega
    exact h

set_option maxHeartbeats 1000000 in
theorem PageUnpack_impl (v : Value) (ps : List Int) (w : World) (h : RdInts w v ps) :
    Calls Try.prog 15 #[v] w (Unpacked w (unpackI ps)) := by
  obtain ⟨a, c, hv, hc, hcm, H0⟩ := h.open
  subst hv
  unfold maxLen at hcm
  by_cases hodd : ps.length % 2 = 1
  · have S := Lib.hid (Unpacked.of (w := w) (unpackI_odd hodd) (own_nil _ _) (Below.refl _ _))
    have t1 : (ps.length : Int) % 2 = 1 := by omega
    clear H0 hodd
    go_enter Try.func15, Try.ntmps15
    go_wp2_with fail
    go_ret2
    exact S.out
  have t1 : (ps.length : Int) % 2 = 0 := by omega
  by_cases h8 : 8 < ps.length
  · have S := Lib.hid (Unpacked.of (w := w) (unpackI_long h8) (own_nil _ _) (Below.refl _ _))
    clear H0 hodd
    go_enter Try.func15, Try.ntmps15
    go_wp2_with fail
    go_ret2
    exact S.out
  have Hodd := Lib.hid (show ps.length % 2 = 0 by omega)
  have h8' : ps.length ≤ 8 := by omega
  clear hodd h8
  go_enter Try.func15, Try.ntmps15
  go_wp2_with fail
  clear t1
  go_loopw [4, 5] (fun o i wr => ∃ p : Nat, p ≤ ps.length ∧ p % 2 = 0 ∧ i = .int .i64 p ∧ (∀ j, j < p → j % 2 = 0 → inB (nth ps j) 1 4 = true) ∧ (expN ps (p / 2)).length ≤ 2 * p ∧ OwnInts w.heap.size wr o (expN ps (p / 2)) ∧ Below w.heap.size w wr) (fun _ i _ => ps.length - (intOf i).toNat)
  case atStart => exact ⟨0, Nat.zero_le _, rfl, rfl, fun j hj => absurd hj (Nat.not_lt_zero _), Nat.zero_le _, own_nil _ _, Below.refl _ _⟩
  case round =>
    obtain ⟨p, hp, hp2, rfl, hcs, hEl, hown, hbel⟩ := hrel
    have Hp2 := Lib.hid hp2; clear hp2
    have Hcs := Lib.hid hcs; clear hcs
    by_cases hlt : p < ps.length
    · have hlt1 : p + 1 < ps.length := by have := Hp2.out; have := Hodd.out; omega
      obtain ⟨b, off, rfl, D0⟩ := H0.at hlt
      have D : wr.cell? ⟨b, off + p, none⟩ = some (.int .i64 (nth ps p)) := (hbel.cell (World.block_lt_of_cell? w _ D0)).trans D0
      have D1 : w.cell? ⟨b, off + (p + 1), none⟩ = some (.int .i64 (nth ps (p + 1))) := by
        obtain ⟨b', off', e, D1⟩ := H0.at (k := p + 1) (by omega)
        obtain ⟨rfl, rfl⟩ : b = b' ∧ off = off' := by simpa using e
        exact D1
      cases hin : inB (nth ps p) 1 4
      · have S := Lib.hid (fun w' hb => Unpacked.of (w := w) (w' := w') (unpackI_count Hp2.out hlt1 hin) (own_nil _ _) hb)
        have Hin := Lib.hid hin; clear hin
        clear D0
        go_wp2_with (go_at_call 38; refine (within_any _ _ _ _).mono ?_; rintro e w' ⟨rfl, rfl⟩; rw [Hin.out])
        go_ret2
        exact S.out _ hbel
      · obtain ⟨hn0, hn1⟩ := inB_iff.1 hin
        obtain ⟨n, hn⟩ := Int.eq_ofNat_of_zero_le (show 0 ≤ nth ps p by omega)
        rw [hn] at D hn0 hn1
        have E := Lib.hid (expN_p (ps := ps) Hp2.out)
        have HE := Lib.hid (show (nth ps p).toNat = n by omega)
        have Hin := Lib.hid hin; clear hin
        have Hn := Lib.hid hn; clear hn
        clear D0
        go_wp2_with (go_at_call 38; refine (within_any _ _ _ _).mono ?_; rintro e w' ⟨rfl, rfl⟩; rw [show inB (n : Int) 1 4 = true by rw [← Hn.out]; exact Hin.out])
        go_loopw [4, 33] (fun o i wr' => ∃ t : Nat, t ≤ n ∧ i = .int .i64 t ∧ OwnInts w.heap.size wr' o (expN ps (p / 2) ++ List.replicate t (nth ps (p + 1))) ∧ Below w.heap.size w wr') (fun _ i _ => n - (intOf i).toNat)
        case atStart => exact ⟨0, Nat.zero_le _, rfl, by simpa using hown, hbel⟩
        case round =>
          clear hown hbel D
          obtain ⟨t, ht, rfl, hown, hbel⟩ := hrel
          by_cases htn : t < n
          · have D : wr.cell? ⟨b, off + (p + 1), none⟩ = some (.int .i64 (nth ps (p + 1))) := (hbel.cell (World.block_lt_of_cell? w _ D1)).trans D1
            have hL : (expN ps (p / 2) ++ List.replicate t (nth ps (p + 1))).length ≤ 20 := by simp; omega
            generalize hX : expN ps (p / 2) ++ List.replicate t (nth ps (p + 1)) = X at hown hL
            have HX := Lib.hid hX; clear hX
            go_wp2_with (refine wp_append (lo := w.heap.size) (n := X.length) (xs := X.map (Value.int .i64)) (m := 1) (news := [.int .i64 (nth ps (p + 1))]) rfl rfl 3 (.int .i64 0) 1 8 Try.underlying30 Try.infoInt rfl (by decide) rfl (ownsRow_below hown ((Below.refl _ _).alloc (Nat.le_refl _) _)) rfl (Rd.news _ #[_] 3 1 1 rfl (by simp [maxLen])) (by simp [Value.oneCell']) (by unfold maxLen; omega) (by omega) (by have := hbel.size; simp; omega) ?_; intro v' w2 hown' _ hbel')
            go_roundw
            case rel => exact ⟨t + 1, by omega, by go_num, by rw [List.replicate_succ', ← List.append_assoc, HX.out]; simpa [OwnInts] using hown', (hbel.alloc hbel.size _).trans hbel'⟩
            case measure => simp [intOf]; omega
          · obtain rfl : t = n := by omega
            go_wp2_with fail
            go_roundw
            case rel => exact ⟨p + 2, by omega, by have := Hp2.out; omega, by go_num, counts_next Hcs.out Hp2.out Hin.out, by rw [E.out, HE.out]; simp; omega, by rw [E.out, HE.out]; exact hown, hbel⟩
            case measure => simp [intOf]; omega
    · have e4 : ps.length = p := by omega
      have hbo : Below w.heap.size w wr := hbel
      cases hok : wordsOk (expN ps (p / 2))
      · have S := Lib.hid (fun w' hb => Unpacked.of (w := w) (w' := w') (unpackI_words e4 hok) (own_nil _ _) hb)
        have Hok := Lib.hid hok; clear hok
        have E4 := Lib.hid e4; clear e4
        go_wp2_with (go_at_call 18; refine (PagePack_impl _ _ _ hown.rd).mono ?_; rintro e w' ⟨v', rfl, hown2, hbel2⟩; rw [Hok.out])
        go_ret2
        exact S.out _ (hbel.trans (hbel2.mono hbel.size))
      · by_cases hpk : packL (expN ps (p / 2)) = ps
        · have S := Lib.hid (fun w' v' h1 h2 => Unpacked.of (w := w) (w' := w') (v := v') (unpackI_yes e4 (by have := Hp2.out; omega) (by omega) Hcs.out hok hpk) h1 h2)
          have Hpk := Lib.hid (show decide (packL (expN ps (p / 2)) = ps) = true by simp [hpk])
          have Hok := Lib.hid hok; clear hok hpk
          have E4 := Lib.hid e4; clear e4
          go_wp2_with (first | (go_at_call 18; refine (PagePack_impl _ _ _ hown.rd).mono ?_; rintro e w' ⟨v', rfl, hown2, hbel2⟩; rw [Hok.out]) | (go_at_call 39; refine (EqualInts_any _ _ _ ps _ hown2.rd (h.below (hbel.trans (hbel2.mono hbel.size)))).mono ?_; rintro e w' ⟨rfl, n, rfl⟩; rw [Hpk.out]))
          go_ret2
          exact S.out _ _ (OwnInts.below (OwnInts.below hown hbel2) (below_drewN (Below.refl _ _) _)) (below_drewN (hbel.trans (hbel2.mono hbel.size)) _)
        · have S := Lib.hid (fun w' hb => Unpacked.of (w := w) (w' := w') (unpackI_other e4 hok hpk) (own_nil _ _) hb)
          have Hpk := Lib.hid (show decide (packL (expN ps (p / 2)) = ps) = false by simp [hpk])
          have Hok := Lib.hid hok; clear hok hpk
          have E4 := Lib.hid e4; clear e4
          go_wp2_with (first | (go_at_call 18; refine (PagePack_impl _ _ _ hown.rd).mono ?_; rintro e w' ⟨v', rfl, hown2, hbel2⟩; rw [Hok.out]) | (go_at_call 39; refine (EqualInts_any _ _ _ ps _ hown2.rd (h.below (hbel.trans (hbel2.mono hbel.size)))).mono ?_; rintro e w' ⟨rfl, n, rfl⟩; rw [Hpk.out]))
          go_ret2
          exact S.out _ (below_drewN (hbel.trans (hbel2.mono hbel.size)) _)
set_option maxHeartbeats 1000000 in
theorem PageUnpack_spec (v : Value) (ps : List Int) (w : World) (h : RdInts w v ps) (hs : ps.length ≤ 1048576) :
    Calls Try.prog 16 #[v] w (Unpacked w (unpackS ps)) := by
  obtain ⟨a, c, hv, hc, hcm, H0⟩ := h.open
  subst hv
  unfold maxLen at hcm
  go_enter Try.func16, Try.ntmps16
  go_wp2_with fail
  go_loopw [4, 5] (fun o i wr => ∃ p : Nat, p ≤ ps.length ∧ p % 2 = 0 ∧ i = .int .i64 p ∧ (capN ps (p / 2)).length ≤ 5 ∧ OwnInts w.heap.size wr o (capN ps (p / 2)) ∧ Below w.heap.size w wr) (fun _ i _ => ps.length - (intOf i).toNat)
  case atStart => exact ⟨0, Nat.zero_le _, rfl, rfl, Nat.zero_le _, ownsRow_empty _ _ _, (Below.refl _ _).alloc (Nat.le_refl _) _⟩
  case round =>
    obtain ⟨p, hp, hp2, rfl, hEl, hown, hbel⟩ := hrel
    have Hp2 := Lib.hid hp2; clear hp2
    by_cases hlt : p + 1 < ps.length
    · obtain ⟨b, off, rfl, D⟩ := H0.at (show p < ps.length by omega)
      have D1 : w.cell? ⟨b, off + (p + 1), none⟩ = some (.int .i64 (nth ps (p + 1))) := by
        obtain ⟨b', off', e, D1⟩ := H0.at (k := p + 1) (by omega)
        obtain ⟨rfl, rfl⟩ : b = b' ∧ off = off' := by simpa using e
        exact D1
      have hltZ : decide ((p : Int) + 1 < ps.length) = true := by simp; omega
      have E := Lib.hid (capN_p (ps := ps) Hp2.out)
      obtain ⟨m, hm⟩ : ∃ m, m = min (nth ps p).toNat (5 - (capN ps (p / 2)).length) := ⟨_, rfl⟩
      have Hm := Lib.hid hm
      have Hm2 := Lib.hid (show m + (capN ps (p / 2)).length ≤ 5 by omega)
      go_wp2_with fail
      go_loopw [4, 6] (fun o i wr' => ∃ t : Nat, t ≤ m ∧ i = .int .i64 t ∧ OwnInts w.heap.size wr' o (capN ps (p / 2) ++ List.replicate t (nth ps (p + 1))) ∧ Below w.heap.size w wr') (fun _ i _ => m - (intOf i).toNat)
      case atStart => exact ⟨0, Nat.zero_le _, rfl, by simpa using hown, hbel⟩
      case round =>
        clear hown hbel
        obtain ⟨t, ht, rfl, hown, hbel⟩ := hrel
        have hm5 : m ≤ 5 := by have := Hm2.out; omega
        have Dp : wr.cell? ⟨b, off + p, none⟩ = some (.int .i64 (nth ps p)) := (hbel.cell (World.block_lt_of_cell? w _ D)).trans D
        have Dq : wr.cell? ⟨b, off + (p + 1), none⟩ = some (.int .i64 (nth ps (p + 1))) := (hbel.cell (World.block_lt_of_cell? w _ D1)).trans D1
        have hL : (capN ps (p / 2) ++ List.replicate t (nth ps (p + 1))).length = (capN ps (p / 2)).length + t := by simp
        by_cases htn : t < m
        · have h1 : (t : Int) < nth ps p := by omega
          generalize hX : capN ps (p / 2) ++ List.replicate t (nth ps (p + 1)) = X at hown hL
          have HX := Lib.hid hX; clear hX
          have hX4 : X.length ≤ 4 := by omega
          clear hL hm
          obtain ⟨ao, co, rfl, _, _, _⟩ := hown.rd.open
          go_wp2_with (refine wp_append (lo := w.heap.size) (n := X.length) (xs := X.map (Value.int .i64)) (m := 1) (news := [.int .i64 (nth ps (p + 1))]) rfl rfl 3 (.int .i64 0) 1 8 Try.underlying30 Try.infoInt rfl (by decide) rfl (ownsRow_below hown ((Below.refl _ _).alloc (Nat.le_refl _) _)) rfl (Rd.news _ #[_] 3 1 1 rfl (by simp [maxLen])) (by simp [Value.oneCell']) (by unfold maxLen; omega) (by omega) (by have := hbel.size; simp; omega) ?_; intro v' w2 hown' _ hbel')
          go_roundw
          case rel => exact ⟨t + 1, by omega, by go_num, by rw [List.replicate_succ', ← List.append_assoc, HX.out]; simpa [OwnInts] using hown', (hbel.alloc hbel.size _).trans hbel'⟩
          case measure => simp [intOf]; omega
        · obtain rfl : t = m := by omega
          by_cases h1 : (t : Int) < nth ps p
          · have hX5 : (capN ps (p / 2) ++ List.replicate t (nth ps (p + 1))).length = 5 := by rw [hL]; omega
            generalize hX : capN ps (p / 2) ++ List.replicate t (nth ps (p + 1)) = X at hown hX5
            have HX := Lib.hid hX; clear hX
            clear hL hm
            obtain ⟨ao, co, rfl, _, _, _⟩ := hown.rd.open
            have HX5 := Lib.hid hX5
            have hX4 : 4 < X.length := by omega
            clear hX5
            go_wp2_with fail
            go_roundw
            case rel => exact ⟨p + 2, by omega, by have := Hp2.out; omega, by go_num, by rw [E.out, ← Hm.out, HX.out, HX5.out]; decide, by rw [E.out, ← Hm.out, HX.out]; exact hown, hbel⟩
            case measure => simp [intOf]; omega
          · clear hL hm
            go_wp2_with fail
            go_roundw
            case rel => exact ⟨p + 2, by omega, by have := Hp2.out; omega, by go_num, by rw [E.out, ← Hm.out]; simp; have := Hm2.out; omega, by rw [E.out, ← Hm.out]; exact hown, hbel⟩
            case measure => simp [intOf]; omega
    · have e4 : ps.length / 2 = p / 2 := by have := Hp2.out; omega
      cases hok : wordsOk (capN ps (p / 2))
      · have S := Lib.hid (fun w' v' ho hb => Unpacked.of (w := w) (w' := w') (v := v') (unpackS_words e4 hok) ho hb)
        have Hok := Lib.hid hok; clear hok
        clear e4
        go_wp2_with (go_at_call 35; refine (PagePack_spec _ _ _ hown.rd).mono ?_; rintro e w' ⟨v', rfl, hown2, hbel2⟩; rw [Hok.out])
        go_ret2
        have hb := hbel.trans (hbel2.mono hbel.size)
        exact S.out _ _ (own_lo (ownsRow_empty _ _ _) hb.size) (hb.alloc hb.size _)
      · by_cases hpk : packL (capN ps (p / 2)) = ps
        · have S := Lib.hid (fun w' v' h1 h2 => Unpacked.of (w := w) (w' := w') (v := v') (unpackS_yes e4 hok hpk) h1 h2)
          have Hpk := Lib.hid (show decide (packL (capN ps (p / 2)) = ps) = true by simp [hpk])
          have Hok := Lib.hid hok; clear hok hpk
          clear e4
          go_wp2_with (first | (go_at_call 35; refine (PagePack_spec _ _ _ hown.rd).mono ?_; rintro e w' ⟨v', rfl, hown2, hbel2⟩; rw [Hok.out]) | (go_at_call 40; refine (l34Same_any _ _ _ ps _ hown2.rd (h.below (hbel.trans (hbel2.mono hbel.size)))).mono ?_; rintro e w' ⟨rfl, n, rfl⟩; rw [Hpk.out]))
          go_ret2
          exact S.out _ _ (OwnInts.below (OwnInts.below hown hbel2) (below_drewN (Below.refl _ _) _)) (below_drewN (hbel.trans (hbel2.mono hbel.size)) _)
        · have S := Lib.hid (fun w' v' ho hb => Unpacked.of (w := w) (w' := w') (v := v') (unpackS_other e4 hok hpk) ho hb)
          have Hpk := Lib.hid (show decide (packL (capN ps (p / 2)) = ps) = false by simp [hpk])
          have Hok := Lib.hid hok; clear hok hpk
          clear e4
          go_wp2_with (first | (go_at_call 35; refine (PagePack_spec _ _ _ hown.rd).mono ?_; rintro e w' ⟨v', rfl, hown2, hbel2⟩; rw [Hok.out]) | (go_at_call 40; refine (l34Same_any _ _ _ ps _ hown2.rd (h.below (hbel.trans (hbel2.mono hbel.size)))).mono ?_; rintro e w' ⟨rfl, n, rfl⟩; rw [Hpk.out]))
          go_ret2
          have hb := below_drewN (hbel.trans (hbel2.mono hbel.size)) n
          exact S.out _ _ (own_lo (ownsRow_empty _ _ _) hb.size) (hb.alloc hb.size _)
end Go.Proofs.Ytabaemnknjdjoaa
