/-
  The law laws.FnFlat returns true for every input. No conditions.
-/
import Derived.Test.YtabaemnknjdjoaaDr7
import Derived.Test.YtabaemnknjdjoaaFlat3
set_option linter.unusedVariables false
namespace Go.Proofs.Ytabaemnknjdjoaa.fnFlat
open Go.RowKit
open Go.Proofs.Ytabaemnknjdjoaa

theorem out_next1 {ss : List StepV} {k : Nat} {s : StepV} (h : ss[k]? = some s) (h1 : s.k = 1) : (flatRun (ss.take (k + 1))).2 = (flatRun (ss.take k)).2 ++ [nth (flatRun (ss.take k)).1 s.a.toNat] := by
  rw [flatRun_next h, flatStep1 h1]
theorem out_next0 {ss : List StepV} {k : Nat} {s : StepV} (h : ss[k]? = some s) (h1 : s.k ≠ 1) : (flatRun (ss.take (k + 1))).2 = (flatRun (ss.take k)).2 := by
  rw [flatRun_next h]
  by_cases h2 : s.k = 2
  · rw [flatStep2 h2]
  · rw [flatStep3 h1 h2]
theorem out_grows (ss : List StepV) (st : List Int × List Int) : ∃ t, (ss.foldl flatStep st).2 = st.2 ++ t := by
  induction ss generalizing st with
  | nil => exact ⟨[], by simp⟩
  | cons s ss ih =>
    obtain ⟨t, ht⟩ := ih (flatStep st s)
    have : ∃ u, (flatStep st s).2 = st.2 ++ u := by
      unfold flatStep; split
      · exact ⟨_, rfl⟩
      · split <;> exact ⟨[], by simp⟩
    obtain ⟨u, hu⟩ := this
    exact ⟨u ++ t, by rw [List.foldl_cons, ht, hu, List.append_assoc]⟩
theorem out_pre (ss : List StepV) (k : Nat) : ∃ t, (flatRun ss).2 = (flatRun (ss.take k)).2 ++ t := by
  obtain ⟨t, ht⟩ := out_grows (ss.drop k) (flatRun (ss.take k))
  refine ⟨t, ?_⟩
  rw [← ht]
  conv => lhs; rw [← List.take_append_drop k ss]
  simp only [flatRun, List.foldl_append]
theorem out_at {ss : List StepV} {k : Nat} {s : StepV} (h : ss[k]? = some s) (h1 : s.k = 1) : (flatRun ss).2[(flatRun (ss.take k)).2.length]? = some (nth (flatRun (ss.take k)).1 s.a.toNat) := by
  obtain ⟨t, ht⟩ := out_pre ss (k + 1)
  rw [ht, out_next1 h h1]
  simp
theorem mem_next {ss : List StepV} {k : Nat} {s : StepV} (h : ss[k]? = some s) (A : Nat) (hA : A < 64) (h0 : s.k = 2 → 0 ≤ s.a) : nth (flatRun (ss.take (k + 1))).1 A = if s.k = 2 ∧ s.a = A then s.x else nth (flatRun (ss.take k)).1 A := by
  rw [flatRun_next h]
  by_cases h1 : s.k = 1
  · rw [flatStep1 h1, if_neg (by omega)]
  by_cases h2 : s.k = 2
  · rw [flatStep2 h2]
    have hl := flatRun_len (ss.take k)
    by_cases ha : s.a = A
    · rw [if_pos ⟨h2, ha⟩, ha]
      simp [nth, hl, hA]
    · have := h0 h2
      rw [if_neg (by omega)]
      simp only [nth]
      rw [List.getD_eq_getElem?_getD, List.getD_eq_getElem?_getD, List.getElem?_set_ne (by omega)]
  · rw [flatStep3 h1 h2, if_neg (by omega)]
theorem mem_start (A : Nat) : nth (flatRun []).1 A = 0 := by
  simp only [flatRun, List.foldl_nil, nth, List.getD_eq_getElem?_getD, List.getElem?_replicate]
  split <;> rfl

set_option maxRecDepth 100000 in
set_option maxHeartbeats 4000000 in
theorem walkR (v : Value) (bs : List Int) (w : World) (h : RdBytes w v bs) :
    Calls Try.prog 7 #[v] w fun e w' => e = .returned (.bool true) ∧ Below w.heap.size w w' := by
  obtain ⟨a, c, hv, hc, hcm, hA⟩ := h.open
  subst hv
  unfold maxLen at hcm
  by_cases hl : 1048576 < bs.length
  · go_enter Try.func7, Try.ntmps7
    go_wp2_with fail
    go_ret
    exact ⟨rfl, Below.refl _ _⟩
  go_enter Try.func7, Try.ntmps7
  go_wp2_with fail
  refine (DrawFlatPlay_any _ bs _ h).mono ?_; rintro e w1 ⟨v1, ss, rfl, o1, hsl, b1⟩
  have hz1 := b1.size
  clear hA h
  go_wp2_with fail
  refine (FlatPlay_impl v1 ss _ o1.rd).mono ?_; rintro e w2 ⟨v2, rfl, o2, c2⟩
  have b2 := b1.trans (c2.mono b1.size)
  have r1 : RdSteps w2 v1 ss := Rd.below o1.rd c2
  clear c2 b1 o1
  go_wp2_with fail
  refine (FlatPlay_spec v1 ss _ r1).mono ?_; rintro e w3 ⟨v3, rfl, o3, c3⟩
  have b3 := b2.trans (c3.mono b2.size)
  have r1 : RdSteps w3 v1 ss := Rd.below r1 c3
  have o2 := o2.below c3
  clear c3 b2
  go_wp2_with fail
  refine (sameInts_any _ _ _ _ _ o2.rd o3.rd).mono ?_; rintro e w4 ⟨rfl, n4, rfl⟩
  rw [show decide (flatOut ss = flatOut ss) = true by simp]
  have b4 := below_drewN b3 n4
  have c4 := below_drewN (Below.refl w3.heap.size w3) n4
  have r1 : RdSteps (w3.drewN n4) v1 ss := Rd.below r1 c4
  have o2 := o2.below c4
  have o3 := o3.below c4
  generalize w3.drewN n4 = w4 at b4 r1 o2 o3
  clear c4 b3
  go_wp2_with fail
  refine (StepsValid_spec _ ss _ r1).mono ?_; rintro e w5 ⟨rfl, c5⟩
  have b5 := b4.trans (c5.mono b4.size)
  have r1 : RdSteps w5 v1 ss := Rd.below r1 c5
  have o2 := o2.below c5
  have o3 := o3.below c5
  clear c5 b4
  cases hok : stepsOk ss
  · have Hk := Lib.hid hok; clear hok
    go_wp2_with fail
    refine (sameInts_any _ _ _ _ _ o2.rd o3.rd).mono ?_; rintro e w6 ⟨rfl, n6, rfl⟩
    rw [show decide (flatOut ss = flatOut ss) = true by simp]
    go_wp2_with fail
    go_ret
    exact ⟨rfl, below_drewN b5 n6⟩
  rw [show flatOut ss = (flatRun ss).2 by simp [flatOut, hok]] at o2
  have Hok := Lib.hid hok
  clear hok o3
  have hgl := flatRun_out ss
  have r2 := o2.rd
  obtain ⟨ag, cg, rfl, hcg, hcgm, HG⟩ := r2.open
  unfold maxLen at hcgm
  clear o2
  have hz5 := b5.size
  obtain ⟨a1, c1, rfl, hc1, hcm1, H0⟩ := r1.open
  unfold maxLen at hcm1
  clear r1
  go_wp2_with fail
  go_loopw [6, 7] (fun n i wr => ∃ k : Nat, k ≤ ss.length ∧ i = .int .i64 k ∧ n = .int .i64 ((flatRun (ss.take k)).2.length : Nat) ∧ Below w5.heap.size w5 wr) (fun _ i _ => ss.length - (intOf i).toNat)
  case atStart => exact ⟨0, Nat.zero_le _, rfl, rfl, Below.refl _ _⟩
  case round =>
    obtain ⟨k, hk, rfl, rfl, hbel⟩ := hrel
    by_cases hlt : k < ss.length
    · obtain ⟨s, hs⟩ : ∃ s, ss[k]? = some s := ⟨_, List.getElem?_eq_getElem hlt⟩
      obtain ⟨b, off, rfl, D0, D1, D2, _, _, _, _, _, _⟩ := H0.nine hbel hs
      have htk := flatRun_out (ss.take k)
      have htl : (ss.take k).length ≤ 82 := by rw [List.length_take]; omega
      by_cases h1 : s.k = 1
      · have t0 : (s.k == 1) = true := by simp [h1]
        have hsok := ok_load (stepsOk_at Hok.out hs) h1
        have Nx := Lib.hid (show (flatRun (ss.take (k + 1))).2.length = (flatRun (ss.take k)).2.length + 1 by rw [out_next1 hs h1, List.length_append]; rfl)
        have X := out_at hs h1
        have hN : (flatRun (ss.take k)).2.length < (flatRun ss).2.length := (List.getElem?_eq_some_iff.1 X).1
        obtain ⟨bg, og, rfl, DG⟩ := HG.at hN
        have X2 : nth (flatRun ss).2 (flatRun (ss.take k)).2.length = nth (flatRun (ss.take k)).1 s.a.toNat := by rw [nth, List.getD_eq_getElem?_getD, X]; rfl
        have Xq := Lib.hid X2
        clear DG
        have Hs := Lib.hid hs
        clear hs X X2
        obtain ⟨sk, A, sx, ck, ce, ca, cb, cc, nm⟩ := s
        dsimp only at D0 D1 D2 hsok h1 t0 Xq
        subst h1
        obtain ⟨hA0, hA1⟩ := hsok
        obtain ⟨A, rfl⟩ := Int.eq_ofNat_of_zero_le hA0
        rw [Int.toNat_natCast] at Xq
        have hAl : A < 64 := by omega
        generalize hnn : (flatRun (ss.take k)).2.length = nn at Xq Nx hN htk
        clear hnn
        go_wp2_with fail
        go_loopw [8, 9] (fun l i wx => ∃ j : Nat, j ≤ k ∧ i = .int .i64 j ∧ l = .int .i64 (nth (flatRun (ss.take j)).1 A) ∧ Below w5.heap.size w5 wx) (fun _ i _ => k - (intOf i).toNat)
        case atStart => exact ⟨0, Nat.zero_le _, rfl, by rw [List.take_zero, mem_start], hbel⟩
        case round =>
          clear D0 D1 D2
          obtain ⟨j, hj, rfl, rfl, hbel2⟩ := hrel
          by_cases hlt2 : j < k
          · obtain ⟨r, hr⟩ : ∃ r, ss[j]? = some r := ⟨_, List.getElem?_eq_getElem (by omega)⟩
            obtain ⟨b', off', hab, D0, D1, D2, _, _, _, _, _, _⟩ := H0.nine hbel2 hr
            obtain ⟨rfl, rfl⟩ : b = b' ∧ off = off' := by simpa using hab
            obtain ⟨b', off', hab', _, E1, _, _, _, _, _, _, _⟩ := H0.nine hbel2 Hs.out
            obtain ⟨rfl, rfl⟩ : b = b' ∧ off = off' := by simpa using hab'
            have M := Lib.hid (mem_next hr A hAl (fun h2 => (ok_store (stepsOk_at Hok.out hr) h2).1))
            clear hr hab hab'
            generalize nth (flatRun (ss.take j)).1 A = l at M
            obtain ⟨rk, ra, rx, ck', ce', ca', cb', cc', nm'⟩ := r
            dsimp only at D0 D1 D2 E1 M
            by_cases h2 : rk = 2
            · have t2 : (rk == 2) = true := by simp [h2]
              by_cases hae : ra = A
              · have t3 : (ra == (A : Int)) = true := by simp [hae]
                have M' := Lib.hid (M.out.trans (if_pos ⟨h2, hae⟩))
                clear M h2 hae
                go_wp2_with fail
                go_quiet (fail)
                go_wp2_with fail
                go_roundw
                case rel => exact ⟨j + 1, by omega, by go_num, by rw [M'.out], Below.trans hbel2 ((below_drewN (Below.refl _ _) _).mono hbel2.size)⟩
                case measure => simp [intOf]; omega
              · have t3 : (ra == (A : Int)) = false := by simp [hae]
                have M' := Lib.hid (M.out.trans (if_neg (fun h => hae h.2)))
                clear M h2 hae
                go_wp2_with fail
                go_quiet (fail)
                go_wp2_with fail
                go_roundw
                case rel => exact ⟨j + 1, by omega, by go_num, by rw [M'.out], Below.trans hbel2 ((below_drewN (Below.refl _ _) _).mono hbel2.size)⟩
                case measure => simp [intOf]; omega
            · have t2 : (rk == 2) = false := by simp [h2]
              have M' := Lib.hid (M.out.trans (if_neg (fun h => h2 h.1)))
              clear M h2
              go_wp2_with fail
              go_quiet (fail)
              go_wp2_with fail
              go_roundw
              case rel => exact ⟨j + 1, by omega, by go_num, by rw [M'.out], Below.trans hbel2 ((below_drewN (Below.refl _ _) _).mono hbel2.size)⟩
              case measure => simp [intOf]; omega
          · obtain rfl : j = k := by omega
            obtain ⟨ag', cg', hv', _, _, HG2⟩ := RdInts.open (Rd.below r2 hbel2)
            simp only [Value.slice.injEq, true_and] at hv'
            obtain ⟨rfl, rfl⟩ := hv'
            obtain ⟨bg', og', hab, DG⟩ := HG2.at hN
            obtain ⟨rfl, rfl⟩ : bg = bg' ∧ og = og' := by simpa using hab
            rw [Xq.out] at DG
            clear hab HG2
            generalize nth (flatRun (ss.take j)).1 A = l at DG
            have t5 : (l != l) = false := by simp
            go_wp2_with fail
            go_roundw
            case rel => exact ⟨j + 1, by omega, by go_num, by rw [Nx.out]; go_num, hbel2⟩
            case measure => simp [intOf]; omega
      · have t0 : (s.k == 1) = false := by simp [h1]
        have Nx := Lib.hid (congrArg List.length (out_next0 hs h1))
        clear hs h1
        go_wp2_with fail
        go_roundw
        case rel => exact ⟨k + 1, by omega, by go_num, by rw [Nx.out], hbel⟩
        case measure => simp [intOf]; omega
    · have e1 : ss.take k = ss := List.take_of_length_le (by omega)
      rw [e1]
      go_wp2_with fail
      go_ret
      exact ⟨by simp, b5.trans (hbel.mono b5.size)⟩
end Go.Proofs.Ytabaemnknjdjoaa.fnFlat
