/-
  Walks: lists of steps marked.
-/
import Derived.Test.YtabaemnknjdjoaaStep5
import Derived.Test.YtabaemnknjdjoaaMText
namespace Go.Proofs.Ytabaemnknjdjoaa
open Go.RowKit

theorem getSome (xs : List Value) (j : Nat) (h : j < xs.length) : ∃ u, xs[j]? = some u := ⟨_, List.getElem?_eq_getElem h⟩

set_option maxRecDepth 100000 in
set_option maxHeartbeats 2000000 in
theorem markStepS_any (lo : Nat) (v : Value) (ss : List StepV) (k : Int) (w : World) (h : OwnSteps lo w v ss) (hs : ss.length ≤ 1048576) (hk0 : 0 ≤ k) (hk1 : k ≤ 1000000000) :
    Calls Try.prog 23 #[v, .int .i64 k] w fun e w' => e = .returned (.int .i64 (k + 9 * ss.length)) ∧ w.grownBy w' v.ownBlock := by
  by_cases hz : ss.length = 0
  · obtain ⟨a, c, rfl, _, _⟩ := h.rd.shape
    have hz' : ss.length ≤ 0 := by omega
    have Hz := Lib.hid hz; clear hz
    have hd : decide ((0 : Int) < ss.length) = false := by have := Hz.out; simp only [decide_eq_false_iff_not]; omega
    go_enter Try.func23, Try.ntmps23
    go_wp2_with fail
    refine wp_loop_rounds 1 ?_; rw [rounds_succ]
    go_wp2_with fail
    go_ret
    exact ⟨ret_int (by rw [Hz.out]; simp), ⟨rfl, rfl, rfl, Nat.le_refl _, fun _ _ _ => rfl⟩⟩
  · obtain ⟨g, cap, rfl, hg1, hg2⟩ := own_shape h (by omega)
    have Hz := Lib.hid hz; clear hz
    have HO : OwnSome w lo 40 9 g ss.length cap w := ⟨_, h, rfl, rfl, rfl, Nat.le_refl _, fun _ _ _ => rfl⟩
    clear h
    go_enter Try.func23, Try.ntmps23
    go_wp2_with fail
    go_loopw [1, 5] (fun m i wr => ∃ q : Nat, q ≤ ss.length ∧ i = .int .i64 q ∧ m = .int .i64 (k + 9 * q) ∧ OwnSome w lo 40 9 g ss.length cap wr) (fun _ i _ => ss.length - (intOf i).toNat)
    case atStart => exact ⟨0, Nat.zero_le _, rfl, by simp, HO⟩
    case round =>
      clear HO
      obtain ⟨q, hq, rfl, rfl, HO⟩ := hrel
      by_cases hlt : q < ss.length
      · obtain ⟨b0, E0⟩ := HO.cell (q * 9) (by omega)
        obtain ⟨b1, E1⟩ := HO.cell (q * 9 + 1) (by omega)
        obtain ⟨b2, E2⟩ := HO.cell (q * 9 + 2) (by omega)
        obtain ⟨b3, E3⟩ := HO.cell (q * 9 + 3) (by omega)
        obtain ⟨b4, E4⟩ := HO.cell (q * 9 + 4) (by omega)
        obtain ⟨b5, E5⟩ := HO.cell (q * 9 + 5) (by omega)
        obtain ⟨b6, E6⟩ := HO.cell (q * 9 + 6) (by omega)
        obtain ⟨b7, E7⟩ := HO.cell (q * 9 + 7) (by omega)
        have F := HO.frozen
        go_wp2_with fail
        refine (markText_any _ _ (by omega) (by omega)).mono ?_; rintro e w1 ⟨rfl, hbel1⟩
        have T := OwnSome.below ((((((((HO.set _ _).set _ _).set _ _).set _ _).set _ _).set _ _).set _ _).set _ _) hbel1
        clear HO hbel1 F E0 E1 E2 E3 E4 E5 E6 E7
        obtain ⟨b8, E8⟩ := T.cell (q * 9 + 3 + 5) (by omega)
        have F := T.frozen
        generalize mText _ = s8
        go_wp2_with fail
        go_roundw
        case rel => exact ⟨q + 1, by omega, by go_num, by go_num, T.set _ _⟩
        case measure => simp [intOf]; omega
      · obtain rfl : q = ss.length := by omega
        go_wp2_with fail
        go_ret
        obtain ⟨cs, _, hg⟩ := HO
        exact ⟨rfl, hg⟩
end Go.Proofs.Ytabaemnknjdjoaa
