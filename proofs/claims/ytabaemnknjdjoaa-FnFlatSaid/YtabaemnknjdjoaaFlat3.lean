/-
  Walks: the reference's run against a flat memory.
-/
import Derived.Test.YtabaemnknjdjoaaFlat2
import Derived.StillTailTactics
set_option linter.unusedVariables false
namespace Go.Proofs.Ytabaemnknjdjoaa
open Go.RowKit

set_option maxRecDepth 100000 in
set_option maxHeartbeats 4000000 in
theorem FlatPlay_spec (v : Value) (ss : List StepV) (w : World) (h : RdSteps w v ss) :
    Calls Try.prog 20 #[v] w (FlatRes w (flatOut ss)) := by
  obtain ⟨a, c, hv, hc, hcm, H0⟩ := h.open
  subst hv
  unfold maxLen at hcm
  cases hok : stepsOk ss
  · have S := Lib.hid (show flatOut ss = [] by simp [flatOut, hok])
    have Hok := Lib.hid hok; clear hok
    go_enter Try.func20, Try.ntmps20
    go_wp2_with (at_make; go_must (refine wp_make (n := 64) rfl rfl 3 (.int .i64 0) 8 Try.underlying30 Try.infoInt rfl rfl (by omega) (by unfold maxLen; omega) ?_; intro w2 hown hbel hsz))
    have o2 := ownsRow_below (ownsRow_empty w 3 1) hbel
    have b2 := (below1 w _).trans (hbel.mono (by simp))
    simp only [World.size_alloc] at hown hsz ⊢
    clear hown hbel hsz
    have hE : ∀ w', Below w2.heap.size w2 w' → FlatRes w (flatOut ss) (.returned (.slice (some ⟨w.heap.size, 0, none⟩) 0 0)) w' := fun w' hb =>
      ⟨_, rfl, by rw [S.out]; exact ownsRow_below o2 hb, b2.trans (hb.mono b2.size)⟩
    have HE := Lib.hid hE; clear hE o2
    by_cases hz : 0 < ss.length
    · go_wp2_with fail
      refine wp_loop_rounds 1 ?_; rw [rounds_succ]
      go_wp2_with fail
      refine (StepsValid_spec _ ss _ (Rd.below h b2)).mono ?_; rintro e w3 ⟨rfl, b3⟩; rw [Hok.out]
      go_wp2_with fail
      go_ret
      exact HE.out _ b3
    · go_wp2_with fail
      refine wp_loop_rounds 1 ?_; rw [rounds_succ]
      go_wp2_with fail
      go_ret
      exact HE.out _ (Below.refl _ _)
  have S := Lib.hid (show flatOut ss = (flatRun ss).2 by simp [flatOut, hok])
  have Hok := Lib.hid hok; clear hok
  have hlen := stepsOk_len Hok.out
  go_enter Try.func20, Try.ntmps20
  go_wp2_with (at_make; go_must (refine wp_make (n := 64) rfl rfl 3 (.int .i64 0) 8 Try.underlying30 Try.infoInt rfl rfl (by omega) (by unfold maxLen; omega) ?_; intro w2 hown hbel hsz))
  have o2 := ownsRow_below (ownsRow_empty w 3 1) hbel
  have b2 := (below1 w _).trans (hbel.mono (by simp))
  simp only [World.size_alloc] at hown hsz ⊢
  have St : FlatSt w.heap.size (w.heap.size + 1) (.slice (some ⟨w.heap.size, 0, none⟩) 0 0) (flatRun []) w w2 :=
    ⟨by unfold OwnInts; simpa [flatRun] using own_loV hown (by omega), by simpa [OwnInts, flatRun] using o2, fun k hk => by simp [Value.ownBlock] at hk ⊢; omega, b2, b2.size⟩
  clear hown hbel hsz o2 b2
  generalize hw1 : w.heap.size + 1 = g at St
  generalize (Value.slice (some { block := w.heap.size, off := 0 }) 0 0) = o0 at St
  clear hw1
  go_wp2_with fail
  go_loopw [3, 5] (fun o i wr => ∃ k : Nat, k ≤ ss.length ∧ i = .int .i64 k ∧ FlatSt w.heap.size g o (flatRun (ss.take k)) w wr) (fun _ i _ => ss.length - (intOf i).toNat)
  case atStart => exact ⟨0, Nat.zero_le _, rfl, St⟩
  case round =>
    clear St
    obtain ⟨k, hk, rfl, St⟩ := hrel
    by_cases hlt : k < ss.length
    · go_wp2_with fail
      refine (StepsValid_spec _ ss _ (Rd.below h St.2.2.2.1)).mono ?_; rintro e w3 ⟨rfl, b3⟩; rw [Hok.out]
      replace St := St.below b3
      clear b3
      obtain ⟨s, hs⟩ : ∃ s, ss[k]? = some s := ⟨_, List.getElem?_eq_getElem hlt⟩
      obtain ⟨b, off, rfl, D0, D1, D2, _, _, _, _, _, _⟩ := H0.nine St.2.2.2.1 hs
      have hsok := stepsOk_at Hok.out hs
      have Nx := Lib.hid (flatRun_next hs)
      have Hs := Lib.hid hs; clear hs
      have hol := flatRun_out (ss.take k)
      have htk : (ss.take k).length ≤ 80 := by rw [List.length_take]; omega
      have hwl := flatRun_len (ss.take k)
      generalize flatRun (ss.take k) = st at St Nx hol hwl
      have Hwl := Lib.hid hwl; clear hwl
      obtain ⟨sk, sa, sx, ck, ce, ca, cb, cc, nm⟩ := s
      dsimp only at D0 D1 D2
      by_cases h1 : sk = 1
      · obtain ⟨ha0, ha1⟩ := ok_load hsok h1
        dsimp only at ha0 ha1
        rw [flatStep1 h1] at Nx
        subst h1
        clear hsok
        obtain ⟨j, rfl⟩ := Int.eq_ofNat_of_zero_le ha0
        have C : w3.cell? ⟨g, j, none⟩ = some (.int .i64 (nth st.1 j)) := by
          have hw1 := Hwl.out
          have := St.1
          unfold OwnInts at this
          rw [hw1] at this
          exact (this.cellAt j (by omega)).trans (getElem_ints (by omega))
        generalize hx : nth st.1 j = x at C
        have Hx := Lib.hid hx; clear hx
        have h2len : st.2.length ≤ 80 := by omega
        go_wp2_with (at_builtin; go_must (refine wp_appendL (lo := w.heap.size) (n := st.2.length) (xs := st.2.map (Value.int .i64)) (m := 1) (news := [.int .i64 x]) rfl rfl 3 (.int .i64 0) 1 8 Try.underlying30 Try.infoInt rfl (by decide) rfl (St.below (below1 _ _)).2.1 rfl (Rd.newsAt _ #[_] _ 1 1 _ (by simp) rfl (by simp [maxLen])) (by simp [Value.oneCell']) (by unfold maxLen; omega) (by omega) (St.below (below1 _ _)).2.2.2.2 ?_; intro o' w4 g1 g2 g3 g4))
        go_roundw
        case rel => exact ⟨k + 1, by omega, by go_num, by rw [Nx.out, Int.toNat_natCast, Hx.out]; exact (St.below (below1 _ _)).load g1 g2 g3 g4⟩
        case measure => simp [intOf]; omega
      · by_cases h2 : sk = 2
        · obtain ⟨ha0, ha1⟩ := ok_store hsok h2
          dsimp only at ha0 ha1
          rw [flatStep2 h2] at Nx
          subst h2
          clear hsok h1
          obtain ⟨j, rfl⟩ := Int.eq_ofNat_of_zero_le ha0
          have hj1 : (j : Int) < 64 := by omega
          have hk1 : (k : Int) < ss.length := by omega
          go_wp2_with fail
          go_still_tail 12, (by kernel_rfl)
          change wpList _ _ _ _ _ w3.drew
          have Std : FlatSt w.heap.size g _ st w w3.drew := St.below (below_drewN (Below.refl _ _) 1)
          clear D0 D1 D2 St
          generalize w3.drew = w4 at Std
          have own1 := Std.1
          unfold OwnInts at own1
          rw [Hwl.out] at own1
          have C := (own1.cellAt j (by omega)).trans (getElem_ints (xs := st.1) (by have := Hwl.out; omega))
          have F := own1.frozenAt j
          clear own1
          go_wp2_with fail
          go_roundw
          case rel => exact ⟨k + 1, by omega, by go_num, by rw [Nx.out, Int.toNat_natCast]; exact Std.store Hwl.out j sx⟩
          case measure => simp [intOf]; omega
        · have t1 : (sk == 1) = false := by simp [h1]
          have t2 : (sk == 2) = false := by simp [h2]
          rw [flatStep3 h1 h2] at Nx
          clear h1 h2
          go_wp2_with fail
          go_roundw
          case rel => exact ⟨k + 1, by omega, by go_num, by rw [Nx.out]; exact St⟩
          case measure => simp [intOf]; omega
    · have e1 : ss.take k = ss := List.take_of_length_le (by omega)
      rw [e1] at St
      go_wp2_with fail
      go_ret
      exact ⟨_, rfl, by rw [S.out]; exact St.2.1, St.2.2.2.1⟩
end Go.Proofs.Ytabaemnknjdjoaa
