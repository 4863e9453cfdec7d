/-
  Walks: runs against a flat memory.
-/
import Derived.Test.YtabaemnknjdjoaaFlat1
set_option linter.unusedVariables false
namespace Go.Proofs.Ytabaemnknjdjoaa
open Go.RowKit

def FlatRes (w : World) (xs : List Int) (e : Ending) (w' : World) : Prop := ∃ v', e = .returned v' ∧ OwnInts w.heap.size w' v' xs ∧ Below w.heap.size w w'

theorem FlatSt.start {w w1 w2 : World} {lo g : Nat} {o : Value} (h : w2.ownsRow lo 3 1 (.slice (some ⟨g, 0, none⟩) 64 64) 64 (List.replicate 64 (.int .i64 0))) (ho : OwnInts lo w2 o []) (hap : Apart o (.slice (some ⟨g, 0, none⟩) 64 64)) (hb : Below lo w w2) (hl : lo ≤ w2.heap.size) : FlatSt lo g o (flatRun []) w w2 :=
  ⟨by unfold OwnInts; simpa [flatRun] using h, ho, hap, hb, hl⟩

set_option maxRecDepth 100000 in
set_option maxHeartbeats 4000000 in
theorem FlatPlay_impl (v : Value) (ss : List StepV) (w : World) (h : RdSteps w v ss) :
    Calls Try.prog 21 #[v] w (FlatRes w (flatOut ss)) := by
  obtain ⟨a, c, hv, hc, hcm, H0⟩ := h.open
  subst hv
  unfold maxLen at hcm
  cases hok : stepsOk ss
  · have S := Lib.hid (show flatOut ss = [] by simp [flatOut, hok])
    have Hok := Lib.hid hok; clear hok
    go_enter Try.func21, Try.ntmps21
    go_wp2_with fail
    refine (StepsValid_impl _ ss _ h).mono ?_; rintro e w1 ⟨rfl, b1⟩; rw [Hok.out]
    go_wp2_with fail
    go_ret
    exact ⟨_, rfl, by rw [S.out]; exact World.ownsRow_nil _ _ _ _, b1⟩
  have S := Lib.hid (show flatOut ss = (flatRun ss).2 by simp [flatOut, hok])
  have Hok := Lib.hid hok; clear hok
  have hlen := stepsOk_len Hok.out
  go_enter Try.func21, Try.ntmps21
  go_wp2_with fail
  refine (StepsValid_impl _ ss _ h).mono ?_; rintro e w1 ⟨rfl, b1⟩; rw [Hok.out]
  have hsz1 := b1.size
  go_wp2_with (refine wp_make (n := 64) rfl rfl 3 (.int .i64 0) 8 Try.underlying30 Try.infoInt rfl rfl (by omega) (by unfold maxLen; omega) ?_; intro w2 hown hbel hsz)
  have St : FlatSt w.heap.size w1.heap.size (.slice none 0 0) (flatRun []) w w2 :=
    ⟨by unfold OwnInts; simpa [flatRun] using own_loV hown hsz1, World.ownsRow_nil _ _ _ _, fun k hk => by simp [Value.ownBlock] at hk, b1.trans (hbel.mono hsz1), Nat.le_trans hsz1 hbel.size⟩
  clear hown hbel hsz
  go_wp2_with fail
  generalize hw1 : w1.heap.size = g at St
  clear hw1
  go_loopw [4, 6, 13] (fun o _ i wr => ∃ k : Nat, k ≤ ss.length ∧ i = .int .i64 k ∧ FlatSt w.heap.size g o (flatRun (ss.take k)) w wr) (fun _ _ i _ => ss.length - (intOf i).toNat)
  case atStart => exact ⟨0, Nat.zero_le _, rfl, St⟩
  case round =>
    clear St
    obtain ⟨k, hk, rfl, St⟩ := hrel
    by_cases hlt : k < ss.length
    · obtain ⟨s, hs⟩ : ∃ s, ss[k]? = some s := ⟨_, List.getElem?_eq_getElem hlt⟩
      obtain ⟨b, off, rfl, D0, D1, D2, D3, D4, D5, D6, D7, D8⟩ := H0.nine St.2.2.2.1 hs
      have hsok := stepsOk_at Hok.out hs
      have Nx := Lib.hid (flatRun_next hs)
      have Hs := Lib.hid hs; clear hs
      have hol := flatRun_out (ss.take k)
      have htk : (ss.take k).length ≤ 80 := by rw [List.length_take]; omega
      have hwl := flatRun_len (ss.take k)
      generalize flatRun (ss.take k) = st at St Nx hol hwl
      have Hwl := Lib.hid hwl; clear hwl
      obtain ⟨sk, sa, sx, ck, ce, ca, cb, cc, nm⟩ := s
      dsimp only at D0 D1 D2 D3 D4 D5 D6 D7 D8
      by_cases h1 : sk = 1
      · obtain ⟨ha0, ha1⟩ := ok_load hsok h1
        dsimp only at ha0 ha1
        rw [flatStep1 h1] at Nx
        subst h1
        clear hsok
        obtain ⟨j, rfl⟩ := Int.eq_ofNat_of_zero_le ha0
        have St1 := St.below (below1 wr (.cells #[.int .i64 1, .int .i64 j, .int .i64 sx, .int .i64 ck, .int .i64 ce, .int .i64 ca, .int .i64 cb, .int .i64 cc, .string nm] 40))
        have C : (wr.alloc (.cells #[.int .i64 1, .int .i64 j, .int .i64 sx, .int .i64 ck, .int .i64 ce, .int .i64 ca, .int .i64 cb, .int .i64 cc, .string nm] 40)).cell? ⟨g, j, none⟩ = some (.int .i64 (nth st.1 j)) := by
          have hw1 := Hwl.out
          have := St1.1
          unfold OwnInts at this
          rw [hw1] at this
          exact (this.cellAt j (by omega)).trans (getElem_ints (by omega))
        generalize hx : nth st.1 j = x at C
        have Hx := Lib.hid hx; clear hx
        have h2len : st.2.length ≤ 80 := by omega
        go_wp2_with (at_builtin; go_must (refine wp_appendL (lo := w.heap.size) (n := st.2.length) (xs := st.2.map (Value.int .i64)) (m := 1) (news := [.int .i64 x]) rfl rfl 3 (.int .i64 0) 1 8 Try.underlying30 Try.infoInt rfl (by decide) rfl (St1.below (below1 _ _)).2.1 rfl (Rd.newsAt _ #[_] _ 1 1 _ (by simp) rfl (by simp [maxLen])) (by simp [Value.oneCell']) (by unfold maxLen; omega) (by omega) (St1.below (below1 _ _)).2.2.2.2 ?_; intro o' w3 g1 g2 g3 g4))
        go_roundw
        case rel => exact ⟨k + 1, by omega, by go_num, by rw [Nx.out, Int.toNat_natCast, Hx.out]; exact (St1.below (below1 _ _)).load g1 g2 g3 g4⟩
        case measure => simp [intOf]; omega
      · by_cases h2 : sk = 2
        · obtain ⟨ha0, ha1⟩ := ok_store hsok h2
          dsimp only at ha0 ha1
          rw [flatStep2 h2] at Nx
          subst h2
          clear hsok h1
          obtain ⟨j, rfl⟩ := Int.eq_ofNat_of_zero_le ha0
          have St1 := St.below (below1 wr (.cells #[.int .i64 2, .int .i64 j, .int .i64 sx, .int .i64 ck, .int .i64 ce, .int .i64 ca, .int .i64 cb, .int .i64 cc, .string nm] 40))
          have own1 := St1.1
          unfold OwnInts at own1
          rw [Hwl.out] at own1
          have C := (own1.cellAt j (by omega)).trans (getElem_ints (xs := st.1) (by have := Hwl.out; omega))
          have F := own1.frozenAt j
          clear own1
          go_wp2_with fail
          go_roundw
          case rel => exact ⟨k + 1, by omega, by go_num, by rw [Nx.out, Int.toNat_natCast]; exact St1.store Hwl.out j sx⟩
          case measure => simp [intOf]; omega
        · have t1 : (sk == 1) = false := by simp [h1]
          have t2 : (sk == 2) = false := by simp [h2]
          rw [flatStep3 h1 h2] at Nx
          clear h1 h2
          go_wp2_with fail
          go_roundw
          case rel => exact ⟨k + 1, by omega, by go_num, by rw [Nx.out]; exact St.below (below1 _ _)⟩
          case measure => simp [intOf]; omega
    · have e1 : ss.take k = ss := List.take_of_length_le (by omega)
      rw [e1] at St
      go_wp2_with fail
      go_ret
      exact ⟨_, rfl, by rw [S.out]; exact St.2.1, St.2.2.2.1⟩
end Go.Proofs.Ytabaemnknjdjoaa
