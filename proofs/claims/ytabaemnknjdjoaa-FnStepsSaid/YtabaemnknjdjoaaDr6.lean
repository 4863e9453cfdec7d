/-
  Walks: a list of steps drawn.
-/
import Derived.Test.YtabaemnknjdjoaaDr4
import Derived.Test.YtabaemnknjdjoaaDr5
set_option linter.unusedVariables false
namespace Go.Proofs.Ytabaemnknjdjoaa
open Go.RowKit

theorem grown_rowNew {w w1 w2 : World} {g q : Nat} (h : w.grownBy w1 (some g)) (h2 : w1.grownBy w2 (some q)) (hq : w.heap.size ≤ q) : w.grownBy w2 (some g) :=
  ⟨h2.os.trans h.os, h2.tape.trans h.tape, h2.output.trans h.output, Nat.le_trans h.size h2.size, fun k hk hne => (h2.block k (Nat.lt_of_lt_of_le hk h.size) (fun e => by cases e; omega)).trans (h.block k hk hne)⟩

set_option maxRecDepth 100000 in
set_option maxHeartbeats 4000000 in
theorem l92Steps_any {w0 w : World} {g N : Nat} (calls : Bool) (h : Dr w0 g N w) (hN : N ≤ 100000) :
    Calls Try.prog 42 #[.pointer (some ⟨g, 0, none⟩), .bool calls] w (DrPost2 w0 g (N + 10000) w fun v w' => ∃ ss, OwnSteps w.heap.size w' v ss ∧ ss.length ≤ 82) := by
  have hlt := h.lt
  have hw0 : w0.heap.size ≤ w.heap.size := h.2.1.size
  go_enter Try.func42, Try.ntmps42
  go_wp2_with fail
  have o1 := ownsRow_empty w 40 9
  have h1 := h.alloc (.cells #[] 40)
  have g1 : w.grownBy (w.alloc (.cells #[] 40)) (some g) := grown_below (below1 _ _) _
  generalize w.alloc (.cells #[] 40) = wa at o1 h1 g1
  refine (h1.pick _ (by omega) (by decide)).mono ?_; rintro e w2 ⟨n, rfl, n0, n1, h2, g2⟩
  replace n1 := n1 (by decide)
  obtain ⟨n, rfl⟩ := Int.eq_ofNat_of_zero_le n0
  go_upto_if 17 with fail
  refine (h2.pick _ (by omega) (by decide)).mono ?_; rintro e w3 ⟨x, rfl, x0, x1, h3, g3⟩
  go_upto_if 17 with fail
  go_cut [6] (fun s6 wx => ∃ n : Nat, s6 = .int .i64 n ∧ n ≤ 82 ∧ Dr w0 g (N + 3) wx ∧ wa.grownBy wx (some g))
  case first =>
    by_cases hx : x = 0
    · subst hx
      go_wp2_with fail
      refine (h3.pick _ (by omega) (by decide)).mono ?_; rintro e w4 ⟨y, rfl, y0, y1, h4, g4⟩
      replace y1 := y1 (by decide)
      obtain ⟨y, rfl⟩ := Int.eq_ofNat_of_zero_le y0
      go_wp2_with fail
      go_meet
      exact ⟨79 + y, by go_num, by omega, h4, grown_trans (grown_trans g2 g3) g4⟩
    · have t0 : (x == 0) = false := by simp [hx]
      clear hx
      go_wp2_with fail
      go_meet
      exact ⟨n, rfl, by omega, h3.mono (by omega), grown_trans g2 g3⟩
  case rest =>
  obtain ⟨n, rfl, hn, h4, g4⟩ := hcut
  clear h2 h3 g2 g3
  go_wp2_with fail
  refine (h4.pick _ (by omega) (by decide)).mono ?_; rintro e w5 ⟨z, rfl, z0, z1, h5, g5⟩
  replace z1 := z1 (by decide)
  have g6 := grown_trans g4 g5
  clear h4 g4 g5
  go_wp2_with fail
  have hr3 := rd_three w5 tA tB tC 9 77
  refine (KernelNew_spec _ [[tA], [tB], [tC]] _ hr3 rfl rights_abc small_abc).mono ?_; rintro e w6 ⟨m, i, ev, c, rfl, hk, b6⟩
  clear hr3
  have b5 := (((below1 w5 (.cells #[.string tA] 9)).trans ((below1 _ (.cells #[.string tB] 9)).mono (by simp))).trans ((below1 _ (.cells #[.string tC] 9)).mono (by simp; omega))).trans ((below1 _ (.cells #[.slice (some ⟨w5.heap.size, 0, none⟩) 1 1, .slice (some ⟨w5.heap.size + 1, 0, none⟩) 1 1, .slice (some ⟨w5.heap.size + 1 + 1, 0, none⟩) 1 1] 77)).mono (by simp; omega))
  have b6' := b5.trans (b6.mono (by simp; omega))
  have hi := hk.2.1.lower (lo' := w.heap.size) (by have := g1.size; have := g6.size; simp; omega)
  have hm : ∃ q n c, m = .slice q n c := by
    obtain ⟨⟨vs, h1, _⟩, _⟩ := hk
    obtain ⟨q, c, e, _⟩ := RdF.open oneCs_len (by decide) (OwnF.rd h1)
    exact ⟨_, _, _, e⟩
  have he : ∃ q n c, ev = .slice q n c := by
    obtain ⟨_, _, ⟨ps, h1, _⟩, _⟩ := hk
    obtain ⟨q, c, e, _⟩ := RdF.open pairCs_len (by decide) (OwnF.rd h1)
    exact ⟨_, _, _, e⟩
  have hc : ∃ q n c', c = .slice q n c' := by
    obtain ⟨_, _, _, h1⟩ := hk
    obtain ⟨q, c, e, _⟩ := RdF.open cachedCs_len (by decide) (OwnF.rd h1)
    exact ⟨_, _, _, e⟩
  clear hk b6 b5
  obtain ⟨qi, ci, rfl, _, _, _⟩ := RdF.open infoCs_len (by decide) hi.rd
  obtain ⟨m0, m1, m2, rfl⟩ := hm
  obtain ⟨e0, e1, e2, rfl⟩ := he
  obtain ⟨c0, c1, c2, rfl⟩ := hc
  go_wp2_with fail
  have St : StepsSt w0 g (N + 4) w w6.heap.size (.slice (some ⟨w.heap.size, 0, none⟩) 0 0) [] (w6.alloc (.cells #[.slice m0 m1 m2, .slice qi (newKern [[tA], [tB], [tC]]).infos.length ci, .slice e0 e1 e2, .slice c0 c1 c2] 74)) := by
    have G := grown_trans g1 (grown_trans g6 (grown_below b6' _))
    have hz := G.size
    refine ⟨_, _, _, _, _, (h5.below b6').alloc _, grown_alloc G _, hlt, hw0, ?_, hz, heap_alloc_new _ _, hi.below (below1 _ _), ?_⟩
    · exact ownsRow_below (ownsRow_below (own_grown o1 g6 (.inr (by simp [Value.ownBlock]; omega))) b6') (below1 _ _)
    · simp [newKern]
  clear hi b6' g6 h5 o1 g1 h1
  generalize w6.alloc _ = wb at St
  generalize w6.heap.size = bk at St
  generalize (Value.slice (some ⟨w.heap.size, 0, none⟩) 0 0) = o at St
  go_loopw [5, 10] (fun o i wr => ∃ k : Nat, ∃ ss : List StepV, k ≤ n ∧ ss.length = k ∧ i = .int .i64 k ∧ StepsSt w0 g (N + 4 + 50 * k) w bk o ss wr) (fun _ i _ => n - (intOf i).toNat)
  case atStart => exact ⟨0, [], Nat.zero_le _, rfl, rfl, St⟩
  case round =>
    clear St
    obtain ⟨k, ss, hk, hsl, rfl, St⟩ := hrel
    by_cases hlt : k < n
    · go_wp2_with fail
      refine (St.dr.pick _ (by omega) (by decide)).mono ?_; rintro e w7 ⟨a, rfl, a0, a1, h7, g7⟩
      replace a1 := a1 (by decide)
      replace St := St.draw h7 g7
      clear h7 g7
      go_wp2_with fail
      refine (St.dr.pick _ (by omega) (by decide)).mono ?_; rintro e w8 ⟨p, rfl, p0, p1, h7, g7⟩
      replace p1 := p1 (by decide)
      replace St := St.draw h7 g7
      clear h7 g7
      go_wp2_with fail
      refine (St.dr.pick _ (by omega) (by decide)).mono ?_; rintro e w9 ⟨q, rfl, q0, q1, h7, g7⟩
      replace q1 := q1 (by decide)
      replace St := St.draw h7 g7
      clear h7 g7
      go_wp2_with fail
      refine (St.dr.pick _ (by omega) (by decide)).mono ?_; rintro e w10 ⟨x, rfl, x0, x1, h7, g7⟩
      replace x1 := x1 (by decide)
      replace St := St.draw h7 g7
      clear h7 g7
      go_upto_region 11 with fail
      generalize wrap64 (wrap64 (16 * z * p) + q) = A
      have SA : StepAt w.heap.size w10.heap.size u5 ⟨1 + a, A, x, 0, 0, 0, 0, 0, ⟨#[]⟩⟩ (w10.alloc (.cells (StepV.cells ⟨1 + a, A, x, 0, 0, 0, 0, 0, ⟨#[]⟩⟩) 40)) :=
        ⟨heap_alloc_new _ _, St.gr.1.size, fun e => by have := (World.ownsRow.lt St.own _ e).2; omega⟩
      replace St := St.below (below1 w10 (.cells (StepV.cells ⟨1 + a, A, x, 0, 0, 0, 0, 0, ⟨#[]⟩⟩) 40))
      simp only [StepV.cells] at SA St
      generalize w10.alloc _ = w11 at SA St
      generalize w10.heap.size = b at SA
      generalize (StepV.mk (1 + a) A x 0 0 0 0 0 ⟨#[]⟩) = s at SA
      replace SA := Lib.hid SA
      have hs82 : ss.length ≤ 81 := by omega
      have Hss := Lib.hid hsl; clear hsl
      cases calls
      · go_upto_region 13 with fail
        obtain ⟨d0, d1, d2, d3, d4, d5, d6, d7, d8⟩ := step_cells SA.out.1
        go_wp2_with (at_builtin; go_must (refine wp_appendL (lo := w.heap.size) (n := ss.length) (xs := stepCells ss) (m := 1) (news := s.cells.toList) rfl rfl 40 _ 9 _ Try.underlying25 Try.infoStep rfl (by decide) rfl (ownsRow_below St.own (below1 _ _)) rfl (Rd.newsAt _ s.cells _ 9 1 _ (by simp) rfl (by simp [maxLen])) (by simp [StepV.cells, Value.oneCell']) (by unfold maxLen; omega) (by omega) (by have := St.gr.1.size; simp; omega) ?_; intro o' w9 k1 k2 k3 k4))
        go_roundw
        case rel => exact ⟨k + 1, ss ++ [s], by omega, by simp [Hss.out], by go_num, ((St.below (below1 _ _)).push k1 k2).mono (by omega)⟩
        case measure => simp [intOf]; omega
      · go_wp2_with fail
        refine (St.dr.pick _ (by omega) (by decide)).mono ?_; rintro e w12 ⟨y, rfl, y0, y1, h7, g7⟩
        replace St := St.draw h7 g7
        replace SA := Lib.hid (SA.out.draw g7 St)
        clear h7 g7
        by_cases hy : y = 0
        · subst hy
          obtain ⟨qm, q2, qe, qc, xs, c0, c1, c2, c3, Hi, hl⟩ := St.kern
          have Hi := Lib.hid Hi
          go_wp2_with fail
          refine (l92Other_any qm q2 qe qc xs St.dr (by omega) (Hi.out) hl).mono ?_; rintro e w13 ⟨v, rfl, ⟨y, rfl, hy⟩, h7, g7⟩
          replace St := St.draw h7 g7
          replace SA := Lib.hid (SA.out.draw g7 St)
          clear h7 g7 c0 c1 c2 c3 Hi hl
          obtain ⟨y0, y1, y2, y3, y4, y5⟩ := y
          simp only [CallV.val, CallV.cells]
          obtain ⟨d0, d1, d2, d3, d4, d5, d6, d7, d8⟩ := step_cells SA.out.1
          have hf := blk_frozen SA.out.1
          have SB := step_set SA.out.1 ⟨3, 0, 0, y0, y1, y2, y3, y4, y5⟩
          replace St := St.setStep SA.out.1 SA.out.2.1 SA.out.2.2 (StepV.cells ⟨3, 0, 0, y0, y1, y2, y3, y4, y5⟩).toList 0
          replace SA := Lib.hid (show StepAt w.heap.size b u5 _ _ from ⟨SB, SA.out.2⟩)
          clear SB
          go_upto_region 13 with fail
          simp only [StepV.cells, setMany, Nat.zero_add, Nat.reduceAdd] at St SA
          clear d0 d1 d2 d3 d4 d5 d6 d7 d8 hf
          generalize World.setCell _ ⟨b, 8, none⟩ (.string y5) = w14 at St SA ⊢
          clear s
          generalize (StepV.mk 3 0 0 y0 y1 y2 y3 y4 y5) = s at SA
          obtain ⟨d0, d1, d2, d3, d4, d5, d6, d7, d8⟩ := step_cells SA.out.1
          go_wp2_with (at_builtin; go_must (refine wp_appendL (lo := w.heap.size) (n := ss.length) (xs := stepCells ss) (m := 1) (news := s.cells.toList) rfl rfl 40 _ 9 _ Try.underlying25 Try.infoStep rfl (by decide) rfl (ownsRow_below St.own (below1 _ _)) rfl (Rd.newsAt _ s.cells _ 9 1 _ (by simp) rfl (by simp [maxLen])) (by simp [StepV.cells, Value.oneCell']) (by unfold maxLen; omega) (by omega) (by have := St.gr.1.size; simp; omega) ?_; intro o' w9 k1 k2 k3 k4))
          go_roundw
          case rel => exact ⟨k + 1, ss ++ [s], by omega, by simp [Hss.out], by go_num, ((St.below (below1 _ _)).push k1 k2).mono (by omega)⟩
          case measure => simp [intOf]; omega
        · have t0 : (y == 0) = false := by simp [hy]
          clear hy
          go_upto_region 13 with fail
          obtain ⟨d0, d1, d2, d3, d4, d5, d6, d7, d8⟩ := step_cells SA.out.1
          go_wp2_with (at_builtin; go_must (refine wp_appendL (lo := w.heap.size) (n := ss.length) (xs := stepCells ss) (m := 1) (news := s.cells.toList) rfl rfl 40 _ 9 _ Try.underlying25 Try.infoStep rfl (by decide) rfl (ownsRow_below St.own (below1 _ _)) rfl (Rd.newsAt _ s.cells _ 9 1 _ (by simp) rfl (by simp [maxLen])) (by simp [StepV.cells, Value.oneCell']) (by unfold maxLen; omega) (by omega) (by have := St.gr.1.size; simp; omega) ?_; intro o' w9 k1 k2 k3 k4))
          go_roundw
          case rel => exact ⟨k + 1, ss ++ [s], by omega, by simp [Hss.out], by go_num, ((St.below (below1 _ _)).push k1 k2).mono (by omega)⟩
          case measure => simp [intOf]; omega
    · by_cases hz : 0 < n
      · go_wp2_with fail
        refine (St.dr.pick _ (by omega) (by decide)).mono ?_; rintro e w7 ⟨a, rfl, a0, a1, h7, g7⟩
        replace St := St.draw h7 g7
        clear h7 g7
        by_cases ha : a = 0
        · subst ha
          go_wp2_with fail
          refine (St.dr.pick _ (by omega) (by omega)).mono ?_; rintro e w8 ⟨p, rfl, p0, p1, h7, g7⟩
          replace p1 := p1 (by omega)
          replace St := St.draw h7 g7
          clear h7 g7
          go_wp2_with fail
          refine (St.dr.pick _ (by omega) (by decide)).mono ?_; rintro e w10 ⟨q, rfl, q0, q1, h7, g7⟩
          replace q1 := q1 (by decide)
          replace St := St.draw h7 g7
          clear h7 g7
          go_wp2_with fail
          refine (l91Address_any St.dr (by omega)).mono ?_; rintro e w11 ⟨v, rfl, ⟨A, rfl⟩, h7, g7⟩
          replace St := St.draw h7 g7
          clear h7 g7
          go_wp2_with fail
          refine (St.dr.pick _ (by omega) (by decide)).mono ?_; rintro e w12 ⟨x, rfl, x0, x1, h7, g7⟩
          replace x1 := x1 (by decide)
          replace St := St.draw h7 g7
          clear h7 g7
          obtain ⟨qb, cq, rfl, hq, hql⟩ := own_shape St.own (by omega)
          obtain ⟨p, rfl⟩ := Int.eq_ofNat_of_zero_le p0
          have hp : p < ss.length := by omega
          have hs82 : ss.length ≤ 82 := by omega
          clear hsl
          have own := St.own
          obtain ⟨a', c', hv, hcc, hcm, H0⟩ := (OwnSteps.rd own).open
          simp only [Value.slice.injEq, true_and] at hv
          obtain ⟨rfl, rfl⟩ := hv
          obtain ⟨sx, hs⟩ : ∃ x, ss[p]? = some x := ⟨_, List.getElem?_eq_getElem hp⟩
          obtain ⟨b, off, hab, D0, D1, D2, D3, D4, D5, D6, D7, D8⟩ := H0.nine (Below.refl _ _) hs
          obtain ⟨rfl, rfl⟩ : qb = b ∧ 0 = off := by simpa using hab
          simp only [Nat.zero_add] at D0 D1 D2 D3 D4 D5 D6 D7 D8
          have F := World.ownsRow.frozenAt own
          have S := Lib.hid (setMany_own own (p * 9) 0 (stepCs ⟨q, A, 10000 * x, 0, 0, 0, 0, 0, ⟨#[]⟩⟩))
          clear hs hab own H0 hcc
          unfold maxLen at hcm
          go_wp2_with fail
          go_ret
          refine ⟨_, rfl, ⟨ss.set p ⟨q, A, 10000 * x, 0, 0, 0, 0, 0, ⟨#[]⟩⟩, ?_, by simpa using hs82⟩, (St.dr.keep S.out.2 (by simp; omega) (fun k hk => by cases hk; omega)).mono (by omega), grown_rowNew St.gr.1 S.out.2 hq⟩
          have S1 := S.out.1
          have e1 := flat_set (cs := stepCs) (sz := 9) (fun _ => rfl) hp ⟨q, A, 10000 * x, 0, 0, 0, 0, 0, ⟨#[]⟩⟩
          unfold OwnSteps
          rw [List.length_set]
          exact (show setList (stepCells ss) (p * 9) 0 _ = stepCells (ss.set p _) from e1) ▸ S1
        · have t0 : (a == 0) = false := by simp [ha]
          clear ha
          go_wp2_with fail
          go_ret
          exact ⟨_, rfl, ⟨ss, St.own, by omega⟩, St.dr.mono (by omega), St.gr.1⟩
      · go_wp2_with fail
        go_ret
        exact ⟨_, rfl, ⟨ss, St.own, by omega⟩, St.dr.mono (by omega), St.gr.1⟩
end Go.Proofs.Ytabaemnknjdjoaa
