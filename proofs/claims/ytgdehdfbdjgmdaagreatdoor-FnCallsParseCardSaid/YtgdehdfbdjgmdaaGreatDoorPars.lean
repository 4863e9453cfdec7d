/-
  Walks: a call read out of a text, by the reference.
-/
import Derived.Test.YtgdehdfbdjgmdaaGreatDoorRdCall
set_option linter.unusedVariables false
namespace Go.Proofs.YtgdehdfbdjgmdaaGreatDoor
open Go.RowKit

def CallV.zero : CallV := ⟨0, 0, 0, 0, 0, ⟨#[]⟩⟩
/-- What reading a text gives: the call whose text it is, if there is one. -/
def Parsed (s : ByteArray) (x : CallV) (ok : Bool) : Prop := (ok = true ∧ fitsC x = true ∧ callB x = s) ∨ (ok = false ∧ x = CallV.zero ∧ ∀ y : CallV, fitsC y = true → callB y ≠ s)

theorem cut_callB {y : CallV} (h : fitsC y = true) : cutB 32 (callB y) = callWsB y := by
  obtain ⟨k, e, a, b, c, hx, h1, h2, h3, h4, h5, h6, h7, h8⟩ := fits_ranges h
  have := txt_cut (k := y.k.toNat) (e := y.e.toNat) (a := y.a.toNat) (b := y.b.toNat) (c := y.c.toNat) (nm := y.nm.data.toList) (by rw [hx]; simpa using h2) h8
  unfold cutB callWsB
  have e1 : (callB y).data.toList = callL y := rfl
  rw [e1, callL, this]
theorem callWsB_len (y : CallV) : (callWsB y).length = 6 := rfl
theorem parsed_len {s : ByteArray} (h : (cutB 32 s).length ≠ 6) : ∀ y : CallV, fitsC y = true → callB y ≠ s := by
  rintro y hy rfl
  rw [cut_callB hy] at h
  exact h (callWsB_len y)
theorem parsed_read {s : ByteArray} {x : CallV} (hr : ReadOk (cutB 32 s) x) (h : fitsC x = true → callB x ≠ s) : ∀ y : CallV, fitsC y = true → callB y ≠ s := by
  rintro y hy rfl
  have := hr y hy (cut_callB hy)
  subst this
  exact h hy rfl
theorem callB_inj {x y : CallV} (hx : fitsC x = true) (hy : fitsC y = true) (h : callB x = callB y) : x = y := by
  obtain ⟨k, e, a, b, c, hx', h1, h2, h3, h4, h5, h6, h7, h8⟩ := fits_ranges hx
  obtain ⟨k', e', a', b', c', hy', j1, j2, j3, j4, j5, j6, j7, j8⟩ := fits_ranges hy
  have hl : callL x = callL y := by simpa [callB] using h
  rw [callL, callL] at hl
  obtain ⟨xk, xe, xa, xb, xc, xn⟩ := x
  obtain ⟨yk, ye, ya, yb, yc, yn⟩ := y
  simp only [CallV.mk.injEq, and_true] at hx' hy'
  obtain ⟨rfl, rfl, rfl, rfl, rfl⟩ := hx'
  obtain ⟨rfl, rfl, rfl, rfl, rfl⟩ := hy'
  simp only [Int.toNat_natCast] at hl
  obtain ⟨rfl, rfl, rfl, rfl, rfl, hn⟩ := txt_inj h2 h8 j2 j8 h1 j1 hl
  have : xn = yn := by
    obtain ⟨⟨l⟩⟩ := xn
    obtain ⟨⟨l'⟩⟩ := yn
    simp at hn
    rw [hn]
  rw [this]
theorem Parsed.uniq {s : ByteArray} {x y : CallV} {a b : Bool} (h : Parsed s x a) (h' : Parsed s y b) : x = y ∧ a = b := by
  rcases h with ⟨rfl, h1, h2⟩ | ⟨rfl, h1, h2⟩ <;> rcases h' with ⟨rfl, h3, h4⟩ | ⟨rfl, h3, h4⟩
  · exact ⟨callB_inj h1 h3 (h2.trans h4.symm), rfl⟩
  · exact absurd h2 (h4 x h1)
  · exact absurd h4 (h2 y h3)
  · exact ⟨h1.trans h3.symm, rfl⟩
theorem piece_size (a : UInt8) (s : ByteArray) (k : Nat) : (nthS (cutB a s) k).size ≤ s.size := by
  unfold nthS
  by_cases hk : k < (cutB a s).length
  · have hm : (cutB a s)[k] ∈ cutB a s := List.getElem_mem hk
    obtain ⟨l, hl, he⟩ := List.mem_map.1 hm
    have := (cutL_mem a _ l hl).1
    have e : (cutB a s).getD k ⟨#[]⟩ = ofL l := by rw [List.getD_eq_getElem?_getD, List.getElem?_eq_getElem hk, Option.getD_some, he]
    rw [e]
    have e2 : (ofL l).size = l.length := by simp [ofL, ByteArray.size]
    have e3 : s.data.toList.length = s.size := by simp
    omega
  · rw [List.getD_eq_getElem?_getD, List.getElem?_eq_none (Nat.le_of_not_lt hk), Option.getD_none]
    exact Nat.zero_le _

theorem l43Cut_32 (s : ByteArray) (w : World) (hs : s.size ≤ 1048577) :
    Calls Tryz.prog 17 #[.string s, .int .u8 32] w fun e w' => ∃ v, e = .returned v ∧ OwnStrs w.heap.size w' v (cutB 32 s) ∧ Below w.heap.size w w' := l43Cut_any s 32 w hs
theorem l43Cut_59 (s : ByteArray) (w : World) (hs : s.size ≤ 1048577) :
    Calls Tryz.prog 17 #[.string s, .int .u8 59] w fun e w' => ∃ v, e = .returned v ∧ OwnStrs w.heap.size w' v (cutB 59 s) ∧ Below w.heap.size w w' := l43Cut_any s 59 w hs

set_option maxRecDepth 100000 in
set_option maxHeartbeats 4000000 in
theorem CallParse_spec (s : ByteArray) (w : World) (hs : s.size ≤ 1048577) :
    Calls Tryz.prog 18 #[.string s] w fun e w' => (∃ (x : CallV) (ok : Bool), e = .returned (.tuple #[x.val, .bool ok]) ∧ Parsed s x ok) ∧ Below w.heap.size w w' := by
  have hN := Lib.hid (heap_alloc_new w (.cells CallV.zero.cells 30))
  have hB := Lib.hid (below1 w (.cells CallV.zero.cells 30))
  go_enter Tryz.func18, Tryz.ntmps18
  go_wp2_with fail
  refine (l43Cut_32 s _ hs).mono ?_; rintro e w1 ⟨v, rfl, ho, b1⟩
  have hN1 := (b1.block w.heap.size (by simp)).trans hN.out
  have hB1 := hB.out.trans (b1.mono hB.out.size)
  obtain ⟨d0, d1, d2, d3, d4, d5⟩ := call_cells hN1
  have hf := blk_frozen hN1
  have hR := ho.rd
  obtain ⟨a, cap, rfl, hnc, hcm, _⟩ := hR.open
  have HR := Lib.hid hR
  have HN := Lib.hid hN1
  have HB := Lib.hid hB1
  clear ho hR hN1 hB1 b1
  by_cases hl : (cutB 32 s).length = 6
  · have t : (((cutB 32 s).length : Int) != 6) = false := by simp; omega
    have hz := fun k (_ : k < 6) => Nat.le_trans (piece_size 32 s k) hs
    have Hz := Lib.hid hz
    have Hl := Lib.hid hl
    clear hz hl
    go_wp2_with fail
    refine (l43Call_any _ _ _ HR.out Hl.out Hz.out).mono ?_; rintro e w2 ⟨⟨x, rfl, hx, hro⟩, b2⟩
    have HN2 := Lib.hid (blk_under HN.out b2)
    have HB2 := Lib.hid (HB.out.trans (b2.mono HB.out.size))
    have HRo := Lib.hid hro
    clear d0 d1 d2 d3 d4 d5 hf b2 hro HR
    have hx' : x.nm.size ≤ maxLen := Nat.le_trans hx (by decide)
    have F := Lib.hid (fun w => CallFits_spec x w hx')
    have T := Lib.hid (fun w => CallText_spec x w hx')
    have hN3 := Lib.hid (heap_alloc_new w2 (.cells x.cells 30))
    have hB3 := Lib.hid (below1 w2 (.cells x.cells 30))
    have hlt := blk_lt HN2.out
    cases hf : fitsC x
    · have P := Lib.hid (parsed_read HRo.out (fun h => by rw [hf] at h; cases h))
      rw [hf] at F
      clear hf
      obtain ⟨k, e, a, b, c, nm⟩ := x
      simp only [CallV.val, CallV.cells] at F hN3 hB3 ⊢
      go_wp2_with fail
      refine (F.out _).mono ?_; rintro e' w3 ⟨rfl, b3⟩
      have HN3 := (b3.block w.heap.size (by simp; omega)).trans ((hB3.out.block _ hlt).trans HN2.out)
      have HB3 := HB2.out.trans ((hB3.out.trans (b3.mono hB3.out.size)).mono HB2.out.size)
      obtain ⟨d0, d1, d2, d3, d4, d5⟩ := call_cells HN3
      have hf := blk_frozen HN3
      have Q := Lib.hid (rc_end CallV.zero HN3 HB3)
      clear HN3 HB3 b3
      go_wp2_with fail
      obtain ⟨⟨E0, E1, E2, E3, E4, E5⟩, Fin⟩ := Q.out
      simp only [CallV.zero] at E0 E1 E2 E3 E4 E5 Fin
      exact bodyPost_ret (v := .tuple #[.agg #[.int .i64 0, .int .i64 0, .int .i64 0, .int .i64 0, .int .i64 0, .string ⟨#[]⟩], .bool false]) (by simp [results, Tryz.results18, go_sem, E0, E1, E2, E3, E4, E5]) rfl ⟨⟨CallV.zero, false, rfl, .inr ⟨rfl, rfl, P.out⟩⟩, Fin⟩
    · have ht : textB x = callB x := by simp [textB, hf]
      rw [ht] at T
      rw [hf] at F
      by_cases hc : callB x = s
      · have P := Lib.hid (show Parsed s x true from .inl ⟨rfl, hf, hc⟩)
        have tq : ((callB x).toList == s.toList) = true := by simp [hc]
        clear hf ht hc
        have Q1 := Lib.hid (fun (w W : World) (hR : W.heap[w.heap.size]? = some (.cells CallV.zero.cells 30 (0, 0))) (hb : Below w.heap.size w W) => rc_end x hR hb)
        generalize callB x = cb at T tq
        obtain ⟨k, e, a, b, c, nm⟩ := x
        simp only [CallV.val, CallV.cells] at F T hN3 hB3 ⊢
        go_wp2_with fail
        refine (F.out _).mono ?_; rintro e' w3 ⟨rfl, b3⟩
        have hN4 := (b3.block w2.heap.size (by simp)).trans hN3.out
        have HN3 := Lib.hid ((b3.block w.heap.size (by simp; omega)).trans ((hB3.out.block _ hlt).trans HN2.out))
        have HB3 := Lib.hid (HB2.out.trans ((hB3.out.trans (b3.mono hB3.out.size)).mono HB2.out.size))
        obtain ⟨d0, d1, d2, d3, d4, d5⟩ := call_cells (x := ⟨k, e, a, b, c, nm⟩) hN4
        have HN4 := Lib.hid hN4
        clear hN4 b3
        go_wp2_with fail
        refine (T.out _).mono ?_; rintro e' w4 ⟨rfl, b4⟩
        have hN5 := blk_under HN4.out b4
        have HN5 := blk_under HN3.out b4
        have HB5 := HB3.out.trans (b4.mono HB3.out.size)
        clear d0 d1 d2 d3 d4 d5
        obtain ⟨d0, d1, d2, d3, d4, d5⟩ := call_cells (x := ⟨k, e, a, b, c, nm⟩) hN5
        obtain ⟨r0, r1, r2, r3, r4, r5⟩ := call_cells HN5
        have hf := blk_frozen HN5
        have Q := Lib.hid (Q1.out _ _ HN5 HB5)
        clear HN5 HB5 hN5 b4
        go_wp2_with fail
        obtain ⟨⟨E0, E1, E2, E3, E4, E5⟩, Fin⟩ := Q.out
        dsimp only at E0 E1 E2 E3 E4 E5 Fin
        exact bodyPost_ret (v := .tuple #[.agg #[_, _, _, _, _, _], .bool true]) (by simp [results, Tryz.results18, go_sem, E0, E1, E2, E3, E4, E5]) rfl ⟨⟨⟨k, e, a, b, c, nm⟩, true, rfl, P.out⟩, Fin⟩
      · have P := Lib.hid (parsed_read HRo.out (fun _ => hc))
        have tq : ((callB x).toList == s.toList) = false := by
          rw [beq_eq_false_iff_ne]
          intro e
          apply hc
          rw [Lib.toList_data, Lib.toList_data] at e
          rw [← ofL_of (callB x), e, ofL_of]
        clear hf ht hc
        generalize callB x = cb at T tq
        obtain ⟨k, e, a, b, c, nm⟩ := x
        simp only [CallV.val, CallV.cells] at F T hN3 hB3 ⊢
        go_wp2_with fail
        refine (F.out _).mono ?_; rintro e' w3 ⟨rfl, b3⟩
        have hN4 := (b3.block w2.heap.size (by simp)).trans hN3.out
        have HN3 := Lib.hid ((b3.block w.heap.size (by simp; omega)).trans ((hB3.out.block _ hlt).trans HN2.out))
        have HB3 := Lib.hid (HB2.out.trans ((hB3.out.trans (b3.mono hB3.out.size)).mono HB2.out.size))
        obtain ⟨d0, d1, d2, d3, d4, d5⟩ := call_cells (x := ⟨k, e, a, b, c, nm⟩) hN4
        clear hN4 b3
        go_wp2_with fail
        refine (T.out _).mono ?_; rintro e' w4 ⟨rfl, b4⟩
        have HN5 := blk_under HN3.out b4
        have HB5 := HB3.out.trans (b4.mono HB3.out.size)
        clear d0 d1 d2 d3 d4 d5
        obtain ⟨r0, r1, r2, r3, r4, r5⟩ := call_cells HN5
        have hf := blk_frozen HN5
        have Q := Lib.hid (rc_end CallV.zero HN5 HB5)
        clear HN5 HB5 b4
        go_wp2_with fail
        obtain ⟨⟨E0, E1, E2, E3, E4, E5⟩, Fin⟩ := Q.out
        simp only [CallV.zero] at E0 E1 E2 E3 E4 E5 Fin
        exact bodyPost_ret (v := .tuple #[.agg #[.int .i64 0, .int .i64 0, .int .i64 0, .int .i64 0, .int .i64 0, .string ⟨#[]⟩], .bool false]) (by simp [results, Tryz.results18, go_sem, E0, E1, E2, E3, E4, E5]) rfl ⟨⟨CallV.zero, false, rfl, .inr ⟨rfl, rfl, P.out⟩⟩, Fin⟩
  · have t : (((cutB 32 s).length : Int) != 6) = true := by simp; omega
    have P := Lib.hid (parsed_len hl)
    have Q := Lib.hid (rc_end CallV.zero HN.out HB.out)
    clear hl HR
    go_wp2_with fail
    obtain ⟨⟨E0, E1, E2, E3, E4, E5⟩, Fin⟩ := Q.out
    simp only [CallV.zero] at E0 E1 E2 E3 E4 E5 Fin
    exact bodyPost_ret (v := .tuple #[.agg #[.int .i64 0, .int .i64 0, .int .i64 0, .int .i64 0, .int .i64 0, .string ⟨#[]⟩], .bool false]) (by simp [results, Tryz.results18, go_sem, E0, E1, E2, E3, E4, E5]) rfl ⟨⟨CallV.zero, false, rfl, .inr ⟨rfl, rfl, P.out⟩⟩, Fin⟩
end Go.Proofs.YtgdehdfbdjgmdaaGreatDoor
