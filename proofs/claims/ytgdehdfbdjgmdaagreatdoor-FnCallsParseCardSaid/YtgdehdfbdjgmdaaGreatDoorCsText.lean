/-
  Walks: the text of calls, by the reference and by the program. Condition (the program): the table of strconv.Itoa lies as laid.
-/
import Derived.Test.YtgdehdfbdjgmdaaGreatDoorCallS
import Derived.Test.YtgdehdfbdjgmdaaGreatDoorParsI
set_option linter.unusedVariables false
set_option linter.unusedSimpArgs false
namespace Go.Proofs.YtgdehdfbdjgmdaaGreatDoor
open Go.RowKit Go.Shelf

def callsL (xs : List CallV) : List UInt8 := Lib.join (xs.map callL) [59]
def preB (xs : List CallV) : ByteArray := ⟨(callsL xs).toArray⟩
/-- The text of calls, or nothing. -/
def callsB (xs : List CallV) : ByteArray := if listFit xs = true then preB xs else ⟨#[]⟩

theorem join_snoc (ws : List (List UInt8)) (x : List UInt8) (a : UInt8) (h : ws ≠ []) : Lib.join (ws ++ [x]) [a] = Lib.join ws [a] ++ [a] ++ x := by
  induction ws with
  | nil => exact absurd rfl h
  | cons y ws ih =>
    cases ws with
    | nil => rw [List.cons_append, List.nil_append, join_two, Lib.join_one, Lib.join_one]; simp
    | cons z ws =>
      have e := ih (by simp)
      rw [List.cons_append] at e
      rw [List.cons_append, List.cons_append, join_two, e, join_two]
      simp
theorem empty_app (s : ByteArray) : (⟨#[]⟩ : ByteArray) ++ s = s := by
  obtain ⟨⟨l⟩⟩ := s
  rfl
theorem pre_nil : preB [] = ⟨#[]⟩ := by simp [preB, callsL, Lib.join_nil]
theorem pre_one (x : CallV) : preB [x] = callB x := by simp [preB, callsL, Lib.join_one, callB]
theorem pre_snoc {xs : List CallV} (h : xs ≠ []) (x : CallV) : preB (xs ++ [x]) = preB xs ++ ⟨#[59]⟩ ++ callB x := by
  unfold preB callsL
  rw [List.map_append, List.map_cons, List.map_nil, join_snoc _ _ _ (by simpa using h)]
  simp [callB, ByteArray.mk_append_mk]
theorem pre_step {xs : List CallV} {k : Nat} {x : CallV} (hx : xs[k]? = some x) (h : 0 < k) : preB (xs.take (k + 1)) = preB (xs.take k) ++ ⟨#[59]⟩ ++ callB x := by
  rw [take_one hx]
  refine pre_snoc ?_ x
  have h1 := (List.getElem?_eq_some_iff.1 hx).1
  intro e
  have h2 := congrArg List.length e
  rw [List.length_take, List.length_nil] at h2
  omega
theorem pre_first {xs : List CallV} {x : CallV} (hx : xs[0]? = some x) : preB (xs.take 1) = callB x := by
  rw [take_one hx]
  simp [pre_one]
theorem pre_size : ∀ {xs : List CallV}, (∀ x ∈ xs, fitsC x = true) → (preB xs).size ≤ 41 * xs.length
  | [], _ => by rw [pre_nil]; exact Nat.le_refl _
  | [x], h => by rw [pre_one]; have := callB_size (h x (by simp)); simp; omega
  | x :: y :: r, h => by
    have h1 := callB_size (h x (by simp))
    have h2 := pre_size (xs := y :: r) fun z hz => h z (List.mem_cons_of_mem _ hz)
    have e : (preB (x :: y :: r)).size = (callB x).size + (1 + (preB (y :: r)).size) := by
      simp only [preB, callsL, callB, ByteArray.size, List.size_toArray, List.map_cons, join_two, List.length_append, List.length_cons]
      omega
    rw [e]
    simp only [List.length_cons] at h2 ⊢
    omega
theorem listFit_iff {xs : List CallV} : listFit xs = true ↔ (∀ x ∈ xs, fitsC x = true) ∧ xs.length ≤ 12 := by simp [listFit]
theorem take_fit {xs : List CallV} {k : Nat} (h : ∀ x ∈ xs, fitsC x = true) : ∀ x ∈ xs.take k, fitsC x = true := fun x hx => h x (List.mem_of_mem_take hx)

set_option maxRecDepth 100000 in
set_option maxHeartbeats 4000000 in
theorem CallsText_spec (v : Value) (xs : List CallV) (w : World) (h : RdCalls w v xs) (hs : SmallC xs) :
    Calls Tryz.prog 11 #[v] w fun e w' => e = .returned (.string (callsB xs)) ∧ Below w.heap.size w w' := by
  obtain ⟨a, c, hv, hc, hcm, H0⟩ := h.open
  subst hv
  unfold maxLen at hcm
  have F := Lib.hid (fun w' (hb : Below w.heap.size w w') => l43Fit_any _ xs w' (h.below hb) hs)
  have Hs := Lib.hid hs
  clear h hs
  cases hf : listFit xs
  · have S := Lib.hid (show callsB xs = ⟨#[]⟩ by simp [callsB, hf])
    have hpos : 0 < xs.length := by
      rcases Nat.eq_zero_or_pos xs.length with h | h
      · have := List.eq_nil_of_length_eq_zero h
        subst this
        cases hf
      · exact h
    rw [hf] at F
    clear hf
    go_enter Tryz.func11, Tryz.ntmps11
    go_wp2_with fail
    refine wp_loop_rounds 1 ?_; rw [rounds_succ]
    go_wp2_with fail
    refine (F.out _ (Below.refl _ _)).mono ?_; rintro e w1 ⟨rfl, b1⟩
    go_wp2_with fail
    go_ret
    exact ⟨by rw [S.out]; rfl, b1⟩
  · have S := Lib.hid (show callsB xs = preB xs by simp [callsB, hf])
    obtain ⟨hall, hlen⟩ := listFit_iff.1 hf
    rw [hf] at F
    have Hall := Lib.hid hall
    clear hf hall
    go_enter Tryz.func11, Tryz.ntmps11
    go_wp2_with fail
    go_loopw [3, 4] (fun o i wr => ∃ k : Nat, k ≤ xs.length ∧ i = .int .i64 k ∧ o = .string (preB (xs.take k)) ∧ Below w.heap.size w wr) (fun _ i _ => xs.length - (intOf i).toNat)
    case atStart => exact ⟨0, Nat.zero_le _, rfl, by rw [List.take_zero, pre_nil], Below.refl _ _⟩
    case round =>
      obtain ⟨k, hk, rfl, rfl, hbel⟩ := hrel
      have Hb := Lib.hid hbel
      by_cases hlt : k < xs.length
      · obtain ⟨x, hx⟩ : ∃ x, xs[k]? = some x := ⟨_, List.getElem?_eq_getElem hlt⟩
        have hm := List.mem_of_getElem? hx
        have T := Lib.hid (fun w => CallText_spec x w (Hs.out x hm))
        have ht : textB x = callB x := by simp [textB, Hall.out x hm]
        rw [ht] at T
        have hz := pre_size (take_fit (k := k) Hall.out)
        rw [List.length_take] at hz
        have hzx := callB_size (Hall.out x hm)
        have hi : (k : Int) < xs.length := by omega
        by_cases hk0 : k = 0
        · have N := Lib.hid (pre_first (hk0 ▸ hx))
          have N0 := Lib.hid (show preB (xs.take k) = ⟨#[]⟩ by rw [hk0, List.take_zero, pre_nil])
          have t0 : ¬ (0 : Int) < k := by omega
          have Hk0 := Lib.hid hk0
          clear hbel hk0
          go_wp2_with fail
          refine (F.out _ Hb.out).mono ?_; rintro e w1 ⟨rfl, b1⟩
          have Hb1 := Lib.hid (Hb.out.trans (b1.mono Hb.out.size))
          obtain ⟨b, off, rfl, D0, D1, D2, D3, D4, D5⟩ := H0.six Hb1.out hx
          have Hx := Lib.hid hx
          clear hx b1
          obtain ⟨xk, xe, xa, xb, xc, xn⟩ := x
          simp only [CallV.val, CallV.cells] at T D0 D1 D2 D3 D4 D5
          generalize hcb : callB ⟨xk, xe, xa, xb, xc, xn⟩ = cb at T N hzx
          have n1 : ¬ 9223372036854775807 < (preB (xs.take k)).size + cb.size := by omega
          clear hcb
          go_wp2_with fail
          refine (T.out _).mono ?_; rintro e w2 ⟨rfl, b2⟩
          have Hb2 := Lib.hid (Hb1.out.trans (b2.mono Hb1.out.size))
          clear D0 D1 D2 D3 D4 D5 b2
          go_wp2_with fail
          go_roundw
          case rel => exact ⟨k + 1, by omega, by go_num, by rw [N0.out, show k + 1 = 1 by have := Hk0.out; omega, N.out, empty_app], Hb2.out⟩
          case measure => simp [intOf]; omega
        · have N := Lib.hid (pre_step hx (by omega))
          have t0 : (0 : Int) < k := by omega
          clear hbel hk0
          go_wp2_with fail
          refine (F.out _ Hb.out).mono ?_; rintro e w1 ⟨rfl, b1⟩
          have Hb1 := Lib.hid (Hb.out.trans (b1.mono Hb.out.size))
          obtain ⟨b, off, rfl, D0, D1, D2, D3, D4, D5⟩ := H0.six Hb1.out hx
          have Hx := Lib.hid hx
          clear hx b1
          obtain ⟨xk, xe, xa, xb, xc, xn⟩ := x
          simp only [CallV.val, CallV.cells] at T D0 D1 D2 D3 D4 D5
          generalize hcb : callB ⟨xk, xe, xa, xb, xc, xn⟩ = cb at T N hzx
          have n0 : ¬ 9223372036854775807 < (preB (xs.take k)).size + 1 := by omega
          have n1 : ¬ 9223372036854775807 < (preB (xs.take k)).size + 1 + cb.size := by omega
          clear hcb
          go_wp2_with fail
          refine (T.out _).mono ?_; rintro e w2 ⟨rfl, b2⟩
          have Hb2 := Lib.hid (Hb1.out.trans (b2.mono Hb1.out.size))
          clear D0 D1 D2 D3 D4 D5 b2
          go_wp2_with fail
          go_roundw
          case rel => exact ⟨k + 1, by omega, by go_num, by rw [N.out], Hb2.out⟩
          case measure => simp [intOf]; omega
      · obtain rfl : k = xs.length := by omega
        have e1 := Lib.hid (show preB (xs.take xs.length) = callsB xs by rw [S.out, List.take_of_length_le (Nat.le_refl _)])
        go_wp2_with fail
        go_ret
        exact ⟨by rw [← e1.out]; rfl, hbel⟩

theorem Join_59 (lo : Nat) (v : Value) (ss : List ByteArray) (w : World) (h : OwnStrs lo w v ss) (hl : ss.length ≤ 1000) (hj : (Lib.join (ss.map (·.data.toList)) [59]).length ≤ 100000) :
    Calls Tryz.prog 21 #[v, .string ⟨#[59]⟩] w fun e w' => e = .returned (.string ⟨(Lib.join (ss.map (·.data.toList)) [59]).toArray⟩) ∧ Below w.heap.size w w' := by
  rcases Nat.eq_zero_or_pos ss.length with h0 | h0
  · obtain ⟨a, cap, rfl, _⟩ := h.rd.open
    have := List.eq_nil_of_length_eq_zero h0
    subst this
    exact (Any.strings_Join_none Tryz.lays156 Tryz.extra156 a cap ⟨#[59]⟩ w).mono fun e w' ⟨he, hw⟩ => ⟨he, hw ▸ Below.refl _ _⟩
  · obtain ⟨a, cap, rfl, hnc, hcm, hA⟩ := h.rd.open
    obtain ⟨b, off, rfl, hb, _⟩ := hA 0 h0
    refine (Any.strings_Join Tryz.lays156 Tryz.extra156 b off cap ss ⟨#[59]⟩ w ?_ hb (by omega) hnc (Nat.le_trans hj (by decide))).mono fun _ _ h => h
    intro j x hx
    have hjl := (List.getElem?_eq_some_iff.1 hx).1
    obtain ⟨b', off', e, _, hc⟩ := hA j hjl
    simp only [Option.some.injEq, Addr.mk.injEq, and_true] at e
    obtain ⟨rfl, rfl⟩ := e
    rw [hc]
    rw [nthS_lt hjl] at hx
    cases hx
    rfl

theorem calls_join (xs : List CallV) : Lib.join ((xs.map callB).map (·.data.toList)) [59] = callsL xs := by
  rw [List.map_map]
  rfl

set_option maxRecDepth 100000 in
set_option maxHeartbeats 4000000 in
theorem CallsText_impl (v : Value) (xs : List CallV) (w : World) (h : RdCalls w v xs) (hs : SmallC xs) (ht : Tabs w) :
    Calls Tryz.prog 9 #[v] w fun e w' => e = .returned (.string (callsB xs)) ∧ Below w.heap.size w w' := by
  obtain ⟨a, c, hv, hc, hcm, H0⟩ := h.open
  subst hv
  unfold maxLen at hcm
  have Hs := Lib.hid hs
  have Ht := Lib.hid ht
  clear h hs
  by_cases h12 : xs.length ≤ 12
  · have t12 : ¬ (12 : Int) < xs.length := by omega
    go_enter Tryz.func9, Tryz.ntmps9
    go_wp2_with fail
    go_loopw [3, 11] (fun o i wr => ∃ k : Nat, k ≤ xs.length ∧ i = .int .i64 k ∧ (∀ (j : Nat) x, j < k → xs[j]? = some x → fitsC x = true) ∧ OwnStrs w.heap.size wr o ((xs.take k).map callB) ∧ Below w.heap.size w wr) (fun _ i _ => xs.length - (intOf i).toNat)
    case atStart => exact ⟨0, Nat.zero_le _, rfl, fun j x hj => absurd hj (Nat.not_lt_zero _), ⟨rfl, .inl ⟨rfl, rfl⟩⟩, Below.refl _ _⟩
    case round =>
      obtain ⟨k, hk, rfl, hpre, hown, hbel⟩ := hrel
      have Hpre := Lib.hid hpre; clear hpre
      by_cases hlt : k < xs.length
      · obtain ⟨x, hx⟩ : ∃ x, xs[k]? = some x := ⟨_, List.getElem?_eq_getElem hlt⟩
        obtain ⟨b, off, rfl, D0, D1, D2, D3, D4, D5⟩ := H0.six hbel hx
        have hm := List.mem_of_getElem? hx
        have F := Lib.hid (fun w => CallFits_impl x w (Hs.out x hm))
        cases hf : fitsC x
        · have S := Lib.hid (show callsB xs = ⟨#[]⟩ by simp [callsB, listFit_bad hx hf])
          rw [hf] at F
          clear hf hx hm
          obtain ⟨xk, xe, xa, xb, xc, xn⟩ := x
          simp only [CallV.val, CallV.cells] at F D0 D1 D2 D3 D4 D5
          have B1 := Lib.hid (hbel.trans ((below1 wr (.cells #[.int .i64 xk, .int .i64 xe, .int .i64 xa, .int .i64 xb, .int .i64 xc, .string xn] 30)).mono hbel.size))
          clear hown hbel
          go_wp2_with fail
          refine (F.out _).mono ?_; rintro e w1 ⟨rfl, b1⟩
          go_wp2_with fail
          go_ret
          exact ⟨by rw [S.out]; rfl, B1.out.trans (b1.mono B1.out.size)⟩
        · have S := Lib.hid (calls_next Hpre.out hx hf)
          have T := Lib.hid (fun w h => callText_fit x w hf h)
          have hzx := callB_size hf
          rw [hf] at F
          have Nx := Lib.hid (show (xs.take (k + 1)).map callB = (xs.take k).map callB ++ [callB x] by rw [take_one hx, List.map_append]; rfl)
          clear hf hx hm
          obtain ⟨xk, xe, xa, xb, xc, xn⟩ := x
          simp only [CallV.val, CallV.cells] at F T D0 D1 D2 D3 D4 D5
          generalize callB ⟨xk, xe, xa, xb, xc, xn⟩ = cb at T Nx hzx
          have hN := heap_alloc_new wr (.cells #[.int .i64 xk, .int .i64 xe, .int .i64 xa, .int .i64 xb, .int .i64 xc, .string xn] 30)
          have hB := below1 wr (.cells #[.int .i64 xk, .int .i64 xe, .int .i64 xa, .int .i64 xb, .int .i64 xc, .string xn] 30)
          have HN := Lib.hid hN
          have B1 := Lib.hid (hbel.trans (hB.mono hbel.size))
          have O1 := Lib.hid (OwnStrs.below hown hB)
          clear hown hbel hN hB
          go_wp2_with fail
          refine (F.out _).mono ?_; rintro e w1 ⟨rfl, b1⟩
          have B2 := Lib.hid (B1.out.trans (b1.mono B1.out.size))
          have O2 := Lib.hid (O1.out.below b1)
          obtain ⟨d0, d1, d2, d3, d4, d5⟩ := call_cells (x := ⟨xk, xe, xa, xb, xc, xn⟩) ((b1.block _ (by simp)).trans HN.out)
          clear D0 D1 D2 D3 D4 D5 b1 HN O1 B1
          go_wp2_with fail
          refine (T.out _ (Ht.out.below B2.out)).mono ?_; rintro e w2 ⟨rfl, b2⟩
          have B3 := Lib.hid (B2.out.trans (b2.mono B2.out.size))
          have o3 := O2.out.below b2
          have hsz := B3.out.size
          have hlk : ((xs.take k).map callB).length = k := by rw [List.length_map, List.length_take]; omega
          clear d0 d1 d2 d3 d4 d5 b2 O2
          unfold OwnStrs at o3
          rw [hlk] at o3
          go_wp2_with (at_builtin; go_must (refine wp_append (lo := w.heap.size) (n := k) (xs := ((xs.take k).map callB).map Value.string) (m := 1) (news := [.string cb]) rfl rfl 9 (.string ⟨#[]⟩) 1 16 Tryz.underlying38 Tryz.infoStr rfl (by decide) rfl (ownsRow_below o3 (below1 _ _)) rfl (Rd.newsAt _ #[_] _ 1 1 _ (by simp) rfl (by simp [maxLen])) (by simp [Value.oneCell']) (by unfold maxLen; omega) (by omega) (by simp; omega) ?_; intro o' w4 g1 g2 g3))
          go_roundw
          case rel =>
            refine ⟨k + 1, by omega, by go_num, S.out, ?_, B3.out.trans (((below1 w2 _).mono hsz).trans g3)⟩
            rw [Nx.out]
            unfold OwnStrs
            rw [List.length_append, hlk, List.map_append]
            simpa using g1
          case measure => simp [intOf]; omega
      · obtain rfl : k = xs.length := by omega
        have hall : ∀ x ∈ xs, fitsC x = true := fun x hx => by
          obtain ⟨j, hj⟩ := List.getElem?_of_mem hx
          exact Hpre.out j x (List.getElem?_eq_some_iff.1 hj).1 hj
        have S := Lib.hid (show callsB xs = preB xs by simp [callsB, listFit_iff.2 ⟨hall, h12⟩])
        rw [List.take_of_length_le (Nat.le_refl _)] at hown
        have hz := pre_size hall
        have J := Lib.hid (fun v' w' (h : OwnStrs w.heap.size w' v' (xs.map callB)) => Join_59 w.heap.size v' (xs.map callB) w' h (by rw [List.length_map]; omega) (by rw [calls_join]; simp only [preB, ByteArray.size, List.size_toArray] at hz; omega))
        rw [calls_join] at J
        clear hz hall
        go_wp2_with fail
        refine (J.out _ _ hown).mono ?_; rintro e w1 ⟨rfl, b1⟩
        go_wp2_with fail
        go_ret
        exact ⟨by rw [S.out]; rfl, hbel.trans (b1.mono hbel.size)⟩
  · have t12 : (12 : Int) < xs.length := by omega
    have S := Lib.hid (show callsB xs = ⟨#[]⟩ by simp [callsB, listFit, h12])
    go_enter Tryz.func9, Tryz.ntmps9
    go_wp2_with fail
    go_ret
    exact ⟨by rw [S.out]; rfl, Below.refl _ _⟩
end Go.Proofs.YtgdehdfbdjgmdaaGreatDoor
