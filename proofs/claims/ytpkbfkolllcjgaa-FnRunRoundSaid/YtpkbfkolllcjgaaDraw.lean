/-
  Walks of the laws' own helpers over slices of ints, and of the reader that draws inputs.
-/
import Derived.Test.YtpkbfkolllcjgaaEx1
namespace Go.Proofs.Ytpkbfkolllcjgaa
open Go.RowKit

set_option maxHeartbeats 400000 in
theorem sameInts_any (v1 v2 : Value) (xs ys : List Int) (w : World) (h1 : RdInts w v1 xs) (h2 : RdInts w v2 ys) :
    Calls Try.prog 34 #[v1, v2] w fun e w' => e = .returned (.bool (decide (xs = ys))) ∧ ∃ n, w' = w.drewN n := by
  obtain ⟨a1, c1, rfl, hc1, hcm1, H1⟩ := h1.open
  obtain ⟨a2, c2, rfl, hc2, hcm2, H2⟩ := h2.open
  clear h1 h2
  unfold maxLen at hcm1 hcm2
  by_cases hlen : (xs.length : Int) = ys.length
  · have hb : ((xs.length : Int) != ys.length) = false := by simp [hlen]
    have hlen' : xs.length ≤ ys.length ∧ ys.length ≤ xs.length := by omega
    clear hlen
    go_enter Try.func34, Try.ntmps34
    go_wp2
    go_loopw [5] (fun i wr => ∃ k : Nat, k ≤ xs.length ∧ i = .int .i64 k ∧ (∀ j, j < k → nth xs j = nth ys j) ∧ ∃ n, wr = w.drewN n) (fun i _ => xs.length - (intOf i).toNat)
    case atStart => exact ⟨0, Nat.zero_le _, rfl, fun j hj => absurd hj (Nat.not_lt_zero _), 0, rfl⟩
    case round =>
      obtain ⟨k, hk, rfl, hpre, n, rfl⟩ := hrel
      have Hpre := Lib.hid hpre
      clear hpre
      by_cases hlt : k < xs.length
      · obtain ⟨b1, o1, rfl, D1⟩ := H1.at hlt
        have hlt2 : k < ys.length := by omega
        obtain ⟨b2, o2, rfl, D2⟩ := H2.at hlt2
        clear H1 H2
        by_cases he : nth xs k = nth ys k
        · have he' : (nth xs k != nth ys k) = false := by simp [he]
          have He := Lib.hid he; clear he
          go_wp2
          go_quiet (fail)
          go_wp2
          go_roundw
          case rel => exact ⟨k + 1, by omega, by go_num, forall_lt_succ Hpre.out He.out, _, rfl⟩
          case measure => simp [intOf]; omega
        · have he' : (nth xs k != nth ys k) = true := by simp [he]
          have Hres := Lib.hid (ne_of_nth he); clear he
          go_wp2
          go_quiet (fail)
          go_wp2
          go_ret
          first | exact ⟨ret_bool Hres.out.symm, ex_drew2 _ _ _⟩ | exact ⟨ret_bool Hres.out.symm, ex_drew1 _ _⟩
      · have Hres := Lib.hid (eq_of_nth (xs := xs) (ys := ys) (by omega) (fun j hj => Hpre.out j (by omega)))
        go_wp2
        go_ret
        exact ⟨ret_bool (by simp [Hres.out]), _, rfl⟩
  · have hb : ((xs.length : Int) != ys.length) = true := by simp [hlen]
    have Hres := Lib.hid (ne_of_len (xs := xs) (ys := ys) (by omega))
    clear hlen
    go_enter Try.func34, Try.ntmps34
    go_wp2
    go_ret
    exact ⟨ret_bool Hres.out.symm, 0, rfl⟩


/-- A number is among the first k of a list. -/
theorem hasNumber_at {xs : List Int} {k : Nat} {x : Int} (hk : k < xs.length) (h : nth xs k = x) : decide (x ∈ xs) = true := by
  rw [decide_eq_true_eq, ← h, nth_eq hk]
  exact List.getElem_mem hk
theorem hasNumber_none {xs : List Int} {x : Int} (h : ∀ j, j < xs.length → nth xs j ≠ x) : decide (x ∈ xs) = false := by
  rw [decide_eq_false_iff_not]
  intro hm
  obtain ⟨j, hj, rfl⟩ := List.getElem_of_mem hm
  exact h j hj (nth_eq hj)

set_option maxHeartbeats 400000 in
theorem hasNumber_any (v : Value) (xs : List Int) (x : Int) (w : World) (h : RdInts w v xs) :
    Calls Try.prog 32 #[v, .int .i64 x] w fun e w' => e = .returned (.bool (decide (x ∈ xs))) ∧ w = w' := by
  obtain ⟨a, c, rfl, hc, hcm, H⟩ := h.open
  clear h
  unfold maxLen at hcm
  go_enter Try.func32, Try.ntmps32
  go_wp2
  go_loop [5] (fun i => ∃ k : Nat, k ≤ xs.length ∧ i = .int .i64 k ∧ ∀ j, j < k → nth xs j ≠ x) (fun i => xs.length - (intOf i).toNat)
  case atStart => exact ⟨0, Nat.zero_le _, rfl, fun j hj => absurd hj (Nat.not_lt_zero _)⟩
  case round =>
    obtain ⟨k, hk, rfl, hpre⟩ := hrel
    have Hpre := Lib.hid hpre; clear hpre
    by_cases hlt : k < xs.length
    · obtain ⟨b, off, rfl, D⟩ := H.at hlt
      clear H
      by_cases hp : nth xs k = x
      · have Hres := Lib.hid (hasNumber_at hlt hp)
        have hp' : (nth xs k == x) = true := by simp [hp]
        clear hp
        go_wp2
        go_ret
        exact ⟨ret_bool Hres.out.symm, rfl⟩
      · have hp' : (nth xs k == x) = false := by simp [hp]
        have Hp := Lib.hid hp; clear hp
        go_wp2
        go_round
        case rel => exact ⟨k + 1, by omega, by go_num, forall_lt_succ Hpre.out Hp.out⟩
        case measure => simp [intOf]; omega
    · have Hres := Lib.hid (hasNumber_none (xs := xs) (x := x) (fun j hj => Hpre.out j (by omega)))
      go_wp2
      go_ret
      exact ⟨ret_bool Hres.out.symm, rfl⟩

/-- What the address a leads to: the bytes bs. -/
def AtBytes (w : World) (a : Option Addr) (bs : List Int) : Prop :=
  ∀ k, k < bs.length → ∃ b off, a = some ⟨b, off, none⟩ ∧ ∀ j, j < bs.length → w.cell? ⟨b, off + j, none⟩ = some (.int .u8 (nth bs j)) ∧ 0 ≤ nth bs j ∧ nth bs j < 256
theorem RdBytes.open {w : World} {v : Value} {xs : List Int} (h : RdBytes w v xs) :
    ∃ a cap, v = .slice a xs.length cap ∧ xs.length ≤ cap ∧ cap ≤ maxLen ∧ AtBytes w a xs := by
  obtain ⟨⟨a, cap, rfl, hnc, hcm, hl, _, hc⟩, hby⟩ := h
  refine ⟨a, cap, rfl, hnc, hcm, fun k hk => ?_⟩
  obtain ⟨b, off, rfl, hcell⟩ := hc (by omega)
  refine ⟨b, off, rfl, fun j hj => ⟨?_, ?_⟩⟩
  · rw [hcell j (by omega), List.getElem?_map, nth_lt hj]
    rfl
  · rw [nth_eq hj]
    exact hby _ (List.getElem_mem hj)
theorem AtBytes.at {w : World} {a : Option Addr} {xs : List Int} (h : AtBytes w a xs) {k : Nat} (hk : k < xs.length) :
    ∃ b off, a = some ⟨b, off, none⟩ ∧ w.cell? ⟨b, off + k, none⟩ = some (.int .u8 (nth xs k)) ∧ 0 ≤ nth xs k ∧ nth xs k < 256 := by
  obtain ⟨b, off, rfl, hc⟩ := h k hk
  exact ⟨b, off, rfl, hc k hk⟩

/-- The reader behind R: its bytes lie in the old world w0, its place is at most N. -/
def Reader (w0 w : World) (R : Value) (N : Nat) : Prop :=
  ∃ g bsv bs, ∃ p : Nat, R = .pointer (some ⟨g, 0, none⟩) ∧ w0.heap.size ≤ g ∧ w.heap[g]? = some (.cells #[bsv, .int .i64 p] 49 (0, 0)) ∧ RdBytes w0 bsv bs ∧ bs.length ≤ 2000 ∧ p ≤ N

theorem xor_nonneg {X : Int} (h0 : 0 ≤ X) (h1 : X ≤ 1000000000) : 0 ≤ bits .xor .i64 X (X / 64) := by
  obtain ⟨x, rfl⟩ := Int.eq_ofNat_of_zero_le h0
  have e : ((x : Int) / 64) = ((x / 64 : Nat) : Int) := by omega
  have ha : x < 2 ^ 40 := by omega
  have hb : x / 64 < 2 ^ 40 := by omega
  have ha' : x % 2 ^ IntKind.i64.bits = x := Nat.mod_eq_of_lt (Nat.lt_of_lt_of_le ha (by decide))
  have hb' : x / 64 % 2 ^ IntKind.i64.bits = x / 64 := Nat.mod_eq_of_lt (Nat.lt_of_lt_of_le hb (by decide))
  have hx : x ^^^ (x / 64) < 2 ^ 40 := Nat.xor_lt_two_pow ha hb
  rw [e]
  simp only [bits, BitVec.ofInt_natCast, BitVec.toNat_xor, BitVec.toNat_ofNat, ha', hb']
  rw [IntWalk.i64_in _ (by omega)]
  omega

/-- What a draw leaves. -/
def Picked (w0 w : World) (R : Value) (N : Nat) (n : Int) (e : Ending) (w' : World) : Prop :=
  ∃ x : Int, e = .returned (.int .i64 x) ∧ (0 ≤ x ∧ (0 < n → x < n) ∧ (n ≤ 0 → x = 0)) ∧ Reader w0 w' R (N + 1) ∧ Below w0.heap.size w0 w' ∧ ∃ g, R = .pointer (some ⟨g, 0, none⟩) ∧ w.grownBy w' (some g)

theorem Reader.stored {w0 w : World} {g p N : Nat} {bsv : Value} {bs : List Int} {n : Int} (hg : w0.heap.size ≤ g) (hblk : w.heap[g]? = some (.cells #[bsv, .int .i64 p] 49 (0, 0))) (hr : RdBytes w0 bsv bs) (hlen : bs.length ≤ 2000) (hp : p ≤ N) (hb : Below w0.heap.size w0 w) :
    ∀ (k : Nat) (x : Int), 0 ≤ x → (0 < n → x < n) → (n ≤ 0 → x = 0) → Picked w0 w (.pointer (some ⟨g, 0, none⟩)) N n (.returned (.int .i64 x)) ((w.setCell ⟨g, 1, none⟩ (.int .i64 (p + 1))).drewN k) := by
  intro k x h1 h2 h3
  refine ⟨x, rfl, ⟨h1, h2, h3⟩, ⟨g, bsv, bs, p + 1, rfl, hg, ?_, hr, hlen, by omega⟩, below_drewN (hb.setCell hg _) k, g, rfl, ?_⟩
  · have := heap_setCell_same w g 1 #[bsv, .int .i64 p] 49 (.int .i64 (p + 1)) hblk
    simpa using this
  · refine ⟨rfl, rfl, rfl, by simp [World.drewN], fun b hb' hne => ?_⟩
    exact heap_setCell_other w ⟨g, 1, none⟩ b _ (fun e => hne (by simp [e]))

set_option maxHeartbeats 1000000 in
theorem pick_any (w0 : World) (R : Value) (N : Nat) (n : Int) (w : World) (h : Reader w0 w R N) (hb : Below w0.heap.size w0 w) (hN : N ≤ 1000000) (hn : n ≤ 1000000) :
    Calls Try.prog 46 #[R, .int .i64 n] w (Picked w0 w R N n) := by
  obtain ⟨g, bsv, bs, p, rfl, hg, hblk, hR, hlen, hp⟩ := h
  have S := Lib.hid (Reader.stored (n := n) hg hblk hR hlen hp hb)
  have c0 : w.cell? ⟨g, 0, none⟩ = some bsv := cell_of_row w g 0 _ _ _ hblk
  have c1 : w.cell? ⟨g, 1, none⟩ = some (.int .i64 p) := cell_of_row w g 1 _ _ _ hblk
  have f1 : w.frozen? ⟨g, 1, none⟩ = false := frozen_of_row w g 1 _ _ hblk
  clear hblk
  by_cases h1 : n < 1
  · go_enter Try.func46, Try.ntmps46
    go_wp2
    go_ret
    exact S.out 0 0 (by omega) (by omega) (by omega)
  obtain ⟨a, c, hv, hc, hcm, hA⟩ := hR.open
  subst hv
  unfold maxLen at hcm
  by_cases h2 : bs.length = 0
  · have h2' : ((bs.length : Int) == 0) = true := by simp [h2]
    clear h2
    go_enter Try.func46, Try.ntmps46
    go_wp2
    go_ret
    exact S.out 0 0 (by omega) (by omega) (by omega)
  have h2' : ((bs.length : Int) == 0) = false := by simp [h2]
  have h2'' : 0 < bs.length := by omega
  clear h2
  by_cases h3 : p < bs.length
  · obtain ⟨b, off, rfl, D0, hb0, hb1⟩ := hA.at h3
    have hbl := World.block_lt_of_cell? w0 _ D0
    have D : w.cell? ⟨b, off + p, none⟩ = some (.int .u8 (nth bs p)) := (hb.cell hbl).trans D0
    clear D0 hA
    have hne : b ≠ g := by
      rintro rfl
      simp at hbl
      omega
    clear hbl
    go_enter Try.func46, Try.ntmps46
    go_wp2
    go_ret
    exact S.out 0 _ (Int.emod_nonneg _ (by omega)) (fun _ => Int.emod_lt_of_pos _ (by omega)) (by omega)
  · have m1 : (p : Int).tmod bs.length = (p : Int) % bs.length := Int.tmod_eq_emod_of_nonneg (by omega)
    have m2 : 0 ≤ (p : Int) % bs.length := Int.emod_nonneg _ (by omega)
    have m3 : (p : Int) % bs.length < bs.length := Int.emod_lt_of_pos _ (by omega)
    have m4 : ((p : Int) % bs.length).toNat = p % bs.length := by rw [show (p : Int) % bs.length = ((p % bs.length : Nat) : Int) from rfl, Int.toNat_natCast]
    have q1 : 0 ≤ (p : Int) / bs.length := Int.ediv_nonneg (by omega) (by omega)
    have q2 : (p : Int) / bs.length ≤ p := Int.ediv_le_self _ (by omega)
    have s1 : IntKind.i64.wrap ((p : Int) * 7) = p * 7 := IntWalk.i64_in _ (by omega)
    have s2 : IntKind.i64.wrap ((p : Int) * 7 + 3) = p * 7 + 3 := IntWalk.i64_in _ (by omega)
    have k1 : ((p : Int) * 7 + 3).tmod bs.length = ((p : Int) * 7 + 3) % bs.length := Int.tmod_eq_emod_of_nonneg (by omega)
    have k2 : 0 ≤ ((p : Int) * 7 + 3) % bs.length := Int.emod_nonneg _ (by omega)
    have k3 : ((p : Int) * 7 + 3) % bs.length < bs.length := Int.emod_lt_of_pos _ (by omega)
    have k4 : (((p : Int) * 7 + 3) % bs.length).toNat = (p * 7 + 3) % bs.length := by rw [show ((p : Int) * 7 + 3) % bs.length = (((p * 7 + 3) % bs.length : Nat) : Int) by push_cast; rfl, Int.toNat_natCast]
    have hl1 : p % bs.length < bs.length := Nat.mod_lt _ h2''
    have hl2 : (p * 7 + 3) % bs.length < bs.length := Nat.mod_lt _ h2''
    obtain ⟨b, off, rfl, D0, hb0, hb1⟩ := hA.at hl1
    obtain ⟨b', off', hbb, E0, hc0, hc1⟩ := hA.at hl2
    obtain ⟨rfl, rfl⟩ : b = b' ∧ off = off' := by simpa using hbb
    clear hbb hA
    have hbl := World.block_lt_of_cell? w0 _ D0
    have D : w.cell? ⟨b, off + p % bs.length, none⟩ = some (.int .u8 (nth bs (p % bs.length))) := (hb.cell hbl).trans D0
    have E : w.cell? ⟨b, off + (p * 7 + 3) % bs.length, none⟩ = some (.int .u8 (nth bs ((p * 7 + 3) % bs.length))) := (hb.cell (p := ⟨b, off + (p * 7 + 3) % bs.length, none⟩) hbl).trans E0
    clear D0 E0
    have hne : b ≠ g := by
      rintro rfl
      simp at hbl
      omega
    clear hbl
    go_enter Try.func46, Try.ntmps46
    go_wp2
    go_quiet (fail)
    have x0 : 0 ≤ nth bs (p % bs.length) * 131 + nth bs ((p * 7 + 3) % bs.length) * 1117 + (p : Int) * 29 + (p : Int) / bs.length * 53 := by omega
    have x1 : nth bs (p % bs.length) * 131 + nth bs ((p * 7 + 3) % bs.length) * 1117 + (p : Int) * 29 + (p : Int) / bs.length * 53 ≤ 1000000000 := by omega
    generalize nth bs (p % bs.length) * 131 + nth bs ((p * 7 + 3) % bs.length) * 1117 + (p : Int) * 29 + (p : Int) / bs.length * 53 = X at x0 x1 ⊢
    go_wp2
    go_ret
    have y0 := xor_nonneg x0 (by omega : X ≤ 1000000000)
    exact S.out _ _ (Int.tmod_nonneg _ y0) (fun hn0 => by rw [Int.tmod_eq_emod_of_nonneg y0]; exact Int.emod_lt_of_pos _ hn0) (by omega)
end Go.Proofs.Ytpkbfkolllcjgaa
