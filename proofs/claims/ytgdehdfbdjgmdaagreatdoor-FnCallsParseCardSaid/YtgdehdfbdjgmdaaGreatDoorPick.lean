/-
  Walks of the reader that draws inputs.
-/
import Derived.Test.YtgdehdfbdjgmdaaGreatDoorInts
namespace Go.Proofs.YtgdehdfbdjgmdaaGreatDoor
open Go.RowKit

/-- What the address a leads to: the bytes bs. -/
def AtBytes (w : World) (a : Option Addr) (bs : List Int) : Prop :=
  ∀ k, k < bs.length → ∃ b off, a = some ⟨b, off, none⟩ ∧ ∀ j, j < bs.length → w.cell? ⟨b, off + j, none⟩ = some (.int .u8 (nth bs j)) ∧ 0 ≤ nth bs j ∧ nth bs j < 256

theorem RdBytes.open {w : World} {v : Value} {xs : List Int} (h : RdBytes w v xs) :
    ∃ a cap, v = .slice a xs.length cap ∧ xs.length ≤ cap ∧ cap ≤ maxLen ∧ AtBytes w a xs := by
  obtain ⟨⟨a, cap, rfl, hnc, hcm, hl, _, hc⟩, hby⟩ := h
  refine ⟨a, cap, rfl, hnc, hcm, fun k hk => ?_⟩
  obtain ⟨b, off, rfl, hcell⟩ := hc (by omega)
  refine ⟨b, off, rfl, fun j hj => ⟨?_, ?_⟩⟩
  · rw [hcell j (by omega), List.getElem?_map, nth_lt hj]
    rfl
  · rw [nth_eq hj]
    exact hby _ (List.getElem_mem hj)

theorem AtBytes.at {w : World} {a : Option Addr} {xs : List Int} (h : AtBytes w a xs) {k : Nat} (hk : k < xs.length) :
    ∃ b off, a = some ⟨b, off, none⟩ ∧ w.cell? ⟨b, off + k, none⟩ = some (.int .u8 (nth xs k)) ∧ 0 ≤ nth xs k ∧ nth xs k < 256 := by
  obtain ⟨b, off, rfl, hc⟩ := h k hk
  exact ⟨b, off, rfl, hc k hk⟩

/-- The reader behind R: its bytes lie in the old world w0, its place is at most N. -/
def Reader (w0 w : World) (R : Value) (N : Nat) : Prop :=
  ∃ g bsv bs, ∃ p : Nat, R = .pointer (some ⟨g, 0, none⟩) ∧ w0.heap.size ≤ g ∧ w.heap[g]? = some (.cells #[bsv, .int .i64 p] 46 (0, 0)) ∧ RdBytes w0 bsv bs ∧ bs.length ≤ 2000 ∧ p ≤ N

theorem xor_nonneg {X : Int} (h0 : 0 ≤ X) (h1 : X ≤ 1000000000) : 0 ≤ bits .xor .i64 X (X / 64) := by
  obtain ⟨x, rfl⟩ := Int.eq_ofNat_of_zero_le h0
  have e : ((x : Int) / 64) = ((x / 64 : Nat) : Int) := by omega
  have ha : x < 2 ^ 40 := by omega
  have hb : x / 64 < 2 ^ 40 := by omega
  have ha' : x % 2 ^ IntKind.i64.bits = x := Nat.mod_eq_of_lt (Nat.lt_of_lt_of_le ha (by decide))
  have hb' : x / 64 % 2 ^ IntKind.i64.bits = x / 64 := Nat.mod_eq_of_lt (Nat.lt_of_lt_of_le hb (by decide))
  have hx : x ^^^ (x / 64) < 2 ^ 40 := Nat.xor_lt_two_pow ha hb
  rw [e]
  simp only [bits, BitVec.ofInt_natCast, BitVec.toNat_xor, BitVec.toNat_ofNat, ha', hb']
  rw [IntWalk.i64_in _ (by omega)]
  omega

/-- What a draw leaves. -/
def Picked (w0 w : World) (R : Value) (N : Nat) (n : Int) (e : Ending) (w' : World) : Prop :=
  ∃ x : Int, e = .returned (.int .i64 x) ∧ (0 ≤ x ∧ (0 < n → x < n) ∧ (n ≤ 0 → x = 0)) ∧ Reader w0 w' R (N + 1) ∧ Below w0.heap.size w0 w' ∧ ∃ g, R = .pointer (some ⟨g, 0, none⟩) ∧ w.grownBy w' (some g)

theorem Reader.stored {w0 w : World} {g p N : Nat} {bsv : Value} {bs : List Int} {n : Int} (hg : w0.heap.size ≤ g) (hblk : w.heap[g]? = some (.cells #[bsv, .int .i64 p] 46 (0, 0))) (hr : RdBytes w0 bsv bs) (hlen : bs.length ≤ 2000) (hp : p ≤ N) (hb : Below w0.heap.size w0 w) :
    ∀ (k : Nat) (x : Int), 0 ≤ x → (0 < n → x < n) → (n ≤ 0 → x = 0) → Picked w0 w (.pointer (some ⟨g, 0, none⟩)) N n (.returned (.int .i64 x)) ((w.setCell ⟨g, 1, none⟩ (.int .i64 (p + 1))).drewN k) := by
  intro k x h1 h2 h3
  refine ⟨x, rfl, ⟨h1, h2, h3⟩, ⟨g, bsv, bs, p + 1, rfl, hg, ?_, hr, hlen, by omega⟩, below_drewN (hb.setCell hg _) k, g, rfl, ?_⟩
  · have := heap_setCell_same w g 1 #[bsv, .int .i64 p] 46 (.int .i64 (p + 1)) hblk
    simpa using this
  · refine ⟨rfl, rfl, rfl, by simp [World.drewN], fun b hb' hne => ?_⟩
    exact heap_setCell_other w ⟨g, 1, none⟩ b _ (fun e => hne (by simp [e]))

set_option maxHeartbeats 1000000 in
theorem pick_any (w0 : World) (R : Value) (N : Nat) (n : Int) (w : World) (h : Reader w0 w R N) (hb : Below w0.heap.size w0 w) (hN : N ≤ 1000000) (hn : n ≤ 1000000) :
    Calls Tryz.prog 13 #[R, .int .i64 n] w (Picked w0 w R N n) := by
  obtain ⟨g, bsv, bs, p, rfl, hg, hblk, hR, hlen, hp⟩ := h
  have S := Lib.hid (Reader.stored (n := n) hg hblk hR hlen hp hb)
  have c0 : w.cell? ⟨g, 0, none⟩ = some bsv := cell_of_row w g 0 _ _ _ hblk
  have c1 : w.cell? ⟨g, 1, none⟩ = some (.int .i64 p) := cell_of_row w g 1 _ _ _ hblk
  have f1 : w.frozen? ⟨g, 1, none⟩ = false := frozen_of_row w g 1 _ _ hblk
  clear hblk
  by_cases h1 : n < 1
  · go_enter Tryz.func13, Tryz.ntmps13
    go_wp2
    go_ret
    exact S.out 0 0 (by omega) (by omega) (by omega)
  obtain ⟨a, c, hv, hc, hcm, hA⟩ := hR.open
  subst hv
  unfold maxLen at hcm
  by_cases h2 : bs.length = 0
  · have h2' : ((bs.length : Int) == 0) = true := by simp [h2]
    clear h2
    go_enter Tryz.func13, Tryz.ntmps13
    go_wp2
    go_ret
    exact S.out 0 0 (by omega) (by omega) (by omega)
  have h2' : ((bs.length : Int) == 0) = false := by simp [h2]
  have h2'' : 0 < bs.length := by omega
  clear h2
  by_cases h3 : p < bs.length
  · obtain ⟨b, off, rfl, D0, hb0, hb1⟩ := hA.at h3
    have hbl := World.block_lt_of_cell? w0 _ D0
    have D : w.cell? ⟨b, off + p, none⟩ = some (.int .u8 (nth bs p)) := (hb.cell hbl).trans D0
    clear D0 hA
    have hne : b ≠ g := by
      rintro rfl
      simp at hbl
      omega
    clear hbl
    go_enter Tryz.func13, Tryz.ntmps13
    go_wp2
    go_ret
    exact S.out 0 _ (Int.emod_nonneg _ (by omega)) (fun _ => Int.emod_lt_of_pos _ (by omega)) (by omega)
  · have m1 : (p : Int).tmod bs.length = (p : Int) % bs.length := Int.tmod_eq_emod_of_nonneg (by omega)
    have m2 : 0 ≤ (p : Int) % bs.length := Int.emod_nonneg _ (by omega)
    have m3 : (p : Int) % bs.length < bs.length := Int.emod_lt_of_pos _ (by omega)
    have m4 : ((p : Int) % bs.length).toNat = p % bs.length := by rw [show (p : Int) % bs.length = ((p % bs.length : Nat) : Int) from rfl, Int.toNat_natCast]
    have q1 : 0 ≤ (p : Int) / bs.length := Int.ediv_nonneg (by omega) (by omega)
    have q2 : (p : Int) / bs.length ≤ p := Int.ediv_le_self _ (by omega)
    have s1 : IntKind.i64.wrap ((p : Int) * 7) = p * 7 := IntWalk.i64_in _ (by omega)
    have s2 : IntKind.i64.wrap ((p : Int) * 7 + 3) = p * 7 + 3 := IntWalk.i64_in _ (by omega)
    have k1 : ((p : Int) * 7 + 3).tmod bs.length = ((p : Int) * 7 + 3) % bs.length := Int.tmod_eq_emod_of_nonneg (by omega)
    have k2 : 0 ≤ ((p : Int) * 7 + 3) % bs.length := Int.emod_nonneg _ (by omega)
    have k3 : ((p : Int) * 7 + 3) % bs.length < bs.length := Int.emod_lt_of_pos _ (by omega)
    have k4 : (((p : Int) * 7 + 3) % bs.length).toNat = (p * 7 + 3) % bs.length := by rw [show ((p : Int) * 7 + 3) % bs.length = (((p * 7 + 3) % bs.length : Nat) : Int) by push_cast; rfl, Int.toNat_natCast]
    have hl1 : p % bs.length < bs.length := Nat.mod_lt _ h2''
    have hl2 : (p * 7 + 3) % bs.length < bs.length := Nat.mod_lt _ h2''
    obtain ⟨b, off, rfl, D0, hb0, hb1⟩ := hA.at hl1
    obtain ⟨b', off', hbb, E0, hc0, hc1⟩ := hA.at hl2
    obtain ⟨rfl, rfl⟩ : b = b' ∧ off = off' := by simpa using hbb
    clear hbb hA
    have hbl := World.block_lt_of_cell? w0 _ D0
    have D : w.cell? ⟨b, off + p % bs.length, none⟩ = some (.int .u8 (nth bs (p % bs.length))) := (hb.cell hbl).trans D0
    have E : w.cell? ⟨b, off + (p * 7 + 3) % bs.length, none⟩ = some (.int .u8 (nth bs ((p * 7 + 3) % bs.length))) := (hb.cell (p := ⟨b, off + (p * 7 + 3) % bs.length, none⟩) hbl).trans E0
    clear D0 E0
    have hne : b ≠ g := by
      rintro rfl
      simp at hbl
      omega
    clear hbl
    go_enter Tryz.func13, Tryz.ntmps13
    go_wp2
    go_quiet (fail)
    have x0 : 0 ≤ nth bs (p % bs.length) * 131 + nth bs ((p * 7 + 3) % bs.length) * 1117 + (p : Int) * 29 + (p : Int) / bs.length * 53 := by omega
    have x1 : nth bs (p % bs.length) * 131 + nth bs ((p * 7 + 3) % bs.length) * 1117 + (p : Int) * 29 + (p : Int) / bs.length * 53 ≤ 1000000000 := by omega
    generalize nth bs (p % bs.length) * 131 + nth bs ((p * 7 + 3) % bs.length) * 1117 + (p : Int) * 29 + (p : Int) / bs.length * 53 = X at x0 x1 ⊢
    go_wp2
    go_ret
    have y0 := xor_nonneg x0 (by omega : X ≤ 1000000000)
    exact S.out _ _ (Int.tmod_nonneg _ y0) (fun hn0 => by rw [Int.tmod_eq_emod_of_nonneg y0]; exact Int.emod_lt_of_pos _ hn0) (by omega)

/-- What opening a reader leaves. -/
def Opened (w : World) (e : Ending) (w' : World) : Prop := ∃ R, e = .returned R ∧ Reader w w' R 0 ∧ Below w.heap.size w w'

theorem RdBytes.take {w : World} {a : Option Addr} {c : Nat} {bs : List Int} (h : RdBytes w (.slice a bs.length c) bs) (k : Nat) (hk : k ≤ bs.length) : RdBytes w (.slice a k c) (bs.take k) := by
  obtain ⟨⟨a', cap, hv, hnc, hcm, hl, hnil, hc⟩, hby⟩ := h
  simp only [Value.slice.injEq, true_and] at hv
  obtain ⟨rfl, rfl⟩ := hv
  have e : (bs.take k).length = k := by rw [List.length_take]; omega
  refine ⟨⟨a, c, by rw [e], by omega, hcm, by simp, hnil, fun hn => ?_⟩, fun b hb => hby b (List.mem_of_mem_take hb)⟩
  rw [e] at hn ⊢
  obtain ⟨b, off, rfl, hcell⟩ := hc (by omega)
  refine ⟨b, off, rfl, fun j hj => ?_⟩
  rw [hcell j (by omega), List.map_take, List.getElem?_take, if_pos (by omega)]

theorem Reader.opened {w : World} {bsv : Value} {bs : List Int} (h : RdBytes w bsv bs) (hl : bs.length ≤ 2000) : Opened w (.returned (.pointer (some ⟨w.heap.size, 0, none⟩))) (w.alloc (.cells #[bsv, .int .i64 0] 46)) :=
  ⟨_, rfl, ⟨_, bsv, bs, 0, rfl, Nat.le_refl _, heap_alloc_new w _, h, hl, Nat.le_refl _⟩, (Below.refl _ _).alloc (Nat.le_refl _) _⟩

set_option maxHeartbeats 400000 in
theorem l6Open_any (v : Value) (bs : List Int) (w : World) (h : RdBytes w v bs) :
    Calls Tryz.prog 10 #[v] w (Opened w) := by
  obtain ⟨a, c, hv, hc, hcm, hA⟩ := h.open
  subst hv
  unfold maxLen at hcm
  by_cases hl : bs.length ≤ 2000
  · have S := Lib.hid (Reader.opened h hl)
    have hl' : ¬ (2000 < bs.length) := by omega
    clear hl hA
    go_enter Tryz.func10, Tryz.ntmps10
    go_wp2
    go_ret
    exact S.out
  · have S := Lib.hid (Reader.opened (h.take 2000 (by omega)) (by rw [List.length_take]; omega))
    have hl' : 2000 < bs.length := by omega
    have hl2 : 2000 ≤ c := by omega
    obtain ⟨b, off, rfl, _⟩ := hA.at (k := 0) (by omega)
    clear hl hA
    go_enter Tryz.func10, Tryz.ntmps10
    go_wp2
    go_ret
    exact S.out

theorem Reader.lt {w0 w : World} {R : Value} {N : Nat} (h : Reader w0 w R N) : ∃ g, R = .pointer (some ⟨g, 0, none⟩) ∧ g < w.heap.size := by
  obtain ⟨g, bsv, bs, p, rfl, hg, hblk, _⟩ := h
  exact ⟨g, rfl, (Array.getElem?_eq_some_iff.1 hblk).1⟩

theorem Reader.keep {w0 w w' : World} {R : Value} {N : Nat} (h : Reader w0 w R N) (hb : Below w.heap.size w w') : Reader w0 w' R N := by
  obtain ⟨g, bsv, bs, p, rfl, hg, hblk, hr⟩ := h
  exact ⟨g, bsv, bs, p, rfl, hg, (hb.block g (Array.getElem?_eq_some_iff.1 hblk).1).trans hblk, hr⟩

theorem Reader.kept {w0 w w' : World} {R : Value} {N lo : Nat} (h : Reader w0 w R N) {g : Nat} (hR : R = .pointer (some ⟨g, 0, none⟩)) (hlt : g < lo) (hb : Below lo w w') : Reader w0 w' R N := by
  obtain ⟨g', bsv, bs, p, rfl, hg, hblk, hr⟩ := h
  obtain rfl : g' = g := by simpa using hR
  exact ⟨g', bsv, bs, p, rfl, hg, (hb.block g' hlt).trans hblk, hr⟩

theorem Reader.mono {w0 w : World} {R : Value} {N M : Nat} (h : Reader w0 w R N) (hm : N ≤ M) : Reader w0 w R M := by
  obtain ⟨g, bsv, bs, p, e1, hg, hblk, hr, hl, hp⟩ := h
  exact ⟨g, bsv, bs, p, e1, hg, hblk, hr, hl, Nat.le_trans hp hm⟩

theorem ownsRow_pick {lo : Nat} {w w' : World} {v : Value} {e sz n : Nat} {xs : List Value} {g : Nat} (h : w.ownsRow lo e sz v n xs) (hg : w.grownBy w' (some g)) (hlt : g < lo) : w'.ownsRow lo e sz v n xs := by
  refine World.ownsRow.kept h hg ?_
  cases hv : v.ownBlock with
  | none => exact .inl rfl
  | some k =>
    have := (h.lt k hv).1
    refine .inr fun e => ?_
    simp at e
    omega

/-- The state of a draw: the reader, and the slice that has been drawn so far. -/
def Drawing (w0 : World) (lo g N : Nat) (o : Value) (xs : List Int) (w : World) : Prop :=
  g < lo ∧ lo ≤ w.heap.size ∧ w0.heap.size ≤ lo ∧ Reader w0 w (.pointer (some ⟨g, 0, none⟩)) N ∧ Below w0.heap.size w0 w ∧ OwnInts lo w o xs

theorem Drawing.pick {w0 w w' : World} {lo g N : Nat} {o : Value} {xs : List Int} {n : Int} {e : Ending} (h : Drawing w0 lo g N o xs w) (hp : Picked w0 w (.pointer (some ⟨g, 0, none⟩)) N n e w') :
    ∃ x : Int, e = .returned (.int .i64 x) ∧ 0 ≤ x ∧ (0 < n → x < n) ∧ Drawing w0 lo g (N + 1) o xs w' ∧ w.grownBy w' (some g) := by
  obtain ⟨h1, h2, h3, h4, h5, h6⟩ := h
  obtain ⟨x, rfl, ⟨hx1, hx2, hx3⟩, hr, hb1, g1, hg1, hgr⟩ := hp
  obtain rfl : g = g1 := by simpa using hg1
  exact ⟨x, rfl, hx1, hx2, ⟨h1, Nat.le_trans h2 hgr.size, h3, hr, hb1, ownsRow_pick h6 hgr h1⟩, hgr⟩

theorem Drawing.append {w0 w w' : World} {lo g N : Nat} {o o' : Value} {xs : List Int} {x : Int} (h : Drawing w0 lo g N o xs w) (hb : Below lo w w') (ho : w'.ownsRow lo 3 1 o' (xs.length + 1) (xs.map (Value.int .i64) ++ [.int .i64 x])) : Drawing w0 lo g N o' (xs ++ [x]) w' := by
  obtain ⟨h1, h2, h3, h4, h5, h6⟩ := h
  refine ⟨h1, Nat.le_trans h2 hb.size, h3, h4.kept rfl h1 hb, h5.trans (hb.mono h3), ?_⟩
  simpa [OwnInts] using ho

theorem Drawing.step {w0 w w' : World} {lo g N : Nat} {o : Value} {xs : List Int} (h : Drawing w0 lo g N o xs w) (hb : Below w.heap.size w w') : Drawing w0 lo g N o xs w' := by
  obtain ⟨h1, h2, h3, h4, h5, h6⟩ := h
  exact ⟨h1, Nat.le_trans h2 hb.size, h3, h4.keep hb, h5.trans (hb.mono (Nat.le_trans h3 h2)), h6.below hb⟩

theorem Drawing.alloc {w0 w : World} {lo g N : Nat} {o : Value} {xs : List Int} (h : Drawing w0 lo g N o xs w) (ob : Obj) : Drawing w0 lo g N o xs (w.alloc ob) := h.step ((Below.refl _ _).alloc (Nat.le_refl _) _)

theorem Drawing.set {w0 w : World} {lo g N : Nat} {q cap a : Nat} {xs : List Int} {x : Int} (h : Drawing w0 lo g N (.slice (some ⟨q, 0, none⟩) xs.length cap) xs w) : Drawing w0 lo g N (.slice (some ⟨q, 0, none⟩) xs.length cap) (xs.set a x) (w.setCell ⟨q, a, none⟩ (.int .i64 x)) := by
  obtain ⟨h1, h2, h3, h4, h5, h6⟩ := h
  have hq := (h6.lt q rfl).1
  have S := World.ownsRow.stored h6 a (.int .i64 x)
  have hb : Below lo w (w.setCell ⟨q, a, none⟩ (.int .i64 x)) := (Below.refl _ _).setCell hq _
  exact ⟨h1, Nat.le_trans h2 hb.size, h3, h4.kept rfl h1 hb, h5.trans (hb.mono h3), own_set S.1⟩

theorem Drawing.pickable {w0 w : World} {lo g N : Nat} {o : Value} {xs : List Int} {n : Int} (h : Drawing w0 lo g N o xs w) (hN : N ≤ 1000000) (hn : n ≤ 1000000) :
    Calls Tryz.prog 13 #[.pointer (some ⟨g, 0, none⟩), .int .i64 n] w fun e w' => ∃ x : Int, e = .returned (.int .i64 x) ∧ 0 ≤ x ∧ (0 < n → x < n) ∧ Drawing w0 lo g (N + 1) o xs w' ∧ w.grownBy w' (some g) :=
  (pick_any w0 _ N n w h.2.2.2.1 h.2.2.2.2.1 hN hn).mono fun _ _ hp => h.pick hp

theorem Drawing.mono {w0 w : World} {lo g N M : Nat} {o : Value} {xs : List Int} (h : Drawing w0 lo g N o xs w) (hm : N ≤ M) : Drawing w0 lo g M o xs w := by
  obtain ⟨h1, h2, h3, h4, h5, h6⟩ := h
  exact ⟨h1, h2, h3, h4.mono hm, h5, h6⟩

theorem own_lo {lo lo' : Nat} {w : World} {v : Value} {xs : List Int} (h : OwnInts lo w v xs) (hl : lo' ≤ lo) : OwnInts lo' w v xs := by
  refine ⟨h.1, ?_⟩
  rcases h.2 with h' | ⟨g, cap, cur, rfl, hb, rest⟩
  · exact .inl h'
  · exact .inr ⟨g, cap, cur, rfl, Nat.le_trans hl hb, rest⟩

theorem lit3 (w : World) (a b c : Int) (z : Nat) (hz : z < 3) (t : TypeId) : (w.alloc (.cells #[.int .i64 a, .int .i64 b, .int .i64 c] t)).cell? ⟨w.heap.size, z, none⟩ = some (.int .i64 (nth [a, b, c] z)) := by
  match z, hz with
  | 0, _ => simp [World.cell?_alloc_new, nth]
  | 1, _ => simp [World.cell?_alloc_new, nth]
  | 2, _ => simp [World.cell?_alloc_new, nth]

theorem lit3d (w : World) (a b c : Int) (z : Nat) (hz : z < 3) (t : TypeId) : ((w.alloc (.cells #[.int .i64 a, .int .i64 b, .int .i64 c] t)).drew).cell? ⟨w.heap.size, z, none⟩ = some (.int .i64 (nth [a, b, c] z)) := lit3 w a b c z hz t

end Go.Proofs.YtgdehdfbdjgmdaaGreatDoor
