/-
  Walks of the readers that draw slices: what they leave is some slice of at most eleven numbers, in new memory.
-/
import Derived.Test.YtpkbfkolllcjgaaDraw
import Derived.Deep.DeepCutAuto
namespace Go.Proofs.Ytpkbfkolllcjgaa
open Go.RowKit

/-- What opening a reader leaves. -/
def Opened (w : World) (e : Ending) (w' : World) : Prop := ∃ R, e = .returned R ∧ Reader w w' R 0 ∧ Below w.heap.size w w'

theorem RdBytes.take {w : World} {a : Option Addr} {c : Nat} {bs : List Int} (h : RdBytes w (.slice a bs.length c) bs) (k : Nat) (hk : k ≤ bs.length) : RdBytes w (.slice a k c) (bs.take k) := by
  obtain ⟨⟨a', cap, hv, hnc, hcm, hl, hnil, hc⟩, hby⟩ := h
  simp only [Value.slice.injEq, true_and] at hv
  obtain ⟨rfl, rfl⟩ := hv
  have e : (bs.take k).length = k := by rw [List.length_take]; omega
  refine ⟨⟨a, c, by rw [e], by omega, hcm, by simp, hnil, fun hn => ?_⟩, fun b hb => hby b (List.mem_of_mem_take hb)⟩
  rw [e] at hn ⊢
  obtain ⟨b, off, rfl, hcell⟩ := hc (by omega)
  refine ⟨b, off, rfl, fun j hj => ?_⟩
  rw [hcell j (by omega), List.map_take, List.getElem?_take, if_pos (by omega)]

theorem Reader.opened {w : World} {bsv : Value} {bs : List Int} (h : RdBytes w bsv bs) (hl : bs.length ≤ 2000) : Opened w (.returned (.pointer (some ⟨w.heap.size, 0, none⟩))) (w.alloc (.cells #[bsv, .int .i64 0] 49)) :=
  ⟨_, rfl, ⟨_, bsv, bs, 0, rfl, Nat.le_refl _, heap_alloc_new w _, h, hl, Nat.le_refl _⟩, (Below.refl _ _).alloc (Nat.le_refl _) _⟩

set_option maxHeartbeats 400000 in
theorem l6Open_any (v : Value) (bs : List Int) (w : World) (h : RdBytes w v bs) :
    Calls Try.prog 44 #[v] w (Opened w) := by
  obtain ⟨a, c, hv, hc, hcm, hA⟩ := h.open
  subst hv
  unfold maxLen at hcm
  by_cases hl : bs.length ≤ 2000
  · have S := Lib.hid (Reader.opened h hl)
    have hl' : ¬ (2000 < bs.length) := by omega
    clear hl hA
    go_enter Try.func44, Try.ntmps44
    go_wp2
    go_ret
    exact S.out
  · have S := Lib.hid (Reader.opened (h.take 2000 (by omega)) (by rw [List.length_take]; omega))
    have hl' : 2000 < bs.length := by omega
    have hl2 : 2000 ≤ c := by omega
    obtain ⟨b, off, rfl, _⟩ := hA.at (k := 0) (by omega)
    clear hl hA
    go_enter Try.func44, Try.ntmps44
    go_wp2
    go_ret
    exact S.out

/-- What a drawn slice of numbers is: in new memory, at most L long. -/
def DrawnInts (w0 w : World) (R : Value) (N L : Nat) (e : Ending) (w' : World) : Prop :=
  ∃ v xs, e = .returned v ∧ OwnInts w.heap.size w' v xs ∧ xs.length ≤ L ∧ Reader w0 w' R N ∧ Below w0.heap.size w0 w' ∧ w.heap.size ≤ w'.heap.size

theorem Reader.lt {w0 w : World} {R : Value} {N : Nat} (h : Reader w0 w R N) : ∃ g, R = .pointer (some ⟨g, 0, none⟩) ∧ g < w.heap.size := by
  obtain ⟨g, bsv, bs, p, rfl, hg, hblk, _⟩ := h
  exact ⟨g, rfl, (Array.getElem?_eq_some_iff.1 hblk).1⟩
theorem Reader.keep {w0 w w' : World} {R : Value} {N : Nat} (h : Reader w0 w R N) (hb : Below w.heap.size w w') : Reader w0 w' R N := by
  obtain ⟨g, bsv, bs, p, rfl, hg, hblk, hr⟩ := h
  exact ⟨g, bsv, bs, p, rfl, hg, (hb.block g (Array.getElem?_eq_some_iff.1 hblk).1).trans hblk, hr⟩
theorem Reader.kept {w0 w w' : World} {R : Value} {N lo : Nat} (h : Reader w0 w R N) {g : Nat} (hR : R = .pointer (some ⟨g, 0, none⟩)) (hlt : g < lo) (hb : Below lo w w') : Reader w0 w' R N := by
  obtain ⟨g', bsv, bs, p, rfl, hg, hblk, hr⟩ := h
  obtain rfl : g' = g := by simpa using hR
  exact ⟨g', bsv, bs, p, rfl, hg, (hb.block g' hlt).trans hblk, hr⟩
theorem Reader.mono {w0 w : World} {R : Value} {N M : Nat} (h : Reader w0 w R N) (hm : N ≤ M) : Reader w0 w R M := by
  obtain ⟨g, bsv, bs, p, e1, hg, hblk, hr, hl, hp⟩ := h
  exact ⟨g, bsv, bs, p, e1, hg, hblk, hr, hl, Nat.le_trans hp hm⟩
theorem ownsRow_pick {lo : Nat} {w w' : World} {v : Value} {e sz n : Nat} {xs : List Value} {g : Nat} (h : w.ownsRow lo e sz v n xs) (hg : w.grownBy w' (some g)) (hlt : g < lo) : w'.ownsRow lo e sz v n xs := by
  refine World.ownsRow.kept h hg ?_
  cases hv : v.ownBlock with
  | none => exact .inl rfl
  | some k =>
    have := (h.lt k hv).1
    refine .inr fun e => ?_
    simp at e
    omega

/-- The state of a draw: the reader, and the slice that has been drawn so far. -/
def Drawing (w0 : World) (lo g N : Nat) (o : Value) (xs : List Int) (w : World) : Prop :=
  g < lo ∧ lo ≤ w.heap.size ∧ w0.heap.size ≤ lo ∧ Reader w0 w (.pointer (some ⟨g, 0, none⟩)) N ∧ Below w0.heap.size w0 w ∧ OwnInts lo w o xs

theorem Drawing.pick {w0 w w' : World} {lo g N : Nat} {o : Value} {xs : List Int} {n : Int} {e : Ending} (h : Drawing w0 lo g N o xs w) (hp : Picked w0 w (.pointer (some ⟨g, 0, none⟩)) N n e w') :
    ∃ x : Int, e = .returned (.int .i64 x) ∧ 0 ≤ x ∧ (0 < n → x < n) ∧ Drawing w0 lo g (N + 1) o xs w' ∧ w.grownBy w' (some g) := by
  obtain ⟨h1, h2, h3, h4, h5, h6⟩ := h
  obtain ⟨x, rfl, ⟨hx1, hx2, hx3⟩, hr, hb1, g1, hg1, hgr⟩ := hp
  obtain rfl : g = g1 := by simpa using hg1
  exact ⟨x, rfl, hx1, hx2, ⟨h1, Nat.le_trans h2 hgr.size, h3, hr, hb1, ownsRow_pick h6 hgr h1⟩, hgr⟩
theorem Drawing.append {w0 w w' : World} {lo g N : Nat} {o o' : Value} {xs : List Int} {x : Int} (h : Drawing w0 lo g N o xs w) (hb : Below lo w w') (ho : w'.ownsRow lo 3 1 o' (xs.length + 1) (xs.map (Value.int .i64) ++ [.int .i64 x])) : Drawing w0 lo g N o' (xs ++ [x]) w' := by
  obtain ⟨h1, h2, h3, h4, h5, h6⟩ := h
  refine ⟨h1, Nat.le_trans h2 hb.size, h3, h4.kept rfl h1 hb, h5.trans (hb.mono h3), ?_⟩
  simpa [OwnInts] using ho
theorem Drawing.step {w0 w w' : World} {lo g N : Nat} {o : Value} {xs : List Int} (h : Drawing w0 lo g N o xs w) (hb : Below w.heap.size w w') : Drawing w0 lo g N o xs w' := by
  obtain ⟨h1, h2, h3, h4, h5, h6⟩ := h
  exact ⟨h1, Nat.le_trans h2 hb.size, h3, h4.keep hb, h5.trans (hb.mono (Nat.le_trans h3 h2)), h6.below hb⟩
theorem Drawing.alloc {w0 w : World} {lo g N : Nat} {o : Value} {xs : List Int} (h : Drawing w0 lo g N o xs w) (ob : Obj) : Drawing w0 lo g N o xs (w.alloc ob) := h.step ((Below.refl _ _).alloc (Nat.le_refl _) _)
theorem Drawing.set {w0 w : World} {lo g N : Nat} {q cap a : Nat} {xs : List Int} {x : Int} (h : Drawing w0 lo g N (.slice (some ⟨q, 0, none⟩) xs.length cap) xs w) : Drawing w0 lo g N (.slice (some ⟨q, 0, none⟩) xs.length cap) (xs.set a x) (w.setCell ⟨q, a, none⟩ (.int .i64 x)) := by
  obtain ⟨h1, h2, h3, h4, h5, h6⟩ := h
  have hq := (h6.lt q rfl).1
  have S := World.ownsRow.stored h6 a (.int .i64 x)
  have hb : Below lo w (w.setCell ⟨q, a, none⟩ (.int .i64 x)) := (Below.refl _ _).setCell hq _
  exact ⟨h1, Nat.le_trans h2 hb.size, h3, h4.kept rfl h1 hb, h5.trans (hb.mono h3), own_set S.1⟩
theorem Drawing.pickable {w0 w : World} {lo g N : Nat} {o : Value} {xs : List Int} {n : Int} (h : Drawing w0 lo g N o xs w) (hN : N ≤ 1000000) (hn : n ≤ 1000000) :
    Calls Try.prog 46 #[.pointer (some ⟨g, 0, none⟩), .int .i64 n] w fun e w' => ∃ x : Int, e = .returned (.int .i64 x) ∧ 0 ≤ x ∧ (0 < n → x < n) ∧ Drawing w0 lo g (N + 1) o xs w' ∧ w.grownBy w' (some g) :=
  (pick_any w0 _ N n w h.2.2.2.1 h.2.2.2.2.1 hN hn).mono fun _ _ hp => h.pick hp

theorem Drawing.mono {w0 w : World} {lo g N M : Nat} {o : Value} {xs : List Int} (h : Drawing w0 lo g N o xs w) (hm : N ≤ M) : Drawing w0 lo g M o xs w := by
  obtain ⟨h1, h2, h3, h4, h5, h6⟩ := h
  exact ⟨h1, h2, h3, h4.mono hm, h5, h6⟩

set_option maxHeartbeats 4000000 in
theorem l93Slices_any (w0 : World) (R : Value) (N : Nat) (w : World) (h : Reader w0 w R N) (hb : Below w0.heap.size w0 w) (hN : N ≤ 900000) :
    Calls Try.prog 45 #[R] w (DrawnInts w0 w R (N + 100) 11) := by
  obtain ⟨g, hR, hlt⟩ := h.lt
  subst hR
  have hsz0 := hb.size
  have D : Drawing w0 w.heap.size g N (.slice (some ⟨w.heap.size, 0, none⟩) 0 0) [] (w.alloc (.cells #[] 3)) :=
    ⟨hlt, by simp, hsz0, h.keep ((Below.refl _ _).alloc (Nat.le_refl _) _), hb.alloc hsz0 _, ownsRow_empty _ _ _⟩
  clear h
  go_enter Try.func45, Try.ntmps45
  go_wp2_with fail
  refine (D.pickable (by omega) (by decide)).mono ?_; rintro e w1 ⟨x1, rfl, hy1, hy2, hd, hgr⟩; have hy2 := hy2 (by decide)
  go_upto_if 13 with (go_at_call 46; refine (Drawing.pickable (by assumption) (by omega) (by decide)).mono ?_; rintro e w1 ⟨x, rfl, hx1, hx2, hd, hgr⟩; have hx2 := hx2 (by decide))
  go_cut [4] (fun m w' => ∃ k : Nat, m = .int .i64 k ∧ k ≤ 11 ∧ Drawing w0 w.heap.size g (N + 3) (.slice (some ⟨w.heap.size, 0, none⟩) 0 0) [] w')
  case first =>
    go_wp2_with (go_at_call 46; refine (Drawing.pickable (by assumption) (by omega) (by decide)).mono ?_; rintro e w1 ⟨x, rfl, hx1, hx2, hd, hgr⟩; have hx2 := hx2 (by decide))
    all_goals go_meet
    · exact ⟨(x * 11).toNat, by rw [Int.toNat_of_nonneg (by omega)], by omega, hd.mono (by omega)⟩
    · exact ⟨(1 + x1).toNat, by rw [Int.toNat_of_nonneg (by omega)], by omega, hd.mono (by omega)⟩
  case rest =>
    obtain ⟨k, rfl, hk, hd⟩ := hcut
    go_wp2_with fail
    go_loopw [3, 5] (fun o i wr => ∃ t : Nat, ∃ xs : List Int, t ≤ k ∧ xs.length = t ∧ i = .int .i64 t ∧ Drawing w0 w.heap.size g (N + 3 + t) o xs wr) (fun _ i _ => k - (intOf i).toNat)
    case atStart => exact ⟨0, [], Nat.zero_le _, rfl, rfl, hd⟩
    case round =>
      clear hd
      obtain ⟨t, xs, ht, hl, rfl, hd⟩ := hrel
      have Hl := Lib.hid hl; clear hl
      by_cases hlt : t < k
      · go_wp2_with (first | (go_at_call 46; refine (Drawing.pickable (by assumption) (by omega) (by first | decide | omega)).mono ?_; rintro e w1 ⟨x, rfl, hx1, hx2, hd, hgr⟩; have hx2 := hx2 (by first | decide | omega)) | (refine wp_append (lo := w.heap.size) (n := xs.length) (xs := xs.map (Value.int .i64)) (m := 1) (news := [.int .i64 (x - 1)]) rfl rfl 3 (.int .i64 0) 1 8 Try.underlying22 Try.infoInt rfl (by decide) rfl (hd.alloc _).2.2.2.2.2 rfl (Rd.news _ #[_] _ 1 1 rfl (by simp [maxLen])) (by simp [Value.oneCell']) (by unfold maxLen; have := Hl.out; omega) (by have := Hl.out; omega) (hd.alloc _).2.1 ?_; intro v' w2 hown' _ hbel'))
        go_roundw
        case rel => exact ⟨t + 1, xs ++ [x - 1], by omega, by rw [List.length_append, Hl.out]; rfl, by go_num, ((hd.alloc _).append hbel' hown').mono (by omega)⟩
        case measure => simp [intOf]; omega
      · obtain rfl : t = k := by omega
        have hl11 := Hl.out
        clear Hl hlt
        by_cases hk0 : 0 < t
        · obtain ⟨q, cap, rfl, hq, _⟩ := own_shape hd.2.2.2.2.2 (by omega)
          have hk0' : (0 : Int) < t := by omega
          have Hl := Lib.hid hl11
          have ht1 : t ≤ xs.length := by omega
          have ht2 : xs.length ≤ t := by omega
          clear hl11
          go_upto_if 34 with (go_at_call 46; refine (Drawing.pickable (by assumption) (by omega) (by first | decide | omega)).mono ?_; rintro e w1 ⟨x, rfl, hx1, hx2, hd, hgr⟩; have hx2 := hx2 (by first | decide | omega))
          go_cut [] (fun w' => ∃ ys : List Int, ys.length = xs.length ∧ Drawing w0 w.heap.size g (N + 20) (.slice (some ⟨q, 0, none⟩) xs.length cap) ys w')
          case first =>
            by_cases hx : x = 0
            · subst hx
              go_wp2_with fail
              refine (Drawing.pickable (by assumption) (by omega) (by omega)).mono ?_; rintro e w2 ⟨y, rfl, hy1, hy2, hd, hgr⟩; have hy2 := hy2 (by omega)
              obtain ⟨y, rfl⟩ := Int.eq_ofNat_of_zero_le hy1
              go_wp2_with fail
              refine ((hd.alloc _).pickable (by omega) (by decide)).mono ?_; rintro e w3 ⟨z, rfl, hz1, hz2, hd3, hgr3⟩; have hz2 := hz2 (by decide)
              have hgq : g < w2.heap.size := Nat.lt_of_lt_of_le hd.1 hd.2.1
              have c0 : w3.cell? ⟨w2.heap.size, 0, none⟩ = some (.int .i64 (-2)) := hgr3.cell (by simp [World.cell?_alloc_new]) (by simp; omega)
              have c1 : w3.cell? ⟨w2.heap.size, 1, none⟩ = some (.int .i64 3) := hgr3.cell (by simp [World.cell?_alloc_new]) (by simp; omega)
              have C := (World.ownsRow.cellAt hd3.2.2.2.2.2 y (by omega)).trans (getElem_ints (xs := xs) (by omega))
              have Fr := World.ownsRow.frozenAt hd3.2.2.2.2.2 y
              rcases (show z = 0 ∨ z = 1 by omega) with rfl | rfl
              all_goals
                go_wp2_with fail
                go_meet
                case rel => exact ⟨xs.set y _, by simp, by simpa using hd3.set.mono (by omega)⟩
            · have hx' : (x == 0) = false := by simp [hx]
              go_wp2_with fail
              go_meet
              case rel => exact ⟨xs, rfl, hd.mono (by omega)⟩
          case rest =>
            obtain ⟨ys, hyl, hd⟩ := hcut
            have Hyl := Lib.hid hyl; clear hyl
            go_wp2_with fail
            refine (Drawing.pickable (by assumption) (by omega) (by omega)).mono ?_; rintro e w2 ⟨y, rfl, hy1, hy2, hd, hgr⟩
            by_cases hx : y = 0
            · subst hx
              go_wp2_with fail
              go_loopw [6] (fun i wr => ∃ u : Nat, ∃ zs : List Int, u ≤ t ∧ i = .int .i64 u ∧ zs.length = xs.length ∧ Drawing w0 w.heap.size g (N + 21) (.slice (some ⟨q, 0, none⟩) xs.length cap) zs wr) (fun i _ => t - (intOf i).toNat)
              case atStart => exact ⟨0, ys, Nat.zero_le _, rfl, Hyl.out, hd⟩
              case round =>
                obtain ⟨u, zs, hu, rfl, hzl, hd⟩ := hrel
                have Hzl := Lib.hid hzl; clear hzl
                by_cases hut : u < t
                · have C := (World.ownsRow.cellAt (by have := hd.2.2.2.2.2; unfold OwnInts at this; rw [Hzl.out] at this; exact this) u (by omega)).trans (getElem_ints (xs := zs) (by rw [Hzl.out]; omega))
                  have Fr := World.ownsRow.frozenAt (by have := hd.2.2.2.2.2; unfold OwnInts at this; rw [Hzl.out] at this; exact this) u
                  go_wp2_with fail
                  go_roundw
                  case rel => exact ⟨u + 1, zs.set u (-1), by omega, by go_num, by rw [List.length_set]; exact Hzl.out, by have := hd; rw [← Hzl.out] at this ⊢; exact this.set⟩
                  case measure => simp [intOf]; omega
                · go_wp2_with fail
                  go_ret
                  exact ⟨_, zs, rfl, hd.2.2.2.2.2, by rw [Hzl.out]; omega, hd.2.2.2.1.mono (by omega), hd.2.2.2.2.1, hd.2.1⟩
            · have hx' : (y == 0) = false := by simp [hx]
              go_wp2_with fail
              go_ret
              exact ⟨_, ys, rfl, hd.2.2.2.2.2, by rw [Hyl.out]; omega, hd.2.2.2.1.mono (by omega), hd.2.2.2.2.1, hd.2.1⟩
        · have hk0' : ¬ (0 : Int) < t := by omega
          obtain ⟨ao, cao, rfl, _, _, _⟩ := hd.2.2.2.2.2.rd.open
          have Hl := Lib.hid hl11
          have ht2 : xs.length ≤ t := by omega
          clear hl11
          go_wp2_with fail
          refine (Drawing.pickable (by assumption) (by omega) (by omega)).mono ?_; rintro e w2 ⟨y, rfl, hy1, hy2, hd, hgr⟩
          by_cases hx : y = 0
          · subst hx
            go_wp2_with fail
            refine wp_loop_rounds 1 ?_; rw [rounds_succ]
            go_wp2_with fail
            go_ret
            exact ⟨_, xs, rfl, hd.2.2.2.2.2, by omega, hd.2.2.2.1.mono (by omega), hd.2.2.2.2.1, hd.2.1⟩
          · have hx' : (y == 0) = false := by simp [hx]
            go_wp2_with fail
            go_ret
            exact ⟨_, xs, rfl, hd.2.2.2.2.2, by omega, hd.2.2.2.1.mono (by omega), hd.2.2.2.2.1, hd.2.1⟩
end Go.Proofs.Ytpkbfkolllcjgaa
