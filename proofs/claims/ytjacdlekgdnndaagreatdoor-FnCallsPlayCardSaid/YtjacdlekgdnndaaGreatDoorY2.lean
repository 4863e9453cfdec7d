/-
  Packed: 12 texts.
-/
import Derived.Test.YtjacdlekgdnndaaGreatDoorY1
import Derived.Deep.DeepCutAuto
import Derived.Deep.CutBlock
import Derived.Lib.QuietBelow
import Derived.Lib.AppendIntMem
set_option linter.unusedVariables false
namespace Go.Proofs.YtjacdlekgdnndaaGreatDoor
open Go.RowKit
def fitsC (x : CallV) : Bool := inB x.k 1 11 && inB x.e 0 2 && inB x.a 0 9999 && inB x.b 0 9999 && inB x.c 0 9999 && rightOk x.nm
set_option maxHeartbeats 400000 in
theorem ct_isWord_any (n : Int) (w : World) :
 Calls Tryz.prog 159 #[.int .i64 n] w fun e w' => e = .returned (.bool (inB n 0 9999)) ∧ w = w' := by
 go_enter Tryz.func159, Tryz.ntmps159
 go_wp2_with (go_at_call 55; refine (within_any _ _ _ _).mono ?_; rintro e w' ⟨rfl, rfl⟩)
 go_ret
 exact ⟨rfl, rfl⟩
set_option maxRecDepth 100000 in
set_option maxHeartbeats 2000000 in
theorem CallFits_spec (x : CallV) (w : World) (hs : x.nm.size ≤ maxLen) :
 Calls Tryz.prog 102 #[x.val] w fun e w' => e = .returned (.bool (fitsC x)) ∧ Below w.heap.size w w' := by
 obtain ⟨k, e, a, b, c, nm⟩ := x
 simp only [CallV.val, CallV.cells, fitsC]
 have B1 := Lib.hid (below1 w (.cells #[.int .i64 k, .int .i64 e, .int .i64 a, .int .i64 b, .int .i64 c, .string nm] 60))
 have H1 := Lib.hid (fun w => l6In_any k 1 11 w)
 have H2 := Lib.hid (fun w => l6In_any e 0 2 w)
 have H3 := Lib.hid (fun w => l6In_any a 0 9999 w)
 have H4 := Lib.hid (fun w => l6In_any b 0 9999 w)
 have H5 := Lib.hid (fun w => l6In_any c 0 9999 w)
 have H6 := Lib.hid (fun w => RightValid_spec nm w hs)
 generalize inB k 1 11 = q1 at H1 ⊢
 generalize inB e 0 2 = q2 at H2 ⊢
 generalize inB a 0 9999 = q3 at H3 ⊢
 generalize inB b 0 9999 = q4 at H4 ⊢
 generalize inB c 0 9999 = q5 at H5 ⊢
 generalize rightOk nm = q6 at H6 ⊢
 cases q1
 ·go_enter Tryz.func102, Tryz.ntmps102
  go_wp2_with fail
  refine (H1.out _).mono ?_; rintro e' w' ⟨rfl, rfl⟩
  go_wp2_with fail
  go_ret
  exact ⟨rfl, B1.out⟩
 cases q2
 ·go_enter Tryz.func102, Tryz.ntmps102
  go_wp2_with fail
  refine (H1.out _).mono ?_; rintro e' w' ⟨rfl, rfl⟩
  go_wp2_with fail
  refine (H2.out _).mono ?_; rintro e' w' ⟨rfl, rfl⟩
  go_wp2_with fail
  go_ret
  exact ⟨rfl, B1.out⟩
 cases q3
 ·go_enter Tryz.func102, Tryz.ntmps102
  go_wp2_with fail
  refine (H1.out _).mono ?_; rintro e' w' ⟨rfl, rfl⟩
  go_wp2_with fail
  refine (H2.out _).mono ?_; rintro e' w' ⟨rfl, rfl⟩
  go_wp2_with fail
  refine (H3.out _).mono ?_; rintro e' w' ⟨rfl, rfl⟩
  go_wp2_with fail
  go_ret
  exact ⟨rfl, B1.out⟩
 cases q4
 ·go_enter Tryz.func102, Tryz.ntmps102
  go_wp2_with fail
  refine (H1.out _).mono ?_; rintro e' w' ⟨rfl, rfl⟩
  go_wp2_with fail
  refine (H2.out _).mono ?_; rintro e' w' ⟨rfl, rfl⟩
  go_wp2_with fail
  refine (H3.out _).mono ?_; rintro e' w' ⟨rfl, rfl⟩
  go_wp2_with fail
  refine (H4.out _).mono ?_; rintro e' w' ⟨rfl, rfl⟩
  go_wp2_with fail
  go_ret
  exact ⟨rfl, B1.out⟩
 cases q5
 ·go_enter Tryz.func102, Tryz.ntmps102
  go_wp2_with fail
  refine (H1.out _).mono ?_; rintro e' w' ⟨rfl, rfl⟩
  go_wp2_with fail
  refine (H2.out _).mono ?_; rintro e' w' ⟨rfl, rfl⟩
  go_wp2_with fail
  refine (H3.out _).mono ?_; rintro e' w' ⟨rfl, rfl⟩
  go_wp2_with fail
  refine (H4.out _).mono ?_; rintro e' w' ⟨rfl, rfl⟩
  go_wp2_with fail
  refine (H5.out _).mono ?_; rintro e' w' ⟨rfl, rfl⟩
  go_wp2_with fail
  go_ret
  exact ⟨rfl, B1.out⟩
 cases q6
 all_goals
  go_enter Tryz.func102, Tryz.ntmps102
  go_wp2_with fail
  refine (H1.out _).mono ?_; rintro e' w' ⟨rfl, rfl⟩
  go_wp2_with fail
  refine (H2.out _).mono ?_; rintro e' w' ⟨rfl, rfl⟩
  go_wp2_with fail
  refine (H3.out _).mono ?_; rintro e' w' ⟨rfl, rfl⟩
  go_wp2_with fail
  refine (H4.out _).mono ?_; rintro e' w' ⟨rfl, rfl⟩
  go_wp2_with fail
  refine (H5.out _).mono ?_; rintro e' w' ⟨rfl, rfl⟩
  go_wp2_with fail
  refine (H6.out _).mono ?_; rintro e' w' ⟨rfl, rfl⟩
  go_wp2_with fail
  go_ret
  exact ⟨rfl, B1.out⟩
set_option maxRecDepth 100000 in
set_option maxHeartbeats 2000000 in
theorem CallFits_impl (x : CallV) (w : World) (hs : x.nm.size ≤ maxLen) :
 Calls Tryz.prog 99 #[x.val] w fun e w' => e = .returned (.bool (fitsC x)) ∧ Below w.heap.size w w' := by
 obtain ⟨k, e, a, b, c, nm⟩ := x
 simp only [CallV.val, CallV.cells, fitsC]
 have B1 := Lib.hid (below1 w (.cells #[.int .i64 k, .int .i64 e, .int .i64 a, .int .i64 b, .int .i64 c, .string nm] 60))
 have H1 := Lib.hid (fun w => within_any k 1 11 w)
 have H2 := Lib.hid (fun w => isEnv_any e w)
 have H3 := Lib.hid (fun w => ct_isWord_any a w)
 have H4 := Lib.hid (fun w => ct_isWord_any b w)
 have H5 := Lib.hid (fun w => ct_isWord_any c w)
 have H6 := Lib.hid (fun w => RightValid_impl nm w hs)
 generalize inB k 1 11 = q1 at H1 ⊢
 generalize inB e 0 2 = q2 at H2 ⊢
 generalize inB a 0 9999 = q3 at H3 ⊢
 generalize inB b 0 9999 = q4 at H4 ⊢
 generalize inB c 0 9999 = q5 at H5 ⊢
 generalize rightOk nm = q6 at H6 ⊢
 cases q1
 ·go_enter Tryz.func99, Tryz.ntmps99
  go_wp2_with fail
  refine (H1.out _).mono ?_; rintro e' w' ⟨rfl, rfl⟩
  go_wp2_with fail
  go_ret
  exact ⟨rfl, B1.out⟩
 cases q2
 ·go_enter Tryz.func99, Tryz.ntmps99
  go_wp2_with fail
  refine (H1.out _).mono ?_; rintro e' w' ⟨rfl, rfl⟩
  go_wp2_with fail
  refine (H2.out _).mono ?_; rintro e' w' ⟨rfl, rfl⟩
  go_wp2_with fail
  go_ret
  exact ⟨rfl, B1.out⟩
 cases q3
 ·go_enter Tryz.func99, Tryz.ntmps99
  go_wp2_with fail
  refine (H1.out _).mono ?_; rintro e' w' ⟨rfl, rfl⟩
  go_wp2_with fail
  refine (H2.out _).mono ?_; rintro e' w' ⟨rfl, rfl⟩
  go_wp2_with fail
  refine (H3.out _).mono ?_; rintro e' w' ⟨rfl, rfl⟩
  go_wp2_with fail
  go_ret
  exact ⟨rfl, B1.out⟩
 cases q4
 ·go_enter Tryz.func99, Tryz.ntmps99
  go_wp2_with fail
  refine (H1.out _).mono ?_; rintro e' w' ⟨rfl, rfl⟩
  go_wp2_with fail
  refine (H2.out _).mono ?_; rintro e' w' ⟨rfl, rfl⟩
  go_wp2_with fail
  refine (H3.out _).mono ?_; rintro e' w' ⟨rfl, rfl⟩
  go_wp2_with fail
  refine (H4.out _).mono ?_; rintro e' w' ⟨rfl, rfl⟩
  go_wp2_with fail
  go_ret
  exact ⟨rfl, B1.out⟩
 cases q5
 ·go_enter Tryz.func99, Tryz.ntmps99
  go_wp2_with fail
  refine (H1.out _).mono ?_; rintro e' w' ⟨rfl, rfl⟩
  go_wp2_with fail
  refine (H2.out _).mono ?_; rintro e' w' ⟨rfl, rfl⟩
  go_wp2_with fail
  refine (H3.out _).mono ?_; rintro e' w' ⟨rfl, rfl⟩
  go_wp2_with fail
  refine (H4.out _).mono ?_; rintro e' w' ⟨rfl, rfl⟩
  go_wp2_with fail
  refine (H5.out _).mono ?_; rintro e' w' ⟨rfl, rfl⟩
  go_wp2_with fail
  go_ret
  exact ⟨rfl, B1.out⟩
 cases q6
 all_goals
  go_enter Tryz.func99, Tryz.ntmps99
  go_wp2_with fail
  refine (H1.out _).mono ?_; rintro e' w' ⟨rfl, rfl⟩
  go_wp2_with fail
  refine (H2.out _).mono ?_; rintro e' w' ⟨rfl, rfl⟩
  go_wp2_with fail
  refine (H3.out _).mono ?_; rintro e' w' ⟨rfl, rfl⟩
  go_wp2_with fail
  refine (H4.out _).mono ?_; rintro e' w' ⟨rfl, rfl⟩
  go_wp2_with fail
  refine (H5.out _).mono ?_; rintro e' w' ⟨rfl, rfl⟩
  go_wp2_with fail
  refine (H6.out _).mono ?_; rintro e' w' ⟨rfl, b6⟩
  go_wp2_with fail
  go_ret
  exact ⟨rfl, B1.out.trans (b6.mono (by simp))⟩
end Go.Proofs.YtjacdlekgdnndaaGreatDoor
set_option linter.unusedVariables false
namespace Go.Proofs.YtjacdlekgdnndaaGreatDoor
open Go.RowKit
theorem ct_grown_set (w : World) (g j : Nat) (u : Value) : w.grownBy (w.setCell ⟨g, j, none⟩ u) (some g) := ⟨rfl, rfl, rfl, by simp, fun k _ hk => heap_setCell_other w ⟨g, j, none⟩ k u (fun e => hk (by simp [e]))⟩
theorem ct_blk_frozen {w : World} {g t : Nat} {cs : Array Value} (h : w.heap[g]? = some (.cells cs t (0, 0))) : ∀ j, w.frozen? ⟨g, j, none⟩ = false := fun j => frozen_of_row w g j _ _ h
theorem ct_blk_lt {w : World} {g : Nat} {o : Obj} (h : w.heap[g]? = some o) : g < w.heap.size := (Array.getElem?_eq_some_iff.1 h).1
theorem ct_blk_below {w w' : World} {g : Nat} {o : Obj} (h : w.heap[g]? = some o) (hb : Below w.heap.size w w') : w'.heap[g]? = some o := (hb.block g (ct_blk_lt h)).trans h
def Dr (w0 : World) (g N : Nat) (w : World) : Prop := Reader w0 w (.pointer (some ⟨g, 0, none⟩)) N ∧ Below w0.heap.size w0 w ∧ w0.heap.size ≤ g ∧ g < w.heap.size
theorem Dr.of {w0 w : World} {R : Value} {N : Nat} (h : Reader w0 w R N) (hb : Below w0.heap.size w0 w) : ∃ g, R = .pointer (some ⟨g, 0, none⟩) ∧ Dr w0 g N w := by
 obtain ⟨g, bsv, bs, p, rfl, hg, hblk, hr⟩ := h
 exact ⟨g, rfl, ⟨g, bsv, bs, p, rfl, hg, hblk, hr⟩, hb, hg, (Array.getElem?_eq_some_iff.1 hblk).1⟩
theorem Dr.keep {w0 w w' : World} {g N : Nat} {row : Option Nat} (h : Dr w0 g N w) (hg : w.grownBy w' row) (h1 : row ≠ some g) (h2 : ∀ k, row = some k → w0.heap.size ≤ k) : Dr w0 g N w' := by
 obtain ⟨⟨g', bsv, bs, p, hR, hg', hblk, hr⟩, hb, hlo, hlt⟩ := h
 obtain rfl : g = g' := by simpa using hR
 exact ⟨⟨g, bsv, bs, p, rfl, hg', (hg.block g hlt (fun e => h1 e.symm)).trans hblk, hr⟩, hb.grown hg hb.size h2, hlo, Nat.lt_of_lt_of_le hlt hg.size⟩
theorem Dr.below {w0 w w' : World} {g N : Nat} (h : Dr w0 g N w) (hb : Below w.heap.size w w') : Dr w0 g N w' := h.keep (grown_below hb none) (by simp) (fun k hk => by cases hk)
theorem Dr.alloc {w0 w : World} {g N : Nat} (h : Dr w0 g N w) (o : Obj) : Dr w0 g N (w.alloc o) := h.below (below1 _ _)
theorem Dr.mono {w0 w : World} {g N M : Nat} (h : Dr w0 g N w) (hm : N ≤ M) : Dr w0 g M w := ⟨h.1.mono hm, h.2⟩
theorem Dr.set {w0 w : World} {g N b j : Nat} {u : Value} (h : Dr w0 g N w) (hne : b ≠ g) (hb : w0.heap.size ≤ b) : Dr w0 g N (w.setCell ⟨b, j, none⟩ u) :=
 h.keep (ct_grown_set w b j u) (by simpa using hne) (fun k hk => by cases hk; exact hb)
theorem Dr.lt {w0 w : World} {g N : Nat} (h : Dr w0 g N w) : g < w.heap.size := h.2.2.2
theorem Dr.pick {w0 w : World} {g N : Nat} (n : Int) (h : Dr w0 g N w) (hN : N ≤ 1000000) (hn : n ≤ 1000000) :
 Calls Tryz.prog 32 #[.pointer (some ⟨g, 0, none⟩), .int .i64 n] w fun e w' => ∃ x : Int, e = .returned (.int .i64 x) ∧ 0 ≤ x ∧ (0 < n → x < n) ∧ Dr w0 g (N + 1) w' ∧ w.grownBy w' (some g) :=
 (pick_any w0 _ N n w h.1 h.2.1 hN hn).mono fun _ _ hp => by
  obtain ⟨x, rfl, ⟨hx1, hx2, hx3⟩, hr, hb1, g1, hg1, hgr⟩ := hp
  obtain rfl : g = g1 := by simpa using hg1
  exact ⟨x, rfl, hx1, hx2, ⟨hr, hb1, h.2.2.1, Nat.lt_of_lt_of_le h.2.2.2 hgr.size⟩, hgr⟩
theorem grown_alloc {w0 w : World} {row : Option Nat} (h : w0.grownBy w row) (o : Obj) : w0.grownBy (w.alloc o) row := grown_trans h (grown_below (below1 _ _) row)
theorem grown_new {w0 w : World} {row : Option Nat} (h : w0.grownBy w row) {b j : Nat} (hb : w0.heap.size ≤ b) (u : Value) : w0.grownBy (w.setCell ⟨b, j, none⟩ u) row :=
 ⟨h.os, h.tape, h.output, by simpa using h.size, fun k hk hne => (heap_setCell_other w ⟨b, j, none⟩ k u (by intro e; simp at e; omega)).trans (h.block k hk hne)⟩
def DrPost (w0 : World) (g N : Nat) (w : World) (P : Value → Prop) (e : Ending) (w' : World) : Prop := ∃ v, e = .returned v ∧ P v ∧ Dr w0 g N w' ∧ w.grownBy w' (some g)
set_option maxHeartbeats 1000000 in
theorem of_any {w0 w : World} {g N : Nat} (b n : Nat) (ss : List ByteArray) (h : Dr w0 g N w) (hN : N ≤ 1000000) (hn : ss.length = n) (h0 : 0 < n) (h1 : n ≤ 1000) (hne : b ≠ g) (hb : b < w.heap.size) (hc : ∀ k, k < n → w.cell? ⟨b, k, none⟩ = some (.string (nthS ss k))) :
 Calls Tryz.prog 33 #[.pointer (some ⟨g, 0, none⟩), .slice (some ⟨b, 0, none⟩) n n] w (DrPost w0 g (N + 1) w fun v => ∃ s, s ∈ ss ∧ v = .string s) := by
 have Hc := Lib.hid hc; clear hc
 have Hn := Lib.hid hn; clear hn
 go_enter Tryz.func33, Tryz.ntmps33
 go_wp2_with fail
 refine (h.pick _ hN (by omega)).mono ?_; rintro e w1 ⟨x, rfl, hx0, hx1, h', hgr⟩
 have hx1 := hx1 (by omega)
 obtain ⟨x, rfl⟩ := Int.eq_ofNat_of_zero_le hx0
 have D : w1.cell? ⟨b, x, none⟩ = some (.string (nthS ss x)) := (World.cell?_of_block (hgr.block b hb (by simpa using hne))).trans (Hc.out x (by omega))
 have hx2 : x < n := by omega
 go_wp2_with fail
 go_ret
 exact ⟨_, rfl, ⟨nthS ss x, List.mem_of_getElem? (nthS_lt (by rw [Hn.out]; exact hx2)), rfl⟩, h', hgr⟩
theorem lit_strs (w : World) (ss : List ByteArray) (t : TypeId) {k : Nat} (hk : k < ss.length) : (w.alloc (.cells (ss.map Value.string).toArray t)).cell? ⟨w.heap.size, k, none⟩ = some (.string (nthS ss k)) := by
 rw [World.cell?_alloc_new]
 simp only [List.getElem?_toArray, List.getElem?_map]
 rw [nthS_lt hk]
 rfl
theorem call_cells {w : World} {b : Nat} {x : CallV} (h : w.heap[b]? = some (.cells x.cells 60 (0, 0))) : w.cell? ⟨b, 0, none⟩ = some (.int .i64 x.k) ∧ w.cell? ⟨b, 1, none⟩ = some (.int .i64 x.e) ∧ w.cell? ⟨b, 2, none⟩ = some (.int .i64 x.a) ∧ w.cell? ⟨b, 3, none⟩ = some (.int .i64 x.b) ∧ w.cell? ⟨b, 4, none⟩ = some (.int .i64 x.c) ∧ w.cell? ⟨b, 5, none⟩ = some (.string x.nm) :=
 ⟨cell_of_row w b 0 _ _ _ h, cell_of_row w b 1 _ _ _ h, cell_of_row w b 2 _ _ _ h, cell_of_row w b 3 _ _ _ h, cell_of_row w b 4 _ _ _ h, cell_of_row w b 5 _ _ _ h⟩
theorem set6 {w : World} {q : Nat} {x y : CallV} (h : w.heap[q]? = some (.cells y.cells 60 (0, 0))) :
 ((((((w.setCell ⟨q, 0, none⟩ (.int .i64 x.k)).setCell ⟨q, 1, none⟩ (.int .i64 x.e)).setCell ⟨q, 2, none⟩ (.int .i64 x.a)).setCell ⟨q, 3, none⟩ (.int .i64 x.b)).setCell ⟨q, 4, none⟩ (.int .i64 x.c)).setCell ⟨q, 5, none⟩ (.string x.nm)).heap[q]? = some (.cells x.cells 60 (0, 0)) := by
 have h0 := heap_setCell_same w q 0 _ _ (.int .i64 x.k) h
 have h1 := heap_setCell_same _ q 1 _ _ (.int .i64 x.e) h0
 have h2 := heap_setCell_same _ q 2 _ _ (.int .i64 x.a) h1
 have h3 := heap_setCell_same _ q 3 _ _ (.int .i64 x.b) h2
 have h4 := heap_setCell_same _ q 4 _ _ (.int .i64 x.c) h3
 have h5 := heap_setCell_same _ q 5 _ _ (.string x.nm) h4
 simpa [CallV.cells] using h5
def CSt (w0 : World) (g N : Nat) (w : World) (b : Nat) (wr : World) : Prop :=
 ∃ x : CallV, x.nm.size ≤ 8 ∧ Dr w0 g N wr ∧ w.grownBy wr (some g) ∧ w.heap.size < b ∧ g < w.heap.size ∧ w0.heap.size ≤ w.heap.size ∧ wr.heap[b]? = some (.cells x.cells 60 (0, 0)) ∧
  (∃ y : CallV, wr.heap[w.heap.size]? = some (.cells y.cells 60 (0, 0)))
section
variable {w0 w wr w' : World} {g N M b : Nat}
theorem CSt.cc (h : CSt w0 g N w b wr) : ∃ x : CallV, wr.cell? ⟨b, 0, none⟩ = some (.int .i64 x.k) ∧ wr.cell? ⟨b, 1, none⟩ = some (.int .i64 x.e) ∧ wr.cell? ⟨b, 2, none⟩ = some (.int .i64 x.a) ∧ wr.cell? ⟨b, 3, none⟩ = some (.int .i64 x.b) ∧ wr.cell? ⟨b, 4, none⟩ = some (.int .i64 x.c) ∧ wr.cell? ⟨b, 5, none⟩ = some (.string x.nm) ∧ (∀ j, wr.frozen? ⟨b, j, none⟩ = false) ∧ Hid (wr.heap[b]? = some (.cells x.cells 60 (0, 0))) := by
 obtain ⟨x, _, _, _, _, _, _, h1, _⟩ := h
 obtain ⟨c0, c1, c2, c3, c4, c5⟩ := call_cells h1
 exact ⟨x, c0, c1, c2, c3, c4, c5, ct_blk_frozen h1, Lib.hid h1⟩
theorem CSt.dr (h : CSt w0 g N w b wr) : Dr w0 g N wr := by
 obtain ⟨x, _, h1, _⟩ := h
 exact h1
theorem CSt.ne (h : CSt w0 g N w b wr) : w.heap.size ≠ b ∧ b ≠ w.heap.size ∧ b ≠ g ∧ g ≠ b ∧ g ≠ w.heap.size ∧ w.heap.size ≠ g := by
 obtain ⟨x, _, _, _, h1, h2, _⟩ := h
 omega
theorem CSt.alloc (h : CSt w0 g N w b wr) (o : Obj) : CSt w0 g N w b (wr.alloc o) := by
 obtain ⟨x, h0, h1, h2, h3, h4, h5, h6, ⟨y, h7⟩⟩ := h
 exact ⟨x, h0, h1.alloc o, grown_alloc h2 o, h3, h4, h5, ct_blk_below h6 (below1 _ _), ⟨y, ct_blk_below h7 (below1 _ _)⟩⟩
theorem CSt.draw (h : CSt w0 g N w b wr) (hd : Dr w0 g M w') (hg : wr.grownBy w' (some g)) : CSt w0 g M w b w' := by
 obtain ⟨x, h0, h1, h2, h3, h4, h5, h6, ⟨y, h7⟩⟩ := h
 have far : ∀ {q : Nat} {o : Obj}, w.heap.size ≤ q → wr.heap[q]? = some o → w'.heap[q]? = some o := fun {q o} hq hb => (hg.block q (ct_blk_lt hb) (by simp; omega)).trans hb
 exact ⟨x, h0, hd, grown_trans h2 hg, h3, h4, h5, far (by omega) h6, ⟨y, far (by omega) h7⟩⟩
theorem CSt.set0 (h : CSt w0 g N w b wr) (z : Int) : CSt w0 g N w b (wr.setCell ⟨b, 0, none⟩ (.int .i64 z)) := by
 obtain ⟨x, h0, h1, h2, h3, h4, h5, h6, ⟨y, h7⟩⟩ := h
 have hb := heap_setCell_same wr b 0 _ _ (.int .i64 z) h6
 have far : ∀ {q : Nat} {o : Obj}, q ≠ b → wr.heap[q]? = some o → (wr.setCell ⟨b, 0, none⟩ (.int .i64 z)).heap[q]? = some o := fun {q o} hq hb => (heap_setCell_other wr ⟨b, 0, none⟩ q _ (fun e => hq (by simpa using e))).trans hb
 exact ⟨⟨z, x.e, x.a, x.b, x.c, x.nm⟩, h0, h1.set (by omega) (by omega), grown_new h2 (by omega) _, h3, h4, h5, by simpa [CallV.cells] using hb, ⟨y, far (by omega) h7⟩⟩
theorem CSt.set1 (h : CSt w0 g N w b wr) (z : Int) : CSt w0 g N w b (wr.setCell ⟨b, 1, none⟩ (.int .i64 z)) := by
 obtain ⟨x, h0, h1, h2, h3, h4, h5, h6, ⟨y, h7⟩⟩ := h
 have hb := heap_setCell_same wr b 1 _ _ (.int .i64 z) h6
 have far : ∀ {q : Nat} {o : Obj}, q ≠ b → wr.heap[q]? = some o → (wr.setCell ⟨b, 1, none⟩ (.int .i64 z)).heap[q]? = some o := fun {q o} hq hb => (heap_setCell_other wr ⟨b, 1, none⟩ q _ (fun e => hq (by simpa using e))).trans hb
 exact ⟨⟨x.k, z, x.a, x.b, x.c, x.nm⟩, h0, h1.set (by omega) (by omega), grown_new h2 (by omega) _, h3, h4, h5, by simpa [CallV.cells] using hb, ⟨y, far (by omega) h7⟩⟩
theorem CSt.set4 (h : CSt w0 g N w b wr) (z : Int) : CSt w0 g N w b (wr.setCell ⟨b, 4, none⟩ (.int .i64 z)) := by
 obtain ⟨x, h0, h1, h2, h3, h4, h5, h6, ⟨y, h7⟩⟩ := h
 have hb := heap_setCell_same wr b 4 _ _ (.int .i64 z) h6
 have far : ∀ {q : Nat} {o : Obj}, q ≠ b → wr.heap[q]? = some o → (wr.setCell ⟨b, 4, none⟩ (.int .i64 z)).heap[q]? = some o := fun {q o} hq hb => (heap_setCell_other wr ⟨b, 4, none⟩ q _ (fun e => hq (by simpa using e))).trans hb
 exact ⟨⟨x.k, x.e, x.a, x.b, z, x.nm⟩, h0, h1.set (by omega) (by omega), grown_new h2 (by omega) _, h3, h4, h5, by simpa [CallV.cells] using hb, ⟨y, far (by omega) h7⟩⟩
theorem CSt.setS (h : CSt w0 g N w b wr) (s : ByteArray) (hs : s.size ≤ 8) : CSt w0 g N w b (wr.setCell ⟨b, 5, none⟩ (.string s)) := by
 obtain ⟨x, h0, h1, h2, h3, h4, h5, h6, ⟨y, h7⟩⟩ := h
 have hb := heap_setCell_same wr b 5 _ _ (.string s) h6
 have far : ∀ {q : Nat} {o : Obj}, q ≠ b → wr.heap[q]? = some o → (wr.setCell ⟨b, 5, none⟩ (.string s)).heap[q]? = some o := fun {q o} hq hb => (heap_setCell_other wr ⟨b, 5, none⟩ q _ (fun e => hq (by simpa using e))).trans hb
 exact ⟨⟨x.k, x.e, x.a, x.b, x.c, s⟩, hs, h1.set (by omega) (by omega), grown_new h2 (by omega) _, h3, h4, h5, by simpa [CallV.cells] using hb, ⟨y, far (by omega) h7⟩⟩
theorem CSt.qc (h : CSt w0 g N w b wr) : ∃ y : CallV, wr.cell? ⟨w.heap.size, 0, none⟩ = some (.int .i64 y.k) ∧ wr.cell? ⟨w.heap.size, 1, none⟩ = some (.int .i64 y.e) ∧ wr.cell? ⟨w.heap.size, 2, none⟩ = some (.int .i64 y.a) ∧ wr.cell? ⟨w.heap.size, 3, none⟩ = some (.int .i64 y.b) ∧ wr.cell? ⟨w.heap.size, 4, none⟩ = some (.int .i64 y.c) ∧ wr.cell? ⟨w.heap.size, 5, none⟩ = some (.string y.nm) ∧ ∀ j, wr.frozen? ⟨w.heap.size, j, none⟩ = false := by
 obtain ⟨x, _, _, _, _, _, _, _, ⟨y, h1⟩⟩ := h
 obtain ⟨c0, c1, c2, c3, c4, c5⟩ := call_cells h1
 exact ⟨y, c0, c1, c2, c3, c4, c5, ct_blk_frozen h1⟩
def CEnd (w0 : World) (g N : Nat) (w : World) (x : CallV) (W : World) : Prop :=
 (W.cell? ⟨w.heap.size, 0, none⟩ = some (.int .i64 x.k) ∧ W.cell? ⟨w.heap.size, 1, none⟩ = some (.int .i64 x.e) ∧ W.cell? ⟨w.heap.size, 2, none⟩ = some (.int .i64 x.a) ∧ W.cell? ⟨w.heap.size, 3, none⟩ = some (.int .i64 x.b) ∧ W.cell? ⟨w.heap.size, 4, none⟩ = some (.int .i64 x.c) ∧ W.cell? ⟨w.heap.size, 5, none⟩ = some (.string x.nm)) ∧
 DrPost w0 g N w (fun v => ∃ x : CallV, v = x.val ∧ x.nm.size ≤ 8) (.returned x.val) W
theorem CSt.fin (h : CSt w0 g N w b wr) (x : CallV) (hb : wr.heap[b]? = some (.cells x.cells 60 (0, 0))) (hM : N ≤ M) : CEnd w0 g M w x ((((((wr.setCell ⟨w.heap.size, 0, none⟩ (.int .i64 x.k)).setCell ⟨w.heap.size, 1, none⟩ (.int .i64 x.e)).setCell ⟨w.heap.size, 2, none⟩ (.int .i64 x.a)).setCell ⟨w.heap.size, 3, none⟩ (.int .i64 x.b)).setCell ⟨w.heap.size, 4, none⟩ (.int .i64 x.c)).setCell ⟨w.heap.size, 5, none⟩ (.string x.nm)) := by
 obtain ⟨x', h0, h1, h2, h3, h4, h5, h6, ⟨y, h8⟩⟩ := h
 have hx : x'.nm = x.nm := by
  rw [h6] at hb
  simp [CallV.cells] at hb
  exact hb.2.2.2.2.2
 have n1 : w.heap.size ≠ g := by omega
 have n2 : w0.heap.size ≤ w.heap.size := by omega
 have n3 : w.heap.size ≤ w.heap.size := by omega
 exact ⟨call_cells (set6 h8), _, rfl, ⟨x, rfl, hx ▸ h0⟩, ((((((h1.set n1 n2).set n1 n2).set n1 n2).set n1 n2).set n1 n2).set n1 n2).mono hM, grown_new (grown_new (grown_new (grown_new (grown_new (grown_new h2 n3 _) n3 _) n3 _) n3 _) n3 _) n3 _⟩
end
set_option maxRecDepth 100000 in
set_option maxHeartbeats 8000000 in
theorem l93Call_any {w0 w : World} {g N : Nat} (h : Dr w0 g N w) (hN : N ≤ 900000) :
 Calls Tryz.prog 93 #[.pointer (some ⟨g, 0, none⟩)] w (DrPost w0 g (N + 9) w fun v => ∃ x : CallV, v = x.val ∧ x.nm.size ≤ 8) := by
 have hlt := h.lt
 have hw0 : w0.heap.size ≤ w.heap.size := h.2.1.size
 go_enter Tryz.func93, Tryz.ntmps93
 go_wp2_with fail
 refine ((h.alloc _).pick _ (by omega) (by decide)).mono ?_; rintro e' w1 ⟨v1, rfl, m1, l1, h1, g1⟩
 replace l1 := l1 (by decide)
 go_wp2_with fail
 refine (h1.pick _ (by omega) (by decide)).mono ?_; rintro e' w2 ⟨v2, rfl, m2, l2, h2, g2⟩
 replace l2 := l2 (by decide)
 go_wp2_with fail
 refine (h2.pick _ (by omega) (by decide)).mono ?_; rintro e' w3 ⟨v3, rfl, m3, l3, h3, g3⟩
 replace l3 := l3 (by decide)
 go_wp2_with fail
 refine (h3.pick _ (by omega) (by decide)).mono ?_; rintro e' w4 ⟨v4, rfl, m4, l4, h4, g4⟩
 replace l4 := l4 (by decide)
 go_wp2_with fail
 refine (h4.pick _ (by omega) (by decide)).mono ?_; rintro e' w5 ⟨v5, rfl, m5, l5, h5, g5⟩
 replace l5 := l5 (by decide)
 have m45 : 0 ≤ v4 * v5 := Int.mul_nonneg m4 m5
 have l45 : v4 * v5 ≤ 4 * 49 := Int.mul_le_mul (by omega) (by omega) m5 (by decide)
 go_wp2_with fail
 refine (h5.pick _ (by omega) (by decide)).mono ?_; rintro e' w6 ⟨v6, rfl, m6, l6, h6, g6⟩
 replace l6 := l6 (by decide)
 go_wp2_with fail
 have LS := fun k hk => lit_strs (w6.alloc (.cells #[.int .i64 (1 + v1), .int .i64 v2, .int .i64 v3, .int .i64 (v4 * v5), .int .i64 (v6 * 40), .string ⟨#[]⟩] 60)) [⟨#[]⟩, ⟨#[97]⟩, ⟨#[98]⟩, ⟨#[97, 98]⟩, ⟨#[97, 98, 99]⟩, ⟨#[99, 97]⟩, ⟨#[97, 98, 99, 97]⟩] 9 (k := k) hk
 simp only [World.size_alloc] at LS
 refine (of_any _ 7 [⟨#[]⟩, ⟨#[97]⟩, ⟨#[98]⟩, ⟨#[97, 98]⟩, ⟨#[97, 98, 99]⟩, ⟨#[99, 97]⟩, ⟨#[97, 98, 99, 97]⟩] ((h6.alloc (.cells #[.int .i64 (1 + v1), .int .i64 v2, .int .i64 v3, .int .i64 (v4 * v5), .int .i64 (v6 * 40), .string ⟨#[]⟩] 60)).alloc (.cells ([⟨#[]⟩, ⟨#[97]⟩, ⟨#[98]⟩, ⟨#[97, 98]⟩, ⟨#[97, 98, 99]⟩, ⟨#[99, 97]⟩, ⟨#[97, 98, 99, 97]⟩].map Value.string).toArray 9)) (by omega) rfl (by decide) (by decide) (by have := h6.lt; omega) (by simp) LS).mono ?_
 rintro e' w7 ⟨v, rfl, ⟨s, hs, rfl⟩, h7, g7⟩
 clear LS
 have hl8 : s.size ≤ 8 := by
  simp only [List.mem_cons, List.not_mem_nil, or_false] at hs
  rcases hs with rfl | rfl | rfl | rfl | rfl | rfl | rfl <;> decide
 have St0 : CSt w0 g (N + 7) w w6.heap.size w7 := by
  have G := grown_trans (grown_trans (grown_trans (grown_trans (grown_trans g1 g2) g3) g4) g5) g6
  have hz := G.size
  simp at hz
  have B0 := heap_alloc_new w (.cells (CallV.mk 0 0 0 0 0 ⟨#[]⟩).cells 60)
  have B6 := (G.block w.heap.size (by simp) (by simp; omega)).trans B0
  have Bc := heap_alloc_new w6 (.cells #[.int .i64 (1 + v1), .int .i64 v2, .int .i64 v3, .int .i64 (v4 * v5), .int .i64 (v6 * 40), .string ⟨#[]⟩] 60)
  have far : ∀ {q : Nat} {o : Obj}, w.heap.size ≤ q → (w6.alloc (.cells #[.int .i64 (1 + v1), .int .i64 v2, .int .i64 v3, .int .i64 (v4 * v5), .int .i64 (v6 * 40), .string ⟨#[]⟩] 60)).heap[q]? = some o → w7.heap[q]? = some o := fun {q o} hq hb => (g7.block q (ct_blk_lt (ct_blk_below hb (below1 _ (.cells ([⟨#[]⟩, ⟨#[97]⟩, ⟨#[98]⟩, ⟨#[97, 98]⟩, ⟨#[97, 98, 99]⟩, ⟨#[99, 97]⟩, ⟨#[97, 98, 99, 97]⟩].map Value.string).toArray 9)))) (by simp; omega)).trans (ct_blk_below hb (below1 _ _))
  exact ⟨⟨1 + v1, v2, v3, v4 * v5, v6 * 40, ⟨#[]⟩⟩, (show (⟨#[]⟩ : ByteArray).size ≤ 8 by decide), h7, grown_trans (grown_trans (grown_below (below1 _ _) _) G) (grown_trans (grown_below (below2 _ _ _) _) g7), by omega, hlt, hw0, far (by omega) Bc, ⟨⟨0, 0, 0, 0, 0, ⟨#[]⟩⟩, far (Nat.le_refl _) (ct_blk_below B6 (below1 _ _))⟩⟩
 clear h1 h2 h3 h4 h5 h6 h7 g1 g2 g3 g4 g5 g6 g7 h hs
 generalize w6.heap.size = b at St0
 obtain ⟨n1, n2, n3, n4, n5, n6⟩ := St0.ne
 obtain ⟨x1, c0, c1, c2, c3, c4, c5, hf, hBx⟩ := St0.cc
 go_wp2_with fail
 have St8 := St0.setS s hl8
 refine (St8.dr.pick _ (by omega) (by decide)).mono ?_; rintro e' w7' ⟨q, rfl, q0, q1, h8, g8⟩
 replace q1 := q1 (by decide)
 have St := St8.draw h8 g8
 clear c0 c1 c2 c3 c4 c5 hf hBx St0 St8 h8 g8
 generalize w7' = w7 at St
 by_cases q0' : q = 0
 ·subst q0'
  obtain ⟨x1, c0, c1, c2, c3, c4, c5, hf, hBx⟩ := St.cc
  go_wp2_with fail
  refine (St.dr.pick _ (by omega) (by decide)).mono ?_; rintro e' w8 ⟨z, rfl, z0, z1, h8, g8⟩
  replace z1 := z1 (by decide)
  replace St := St.draw h8 g8
  clear c0 c1 c2 c3 c4 c5 hf hBx h8 g8
  obtain ⟨x1, c0, c1, c2, c3, c4, c5, hf, hBx⟩ := St.cc
  obtain ⟨y1, d0, d1, d2, d3, d4, d5, hf'⟩ := St.qc
  go_wp2_with fail
  obtain ⟨⟨E0, E1, E2, E3, E4, E5⟩, Fin⟩ := CSt.fin (M := N + 9) (St.set0 (z * 12)) ⟨z * 12, x1.e, x1.a, x1.b, x1.c, x1.nm⟩ (by have := heap_setCell_same w8 b 0 _ _ (.int .i64 (z * 12)) hBx.out; simpa [CallV.cells] using this) (by omega)
  exact bodyPost_ret (v := .agg #[_, _, _, _, _, _]) (by simp [results, Tryz.results93, go_sem, E0, E1, E2, E3, E4, E5]) rfl Fin
 have t0 : (q == 0) = false := by simp [q0']
 by_cases q1' : q = 1
 ·subst q1'
  clear q0' t0
  have q1 := St.dr
  obtain ⟨x1, c0, c1, c2, c3, c4, c5, hf, hBx⟩ := St.cc
  go_wp2_with fail
  refine ((q1.alloc _).pick _ (by omega) (by decide)).mono ?_; rintro e' w8 ⟨z, rfl, z0, z1, h8, g8⟩
  replace z1 := z1 (by decide)
  have St1 := (St.alloc (.cells #[.int .i64 (-1), .int .i64 (3)] 3)).draw h8 g8
  have V : w8.heap[w7.heap.size]? = some (.cells #[.int .i64 (-1), .int .i64 (3)] 3 (0, 0)) := (g8.block _ (by simp) (by have := q1.lt; simp; omega)).trans (heap_alloc_new w7 _)
  clear c0 c1 c2 c3 c4 c5 hf hBx h8 g8 St q1
  rcases (show z = 0 ∨ z = 1 by omega) with rfl | rfl
  ·have D := cell_of_row w8 _ 0 _ _ _ V
   have St := St1
   obtain ⟨x1, c0, c1, c2, c3, c4, c5, hf, hBx⟩ := St.cc
   clear V St1
   obtain ⟨y1, d0, d1, d2, d3, d4, d5, hf'⟩ := St.qc
   go_wp2_with fail
   obtain ⟨⟨E0, E1, E2, E3, E4, E5⟩, Fin⟩ := CSt.fin (M := N + 9) (St.set1 (-1)) ⟨x1.k, (-1), x1.a, x1.b, x1.c, x1.nm⟩ (by have := heap_setCell_same w8 b 1 _ _ (.int .i64 (-1)) hBx.out; simpa [CallV.cells] using this) (by omega)
   exact bodyPost_ret (v := .agg #[_, _, _, _, _, _]) (by simp [results, Tryz.results93, go_sem, E0, E1, E2, E3, E4, E5]) rfl Fin
  ·have D := cell_of_row w8 _ 1 _ _ _ V
   have St := St1
   obtain ⟨x1, c0, c1, c2, c3, c4, c5, hf, hBx⟩ := St.cc
   clear V St1
   obtain ⟨y1, d0, d1, d2, d3, d4, d5, hf'⟩ := St.qc
   go_wp2_with fail
   obtain ⟨⟨E0, E1, E2, E3, E4, E5⟩, Fin⟩ := CSt.fin (M := N + 9) (St.set1 (3)) ⟨x1.k, (3), x1.a, x1.b, x1.c, x1.nm⟩ (by have := heap_setCell_same w8 b 1 _ _ (.int .i64 (3)) hBx.out; simpa [CallV.cells] using this) (by omega)
   exact bodyPost_ret (v := .agg #[_, _, _, _, _, _]) (by simp [results, Tryz.results93, go_sem, E0, E1, E2, E3, E4, E5]) rfl Fin
 have t1 : (q == 1) = false := by simp [q1']
 by_cases q2' : q = 2
 ·subst q2'
  clear q0' t0 q1' t1
  have q1 := St.dr
  obtain ⟨x1, c0, c1, c2, c3, c4, c5, hf, hBx⟩ := St.cc
  go_wp2_with fail
  refine ((q1.alloc _).pick _ (by omega) (by decide)).mono ?_; rintro e' w8 ⟨z, rfl, z0, z1, h8, g8⟩
  replace z1 := z1 (by decide)
  have St1 := (St.alloc (.cells #[.int .i64 (-1), .int .i64 (9999), .int .i64 (10000)] 3)).draw h8 g8
  have V : w8.heap[w7.heap.size]? = some (.cells #[.int .i64 (-1), .int .i64 (9999), .int .i64 (10000)] 3 (0, 0)) := (g8.block _ (by simp) (by have := q1.lt; simp; omega)).trans (heap_alloc_new w7 _)
  clear c0 c1 c2 c3 c4 c5 hf hBx h8 g8 St q1
  rcases (show z = 0 ∨ z = 1 ∨ z = 2 by omega) with rfl | rfl | rfl
  ·have D := cell_of_row w8 _ 0 _ _ _ V
   have St := St1
   obtain ⟨x1, c0, c1, c2, c3, c4, c5, hf, hBx⟩ := St.cc
   clear V St1
   obtain ⟨y1, d0, d1, d2, d3, d4, d5, hf'⟩ := St.qc
   go_wp2_with fail
   obtain ⟨⟨E0, E1, E2, E3, E4, E5⟩, Fin⟩ := CSt.fin (M := N + 9) (St.set4 (-1)) ⟨x1.k, x1.e, x1.a, x1.b, (-1), x1.nm⟩ (by have := heap_setCell_same w8 b 4 _ _ (.int .i64 (-1)) hBx.out; simpa [CallV.cells] using this) (by omega)
   exact bodyPost_ret (v := .agg #[_, _, _, _, _, _]) (by simp [results, Tryz.results93, go_sem, E0, E1, E2, E3, E4, E5]) rfl Fin
  ·have D := cell_of_row w8 _ 1 _ _ _ V
   have St := St1
   obtain ⟨x1, c0, c1, c2, c3, c4, c5, hf, hBx⟩ := St.cc
   clear V St1
   obtain ⟨y1, d0, d1, d2, d3, d4, d5, hf'⟩ := St.qc
   go_wp2_with fail
   obtain ⟨⟨E0, E1, E2, E3, E4, E5⟩, Fin⟩ := CSt.fin (M := N + 9) (St.set4 (9999)) ⟨x1.k, x1.e, x1.a, x1.b, (9999), x1.nm⟩ (by have := heap_setCell_same w8 b 4 _ _ (.int .i64 (9999)) hBx.out; simpa [CallV.cells] using this) (by omega)
   exact bodyPost_ret (v := .agg #[_, _, _, _, _, _]) (by simp [results, Tryz.results93, go_sem, E0, E1, E2, E3, E4, E5]) rfl Fin
  ·have D := cell_of_row w8 _ 2 _ _ _ V
   have St := St1
   obtain ⟨x1, c0, c1, c2, c3, c4, c5, hf, hBx⟩ := St.cc
   clear V St1
   obtain ⟨y1, d0, d1, d2, d3, d4, d5, hf'⟩ := St.qc
   go_wp2_with fail
   obtain ⟨⟨E0, E1, E2, E3, E4, E5⟩, Fin⟩ := CSt.fin (M := N + 9) (St.set4 (10000)) ⟨x1.k, x1.e, x1.a, x1.b, (10000), x1.nm⟩ (by have := heap_setCell_same w8 b 4 _ _ (.int .i64 (10000)) hBx.out; simpa [CallV.cells] using this) (by omega)
   exact bodyPost_ret (v := .agg #[_, _, _, _, _, _]) (by simp [results, Tryz.results93, go_sem, E0, E1, E2, E3, E4, E5]) rfl Fin
 have t2 : (q == 2) = false := by simp [q2']
 by_cases q3' : q = 3
 ·subst q3'
  clear q0' t0 q1' t1 q2' t2
  have p1 := St.dr
  go_wp2_with fail
  have LS := fun k hk => lit_strs w7 [⟨#[100]⟩, ⟨#[97, 98, 99, 97, 98]⟩, ⟨#[32]⟩] 9 (k := k) hk
  refine (of_any _ 3 [⟨#[100]⟩, ⟨#[97, 98, 99, 97, 98]⟩, ⟨#[32]⟩] (p1.alloc (.cells ([⟨#[100]⟩, ⟨#[97, 98, 99, 97, 98]⟩, ⟨#[32]⟩].map Value.string).toArray 9)) (by omega) rfl (by decide) (by decide) (by have := p1.lt; omega) (by simp) LS).mono ?_
  rintro e' w8 ⟨v, rfl, ⟨s, hs, rfl⟩, h8, g8⟩
  clear LS
  have hl8 : s.size ≤ 8 := by
   simp only [List.mem_cons, List.not_mem_nil, or_false] at hs
   rcases hs with rfl | rfl | rfl <;> decide
  replace St := (St.alloc (.cells ([⟨#[100]⟩, ⟨#[97, 98, 99, 97, 98]⟩, ⟨#[32]⟩].map Value.string).toArray 9)).draw h8 g8
  clear p1 h8 g8
  obtain ⟨x1, c0, c1, c2, c3, c4, c5, hf, hBx⟩ := St.cc
  obtain ⟨y1, d0, d1, d2, d3, d4, d5, hf'⟩ := St.qc
  go_wp2_with fail
  obtain ⟨⟨E0, E1, E2, E3, E4, E5⟩, Fin⟩ := CSt.fin (M := N + 9) (St.setS s hl8) ⟨x1.k, x1.e, x1.a, x1.b, x1.c, s⟩ (by have := heap_setCell_same w8 b 5 _ _ (.string s) hBx.out; simpa [CallV.cells] using this) (by omega)
  exact bodyPost_ret (v := .agg #[_, _, _, _, _, _]) (by simp [results, Tryz.results93, go_sem, E0, E1, E2, E3, E4, E5]) rfl Fin
 have t3 : (q == 3) = false := by simp [q3']
 clear q0' q1' q2' q3'
 obtain ⟨x1, c0, c1, c2, c3, c4, c5, hf, hBx⟩ := St.cc
 obtain ⟨y1, d0, d1, d2, d3, d4, d5, hf'⟩ := St.qc
 go_wp2_with fail
 obtain ⟨⟨E0, E1, E2, E3, E4, E5⟩, Fin⟩ := CSt.fin (M := N + 9) St x1 hBx.out (by omega)
 exact bodyPost_ret (v := .agg #[_, _, _, _, _, _]) (by simp [results, Tryz.results93, go_sem, E0, E1, E2, E3, E4, E5]) rfl Fin
end Go.Proofs.YtjacdlekgdnndaaGreatDoor
set_option linter.unusedVariables false
namespace Go.Proofs.YtjacdlekgdnndaaGreatDoor
open Go.RowKit Go.Shelf
theorem Regrown.of {P : Program} {f : FuncId} {args : Array Value} {w1 : World} {v : Value} (h : ∀ w, Calls P f args w fun e w' => e = .returned v ∧ Below w.heap.size w w') :
 ∀ d os, Calls P f args (Sort.grow (redrawn w1 d) os) fun e w'' => e = .returned v ∧ ∃ p : Regrown, w'' = Sort.grow (redrawn w1 p.d) p.os := fun d os => Calls.regrown_of (h (Sort.grow (redrawn w1 d) os))
def kindB (k : Nat) : ByteArray := ⟨(kindL k).toArray⟩
def callL (x : CallV) : List UInt8 := txtL x.k.toNat x.e.toNat x.a.toNat x.b.toNat x.c.toNat x.nm.data.toList
def callB (x : CallV) : ByteArray := ⟨(callL x).toArray⟩
def textB (x : CallV) : ByteArray := if fitsC x = true then callB x else ⟨#[]⟩
theorem fits_ranges {x : CallV} (h : fitsC x = true) : ∃ k e a b c : Nat, x = ⟨k, e, a, b, c, x.nm⟩ ∧ 1 ≤ k ∧ k ≤ 11 ∧ e ≤ 2 ∧ a ≤ 9999 ∧ b ≤ 9999 ∧ c ≤ 9999 ∧ x.nm.size ≤ 4 ∧ (∀ y ∈ x.nm.data.toList, 97 ≤ y.toNat) := by
 obtain ⟨k, e, a, b, c, nm⟩ := x
 simp only [fitsC, Bool.and_eq_true, inB_iff] at h
 obtain ⟨⟨⟨⟨⟨h1, h2⟩, h3⟩, h4⟩, h5⟩, h6⟩ := h
 simp only [rightOk, Bool.and_eq_true, decide_eq_true_eq, List.all_eq_true, letterOk] at h6
 refine ⟨k.toNat, e.toNat, a.toNat, b.toNat, c.toNat, ?_, by omega, by omega, by omega, by omega, by omega, by omega, h6.2, fun y hy => (h6.1 y hy).1⟩
 congr 1 <;> omega
theorem callB_size {x : CallV} (h : fitsC x = true) : (callB x).size ≤ 40 := by
 obtain ⟨k, e, a, b, c, hx, h1, h2, h3, h4, h5, h6, h7, _⟩ := fits_ranges h
 have hn : x.nm.data.toList.length ≤ 4 := by simpa using h7
 rw [callB, callL, hx]
 simp only [ByteArray.size, List.size_toArray, Int.toNat_natCast]
 exact txt_long h2 (by omega) h4 h5 h6 hn
def kindArr : Array Value := #[.string ⟨#[116, 97, 107, 101]⟩, .string ⟨#[103, 105, 118, 101]⟩, .string ⟨#[112, 111, 107, 101]⟩, .string ⟨#[112, 105, 110]⟩, .string ⟨#[117, 110, 112, 105, 110]⟩, .string ⟨#[115, 101, 116]⟩, .string ⟨#[114, 111, 111, 116]⟩, .string ⟨#[103, 114, 97, 110, 116]⟩, .string ⟨#[114, 101, 118, 111, 107, 101]⟩, .string ⟨#[108, 111, 97, 100]⟩, .string ⟨#[115, 116, 111, 114, 101]⟩]
theorem kindArr_at : ∀ k : Fin 11, kindArr[k.val]? = some (.string (kindB (k.val + 1))) := by
 intro k
 match k with
 | ⟨0, _⟩ => rfl | ⟨1, _⟩ => rfl | ⟨2, _⟩ => rfl | ⟨3, _⟩ => rfl | ⟨4, _⟩ => rfl | ⟨5, _⟩ => rfl | ⟨6, _⟩ => rfl | ⟨7, _⟩ => rfl | ⟨8, _⟩ => rfl | ⟨9, _⟩ => rfl | ⟨10, _⟩ => rfl
theorem cell_at_arr {w : World} {g k : Nat} (hk : 1 ≤ k ∧ k ≤ 11) (h : w.heap[g]? = some (.cells kindArr 9 (0, 0))) : w.cell? ⟨g, k - 1, none⟩ = some (.string (kindB k)) := by
 have := kindArr_at ⟨k - 1, by omega⟩
 rw [show k - 1 + 1 = k by omega] at this
 have e := cell_of_row w g (k - 1) _ _ _ h
 rw [e]
 exact this
set_option maxHeartbeats 1000000 in
theorem l43Word_any (k : Nat) (w : World) (hk : 1 ≤ k ∧ k ≤ 11) :
 Calls Tryz.prog 161 #[.int .i64 k] w fun e w' => e = .returned (.string (kindB k)) ∧ Below w.heap.size w w' := by
 obtain ⟨h1, h2⟩ := hk
 rcases (show k = 1 ∨ k = 2 ∨ k = 3 ∨ k = 4 ∨ k = 5 ∨ k = 6 ∨ k = 7 ∨ k = 8 ∨ k = 9 ∨ k = 10 ∨ k = 11 by omega) with rfl | rfl | rfl | rfl | rfl | rfl | rfl | rfl | rfl | rfl | rfl
 all_goals
  clear h1 h2
  go_enter Tryz.func161, Tryz.ntmps161
  go_wp2_with fail
  go_ret
  exact ⟨rfl, below1 _ _⟩
theorem callWords_any (w : World) :
 Calls Tryz.prog 97 #[] w fun e w' => e = .returned (.slice (some ⟨w.heap.size, 0, none⟩) 11 11) ∧ w.alloc (.cells kindArr 9) = w' := by
 go_enter Tryz.func97, Tryz.ntmps97
 go_wp2_with fail
 go_ret
 exact ⟨rfl, rfl⟩
def Tabs (w : World) : Prop := Lib.TabBelow Tryz.prog w.heap.size w "internal/strconv.uint64pow10" .u64 Lib.pow10Tab
theorem Tabs.below {w w' : World} (h : Tabs w) (hb : Below w.heap.size w w') : Tabs w' := fun w2 h2 => h w2 ⟨h2.os.trans hb.os, h2.tape.trans hb.tape, h2.output.trans hb.output, Nat.le_trans hb.size h2.size, fun k hk => (h2.block k (Nat.lt_of_lt_of_le hk hb.size)).trans (hb.block k hk)⟩
theorem Itoa_any (n : Nat) (w : World) (hn : n ≤ 1000000) (ht : Tabs w) :
 Calls Tryz.prog 169 #[.int .i64 n] w fun e w' => e = .returned (.string (decB n)) ∧ Below w.heap.size w w' := by
 refine (Any.strconv_Itoa Tryz.laysM171 n (by omega) (by omega) w ht.here).mono ?_
 rintro e w' ⟨rfl, k, os, rfl⟩
 refine ⟨by rw [Lib.itoa_nonneg]; rfl, ⟨rfl, rfl, rfl, by simp [Sort.grow], fun j hj => by simp [Sort.grow, Array.getElem?_append, hj]⟩⟩
theorem call_put (k e a b c : Nat) (nm : ByteArray) : kindB k ++ ⟨#[32]⟩ ++ decB e ++ ⟨#[32]⟩ ++ decB a ++ ⟨#[32]⟩ ++ decB b ++ ⟨#[32]⟩ ++ decB c ++ ⟨#[32, 47]⟩ ++ nm = callB ⟨k, e, a, b, c, nm⟩ := by
 obtain ⟨⟨l⟩⟩ := nm
 simp only [kindB, decB, callB, callL, txt_eq, Int.toNat_natCast, ByteArray.mk_append_mk, List.append_assoc]
 rfl
theorem call_put' (k e a b c : Nat) (nm : ByteArray) : kindB k ++ (⟨#[32]⟩ ++ decB e) ++ (⟨#[32]⟩ ++ decB a) ++ (⟨#[32]⟩ ++ decB b) ++ (⟨#[32]⟩ ++ decB c) ++ ⟨#[32, 47]⟩ ++ nm = callB ⟨k, e, a, b, c, nm⟩ := by
 rw [← call_put]
 simp only [ByteArray.append_assoc]
theorem kindB_size {k : Nat} (h : k ≤ 11) : (kindB k).size ≤ 6 := by
 have := kind_len ⟨k, by omega⟩
 simpa [kindB, ByteArray.size] using this
theorem decB_size4 {n : Nat} (h : n ≤ 9999) : (decB n).size ≤ 4 := by rw [decB_size]; exact dec_len4 h
end Go.Proofs.YtjacdlekgdnndaaGreatDoor
set_option linter.unusedVariables false
namespace Go.Proofs.YtjacdlekgdnndaaGreatDoor
open Go.RowKit Go.Shelf
set_option maxRecDepth 1000000 in
set_option maxHeartbeats 4000000 in
theorem CallText_spec (x : CallV) (w : World) (hs : x.nm.size ≤ maxLen) :
 Calls Tryz.prog 92 #[x.val] w fun e w' => e = .returned (.string (textB x)) ∧ Below w.heap.size w w' := by
 have F := Lib.hid (fun w => CallFits_spec x w hs)
 cases hf : fitsC x
 ·have T := Lib.hid (show textB x = ⟨#[]⟩ by simp [textB, hf])
  rw [hf] at F
  clear hf
  obtain ⟨k, e, a, b, c, nm⟩ := x
  simp only [CallV.val, CallV.cells] at F ⊢
  have B1 := Lib.hid (below1 w (.cells #[.int .i64 k, .int .i64 e, .int .i64 a, .int .i64 b, .int .i64 c, .string nm] 60))
  go_enter Tryz.func92, Tryz.ntmps92
  go_wp2_with fail
  refine (F.out _).mono ?_; rintro e' w1 ⟨rfl, b1⟩
  go_wp2_with fail
  go_ret
  exact ⟨by rw [T.out]; rfl, B1.out.trans (b1.mono (by simp))⟩
 ·obtain ⟨k, e, a, b, c, hx, hk1, hk2, he, ha, hb, hc, hn, _⟩ := fits_ranges hf
  have T := Lib.hid (show textB x = callB x by simp [textB, hf])
  rw [hf] at F
  clear hf
  obtain ⟨k', e', a', b', c', nm⟩ := x
  simp only [CallV.mk.injEq, and_true] at hx
  obtain ⟨rfl, rfl, rfl, rfl, rfl⟩ := hx
  simp only [CallV.val, CallV.cells] at F ⊢
  have P := Lib.hid (call_put k e a b c nm)
  have s1 := kindB_size hk2
  have s0 : nm.size ≤ 4 := hn
  have s2 := decB_size4 (show e ≤ 9999 by omega)
  have s3 := decB_size4 ha
  have s4 := decB_size4 hb
  have s5 := decB_size4 hc
  have hB := below1 w (.cells #[.int .i64 k, .int .i64 e, .int .i64 a, .int .i64 b, .int .i64 c, .string nm] 60)
  have hN := heap_alloc_new w (.cells #[.int .i64 k, .int .i64 e, .int .i64 a, .int .i64 b, .int .i64 c, .string nm] 60)
  go_enter Tryz.func92, Tryz.ntmps92
  have HB := Lib.hid hB; clear hB
  have HN := Lib.hid hN; clear hN
  go_wp2_with fail
  refine (F.out _).mono ?_; rintro e' w1 ⟨rfl, b1⟩
  have B1 := Lib.hid (HB.out.trans (b1.mono (by simp)))
  have N0 := (b1.block w.heap.size (by simp)).trans HN.out
  have N1 := Lib.hid N0
  clear N0
  clear b1
  go_wp2_with fail
  have N2 := N1.out
  clear N1
  have k0 := cell_regrown (cell_of_row w1 _ 0 _ _ _ N2)
  have k1 := cell_regrown (cell_of_row w1 _ 1 _ _ _ N2)
  have k2 := cell_regrown (cell_of_row w1 _ 2 _ _ _ N2)
  have k3 := cell_regrown (cell_of_row w1 _ 3 _ _ _ N2)
  have k4 := cell_regrown (cell_of_row w1 _ 4 _ _ _ N2)
  have k5 := cell_regrown (cell_of_row w1 _ 5 _ _ _ N2)
  clear N2
  have cW := Regrown.of (w1 := w1) (fun w => l43Word_any k w ⟨hk1, hk2⟩)
  have CD := Lib.hid (fun n (h : n ≤ 9999) => Regrown.of (w1 := w1) (fun w => l6Dec_any n w (by omega)))
  clear HB HN F
  have n2 : ¬ 9223372036854775807 < (kindB k).size + 1 := by omega
  have n3 : ¬ 9223372036854775807 < (kindB k).size + 1 + (decB e).size := by omega
  have n4 : ¬ 9223372036854775807 < (kindB k).size + 1 + (decB e).size + 1 := by omega
  have n5 : ¬ 9223372036854775807 < (kindB k).size + 1 + (decB e).size + 1 + (decB a).size := by omega
  have n6 : ¬ 9223372036854775807 < (kindB k).size + 1 + (decB e).size + 1 + (decB a).size + 1 := by omega
  have n7 : ¬ 9223372036854775807 < (kindB k).size + 1 + (decB e).size + 1 + (decB a).size + 1 + (decB b).size := by omega
  have n8 : ¬ 9223372036854775807 < (kindB k).size + 1 + (decB e).size + 1 + (decB a).size + 1 + (decB b).size + 1 := by omega
  have n9 : ¬ 9223372036854775807 < (kindB k).size + 1 + (decB e).size + 1 + (decB a).size + 1 + (decB b).size + 1 + (decB c).size := by omega
  have n10 : ¬ 9223372036854775807 < (kindB k).size + 1 + (decB e).size + 1 + (decB a).size + 1 + (decB b).size + 1 + (decB c).size + 2 := by omega
  have n11 : ¬ 9223372036854775807 < (kindB k).size + 1 + (decB e).size + 1 + (decB a).size + 1 + (decB b).size + 1 + (decB c).size + 2 + nm.size := by omega
  refine wp_region_quiet_below Tryz.mixed (by kernel_rfl) ?_
  repeat (quiet_step (first | exact cW _ _ | exact CD.out _ (by omega) _ _))
  refine wpQuiet_nil ?_
  intro _ hw'
  obtain ⟨⟨dq, osq⟩, hw''⟩ := hw'
  subst hw''
  go_wp2_with fail
  go_ret
  exact ⟨by rw [T.out, ← P.out]; rfl, B1.out.trans ((below_regrown w1 dq osq).mono B1.out.size)⟩
end Go.Proofs.YtjacdlekgdnndaaGreatDoor
set_option linter.unusedVariables false
namespace Go.Proofs.YtjacdlekgdnndaaGreatDoor
open Go.RowKit Go.Shelf
theorem sz32 : (⟨#[32]⟩ : ByteArray).size = 1 := rfl
theorem sz47 : (⟨#[32, 47]⟩ : ByteArray).size = 2 := rfl
theorem blk_lt1 {w w' : World} {g : Nat} {o : Obj} (hb : Below w.heap.size w w') (h : w.heap[g]? = some o) : g < w'.heap.size := Nat.lt_of_lt_of_le (Array.getElem?_eq_some_iff.1 h).1 hb.size
def cwR (k : Nat) (w : World) (ix : Nat) (vv : Value) (ww : World) : Prop := match ix with
 | 0 => ∃ g : Nat, vv = .slice (some ⟨g, 0, none⟩) 11 11 ∧ ww.heap[g]? = some (.cells kindArr 9 (0, 0))
 | 1 => vv = .pointer (some ⟨w.heap.size, 0, none⟩)
 | 2 => vv = .int .i64 k
 | 3 => vv = .int .i64 ((k : Int) - 1)
 | _ => True
theorem cwR_mono (k : Nat) (w : World) : ∀ i, i < 4 → ∀ vv ww ww', Below ww.heap.size ww ww' → cwR k w i vv ww → cwR k w i vv ww' := by
 intro i hi vv ww ww' hb h
 match i, hi with
 | 0, _ => exact (let ⟨g, e, h⟩ := h; ⟨g, e, blk_under h hb⟩)
 | 1, _ => exact h
 | 2, _ => exact h
 | 3, _ => exact h
set_option maxRecDepth 1000000 in
set_option maxHeartbeats 8000000 in
theorem callText_any (k e a b c : Nat) (nm : ByteArray) (w : World) (hk : 1 ≤ k ∧ k ≤ 11) (he : e ≤ 9999) (ha : a ≤ 9999) (hb : b ≤ 9999) (hc : c ≤ 9999) (hn : nm.size ≤ 4) (ht : Tabs w) :
 Calls Tryz.prog 100 #[(CallV.mk k e a b c nm).val] w fun e' w' => e' = .returned (.string (callB ⟨k, e, a, b, c, nm⟩)) ∧ Below w.heap.size w w' := by
 simp only [CallV.val, CallV.cells]
 have P := Lib.hid (call_put' k e a b c nm)
 have s1 := kindB_size hk.2
 have s2 := decB_size4 he
 have s3 := decB_size4 ha
 have s4 := decB_size4 hb
 have s5 := decB_size4 hc
 have HW := Lib.hid (below1 w (.cells #[.int .i64 k, .int .i64 e, .int .i64 a, .int .i64 b, .int .i64 c, .string nm] 60))
 have HT := Lib.hid (ht.below HW.out)
 have HN := Lib.hid (heap_alloc_new w (.cells #[.int .i64 k, .int .i64 e, .int .i64 a, .int .i64 b, .int .i64 c, .string nm] 60))
 have C0' : Hid (∀ wx, Below (w.alloc (.cells #[.int .i64 k, .int .i64 e, .int .i64 a, .int .i64 b, .int .i64 c, .string nm] 60)).heap.size (w.alloc (.cells #[.int .i64 k, .int .i64 e, .int .i64 a, .int .i64 b, .int .i64 c, .string nm] 60)) wx → wx.cell? ⟨w.heap.size, 0, none⟩ = some (.int .i64 k)) := Lib.hid (fun wx h => cell_of_row wx _ 0 _ _ _ ((h.block _ (by simp)).trans HN.out))
 clear ht
 go_enter Tryz.func100, Tryz.ntmps100
 go_wp2_with fail
 refine wp_region_grow 4 Tryz.mixed (by kernel_rfl) 37 rfl (by kernel_rfl) (cwR k w) (cwR_mono k w) ?_ ?_
 ·intro i hi o ho a wx Hb Hd hG K HK
  match i, hi with
  | 0, _ =>
   obtain rfl := Option.some.inj ho
   clear Hd Hb
   refine Does.of rfl ?_
   go_simp
   refine (callWords_any _).mono ?_; rintro e' w1 ⟨rfl, hw1⟩
   exact HK.out _ _ ⟨_, rfl, hw1 ▸ heap_alloc_new _ _⟩ (hw1 ▸ below1 _ _)
  | 1, _ =>
   obtain rfl := Option.some.inj ho
   have e1 : a.tmps[1]?.getD undef = .pointer (some ⟨w.heap.size, 0, none⟩) := by rw [Hb.out.2.2 1 (by decide)]; rfl
   clear Hd Hb
   refine Does.of rfl ?_
   go_simp
   exact HK.out _ _ rfl (Below.refl _ _)
  | 2, _ =>
   obtain rfl := Option.some.inj ho
   have d1 := Hd.out 1 (by kernel_rfl)
   change a.tmps[7]?.getD undef = .pointer (some ⟨w.heap.size, 0, none⟩) at d1
   clear Hd Hb
   have C0 := C0'.out wx hG
   refine Does.of rfl ?_
   go_simp
   exact HK.out _ _ rfl (Below.refl _ _)
  | 3, _ =>
   obtain rfl := Option.some.inj ho
   have d2 := Hd.out 2 (by kernel_rfl)
   change a.tmps[8]?.getD undef = .int .i64 k at d2
   clear Hd Hb
   have s9 : IntKind.i64.wrap ((k : Int) - 1) = (k : Int) - 1 := IntWalk.i64_in _ (by omega)
   refine Does.of rfl ?_
   go_simp
   exact HK.out _ _ rfl (Below.refl _ _)
 ·intro vs wx hR hG
  have q0 := hR 0 (by decide)
  change ∃ g : Nat, vs 0 = .slice (some ⟨g, 0, none⟩) 11 11 ∧ wx.heap[g]? = some (.cells kindArr 9 (0, 0)) at q0
  obtain ⟨g, q0, hg⟩ := q0
  have q3 := hR 3 (by decide)
  change vs 3 = .int .i64 ((k : Int) - 1) at q3
  clear hR
  simp only [fillAt, dstOf, List.range, List.range.loop, List.foldl_cons, List.foldl_nil, q3]
  simp
  generalize vs 0 = z0 at q0 ⊢
  subst q0
  generalize vs 1 = z1
  generalize vs 2 = z2
  clear q3
  have E0 := cell_at_arr hk hg
  have i1 : (0 : Int) ≤ (k : Int) - 1 := by omega
  have i2 : (k : Int) - 1 < 11 := by omega
  have i3 : ((k : Int) - 1).toNat = k - 1 := by omega
  have hB := Lib.hid hG
  have HE := Lib.hid ((hG.block _ (by simp)).trans HN.out)
  have d1 := cell_of_row wx _ 1 _ _ _ HE.out
  have d2 := cell_of_row wx _ 2 _ _ _ HE.out
  have d3 := cell_of_row wx _ 3 _ _ _ HE.out
  have d4 := cell_of_row wx _ 4 _ _ _ HE.out
  have T0 := Lib.hid (HT.out.below hG)
  clear hg hG C0' HN HT
  go_wp2_with fail
  clear d1 d2 d3 d4
  refine wp_loop_rounds 5 ?_
  rw [rounds_succ]
  have a0 := fun W => run_string_add_sum (P := Tryz.prog) W ⟨#[32]⟩ (decB e) (by have q1 := sz32; have q2 := sz47; first | (simp only [ByteArray.size_append]; omega) | omega)
  have b0 := fun W => run_string_add_sum (P := Tryz.prog) W ((kindB k)) (⟨#[32]⟩ ++ decB e) (by have q1 := sz32; have q2 := sz47; first | (simp only [ByteArray.size_append]; omega) | omega)
  go_wp2_with fail
  refine (Itoa_any e _ (by omega) (T0.out.below (below1 _ _))).mono ?_; rintro e' x1 ⟨rfl, y0⟩
  have T1 := Lib.hid ((T0.out.below (below1 _ _)).below y0)
  have HL1 := Lib.hid ((y0.block _ (by simp)).trans (heap_alloc_new wx (.cells #[.int .i64 e, .int .i64 a, .int .i64 b, .int .i64 c] 3)))
  have HE1 := Lib.hid ((y0.block _ (blk_lt1 (below1 wx _) HE.out)).trans (blk_under HE.out (below1 wx _)))
  have Y1 := Lib.hid (hB.out.trans (((below1 wx _).trans (y0.mono (below1 wx _).size)).mono hB.out.size))
  clear y0
  go_wp2_with fail
  clear a0 b0
  rw [rounds_succ]
  have r1 : x1.cell? ⟨wx.heap.size, 1, none⟩ = some (.int .i64 a) := cell_of_row x1 _ 1 _ _ _ HL1.out
  have a1 := fun W => run_string_add_sum (P := Tryz.prog) W ⟨#[32]⟩ (decB a) (by have q1 := sz32; have q2 := sz47; first | (simp only [ByteArray.size_append]; omega) | omega)
  have b1 := fun W => run_string_add_sum (P := Tryz.prog) W ((kindB k) ++ (⟨#[32]⟩ ++ decB e)) (⟨#[32]⟩ ++ decB a) (by have q1 := sz32; have q2 := sz47; first | (simp only [ByteArray.size_append]; omega) | omega)
  go_wp2_with fail
  refine (Itoa_any a _ (by omega) T1.out).mono ?_; rintro e' x2 ⟨rfl, y1⟩
  have T2 := Lib.hid (T1.out.below y1)
  have HL2 := Lib.hid (blk_under HL1.out y1)
  have HE2 := Lib.hid (blk_under HE1.out y1)
  have Y2 := Lib.hid (Y1.out.trans (y1.mono Y1.out.size))
  clear y1 r1
  go_wp2_with fail
  clear a1 b1
  rw [rounds_succ]
  have r2 : x2.cell? ⟨wx.heap.size, 2, none⟩ = some (.int .i64 b) := cell_of_row x2 _ 2 _ _ _ HL2.out
  have a2 := fun W => run_string_add_sum (P := Tryz.prog) W ⟨#[32]⟩ (decB b) (by have q1 := sz32; have q2 := sz47; first | (simp only [ByteArray.size_append]; omega) | omega)
  have b2 := fun W => run_string_add_sum (P := Tryz.prog) W ((kindB k) ++ (⟨#[32]⟩ ++ decB e) ++ (⟨#[32]⟩ ++ decB a)) (⟨#[32]⟩ ++ decB b) (by have q1 := sz32; have q2 := sz47; first | (simp only [ByteArray.size_append]; omega) | omega)
  go_wp2_with fail
  refine (Itoa_any b _ (by omega) T2.out).mono ?_; rintro e' x3 ⟨rfl, y2⟩
  have T3 := Lib.hid (T2.out.below y2)
  have HL3 := Lib.hid (blk_under HL2.out y2)
  have HE3 := Lib.hid (blk_under HE2.out y2)
  have Y3 := Lib.hid (Y2.out.trans (y2.mono Y2.out.size))
  clear y2 r2
  go_wp2_with fail
  clear a2 b2
  rw [rounds_succ]
  have r3 : x3.cell? ⟨wx.heap.size, 3, none⟩ = some (.int .i64 c) := cell_of_row x3 _ 3 _ _ _ HL3.out
  have a3 := fun W => run_string_add_sum (P := Tryz.prog) W ⟨#[32]⟩ (decB c) (by have q1 := sz32; have q2 := sz47; first | (simp only [ByteArray.size_append]; omega) | omega)
  have b3 := fun W => run_string_add_sum (P := Tryz.prog) W ((kindB k) ++ (⟨#[32]⟩ ++ decB e) ++ (⟨#[32]⟩ ++ decB a) ++ (⟨#[32]⟩ ++ decB b)) (⟨#[32]⟩ ++ decB c) (by have q1 := sz32; have q2 := sz47; first | (simp only [ByteArray.size_append]; omega) | omega)
  go_wp2_with fail
  refine (Itoa_any c _ (by omega) T3.out).mono ?_; rintro e' x4 ⟨rfl, y3⟩
  have T4 := Lib.hid (T3.out.below y3)
  have HL4 := Lib.hid (blk_under HL3.out y3)
  have HE4 := Lib.hid (blk_under HE3.out y3)
  have Y4 := Lib.hid (Y3.out.trans (y3.mono Y3.out.size))
  clear y3 r3
  go_wp2_with fail
  clear a3 b3
  have r5 := cell_of_row x4 _ 5 _ _ _ HE4.out
  have a5 := fun W => run_string_add_sum (P := Tryz.prog) W ((kindB k) ++ (⟨#[32]⟩ ++ decB e) ++ (⟨#[32]⟩ ++ decB a) ++ (⟨#[32]⟩ ++ decB b) ++ (⟨#[32]⟩ ++ decB c)) ⟨#[32, 47]⟩ (by have q1 := sz32; have q2 := sz47; first | (simp only [ByteArray.size_append]; omega) | omega)
  have b5 := fun W => run_string_add_sum (P := Tryz.prog) W ((kindB k) ++ (⟨#[32]⟩ ++ decB e) ++ (⟨#[32]⟩ ++ decB a) ++ (⟨#[32]⟩ ++ decB b) ++ (⟨#[32]⟩ ++ decB c) ++ ⟨#[32, 47]⟩) nm (by have q1 := sz32; have q2 := sz47; first | (simp only [ByteArray.size_append]; omega) | omega)
  rw [rounds_succ]
  go_wp2_with fail
  go_ret
  exact ⟨by rw [← P.out]; rfl, HW.out.trans (Y4.out.mono HW.out.size)⟩
end Go.Proofs.YtjacdlekgdnndaaGreatDoor
set_option linter.unusedVariables false
namespace Go.Proofs.YtjacdlekgdnndaaGreatDoor
open Go.RowKit
def ct_RdStrs (w : World) (v : Value) (ss : List ByteArray) : Prop := Rd w v 1 ss.length (ss.map Value.string)
def OwnStrs (lo : Nat) (w : World) (v : Value) (ss : List ByteArray) : Prop := w.ownsRow lo 9 1 v ss.length (ss.map Value.string)
theorem OwnStrs.rd {lo : Nat} {w : World} {v : Value} {ss : List ByteArray} (h : OwnStrs lo w v ss) : ct_RdStrs w v ss := Rd.of_owns h
theorem OwnStrs.below {lo : Nat} {w w' : World} {v : Value} {ss : List ByteArray} (h : OwnStrs lo w v ss) (hb : Below w.heap.size w w') : OwnStrs lo w' v ss := ownsRow_below h hb
theorem ct_RdStrs.below {w w' : World} {v : Value} {ss : List ByteArray} (h : ct_RdStrs w v ss) (hb : Below w.heap.size w w') : ct_RdStrs w' v ss := Rd.below h hb
theorem ct_RdStrs.open {w : World} {v : Value} {ss : List ByteArray} (h : ct_RdStrs w v ss) : ∃ a cap, v = .slice a ss.length cap ∧ ss.length ≤ cap ∧ cap ≤ maxLen ∧ ∀ k, k < ss.length → ∃ b off, a = some ⟨b, off, none⟩ ∧ b < w.heap.size ∧ w.cell? ⟨b, off + k, none⟩ = some (.string (nthS ss k)) := by
 obtain ⟨a, cap, rfl, hnc, hcm, hl, _, hc⟩ := h
 refine ⟨a, cap, rfl, hnc, hcm, fun k hk => ?_⟩
 obtain ⟨b, off, rfl, hcell⟩ := hc (by omega)
 have := hcell k (by omega)
 rw [List.getElem?_map, nthS_lt hk] at this
 exact ⟨b, off, rfl, World.block_lt_of_cell? w _ this, this⟩
theorem Tryz.infoStr : (Tryz.prog.info? 9).map (fun i => (i.zero, i.size, i.bytes)) = some (some (.string ⟨#[]⟩), 1, 16) := by kernel_rfl
def ofL (l : List UInt8) : ByteArray := ⟨l.toArray⟩
theorem ofL_toList (l : List UInt8) : (ofL l).data.toList = l := rfl
theorem ofL_of (s : ByteArray) : ofL s.data.toList = s := by
 obtain ⟨⟨l⟩⟩ := s
 rfl
def cutB (a : UInt8) (s : ByteArray) : List ByteArray := (cutL a s.data.toList).map ofL
theorem ext_list (s : ByteArray) (f t : Nat) : (s.extract f t).data.toList = (s.data.toList.drop f).take (t - f) := by
 rw [ByteArray.data_extract, Array.toList_extract, List.extract_eq_take_drop]
theorem cut_hit {s : ByteArray} {a : UInt8} {f k : Nat} (hf : f ≤ k) (hk : k < s.size) (hpre : ∀ j (hj : j < s.size), f ≤ j → j < k → s[j] ≠ a) (ha : s[k] = a) :
 cutL a (s.data.toList.drop f) = (s.extract f k).data.toList :: cutL a (s.data.toList.drop (k + 1)) := by
 have hl : s.data.toList.length = s.size := by simp
 have e : s.data.toList.drop f = (s.extract f k).data.toList ++ a :: s.data.toList.drop (k + 1) := by
  rw [ext_list]
  have h1 : s.data.toList.drop f = (s.data.toList.drop f).take (k - f) ++ (s.data.toList.drop f).drop (k - f) := (List.take_append_drop _ _).symm
  rw [List.drop_drop, show f + (k - f) = k by omega] at h1
  rw [h1]
  congr 1
  ·rw [List.take_append_of_le_length (by rw [List.length_take, List.length_drop]; omega), List.take_take, Nat.min_self]
  ·rw [List.drop_eq_getElem_cons (by omega)]
   congr 1
 rw [e]
 refine cutL_app (fun b hb => ?_) _
 rw [ext_list] at hb
 obtain ⟨j, hj, rfl⟩ := List.getElem_of_mem hb
 rw [List.length_take, List.length_drop] at hj
 rw [List.getElem_take, List.getElem_drop]
 have := hpre (f + j) (by omega) (by omega) (by omega)
 simpa [ByteArray.getElem_eq_getElem_data] using this
theorem cut_end {s : ByteArray} {a : UInt8} {f : Nat} (hpre : ∀ j (hj : j < s.size), f ≤ j → s[j] ≠ a) : cutL a (s.data.toList.drop f) = [(s.extract f s.size).data.toList] := by
 have hl : s.data.toList.length = s.size := by simp
 have e : (s.extract f s.size).data.toList = s.data.toList.drop f := by
  rw [ext_list, List.take_of_length_le]
  rw [List.length_drop]; omega
 rw [e]
 refine cutL_free fun b hb => ?_
 obtain ⟨j, hj, rfl⟩ := List.getElem_of_mem hb
 rw [List.length_drop] at hj
 rw [List.getElem_drop]
 have := hpre (f + j) (by omega) (by omega)
 simpa [ByteArray.getElem_eq_getElem_data] using this
theorem ofL_ext (s : ByteArray) (f t : Nat) : ofL (s.extract f t).data.toList = s.extract f t := ofL_of _
set_option maxRecDepth 100000 in
set_option maxHeartbeats 2000000 in
theorem l43Cut_any (s : ByteArray) (a : UInt8) (w : World) (hs : s.size ≤ 1048577) :
 Calls Tryz.prog 36 #[.string s, .int .u8 (a.toNat : Int)] w fun e w' => ∃ v, e = .returned v ∧ OwnStrs w.heap.size w' v (cutB a s) ∧ Below w.heap.size w w' := by
 go_enter Tryz.func36, Tryz.ntmps36
 go_wp2_with fail
 go_loopw [5, 6, 7] (fun o fr i wr => ∃ k f : Nat, f ≤ k ∧ k ≤ s.size ∧ i = .int .i64 k ∧ fr = .int .i64 f ∧ ∃ done : List ByteArray, done.length ≤ f ∧ OwnStrs w.heap.size wr o done ∧ cutB a s = done ++ (cutL a (s.data.toList.drop f)).map ofL ∧ (∀ j (hj : j < s.size), f ≤ j → j < k → s[j] ≠ a) ∧ Below w.heap.size w wr) (fun _ _ i _ => s.size - (intOf i).toNat)
 case atStart => exact ⟨0, 0, Nat.le_refl _, Nat.zero_le _, rfl, rfl, [], Nat.le_refl _, ownsRow_empty _ _ _, by simp [cutB], fun j _ _ hj => absurd hj (Nat.not_lt_zero _), below1 _ _⟩
 case round =>
  obtain ⟨k, f, hfk, hk, rfl, rfl, done, hdl, hown, hcut, hpre, hbel⟩ := hrel
  have Hcut := Lib.hid hcut; clear hcut
  have Hpre := Lib.hid hpre; clear hpre
  have hz := hbel.size
  by_cases hlt : k < s.size
  ·by_cases ha : s[k] = a
   ·have t : ((s[k].toNat : Int) == (a.toNat : Int)) = true := by simp [ha]
    have S := Lib.hid (cut_hit hfk hlt Hpre.out ha)
    clear ha
    have i1 : (f : Int) ≤ k := by omega
    have i2 : (k : Int) ≤ s.size := by omega
    go_wp2_with (at_builtin; go_must (refine wp_append (lo := w.heap.size) (n := done.length) (xs := done.map Value.string) (m := 1) (news := [.string (s.extract f k)]) rfl rfl 9 (.string ⟨#[]⟩) 1 16 Tryz.underlying36 Tryz.infoStr rfl (by decide) rfl (ownsRow_below hown (below1 _ _)) rfl (Rd.newsAt _ #[_] _ 1 1 _ (by simp) rfl (by simp [maxLen])) (by simp [Value.oneCell']) (by unfold maxLen; omega) (by omega) (by simp; omega) ?_; intro o' w4 g1 g2 g3))
    go_roundw
    case rel =>
     refine ⟨k + 1, k + 1, Nat.le_refl _, by omega, by go_num, by go_num, done ++ [s.extract f k], by simp; omega, by simpa [OwnStrs] using g1, ?_, fun j _ h1 h2 => by omega, hbel.trans (((below1 wr _).mono hz).trans g3)⟩
     rw [Hcut.out, S.out, List.map_cons, ofL_ext]
     simp
    case measure => simp [intOf]; omega
   ·have t : ((s[k].toNat : Int) == (a.toNat : Int)) = false := by
     rw [beq_eq_false_iff_ne]
     intro e
     exact ha (UInt8.toNat_inj.1 (by omega))
    have Ha := Lib.hid ha
    clear ha
    go_wp2_with fail
    go_roundw
    case rel => exact ⟨k + 1, f, by omega, by omega, by go_num, rfl, done, hdl, hown, Hcut.out, fun j hj h1 h2 => by
     rcases Nat.lt_succ_iff_lt_or_eq.1 h2 with h | h
     ·exact Hpre.out j hj h1 h
     ·subst h; exact Ha.out, hbel⟩
    case measure => simp [intOf]; omega
  ·have S := Lib.hid (cut_end (s := s) (a := a) (f := f) (fun j hj h1 => Hpre.out j hj h1 (by omega)))
   have i1 : (f : Int) ≤ s.size := by omega
   go_wp2_with (at_builtin; go_must (refine wp_append (lo := w.heap.size) (n := done.length) (xs := done.map Value.string) (m := 1) (news := [.string (s.extract f s.size)]) rfl rfl 9 (.string ⟨#[]⟩) 1 16 Tryz.underlying36 Tryz.infoStr rfl (by decide) rfl (ownsRow_below hown (below1 _ _)) rfl (Rd.newsAt _ #[_] _ 1 1 _ (by simp) rfl (by simp [maxLen])) (by simp [Value.oneCell']) (by unfold maxLen; omega) (by omega) (by simp; omega) ?_; intro o' w4 g1 g2 g3))
   go_ret
   refine ⟨_, rfl, ?_, hbel.trans (((below1 wr _).mono hz).trans g3)⟩
   have e : cutB a s = done ++ [s.extract f s.size] := by rw [Hcut.out, S.out, List.map_cons, ofL_ext]; rfl
   rw [e]
   simpa [OwnStrs] using g1
end Go.Proofs.YtjacdlekgdnndaaGreatDoor
set_option linter.unusedVariables false
namespace Go.Proofs.YtjacdlekgdnndaaGreatDoor
open Go.RowKit
def callCs (x : CallV) : List Value := x.cells.toList
theorem callCs_len (x : CallV) : (callCs x).length = 6 := rfl
abbrev callCells (xs : List CallV) : List Value := flat callCs xs
def RdCalls (w : World) (v : Value) (xs : List CallV) : Prop := Rd w v 6 xs.length (callCells xs)
def OwnCalls (lo : Nat) (w : World) (v : Value) (xs : List CallV) : Prop := w.ownsRow lo 60 6 v xs.length (callCells xs)
def SmallC (xs : List CallV) : Prop := ∀ x ∈ xs, x.nm.size ≤ maxLen
theorem OwnCalls.rd {lo : Nat} {w : World} {v : Value} {xs : List CallV} (h : OwnCalls lo w v xs) : RdCalls w v xs := Rd.of_owns h
theorem RdCalls.below {w w' : World} {v : Value} {xs : List CallV} (h : RdCalls w v xs) (hb : Below w.heap.size w w') : RdCalls w' v xs := Rd.below h hb
theorem OwnCalls.below {lo : Nat} {w w' : World} {v : Value} {xs : List CallV} (h : OwnCalls lo w v xs) (hb : Below w.heap.size w w') : OwnCalls lo w' v xs := ownsRow_below h hb
theorem RdCalls.open {w : World} {v : Value} {xs : List CallV} (h : RdCalls w v xs) : ∃ a cap, v = .slice a xs.length cap ∧ xs.length ≤ cap ∧ cap ≤ maxLen ∧ AtF 6 callCs w a xs := by
 obtain ⟨a, cap, rfl, h1, h2⟩ := Rd.shape h
 exact ⟨a, cap, rfl, h1, h2, AtF.of callCs_len (by decide) h⟩
theorem AtF.six {w w' : World} {a : Option Addr} {xs : List CallV} (h : AtF 6 callCs w a xs) (hb : Below w.heap.size w w') {k : Nat} {x : CallV} (hk : xs[k]? = some x) :
 ∃ b off, a = some ⟨b, off, none⟩ ∧ w'.cell? ⟨b, off + k * 6, none⟩ = some (.int .i64 x.k) ∧ w'.cell? ⟨b, off + k * 6 + 1, none⟩ = some (.int .i64 x.e) ∧ w'.cell? ⟨b, off + k * 6 + 2, none⟩ = some (.int .i64 x.a) ∧ w'.cell? ⟨b, off + k * 6 + 3, none⟩ = some (.int .i64 x.b) ∧ w'.cell? ⟨b, off + k * 6 + 4, none⟩ = some (.int .i64 x.c) ∧ w'.cell? ⟨b, off + k * 6 + 5, none⟩ = some (.string x.nm) := by
 obtain ⟨b, off, rfl, hlt, hc⟩ := h.below hb k x hk
 exact ⟨b, off, rfl, hc 0 _ rfl, hc 1 _ rfl, hc 2 _ rfl, hc 3 _ rfl, hc 4 _ rfl, hc 5 _ rfl⟩
def listFit (xs : List CallV) : Bool := xs.all fitsC && decide (xs.length ≤ 12)
theorem listFit_bad {xs : List CallV} {k : Nat} {x : CallV} (hx : xs[k]? = some x) (h : fitsC x = false) : listFit xs = false := by
 have : xs.all fitsC = false := List.all_eq_false.2 ⟨x, List.mem_of_getElem? hx, by simp [h]⟩
 simp [listFit, this]
theorem listFit_good {xs : List CallV} (h : ∀ (j : Nat) x, xs[j]? = some x → fitsC x = true) : listFit xs = decide ((xs.length : Int) ≤ 12) := by
 have : xs.all fitsC = true := List.all_eq_true.2 fun x hx => by
  obtain ⟨j, hj⟩ := List.getElem?_of_mem hx
  exact h j x hj
 rw [listFit, this, Bool.true_and]
 by_cases h4 : xs.length ≤ 12
 ·have : (xs.length : Int) ≤ 12 := by omega
  simp [h4, this]
 ·have : ¬ (xs.length : Int) ≤ 12 := by omega
  simp [h4, this]
theorem calls_next {P : CallV → Prop} {xs : List CallV} {k : Nat} {x : CallV} (h : ∀ (j : Nat) x, j < k → xs[j]? = some x → P x) (hx : xs[k]? = some x) (hp : P x) : ∀ (j : Nat) x, j < k + 1 → xs[j]? = some x → P x := by
 intro j y hj hy
 rcases Nat.lt_succ_iff_lt_or_eq.1 hj with h' | h'
 ·exact h j y h' hy
 ·subst h'
  rw [hx] at hy
  cases hy
  exact hp
set_option maxRecDepth 100000 in
set_option maxHeartbeats 2000000 in
theorem l43Fit_any (v : Value) (xs : List CallV) (w : World) (h : RdCalls w v xs) (hs : SmallC xs) :
 Calls Tryz.prog 91 #[v] w fun e w' => e = .returned (.bool (listFit xs)) ∧ Below w.heap.size w w' := by
 obtain ⟨a, c, hv, hc, hcm, H0⟩ := h.open
 subst hv
 unfold maxLen at hcm
 have Hs := Lib.hid hs; clear hs h
 go_enter Tryz.func91, Tryz.ntmps91
 go_wp2_with fail
 go_loopw [3] (fun i wr => ∃ k : Nat, k ≤ xs.length ∧ i = .int .i64 k ∧ (∀ (j : Nat) x, j < k → xs[j]? = some x → fitsC x = true) ∧ Below w.heap.size w wr) (fun i _ => xs.length - (intOf i).toNat)
 case atStart => exact ⟨0, Nat.zero_le _, rfl, fun j x hj => absurd hj (Nat.not_lt_zero _), Below.refl _ _⟩
 case round =>
  obtain ⟨k, hk, rfl, hpre, hbel⟩ := hrel
  have Hpre := Lib.hid hpre; clear hpre
  by_cases hlt : k < xs.length
  ·obtain ⟨x, hx⟩ : ∃ x, xs[k]? = some x := ⟨_, List.getElem?_eq_getElem hlt⟩
   obtain ⟨b, off, rfl, D0, D1, D2, D3, D4, D5⟩ := H0.six hbel hx
   have F := Lib.hid (fun w => CallFits_spec x w (Hs.out x (List.mem_of_getElem? hx)))
   cases hf : fitsC x
   ·have S := Lib.hid (listFit_bad hx hf)
    rw [hf] at F
    simp only [CallV.val, CallV.cells] at F
    clear hf hx
    go_wp2_with fail
    refine (F.out _).mono ?_; rintro e w1 ⟨rfl, hbel1⟩
    go_wp2_with fail
    go_ret
    exact ⟨ret_bool S.out.symm, hbel.trans (hbel1.mono hbel.size)⟩
   ·have S := Lib.hid (calls_next Hpre.out hx hf)
    rw [hf] at F
    simp only [CallV.val, CallV.cells] at F
    clear hf hx
    go_wp2_with fail
    refine (F.out _).mono ?_; rintro e w1 ⟨rfl, hbel1⟩
    have hbel' := hbel.trans (hbel1.mono hbel.size)
    clear D0 D1 D2 D3 D4 D5 hbel hbel1
    go_wp2_with fail
    go_roundw
    case rel => exact ⟨k + 1, by omega, by go_num, S.out, hbel'⟩
    case measure => simp [intOf]; omega
  ·have S := Lib.hid (listFit_good (xs := xs) (fun j x hj => Hpre.out j x (by have := (List.getElem?_eq_some_iff.1 hj).1; omega) hj))
   go_wp2_with fail
   go_ret
   exact ⟨ret_bool S.out.symm, hbel⟩
theorem Tryz.infoCall : (Tryz.prog.info? 60).map (fun i => (i.zero, i.size, i.bytes)) = some (some (.agg #[.int .i64 0, .int .i64 0, .int .i64 0, .int .i64 0, .int .i64 0, .string ⟨#[]⟩]), 6, 56) := by kernel_rfl
end Go.Proofs.YtjacdlekgdnndaaGreatDoor
set_option linter.unusedVariables false
namespace Go.Proofs.YtjacdlekgdnndaaGreatDoor
open Go.RowKit
def NumOk (s : ByteArray) (n : Int) : Prop := ∀ m : Nat, m ≤ 9999 → s = decB m → n = m
theorem num_len {s : ByteArray} (h : ¬ (1 ≤ s.size ∧ s.size ≤ 4)) : NumOk s (-1) := by
 rintro m hm rfl
 exact absurd ⟨by rw [decB_size]; exact dec_pos m, decB_size4 hm⟩ h
theorem decB_get {m k : Nat} (h : k < (decB m).size) : (decB m)[k] ∈ Lib.decDigits m := by
 have : (decB m)[k] = (decB m).data[k]'(by simpa using h) := ByteArray.getElem_eq_getElem_data
 rw [this]
 simp [decB]
theorem num_zero {s : ByteArray} (h : 1 < s.size) (hc : s[0].toNat = 48) : NumOk s (-1) := by
 rintro m hm rfl
 obtain ⟨b, l, e, hb⟩ := dec_head m (by rw [← decB_size]; exact h)
 have : (decB m)[0] = b := by
  rw [ByteArray.getElem_eq_getElem_data]
  simp [decB, e]
 rw [this] at hc
 omega
theorem num_bad {s : ByteArray} {k : Nat} (hk : k < s.size) (h : s[k].toNat < 48 ∨ 57 < s[k].toNat) : NumOk s (-1) := by
 rintro m hm rfl
 have := dec_digit m _ (decB_get hk)
 omega
def NumAt (s : ByteArray) (k : Nat) (z : Nat) : Prop := z < 10 ^ k ∧ Lib.decFrom 0 (s.data.toList.take k) = some z
theorem num_step {s : ByteArray} {k z : Nat} (hk : k < s.size) (h : NumAt s k z) (h1 : 48 ≤ s[k].toNat) (h2 : s[k].toNat ≤ 57) : NumAt s (k + 1) (10 * z + (s[k].toNat - 48)) := by
 refine ⟨by rw [Nat.pow_succ]; have := h.1; omega, ?_⟩
 have e := Lib.decFrom_take s.data.toList k 0 z s[k] (s[k].toNat - 48) h.2 (by simp [ByteArray.getElem_eq_getElem_data, hk]) (by unfold Lib.digitVal; rw [if_pos ⟨h1, h2⟩])
 rw [e]
 congr 1
 omega
theorem num_done {s : ByteArray} {z : Nat} (h : NumAt s s.size z) : NumOk s z := by
 rintro m hm rfl
 have h2 := h.2
 rw [List.take_of_length_le (by simp)] at h2
 have h3 : Lib.decFrom 0 (Lib.decDigits m) = some z := h2
 rw [decFrom_dec] at h3
 have h4 : m = z := by simpa using h3
 rw [h4]
set_option maxRecDepth 100000 in
set_option maxHeartbeats 2000000 in
theorem l43Number_any (s : ByteArray) (w : World) (hs : s.size ≤ 1048577) :
 Calls Tryz.prog 170 #[.string s] w fun e w' => (∃ n : Int, e = .returned (.int .i64 n) ∧ NumOk s n) ∧ w = w' := by
 have L := Lib.hid (l6In_any s.size 1 4)
 by_cases h1 : 1 ≤ s.size ∧ s.size ≤ 4
 ·have e1 : inB s.size 1 4 = true := by rw [inB_iff]; omega
  rw [e1] at L
  clear e1
  obtain ⟨h0, h4⟩ := h1
  have i0 : (0 : Int) < s.size := by omega
  by_cases hz : 1 < s.size
  ·have g1 : decide ((1 : Int) < (s.size : Int)) = true := by simp; omega
   by_cases hc : s[0].toNat = 48
   ·have N := Lib.hid (num_zero hz hc)
    have t : ((s[0].toNat : Int) == 48) = true := by simp [hc]
    clear hc
    go_enter Tryz.func170, Tryz.ntmps170
    go_wp2_with fail
    refine (L.out _).mono ?_; rintro e' w1 ⟨rfl, rfl⟩
    go_wp2_with fail
    go_ret
    exact ⟨⟨_, rfl, N.out⟩, rfl⟩
   ·have t : ((s[0].toNat : Int) == 48) = false := by rw [beq_eq_false_iff_ne]; omega
    clear hc
    go_enter Tryz.func170, Tryz.ntmps170
    go_wp2_with fail
    refine (L.out _).mono ?_; rintro e' w1 ⟨rfl, rfl⟩
    go_wp2_with fail
    go_loop [3, 4] (fun n i => ∃ k z : Nat, k ≤ s.size ∧ i = .int .i64 k ∧ n = .int .i64 z ∧ NumAt s k z) (fun _ i => s.size - (intOf i).toNat)
    case atStart => exact ⟨0, 0, Nat.zero_le _, rfl, rfl, by decide, rfl⟩
    case round =>
     obtain ⟨k, z, hk, rfl, rfl, hn⟩ := hrel
     have hz1 : z < 10000 := Nat.lt_of_lt_of_le hn.1 (Nat.pow_le_pow_right (by decide) (show k ≤ 4 by omega))
     have Hn := Lib.hid hn; clear hn
     by_cases hlt : k < s.size
     ·by_cases c1 : s[k].toNat < 48
      ·have N := Lib.hid (num_bad hlt (.inl c1))
       have t1 : (s[k].toNat : Int) < 48 := by omega
       go_wp2_with fail
       go_ret
       exact ⟨⟨_, rfl, N.out⟩, rfl⟩
      ·by_cases c2 : 57 < s[k].toNat
       ·have N := Lib.hid (num_bad hlt (.inr c2))
        have t1 : ¬ (s[k].toNat : Int) < 48 := by omega
        have t2 : (57 : Int) < s[k].toNat := by omega
        go_wp2_with fail
        go_ret
        exact ⟨⟨_, rfl, N.out⟩, rfl⟩
       ·have N := Lib.hid (num_step hlt Hn.out (by omega) (by omega))
        have t1 : ¬ (s[k].toNat : Int) < 48 := by omega
        have t2 : ¬ (57 : Int) < s[k].toNat := by omega
        have t3 : (48 : Int) ≤ s[k].toNat := by omega
        have t4 : (s[k].toNat : Int) ≤ 57 := by omega
        have ez := Lib.hid (show ((10 * z + (s[k].toNat - 48) : Nat) : Int) = 10 * (z : Int) + ((s[k].toNat : Int) - 48) by omega)
        go_wp2_with fail
        go_round
        case rel => exact ⟨k + 1, _, by omega, by go_num, by rw [ez.out], N.out⟩
        case measure => simp [intOf]; omega
     ·obtain rfl : k = s.size := by omega
      have N := Lib.hid (num_done Hn.out)
      go_wp2_with fail
      go_ret
      exact ⟨⟨_, rfl, N.out⟩, rfl⟩
  ·have g1 : decide ((1 : Int) < (s.size : Int)) = false := by simp; omega
   go_enter Tryz.func170, Tryz.ntmps170
   go_wp2_with fail
   refine (L.out _).mono ?_; rintro e' w1 ⟨rfl, rfl⟩
   go_wp2_with fail
   go_loop [3, 4] (fun n i => ∃ k z : Nat, k ≤ s.size ∧ i = .int .i64 k ∧ n = .int .i64 z ∧ NumAt s k z) (fun _ i => s.size - (intOf i).toNat)
   case atStart => exact ⟨0, 0, Nat.zero_le _, rfl, rfl, by decide, rfl⟩
   case round =>
    obtain ⟨k, z, hk, rfl, rfl, hn⟩ := hrel
    have hz1 : z < 10000 := Nat.lt_of_lt_of_le hn.1 (Nat.pow_le_pow_right (by decide) (show k ≤ 4 by omega))
    have Hn := Lib.hid hn; clear hn
    by_cases hlt : k < s.size
    ·by_cases c1 : s[k].toNat < 48
     ·have N := Lib.hid (num_bad hlt (.inl c1))
      have t1 : (s[k].toNat : Int) < 48 := by omega
      go_wp2_with fail
      go_ret
      exact ⟨⟨_, rfl, N.out⟩, rfl⟩
     ·by_cases c2 : 57 < s[k].toNat
      ·have N := Lib.hid (num_bad hlt (.inr c2))
       have t1 : ¬ (s[k].toNat : Int) < 48 := by omega
       have t2 : (57 : Int) < s[k].toNat := by omega
       go_wp2_with fail
       go_ret
       exact ⟨⟨_, rfl, N.out⟩, rfl⟩
      ·have N := Lib.hid (num_step hlt Hn.out (by omega) (by omega))
       have t1 : ¬ (s[k].toNat : Int) < 48 := by omega
       have t2 : ¬ (57 : Int) < s[k].toNat := by omega
       have t3 : (48 : Int) ≤ s[k].toNat := by omega
       have t4 : (s[k].toNat : Int) ≤ 57 := by omega
       have ez := Lib.hid (show ((10 * z + (s[k].toNat - 48) : Nat) : Int) = 10 * (z : Int) + ((s[k].toNat : Int) - 48) by omega)
       go_wp2_with fail
       go_round
       case rel => exact ⟨k + 1, _, by omega, by go_num, by rw [ez.out], N.out⟩
       case measure => simp [intOf]; omega
    ·obtain rfl : k = s.size := by omega
     have N := Lib.hid (num_done Hn.out)
     go_wp2_with fail
     go_ret
     exact ⟨⟨_, rfl, N.out⟩, rfl⟩
 ·have N := Lib.hid (num_len h1)
  have e1 : inB s.size 1 4 = false := by rw [inB_no]; omega
  rw [e1] at L
  clear e1 h1
  go_enter Tryz.func170, Tryz.ntmps170
  go_wp2_with fail
  refine (L.out _).mono ?_; rintro e' w1 ⟨rfl, rfl⟩
  go_wp2_with fail
  go_ret
  exact ⟨⟨_, rfl, N.out⟩, rfl⟩
end Go.Proofs.YtjacdlekgdnndaaGreatDoor
set_option linter.unusedVariables false
namespace Go.Proofs.YtjacdlekgdnndaaGreatDoor
open Go.RowKit
theorem ct_RdStrs.six {w : World} {v : Value} {ws : List ByteArray} (h : ct_RdStrs w v ws) (hl : ws.length = 6) : ∃ b off cap, v = .slice (some ⟨b, off, none⟩) 6 cap ∧ 6 ≤ cap ∧ b < w.heap.size ∧ ∀ k, k < 6 → w.cell? ⟨b, off + k, none⟩ = some (.string (nthS ws k)) := by
 obtain ⟨a, cap, rfl, hc, hcm, hA⟩ := h.open
 obtain ⟨b, off, rfl, hb, _⟩ := hA 0 (by omega)
 refine ⟨b, off, cap, by rw [hl], by omega, hb, fun k hk => ?_⟩
 obtain ⟨b', off', e, _, hc⟩ := hA k (by omega)
 simp only [Option.some.injEq, Addr.mk.injEq, and_true] at e
 obtain ⟨rfl, rfl⟩ := e
 exact hc
def callWsB (x : CallV) : List ByteArray := (callWs x.k.toNat x.e.toNat x.a.toNat x.b.toNat x.c.toNat x.nm.data.toList).map ofL
def KindAt (s : ByteArray) (k : Nat) (K : Int) : Prop := ∀ j : Nat, 1 ≤ j → j < k → s = kindB j → K = j
theorem kindB_inj {j k : Nat} (hj : 1 ≤ j) (hj' : j ≤ 11) (hk : 1 ≤ k) (hk' : k ≤ 11) (h : kindB j = kindB k) : j = k := by
 have h2 : kindL j = kindL k := by simpa [kindB] using h
 have := kind_inj ⟨j, by omega⟩ ⟨k, by omega⟩ hj hk h2
 simpa using this
theorem KindAt.hit {s : ByteArray} {k : Nat} (h1 : 1 ≤ k) (hk : k ≤ 11) (h : s = kindB k) : KindAt s (k + 1) k := by
 rintro j h2 h3 rfl
 rw [kindB_inj h2 (by omega) h1 hk h]
theorem KindAt.miss {s : ByteArray} {k : Nat} {K : Int} (h : KindAt s k K) (hne : s ≠ kindB k) : KindAt s (k + 1) K := by
 intro j h1 h2 h3
 rcases Nat.lt_succ_iff_lt_or_eq.1 h2 with h' | h'
 ·exact h j h1 h' h3
 ·subst h'; exact absurd h3 hne
def ReadOk (ws : List ByteArray) (x : CallV) : Prop := ∀ y : CallV, fitsC y = true → ws = callWsB y → x = y
theorem read_ok {ws : List ByteArray} {K e a b c : Int} {nm : ByteArray} (hK : KindAt (nthS ws 0) 12 K) (he : NumOk (nthS ws 1) e) (ha : NumOk (nthS ws 2) a) (hb : NumOk (nthS ws 3) b) (hc : NumOk (nthS ws 4) c)
 (hn : ∀ l, nthS ws 5 = ofL (47 :: l) → nm = ofL l) : ReadOk ws ⟨K, e, a, b, c, nm⟩ := by
 rintro y hy rfl
 obtain ⟨k', e', a', b', c', hx, h1, h2, h3, h4, h5, h6, h7, h8⟩ := fits_ranges hy
 obtain ⟨yk, ye, ya, yb, yc, ynm⟩ := y
 simp only [CallV.mk.injEq, and_true] at hx
 obtain ⟨rfl, rfl, rfl, rfl, rfl⟩ := hx
 simp only [callWsB, callWs, Int.toNat_natCast, List.map_cons, List.map_nil] at hK he ha hb hc hn
 have q0 := hK k' h1 (by omega) rfl
 have q1 := he e' (by omega) rfl
 have q2 := ha a' h4 rfl
 have q3 := hb b' h5 rfl
 have q4 := hc c' h6 rfl
 have q5 := hn _ rfl
 rw [q0, q1, q2, q3, q4, q5, ofL_of]
def RCSt (w : World) (s : ByteArray) (k : Nat) (wr : World) : Prop := ∃ K : Int, KindAt s k K ∧ wr.heap[w.heap.size + 1]? = some (.cells (CallV.mk K 0 0 0 0 ⟨#[]⟩).cells 60 (0, 0)) ∧ wr.heap[w.heap.size]? = some (.cells (CallV.mk 0 0 0 0 0 ⟨#[]⟩).cells 60 (0, 0)) ∧ Below w.heap.size w wr
def RcEnd (w : World) (x : CallV) (F : World) : Prop :=
 (F.cell? ⟨w.heap.size, 0, none⟩ = some (.int .i64 x.k) ∧ F.cell? ⟨w.heap.size, 1, none⟩ = some (.int .i64 x.e) ∧ F.cell? ⟨w.heap.size, 2, none⟩ = some (.int .i64 x.a) ∧ F.cell? ⟨w.heap.size, 3, none⟩ = some (.int .i64 x.b) ∧ F.cell? ⟨w.heap.size, 4, none⟩ = some (.int .i64 x.c) ∧ F.cell? ⟨w.heap.size, 5, none⟩ = some (.string x.nm)) ∧ Below w.heap.size w F
theorem rc_end {w W : World} {y : CallV} (x : CallV) (hR : W.heap[w.heap.size]? = some (.cells y.cells 60 (0, 0))) (hb : Below w.heap.size w W) : RcEnd w x ((((((W.setCell ⟨w.heap.size, 0, none⟩ (.int .i64 x.k)).setCell ⟨w.heap.size, 1, none⟩ (.int .i64 x.e)).setCell ⟨w.heap.size, 2, none⟩ (.int .i64 x.a)).setCell ⟨w.heap.size, 3, none⟩ (.int .i64 x.b)).setCell ⟨w.heap.size, 4, none⟩ (.int .i64 x.c)).setCell ⟨w.heap.size, 5, none⟩ (.string x.nm)) :=
 ⟨call_cells (set6 hR), (((((hb.setCell (Nat.le_refl _) _).setCell (Nat.le_refl _) _).setCell (Nat.le_refl _) _).setCell (Nat.le_refl _) _).setCell (Nat.le_refl _) _).setCell (Nat.le_refl _) _⟩
theorem rc_set {w W : World} {y : CallV} {j : Nat} (u : Value) (h : W.heap[w.heap.size]? = some (.cells y.cells 60 (0, 0)) ∧ Below w.heap.size w W) : (W.setCell ⟨w.heap.size + 1, j, none⟩ u).heap[w.heap.size]? = some (.cells y.cells 60 (0, 0)) ∧ Below w.heap.size w (W.setCell ⟨w.heap.size + 1, j, none⟩ u) :=
 ⟨(heap_setCell_other W ⟨w.heap.size + 1, j, none⟩ w.heap.size u (by simp)).trans h.1, h.2.setCell (by simp) u⟩
theorem name_ok (s : ByteArray) (h : 0 < s.size) : ∀ l, s = ofL (47 :: l) → s.extract 1 s.size = ofL l := by
 rintro l rfl
 rw [← ofL_of ((ofL (47 :: l)).extract 1 _), ext_list]
 congr 1
 rw [ofL_toList]
 simp [ofL, ByteArray.size]
theorem name_no {s : ByteArray} (h : ¬ 0 < s.size) (t : ByteArray) : ∀ l, s = ofL (47 :: l) → t = ofL l := by
 rintro l rfl
 exact absurd (by simp [ofL, ByteArray.size]) h
set_option maxRecDepth 100000 in
set_option maxHeartbeats 8000000 in
theorem l43Call_any (v : Value) (ws : List ByteArray) (w : World) (h : ct_RdStrs w v ws) (hl : ws.length = 6) (hs : ∀ k, k < 6 → (nthS ws k).size ≤ 1048577) :
 Calls Tryz.prog 101 #[v] w fun e w' => (∃ x : CallV, e = .returned x.val ∧ x.nm.size ≤ 1048577 ∧ ReadOk ws x) ∧ Below w.heap.size w w' := by
 obtain ⟨b, off, cap, rfl, hcap, hbl, hc⟩ := h.six hl
 have Hc := Lib.hid hc; clear hc
 have Hs := Lib.hid hs; clear hs
 have n1 : b ≠ w.heap.size + 1 := by omega
 have n2 : b ≠ w.heap.size := by omega
 have n3 : w.heap.size ≠ w.heap.size + 1 := by omega
 have n4 : w.heap.size + 1 ≠ w.heap.size := by omega
 have hN := Lib.hid (heap_alloc_new w (.cells (CallV.mk 0 0 0 0 0 ⟨#[]⟩).cells 60))
 have hN1 := Lib.hid (by have := heap_alloc_new (w.alloc (.cells (CallV.mk 0 0 0 0 0 ⟨#[]⟩).cells 60)) (.cells (CallV.mk 0 0 0 0 0 ⟨#[]⟩).cells 60); rwa [World.size_alloc] at this)
 clear h hl
 go_enter Tryz.func101, Tryz.ntmps101
 go_wp2_with fail
 go_loopw [4] (fun i wr => ∃ k : Nat, 1 ≤ k ∧ k ≤ 12 ∧ i = .int .i64 k ∧ RCSt w (nthS ws 0) k wr) (fun i _ => 12 - (intOf i).toNat)
 case atStart => exact ⟨1, Nat.le_refl _, by decide, rfl, 0, fun j h1 h2 => by omega, hN1.out, blk_under hN.out (below1 _ _), below2 _ _ _⟩
 case round =>
  obtain ⟨k, hk1, hk2, rfl, K, hK, hB, hR, hbel⟩ := hrel
  have HK := Lib.hid hK; clear hK
  have HB := Lib.hid hB; clear hB
  have HR := Lib.hid hR; clear hR
  have Hb := Lib.hid hbel
  by_cases hlt : k < 12
  ·have D0 : wr.cell? ⟨b, off, none⟩ = some (.string (nthS ws 0)) := (hbel.cell (p := ⟨b, off, none⟩) hbl).trans (Hc.out 0 (by decide))
   have k0 := cell_regrown D0
   have cW := Regrown.of (w1 := wr) (fun w => l43Word_any k w ⟨hk1, by omega⟩)
   clear hbel D0
   by_cases he : nthS ws 0 = kindB k
   ·have t : ((nthS ws 0).toList == (kindB k).toList) = true := by simp [he]
    have T := Lib.hid (KindAt.hit hk1 (by omega) he)
    clear he
    go_wp2_with fail
    refine wp_region_quiet_below Tryz.mixed (by kernel_rfl) ?_
    repeat (quiet_step (exact cW _ _))
    refine wpQuiet_nil ?_
    intro _ hw'
    obtain ⟨⟨dq, osq⟩, hw''⟩ := hw'
    subst hw''
    have bq := below_regrown wr dq osq
    generalize Sort.grow (redrawn wr dq) osq = wq at bq
    have HB1 := Lib.hid (blk_under HB.out bq)
    have HR1 := Lib.hid (blk_under HR.out bq)
    have Hb1 := Lib.hid (Hb.out.trans (bq.mono Hb.out.size))
    clear k0 cW bq
    have S := Lib.hid (by have := heap_setCell_same wq (w.heap.size + 1) 0 _ _ (.int .i64 k) HB1.out; simpa [CallV.cells] using this)
    have S' := Lib.hid ((heap_setCell_other wq ⟨w.heap.size + 1, 0, none⟩ w.heap.size (.int .i64 k) (by simp)).trans HR1.out)
    have S2 := Lib.hid (Hb1.out.setCell (p := ⟨w.heap.size + 1, 0, none⟩) (by simp) (.int .i64 k))
    obtain ⟨c0, _⟩ := call_cells HB1.out
    have hf := ct_blk_frozen HB1.out
    go_wp2_with fail
    go_roundw
    case rel => exact ⟨k + 1, by omega, by omega, by go_num, k, T.out, S.out, S'.out, S2.out⟩
    case measure => simp [intOf]; omega
   ·have t : ((nthS ws 0).toList == (kindB k).toList) = false := by
     rw [beq_eq_false_iff_ne]
     intro e
     apply he
     rw [Lib.toList_data, Lib.toList_data] at e
     rw [← ofL_of (nthS ws 0), e, ofL_of]
    have T := Lib.hid (HK.out.miss he)
    clear he
    go_wp2_with fail
    refine wp_region_quiet_below Tryz.mixed (by kernel_rfl) ?_
    repeat (quiet_step (exact cW _ _))
    refine wpQuiet_nil ?_
    intro _ hw'
    obtain ⟨⟨dq, osq⟩, hw''⟩ := hw'
    subst hw''
    have bq := below_regrown wr dq osq
    generalize Sort.grow (redrawn wr dq) osq = wq at bq
    have HB1 := Lib.hid (blk_under HB.out bq)
    have HR1 := Lib.hid (blk_under HR.out bq)
    have Hb1 := Lib.hid (Hb.out.trans (bq.mono Hb.out.size))
    clear k0 cW bq
    go_wp2_with fail
    go_roundw
    case rel => exact ⟨k + 1, by omega, by omega, by go_num, K, T.out, HB1.out, HR1.out, Hb1.out⟩
    case measure => simp [intOf]; omega
  ·obtain rfl : k = 12 := by omega
   have D : ∀ j, j < 6 → wr.cell? ⟨b, off + j, none⟩ = some (.string (nthS ws j)) := fun j hj => (hbel.cell (p := ⟨b, off + j, none⟩) hbl).trans (Hc.out j hj)
   have D1 := D 1 (by decide)
   have D2 := D 2 (by decide)
   have D3 := D 3 (by decide)
   have D4 := D 4 (by decide)
   have D5 := D 5 (by decide)
   obtain ⟨c0, c1, c2, c3, c4, c5⟩ := call_cells HB.out
   have hf := ct_blk_frozen HB.out
   obtain ⟨r0, r1, r2, r3, r4, r5⟩ := call_cells HR.out
   have hf' := ct_blk_frozen HR.out
   clear D hbel
   go_wp2_with fail
   refine (l43Number_any _ _ (Hs.out 1 (by decide))).mono ?_; rintro e' w1 ⟨⟨ne, rfl, He⟩, rfl⟩
   have He := Lib.hid He
   go_wp2_with fail
   refine (l43Number_any _ _ (Hs.out 2 (by decide))).mono ?_; rintro e' w1 ⟨⟨na, rfl, Ha⟩, rfl⟩
   have Ha := Lib.hid Ha
   go_wp2_with fail
   refine (l43Number_any _ _ (Hs.out 3 (by decide))).mono ?_; rintro e' w1 ⟨⟨nb, rfl, Hb'⟩, rfl⟩
   have Hb' := Lib.hid Hb'
   go_wp2_with fail
   refine (l43Number_any _ _ (Hs.out 4 (by decide))).mono ?_; rintro e' w1 ⟨⟨nc, rfl, Hc'⟩, rfl⟩
   have Hc' := Lib.hid Hc'
   have Q := Lib.hid (rc_set (.int .i64 nc) (j := 4) (rc_set (.int .i64 nb) (j := 3) (rc_set (.int .i64 na) (j := 2) (rc_set (.int .i64 ne) (j := 1) ⟨HR.out, Hb.out⟩))))
   have Z5 := Lib.hid (Hs.out 5 (by decide))
   by_cases h5 : 0 < (nthS ws 5).size
   ·have NO := Lib.hid (name_ok _ h5)
    have RO := Lib.hid (read_ok HK.out He.out Ha.out Hb'.out Hc'.out NO.out)
    have i5 : (1 : Int) ≤ (nthS ws 5).size := by omega
    have i6 : decide ((0 : Int) < (nthS ws 5).size) = true := decide_eq_true (by omega)
    go_wp2_with fail
    obtain ⟨⟨E0, E1, E2, E3, E4, E5⟩, Fin⟩ := rc_end ⟨K, ne, na, nb, nc, (nthS ws 5).extract 1 (nthS ws 5).size⟩ (rc_set (.string ((nthS ws 5).extract 1 (nthS ws 5).size)) (j := 5) Q.out).1 (rc_set (.string ((nthS ws 5).extract 1 (nthS ws 5).size)) (j := 5) Q.out).2
    dsimp only at E0 E1 E2 E3 E4 E5 Fin
    exact bodyPost_ret (v := .agg #[_, _, _, _, _, _]) (by simp [results, Tryz.results101, go_sem, E0, E1, E2, E3, E4, E5]) rfl ⟨⟨⟨K, ne, na, nb, nc, (nthS ws 5).extract 1 (nthS ws 5).size⟩, rfl, by have := Z5.out; simp only [ByteArray.size_extract]; omega, RO.out⟩, Fin⟩
   ·have NO := Lib.hid (name_no h5 ⟨#[]⟩)
    have RO := Lib.hid (read_ok HK.out He.out Ha.out Hb'.out Hc'.out NO.out)
    have i6 : decide ((0 : Int) < (nthS ws 5).size) = false := decide_eq_false (by omega)
    go_wp2_with fail
    obtain ⟨⟨E0, E1, E2, E3, E4, E5⟩, Fin⟩ := rc_end ⟨K, ne, na, nb, nc, ⟨#[]⟩⟩ Q.out.1 Q.out.2
    dsimp only at E0 E1 E2 E3 E4 E5 Fin
    exact bodyPost_ret (v := .agg #[_, _, _, _, _, _]) (by simp [results, Tryz.results101, go_sem, E0, E1, E2, E3, E4, E5]) rfl ⟨⟨⟨K, ne, na, nb, nc, ⟨#[]⟩⟩, rfl, (show (⟨#[]⟩ : ByteArray).size ≤ 1048577 by decide), RO.out⟩, Fin⟩
end Go.Proofs.YtjacdlekgdnndaaGreatDoor
set_option linter.unusedVariables false
namespace Go.Proofs.YtjacdlekgdnndaaGreatDoor
open Go.RowKit
def CallV.zero : CallV := ⟨0, 0, 0, 0, 0, ⟨#[]⟩⟩
def Parsed (s : ByteArray) (x : CallV) (ok : Bool) : Prop := (ok = true ∧ fitsC x = true ∧ callB x = s) ∨ (ok = false ∧ x = CallV.zero ∧ ∀ y : CallV, fitsC y = true → callB y ≠ s)
theorem cut_callB {y : CallV} (h : fitsC y = true) : cutB 32 (callB y) = callWsB y := by
 obtain ⟨k, e, a, b, c, hx, h1, h2, h3, h4, h5, h6, h7, h8⟩ := fits_ranges h
 have := txt_cut (k := y.k.toNat) (e := y.e.toNat) (a := y.a.toNat) (b := y.b.toNat) (c := y.c.toNat) (nm := y.nm.data.toList) (by rw [hx]; simpa using h2) h8
 unfold cutB callWsB
 have e1 : (callB y).data.toList = callL y := rfl
 rw [e1, callL, this]
theorem callWsB_len (y : CallV) : (callWsB y).length = 6 := rfl
theorem parsed_len {s : ByteArray} (h : (cutB 32 s).length ≠ 6) : ∀ y : CallV, fitsC y = true → callB y ≠ s := by
 rintro y hy rfl
 rw [cut_callB hy] at h
 exact h (callWsB_len y)
theorem parsed_read {s : ByteArray} {x : CallV} (hr : ReadOk (cutB 32 s) x) (h : fitsC x = true → callB x ≠ s) : ∀ y : CallV, fitsC y = true → callB y ≠ s := by
 rintro y hy rfl
 have := hr y hy (cut_callB hy)
 subst this
 exact h hy rfl
theorem callB_inj {x y : CallV} (hx : fitsC x = true) (hy : fitsC y = true) (h : callB x = callB y) : x = y := by
 obtain ⟨k, e, a, b, c, hx', h1, h2, h3, h4, h5, h6, h7, h8⟩ := fits_ranges hx
 obtain ⟨k', e', a', b', c', hy', j1, j2, j3, j4, j5, j6, j7, j8⟩ := fits_ranges hy
 have hl : callL x = callL y := by simpa [callB] using h
 rw [callL, callL] at hl
 obtain ⟨xk, xe, xa, xb, xc, xn⟩ := x
 obtain ⟨yk, ye, ya, yb, yc, yn⟩ := y
 simp only [CallV.mk.injEq, and_true] at hx' hy'
 obtain ⟨rfl, rfl, rfl, rfl, rfl⟩ := hx'
 obtain ⟨rfl, rfl, rfl, rfl, rfl⟩ := hy'
 simp only [Int.toNat_natCast] at hl
 obtain ⟨rfl, rfl, rfl, rfl, rfl, hn⟩ := txt_inj h2 h8 j2 j8 h1 j1 hl
 have : xn = yn := by
  obtain ⟨⟨l⟩⟩ := xn
  obtain ⟨⟨l'⟩⟩ := yn
  simp at hn
  rw [hn]
 rw [this]
theorem Parsed.uniq {s : ByteArray} {x y : CallV} {a b : Bool} (h : Parsed s x a) (h' : Parsed s y b) : x = y ∧ a = b := by
 rcases h with ⟨rfl, h1, h2⟩ | ⟨rfl, h1, h2⟩ <;> rcases h' with ⟨rfl, h3, h4⟩ | ⟨rfl, h3, h4⟩
 ·exact ⟨callB_inj h1 h3 (h2.trans h4.symm), rfl⟩
 ·exact absurd h2 (h4 x h1)
 ·exact absurd h4 (h2 y h3)
 ·exact ⟨h1.trans h3.symm, rfl⟩
theorem piece_size (a : UInt8) (s : ByteArray) (k : Nat) : (nthS (cutB a s) k).size ≤ s.size := by
 unfold nthS
 by_cases hk : k < (cutB a s).length
 ·have hm : (cutB a s)[k] ∈ cutB a s := List.getElem_mem hk
  obtain ⟨l, hl, he⟩ := List.mem_map.1 hm
  have := (cutL_mem a _ l hl).1
  have e : (cutB a s).getD k ⟨#[]⟩ = ofL l := by rw [List.getD_eq_getElem?_getD, List.getElem?_eq_getElem hk, Option.getD_some, he]
  rw [e]
  have e2 : (ofL l).size = l.length := by simp [ofL, ByteArray.size]
  have e3 : s.data.toList.length = s.size := by simp
  omega
 ·rw [List.getD_eq_getElem?_getD, List.getElem?_eq_none (Nat.le_of_not_lt hk), Option.getD_none]
  exact Nat.zero_le _
theorem l43Cut_32 (s : ByteArray) (w : World) (hs : s.size ≤ 1048577) :
 Calls Tryz.prog 36 #[.string s, .int .u8 32] w fun e w' => ∃ v, e = .returned v ∧ OwnStrs w.heap.size w' v (cutB 32 s) ∧ Below w.heap.size w w' := l43Cut_any s 32 w hs
theorem l43Cut_59 (s : ByteArray) (w : World) (hs : s.size ≤ 1048577) :
 Calls Tryz.prog 36 #[.string s, .int .u8 59] w fun e w' => ∃ v, e = .returned v ∧ OwnStrs w.heap.size w' v (cutB 59 s) ∧ Below w.heap.size w w' := l43Cut_any s 59 w hs
set_option maxRecDepth 100000 in
set_option maxHeartbeats 4000000 in
theorem CallParse_spec (s : ByteArray) (w : World) (hs : s.size ≤ 1048577) :
 Calls Tryz.prog 37 #[.string s] w fun e w' => (∃ (x : CallV) (ok : Bool), e = .returned (.tuple #[x.val, .bool ok]) ∧ Parsed s x ok) ∧ Below w.heap.size w w' := by
 have hN := Lib.hid (heap_alloc_new w (.cells CallV.zero.cells 60))
 have hB := Lib.hid (below1 w (.cells CallV.zero.cells 60))
 go_enter Tryz.func37, Tryz.ntmps37
 go_wp2_with fail
 refine (l43Cut_32 s _ hs).mono ?_; rintro e w1 ⟨v, rfl, ho, b1⟩
 have hN1 := (b1.block w.heap.size (by simp)).trans hN.out
 have hB1 := hB.out.trans (b1.mono hB.out.size)
 obtain ⟨d0, d1, d2, d3, d4, d5⟩ := call_cells hN1
 have hf := ct_blk_frozen hN1
 have hR := ho.rd
 obtain ⟨a, cap, rfl, hnc, hcm, _⟩ := hR.open
 have HR := Lib.hid hR
 have HN := Lib.hid hN1
 have HB := Lib.hid hB1
 clear ho hR hN1 hB1 b1
 by_cases hl : (cutB 32 s).length = 6
 ·have t : (((cutB 32 s).length : Int) != 6) = false := by simp; omega
  have hz := fun k (_ : k < 6) => Nat.le_trans (piece_size 32 s k) hs
  have Hz := Lib.hid hz
  have Hl := Lib.hid hl
  clear hz hl
  go_wp2_with fail
  refine (l43Call_any _ _ _ HR.out Hl.out Hz.out).mono ?_; rintro e w2 ⟨⟨x, rfl, hx, hro⟩, b2⟩
  have HN2 := Lib.hid (blk_under HN.out b2)
  have HB2 := Lib.hid (HB.out.trans (b2.mono HB.out.size))
  have HRo := Lib.hid hro
  clear d0 d1 d2 d3 d4 d5 hf b2 hro HR
  have hx' : x.nm.size ≤ maxLen := Nat.le_trans hx (by decide)
  have F := Lib.hid (fun w => CallFits_spec x w hx')
  have T := Lib.hid (fun w => CallText_spec x w hx')
  have hN3 := Lib.hid (heap_alloc_new w2 (.cells x.cells 60))
  have hB3 := Lib.hid (below1 w2 (.cells x.cells 60))
  have hlt := ct_blk_lt HN2.out
  cases hf : fitsC x
  ·have P := Lib.hid (parsed_read HRo.out (fun h => by rw [hf] at h; cases h))
   rw [hf] at F
   clear hf
   obtain ⟨k, e, a, b, c, nm⟩ := x
   simp only [CallV.val, CallV.cells] at F hN3 hB3 ⊢
   go_wp2_with fail
   refine (F.out _).mono ?_; rintro e' w3 ⟨rfl, b3⟩
   have HN3 := (b3.block w.heap.size (by simp; omega)).trans ((hB3.out.block _ hlt).trans HN2.out)
   have HB3 := HB2.out.trans ((hB3.out.trans (b3.mono hB3.out.size)).mono HB2.out.size)
   obtain ⟨d0, d1, d2, d3, d4, d5⟩ := call_cells HN3
   have hf := ct_blk_frozen HN3
   have Q := Lib.hid (rc_end CallV.zero HN3 HB3)
   clear HN3 HB3 b3
   go_wp2_with fail
   obtain ⟨⟨E0, E1, E2, E3, E4, E5⟩, Fin⟩ := Q.out
   simp only [CallV.zero] at E0 E1 E2 E3 E4 E5 Fin
   exact bodyPost_ret (v := .tuple #[.agg #[.int .i64 0, .int .i64 0, .int .i64 0, .int .i64 0, .int .i64 0, .string ⟨#[]⟩], .bool false]) (by simp [results, Tryz.results37, go_sem, E0, E1, E2, E3, E4, E5]) rfl ⟨⟨CallV.zero, false, rfl, .inr ⟨rfl, rfl, P.out⟩⟩, Fin⟩
  ·have ht : textB x = callB x := by simp [textB, hf]
   rw [ht] at T
   rw [hf] at F
   by_cases hc : callB x = s
   ·have P := Lib.hid (show Parsed s x true from .inl ⟨rfl, hf, hc⟩)
    have tq : ((callB x).toList == s.toList) = true := by simp [hc]
    clear hf ht hc
    have Q1 := Lib.hid (fun (w W : World) (hR : W.heap[w.heap.size]? = some (.cells CallV.zero.cells 60 (0, 0))) (hb : Below w.heap.size w W) => rc_end x hR hb)
    generalize callB x = cb at T tq
    obtain ⟨k, e, a, b, c, nm⟩ := x
    simp only [CallV.val, CallV.cells] at F T hN3 hB3 ⊢
    go_wp2_with fail
    refine (F.out _).mono ?_; rintro e' w3 ⟨rfl, b3⟩
    have hN4 := (b3.block w2.heap.size (by simp)).trans hN3.out
    have HN3 := Lib.hid ((b3.block w.heap.size (by simp; omega)).trans ((hB3.out.block _ hlt).trans HN2.out))
    have HB3 := Lib.hid (HB2.out.trans ((hB3.out.trans (b3.mono hB3.out.size)).mono HB2.out.size))
    obtain ⟨d0, d1, d2, d3, d4, d5⟩ := call_cells (x := ⟨k, e, a, b, c, nm⟩) hN4
    have HN4 := Lib.hid hN4
    clear hN4 b3
    go_wp2_with fail
    refine (T.out _).mono ?_; rintro e' w4 ⟨rfl, b4⟩
    have hN5 := blk_under HN4.out b4
    have HN5 := blk_under HN3.out b4
    have HB5 := HB3.out.trans (b4.mono HB3.out.size)
    clear d0 d1 d2 d3 d4 d5
    obtain ⟨d0, d1, d2, d3, d4, d5⟩ := call_cells (x := ⟨k, e, a, b, c, nm⟩) hN5
    obtain ⟨r0, r1, r2, r3, r4, r5⟩ := call_cells HN5
    have hf := ct_blk_frozen HN5
    have Q := Lib.hid (Q1.out _ _ HN5 HB5)
    clear HN5 HB5 hN5 b4
    go_wp2_with fail
    obtain ⟨⟨E0, E1, E2, E3, E4, E5⟩, Fin⟩ := Q.out
    dsimp only at E0 E1 E2 E3 E4 E5 Fin
    exact bodyPost_ret (v := .tuple #[.agg #[_, _, _, _, _, _], .bool true]) (by simp [results, Tryz.results37, go_sem, E0, E1, E2, E3, E4, E5]) rfl ⟨⟨⟨k, e, a, b, c, nm⟩, true, rfl, P.out⟩, Fin⟩
   ·have P := Lib.hid (parsed_read HRo.out (fun _ => hc))
    have tq : ((callB x).toList == s.toList) = false := by
     rw [beq_eq_false_iff_ne]
     intro e
     apply hc
     rw [Lib.toList_data, Lib.toList_data] at e
     rw [← ofL_of (callB x), e, ofL_of]
    clear hf ht hc
    generalize callB x = cb at T tq
    obtain ⟨k, e, a, b, c, nm⟩ := x
    simp only [CallV.val, CallV.cells] at F T hN3 hB3 ⊢
    go_wp2_with fail
    refine (F.out _).mono ?_; rintro e' w3 ⟨rfl, b3⟩
    have hN4 := (b3.block w2.heap.size (by simp)).trans hN3.out
    have HN3 := Lib.hid ((b3.block w.heap.size (by simp; omega)).trans ((hB3.out.block _ hlt).trans HN2.out))
    have HB3 := Lib.hid (HB2.out.trans ((hB3.out.trans (b3.mono hB3.out.size)).mono HB2.out.size))
    obtain ⟨d0, d1, d2, d3, d4, d5⟩ := call_cells (x := ⟨k, e, a, b, c, nm⟩) hN4
    clear hN4 b3
    go_wp2_with fail
    refine (T.out _).mono ?_; rintro e' w4 ⟨rfl, b4⟩
    have HN5 := blk_under HN3.out b4
    have HB5 := HB3.out.trans (b4.mono HB3.out.size)
    clear d0 d1 d2 d3 d4 d5
    obtain ⟨r0, r1, r2, r3, r4, r5⟩ := call_cells HN5
    have hf := ct_blk_frozen HN5
    have Q := Lib.hid (rc_end CallV.zero HN5 HB5)
    clear HN5 HB5 b4
    go_wp2_with fail
    obtain ⟨⟨E0, E1, E2, E3, E4, E5⟩, Fin⟩ := Q.out
    simp only [CallV.zero] at E0 E1 E2 E3 E4 E5 Fin
    exact bodyPost_ret (v := .tuple #[.agg #[.int .i64 0, .int .i64 0, .int .i64 0, .int .i64 0, .int .i64 0, .string ⟨#[]⟩], .bool false]) (by simp [results, Tryz.results37, go_sem, E0, E1, E2, E3, E4, E5]) rfl ⟨⟨CallV.zero, false, rfl, .inr ⟨rfl, rfl, P.out⟩⟩, Fin⟩
 ·have t : (((cutB 32 s).length : Int) != 6) = true := by simp; omega
  have P := Lib.hid (parsed_len hl)
  have Q := Lib.hid (rc_end CallV.zero HN.out HB.out)
  clear hl HR
  go_wp2_with fail
  obtain ⟨⟨E0, E1, E2, E3, E4, E5⟩, Fin⟩ := Q.out
  simp only [CallV.zero] at E0 E1 E2 E3 E4 E5 Fin
  exact bodyPost_ret (v := .tuple #[.agg #[.int .i64 0, .int .i64 0, .int .i64 0, .int .i64 0, .int .i64 0, .string ⟨#[]⟩], .bool false]) (by simp [results, Tryz.results37, go_sem, E0, E1, E2, E3, E4, E5]) rfl ⟨⟨CallV.zero, false, rfl, .inr ⟨rfl, rfl, P.out⟩⟩, Fin⟩
end Go.Proofs.YtjacdlekgdnndaaGreatDoor
set_option linter.unusedVariables false
namespace Go.Proofs.YtjacdlekgdnndaaGreatDoor
open Go.RowKit Go.Shelf
def PTabs (w : World) : Prop := Tabs w ∧ (∃ m, w.cell? ⟨0, 0, none⟩ = some (.int .i64 m)) ∧ (∃ t p, w.cell? ⟨1, 0, none⟩ = some (.iface t p)) ∧ ∃ t p, w.cell? ⟨2, 0, none⟩ = some (.iface t p)
theorem PTabs.below {w w' : World} (h : PTabs w) (hb : Below w.heap.size w w') : PTabs w' := by
 obtain ⟨h0, ⟨m, h1⟩, ⟨t, p, h2⟩, ⟨t', p', h3⟩⟩ := h
 exact ⟨h0.below hb, ⟨m, (hb.cell (World.block_lt_of_cell? w _ h1)).trans h1⟩, ⟨t, p, (hb.cell (World.block_lt_of_cell? w _ h2)).trans h2⟩, ⟨t', p', (hb.cell (World.block_lt_of_cell? w _ h3)).trans h3⟩⟩
theorem split_cutB (a : UInt8) (s : ByteArray) : Lib.splitB ⟨#[a]⟩ 0 (Lib.countB s ⟨#[a]⟩) s = cutB a s := by
 have h := Lib.splitB_data ⟨#[a]⟩ 0 (Lib.countB s ⟨#[a]⟩) s
 have h2 : Lib.splitK [a] 0 (Lib.countB s ⟨#[a]⟩) s.data.toList = cutL a s.data.toList := splitK_cutL a _ _ (by rw [Lib.countB]; exact (Lib.count_one _ _).symm)
 have h3 : (Lib.splitB ⟨#[a]⟩ 0 (Lib.countB s ⟨#[a]⟩) s).map (·.data.toList) = cutL a s.data.toList := h.trans h2
 unfold cutB
 rw [← h3, List.map_map]
 have : (ofL ∘ fun x : ByteArray => x.data.toList) = id := by funext x; exact ofL_of x
 rw [this, List.map_id]
theorem ownsRow_lit (w : World) (e : TypeId) (sz n : Nat) (xs : List Value) (hl : xs.length = n * sz) (hm : n ≤ maxLen) : (w.alloc (.cells xs.toArray e)).ownsRow w.heap.size e sz (.slice (some ⟨w.heap.size, 0, none⟩) n n) n xs :=
 ⟨hl, .inr ⟨_, _, _, rfl, Nat.le_refl _, heap_alloc_new _ _, Nat.le_refl _, hm, by simpa using hl, by rw [← hl]; simp⟩⟩
theorem Split_any (s : ByteArray) (a : UInt8) (w : World) (hs : s.size ≤ 1048577) (h : PTabs w) :
 Calls Tryz.prog 34 #[.string s, .string ⟨#[a]⟩] w fun e w' => ∃ v, e = .returned v ∧ OwnStrs w.heap.size w' v (cutB a s) ∧ Below w.heap.size w w' := by
 obtain ⟨_, ⟨m, hm⟩, _⟩ := h
 refine (Any.strings_Split { Tryz.laysM146 with } Tryz.laysM146.i9 s ⟨#[a]⟩ m w (by omega) hm (Nat.le_refl 1)).mono ?_
 rintro e w' ⟨rfl, rfl⟩
 have hl := Lib.splitB_all ⟨#[a]⟩ (Nat.le_refl 1) 0 _ s rfl
 rw [← hl, split_cutB]
 refine ⟨_, rfl, ?_, below1 _ _⟩
 have hc : (cutB a s).length ≤ 1048578 := by
  unfold cutB
  rw [List.length_map]
  have := cutL_len_le a s.data.toList
  have e : s.data.toList.length = s.size := by simp
  omega
 exact ownsRow_lit w 9 1 (cutB a s).length ((cutB a s).map Value.string) (by simp) (by simp only [maxLen]; omega)
def AtoiRes (s : ByteArray) (n : Int) (err : Value) : Prop := (err = .nilIface ∧ Lib.atoiAll s.data.toList = .ok n) ∨ ((∃ t p, err = .iface t p) ∧ ∀ v, Lib.atoiAll s.data.toList ≠ .ok v)
theorem Atoi_any (s : ByteArray) (w : World) (hs : s.size ≤ 1048577) (h : PTabs w) :
 Calls Tryz.prog 95 #[.string s] w fun e w' => (∃ n err, e = .returned (.tuple #[.int .i64 n, err]) ∧ AtoiRes s n err) ∧ Below w.heap.size w w' := by
 obtain ⟨_, _, ⟨t, p, h2⟩, ⟨t', p', h3⟩⟩ := h
 generalize hr : Lib.atoiAll s.data.toList = r
 cases r
 ·refine (Any.strconv_Atoi_ok Tryz.laysC172 s (by omega) _ hr w).mono ?_
  rintro e w' ⟨rfl, hw⟩
  refine ⟨⟨_, _, rfl, .inl ⟨rfl, hr⟩⟩, ?_⟩
  rcases hw with rfl | ⟨t, rfl⟩
  ·exact Below.refl _ _
  ·exact Lib.bytesWorld_below _ _ _
 ·refine (Any.strconv_Atoi_syntax Tryz.laysC172 s (by omega) hr _ w h2 (.inr ⟨t, p, rfl⟩)).mono ?_
  rintro e w' ⟨N, rfl, _, _, hb⟩
  exact ⟨⟨_, _, rfl, .inr ⟨⟨_, _, rfl⟩, fun v h => by rw [hr] at h; cases h⟩⟩, hb⟩
 ·refine (Any.strconv_Atoi_range Tryz.laysC172 s (by omega) hr _ w h3 (.inr ⟨t', p', rfl⟩)).mono ?_
  rintro e w' ⟨N, rfl, _, _, hb⟩
  exact ⟨⟨_, _, rfl, .inr ⟨⟨_, _, rfl⟩, fun v h => by rw [hr] at h; cases h⟩⟩, hb⟩
def kindLs : List ByteArray := (List.range 11).map fun i => kindB (i + 1)
theorem kind_idx : ∀ j : Fin 12, 1 ≤ j.val → Lib.idxOfS kindLs (kindB j.val) = (j.val : Int) - 1 := by decide +kernel
theorem idx_bounds : ∀ (zs : List ByteArray) (x : ByteArray) (i : Nat), -1 ≤ Lib.idxFromS zs x i ∧ Lib.idxFromS zs x i ≤ (zs.length + i : Nat) := by
 intro zs
 induction zs with
 | nil => intro x i; simp only [Lib.idxFromS, List.length_nil]; omega
 | cons z zs ih =>
  intro x i
  unfold Lib.idxFromS
  split
  ·simp only [List.length_cons]; omega
  ·have := ih x (i + 1)
   simp only [List.length_cons]
   omega
theorem idx_kinds (x : ByteArray) : -1 ≤ Lib.idxOfS kindLs x ∧ Lib.idxOfS kindLs x ≤ 11 := idx_bounds kindLs x 0
theorem Index_kinds (g : Nat) (x : ByteArray) (w : World) (h : w.heap[g]? = some (.cells kindArr 9 (0, 0))) :
 Calls Tryz.prog 96 #[.slice (some ⟨g, 0, none⟩) 11 11, .string x] w fun e w' => e = .returned (.int .i64 (Lib.idxOfS kindLs x)) ∧ w' = w := by
 refine (Any.slices_Index_string Tryz.lays109 g 0 11 11 kindLs x w (by decide) (by decide) ?_).mono ?_
 ·intro j hj
  have hj' : j < 11 := by simpa [kindLs] using hj
  have := cell_at_arr (k := j + 1) ⟨by omega, by omega⟩ h
  rw [Nat.add_sub_cancel] at this
  rw [Nat.zero_add, this]
  simp [kindLs, hj']
 ·rintro e w' ⟨rfl, rfl⟩
  exact ⟨by rw [List.take_of_length_le (by decide)], rfl⟩
def dropSl (s : ByteArray) : ByteArray := ⟨(Lib.trimPrefix s.data.toList [47]).toArray⟩
theorem dropSl_ok (l : List UInt8) : dropSl (ofL (47 :: l)) = ofL l := by
 simp [dropSl, ofL, Lib.trimPrefix, Lib.hasPrefix]
theorem dropSl_size (s : ByteArray) : (dropSl s).size ≤ s.size := by
 unfold dropSl Lib.trimPrefix
 split
 ·simp only [ByteArray.size, List.size_toArray, List.length_drop, Array.length_toList]; omega
 ·simp only [ByteArray.size, List.size_toArray, Array.length_toList]; omega
theorem TrimPrefix_any (s : ByteArray) (w : World) :
 Calls Tryz.prog 98 #[.string s, .string ⟨#[47]⟩] w fun e w' => e = .returned (.string (dropSl s)) ∧ w' = w := Any.strings_TrimPrefix Tryz.lays101 s ⟨#[47]⟩ w
end Go.Proofs.YtjacdlekgdnndaaGreatDoor
set_option linter.unusedVariables false
namespace Go.Proofs.YtjacdlekgdnndaaGreatDoor
open Go.RowKit
theorem callText_fit (x : CallV) (w : World) (hf : fitsC x = true) (ht : Tabs w) :
 Calls Tryz.prog 100 #[x.val] w fun e' w' => e' = .returned (.string (callB x)) ∧ Below w.heap.size w w' := by
 obtain ⟨k, e, a, b, c, hx, h1, h2, h3, h4, h5, h6, h7, h8⟩ := fits_ranges hf
 rw [hx]
 exact callText_any k e a b c x.nm w ⟨h1, h2⟩ (by omega) h4 h5 h6 h7 ht
theorem numOk_atoi {s : ByteArray} {n : Int} (h : Lib.atoiAll s.data.toList = .ok n) : NumOk s n := by
 rintro m hm rfl
 have := atoiAll_dec hm
 have e : (decB m).data.toList = Lib.decDigits m := rfl
 rw [e, this] at h
 simpa using h.symm
theorem read_impl {ws : List ByteArray} {n0 n1 n2 n3 : Int} (h0 : Lib.atoiAll (nthS ws 1).data.toList = .ok n0) (h1 : Lib.atoiAll (nthS ws 2).data.toList = .ok n1) (h2 : Lib.atoiAll (nthS ws 3).data.toList = .ok n2) (h3 : Lib.atoiAll (nthS ws 4).data.toList = .ok n3) :
 ReadOk ws ⟨1 + Lib.idxOfS kindLs (nthS ws 0), n0, n1, n2, n3, dropSl (nthS ws 5)⟩ :=
 read_ok (fun j h1 h2 h3 => by have := kind_idx ⟨j, h2⟩ h1; rw [h3]; simp only at this; omega) (numOk_atoi h0) (numOk_atoi h1) (numOk_atoi h2) (numOk_atoi h3) (fun l hl => by rw [hl]; exact dropSl_ok l)
theorem parsed_atoi {s : ByteArray} {k : Nat} (hk : k < 4) (h : ∀ v, Lib.atoiAll (nthS (cutB 32 s) (k + 1)).data.toList ≠ .ok v) : ∀ y : CallV, fitsC y = true → callB y ≠ s := by
 rintro y hy rfl
 rw [cut_callB hy] at h
 obtain ⟨k', e, a, b, c, hx, h1, h2, h3, h4, h5, h6, h7, h8⟩ := fits_ranges hy
 rw [hx] at h
 match k, hk with
 | 0, _ => exact h _ (atoiAll_dec (n := e) (by omega))
 | 1, _ => exact h _ (atoiAll_dec h4)
 | 2, _ => exact h _ (atoiAll_dec h5)
 | 3, _ => exact h _ (atoiAll_dec h6)
def APSt (w : World) (ws : List ByteArray) (g k : Nat) (wr : World) : Prop := ∃ ns : List Int, ns.length = 4 ∧ wr.heap[g]? = some (.cells (ns.map (Value.int .i64)).toArray 131 (0, 0)) ∧ (∀ j, j < k → Lib.atoiAll (nthS ws (j + 1)).data.toList = .ok (nth ns j)) ∧
 wr.heap[w.heap.size]? = some (.cells CallV.zero.cells 60 (0, 0)) ∧ Below w.heap.size w wr
theorem ns_cell {w : World} {g : Nat} {ns : List Int} {t : TypeId} (h : w.heap[g]? = some (.cells (ns.map (Value.int .i64)).toArray t (0, 0))) {j : Nat} (hj : j < ns.length) : w.cell? ⟨g, j, none⟩ = some (.int .i64 (nth ns j)) := by
 rw [cell_of_row w g j _ _ _ h]
 simp [nth_lt hj]
theorem ns_set {w : World} {g : Nat} {ns : List Int} {t : TypeId} (h : w.heap[g]? = some (.cells (ns.map (Value.int .i64)).toArray t (0, 0))) (k : Nat) (n : Int) : (w.setCell ⟨g, k, none⟩ (.int .i64 n)).heap[g]? = some (.cells ((ns.set k n).map (Value.int .i64)).toArray t (0, 0)) := by
 rw [heap_setCell_same w g k _ t (.int .i64 n) h]
 simp [List.map_set]
theorem ap_step {w wr : World} {ws : List ByteArray} {g k : Nat} {ns : List Int} {n : Int} (hk : k < 4) (hl : ns.length = 4) (hg : wr.heap[g]? = some (.cells (ns.map (Value.int .i64)).toArray 131 (0, 0))) (hp : ∀ j, j < k → Lib.atoiAll (nthS ws (j + 1)).data.toList = .ok (nth ns j))
 (hn : Lib.atoiAll (nthS ws (k + 1)).data.toList = .ok n) (hq : wr.heap[w.heap.size]? = some (.cells CallV.zero.cells 60 (0, 0))) (hb : Below w.heap.size w wr) (hlt : w.heap.size < g) : APSt w ws g (k + 1) (wr.setCell ⟨g, k, none⟩ (.int .i64 n)) := by
 refine ⟨ns.set k n, by simpa using hl, ns_set hg k n, fun j hj => ?_, (heap_setCell_other wr ⟨g, k, none⟩ w.heap.size _ (by simp; omega)).trans hq, hb.setCell (by simp; omega) _⟩
 rcases Nat.lt_succ_iff_lt_or_eq.1 hj with h | h
 ·rw [hp j h]
  congr 1
  simp only [nth, List.getD_eq_getElem?_getD]
  rw [List.getElem?_set_ne (by omega)]
 ·subst h
  rw [hn]
  congr 1
  simp [nth, hl, hk]
theorem set6_far {w W : World} {q : Nat} {x : CallV} {o : Obj} (hb : Below w.heap.size w W) (hN : W.heap[w.heap.size]? = some o) (hq : w.heap.size < q) :
 Below w.heap.size w ((((((W.setCell ⟨q, 0, none⟩ (.int .i64 x.k)).setCell ⟨q, 1, none⟩ (.int .i64 x.e)).setCell ⟨q, 2, none⟩ (.int .i64 x.a)).setCell ⟨q, 3, none⟩ (.int .i64 x.b)).setCell ⟨q, 4, none⟩ (.int .i64 x.c)).setCell ⟨q, 5, none⟩ (.string x.nm)) ∧
 ((((((W.setCell ⟨q, 0, none⟩ (.int .i64 x.k)).setCell ⟨q, 1, none⟩ (.int .i64 x.e)).setCell ⟨q, 2, none⟩ (.int .i64 x.a)).setCell ⟨q, 3, none⟩ (.int .i64 x.b)).setCell ⟨q, 4, none⟩ (.int .i64 x.c)).setCell ⟨q, 5, none⟩ (.string x.nm)).heap[w.heap.size]? = some o := by
 have hl := Nat.le_of_lt hq
 have far : ∀ (W : World) (j : Nat) (u : Value), W.heap[w.heap.size]? = some o → (W.setCell ⟨q, j, none⟩ u).heap[w.heap.size]? = some o := fun W j u h => (heap_setCell_other W ⟨q, j, none⟩ w.heap.size u (by simp; omega)).trans h
 exact ⟨(((((hb.setCell hl _).setCell hl _).setCell hl _).setCell hl _).setCell hl _).setCell hl _, far _ _ _ (far _ _ _ (far _ _ _ (far _ _ _ (far _ _ _ (far _ _ _ hN)))))⟩
def cpR (b off cap g B : Nat) (s0 s5 : ByteArray) (ns : List Int) (ix : Nat) (vv : Value) (ww : World) : Prop := match ix with
 | 0 => ∃ q : Nat, vv = .slice (some ⟨q, 0, none⟩) 11 11 ∧ ww.heap[q]? = some (.cells kindArr 9 (0, 0))
 | 1 => vv = .slice (some ⟨b, off, none⟩) 6 cap
 | 2 => vv = .pointer (some ⟨b, off, none⟩)
 | 3 => vv = .string s0
 | 4 => vv = .int .i64 (Lib.idxOfS kindLs s0)
 | 5 => vv = .int .i64 (1 + Lib.idxOfS kindLs s0)
 | 6 => vv = .pointer (some ⟨g, 0, none⟩)
 | 7 => vv = .int .i64 (nth ns 0)
 | 8 => vv = .pointer (some ⟨g, 1, none⟩)
 | 9 => vv = .int .i64 (nth ns 1)
 | 10 => vv = .pointer (some ⟨g, 2, none⟩)
 | 11 => vv = .int .i64 (nth ns 2)
 | 12 => vv = .pointer (some ⟨g, 3, none⟩)
 | 13 => vv = .int .i64 (nth ns 3)
 | 14 => vv = .slice (some ⟨b, off, none⟩) 6 cap
 | 15 => vv = .pointer (some ⟨b, off + 5, none⟩)
 | 16 => vv = .string s5
 | 17 => vv = .string (dropSl s5)
 | 18 => vv = .agg #[.int .i64 (1 + Lib.idxOfS kindLs s0), .int .i64 (nth ns 0), .int .i64 (nth ns 1), .int .i64 (nth ns 2), .int .i64 (nth ns 3), .string (dropSl s5)]
 | 19 => ∃ q : Nat, vv = .pointer (some ⟨q, 0, none⟩) ∧ B ≤ q ∧ ww.heap[q]? = some (.cells CallV.zero.cells 60 (0, 0))
 | _ => True
theorem cpR_mono (b off cap g B : Nat) (s0 s5 : ByteArray) (ns : List Int) : ∀ i, i < 20 → ∀ vv ww ww', Below ww.heap.size ww ww' → cpR b off cap g B s0 s5 ns i vv ww → cpR b off cap g B s0 s5 ns i vv ww' := by
 intro i hi vv ww ww' hb h
 match i, hi with
 | 0, _ => exact (let ⟨q, e, h⟩ := h; ⟨q, e, blk_under h hb⟩)
 | 1, _ => exact h
 | 2, _ => exact h
 | 3, _ => exact h
 | 4, _ => exact h
 | 5, _ => exact h
 | 6, _ => exact h
 | 7, _ => exact h
 | 8, _ => exact h
 | 9, _ => exact h
 | 10, _ => exact h
 | 11, _ => exact h
 | 12, _ => exact h
 | 13, _ => exact h
 | 14, _ => exact h
 | 15, _ => exact h
 | 16, _ => exact h
 | 17, _ => exact h
 | 18, _ => exact h
 | 19, _ => exact (let ⟨q, e, h1, h⟩ := h; ⟨q, e, h1, blk_under h hb⟩)
 | _ + 20, hq => exact absurd hq (by omega)
set_option maxRecDepth 100000 in
set_option maxHeartbeats 8000000 in
theorem CallParse_impl (s : ByteArray) (w : World) (hs : s.size ≤ 1048577) (ht : PTabs w) :
 Calls Tryz.prog 35 #[.string s] w fun e w' => (∃ (x : CallV) (ok : Bool), e = .returned (.tuple #[x.val, .bool ok]) ∧ Parsed s x ok) ∧ Below w.heap.size w w' := by
 have hN := Lib.hid (heap_alloc_new w (.cells CallV.zero.cells 60))
 have hB := Lib.hid (below1 w (.cells CallV.zero.cells 60))
 have Ht := Lib.hid ht
 go_enter Tryz.func35, Tryz.ntmps35
 go_wp2_with fail
 refine (Split_any s 32 _ hs (Ht.out.below hB.out)).mono ?_; rintro e w1 ⟨v, rfl, ho, b1⟩
 have hN1 := (b1.block w.heap.size (by simp)).trans hN.out
 have hB1 := hB.out.trans (b1.mono hB.out.size)
 have hR := ho.rd
 by_cases hl : (cutB 32 s).length = 6
 ·obtain ⟨b, off, cap, rfl, hcap, hbl, hc⟩ := hR.six hl
  have hz := fun k => Nat.le_trans (piece_size 32 s k) hs
  have P1 := Lib.hid (fun (k : Nat) (hk : k < 4) (h : ∀ v, Lib.atoiAll (nthS (cutB 32 s) (k + 1)).data.toList ≠ .ok v) => parsed_atoi (s := s) hk h)
  have P2 := Lib.hid (fun (x : CallV) (hr : ReadOk (cutB 32 s) x) (h : fitsC x = true → callB x ≠ s) => parsed_read hr h)
  have Hc := Lib.hid hc
  have Hz := Lib.hid hz
  have hA := Lib.hid (heap_alloc_new w1 (.cells (([0, 0, 0, 0] : List Int).map (Value.int .i64)).toArray 131))
  have hA1 := Lib.hid (below1 w1 (.cells (([0, 0, 0, 0] : List Int).map (Value.int .i64)).toArray 131))
  have HN := Lib.hid hN1
  have HB := Lib.hid hB1
  have hlt1 := ct_blk_lt hN1
  clear hc hz hR ho hN1 hB1 b1 hl
  go_wp2_with fail
  go_loopw [16] (fun i wr => ∃ k : Nat, k ≤ 4 ∧ i = .int .i64 k ∧ APSt w (cutB 32 s) w1.heap.size k wr ∧ Below w1.heap.size w1 wr) (fun i _ => 4 - (intOf i).toNat)
  case atStart => exact ⟨0, Nat.zero_le _, rfl, ⟨[0, 0, 0, 0], rfl, hA.out, fun j hj => absurd hj (Nat.not_lt_zero _), (hA1.out.block _ hlt1).trans HN.out, HB.out.trans (hA1.out.mono HB.out.size)⟩, hA1.out⟩
  case round =>
   obtain ⟨k, hk, rfl, ⟨ns, hnl, hg, hp, hq, hbel⟩, hbe1⟩ := hrel
   have Hg := Lib.hid hg
   have Hp := Lib.hid hp
   have Hq := Lib.hid hq
   have Hb := Lib.hid hbel
   have H1 := Lib.hid hbe1
   have Hnl := Lib.hid hnl
   by_cases hlt : k < 4
   ·have D : wr.cell? ⟨b, off + (k + 1), none⟩ = some (.string (nthS (cutB 32 s) (k + 1))) := (hbe1.cell (p := ⟨b, off + (k + 1), none⟩) hbl).trans (Hc.out (k + 1) (by omega))
    clear hg hp hq hbel hbe1 hnl
    go_wp2_with fail
    refine (Atoi_any _ _ (Hz.out _) (Ht.out.below Hb.out)).mono ?_; rintro e w2 ⟨⟨n, err, rfl, hres⟩, b2⟩
    have Hg2 := Lib.hid (blk_under Hg.out b2)
    have Hq2 := Lib.hid (blk_under Hq.out b2)
    have Hb2 := Lib.hid (Hb.out.trans (b2.mono Hb.out.size))
    have H12 := Lib.hid (H1.out.trans (b2.mono H1.out.size))
    clear D
    rcases hres with ⟨rfl, hok⟩ | ⟨⟨t, p, rfl⟩, hno⟩
    ·have St := Lib.hid (ap_step hlt Hnl.out Hg2.out Hp.out hok Hq2.out Hb2.out hlt1)
     have St1 := Lib.hid (H12.out.setCell (p := ⟨w1.heap.size, k, none⟩) (Nat.le_refl _) (.int .i64 n))
     have D := ns_cell Hg2.out (j := k) (by rw [Hnl.out]; exact hlt)
     have hf := ct_blk_frozen Hg2.out
     have i4 : (k : Int) < 4 := by omega
     clear hok b2
     go_wp2_with fail
     go_roundw
     case rel => exact ⟨k + 1, by omega, by go_num, St.out, St1.out⟩
     case measure => simp [intOf]; omega
    ·have P := Lib.hid (P1.out _ hlt hno)
     obtain ⟨d0, d1, d2, d3, d4, d5⟩ := call_cells Hq2.out
     have hf := ct_blk_frozen Hq2.out
     have Q := Lib.hid (rc_end CallV.zero Hq2.out Hb2.out)
     clear hno b2
     go_wp2_with fail
     obtain ⟨⟨E0, E1, E2, E3, E4, E5⟩, Fin⟩ := Q.out
     simp only [CallV.zero] at E0 E1 E2 E3 E4 E5 Fin
     exact bodyPost_ret (v := .tuple #[.agg #[.int .i64 0, .int .i64 0, .int .i64 0, .int .i64 0, .int .i64 0, .string ⟨#[]⟩], .bool false]) (by simp [results, Tryz.results35, go_sem, E0, E1, E2, E3, E4, E5]) rfl ⟨⟨CallV.zero, false, rfl, .inr ⟨rfl, rfl, P.out⟩⟩, Fin⟩
   ·obtain rfl : k = 4 := by omega
    have D : ∀ j, j < 6 → ∀ wx, Below wr.heap.size wr wx → wx.cell? ⟨b, off + j, none⟩ = some (.string (nthS (cutB 32 s) j)) := fun j hj wx hx => (hx.cell (p := ⟨b, off + j, none⟩) (Nat.lt_of_lt_of_le hbl hbe1.size)).trans ((hbe1.cell (p := ⟨b, off + j, none⟩) hbl).trans (Hc.out j hj))
    have A : ∀ j, j < 4 → ∀ wx, Below wr.heap.size wr wx → wx.cell? ⟨w1.heap.size, j, none⟩ = some (.int .i64 (nth ns j)) := fun j hj wx hx => ns_cell (blk_under Hg.out hx) (by rw [hnl]; exact hj)
    have RO := Lib.hid (read_impl (hp 0 (by decide)) (hp 1 (by decide)) (hp 2 (by decide)) (hp 3 (by decide)))
    have hs5 := Nat.le_trans (dropSl_size _) (Hz.out 5)
    have C0 := Lib.hid (show ∀ wx, Below wr.heap.size wr wx → wx.cell? ⟨b, off, none⟩ = some (.string (nthS (cutB 32 s) 0)) from D 0 (by decide))
    have C5 := Lib.hid (D 5 (by decide))
    have A0 := Lib.hid (A 0 (by decide))
    have A1 := Lib.hid (A 1 (by decide))
    have A2 := Lib.hid (A 2 (by decide))
    have A3 := Lib.hid (A 3 (by decide))
    have HS5 := Lib.hid hs5
    have HN4 := Lib.hid Hq.out
    have HB4 := Lib.hid Hb.out
    have HT4 := Ht
    clear D A hg hp hq hbel hbe1 hnl hs5 Hp Hg Hq Hb H1 Hnl P1
    generalize nthS (cutB 32 s) 0 = s0 at C0 RO
    generalize nthS (cutB 32 s) 5 = s5 at C5 RO HS5
    generalize w1.heap.size = g at A0 A1 A2 A3 hlt1 ⊢
    go_wp2_with fail
    refine wp_region_grow 20 Tryz.mixed (by kernel_rfl) 65 rfl (by kernel_rfl) (cpR b off cap g wr.heap.size s0 s5 ns) (cpR_mono b off cap g wr.heap.size s0 s5 ns) ?_ ?_
    ·intro i hi o ho a wx Hb Hd hG K HK
     match i, hi with
     | 0, _ =>
      obtain rfl := Option.some.inj ho
      clear Hd Hb
      refine Does.of rfl ?_
      go_simp
      refine (callWords_any _).mono ?_; rintro e' w1 ⟨rfl, hw1⟩
      exact HK.out _ _ ⟨_, rfl, hw1 ▸ heap_alloc_new _ _⟩ (hw1 ▸ below1 _ _)
     | 1, _ =>
      obtain rfl := Option.some.inj ho
      have e4 : a.tmps[4]?.getD undef = .slice (some ⟨b, off, none⟩) 6 cap := by rw [Hb.out.2.2 4 (by decide)]; rfl
      clear Hd Hb
      refine Does.of rfl ?_
      go_simp
      exact HK.out _ _ rfl (Below.refl _ _)
     | 2, _ =>
      obtain rfl := Option.some.inj ho
      have d1 := Hd.out 1 (by kernel_rfl)
      change a.tmps[36]?.getD undef = .slice (some ⟨b, off, none⟩) 6 cap at d1
      clear Hd Hb
      refine Does.of rfl ?_
      go_simp
      exact HK.out _ _ rfl (Below.refl _ _)
     | 3, _ =>
      obtain rfl := Option.some.inj ho
      have d2 := Hd.out 2 (by kernel_rfl)
      change a.tmps[37]?.getD undef = .pointer (some ⟨b, off, none⟩) at d2
      clear Hd Hb
      have c0 := C0.out wx hG
      refine Does.of rfl ?_
      go_simp
      exact HK.out _ _ rfl (Below.refl _ _)
     | 4, _ =>
      obtain rfl := Option.some.inj ho
      have d0 := Hd.out 0 (by kernel_rfl)
      change ∃ q : Nat, a.tmps[35]?.getD undef = .slice (some ⟨q, 0, none⟩) 11 11 ∧ wx.heap[q]? = some (.cells kindArr 9 (0, 0)) at d0
      obtain ⟨q, d0, hq⟩ := d0
      have d3 := Hd.out 3 (by kernel_rfl)
      change a.tmps[38]?.getD undef = .string s0 at d3
      clear Hd Hb
      refine Does.of rfl ?_
      go_simp
      refine (Index_kinds q s0 _ hq).mono ?_; rintro e' w1 ⟨rfl, hw1⟩
      exact HK.out _ _ rfl (hw1 ▸ Below.refl _ _)
     | 5, _ =>
      obtain rfl := Option.some.inj ho
      have d4 := Hd.out 4 (by kernel_rfl)
      change a.tmps[39]?.getD undef = .int .i64 (Lib.idxOfS kindLs s0) at d4
      clear Hd Hb
      have s9 : IntKind.i64.wrap (1 + Lib.idxOfS kindLs s0) = 1 + Lib.idxOfS kindLs s0 := IntWalk.i64_in _ (by have := idx_kinds s0; omega)
      refine Does.of rfl ?_
      go_simp
      exact HK.out _ _ rfl (Below.refl _ _)
     | 6, _ =>
      obtain rfl := Option.some.inj ho
      have e5 : a.tmps[5]?.getD undef = .pointer (some ⟨g, 0, none⟩) := by rw [Hb.out.2.2 5 (by decide)]; rfl
      clear Hd Hb
      refine Does.of rfl ?_
      go_simp
      exact HK.out _ _ rfl (Below.refl _ _)
     | 7, _ =>
      obtain rfl := Option.some.inj ho
      have d6 := Hd.out 6 (by kernel_rfl)
      change a.tmps[41]?.getD undef = .pointer (some ⟨g, 0, none⟩) at d6
      clear Hd Hb
      have c0 := A0.out wx hG
      refine Does.of rfl ?_
      go_simp
      exact HK.out _ _ rfl (Below.refl _ _)
     | 8, _ =>
      obtain rfl := Option.some.inj ho
      have e5 : a.tmps[5]?.getD undef = .pointer (some ⟨g, 0, none⟩) := by rw [Hb.out.2.2 5 (by decide)]; rfl
      clear Hd Hb
      refine Does.of rfl ?_
      go_simp
      exact HK.out _ _ rfl (Below.refl _ _)
     | 9, _ =>
      obtain rfl := Option.some.inj ho
      have d8 := Hd.out 8 (by kernel_rfl)
      change a.tmps[43]?.getD undef = .pointer (some ⟨g, 1, none⟩) at d8
      clear Hd Hb
      have c0 := A1.out wx hG
      refine Does.of rfl ?_
      go_simp
      exact HK.out _ _ rfl (Below.refl _ _)
     | 10, _ =>
      obtain rfl := Option.some.inj ho
      have e5 : a.tmps[5]?.getD undef = .pointer (some ⟨g, 0, none⟩) := by rw [Hb.out.2.2 5 (by decide)]; rfl
      clear Hd Hb
      refine Does.of rfl ?_
      go_simp
      exact HK.out _ _ rfl (Below.refl _ _)
     | 11, _ =>
      obtain rfl := Option.some.inj ho
      have d10 := Hd.out 10 (by kernel_rfl)
      change a.tmps[45]?.getD undef = .pointer (some ⟨g, 2, none⟩) at d10
      clear Hd Hb
      have c0 := A2.out wx hG
      refine Does.of rfl ?_
      go_simp
      exact HK.out _ _ rfl (Below.refl _ _)
     | 12, _ =>
      obtain rfl := Option.some.inj ho
      have e5 : a.tmps[5]?.getD undef = .pointer (some ⟨g, 0, none⟩) := by rw [Hb.out.2.2 5 (by decide)]; rfl
      clear Hd Hb
      refine Does.of rfl ?_
      go_simp
      exact HK.out _ _ rfl (Below.refl _ _)
     | 13, _ =>
      obtain rfl := Option.some.inj ho
      have d12 := Hd.out 12 (by kernel_rfl)
      change a.tmps[47]?.getD undef = .pointer (some ⟨g, 3, none⟩) at d12
      clear Hd Hb
      have c0 := A3.out wx hG
      refine Does.of rfl ?_
      go_simp
      exact HK.out _ _ rfl (Below.refl _ _)
     | 14, _ =>
      obtain rfl := Option.some.inj ho
      have e4 : a.tmps[4]?.getD undef = .slice (some ⟨b, off, none⟩) 6 cap := by rw [Hb.out.2.2 4 (by decide)]; rfl
      clear Hd Hb
      refine Does.of rfl ?_
      go_simp
      exact HK.out _ _ rfl (Below.refl _ _)
     | 15, _ =>
      obtain rfl := Option.some.inj ho
      have d14 := Hd.out 14 (by kernel_rfl)
      change a.tmps[49]?.getD undef = .slice (some ⟨b, off, none⟩) 6 cap at d14
      clear Hd Hb
      refine Does.of rfl ?_
      go_simp
      exact HK.out _ _ rfl (Below.refl _ _)
     | 16, _ =>
      obtain rfl := Option.some.inj ho
      have d15 := Hd.out 15 (by kernel_rfl)
      change a.tmps[50]?.getD undef = .pointer (some ⟨b, off + 5, none⟩) at d15
      clear Hd Hb
      have c0 := C5.out wx hG
      refine Does.of rfl ?_
      go_simp
      exact HK.out _ _ rfl (Below.refl _ _)
     | 17, _ =>
      obtain rfl := Option.some.inj ho
      have d16 := Hd.out 16 (by kernel_rfl)
      change a.tmps[51]?.getD undef = .string s5 at d16
      clear Hd Hb
      refine Does.of rfl ?_
      go_simp
      refine (TrimPrefix_any s5 _).mono ?_; rintro e' w1 ⟨rfl, hw1⟩
      exact HK.out _ _ rfl (hw1 ▸ Below.refl _ _)
     | 18, _ =>
      obtain rfl := Option.some.inj ho
      have d5 := Hd.out 5 (by kernel_rfl)
      change a.tmps[40]?.getD undef = .int .i64 (1 + Lib.idxOfS kindLs s0) at d5
      have d7 := Hd.out 7 (by kernel_rfl)
      change a.tmps[42]?.getD undef = .int .i64 (nth ns 0) at d7
      have d9 := Hd.out 9 (by kernel_rfl)
      change a.tmps[44]?.getD undef = .int .i64 (nth ns 1) at d9
      have d11 := Hd.out 11 (by kernel_rfl)
      change a.tmps[46]?.getD undef = .int .i64 (nth ns 2) at d11
      have d13 := Hd.out 13 (by kernel_rfl)
      change a.tmps[48]?.getD undef = .int .i64 (nth ns 3) at d13
      have d17 := Hd.out 17 (by kernel_rfl)
      change a.tmps[52]?.getD undef = .string (dropSl s5) at d17
      clear Hd Hb
      refine Does.of rfl ?_
      go_simp
      exact HK.out _ _ rfl (Below.refl _ _)
     | 19, _ =>
      obtain rfl := Option.some.inj ho
      clear Hd Hb
      refine Does.of rfl ?_
      go_simp
      exact HK.out _ _ ⟨_, rfl, hG.size, heap_alloc_new _ _⟩ (below1 _ _)
     | _ + 20, hq => exact absurd hq (by omega)
    ·intro vs wx hR hG
     have q18 := hR 18 (by decide)
     change vs 18 = .agg #[.int .i64 (1 + Lib.idxOfS kindLs s0), .int .i64 (nth ns 0), .int .i64 (nth ns 1), .int .i64 (nth ns 2), .int .i64 (nth ns 3), .string (dropSl s5)] at q18
     have q19 := hR 19 (by decide)
     change ∃ q : Nat, vs 19 = .pointer (some ⟨q, 0, none⟩) ∧ wr.heap.size ≤ q ∧ wx.heap[q]? = some (.cells CallV.zero.cells 60 (0, 0)) at q19
     obtain ⟨q9, q19, hq9, hqb⟩ := q19
     clear hR
     simp only [fillAt, dstOf, List.range, List.range.loop, List.foldl_cons, List.foldl_nil, q18]
     simp
     generalize vs 0 = z0
     generalize vs 1 = z1
     generalize vs 2 = z2
     generalize vs 3 = z3
     generalize vs 4 = z4
     generalize vs 5 = z5
     generalize vs 6 = z6
     generalize vs 7 = z7
     generalize vs 8 = z8
     generalize vs 9 = z9
     generalize vs 10 = z10
     generalize vs 11 = z11
     generalize vs 12 = z12
     generalize vs 13 = z13
     generalize vs 14 = z14
     generalize vs 15 = z15
     generalize vs 16 = z16
     generalize vs 17 = z17
     generalize vs 19 = z19 at q19 ⊢
     subst q19
     clear q18
     generalize hK : 1 + Lib.idxOfS kindLs s0 = K at RO ⊢
     generalize hn0 : nth ns 0 = n0 at RO ⊢
     generalize hn1 : nth ns 1 = n1 at RO ⊢
     generalize hn2 : nth ns 2 = n2 at RO ⊢
     generalize hn3 : nth ns 3 = n3 at RO ⊢
     generalize dropSl s5 = nm at RO HS5 ⊢
     clear hK hn0 hn1 hn2 hn3
     have hx' : nm.size ≤ maxLen := Nat.le_trans HS5.out (by decide)
     have HB5 := Lib.hid (HB4.out.trans (hG.mono HB4.out.size))
     have HN5 := Lib.hid (blk_under HN4.out hG)
     have hq := Nat.lt_of_lt_of_le (ct_blk_lt HN4.out) hq9
     clear HB4 HN4 C0 C5 A0 A1 A2 A3 hG hq9
     have F := Lib.hid (fun w => CallFits_impl ⟨K, n0, n1, n2, n3, nm⟩ w hx')
     have hN3 := set6 (x := ⟨K, n0, n1, n2, n3, nm⟩) hqb
     have h6 := set6_far (x := ⟨K, n0, n1, n2, n3, nm⟩) HB5.out HN5.out hq
     dsimp only at hN3 h6
     obtain ⟨z0, z1, z2, z3, z4, z5⟩ := call_cells hqb
     obtain ⟨y0, y1, y2, y3, y4, y5⟩ := call_cells hN3
     dsimp only at y0 y1 y2 y3 y4 y5
     have hfz := ct_blk_frozen hqb
     have hqlt := Lib.hid (ct_blk_lt hN3)
     have hN3 := Lib.hid hN3
     have HB6 := Lib.hid h6.1
     have HN6 := Lib.hid h6.2
     clear h6 hqb HB5 HN5
     cases hf : fitsC ⟨K, n0, n1, n2, n3, nm⟩
     ·have P := Lib.hid (P2.out _ RO.out (fun h => by rw [hf] at h; cases h))
      rw [hf] at F
      clear hf
      simp only [CallV.val, CallV.cells] at F
      go_wp2_with fail
      refine (F.out _).mono ?_; rintro e' w3 ⟨rfl, b3⟩
      clear y0 y1 y2 y3 y4 y5 z0 z1 z2 z3 z4 z5 hfz
      have HN7 := blk_under HN6.out b3
      have HB7 := HB6.out.trans (b3.mono HB6.out.size)
      obtain ⟨d0, d1, d2, d3, d4, d5⟩ := call_cells HN7
      have hf := ct_blk_frozen HN7
      have Q := Lib.hid (rc_end CallV.zero HN7 HB7)
      clear HN7 HB7 b3
      go_wp2_with fail
      obtain ⟨⟨E0, E1, E2, E3, E4, E5⟩, Fin⟩ := Q.out
      simp only [CallV.zero] at E0 E1 E2 E3 E4 E5 Fin
      exact bodyPost_ret (v := .tuple #[.agg #[.int .i64 0, .int .i64 0, .int .i64 0, .int .i64 0, .int .i64 0, .string ⟨#[]⟩], .bool false]) (by simp [results, Tryz.results35, go_sem, E0, E1, E2, E3, E4, E5]) rfl ⟨⟨CallV.zero, false, rfl, .inr ⟨rfl, rfl, P.out⟩⟩, Fin⟩
     ·have T := Lib.hid (fun w h => callText_fit ⟨K, n0, n1, n2, n3, nm⟩ w hf h)
      rw [hf] at F
      by_cases hc : callB ⟨K, n0, n1, n2, n3, nm⟩ = s
      ·have P := Lib.hid (show Parsed s ⟨K, n0, n1, n2, n3, nm⟩ true from .inl ⟨rfl, hf, hc⟩)
       have tq : ((callB ⟨K, n0, n1, n2, n3, nm⟩).toList == s.toList) = true := by simp [hc]
       clear hf hc RO
       have Q1 := Lib.hid (fun (w W : World) (hR : W.heap[w.heap.size]? = some (.cells CallV.zero.cells 60 (0, 0))) (hb : Below w.heap.size w W) => rc_end ⟨K, n0, n1, n2, n3, nm⟩ hR hb)
       generalize callB ⟨K, n0, n1, n2, n3, nm⟩ = cb at T tq
       simp only [CallV.val, CallV.cells] at F T
       go_wp2_with fail
       refine (F.out _).mono ?_; rintro e' w3 ⟨rfl, b3⟩
       clear y0 y1 y2 y3 y4 y5 z0 z1 z2 z3 z4 z5 hfz
       have hN4 := (b3.block q9 hqlt.out).trans hN3.out
       have HN7 := Lib.hid (blk_under HN6.out b3)
       have HB7 := Lib.hid (HB6.out.trans (b3.mono HB6.out.size))
       obtain ⟨d0, d1, d2, d3, d4, d5⟩ := call_cells (x := ⟨K, n0, n1, n2, n3, nm⟩) hN4
       have HN4 := Lib.hid hN4
       clear hN4 b3
       go_wp2_with fail
       refine (T.out _ (HT4.out.below HB7.out).1).mono ?_; rintro e' w4 ⟨rfl, b4⟩
       have hN5 := blk_under HN4.out b4
       have HN8 := blk_under HN7.out b4
       have HB8 := HB7.out.trans (b4.mono HB7.out.size)
       clear d0 d1 d2 d3 d4 d5
       obtain ⟨d0, d1, d2, d3, d4, d5⟩ := call_cells (x := ⟨K, n0, n1, n2, n3, nm⟩) hN5
       obtain ⟨r0, r1, r2, r3, r4, r5⟩ := call_cells HN8
       have hf := ct_blk_frozen HN8
       have Q := Lib.hid (Q1.out _ _ HN8 HB8)
       clear HN8 HB8 hN5 b4
       go_wp2_with fail
       obtain ⟨⟨E0, E1, E2, E3, E4, E5⟩, Fin⟩ := Q.out
       dsimp only at E0 E1 E2 E3 E4 E5 Fin
       exact bodyPost_ret (v := .tuple #[.agg #[_, _, _, _, _, _], .bool true]) (by simp [results, Tryz.results35, go_sem, E0, E1, E2, E3, E4, E5]) rfl ⟨⟨⟨K, n0, n1, n2, n3, nm⟩, true, rfl, P.out⟩, Fin⟩
      ·have P := Lib.hid (P2.out _ RO.out (fun _ => hc))
       have tq : ((callB ⟨K, n0, n1, n2, n3, nm⟩).toList == s.toList) = false := by
        rw [beq_eq_false_iff_ne]
        intro e
        apply hc
        rw [Lib.toList_data, Lib.toList_data] at e
        rw [← ofL_of (callB _), e, ofL_of]
       clear hf hc RO
       generalize callB ⟨K, n0, n1, n2, n3, nm⟩ = cb at T tq
       simp only [CallV.val, CallV.cells] at F T
       go_wp2_with fail
       refine (F.out _).mono ?_; rintro e' w3 ⟨rfl, b3⟩
       clear y0 y1 y2 y3 y4 y5 z0 z1 z2 z3 z4 z5 hfz
       have hN4 := (b3.block q9 hqlt.out).trans hN3.out
       have HN7 := Lib.hid (blk_under HN6.out b3)
       have HB7 := Lib.hid (HB6.out.trans (b3.mono HB6.out.size))
       obtain ⟨d0, d1, d2, d3, d4, d5⟩ := call_cells (x := ⟨K, n0, n1, n2, n3, nm⟩) hN4
       clear hN4 b3
       go_wp2_with fail
       refine (T.out _ (HT4.out.below HB7.out).1).mono ?_; rintro e' w4 ⟨rfl, b4⟩
       have HN8 := blk_under HN7.out b4
       have HB8 := HB7.out.trans (b4.mono HB7.out.size)
       clear d0 d1 d2 d3 d4 d5
       obtain ⟨r0, r1, r2, r3, r4, r5⟩ := call_cells HN8
       have hf := ct_blk_frozen HN8
       have Q := Lib.hid (rc_end CallV.zero HN8 HB8)
       clear HN8 HB8 b4
       go_wp2_with fail
       obtain ⟨⟨E0, E1, E2, E3, E4, E5⟩, Fin⟩ := Q.out
       simp only [CallV.zero] at E0 E1 E2 E3 E4 E5 Fin
       exact bodyPost_ret (v := .tuple #[.agg #[.int .i64 0, .int .i64 0, .int .i64 0, .int .i64 0, .int .i64 0, .string ⟨#[]⟩], .bool false]) (by simp [results, Tryz.results35, go_sem, E0, E1, E2, E3, E4, E5]) rfl ⟨⟨CallV.zero, false, rfl, .inr ⟨rfl, rfl, P.out⟩⟩, Fin⟩
 ·have t : (((cutB 32 s).length : Int) != 6) = true := by simp; omega
  have P := Lib.hid (parsed_len hl)
  have Q := Lib.hid (rc_end CallV.zero hN1 hB1)
  obtain ⟨d0, d1, d2, d3, d4, d5⟩ := call_cells hN1
  have hf := ct_blk_frozen hN1
  obtain ⟨a, cap, rfl, hnc, hcm, _⟩ := hR.open
  clear hl hR ho hN1 hB1 b1
  go_wp2_with fail
  obtain ⟨⟨E0, E1, E2, E3, E4, E5⟩, Fin⟩ := Q.out
  simp only [CallV.zero] at E0 E1 E2 E3 E4 E5 Fin
  exact bodyPost_ret (v := .tuple #[.agg #[.int .i64 0, .int .i64 0, .int .i64 0, .int .i64 0, .int .i64 0, .string ⟨#[]⟩], .bool false]) (by simp [results, Tryz.results35, go_sem, E0, E1, E2, E3, E4, E5]) rfl ⟨⟨CallV.zero, false, rfl, .inr ⟨rfl, rfl, P.out⟩⟩, Fin⟩
end Go.Proofs.YtjacdlekgdnndaaGreatDoor
