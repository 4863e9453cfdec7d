/-
  Packed: 5 texts.
-/
import Derived.Test.YtjacdlekgdnndaaGreatDoorY6
import Derived.Test.YtjacdlekgdnndaaGreatDoorY4
set_option linter.unusedVariables false
namespace Go.Proofs.YtjacdlekgdnndaaGreatDoor
open Go.RowKit
def Ends2 (lo g : Nat) (w : World) (res : Res) (r : Ending) (w' : World) : Prop := r = .returned (.tuple #[.int .i64 res.2.1, .int .i64 res.2.2]) ∧ (res.2.2 = 0 → ∃ m i e c, InK lo w' g m i e c res.1) ∧ Below lo w w'
def Ends1 (lo g : Nat) (w : World) (res : Res) (r : Ending) (w' : World) : Prop := r = .returned (.int .i64 res.2.2) ∧ (res.2.2 = 0 → ∃ m i e c, InK lo w' g m i e c res.1) ∧ Below lo w w'
theorem Ends2.bad {lo g : Nat} {w w' : World} {k : KernV} {n : Int} {res : Res} (h : res = (k, 0, n)) (hn : n ≠ 0) (hb : Below lo w w') : Ends2 lo g w res (.returned (.tuple #[.int .i64 0, .int .i64 n])) w' := by subst h; exact ⟨rfl, fun h => absurd h hn, hb⟩
theorem Ends1.bad {lo g : Nat} {w w' : World} {k : KernV} {n : Int} {res : Res} (h : res = (k, 0, n)) (hn : n ≠ 0) (hb : Below lo w w') : Ends1 lo g w res (.returned (.int .i64 n)) w' := by subst h; exact ⟨rfl, fun h => absurd h hn, hb⟩
theorem kok_parts {k : KernV} (h : KOk k) : memOk k.mem = true ∧ infosOk k.infos = true ∧ cacheOk k.cache = true := by
 have := kernOk_iff.2 h
 unfold kernOk at this
 simp only [Bool.and_eq_true] at this
 exact ⟨this.1.1.1.1.1.1, this.1.1.1.1.1.2, this.1.1.1.1.2⟩
theorem run_clear4 {lo g cap : Nat} {w : World} {r : List Int} (h : OwnInts lo w (.slice (some ⟨g, 0, none⟩) 4 cap) r) (hl : r.length = 4) :
 ∃ w', (∀ ty, (Builtin.clear_ #[38] ty #[.slice (some ⟨g, 0, none⟩) 4 cap]).run Tryz.prog w = .ok (.tuple #[]) w') ∧ OwnInts lo w' (.slice (some ⟨g, 0, none⟩) 4 cap) [0, 0, 0, 0] ∧ w.grownBy w' (some g) := by
 have h4 : w.ownsRow lo 3 1 (.slice (some ⟨g, 0, none⟩) 4 cap) 4 (r.map (Value.int .i64)) := by have := h; unfold OwnInts at this; rwa [hl] at this
 have ez : (Builtin.zeroCells (Value.int .i64 0).cells 4).toList = [.int .i64 0, .int .i64 0, .int .i64 0, .int .i64 0] := by kernel_rfl
 have hst := run_storeCells_cells (P := Tryz.prog) g 0 (Builtin.zeroCells (Value.int .i64 0).cells 4).toList 0 w (by
  intro j hj
  have hj4 : j < 4 := by rw [ez] at hj; exact hj
  have := World.ownsRow.cellAt h4 j (by omega)
  simp only [Nat.zero_add] at this ⊢
  rw [this]
  simp; omega) (by intro j _; exact World.ownsRow.frozenAt h4 _) (by
  intro u hu
  rw [ez] at hu
  have : u = .int .i64 0 := by simpa using hu
  subst this
  rfl)
 simp only [Nat.add_zero] at hst
 have e0 := setCells_many g 0 (Builtin.zeroCells (Value.int .i64 0).cells 4).toList 0 w
 rw [Nat.add_zero] at e0
 refine ⟨w.setCells g 0 (Builtin.zeroCells (Value.int .i64 0).cells 4).toList, fun ty => ?_, ?_, ?_⟩
 ·simp [Builtin.clear_, run_underlying Tryz.underlying38, hst]
 ·rw [e0]
  obtain ⟨a1, _⟩ := setMany_own h4 0 0 (Builtin.zeroCells (Value.int .i64 0).cells 4).toList
  have e : setList (r.map (Value.int .i64)) 0 0 (Builtin.zeroCells (Value.int .i64 0).cells 4).toList = [0, 0, 0, 0].map (Value.int .i64) := by
   rw [ez]
   match r, hl with
   | [a, b, c, d], _ => rfl
  rw [e] at a1
  exact a1
 ·rw [e0]
  exact (setMany_own h4 0 0 (Builtin.zeroCells (Value.int .i64 0).cells 4).toList).2
theorem InK.memRow {lo g : Nat} {w : World} {m i e c : Value} {k : KernV} (h : InK lo w g m i e c k) (hok : memOk k.mem = true) {f : Nat} (hf : f < 12) :
 ∃ gm capm gw capw vs, m = .slice (some ⟨gm, 0, none⟩) 12 capm ∧ gm < w.heap.size ∧ gm ≠ g ∧ w.cell? ⟨gm, f, none⟩ = some (.slice (some ⟨gw, 0, none⟩) 4 capw) ∧ gw < w.heap.size ∧ lo ≤ gw ∧ gw ≠ g ∧ gw ≠ gm ∧ OwnRows lo w m vs k.mem ∧ vs[f]? = some (.slice (some ⟨gw, 0, none⟩) 4 capw) ∧ OwnInts lo w (.slice (some ⟨gw, 0, none⟩) 4 capw) (rowAt k.mem f) := by
 obtain ⟨vs, o⟩ := h.2.2.1
 obtain ⟨hml, hr⟩ := memOk_iff.1 hok
 have h4 := (rowOk_iff.1 (hr f hf)).1
 have hvl : vs.length = 12 := by rw [o.2.1.1, hml]
 obtain ⟨gm, capm, rfl, _, _, _, hgm, _⟩ := o.1.shapeOwn (by omega)
 obtain ⟨gw, capw, hu, hx, hlo, hlt⟩ := o.row (f := f) (by omega) (by omega)
 rw [h4] at hu hx
 have D := OwnF.cellsAt oneCs_len o.1 hu 0 _ rfl
 rw [Nat.mul_one, Nat.add_zero] at D
 have n1 : gm ≠ g := fun e => own_row_ne o.1 h.1 (by decide) (by rw [e]; rfl)
 have n2 : gw ≠ g := fun e => own_row_ne hx h.1 (by decide) (by rw [e]; rfl)
 have n3 : gw ≠ gm := fun e => by
  have := apart_type hx o.1 (Ne.symm tyRowInt) gw rfl
  apply this
  rw [e]; rfl
 rw [hvl] at *
 exact ⟨gm, capm, gw, capw, vs, rfl, hgm, n1, D, hlt, hlo, n2, n3, o, hu, hx⟩
set_option maxRecDepth 100000 in
set_option maxHeartbeats 4000000 in
theorem takeC_any {lo g : Nat} {w : World} {m i e c : Value} {k : KernV} (h : InK lo w g m i e c k) (hlo : lo ≤ w.heap.size) (hK : KOk k) (call : CallV) (he : 0 ≤ call.e) (hn : call.e < 3) (hnm : call.nm.size ≤ maxLen) :
 Calls Tryz.prog 174 #[call.on g] w (Ends2 lo g w (takeP k call)) := by
 have N := heap_alloc_new w (.cells (call.onCells g) 150)
 have hb0 := below1 w (.cells (call.onCells g) 150)
 obtain ⟨hm, hi, hc⟩ := kok_parts hK
 have C1 := Lib.hid (fun W (_ : Below w.heap.size w W) => RightValid_impl call.nm W hnm)
 have C2 := Lib.hid (fun W (hW : Below w.heap.size w W) => may_c (h.below hW) call call.nm he (by rw [hK.envl]; exact hn))
 have P : takeP k call = if rightOk call.nm = false then (k, 0, 3) else if mayE k call.e call.nm = false then (k, 0, 1) else if freeP k.infos < 0 then (k, 0, 4) else ({ k with infos := k.infos.set (freeP k.infos).toNat ⟨1, call.nm, 0⟩, mem := k.mem.set (freeP k.infos).toNat [0, 0, 0, 0] }, freeP k.infos, 0) := rfl
 obtain ⟨k1, e1, a1, b1, c1, nm⟩ := call
 simp only [CallV.on, CallV.onCells] at N hb0 C1 C2 P hnm ⊢
 obtain ⟨y0, y1, y2, y3, y4, y5, y6⟩ := on_cells (c := ⟨k1, e1, a1, b1, c1, nm⟩) N
 have hl := blk_lt N
 have HN := Lib.hid N
 have HP := Lib.hid P
 have Hm := Lib.hid hm
 have Hi := Lib.hid hi
 have HK := Lib.hid hK
 have HI := Lib.hid h
 clear P hm hi hc hK h N y0 y1 y2 y3 y4 y5
 go_enter Tryz.func174, Tryz.ntmps174
 go_wp2_with fail
 generalize hW0 : w.alloc _ = W0 at *
 clear hW0
 cases e5 : rightOk nm
 ·have T := Lib.hid e5
  have E := Lib.hid (show takeP k ⟨k1, e1, a1, b1, c1, nm⟩ = (k, 0, 3) by rw [HP.out, e5]; rfl)
  clear e5 y6
  refine (C1.out _ hb0).mono ?_; rintro r w1 ⟨rfl, hb1⟩; rw [T.out]
  have hbw := hb0.trans (hb1.mono hb0.size)
  go_wp2_with fail
  go_ret2
  exact Ends2.bad E.out (by decide) (hbw.mono hlo)
 ·have T := Lib.hid e5
  have HP2 := Lib.hid (show takeP k ⟨k1, e1, a1, b1, c1, nm⟩ = _ by rw [HP.out, e5, if_neg (by decide)])
  clear e5 y6
  refine (C1.out _ hb0).mono ?_; rintro r w1 ⟨rfl, hbW⟩; rw [T.out]
  have hbw := hb0.trans (hbW.mono hb0.size)
  obtain ⟨y0, y1, y2, y3, y4, y5, y6⟩ := on_cells (c := ⟨k1, e1, a1, b1, c1, nm⟩) (blk_below HN.out hbW)
  go_wp2_with fail
  clear y0 y1 y2 y3 y4 y5 y6
  cases e6 : mayE k e1 nm
  ·have T6 := Lib.hid e6
   have E := Lib.hid (show takeP k ⟨k1, e1, a1, b1, c1, nm⟩ = (k, 0, 1) by rw [HP2.out, e6]; rfl)
   clear e6
   refine (C2.out _ hbw).mono ?_; rintro r w2 ⟨rfl, hb2⟩; rw [T6.out]
   replace hbw := hbw.trans (hb2.mono hbw.size)
   go_wp2_with fail
   go_ret2
   exact Ends2.bad E.out (by decide) (hbw.mono hlo)
  ·have T6 := Lib.hid e6
   have HP3 := Lib.hid (show takeP k ⟨k1, e1, a1, b1, c1, nm⟩ = _ by rw [HP2.out, e6, if_neg (by decide)])
   clear e6
   refine (C2.out _ hbw).mono ?_; rintro r W2 ⟨rfl, hb2⟩; rw [T6.out]
   replace hbW := hbW.trans (hb2.mono hbW.size)
   replace hbw := hbw.trans (hb2.mono hbw.size)
   have h2 := HI.out.below hbw
   have hI2 := Lib.hid h2
   have hlo2 := Nat.le_trans hlo hbw.size
   obtain ⟨y0, y1, y2, y3, y4, y5, y6⟩ := on_cells (c := ⟨k1, e1, a1, b1, c1, nm⟩) (blk_below HN.out hbW)
   have hl2 := Nat.lt_of_lt_of_le hl hbW.size
   have hgl2 := blk_lt h2.1
   have hgb : g ≠ w.heap.size := Nat.ne_of_lt (blk_lt HI.out.1)
   obtain ⟨gi, capi, rfl, _, _, _, _, _, hfzi⟩ := h2.infoAt' (f := 0) (by have := (infosOk_iff.1 Hi.out).1; omega)
   have x1 := h2.cells.2.1
   have RI : RdInfos W2 (.slice (some ⟨gi, 0, none⟩) k.infos.length capi) k.infos := h2.2.2.2.1.rd
   clear h2 hb2 y1 y2 y3 y4 y5 hfzi
   go_wp2_with fail
   by_cases e7 : freeP k.infos < 0
   ·have E := Lib.hid (show takeP k ⟨k1, e1, a1, b1, c1, nm⟩ = (k, 0, 4) by rw [HP3.out, if_pos e7])
    have C3 := Lib.hid (fun W (hW : Below W2.heap.size W2 W) => InfosTake_none _ k.infos nm W (RdF.below RI hW) (small_infos Hi.out) hnm Hi.out T.out e7)
    clear e7 RI
    refine wp_region_grow 15 Tryz.mixed (by kernel_rfl) 49 rfl (by kernel_rfl) (fun ix vv ww => match ix with
     | 0 => vv = .pointer (some ⟨w.heap.size, 0, none⟩)
     | 1 => vv = .pointer (some ⟨g, 0, none⟩)
     | 2 => vv = .pointer (some ⟨g, 0, none⟩)
     | 3 => vv = .pointer (some ⟨g, 1, none⟩)
     | 4 => vv = .slice (some ⟨gi, 0, none⟩) k.infos.length capi
     | 5 => vv = .pointer (some ⟨w.heap.size, 1, none⟩)
     | 6 => vv = .pointer (some ⟨w.heap.size, 6, none⟩)
     | 7 => vv = .string nm
     | 8 => vv = .tuple #[.slice none 0 0, .int .i64 0, .bool false]
     | 9 => vv = .tuple #[.slice none 0 0, .int .i64 0, .bool false]
     | 10 => vv = .slice none 0 0
     | 11 => vv = .int .i64 0
     | 12 => vv = .bool false
     | 13 => vv = .slice none 0 0
     | 14 => vv = .int .i64 0
     | _ => True) ?_ ?_ ?_
    ·intro i hi vv wz ww' hbz hz
     match i, hi with
     | 0, _ => exact hz
     | 1, _ => exact hz
     | 2, _ => exact hz
     | 3, _ => exact hz
     | 4, _ => exact hz
     | 5, _ => exact hz
     | 6, _ => exact hz
     | 7, _ => exact hz
     | 8, _ => exact hz
     | 9, _ => exact hz
     | 10, _ => exact hz
     | 11, _ => exact hz
     | 12, _ => exact hz
     | 13, _ => exact hz
     | 14, _ => exact hz
     | _ + 15, hq => exact absurd hq (by omega)
    ·intro i hi o ho a wx Hb Hd hG K HK
     match i, hi with
     | 0, _ =>
      obtain rfl := Option.some.inj ho
      have e1 : a.tmps[1]?.getD undef = .pointer (some ⟨w.heap.size, 0, none⟩) := by rw [Hb.out.2.2 1 (by decide)]; rfl
      clear Hd Hb
      refine Does.of rfl ?_
      go_simp
      exact HK.out _ _ rfl (Below.refl _ _)
     | 1, _ =>
      obtain rfl := Option.some.inj ho
      have d0 := Hd.out 0 (by kernel_rfl)
      change (a.tmps[21]?.getD undef) = .pointer (some ⟨w.heap.size, 0, none⟩) at d0
      clear Hd Hb
      have m0 := (hG.cell (p := ⟨w.heap.size, 0, none⟩) hl2).trans y0
      refine Does.of rfl ?_
      go_simp
      exact HK.out _ _ rfl (Below.refl _ _)
     | 2, _ =>
      obtain rfl := Option.some.inj ho
      have d1 := Hd.out 1 (by kernel_rfl)
      change (a.tmps[22]?.getD undef) = .pointer (some ⟨g, 0, none⟩) at d1
      clear Hd Hb
      refine Does.of rfl ?_
      go_simp
      exact HK.out _ _ rfl (Below.refl _ _)
     | 3, _ =>
      obtain rfl := Option.some.inj ho
      have d2 := Hd.out 2 (by kernel_rfl)
      change (a.tmps[23]?.getD undef) = .pointer (some ⟨g, 0, none⟩) at d2
      clear Hd Hb
      refine Does.of rfl ?_
      go_simp
      exact HK.out _ _ rfl (Below.refl _ _)
     | 4, _ =>
      obtain rfl := Option.some.inj ho
      have d3 := Hd.out 3 (by kernel_rfl)
      change (a.tmps[24]?.getD undef) = .pointer (some ⟨g, 1, none⟩) at d3
      clear Hd Hb
      have m0 := (hG.cell (p := ⟨g, 1, none⟩) hgl2).trans x1
      refine Does.of rfl ?_
      go_simp
      exact HK.out _ _ rfl (Below.refl _ _)
     | 5, _ =>
      obtain rfl := Option.some.inj ho
      have e1 : a.tmps[1]?.getD undef = .pointer (some ⟨w.heap.size, 0, none⟩) := by rw [Hb.out.2.2 1 (by decide)]; rfl
      clear Hd Hb
      refine Does.of rfl ?_
      go_simp
      exact HK.out _ _ rfl (Below.refl _ _)
     | 6, _ =>
      obtain rfl := Option.some.inj ho
      have d5 := Hd.out 5 (by kernel_rfl)
      change (a.tmps[26]?.getD undef) = .pointer (some ⟨w.heap.size, 1, none⟩) at d5
      clear Hd Hb
      refine Does.of rfl ?_
      go_simp
      exact HK.out _ _ rfl (Below.refl _ _)
     | 7, _ =>
      obtain rfl := Option.some.inj ho
      have d6 := Hd.out 6 (by kernel_rfl)
      change (a.tmps[27]?.getD undef) = .pointer (some ⟨w.heap.size, 6, none⟩) at d6
      clear Hd Hb
      have m0 := (hG.cell (p := ⟨w.heap.size, 6, none⟩) hl2).trans y6
      refine Does.of rfl ?_
      go_simp
      exact HK.out _ _ rfl (Below.refl _ _)
     | 8, _ =>
      obtain rfl := Option.some.inj ho
      have d4 := Hd.out 4 (by kernel_rfl)
      change (a.tmps[25]?.getD undef) = .slice (some ⟨gi, 0, none⟩) k.infos.length capi at d4
      have d7 := Hd.out 7 (by kernel_rfl)
      change (a.tmps[28]?.getD undef) = .string nm at d7
      clear Hd Hb
      refine Does.of rfl ?_
      go_simp
      refine (C3.out _ hG).mono ?_; rintro e w_ ⟨rfl, hb2⟩
      exact HK.out _ _ rfl hb2
     | 9, _ =>
      obtain rfl := Option.some.inj ho
      have d8 := Hd.out 8 (by kernel_rfl)
      change (a.tmps[29]?.getD undef) = .tuple #[.slice none 0 0, .int .i64 0, .bool false] at d8
      clear Hd Hb
      refine Does.of rfl ?_
      go_simp
      exact HK.out _ _ rfl (Below.refl _ _)
     | 10, _ =>
      obtain rfl := Option.some.inj ho
      have d9 := Hd.out 9 (by kernel_rfl)
      change (a.tmps[20]?.getD undef) = .tuple #[.slice none 0 0, .int .i64 0, .bool false] at d9
      clear Hd Hb
      refine Does.of rfl ?_
      go_simp
      exact HK.out _ _ rfl (Below.refl _ _)
     | 11, _ =>
      obtain rfl := Option.some.inj ho
      have d9 := Hd.out 9 (by kernel_rfl)
      change (a.tmps[20]?.getD undef) = .tuple #[.slice none 0 0, .int .i64 0, .bool false] at d9
      clear Hd Hb
      refine Does.of rfl ?_
      go_simp
      exact HK.out _ _ rfl (Below.refl _ _)
     | 12, _ =>
      obtain rfl := Option.some.inj ho
      have d9 := Hd.out 9 (by kernel_rfl)
      change (a.tmps[20]?.getD undef) = .tuple #[.slice none 0 0, .int .i64 0, .bool false] at d9
      clear Hd Hb
      refine Does.of rfl ?_
      go_simp
      exact HK.out _ _ rfl (Below.refl _ _)
     | 13, _ =>
      obtain rfl := Option.some.inj ho
      have d10 := Hd.out 10 (by kernel_rfl)
      change (a.tmps[30]?.getD undef) = .slice none 0 0 at d10
      clear Hd Hb
      refine Does.of rfl ?_
      go_simp
      exact HK.out _ _ rfl (Below.refl _ _)
     | 14, _ =>
      obtain rfl := Option.some.inj ho
      have d11 := Hd.out 11 (by kernel_rfl)
      change (a.tmps[31]?.getD undef) = .int .i64 0 at d11
      clear Hd Hb
      refine Does.of rfl ?_
      go_simp
      exact HK.out _ _ rfl (Below.refl _ _)
     | _ + 15, hq => exact absurd hq (by omega)
    ·intro vs wx hR hG
     have q12 := hR 12 (by decide)
     change (vs 12) = .bool false at q12
     have q13 := hR 13 (by decide)
     change (vs 13) = .slice none 0 0 at q13
     have q14 := hR 14 (by decide)
     change (vs 14) = .int .i64 0 at q14
     clear hR
     simp only [fillAt, dstOf, List.range, List.range.loop, List.foldl_cons, List.foldl_nil, q12, q13, q14]
     simp
     try generalize vs 0 = z0
     try generalize vs 1 = z1
     try generalize vs 2 = z2
     try generalize vs 3 = z3
     try generalize vs 4 = z4
     try generalize vs 5 = z5
     try generalize vs 6 = z6
     try generalize vs 7 = z7
     try generalize vs 8 = z8
     try generalize vs 9 = z9
     try generalize vs 10 = z10
     try generalize vs 11 = z11
     clear q12 q13 q14
     replace hbw := hbw.trans (hG.mono hbw.size)
     clear hG y0 y6 x1
     go_wp2_with fail
     go_ret2
     exact Ends2.bad E.out (by decide) (hbw.mono hlo)
   ·obtain ⟨f1, f2, f3⟩ := freeP_some e7
    obtain ⟨f, hf⟩ : ∃ f : Nat, freeP k.infos = (f : Int) := ⟨(freeP k.infos).toNat, by omega⟩
    have E := Lib.hid (show takeP k ⟨k1, e1, a1, b1, c1, nm⟩ = ({ k with infos := k.infos.set f ⟨1, nm, 0⟩, mem := k.mem.set f [0, 0, 0, 0] }, (f : Int), 0) by rw [HP3.out, if_neg e7, hf]; rfl)
    have C30 := fun W (hW : Below W2.heap.size W2 W) => InfosTake_some _ k.infos nm W (RdF.below RI hW) (small_infos Hi.out) hnm Hi.out T.out f3
    unfold takenInfos at C30
    rw [hf] at C30 f1
    simp only [Int.toNat_natCast] at C30 f1
    have C3 := Lib.hid C30
    have hf12 : f < 12 := by have := (infosOk_iff.1 Hi.out).1; omega
    clear e7 RI C30 f2 f3 hf f1
    refine wp_region_grow 15 Tryz.mixed (by kernel_rfl) 49 rfl (by kernel_rfl) (fun ix vv ww => match ix with
     | 0 => vv = .pointer (some ⟨w.heap.size, 0, none⟩)
     | 1 => vv = .pointer (some ⟨g, 0, none⟩)
     | 2 => vv = .pointer (some ⟨g, 0, none⟩)
     | 3 => vv = .pointer (some ⟨g, 1, none⟩)
     | 4 => vv = .slice (some ⟨gi, 0, none⟩) k.infos.length capi
     | 5 => vv = .pointer (some ⟨w.heap.size, 1, none⟩)
     | 6 => vv = .pointer (some ⟨w.heap.size, 6, none⟩)
     | 7 => vv = .string nm
     | 8 => ∃ v', vv = .tuple #[v', .int .i64 (f : Int), .bool true] ∧ OwnF W2.heap.size 89 3 infoCs ww v' (k.infos.set f ⟨1, nm, 0⟩)
     | 9 => ∃ v', vv = .tuple #[v', .int .i64 (f : Int), .bool true] ∧ OwnF W2.heap.size 89 3 infoCs ww v' (k.infos.set f ⟨1, nm, 0⟩)
     | 10 => OwnF W2.heap.size 89 3 infoCs ww vv (k.infos.set f ⟨1, nm, 0⟩)
     | 11 => vv = .int .i64 ((f : Int))
     | 12 => vv = .bool true
     | 13 => OwnF W2.heap.size 89 3 infoCs ww vv (k.infos.set f ⟨1, nm, 0⟩)
     | 14 => vv = .int .i64 ((f : Int))
     | _ => True) ?_ ?_ ?_
    ·intro i hi vv wz ww' hbz hz
     match i, hi with
     | 0, _ => exact hz
     | 1, _ => exact hz
     | 2, _ => exact hz
     | 3, _ => exact hz
     | 4, _ => exact hz
     | 5, _ => exact hz
     | 6, _ => exact hz
     | 7, _ => exact hz
     | 8, _ => exact (by obtain ⟨v', h0, h1⟩ := hz; exact ⟨v', h0, OwnF.below h1 hbz⟩)
     | 9, _ => exact (by obtain ⟨v', h0, h1⟩ := hz; exact ⟨v', h0, OwnF.below h1 hbz⟩)
     | 10, _ => exact (OwnF.below hz hbz)
     | 11, _ => exact hz
     | 12, _ => exact hz
     | 13, _ => exact (OwnF.below hz hbz)
     | 14, _ => exact hz
     | _ + 15, hq => exact absurd hq (by omega)
    ·intro i hi o ho a wx Hb Hd hG K HK
     match i, hi with
     | 0, _ =>
      obtain rfl := Option.some.inj ho
      have e1 : a.tmps[1]?.getD undef = .pointer (some ⟨w.heap.size, 0, none⟩) := by rw [Hb.out.2.2 1 (by decide)]; rfl
      clear Hd Hb
      refine Does.of rfl ?_
      go_simp
      exact HK.out _ _ rfl (Below.refl _ _)
     | 1, _ =>
      obtain rfl := Option.some.inj ho
      have d0 := Hd.out 0 (by kernel_rfl)
      change (a.tmps[21]?.getD undef) = .pointer (some ⟨w.heap.size, 0, none⟩) at d0
      clear Hd Hb
      have m0 := (hG.cell (p := ⟨w.heap.size, 0, none⟩) hl2).trans y0
      refine Does.of rfl ?_
      go_simp
      exact HK.out _ _ rfl (Below.refl _ _)
     | 2, _ =>
      obtain rfl := Option.some.inj ho
      have d1 := Hd.out 1 (by kernel_rfl)
      change (a.tmps[22]?.getD undef) = .pointer (some ⟨g, 0, none⟩) at d1
      clear Hd Hb
      refine Does.of rfl ?_
      go_simp
      exact HK.out _ _ rfl (Below.refl _ _)
     | 3, _ =>
      obtain rfl := Option.some.inj ho
      have d2 := Hd.out 2 (by kernel_rfl)
      change (a.tmps[23]?.getD undef) = .pointer (some ⟨g, 0, none⟩) at d2
      clear Hd Hb
      refine Does.of rfl ?_
      go_simp
      exact HK.out _ _ rfl (Below.refl _ _)
     | 4, _ =>
      obtain rfl := Option.some.inj ho
      have d3 := Hd.out 3 (by kernel_rfl)
      change (a.tmps[24]?.getD undef) = .pointer (some ⟨g, 1, none⟩) at d3
      clear Hd Hb
      have m0 := (hG.cell (p := ⟨g, 1, none⟩) hgl2).trans x1
      refine Does.of rfl ?_
      go_simp
      exact HK.out _ _ rfl (Below.refl _ _)
     | 5, _ =>
      obtain rfl := Option.some.inj ho
      have e1 : a.tmps[1]?.getD undef = .pointer (some ⟨w.heap.size, 0, none⟩) := by rw [Hb.out.2.2 1 (by decide)]; rfl
      clear Hd Hb
      refine Does.of rfl ?_
      go_simp
      exact HK.out _ _ rfl (Below.refl _ _)
     | 6, _ =>
      obtain rfl := Option.some.inj ho
      have d5 := Hd.out 5 (by kernel_rfl)
      change (a.tmps[26]?.getD undef) = .pointer (some ⟨w.heap.size, 1, none⟩) at d5
      clear Hd Hb
      refine Does.of rfl ?_
      go_simp
      exact HK.out _ _ rfl (Below.refl _ _)
     | 7, _ =>
      obtain rfl := Option.some.inj ho
      have d6 := Hd.out 6 (by kernel_rfl)
      change (a.tmps[27]?.getD undef) = .pointer (some ⟨w.heap.size, 6, none⟩) at d6
      clear Hd Hb
      have m0 := (hG.cell (p := ⟨w.heap.size, 6, none⟩) hl2).trans y6
      refine Does.of rfl ?_
      go_simp
      exact HK.out _ _ rfl (Below.refl _ _)
     | 8, _ =>
      obtain rfl := Option.some.inj ho
      have d4 := Hd.out 4 (by kernel_rfl)
      change (a.tmps[25]?.getD undef) = .slice (some ⟨gi, 0, none⟩) k.infos.length capi at d4
      have d7 := Hd.out 7 (by kernel_rfl)
      change (a.tmps[28]?.getD undef) = .string nm at d7
      clear Hd Hb
      refine Does.of rfl ?_
      go_simp
      refine (C3.out _ hG).mono ?_; rintro e w_ ⟨v', rfl, hO, hb2⟩
      exact HK.out _ _ ⟨_, rfl, hO.lower hG.size⟩ hb2
     | 9, _ =>
      obtain rfl := Option.some.inj ho
      have d8 := Hd.out 8 (by kernel_rfl)
      change ∃ v', (a.tmps[29]?.getD undef) = .tuple #[v', .int .i64 (f : Int), .bool true] ∧ OwnF W2.heap.size 89 3 infoCs wx v' (k.infos.set f ⟨1, nm, 0⟩) at d8
      clear Hd Hb
      obtain ⟨v', d8, hO⟩ := d8
      refine Does.of rfl ?_
      go_simp
      exact HK.out _ _ ⟨_, rfl, hO⟩ (Below.refl _ _)
     | 10, _ =>
      obtain rfl := Option.some.inj ho
      have d9 := Hd.out 9 (by kernel_rfl)
      change ∃ v', (a.tmps[20]?.getD undef) = .tuple #[v', .int .i64 (f : Int), .bool true] ∧ OwnF W2.heap.size 89 3 infoCs wx v' (k.infos.set f ⟨1, nm, 0⟩) at d9
      clear Hd Hb
      obtain ⟨v', d9, hO⟩ := d9
      refine Does.of rfl ?_
      go_simp
      exact HK.out _ _ hO (Below.refl _ _)
     | 11, _ =>
      obtain rfl := Option.some.inj ho
      have d9 := Hd.out 9 (by kernel_rfl)
      change ∃ v', (a.tmps[20]?.getD undef) = .tuple #[v', .int .i64 (f : Int), .bool true] ∧ OwnF W2.heap.size 89 3 infoCs wx v' (k.infos.set f ⟨1, nm, 0⟩) at d9
      clear Hd Hb
      obtain ⟨v', d9, hO⟩ := d9
      refine Does.of rfl ?_
      go_simp
      exact HK.out _ _ rfl (Below.refl _ _)
     | 12, _ =>
      obtain rfl := Option.some.inj ho
      have d9 := Hd.out 9 (by kernel_rfl)
      change ∃ v', (a.tmps[20]?.getD undef) = .tuple #[v', .int .i64 (f : Int), .bool true] ∧ OwnF W2.heap.size 89 3 infoCs wx v' (k.infos.set f ⟨1, nm, 0⟩) at d9
      clear Hd Hb
      obtain ⟨v', d9, hO⟩ := d9
      refine Does.of rfl ?_
      go_simp
      exact HK.out _ _ rfl (Below.refl _ _)
     | 13, _ =>
      obtain rfl := Option.some.inj ho
      have d10 := Hd.out 10 (by kernel_rfl)
      change OwnF W2.heap.size 89 3 infoCs wx (a.tmps[30]?.getD undef) (k.infos.set f ⟨1, nm, 0⟩) at d10
      clear Hd Hb
      refine Does.of rfl ?_
      go_simp
      exact HK.out _ _ d10 (Below.refl _ _)
     | 14, _ =>
      obtain rfl := Option.some.inj ho
      have d11 := Hd.out 11 (by kernel_rfl)
      change (a.tmps[31]?.getD undef) = .int .i64 ((f : Int)) at d11
      clear Hd Hb
      refine Does.of rfl ?_
      go_simp
      exact HK.out _ _ rfl (Below.refl _ _)
     | _ + 15, hq => exact absurd hq (by omega)
    ·intro vs wx hR hG
     have q12 := hR 12 (by decide)
     change (vs 12) = .bool true at q12
     have q13 := hR 13 (by decide)
     change OwnF W2.heap.size 89 3 infoCs wx (vs 13) (k.infos.set f ⟨1, nm, 0⟩) at q13
     have q14 := hR 14 (by decide)
     change (vs 14) = .int .i64 ((f : Int)) at q14
     clear hR
     simp only [fillAt, dstOf, List.range, List.range.loop, List.foldl_cons, List.foldl_nil, q12, q14]
     simp
     try generalize vs 0 = z0
     try generalize vs 1 = z1
     try generalize vs 2 = z2
     try generalize vs 3 = z3
     try generalize vs 4 = z4
     try generalize vs 5 = z5
     try generalize vs 6 = z6
     try generalize vs 7 = z7
     try generalize vs 8 = z8
     try generalize vs 9 = z9
     try generalize vs 10 = z10
     try generalize vs 11 = z11
     generalize vs 13 = z13 at q13 ⊢
     clear q12 q14
     have h5 := hI2.out.infos hlo2 hG q13
     have hbw5 := ((hbw.trans (hG.mono hbw.size)).mono hlo).setCell (p := ⟨g, 1, none⟩) hI2.out.2.1 z13
     replace y0 := (hG.cell (p := ⟨w.heap.size, 0, none⟩) hl2).trans y0
     replace x1 := (hG.cell (p := ⟨g, 1, none⟩) hgl2).trans x1
     have h2x := hI2.out.below hG
     have x0 := h2x.cells.1
     have hfzg := blk_frozen h2x.1
     obtain ⟨gm, capm, gw, capw, vs, rfl, hgm, n1, D, hgw, hlw, n2, n3, o1, hu, hx⟩ := h5.memRow (f := f) Hm.out hf12
     have hml := (memOk_iff.1 Hm.out).1
     have h4 := (rowOk_iff.1 ((memOk_iff.1 Hm.out).2 f hf12)).1
     have D2 := (grown_cell (o := f) (grown_set wx g 1 z13) (by simpa using hgm) (fun e => n1 (Option.some.inj e).symm)).symm.trans D
     obtain ⟨w6, hcl, hO6, hg6⟩ := run_clear4 hx h4
     have h6 := Lib.hid (h5.row o1 (by rw [hml]; exact hf12) hu hO6 hg6)
     have hb6 := Lib.hid (below_grown hbw5 hg6 hlw (Nat.le_trans hlo hbw5.size))
     have hf12i : (f : Int) < 12 := by omega
     obtain ⟨q1, q2, rfl, _, _⟩ := q13.rd.shape
     simp only [List.length_set] at hcl
     have hgb' : w.heap.size ≠ g := fun e => hgb e.symm
     clear h5 hbw5 h2x D hx o1 hu hO6 hg6 h4 hml hgm hgw hlw n2 n3 q13 hG
     go_wp2_with fail
     go_ret2
     exact ⟨by rw [E.out]; rfl, fun _ => ⟨_, _, _, _, by rw [E.out]; exact h6.out⟩, hb6.out⟩
end Go.Proofs.YtjacdlekgdnndaaGreatDoor
set_option linter.unusedVariables false
namespace Go.Proofs.YtjacdlekgdnndaaGreatDoor
open Go.RowKit
theorem small_rights {ss : List ByteArray} (h : rightsOk ss = true) : SmallS ss := by
 intro s hs
 obtain ⟨j, hj, rfl⟩ := List.getElem_of_mem hs
 unfold rightsOk at h
 simp only [Bool.and_eq_true, List.all_eq_true] at h
 have h1 := h.1 j (List.mem_range.2 hj)
 unfold stepRight at h1
 simp only [Bool.and_eq_true] at h1
 have h2 := rightOk_small h1.1
 have e : nthS ss j = ss[j] := by simp [nthS, hj]
 rw [e] at h2
 exact Nat.le_trans h2 (by decide)
set_option maxRecDepth 100000 in
set_option maxHeartbeats 4000000 in
theorem grantC_any {lo g : Nat} {w : World} {m i e c : Value} {k : KernV} (h : InK lo w g m i e c k) (hlo : lo ≤ w.heap.size) (hK : KOk k) (call : CallV) (he : 0 ≤ call.e) (hn : call.e < 3) (hnm : call.nm.size ≤ maxLen) :
 Calls Tryz.prog 178 #[call.on g] w (Ends1 lo g w (grantP k call)) := by
 have N := heap_alloc_new w (.cells (call.onCells g) 150)
 have hb0 := below1 w (.cells (call.onCells g) 150)
 have C0 := Lib.hid (fun W (_ : Below w.heap.size w W) => same_below (isEnv_any call.a W))
 have C1 := Lib.hid (fun W (_ : Below w.heap.size w W) => RightValid_impl call.nm W hnm)
 have C2 := Lib.hid (fun W (hW : Below w.heap.size w W) => may_c (h.below hW) call call.nm he (by rw [hK.envl]; exact hn))
 have P : grantP k call = if inB call.a 0 2 = false ∨ rightOk call.nm = false then (k, 0, 3) else if mayE k call.e call.nm = false then (k, 0, 1) else if (rightsAddP (envAt k.envs call.a.toNat).rights call.nm).2 = false then (k, 0, 4) else ({ k with envs := modAt k.envs call.a.toNat (setRights (rightsAddP (envAt k.envs call.a.toNat).rights call.nm).1) }, 0, 0) := rfl
 obtain ⟨k1, e1, a1, b1, c1, nm⟩ := call
 simp only [CallV.on, CallV.onCells] at N hb0 C0 C1 C2 P hnm ⊢
 obtain ⟨y0, y1, y2, y3, y4, y5, y6⟩ := on_cells (c := ⟨k1, e1, a1, b1, c1, nm⟩) N
 have hl := blk_lt N
 have HN := Lib.hid N
 have HP := Lib.hid P
 have HK := Lib.hid hK
 have HI := Lib.hid h
 clear P hK h N y0 y1 y2 y4 y5 y6
 go_enter Tryz.func178, Tryz.ntmps178
 go_wp2_with fail
 generalize hW0 : w.alloc _ = W0 at *
 clear hW0
 cases e4 : inB a1 0 2
 ·have T := Lib.hid e4
  have E := Lib.hid (show grantP k ⟨k1, e1, a1, b1, c1, nm⟩ = (k, 0, 3) by rw [HP.out, if_pos (.inl e4)])
  clear e4 y3
  refine (C0.out _ hb0).mono ?_; rintro r w1 ⟨rfl, hb1⟩; rw [T.out]
  have hbw := hb0.trans (hb1.mono hb0.size)
  go_wp2_with fail
  go_ret
  exact Ends1.bad E.out (by decide) (hbw.mono hlo)
 ·have T0 := Lib.hid e4
  have ab := inB_iff.1 e4
  obtain ⟨an, rfl⟩ : ∃ n : Nat, a1 = (n : Int) := ⟨a1.toNat, by omega⟩
  have han : an < 3 := by omega
  clear e4 y3
  refine (C0.out _ hb0).mono ?_; rintro r w1 ⟨rfl, hbW⟩; rw [T0.out]
  have hbw := hb0.trans (hbW.mono hb0.size)
  obtain ⟨y0, y1, y2, y3, y4, y5, y6⟩ := on_cells (c := ⟨k1, e1, (an : Int), b1, c1, nm⟩) (blk_below HN.out hbW)
  clear y0 y1 y2 y3 y4 y5
  go_wp2_with fail
  clear y6
  cases e5 : rightOk nm
  ·have T := Lib.hid e5
   have E := Lib.hid (show grantP k ⟨k1, e1, (an : Int), b1, c1, nm⟩ = (k, 0, 3) by rw [HP.out, if_pos (.inr e5)])
   clear e5
   refine (C1.out _ hbw).mono ?_; rintro r w2 ⟨rfl, hb1⟩; rw [T.out]
   replace hbw := hbw.trans (hb1.mono hbw.size)
   go_wp2_with fail
   go_ret
   exact Ends1.bad E.out (by decide) (hbw.mono hlo)
  ·have T := Lib.hid e5
   have HP2 := Lib.hid (show grantP k ⟨k1, e1, (an : Int), b1, c1, nm⟩ = _ by rw [HP.out, if_neg (by rw [T0.out, e5]; simp)])
   clear e5
   refine (C1.out _ hbw).mono ?_; rintro r w2 ⟨rfl, hb1⟩; rw [T.out]
   replace hbW := hbW.trans (hb1.mono hbW.size)
   replace hbw := hbw.trans (hb1.mono hbw.size)
   obtain ⟨y0, y1, y2, y3, y4, y5, y6⟩ := on_cells (c := ⟨k1, e1, (an : Int), b1, c1, nm⟩) (blk_below HN.out hbW)
   clear hb1
   go_wp2_with fail
   clear y0 y1 y2 y3 y4 y5 y6
   cases e6 : mayE k e1 nm
   ·have T6 := Lib.hid e6
    have E := Lib.hid (show grantP k ⟨k1, e1, (an : Int), b1, c1, nm⟩ = (k, 0, 1) by rw [HP2.out, e6]; rfl)
    clear e6
    refine (C2.out _ hbw).mono ?_; rintro r w2 ⟨rfl, hb2⟩; rw [T6.out]
    replace hbw := hbw.trans (hb2.mono hbw.size)
    go_wp2_with fail
    go_ret
    exact Ends1.bad E.out (by decide) (hbw.mono hlo)
   ·have T6 := Lib.hid e6
    have HP3 := Lib.hid (show grantP k ⟨k1, e1, (an : Int), b1, c1, nm⟩ = _ by rw [HP2.out, e6, if_neg (by decide)])
    clear e6
    refine (C2.out _ hbw).mono ?_; rintro r W2 ⟨rfl, hb2⟩; rw [T6.out]
    replace hbW := hbW.trans (hb2.mono hbW.size)
    replace hbw := hbw.trans (hb2.mono hbw.size)
    have h2 := HI.out.below hbw
    obtain ⟨ge, cap, ua, uc, rfl, hge0, D0, _, R, fz⟩ := h2.env (j := an) (by rw [HK.out.envl]; exact han)
    have x2 := cell_regrown h2.cells.2.2.1
    obtain ⟨y0, y1, y2, y3, y4, y5, y6⟩ := on_cells (c := ⟨k1, e1, (an : Int), b1, c1, nm⟩) (blk_below HN.out hbW)
    replace y0 := cell_regrown y0
    replace y3 := cell_regrown y3
    have hane : (an : Int) < k.envs.length := by rw [HK.out.envl]; omega
    have hl20 := Nat.lt_of_lt_of_le hl hbW.size
    have hgb : ge ≠ w.heap.size := by
     intro e'
     have h0 := (World.ownsRow.lt HI.out.2.2.2.2.1.choose_spec.1 ge rfl).2
     omega
    clear y1 y2 y4 y5 hb2
    go_wp2_with fail
    refine wp_region_quiet_below Tryz.mixed (by kernel_rfl) ?_
    repeat (go_big_quiet_step (fail))
    refine wpQuiet_nil ?_
    intro _ hw'
    obtain ⟨⟨dq, osq⟩, hw''⟩ := hw'
    subst hw''
    have bq := below_regrown W2 dq osq
    generalize Sort.grow (redrawn W2 dq) osq = wq at bq
    clear x2 y0 y3
    go_wp2_with fail
    have hbq := hbw.trans (bq.mono hbw.size)
    have hIq := Lib.hid (h2.below bq)
    replace y6 := (bq.cell (p := ⟨w.heap.size, 6, none⟩) hl20).trans y6
    replace D0 := (bq.cell (p := ⟨ge, an * 2, none⟩) hge0).trans D0
    have fzq := (bq.frozen (p := ⟨ge, an * 2, none⟩) hge0).trans (fz _)
    have hl2 := Nat.lt_of_lt_of_le hl20 bq.size
    have hge := Nat.lt_of_lt_of_le hge0 bq.size
    have hloq := Nat.le_trans hlo hbq.size
    have Rq : RdStrs wq (.slice ua (envAt k.envs an).rights.length uc) (envAt k.envs an).rights := RdF.below R bq
    have rk := HK.out.rights an han
    have C30 := fun W (hW : Below wq.heap.size wq W) => RightsAdd_any _ (envAt k.envs an).rights nm W (RdF.below Rq hW) (small_rights rk) hnm rk T.out
    have HP4 := Lib.hid (show grantP k ⟨k1, e1, (an : Int), b1, c1, nm⟩ = if (rightsAddP (envAt k.envs an).rights nm).2 = false then (k, 0, 4) else ({ k with envs := modAt k.envs an (setRights (rightsAddP (envAt k.envs an).rights nm).1) }, 0, 0) from HP3.out)
    unfold AddRes at C30
    obtain ⟨ss, bb, hsb⟩ : ∃ ss bb, rightsAddP (envAt k.envs an).rights nm = (ss, bb) := ⟨_, _, rfl⟩
    simp only [hsb] at C30 HP4
    have C3 := Lib.hid C30
    clear C30 R Rq rk hsb h2 fz bq hge0 hl20
    refine wp_region_grow 12 Tryz.mixed (by kernel_rfl) 52 rfl (by kernel_rfl) (fun ix vv ww => match ix with
     | 0 => vv = .pointer (some ⟨ge, an * 2, none⟩)
     | 1 => vv = .pointer (some ⟨ge, an * 2, none⟩)
     | 2 => vv = .pointer (some ⟨ge, an * 2, none⟩)
     | 3 => vv = .slice ua (envAt k.envs an).rights.length uc
     | 4 => vv = .pointer (some ⟨w.heap.size, 1, none⟩)
     | 5 => vv = .pointer (some ⟨w.heap.size, 6, none⟩)
     | 6 => vv = .string nm
     | 7 => ∃ v', vv = .tuple #[v', .bool bb] ∧ OwnF wq.heap.size 9 1 strCs ww v' ss
     | 8 => ∃ v', vv = .tuple #[v', .bool bb] ∧ OwnF wq.heap.size 9 1 strCs ww v' ss
     | 9 => OwnF wq.heap.size 9 1 strCs ww vv ss
     | 10 => vv = .bool bb
     | 11 => OwnF wq.heap.size 9 1 strCs ww vv ss
     | _ => True) ?_ ?_ ?_
    ·intro i hi vv wz ww' hbz hz
     match i, hi with
     | 0, _ => exact hz
     | 1, _ => exact hz
     | 2, _ => exact hz
     | 3, _ => exact hz
     | 4, _ => exact hz
     | 5, _ => exact hz
     | 6, _ => exact hz
     | 7, _ => exact (by obtain ⟨v', h0, h1⟩ := hz; exact ⟨v', h0, OwnF.below h1 hbz⟩)
     | 8, _ => exact (by obtain ⟨v', h0, h1⟩ := hz; exact ⟨v', h0, OwnF.below h1 hbz⟩)
     | 9, _ => exact (OwnF.below hz hbz)
     | 10, _ => exact hz
     | 11, _ => exact (OwnF.below hz hbz)
    ·intro i hi o ho a wx Hb Hd hG K HK
     match i, hi with
     | 0, _ =>
      obtain rfl := Option.some.inj ho
      have e3 : a.tmps[3]?.getD undef = .pointer (some ⟨ge, an * 2, none⟩) := by rw [Hb.out.2.2 3 (by decide)]; rfl
      clear Hd Hb
      refine Does.of rfl ?_
      go_simp
      exact HK.out _ _ rfl (Below.refl _ _)
     | 1, _ =>
      obtain rfl := Option.some.inj ho
      have d0 := Hd.out 0 (by kernel_rfl)
      change (a.tmps[36]?.getD undef) = .pointer (some ⟨ge, an * 2, none⟩) at d0
      clear Hd Hb
      refine Does.of rfl ?_
      go_simp
      exact HK.out _ _ rfl (Below.refl _ _)
     | 2, _ =>
      obtain rfl := Option.some.inj ho
      have d1 := Hd.out 1 (by kernel_rfl)
      change (a.tmps[37]?.getD undef) = .pointer (some ⟨ge, an * 2, none⟩) at d1
      clear Hd Hb
      refine Does.of rfl ?_
      go_simp
      exact HK.out _ _ rfl (Below.refl _ _)
     | 3, _ =>
      obtain rfl := Option.some.inj ho
      have d2 := Hd.out 2 (by kernel_rfl)
      change (a.tmps[38]?.getD undef) = .pointer (some ⟨ge, an * 2, none⟩) at d2
      clear Hd Hb
      have m0 := (hG.cell (p := ⟨ge, an * 2, none⟩) hge).trans D0
      refine Does.of rfl ?_
      go_simp
      exact HK.out _ _ rfl (Below.refl _ _)
     | 4, _ =>
      obtain rfl := Option.some.inj ho
      have e1 : a.tmps[1]?.getD undef = .pointer (some ⟨w.heap.size, 0, none⟩) := by rw [Hb.out.2.2 1 (by decide)]; rfl
      clear Hd Hb
      refine Does.of rfl ?_
      go_simp
      exact HK.out _ _ rfl (Below.refl _ _)
     | 5, _ =>
      obtain rfl := Option.some.inj ho
      have d4 := Hd.out 4 (by kernel_rfl)
      change (a.tmps[40]?.getD undef) = .pointer (some ⟨w.heap.size, 1, none⟩) at d4
      clear Hd Hb
      refine Does.of rfl ?_
      go_simp
      exact HK.out _ _ rfl (Below.refl _ _)
     | 6, _ =>
      obtain rfl := Option.some.inj ho
      have d5 := Hd.out 5 (by kernel_rfl)
      change (a.tmps[41]?.getD undef) = .pointer (some ⟨w.heap.size, 6, none⟩) at d5
      clear Hd Hb
      have m0 := (hG.cell (p := ⟨w.heap.size, 6, none⟩) hl2).trans y6
      refine Does.of rfl ?_
      go_simp
      exact HK.out _ _ rfl (Below.refl _ _)
     | 7, _ =>
      obtain rfl := Option.some.inj ho
      have d3 := Hd.out 3 (by kernel_rfl)
      change (a.tmps[39]?.getD undef) = .slice ua (envAt k.envs an).rights.length uc at d3
      have d6 := Hd.out 6 (by kernel_rfl)
      change (a.tmps[42]?.getD undef) = .string nm at d6
      clear Hd Hb
      refine Does.of rfl ?_
      go_simp
      refine (C3.out _ hG).mono ?_; rintro e w_ ⟨v', rfl, hO, hb2⟩
      exact HK.out _ _ ⟨_, rfl, hO.lower hG.size⟩ hb2
     | 8, _ =>
      obtain rfl := Option.some.inj ho
      have d7 := Hd.out 7 (by kernel_rfl)
      change ∃ v', (a.tmps[43]?.getD undef) = .tuple #[v', .bool bb] ∧ OwnF wq.heap.size 9 1 strCs wx v' ss at d7
      clear Hd Hb
      obtain ⟨v', d7, hO⟩ := d7
      refine Does.of rfl ?_
      go_simp
      exact HK.out _ _ ⟨_, rfl, hO⟩ (Below.refl _ _)
     | 9, _ =>
      obtain rfl := Option.some.inj ho
      have d8 := Hd.out 8 (by kernel_rfl)
      change ∃ v', (a.tmps[35]?.getD undef) = .tuple #[v', .bool bb] ∧ OwnF wq.heap.size 9 1 strCs wx v' ss at d8
      clear Hd Hb
      obtain ⟨v', d8, hO⟩ := d8
      refine Does.of rfl ?_
      go_simp
      exact HK.out _ _ hO (Below.refl _ _)
     | 10, _ =>
      obtain rfl := Option.some.inj ho
      have d8 := Hd.out 8 (by kernel_rfl)
      change ∃ v', (a.tmps[35]?.getD undef) = .tuple #[v', .bool bb] ∧ OwnF wq.heap.size 9 1 strCs wx v' ss at d8
      clear Hd Hb
      obtain ⟨v', d8, hO⟩ := d8
      refine Does.of rfl ?_
      go_simp
      exact HK.out _ _ rfl (Below.refl _ _)
     | 11, _ =>
      obtain rfl := Option.some.inj ho
      have d9 := Hd.out 9 (by kernel_rfl)
      change OwnF wq.heap.size 9 1 strCs wx (a.tmps[44]?.getD undef) ss at d9
      clear Hd Hb
      refine Does.of rfl ?_
      go_simp
      exact HK.out _ _ d9 (Below.refl _ _)
    ·intro vs wx hR hG
     have q10 := hR 10 (by decide)
     change (vs 10) = .bool bb at q10
     have q11 := hR 11 (by decide)
     change OwnF wq.heap.size 9 1 strCs wx (vs 11) ss at q11
     clear hR
     simp only [fillAt, dstOf, List.range, List.range.loop, List.foldl_cons, List.foldl_nil, q10]
     simp
     try generalize vs 0 = z0
     try generalize vs 1 = z1
     try generalize vs 2 = z2
     try generalize vs 3 = z3
     try generalize vs 4 = z4
     try generalize vs 5 = z5
     try generalize vs 6 = z6
     try generalize vs 7 = z7
     try generalize vs 8 = z8
     try generalize vs 9 = z9
     generalize vs 11 = z11 at q11 ⊢
     clear q10
     have hbx := hbq.trans (hG.mono hbq.size)
     replace D0 := (hG.cell (p := ⟨ge, an * 2, none⟩) hge).trans D0
     replace fzq := (hG.frozen (p := ⟨ge, an * 2, none⟩) hge).trans fzq
     cases bb
     ·have E := Lib.hid (show grantP k ⟨k1, e1, (an : Int), b1, c1, nm⟩ = (k, 0, 4) by rw [HP4.out]; rfl)
      clear q11 hG D0 fzq y6
      go_wp2_with fail
      go_ret
      exact Ends1.bad E.out (by decide) (hbx.mono hlo)
     ·have E := Lib.hid (show grantP k ⟨k1, e1, (an : Int), b1, c1, nm⟩ = ({ k with envs := modAt k.envs an (setRights ss) }, 0, 0) by rw [HP4.out]; rfl)
      have S := Lib.hid (hIq.out.rights rfl hloq hG (by rw [HK.out.envl]; exact han) q11)
      have hbx2 := Lib.hid (below_grown (hbx.mono hlo) S.out.2.1 S.out.2.2 (Nat.le_trans hlo hbx.size))
      obtain ⟨_, _, rfl, _, _⟩ := q11.rd.shape
      clear q11 hG y6
      go_wp2_with fail
      go_ret
      exact ⟨by rw [E.out]; rfl, fun _ => ⟨_, _, _, _, by rw [E.out]; exact S.out.1⟩, hbx2.out⟩
end Go.Proofs.YtjacdlekgdnndaaGreatDoor
set_option linter.unusedVariables false
namespace Go.Proofs.YtjacdlekgdnndaaGreatDoor
open Go.RowKit
theorem reached_root (v : Value) (m : List (List Int)) (r : Int) (w : World) (h : RdRows w v m) (hok : memOk m = true) (hr : r < 12) : Calls Tryz.prog 51 #[v, .int .i64 r] w (ReachedRes m r w) := by
 by_cases h0 : r < 0
 ·exact reached_neg v m r w h h0
 ·obtain ⟨n, rfl⟩ : ∃ n : Nat, r = (n : Int) := ⟨r.toNat, by omega⟩
  exact reached_any v m n w h hok (by omega)
theorem root_lt {k : KernV} (h : KOk k) {j : Nat} (hj : j < 3) : (envAt k.envs j).root < 12 := by
 have := h.roots j hj
 unfold rootOf at this
 omega
set_option maxRecDepth 100000 in
set_option maxHeartbeats 4000000 in
theorem revokeC_any {lo g : Nat} {w : World} {m i e c : Value} {k : KernV} (h : InK lo w g m i e c k) (hlo : lo ≤ w.heap.size) (hK : KOk k) (call : CallV) (he : 0 ≤ call.e) (hn : call.e < 3) (hnm : call.nm.size ≤ maxLen) :
 Calls Tryz.prog 179 #[call.on g] w (Ends1 lo g w (revokeP k call)) := by
 have N := heap_alloc_new w (.cells (call.onCells g) 150)
 have hb0 := below1 w (.cells (call.onCells g) 150)
 have C0 := Lib.hid (fun W (_ : Below w.heap.size w W) => same_below (isEnv_any call.a W))
 have C1 := Lib.hid (fun W (_ : Below w.heap.size w W) => RightValid_impl call.nm W hnm)
 have C2 := Lib.hid (fun W (hW : Below w.heap.size w W) => may_c (h.below hW) call call.nm he (by rw [hK.envl]; exact hn))
 have P : revokeP k call = if inB call.a 0 2 = false ∨ call.a = call.e ∨ rightOk call.nm = false then (k, 0, 3) else if mayE k call.e call.nm = false then (k, 0, 1) else if allowedP k.infos (reachL k.mem (envAt k.envs call.a.toNat).root) (rightsDropP (envAt k.envs call.a.toNat).rights call.nm) = false then (k, 0, 2) else ({ k with envs := modAt k.envs call.a.toNat (setRights (rightsDropP (envAt k.envs call.a.toNat).rights call.nm)) }, 0, 0) := rfl
 obtain ⟨k1, e1, a1, b1, c1, nm⟩ := call
 simp only [CallV.on, CallV.onCells] at N hb0 C0 C1 C2 P hnm ⊢
 obtain ⟨y0, y1, y2, y3, y4, y5, y6⟩ := on_cells (c := ⟨k1, e1, a1, b1, c1, nm⟩) N
 have hl := blk_lt N
 have HN := Lib.hid N
 have HP := Lib.hid P
 have HK := Lib.hid hK
 have HI := Lib.hid h
 clear P hK h N y0 y1 y2 y4 y5 y6
 go_enter Tryz.func179, Tryz.ntmps179
 go_wp2_with fail
 generalize hW0 : w.alloc _ = W0 at *
 clear hW0
 cases e4 : inB a1 0 2
 ·have T := Lib.hid e4
  have E := Lib.hid (show revokeP k ⟨k1, e1, a1, b1, c1, nm⟩ = (k, 0, 3) by rw [HP.out, if_pos (.inl e4)])
  clear e4 y3
  refine (C0.out _ hb0).mono ?_; rintro r w1 ⟨rfl, hb1⟩; rw [T.out]
  have hbw := hb0.trans (hb1.mono hb0.size)
  go_wp2_with fail
  go_ret
  exact Ends1.bad E.out (by decide) (hbw.mono hlo)
 ·have T0 := Lib.hid e4
  have ab := inB_iff.1 e4
  obtain ⟨an, rfl⟩ : ∃ n : Nat, a1 = (n : Int) := ⟨a1.toNat, by omega⟩
  have han : an < 3 := by omega
  clear e4 y3
  refine (C0.out _ hb0).mono ?_; rintro r w1 ⟨rfl, hbW⟩; rw [T0.out]
  have hbw := hb0.trans (hbW.mono hb0.size)
  obtain ⟨y0, y1, y2, y3, y4, y5, y6⟩ := on_cells (c := ⟨k1, e1, (an : Int), b1, c1, nm⟩) (blk_below HN.out hbW)
  clear y0 y1 y4 y5
  by_cases hae : (an : Int) = e1
  ·have E := Lib.hid (show revokeP k ⟨k1, e1, (an : Int), b1, c1, nm⟩ = (k, 0, 3) by rw [HP.out, if_pos (.inr (.inl hae))])
   have t3 : ((an : Int) == e1) = true := by simp [hae]
   clear hae y6
   go_wp2_with fail
   go_ret
   exact Ends1.bad E.out (by decide) (hbw.mono hlo)
  have t3 : ((an : Int) == e1) = false := by simp [hae]
  have hne := Lib.hid hae
  clear hae
  go_wp2_with fail
  clear y2 y3 y6 t3
  cases e5 : rightOk nm
  ·have T := Lib.hid e5
   have E := Lib.hid (show revokeP k ⟨k1, e1, (an : Int), b1, c1, nm⟩ = (k, 0, 3) by rw [HP.out, if_pos (.inr (.inr e5))])
   clear e5
   refine (C1.out _ hbw).mono ?_; rintro r w2 ⟨rfl, hb1⟩; rw [T.out]
   replace hbw := hbw.trans (hb1.mono hbw.size)
   go_wp2_with fail
   go_ret
   exact Ends1.bad E.out (by decide) (hbw.mono hlo)
  ·have T := Lib.hid e5
   have HP2 := Lib.hid (show revokeP k ⟨k1, e1, (an : Int), b1, c1, nm⟩ = _ by rw [HP.out, if_neg (by rw [T0.out, e5]; simpa using hne.out)])
   clear e5
   refine (C1.out _ hbw).mono ?_; rintro r w2 ⟨rfl, hb1⟩; rw [T.out]
   replace hbW := hbW.trans (hb1.mono hbW.size)
   replace hbw := hbw.trans (hb1.mono hbw.size)
   obtain ⟨y0, y1, y2, y3, y4, y5, y6⟩ := on_cells (c := ⟨k1, e1, (an : Int), b1, c1, nm⟩) (blk_below HN.out hbW)
   clear hb1
   go_wp2_with fail
   clear y0 y1 y2 y3 y4 y5 y6
   cases e6 : mayE k e1 nm
   ·have T6 := Lib.hid e6
    have E := Lib.hid (show revokeP k ⟨k1, e1, (an : Int), b1, c1, nm⟩ = (k, 0, 1) by rw [HP2.out, e6]; rfl)
    clear e6
    refine (C2.out _ hbw).mono ?_; rintro r w2 ⟨rfl, hb2⟩; rw [T6.out]
    replace hbw := hbw.trans (hb2.mono hbw.size)
    go_wp2_with fail
    go_ret
    exact Ends1.bad E.out (by decide) (hbw.mono hlo)
   ·have T6 := Lib.hid e6
    have HP3 := Lib.hid (show revokeP k ⟨k1, e1, (an : Int), b1, c1, nm⟩ = _ by rw [HP2.out, e6, if_neg (by decide)])
    clear e6
    refine (C2.out _ hbw).mono ?_; rintro r W2 ⟨rfl, hb2⟩; rw [T6.out]
    replace hbW := hbW.trans (hb2.mono hbW.size)
    replace hbw := hbw.trans (hb2.mono hbw.size)
    have h2 := HI.out.below hbw
    obtain ⟨ge, cap, ua, uc, rfl, hge0, D0, D1, R, fz⟩ := h2.env (j := an) (by rw [HK.out.envl]; exact han)
    have x2 := cell_regrown h2.cells.2.2.1
    obtain ⟨y0, y1, y2, y3, y4, y5, y6⟩ := on_cells (c := ⟨k1, e1, (an : Int), b1, c1, nm⟩) (blk_below HN.out hbW)
    replace y0 := cell_regrown y0
    replace y3 := cell_regrown y3
    have hane : (an : Int) < k.envs.length := by rw [HK.out.envl]; omega
    have hl20 := Nat.lt_of_lt_of_le hl hbW.size
    have hgb : ge ≠ w.heap.size := by
     intro e'
     have h0 := (World.ownsRow.lt HI.out.2.2.2.2.1.choose_spec.1 ge rfl).2
     omega
    clear y1 y2 y4 y5 hb2
    go_wp2_with fail
    refine wp_region_quiet_below Tryz.mixed (by kernel_rfl) ?_
    repeat (go_big_quiet_step (fail))
    refine wpQuiet_nil ?_
    intro _ hw'
    obtain ⟨⟨dq, osq⟩, hw''⟩ := hw'
    subst hw''
    have bq := below_regrown W2 dq osq
    generalize Sort.grow (redrawn W2 dq) osq = wq at bq
    clear x2 y0 y3
    go_wp2_with fail
    have hbq := hbw.trans (bq.mono hbw.size)
    have hIq := Lib.hid (h2.below bq)
    replace y6 := (bq.cell (p := ⟨w.heap.size, 6, none⟩) hl20).trans y6
    replace D0 := (bq.cell (p := ⟨ge, an * 2, none⟩) hge0).trans D0
    replace D1 := (bq.cell (p := ⟨ge, an * 2 + 1, none⟩) hge0).trans D1
    have fzq := (bq.frozen (p := ⟨ge, an * 2, none⟩) hge0).trans (fz _)
    have hbWq := hbW.trans (bq.mono hbW.size)
    have hl2 := Nat.lt_of_lt_of_le hl20 bq.size
    have hge := Nat.lt_of_lt_of_le hge0 bq.size
    have hloq := Nat.le_trans hlo hbq.size
    have Rq : RdStrs wq (.slice ua (envAt k.envs an).rights.length uc) (envAt k.envs an).rights := RdF.below R bq
    have rk := HK.out.rights an han
    have C3 := Lib.hid (fun W (hW : Below wq.heap.size wq W) => RightsDrop_any _ (envAt k.envs an).rights nm W (RdF.below Rq hW) (small_rights rk) hnm rk T.out)
    have HP4 := Lib.hid (show revokeP k ⟨k1, e1, (an : Int), b1, c1, nm⟩ = if allowedP k.infos (reachL k.mem (envAt k.envs an).root) (rightsDropP (envAt k.envs an).rights nm) = false then (k, 0, 2) else ({ k with envs := modAt k.envs an (setRights (rightsDropP (envAt k.envs an).rights nm)) }, 0, 0) from HP3.out)
    clear R Rq rk h2 fz bq hge0 hl20
    refine wp_region_grow 8 Tryz.mixed (by kernel_rfl) 70 rfl (by kernel_rfl) (fun ix vv ww => match ix with
     | 0 => vv = .pointer (some ⟨ge, an * 2, none⟩)
     | 1 => vv = .pointer (some ⟨ge, an * 2, none⟩)
     | 2 => vv = .pointer (some ⟨ge, an * 2, none⟩)
     | 3 => vv = .slice ua (envAt k.envs an).rights.length uc
     | 4 => vv = .pointer (some ⟨w.heap.size, 1, none⟩)
     | 5 => vv = .pointer (some ⟨w.heap.size, 6, none⟩)
     | 6 => vv = .string nm
     | 7 => OwnF wq.heap.size 9 1 strCs ww vv (rightsDropP (envAt k.envs an).rights nm)
     | _ => True) ?_ ?_ ?_
    ·intro i hi vv wz ww' hbz hz
     match i, hi with
     | 0, _ => exact hz
     | 1, _ => exact hz
     | 2, _ => exact hz
     | 3, _ => exact hz
     | 4, _ => exact hz
     | 5, _ => exact hz
     | 6, _ => exact hz
     | 7, _ => exact (OwnF.below hz hbz)
    ·intro i hi o ho a wx Hb Hd hG K HK
     match i, hi with
     | 0, _ =>
      obtain rfl := Option.some.inj ho
      have e3 : a.tmps[3]?.getD undef = .pointer (some ⟨ge, an * 2, none⟩) := by rw [Hb.out.2.2 3 (by decide)]; rfl
      clear Hd Hb
      refine Does.of rfl ?_
      go_simp
      exact HK.out _ _ rfl (Below.refl _ _)
     | 1, _ =>
      obtain rfl := Option.some.inj ho
      have d0 := Hd.out 0 (by kernel_rfl)
      change (a.tmps[43]?.getD undef) = .pointer (some ⟨ge, an * 2, none⟩) at d0
      clear Hd Hb
      refine Does.of rfl ?_
      go_simp
      exact HK.out _ _ rfl (Below.refl _ _)
     | 2, _ =>
      obtain rfl := Option.some.inj ho
      have d1 := Hd.out 1 (by kernel_rfl)
      change (a.tmps[44]?.getD undef) = .pointer (some ⟨ge, an * 2, none⟩) at d1
      clear Hd Hb
      refine Does.of rfl ?_
      go_simp
      exact HK.out _ _ rfl (Below.refl _ _)
     | 3, _ =>
      obtain rfl := Option.some.inj ho
      have d2 := Hd.out 2 (by kernel_rfl)
      change (a.tmps[45]?.getD undef) = .pointer (some ⟨ge, an * 2, none⟩) at d2
      clear Hd Hb
      have m0 := (hG.cell (p := ⟨ge, an * 2, none⟩) hge).trans D0
      refine Does.of rfl ?_
      go_simp
      exact HK.out _ _ rfl (Below.refl _ _)
     | 4, _ =>
      obtain rfl := Option.some.inj ho
      have e1 : a.tmps[1]?.getD undef = .pointer (some ⟨w.heap.size, 0, none⟩) := by rw [Hb.out.2.2 1 (by decide)]; rfl
      clear Hd Hb
      refine Does.of rfl ?_
      go_simp
      exact HK.out _ _ rfl (Below.refl _ _)
     | 5, _ =>
      obtain rfl := Option.some.inj ho
      have d4 := Hd.out 4 (by kernel_rfl)
      change (a.tmps[47]?.getD undef) = .pointer (some ⟨w.heap.size, 1, none⟩) at d4
      clear Hd Hb
      refine Does.of rfl ?_
      go_simp
      exact HK.out _ _ rfl (Below.refl _ _)
     | 6, _ =>
      obtain rfl := Option.some.inj ho
      have d5 := Hd.out 5 (by kernel_rfl)
      change (a.tmps[48]?.getD undef) = .pointer (some ⟨w.heap.size, 6, none⟩) at d5
      clear Hd Hb
      have m0 := (hG.cell (p := ⟨w.heap.size, 6, none⟩) hl2).trans y6
      refine Does.of rfl ?_
      go_simp
      exact HK.out _ _ rfl (Below.refl _ _)
     | 7, _ =>
      obtain rfl := Option.some.inj ho
      have d3 := Hd.out 3 (by kernel_rfl)
      change (a.tmps[46]?.getD undef) = .slice ua (envAt k.envs an).rights.length uc at d3
      have d6 := Hd.out 6 (by kernel_rfl)
      change (a.tmps[49]?.getD undef) = .string nm at d6
      clear Hd Hb
      refine Does.of rfl ?_
      go_simp
      refine (C3.out _ hG).mono ?_; rintro e w_ ⟨v', rfl, hO, hb2⟩
      exact HK.out _ _ (hO.lower hG.size) hb2
    ·intro vs wx hR hG
     have q7 := hR 7 (by decide)
     change OwnF wq.heap.size 9 1 strCs wx (vs 7) (rightsDropP (envAt k.envs an).rights nm) at q7
     clear hR
     simp only [fillAt, dstOf, List.range, List.range.loop, List.foldl_cons, List.foldl_nil]
     simp
     try generalize vs 0 = z0
     try generalize vs 1 = z1
     try generalize vs 2 = z2
     try generalize vs 3 = z3
     try generalize vs 4 = z4
     try generalize vs 5 = z5
     try generalize vs 6 = z6
     generalize vs 7 = z7 at q7 ⊢
     have hbx := hbq.trans (hG.mono hbq.size)
     have hbWx := hbWq.trans (hG.mono hbWq.size)
     have hIx := hIq.out.below hG
     obtain ⟨y0, _, _, _, _, _, _⟩ := on_cells (c := ⟨k1, e1, (an : Int), b1, c1, nm⟩) (blk_below HN.out hbWx)
     replace D0 := (hG.cell (p := ⟨ge, an * 2, none⟩) hge).trans D0
     replace D1 := (hG.cell (p := ⟨ge, an * 2 + 1, none⟩) hge).trans D1
     replace fzq := (hG.frozen (p := ⟨ge, an * 2, none⟩) hge).trans fzq
     have hge3 := Nat.lt_of_lt_of_le hge hG.size
     have hl3 := Nat.lt_of_lt_of_le hl2 hG.size
     have hgl3 := blk_lt hIx.1
     have x0 := hIx.cells.1
     have x1 := hIx.cells.2.1
     have hm12 := root_lt HK.out han
     have RM : RdRows wx m k.mem := hIx.2.2.rd.1
     have RIn : RdInfos wx i k.infos := hIx.2.2.2.1.rd
     have hOq := Lib.hid q7
     have hGq := Lib.hid hG
     obtain ⟨wy, rfl⟩ : ∃ wy : World, wy = wx := ⟨_, rfl⟩
     have CX := Lib.hid (fun W (hW : Below wy.heap.size wy W) => reached_root m k.mem _ W (RM.below hW) (kok_parts HK.out).1 hm12)
     have CA := Lib.hid (fun W (hW : Below wy.heap.size wy W) v2 ts (h2 : RdInts W v2 (ints ts)) (hm : ∀ g, g ∈ ts ↔ g ∈ reachL k.mem (envAt k.envs an).root) => by have := allowed_any g _ v2 _ (rightsDropP (envAt k.envs an).rights nm) ts k.infos W ((hW.cell (p := ⟨g, 1, none⟩) hgl3).trans x1) (RdF.below q7.rd hW) (RdF.below RIn hW) h2 (fun f hf => by have := reach_lt hm12 f ((hm f).1 hf); have := HK.out.len; omega); rw [allowed_mem hm] at this; exact this)
     generalize hbb : allowedP k.infos (reachL k.mem (envAt k.envs an).root) (rightsDropP (envAt k.envs an).rights nm) = bb at CA HP4
     have HBb := Lib.hid hbb
     obtain ⟨p1, p2, rfl, _, _⟩ := q7.rd.shape
     clear hbb RM RIn q7 hG hIx x1
     go_wp2_with fail
     refine wp_region_grow 14 Tryz.mixed (by kernel_rfl) 70 rfl (by kernel_rfl) (fun ix vv ww => match ix with
      | 0 => vv = .pointer (some ⟨w.heap.size, 0, none⟩)
      | 1 => vv = .pointer (some ⟨g, 0, none⟩)
      | 2 => vv = .slice p1 (rightsDropP (envAt k.envs an).rights nm).length p2
      | 3 => vv = .pointer (some ⟨w.heap.size, 0, none⟩)
      | 4 => vv = .pointer (some ⟨g, 0, none⟩)
      | 5 => vv = .pointer (some ⟨g, 0, none⟩)
      | 6 => vv = .pointer (some ⟨g, 0, none⟩)
      | 7 => vv = m
      | 8 => vv = .pointer (some ⟨ge, an * 2, none⟩)
      | 9 => vv = .pointer (some ⟨ge, an * 2, none⟩)
      | 10 => vv = .pointer (some ⟨ge, an * 2 + 1, none⟩)
      | 11 => vv = .int .i64 ((envAt k.envs an).root)
      | 12 => ReachIn wy.heap.size k.mem (envAt k.envs an).root ww vv
      | 13 => vv = .bool bb
      | _ => True) ?_ ?_ ?_
     ·intro i hi vv wz ww' hbz hz
      match i, hi with
      | 0, _ => exact hz
      | 1, _ => exact hz
      | 2, _ => exact hz
      | 3, _ => exact hz
      | 4, _ => exact hz
      | 5, _ => exact hz
      | 6, _ => exact hz
      | 7, _ => exact hz
      | 8, _ => exact hz
      | 9, _ => exact hz
      | 10, _ => exact hz
      | 11, _ => exact hz
      | 12, _ => exact (ReachIn.below hz hbz)
      | 13, _ => exact hz
     ·intro i hi o ho a wx Hb Hd hG K HK
      match i, hi with
      | 0, _ =>
       obtain rfl := Option.some.inj ho
       have e1 : a.tmps[1]?.getD undef = .pointer (some ⟨w.heap.size, 0, none⟩) := by rw [Hb.out.2.2 1 (by decide)]; rfl
       clear Hd Hb
       refine Does.of rfl ?_
       go_simp
       exact HK.out _ _ rfl (Below.refl _ _)
      | 1, _ =>
       obtain rfl := Option.some.inj ho
       have d0 := Hd.out 0 (by kernel_rfl)
       change (a.tmps[51]?.getD undef) = .pointer (some ⟨w.heap.size, 0, none⟩) at d0
       clear Hd Hb
       have m0 := (hG.cell (p := ⟨w.heap.size, 0, none⟩) hl3).trans y0
       refine Does.of rfl ?_
       go_simp
       exact HK.out _ _ rfl (Below.refl _ _)
      | 2, _ =>
       obtain rfl := Option.some.inj ho
       have e4 : a.tmps[4]?.getD undef = .slice p1 (rightsDropP (envAt k.envs an).rights nm).length p2 := by rw [Hb.out.2.2 4 (by decide)]; rfl
       clear Hd Hb
       refine Does.of rfl ?_
       go_simp
       exact HK.out _ _ rfl (Below.refl _ _)
      | 3, _ =>
       obtain rfl := Option.some.inj ho
       have e1 : a.tmps[1]?.getD undef = .pointer (some ⟨w.heap.size, 0, none⟩) := by rw [Hb.out.2.2 1 (by decide)]; rfl
       clear Hd Hb
       refine Does.of rfl ?_
       go_simp
       exact HK.out _ _ rfl (Below.refl _ _)
      | 4, _ =>
       obtain rfl := Option.some.inj ho
       have d3 := Hd.out 3 (by kernel_rfl)
       change (a.tmps[54]?.getD undef) = .pointer (some ⟨w.heap.size, 0, none⟩) at d3
       clear Hd Hb
       have m0 := (hG.cell (p := ⟨w.heap.size, 0, none⟩) hl3).trans y0
       refine Does.of rfl ?_
       go_simp
       exact HK.out _ _ rfl (Below.refl _ _)
      | 5, _ =>
       obtain rfl := Option.some.inj ho
       have d4 := Hd.out 4 (by kernel_rfl)
       change (a.tmps[55]?.getD undef) = .pointer (some ⟨g, 0, none⟩) at d4
       clear Hd Hb
       refine Does.of rfl ?_
       go_simp
       exact HK.out _ _ rfl (Below.refl _ _)
      | 6, _ =>
       obtain rfl := Option.some.inj ho
       have d5 := Hd.out 5 (by kernel_rfl)
       change (a.tmps[56]?.getD undef) = .pointer (some ⟨g, 0, none⟩) at d5
       clear Hd Hb
       refine Does.of rfl ?_
       go_simp
       exact HK.out _ _ rfl (Below.refl _ _)
      | 7, _ =>
       obtain rfl := Option.some.inj ho
       have d6 := Hd.out 6 (by kernel_rfl)
       change (a.tmps[57]?.getD undef) = .pointer (some ⟨g, 0, none⟩) at d6
       clear Hd Hb
       have m0 := (hG.cell (p := ⟨g, 0, none⟩) hgl3).trans x0
       refine Does.of rfl ?_
       go_simp
       exact HK.out _ _ rfl (Below.refl _ _)
      | 8, _ =>
       obtain rfl := Option.some.inj ho
       have e3 : a.tmps[3]?.getD undef = .pointer (some ⟨ge, an * 2, none⟩) := by rw [Hb.out.2.2 3 (by decide)]; rfl
       clear Hd Hb
       refine Does.of rfl ?_
       go_simp
       exact HK.out _ _ rfl (Below.refl _ _)
      | 9, _ =>
       obtain rfl := Option.some.inj ho
       have d8 := Hd.out 8 (by kernel_rfl)
       change (a.tmps[59]?.getD undef) = .pointer (some ⟨ge, an * 2, none⟩) at d8
       clear Hd Hb
       refine Does.of rfl ?_
       go_simp
       exact HK.out _ _ rfl (Below.refl _ _)
      | 10, _ =>
       obtain rfl := Option.some.inj ho
       have d9 := Hd.out 9 (by kernel_rfl)
       change (a.tmps[60]?.getD undef) = .pointer (some ⟨ge, an * 2, none⟩) at d9
       clear Hd Hb
       refine Does.of rfl ?_
       go_simp
       exact HK.out _ _ rfl (Below.refl _ _)
      | 11, _ =>
       obtain rfl := Option.some.inj ho
       have d10 := Hd.out 10 (by kernel_rfl)
       change (a.tmps[61]?.getD undef) = .pointer (some ⟨ge, an * 2 + 1, none⟩) at d10
       clear Hd Hb
       have m0 := (hG.cell (p := ⟨ge, an * 2 + 1, none⟩) hge3).trans D1
       refine Does.of rfl ?_
       go_simp
       exact HK.out _ _ rfl (Below.refl _ _)
      | 12, _ =>
       obtain rfl := Option.some.inj ho
       have d7 := Hd.out 7 (by kernel_rfl)
       change (a.tmps[58]?.getD undef) = m at d7
       have d11 := Hd.out 11 (by kernel_rfl)
       change (a.tmps[62]?.getD undef) = .int .i64 ((envAt k.envs an).root) at d11
       clear Hd Hb
       refine Does.of rfl ?_
       go_simp
       refine (CX.out _ hG).mono ?_; rintro e w_ ⟨v', ts, rfl, hO, hmem, _, hb2⟩
       exact HK.out _ _ ⟨ts, own_loV hO hG.size, hmem⟩ hb2
      | 13, _ =>
       obtain rfl := Option.some.inj ho
       have d1 := Hd.out 1 (by kernel_rfl)
       change (a.tmps[52]?.getD undef) = .pointer (some ⟨g, 0, none⟩) at d1
       have d2 := Hd.out 2 (by kernel_rfl)
       change (a.tmps[53]?.getD undef) = .slice p1 (rightsDropP (envAt k.envs an).rights nm).length p2 at d2
       have d12 := Hd.out 12 (by kernel_rfl)
       change ReachIn wy.heap.size k.mem (envAt k.envs an).root wx (a.tmps[63]?.getD undef) at d12
       clear Hd Hb
       generalize e63 : a.tmps[63]?.getD undef = v2 at d12
       obtain ⟨ts, hO, hmem⟩ := d12
       have CAx := CA.out wx hG v2 ts (OwnInts.rd hO) hmem
       refine Does.of rfl ?_
       go_simp
       refine CAx.mono ?_; rintro e w_ ⟨rfl, hb2⟩
       exact HK.out _ _ rfl hb2
     ·intro vs wx hR hG
      have q13 := hR 13 (by decide)
      change (vs 13) = .bool bb at q13
      clear hR
      simp only [fillAt, dstOf, List.range, List.range.loop, List.foldl_cons, List.foldl_nil, q13]
      simp
      try generalize vs 0 = z0
      try generalize vs 1 = z1
      try generalize vs 2 = z2
      try generalize vs 3 = z3
      try generalize vs 4 = z4
      try generalize vs 5 = z5
      try generalize vs 6 = z6
      try generalize vs 7 = z7
      try generalize vs 8 = z8
      try generalize vs 9 = z9
      try generalize vs 10 = z10
      try generalize vs 11 = z11
      try generalize vs 12 = z12
      clear q13
      have hbz := hbx.trans (hG.mono hbx.size)
      cases bb
      ·have E := Lib.hid (show revokeP k ⟨k1, e1, (an : Int), b1, c1, nm⟩ = (k, 0, 2) by rw [HP4.out]; rfl)
       clear hG D0 D1 fzq y0 x0
       go_wp2_with fail
       go_ret
       exact Ends1.bad E.out (by decide) (hbz.mono hlo)
      ·have E := Lib.hid (show revokeP k ⟨k1, e1, (an : Int), b1, c1, nm⟩ = ({ k with envs := modAt k.envs an (setRights (rightsDropP (envAt k.envs an).rights nm)) }, 0, 0) by rw [HP4.out]; rfl)
       have S := Lib.hid (hIq.out.rights rfl hloq (hGq.out.trans (hG.mono hGq.out.size)) (by rw [HK.out.envl]; exact han) (hOq.out.below hG))
       have hbz2 := Lib.hid (below_grown (hbz.mono hlo) S.out.2.1 S.out.2.2 (Nat.le_trans hlo hbz.size))
       replace D0 := (hG.cell (p := ⟨ge, an * 2, none⟩) hge3).trans D0
       replace fzq := (hG.frozen (p := ⟨ge, an * 2, none⟩) hge3).trans fzq
       clear hG D1 y0 x0
       go_wp2_with fail
       go_ret
       exact ⟨by rw [E.out]; rfl, fun _ => ⟨_, _, _, _, by rw [E.out]; exact S.out.1⟩, hbz2.out⟩
end Go.Proofs.YtjacdlekgdnndaaGreatDoor
set_option linter.unusedVariables false
namespace Go.Proofs.YtjacdlekgdnndaaGreatDoor
open Go.RowKit
def slotOf (l : List Oper) (i : Nat) : Option Nat := (l[i]?).bind (·.dst)
def fillSome (l : List Oper) (is : List Nat) (vs : Nat → Value) (b : Array Value) : Array Value := is.foldl (fun b i => match slotOf l i with | some d => b.setIfInBounds d (vs i) | none => b) b
def freeB (l : List Oper) (N : Nat) : Bool :=
 ((List.range l.length).all fun i => (List.range l.length).all fun j => i == j || (slotOf l i).isNone || slotOf l i != slotOf l j) &&
 ((List.range l.length).all fun j => match l[j]? with | some o => o.after.all fun e => !Region.binds .any e || decide (e.on < j) | none => false) &&
 ((List.range l.length).all fun i => match slotOf l i with | some d => decide (d < N) | none => true)
def valAt (l : List Oper) (tmps : Array Value) (i : Nat) : Value := match slotOf l i with | some d => tmps[d]?.getD undef | none => undef
structure FreeInv (l : List Oper) (a0 : Act) (R : (Nat → Bool) → Nat → Value → World → Prop) (G : (Nat → Bool) → World → Prop) (listed : Array Bool) (a : Act) (w : World) : Prop where
 size' : listed.size = l.length
 closed : ∀ j oj, l[j]? = some oj → listed.getD j false = true → ∀ e ∈ oj.after, Region.binds .any e = true → listed.getD e.on false = true
 defers : a.defers = a0.defers
 size : a.tmps.size = a0.tmps.size
 base : ∀ t, (∀ i, i < l.length → slotOf l i ≠ some t) → a.tmps[t]? = a0.tmps[t]?
 post : ∀ i, i < l.length → listed.getD i false = true → R (fun j => listed.getD j false) i (valAt l a.tmps i) w
 glob : G (fun j => listed.getD j false) w
section
variable {P : Program}
theorem valAt_put {l : List Oper} {a : Act} {i j : Nat} {o : Oper} {v : Value} (ho : l[i]? = some o) (hne : slotOf l i = none ∨ slotOf l i ≠ slotOf l j) : valAt l (a.put o.dst v).tmps j = valAt l a.tmps j := by
 have e : slotOf l i = o.dst := by simp [slotOf, ho]
 rw [e] at hne
 unfold valAt
 cases hj : slotOf l j with
 | none => rfl
 | some d =>
  cases hd : o.dst with
  | none => rfl
  | some d' =>
   have : d' ≠ d := by
    rintro rfl
    rcases hne with h | h
    ·rw [hd] at h; cases h
    ·exact h (by rw [hd, hj])
   simp only [Act.put]
   rw [Array.getElem?_setIfInBounds_ne this]
theorem valAt_own {l : List Oper} {a : Act} {i : Nat} {o : Oper} {v : Value} (ho : l[i]? = some o) (hN : ∀ d, slotOf l i = some d → d < a.tmps.size) : valAt l (a.put o.dst v).tmps i = match o.dst with | some _ => v | none => undef := by
 have e : slotOf l i = o.dst := by simp [slotOf, ho]
 unfold valAt
 rw [e]
 cases hd : o.dst with
 | none => rfl
 | some d =>
  have := hN d (by rw [e, hd])
  simp [Act.put, this]
theorem fillSome_eq (l : List Oper) : ∀ (is : List Nat) (b c : Array Value), c.size = b.size → (∀ t, (∀ i, i ∈ is → slotOf l i ≠ some t) → c[t]? = b[t]?) → c = fillSome l is (fun i => valAt l c i) b := by
 intro is
 induction is with
 | nil =>
  intro b c hs h
  exact Array.ext_getElem? fun t => h t (fun i hi => by cases hi)
 | cons i is ih =>
  intro b c hs h
  show c = fillSome l is _ (match slotOf l i with | some d => b.setIfInBounds d (valAt l c i) | none => b)
  cases hd : slotOf l i with
  | none =>
   exact ih b c hs fun t ht => h t fun j hj => by
    rcases List.mem_cons.1 hj with rfl | hj
    ·rw [hd]; exact (fun e => by cases e)
    ·exact ht j hj
  | some d =>
   refine ih _ c (by simpa using hs) fun t ht => ?_
   by_cases hti : d = t
   ·subst hti
    have hv : valAt l c i = c[d]?.getD undef := by unfold valAt; rw [hd]
    show c[d]? = (b.setIfInBounds d (valAt l c i))[d]?
    rw [hv]
    rcases Nat.lt_or_ge d c.size with h' | h'
    ·have : d < b.size := by omega
     simp [h', this]
    ·have : b.size ≤ d := by omega
     simp [h', this]
   ·show c[t]? = (b.setIfInBounds d (valAt l c i))[t]?
    rw [Array.getElem?_setIfInBounds_ne hti]
    exact h t fun j hj => by
     rcases List.mem_cons.1 hj with rfl | hj
     ·rw [hd]; exact fun e => hti (Option.some.inj e)
     ·exact ht j hj
theorem FreeInv.wpAny {l : List Oper} {a0 : Act} {R : (Nat → Bool) → Nat → Value → World → Prop} {G : (Nat → Bool) → World → Prop} {Q : Exit → Act → World → Prop}
 (hB : freeB l a0.tmps.size = true)
 (hstep : ∀ i, i < l.length → ∀ o, l[i]? = some o → ∀ a w, a.defers = a0.defers → a.tmps.size = a0.tmps.size → (∀ t, (∀ i, i < l.length → slotOf l i ≠ some t) → a.tmps[t]? = a0.tmps[t]?) →
  ∀ L : Nat → Bool, (∀ j, j < l.length → L j = true → R L j (valAt l a.tmps j) w) → L i = false → (∀ j, Region.waitsFor .any l.toArray i j = true → L j = true) → (∀ j j', L j = true → Region.waitsFor .any l.toArray j j' = true → L j' = true) → G L w →
  ∀ K : Act → World → Prop, (∀ v w', R (upd L i) i (match o.dst with | some _ => v | none => undef) w' → G (upd L i) w' → (∀ j, j ≠ i → j < l.length → L j = true → R L j (valAt l a.tmps j) w → R (upd L i) j (valAt l a.tmps j) w') → K (a.put o.dst v) w') → Does P l o a w K Q)
 (htail : ∀ a w, a.defers = a0.defers → a.tmps.size = a0.tmps.size → (∀ t, (∀ i, i < l.length → slotOf l i ≠ some t) → a.tmps[t]? = a0.tmps[t]?) →
  ∀ L : Nat → Bool, (∀ i, i < l.length → L i = true) → (∀ i, i < l.length → R L i (valAt l a.tmps i) w) → G L w → Q .normal a w) :
 ∀ (f : Nat) (listed : Array Bool) (a : Act) (w : World), f = ((List.range l.length).filter fun i => !listed.getD i false).length → FreeInv l a0 R G listed a w → Go.wpAny P .any l.toArray Q f listed a w := by
 simp only [freeB, Bool.and_eq_true] at hB
 obtain ⟨⟨hdis, hback⟩, hin⟩ := hB
 have hne : ∀ i j, i < l.length → j < l.length → i ≠ j → slotOf l i = none ∨ slotOf l i ≠ slotOf l j := by
  intro i j hi hj hij
  have := List.all_eq_true.1 (List.all_eq_true.1 hdis i (List.mem_range.2 hi)) j (List.mem_range.2 hj)
  simp only [Bool.or_eq_true, beq_iff_eq, hij, false_or, bne_iff_ne, Option.isNone_iff_eq_none] at this
  exact this
 have hN : ∀ i, i < l.length → ∀ d, slotOf l i = some d → d < a0.tmps.size := by
  intro i hi d hd
  have := List.all_eq_true.1 hin i (List.mem_range.2 hi)
  rw [hd] at this
  simpa using this
 have done : ∀ (listed : Array Bool) (a : Act) (w : World), (∀ i, i < l.length → listed.getD i false = true) → FreeInv l a0 R G listed a w → Q .normal a w := fun listed a w hall inv =>
  htail a w inv.defers inv.size inv.base _ hall (fun i hi => inv.post i hi (hall i hi)) inv.glob
 have stuck : ∀ (listed : Array Bool), listed.size = l.length → Region.ready .any l.toArray listed = [] → ∀ i, i < l.length → listed.getD i false = true := by
  intro listed hsz hr
  have : ∀ k, ∀ i, i < k → i < l.length → listed.getD i false = true := by
   intro k
   induction k with
   | zero => intro i hi; omega
   | succ k ihk =>
    intro i hik hin'
    cases hx : listed.getD i false with
    | true => rfl
    | false =>
     exfalso
     have hun : listed.getD i true = false := getD_in (by omega) hx
     have ho : l[i]? = some l[i] := List.getElem?_eq_getElem hin'
     have hnr : i ∉ Region.ready .any l.toArray listed := by rw [hr]; simp
     apply hnr
     rw [mem_ready]
     refine ⟨hun, l[i], by simp, fun e he hb => ?_⟩
     have hlt : e.on < i := by
      have := List.all_eq_true.1 hback i (List.mem_range.2 hin')
      rw [ho] at this
      simpa [hb] using Array.all_eq_true'.1 this e he
     exact ihk e.on (by omega) (by omega)
  exact fun i hi => this l.length i hi hi
 intro f
 induction f with
 | zero =>
  intro listed a w hf inv
  have hall : ∀ i, i < l.length → listed.getD i false = true := by
   intro i hi
   cases hx : listed.getD i false with
   | true => rfl
   | false =>
    exfalso
    have : i ∈ (List.range l.length).filter fun i => !listed.getD i false := List.mem_filter.2 ⟨List.mem_range.2 hi, by simp [hx]⟩
    have := List.length_pos_of_mem this
    omega
  refine ⟨?_, done listed a w hall inv⟩
  rw [List.eq_nil_iff_forall_not_mem]
  intro i hi
  obtain ⟨hun, o, ho, _⟩ := mem_ready.1 hi
  have hil : i < l.length := by
   have := (Array.getElem?_eq_some_iff.1 ho).1
   simpa using this
  have := getD_both hun
  rw [hall i hil] at this
  cases this
 | succ f ih =>
  intro listed a w hf inv
  refine ⟨fun hr => done listed a w (stuck listed inv.size' hr) inv, fun i hi => ?_⟩
  obtain ⟨hun, o, ho', hdep⟩ := mem_ready.1 hi
  have ho : l[i]? = some o := by simpa using ho'
  have hil : i < l.length := (List.getElem?_eq_some_iff.1 ho).1
  have hunf := getD_both hun
  unfold Go.wpOp
  rw [ho']
  have hlis : ∀ j, Region.waitsFor .any l.toArray i j = true → listed.getD j false = true := by
   intro j hj
   obtain ⟨oj, hoj, e, he, hb, rfl⟩ := Region.waitsFor_spec hj
   obtain rfl : oj = o := Option.some.inj (hoj.symm.trans ho')
   exact hdep e he hb
  have hclo : ∀ j j', listed.getD j false = true → Region.waitsFor .any l.toArray j j' = true → listed.getD j' false = true := by
   intro j j' hj hw
   obtain ⟨oj, hoj, e, he, hb, rfl⟩ := Region.waitsFor_spec hw
   exact inv.closed j oj (by simpa using hoj) hj e he hb
  have eL : (fun j => (listed.setIfInBounds i true).getD j false) = upd (fun j => listed.getD j false) i := by
   have hsz := inv.size'
   funext j
   unfold upd
   by_cases hji : j = i
   ·subst hji
    rw [if_pos rfl, getD_set_self (by omega)]
   ·rw [if_neg hji, getD_set_ne false (Ne.symm hji)]
  have hK := hstep i hil o ho a w inv.defers inv.size inv.base (fun j => listed.getD j false) (fun j hj hjl => inv.post j hj hjl) hunf hlis hclo inv.glob (Go.wpAny P .any l.toArray Q f (listed.setIfInBounds i true)) (fun v w' hR hG' hkeep => by
   have hcount : f = ((List.range l.length).filter fun k => !(listed.setIfInBounds i true).getD k false).length := by
    have hmem : i ∈ (List.range l.length).filter fun k => !listed.getD k false := by
     rw [List.mem_filter]
     exact ⟨List.mem_range.2 hil, by rw [hunf]; rfl⟩
    have hnd : ((List.range l.length).filter fun k => !listed.getD k false).Nodup := List.nodup_range.filter _
    have he : ((List.range l.length).filter fun k => !(listed.setIfInBounds i true).getD k false) = ((List.range l.length).filter fun k => !listed.getD k false).erase i := by
     rw [hnd.erase_eq_filter, List.filter_filter]
     refine List.filter_congr fun k hk => ?_
     have hsz := inv.size'
     by_cases hki : k = i
     ·subst hki
      simp [getD_set_self (show k < listed.size by omega)]
     ·rw [getD_set_ne false (Ne.symm hki)]
      simp [hki]
    rw [he, List.length_erase_of_mem hmem]
    have := List.length_pos_of_mem hmem
    omega
   refine ih _ _ _ hcount ⟨by simpa using inv.size', ?_, ?_, ?_, ?_, ?_, ?_⟩
   ·intro j oj hoj hj e he hb
    by_cases hji : j = i
    ·subst hji
     obtain rfl : oj = o := Option.some.inj (hoj.symm.trans ho)
     have := hdep e he hb
     by_cases h2 : e.on = j
     ·rw [h2] at this; rw [this] at hunf; cases hunf
     ·rw [getD_set_ne false (Ne.symm h2)]; exact this
    ·rw [getD_set_ne false (Ne.symm hji)] at hj
     have := inv.closed j oj hoj hj e he hb
     by_cases h2 : e.on = i
     ·have hsz := inv.size'
      rw [h2, getD_set_self (by omega)]
     ·rw [getD_set_ne false (Ne.symm h2)]; exact this
   ·cases hd : o.dst <;> simpa [Act.put] using inv.defers
   ·cases hd : o.dst <;> simpa [Act.put] using inv.size
   ·intro t ht
    rw [← inv.base t ht]
    cases hd : o.dst with
    | none => rfl
    | some d =>
     have : d ≠ t := fun e => ht i hil (by simp [slotOf, ho, hd, e])
     simp only [Act.put]
     rw [Array.getElem?_setIfInBounds_ne this]
   ·intro j hj hjl
    rw [eL]
    by_cases hji : j = i
    ·subst hji
     rw [valAt_own ho (fun d hd => by rw [inv.size]; exact hN j hj d hd)]
     exact hR
    ·have hjl' : listed.getD j false = true := by rwa [getD_set_ne false (Ne.symm hji)] at hjl
     rw [valAt_put ho (hne i j hil hj (Ne.symm hji))]
     exact hkeep j hji hj hjl' (inv.post j hj hjl')
   ·rw [eL]; exact hG')
  cases hwt : Region.wanted o (yielded l.toArray a.tmps) with
  | true => dsimp only; rw [hwt, if_pos rfl]; exact .inl (hK.1 hwt)
  | false => dsimp only; rw [hwt, if_neg Bool.false_ne_true]; exact hK.2 hwt
theorem wp_region_free {id : Nat} {Q : Exit → Act → World → Prop} {a0 : Act} {w0 : World} {l : List Oper} (n : Nat) (hm : P.follows .mixedOrders = true)
 (N : Nat) (hN : a0.tmps.size = N) (hB : freeB l N = true) (hn : l.length = n) (S : Nat → Bool) (R : (Nat → Bool) → Nat → Value → World → Prop) (G : (Nat → Bool) → World → Prop)
 (hG : G (fun _ => false) { w0 with drawn := w0.drawn + 1 })
 (hmono : ∀ j, j < n → ∀ L i v w w', i < n → S i = false → L i = false → L j = true → Below w.heap.size w w' → R L j v w → R (upd L i) j v w')
 (hgrow : ∀ L i w w', i < n → S i = false → L i = false → Below w.heap.size w w' → G L w → G (upd L i) w')
 (hstep : ∀ i, i < n → S i = false → ∀ o, l[i]? = some o → ∀ a w, Hid (a.defers = a0.defers ∧ a.tmps.size = a0.tmps.size ∧ ∀ t, (∀ i, i < n → slotOf l i ≠ some t) → a.tmps[t]? = a0.tmps[t]?) →
  ∀ L : Nat → Bool, Hid (∀ j, L j = true → j < n → R L j (valAt l a.tmps j) w) → Hid (L i = false ∧ (∀ j, Region.waitsFor .any l.toArray i j = true → L j = true) ∧ ∀ j j', L j = true → Region.waitsFor .any l.toArray j j' = true → L j' = true) → G L w →
  ∀ K : Act → World → Prop, Hid (∀ v w', R (upd L i) i (match o.dst with | some _ => v | none => undef) w' → Below w.heap.size w w' → K (a.put o.dst v) w') → Does P l o a w K Q)
 (hspec : ∀ i, i < n → S i = true → ∀ o, l[i]? = some o → ∀ a w, Hid (a.defers = a0.defers ∧ a.tmps.size = a0.tmps.size ∧ ∀ t, (∀ i, i < n → slotOf l i ≠ some t) → a.tmps[t]? = a0.tmps[t]?) →
  ∀ L : Nat → Bool, Hid (∀ j, L j = true → j < n → R L j (valAt l a.tmps j) w) → Hid (L i = false ∧ (∀ j, Region.waitsFor .any l.toArray i j = true → L j = true) ∧ ∀ j j', L j = true → Region.waitsFor .any l.toArray j j' = true → L j' = true) → G L w →
  ∀ K : Act → World → Prop, Hid (∀ v w', R (upd L i) i (match o.dst with | some _ => v | none => undef) w' → G (upd L i) w' → (∀ j, j ≠ i → j < n → L j = true → R L j (valAt l a.tmps j) w → R (upd L i) j (valAt l a.tmps j) w') → K (a.put o.dst v) w') → Does P l o a w K Q)
 (htail : ∀ (vs : Nat → Value) w, ∀ L : Nat → Bool, (∀ i, i < n → L i = true) → (∀ i, i < n → R L i (vs i) w) → G L w → wpList P l.toArray Q [] { a0 with tmps := fillSome l (List.range n) vs a0.tmps } w) :
 (Code.region id l.toArray true).wp P Q a0 w0 := by
 subst hn
 refine wp_region_any hm ?_
 refine FreeInv.wpAny (a0 := a0) (R := R) (G := G) (by rw [hN]; exact hB) (fun i hi o ho a w h1 h2 h3 L h4 h6 h7 h8 h5 K hK => ?_) (fun a w h1 h2 h3 L h6 h4 h5 => ?_) _ _ _ _ ?_ ⟨by simp, fun j oj _ hl => (by rw [getD_replicate_false] at hl; cases hl), rfl, rfl, fun _ _ => rfl, fun i _ hl => (by rw [getD_replicate_false] at hl; cases hl), (show G (fun j => (Array.replicate l.toArray.size false).getD j false) _ from (funext fun j => getD_replicate_false _ _ : (fun j => (Array.replicate l.toArray.size false).getD j false) = fun _ => false) ▸ hG)⟩
 ·cases hS : S i with
  | false =>
   exact hstep i hi hS o ho a w (Lib.hid ⟨h1, h2, h3⟩) L (Lib.hid fun j hj hjn => h4 j hjn hj) (Lib.hid ⟨h6, h7, h8⟩) h5 K (Lib.hid fun v w' hR hb => hK v w' hR (hgrow L i w w' hi hS h6 hb h5) (fun j hji hjn hjl hu => hmono j hjn L i _ w w' hi hS h6 hjl hb hu))
  | true =>
   exact hspec i hi hS o ho a w (Lib.hid ⟨h1, h2, h3⟩) L (Lib.hid fun j hj hjn => h4 j hjn hj) (Lib.hid ⟨h6, h7, h8⟩) h5 K (Lib.hid hK)
 ·have e := fillSome_eq l (List.range l.length) a0.tmps a.tmps h2 (fun t ht => h3 t fun i hi => ht i (List.mem_range.2 hi))
  have := htail (fun i => valAt l a.tmps i) w L h6 h4 h5
  rw [← e] at this
  obtain ⟨tm, df⟩ := a
  dsimp only at h1 this
  subst h1
  exact this
 ·have : ((List.range l.length).filter fun i => !(Array.replicate l.toArray.size false).getD i false) = List.range l.length := by
   rw [List.filter_eq_self]
   intro i _
   rw [getD_replicate_false]
   rfl
  rw [this]
  simp
end
end Go.Proofs.YtjacdlekgdnndaaGreatDoor
set_option linter.unusedVariables false
namespace Go.Proofs.YtjacdlekgdnndaaGreatDoor
open Go.RowKit
theorem blk_grown {w w1 : World} {b g : Nat} {o : Obj} (h : w.heap[b]? = some o) (hg : w.grownBy w1 (some g)) (hne : g ≠ b) : w1.heap[b]? = some o :=
 (hg.block b (blk_lt h) (fun e => hne (Option.some.inj e).symm)).trans h
theorem blk_ne {w : World} {b g T T' : Nat} {c c' : Array Value} (h : w.heap[b]? = some (.cells c T (0, 0))) (h' : w.heap[g]? = some (.cells c' T' (0, 0))) (hT : T ≠ T') : b ≠ g := fun e => by
 subst e
 rw [h] at h'
 simp at h'
 exact hT h'.2
structure CS (lo g b0 : Nat) (call : CallV) (w W : World) (m i e c : Value) (k : KernV) : Prop where
 ink : InK lo W g m i e c k
 blk : W.heap[b0]? = some (.cells (call.onCells g) 150 (0, 0))
 bel : Below lo w W
 lo : lo ≤ W.heap.size
section
variable {lo g b0 : Nat} {call : CallV} {w W W' : World} {m i e c : Value} {k : KernV}
theorem CS.start (h : InK lo w g m i e c k) (hlo : lo ≤ w.heap.size) (call : CallV) : CS lo g w.heap.size call w (w.alloc (.cells (call.onCells g) 150)) m i e c k :=
 ⟨h.below (below1 _ _), heap_alloc_new _ _, (below1 _ _).mono hlo, Nat.le_trans hlo (below1 _ _).size⟩
theorem CS.below (h : CS lo g b0 call w W m i e c k) (hb : Below W.heap.size W W') : CS lo g b0 call w W' m i e c k :=
 ⟨h.ink.below hb, blk_below h.blk hb, h.bel.trans (hb.mono h.lo), Nat.le_trans h.lo hb.size⟩
theorem CS.ys (h : CS lo g b0 call w W m i e c k) : W.cell? ⟨b0, 0, none⟩ = some (.pointer (some ⟨g, 0, none⟩)) ∧ W.cell? ⟨b0, 1, none⟩ = some (.int .i64 call.k) ∧ W.cell? ⟨b0, 2, none⟩ = some (.int .i64 call.e) ∧ W.cell? ⟨b0, 3, none⟩ = some (.int .i64 call.a) ∧ W.cell? ⟨b0, 4, none⟩ = some (.int .i64 call.b) ∧ W.cell? ⟨b0, 5, none⟩ = some (.int .i64 call.c) ∧ W.cell? ⟨b0, 6, none⟩ = some (.string call.nm) := on_cells h.blk
theorem CS.xs (h : CS lo g b0 call w W m i e c k) : W.cell? ⟨g, 0, none⟩ = some m ∧ W.cell? ⟨g, 1, none⟩ = some i ∧ W.cell? ⟨g, 2, none⟩ = some e ∧ W.cell? ⟨g, 3, none⟩ = some c := h.ink.cells
theorem CS.lts (h : CS lo g b0 call w W m i e c k) : b0 < W.heap.size ∧ g < W.heap.size ∧ g ≠ b0 ∧ b0 ≠ g := ⟨blk_lt h.blk, blk_lt h.ink.1, blk_ne h.ink.1 h.blk (by decide), (blk_ne h.ink.1 h.blk (by decide)).symm⟩
theorem CS.row_ne (h : CS lo g b0 call w W m i e c k) {lo' T sz n : Nat} {v : Value} {xs : List Value} (o : W.ownsRow lo' T sz v n xs) {b : Nat} (hb : v.ownBlock = some b) (h1 : T ≠ 33) (h2 : T ≠ 150) : (b ≠ g ∧ g ≠ b) ∧ b ≠ b0 ∧ b0 ≠ b := by
 obtain ⟨cur, hc⟩ := own_type o b hb
 have a1 := blk_ne hc h.ink.1 h1
 have a2 := blk_ne hc h.blk h2
 exact ⟨⟨a1, a1.symm⟩, a2, a2.symm⟩
theorem CS.infos (h : CS lo g b0 call w W m i e c k) (hl : 0 < k.infos.length) : ∃ gi cap, i = .slice (some ⟨gi, 0, none⟩) k.infos.length cap ∧ gi < W.heap.size ∧ lo ≤ gi ∧ ((gi ≠ g ∧ g ≠ gi) ∧ gi ≠ b0 ∧ b0 ≠ gi) ∧ ∀ q, W.frozen? ⟨gi, q, none⟩ = false := by
 obtain ⟨gi, cap, e1, h1, h2, _, _, _, hz⟩ := h.ink.infoAt' hl
 refine ⟨gi, cap, e1, h1, h2, h.row_ne h.ink.2.2.2.1 (by rw [e1]; rfl) (by decide) (by decide), hz⟩
theorem CS.envs (h : CS lo g b0 call w W m i e c k) (hl : 0 < k.envs.length) : ∃ ge cap, e = .slice (some ⟨ge, 0, none⟩) k.envs.length cap ∧ ge < W.heap.size ∧ ((ge ≠ g ∧ g ≠ ge) ∧ ge ≠ b0 ∧ b0 ≠ ge) ∧ ∀ q, W.frozen? ⟨ge, q, none⟩ = false := by
 obtain ⟨ge, cap, _, _, e1, h1, _, _, _, hz⟩ := h.ink.env hl
 obtain ⟨ps, o⟩ := h.ink.2.2.2.2.1
 exact ⟨ge, cap, e1, h1, h.row_ne o.1 (by rw [e1]; rfl) (by decide) (by decide), hz⟩
theorem CS.infos_envs {gi ge n n' cap cap' : Nat} (h : CS lo g b0 call w W m (.slice (some ⟨gi, 0, none⟩) n cap) (.slice (some ⟨ge, 0, none⟩) n' cap') c k) : gi ≠ ge ∧ ge ≠ gi := by
 obtain ⟨ps, o⟩ := h.ink.2.2.2.2.1
 obtain ⟨c1, h1⟩ := own_type o.1 ge rfl
 obtain ⟨c2, h2⟩ := own_type h.ink.2.2.2.1 gi rfl
 have := blk_ne h2 h1 (by decide)
 exact ⟨this, this.symm⟩
theorem CS.info {gi n cap : Nat} (h : CS lo g b0 call w W m (.slice (some ⟨gi, 0, none⟩) n cap) e c k) (hn : n = k.infos.length) {f : Nat} (hf : f < k.infos.length) (r : Int) :
 CS lo g b0 call w (W.setCell ⟨gi, f * 3 + 2, none⟩ (.int .i64 ((infoAt k.infos f).r + r))) m (.slice (some ⟨gi, 0, none⟩) n cap) e c { k with infos := modAt k.infos f (addR r) } := by
 have T := h.ink.info hn (infoAt_get hf) (j := 2) (by decide) (y := addR r (infoAt k.infos f)) (u := .int .i64 ((infoAt k.infos f).r + r)) rfl
 rw [← modAt_info] at T
 obtain ⟨c2, h2⟩ := own_type h.ink.2.2.2.1 gi rfl
 exact ⟨T.1, blk_grown h.blk T.2.1 (blk_ne h2 h.blk (by decide)), below_grown h.bel T.2.1 T.2.2 h.lo, Nat.le_trans h.lo T.2.1.size⟩
theorem CS.root {ge n cap : Nat} (h : CS lo g b0 call w W m i (.slice (some ⟨ge, 0, none⟩) n cap) c k) (hn : n = k.envs.length) {j : Nat} (hj : j < k.envs.length) (r : Int) :
 CS lo g b0 call w (W.setCell ⟨ge, j * 2 + 1, none⟩ (.int .i64 r)) m i (.slice (some ⟨ge, 0, none⟩) n cap) c { k with envs := modAt k.envs j (setRoot r) } := by
 have T := h.ink.root hn hj r
 obtain ⟨ps, o⟩ := h.ink.2.2.2.2.1
 obtain ⟨c2, h2⟩ := own_type o.1 ge rfl
 exact ⟨T.1, blk_grown h.blk T.2.1 (blk_ne h2 h.blk (by decide)), below_grown h.bel T.2.1 T.2.2 h.lo, Nat.le_trans h.lo T.2.1.size⟩
theorem CS.cache (h : CS lo g b0 call w W m i e c k) (hb : Below W.heap.size W W') {c' : Value} {xs : List CachedV} (h2 : OwnF W.heap.size 94 4 cachedCs W' c' xs) : CS lo g b0 call w (W'.setCell ⟨g, 3, none⟩ c') m i e c' { k with cache := xs } := by
 have h' := h.below hb
 exact ⟨h.ink.cache h.lo hb h2, blk_grown h'.blk (grown_set W' g 3 c') h.lts.2.2.1, h'.bel.setCell h.ink.2.1 _, by simpa using h'.lo⟩
theorem CS.newInfos (h : CS lo g b0 call w W m i e c k) (hb : Below W.heap.size W W') {i' : Value} {xs : List InfoV} (h2 : OwnF W.heap.size 89 3 infoCs W' i' xs) : CS lo g b0 call w (W'.setCell ⟨g, 1, none⟩ i') m i' e c { k with infos := xs } := by
 have h' := h.below hb
 exact ⟨h.ink.infos h.lo hb h2, blk_grown h'.blk (grown_set W' g 1 i') h.lts.2.2.1, h'.bel.setCell h.ink.2.1 _, by simpa using h'.lo⟩
theorem CS.fzi {gi n cap : Nat} (h : CS lo g b0 call w W m (.slice (some ⟨gi, 0, none⟩) n cap) e c k) (q : Nat) : W.frozen? ⟨gi, q, none⟩ = false := by
 obtain ⟨cur, hc⟩ := own_type h.ink.2.2.2.1 gi rfl
 exact blk_frozen hc q
theorem CS.fze {ge n cap : Nat} (h : CS lo g b0 call w W m i (.slice (some ⟨ge, 0, none⟩) n cap) c k) (q : Nat) : W.frozen? ⟨ge, q, none⟩ = false := by
 obtain ⟨ps, o⟩ := h.ink.2.2.2.2.1
 obtain ⟨cur, hc⟩ := own_type o.1 ge rfl
 exact blk_frozen hc q
theorem CS.ge_lt {ge n cap : Nat} (h : CS lo g b0 call w W m i (.slice (some ⟨ge, 0, none⟩) n cap) c k) : ge < W.heap.size := by
 obtain ⟨ps, o⟩ := h.ink.2.2.2.2.1
 exact (World.ownsRow.lt o.1 ge rfl).2
theorem CS.gi_lt {gi n cap : Nat} (h : CS lo g b0 call w W m (.slice (some ⟨gi, 0, none⟩) n cap) e c k) : gi < W.heap.size := (World.ownsRow.lt h.ink.2.2.2.1 gi rfl).2
theorem CS.env {ge n cap : Nat} (h : CS lo g b0 call w W m i (.slice (some ⟨ge, 0, none⟩) n cap) c k) {j : Nat} (hj : j < k.envs.length) :
 ∃ ua uc, W.cell? ⟨ge, j * 2, none⟩ = some (.slice ua (envAt k.envs j).rights.length uc) ∧ W.cell? ⟨ge, j * 2 + 1, none⟩ = some (.int .i64 (envAt k.envs j).root) ∧ RdStrs W (.slice ua (envAt k.envs j).rights.length uc) (envAt k.envs j).rights := by
 obtain ⟨ge', cap', ua, uc, e1, _, d0, d1, R, _⟩ := h.ink.env hj
 cases e1
 exact ⟨ua, uc, d0, d1, R⟩
theorem CS.infoAt {gi n cap : Nat} (h : CS lo g b0 call w W m (.slice (some ⟨gi, 0, none⟩) n cap) e c k) {f : Nat} (hf : f < k.infos.length) :
 W.cell? ⟨gi, f * 3, none⟩ = some (.int .i64 (infoAt k.infos f).k) ∧ W.cell? ⟨gi, f * 3 + 1, none⟩ = some (.string (infoAt k.infos f).g) ∧ W.cell? ⟨gi, f * 3 + 2, none⟩ = some (.int .i64 (infoAt k.infos f).r) := by
 obtain ⟨gi', cap', e1, _, _, d0, d1, d2, _⟩ := h.ink.infoAt' hf
 cases e1
 exact ⟨d0, d1, d2⟩
theorem CS.mems (h : CS lo g b0 call w W m i e c k) (hok : memOk k.mem = true) : ∃ gm cap, m = .slice (some ⟨gm, 0, none⟩) 12 cap ∧ gm < W.heap.size ∧ (gm ≠ g ∧ g ≠ gm) ∧ gm ≠ b0 ∧ b0 ≠ gm := by
 obtain ⟨gm, cap, _, _, _, e1, h1, h2, _⟩ := h.ink.memRow hok (f := 0) (by omega)
 obtain ⟨vs, o⟩ := h.ink.2.2.1
 exact ⟨gm, cap, e1, h1, h.row_ne o.1 (by rw [e1]; rfl) (by decide) (by decide)⟩
theorem CS.mrow {gm n cap : Nat} (h : CS lo g b0 call w W (.slice (some ⟨gm, 0, none⟩) n cap) i e c k) (hok : memOk k.mem = true) {f : Nat} (hf : f < 12) :
 ∃ gw capw, W.cell? ⟨gm, f, none⟩ = some (.slice (some ⟨gw, 0, none⟩) 4 capw) ∧ gw < W.heap.size ∧ 4 ≤ capw ∧ (∀ j, j < 4 → W.cell? ⟨gw, j, none⟩ = some (.int .i64 (wdAt k.mem f j))) ∧ (∀ q, W.frozen? ⟨gw, q, none⟩ = false) ∧ ((gw ≠ g ∧ g ≠ gw) ∧ gw ≠ b0 ∧ b0 ≠ gw) ∧ (gw ≠ gm ∧ gm ≠ gw) ∧ (∀ b cu T, W.heap[b]? = some (.cells cu T (0, 0)) → T ≠ 3 → gw ≠ b) ∧
  ∀ j v, j < 4 → CS lo g b0 call w (W.setCell ⟨gw, j, none⟩ (.int .i64 v)) (.slice (some ⟨gm, 0, none⟩) n cap) i e c { k with mem := setWd k.mem f j v } := by
 obtain ⟨gm', cap', gw, capw, vs, e1, _, _, hc, hl, hlo, h1, h2, o, hu, hx⟩ := h.ink.memRow hok hf
 cases e1
 have h4 := (rowOk_iff.1 ((memOk_iff.1 hok).2 f hf)).1
 have hx4 : W.ownsRow lo 3 1 (.slice (some ⟨gw, 0, none⟩) 4 capw) 4 ((rowAt k.mem f).map (Value.int .i64)) := by have := hx; unfold OwnInts at this; rwa [h4] at this
 have hc4 : 4 ≤ capw := by
  obtain ⟨_, _, hv, hcc, _⟩ := RdInts.open (OwnInts.rd hx)
  simp only [Value.slice.injEq] at hv
  obtain ⟨_, _, rfl⟩ := hv
  omega
 obtain ⟨cur, hcur⟩ := own_type hx4 gw rfl
 refine ⟨gw, capw, hc, hl, hc4, fun j hj => ?_, fun q => World.ownsRow.frozenAt hx4 q, h.row_ne hx4 rfl (by decide) (by decide), ⟨h2, h2.symm⟩, fun b cu T hb hT => blk_ne hcur hb (Ne.symm hT), fun j v hj => ?_⟩
 ·have := World.ownsRow.cellAt hx4 j hj
  rw [this, List.getElem?_map]
  unfold wdAt
  rw [getD_lt (d := 0) (by omega)]
  rfl
 ·have S := World.ownsRow.stored hx4 j (.int .i64 v)
  have hO : OwnInts lo (W.setCell ⟨gw, j, none⟩ (.int .i64 v)) (.slice (some ⟨gw, 0, none⟩) 4 capw) ((rowAt k.mem f).set j v) := by
   unfold OwnInts
   rw [List.length_set, h4, List.map_set]
   exact S.1
  have T := h.ink.row o (by rw [(memOk_iff.1 hok).1]; exact hf) hu hO S.2
  rw [← setWd_eq] at T
  exact ⟨T, blk_grown h.blk S.2 (blk_ne hcur h.blk (by decide)), below_grown h.bel S.2 hlo h.lo, Nat.le_trans h.lo S.2.size⟩
end
def CSor (W : World) (lo g b0 : Nat) (call : CallV) (w : World) (m i e : Value) (k : KernV) (b : Bool) (ww : World) : Prop := match b with
 | false => Below W.heap.size W ww
 | true => ∃ c', CS lo g b0 call w ww m i e c' k
theorem CSor.grow {W : World} {lo g b0 : Nat} {call : CallV} {w : World} {m i e : Value} {k : KernV} {b : Bool} {ww ww' : World} (h : CSor W lo g b0 call w m i e k b ww) (hb : Below ww.heap.size ww ww') : CSor W lo g b0 call w m i e k b ww' := by
 cases b
 ·exact Below.trans h (hb.mono h.size)
 ·obtain ⟨c', h⟩ := h
  exact ⟨c', h.below hb⟩
theorem own_keep {α : Type} {lo e sz : Nat} {cs : α → List Value} {w : World} {v u : Value} {xs : List α} {g j : Nat} (h : OwnF lo e sz cs w v xs) (hg : g < lo) : OwnF lo e sz cs (w.setCell ⟨g, j, none⟩ u) v xs :=
 OwnF.grown h (grown_set w g j u) (by
  rcases hv : v.ownBlock with _ | b
  ·exact .inl rfl
  ·refine .inr fun e => ?_
   cases e
   have := (World.ownsRow.lt h g hv).1
   omega)
theorem upd_of {L : Nat → Bool} {i j : Nat} (h : i ≠ j) : upd L i j = L j := if_neg (fun e => h e.symm)
theorem upd_at {L : Nat → Bool} {i : Nat} : upd L i i = true := if_pos rfl
theorem CS.callEnv {lo g b0 : Nat} {call : CallV} {w W : World} {m i c : Value} {k : KernV} {ge n cap en : Nat} (h : CS lo g b0 call w W m i (.slice (some ⟨ge, 0, none⟩) n cap) c k) (he : call.e = (en : Int)) (hn : en < n) (W' : World) (hb : Below W.heap.size W W') :
 Calls Tryz.prog 222 #[call.on g] W' fun e w' => e = .returned (.pointer (some ⟨ge, en * 2, none⟩)) ∧ Below W'.heap.size W' w' := env_any g ge n cap en call W' (h.below hb).xs.2.2.1 he hn
end Go.Proofs.YtjacdlekgdnndaaGreatDoor
