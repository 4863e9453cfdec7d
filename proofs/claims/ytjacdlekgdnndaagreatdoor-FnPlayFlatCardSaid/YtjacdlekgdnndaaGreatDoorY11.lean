/-
  Packed: 6 texts.
-/
import Derived.Test.YtjacdlekgdnndaaGreatDoorY10
import Derived.Deep.DeepCutAuto
import Derived.Test.YtjacdlekgdnndaaGreatDoorY8
import Derived.Test.YtjacdlekgdnndaaGreatDoorY2
import Derived.Test.YtjacdlekgdnndaaGreatDoorY1
set_option linter.unusedVariables false
namespace Go.Proofs.YtjacdlekgdnndaaGreatDoor
open Go.RowKit
def pokesTo (k : KernV) (f : Int) (ws : List Int) (j : Nat) : KernV := (List.range j).foldl (fun k i => (callP k (pgCall 3 f (i : Nat) (ws.getD i 0))).1) k
theorem pokesTo_succ {k : KernV} {f : Int} {ws : List Int} {j : Nat} : pokesTo k f ws (j + 1) = (callP (pokesTo k f ws j) (pgCall 3 f (j : Int) (ws.getD j 0))).1 := by
 unfold pokesTo
 rw [List.range_succ, List.foldl_append]
 rfl
theorem pokesTo_ok {k : KernV} (h : KOk k) {f : Int} {ws : List Int} (j : Nat) : KOk (pokesTo k f ws j) := by
 induction j with
 | zero => exact h
 | succ j ih => rw [pokesTo_succ]; exact callP_pg ih
theorem inP_of {p : PagerV} {n : Nat} {k1 : KernV} {fr : Int} (h : callP p.kern (pgCall 1 0 0 0) = (k1, fr, 0)) :
 inP p n = ({ p with kern := (callP (if (pageAt p.pages n).w = 2 then pokes k1 fr (rowAt p.swap (pageAt p.pages n).a.toNat) else k1) (setCall p n (ent fr))).1, swap := if (pageAt p.pages n).w = 2 then p.swap.set (pageAt p.pages n).a.toNat [] else p.swap, pages := p.pages.set n ⟨1, fr, true⟩ }, true) := by
 unfold inP
 rw [h]
 simp only
 rw [if_neg (by simp)]
theorem grown_at {w w' : World} {g b o : Nat} {v : Value} (h : w.grownBy w' (some g)) (hne : b ≠ g) (hc : w.cell? ⟨b, o, none⟩ = some v) : w'.cell? ⟨b, o, none⟩ = some v :=
 (grown_cell h (World.block_lt_of_cell? w _ hc) (fun e => hne (Option.some.inj e).symm)).trans hc
def BringRes (lo g : Nat) (w : World) (sv lv qv : Value) (t : PagerV × Bool) (r : Ending) (w' : World) : Prop :=
 r = .returned (.bool t.2) ∧ (t.2 = true → ∃ m i e c, InP lo g w' m i e c sv lv qv t.1) ∧ Below lo w w'
set_option maxRecDepth 100000 in
set_option maxHeartbeats 4000000 in
theorem bring_any {lo g : Nat} {w : World} {mv iv ev cv sv lv qv : Value} {P : PagerV} (h : InP lo g w mv iv ev cv sv lv qv P) (hlo : lo ≤ w.heap.size) (hP : POk P) {n : Nat} (hn : n < 16) :
 Calls Tryz.prog 203 #[.pointer (some ⟨g, 0, none⟩), .int .i64 (n : Int)] w (BringRes lo g w sv lv qv (touchP P n)) := by
 obtain ⟨gq, qc, rfl, hqc, hloq, hgq, ngq, _⟩ := h.page (n := 0) (by rw [hP.pagel]; omega)
 rw [hP.pagel] at h hqc ⊢
 unfold BringRes
 have hPO := Lib.hid hP
 have HI := Lib.hid h
 have Hlo := Lib.hid hlo
 have hni : (n : Int) < 16 := by omega
 have ngq' := ngq.symm
 obtain ⟨_, _, _, _, _, _, x6, _, _⟩ := h.cells
 obtain ⟨hqw, fq, p0, p1, p2⟩ := h.pg (n := n) (by rw [hP.pagel]; exact hn)
 have hx : P.pages[n]? = some (pageAt P.pages n) := by unfold pageAt; exact getD_lt (by rw [hP.pagel]; exact hn)
 by_cases hw : (pageAt P.pages n).w = 1
 ·have HT := Lib.hid (touch_in hP hw)
  have hI2 := h.putPage (n := n) (x := pageAt P.pages n) (y := { pageAt P.pages n with u := true }) (j := 2) (u := .bool true) hP.pagel.symm hx (by decide) rfl
  have B2 := Lib.hid (below_grown (Below.refl _ _) hI2.2.1 hI2.2.2 hlo)
  have HI2 := Lib.hid hI2.1
  rw [hw] at p0
  clear h hP hlo hx hI2 hw
  go_enter Tryz.func203, Tryz.ntmps203
  go_wp2_with fail
  go_ret
  refine ⟨ret_bool (by rw [HT.out]), fun _ => ⟨mv, iv, ev, cv, ?_⟩, B2.out⟩
  rw [HT.out]
  exact HI2.out
 ·have t0 : ((pageAt P.pages n).w == 1) = false := by simp [hw]
  have hw' := Lib.hid hw
  have CN := Lib.hid (pcount_any (w := w) x6 (by have := h.own.pgs.rd; exact this) hP.pagel 1)
  have hcl : countW P.pages 1 ≤ 16 := by unfold countW; exact Nat.le_trans List.countP_le_length (Nat.le_of_eq hP.pagel)
  have CF := Lib.hid (fun W (hW : Below w.heap.size w W) => firstFree_any iv P.kern.infos W (RdF.below h.own.ker.2.1.rd hW))
  have T1 := Lib.hid (touch_none (p := P) (n := n) hw)
  have T2 := Lib.hid (touch_free hP hw)
  have T3 := Lib.hid (touch_full hP hn hw)
  have FP : fullP P = (decide (freeP P.kern.infos < 0) || decide ((countW P.pages 1 : Int) = P.limit)) := rfl
  have HFPn := Lib.hid FP
  have hlim := hP.limit
  have HP0 := Lib.hid hP
  generalize (pageAt P.pages n).w = pw at p0 t0
  clear h hP hlo hx hw FP p1 p2
  go_enter Tryz.func203, Tryz.ntmps203
  go_wp2_with fail
  refine CN.out.mono ?_; rintro r w1 ⟨rfl, b1⟩
  have x1 := (HI.out.below b1).cells.2.1
  have Hb1 := Lib.hid b1
  clear p0 fq hqw CN x6 b1
  go_wp2_with fail
  refine (CF.out _ Hb1.out).mono ?_; rintro r w2 ⟨rfl, b2⟩
  have HI2 := Lib.hid (HI.out.below (Hb1.out.trans (b2.mono Hb1.out.size)))
  have HB2 := Lib.hid ((Hb1.out.trans (b2.mono Hb1.out.size)).mono Hlo.out)
  have hlo2 := Lib.hid (Nat.le_trans Hlo.out (Nat.le_trans Hb1.out.size b2.size))
  have x8 := HI2.out.cells.2.2.2.2.2.2.2.2
  clear b2 x1 HI CF
  have tc : (((countW P.pages 1 : Nat) : Int) == 0) = decide (countW P.pages 1 = 0) := by by_cases e : countW P.pages 1 = 0 <;> simp [e]
  have tl : (((countW P.pages 1 : Nat) : Int) == P.limit) = decide ((countW P.pages 1 : Int) = P.limit) := by by_cases e : (countW P.pages 1 : Int) = P.limit <;> simp [e]
  go_upto_region 7 with fail
  have HF0 := Lib.hid (show decide (freeP P.kern.infos < 0) = true ↔ freeP P.kern.infos < 0 by simp)
  rw [show (decide (freeP P.kern.infos < 0)) = decide (freeP P.kern.infos < 0) from rfl] at HFPn
  generalize decide (freeP P.kern.infos < 0) = fb at HF0 HFPn ⊢
  go_cut [40] (fun s40 wx => s40 = .bool (fb && decide (countW P.pages 1 = 0)) ∧ w2 = wx)
  case first =>
   cases fb
   ·go_wp2_with fail
    go_meet
    case rel => exact ⟨rfl, rfl⟩
   ·go_wp2_with fail
    go_meet
    case rel => exact ⟨by simp, rfl⟩
  case rest =>
   obtain ⟨rfl, rfl⟩ := hcut
   cases hno : (fb && decide (countW P.pages 1 = 0))
   ·go_upto_region 9 with fail
    go_cut [49] (fun s49 wx => s49 = .bool (fb || decide ((countW P.pages 1 : Int) = P.limit)) ∧ w2 = wx)
    case first =>
     cases fb
     ·go_wp2_with fail
      go_meet
      case rel => exact ⟨by simp, rfl⟩
     ·go_wp2_with fail
      go_meet
      case rel => exact ⟨rfl, rfl⟩
    case rest =>
    obtain ⟨rfl, rfl⟩ := hcut
    rw [← HFPn.out]
    go_upto_if 49 with fail
    go_cut [] (fun wx => ∃ P1 m i e c, InP lo g wx m i e c sv lv (.slice (some ⟨gq, 0, none⟩) 16 qc) P1 ∧ Below lo w wx ∧ lo ≤ wx.heap.size ∧ POk P1 ∧ 0 ≤ freeP P1.kern.infos ∧ (pageAt P1.pages n).w ≠ 1 ∧ touchP P n = inP P1 n)
    case first =>
     have hno' : ¬ (freeP P.kern.infos < 0 ∧ countW P.pages 1 = 0) := fun h => by
      rw [HF0.out.2 h.1, h.2] at hno
      cases hno
     cases hf : fullP P
     ·have HF := T2.out hf
      go_wp2_with fail
      go_meet
      case rel => exact ⟨P, _, _, _, _, HI2.out, HB2.out, hlo2.out, HP0.out, HF.2, hw'.out, HF.1⟩
     ·obtain ⟨mm, pgs, hd, hFull⟩ := T3.out hf hno'
      have CM := Lib.hid (moveOut_any HI2.out hlo2.out HP0.out hFull.vic)
      have HFull := Lib.hid hFull
      clear hFull
      go_wp2_with fail
      refine CM.out.mono ?_; rintro r w3 ⟨rfl, ⟨m1, i1, e1, c1, I1⟩, hb3⟩
      have HI1 := Lib.hid I1
      have HB1 := Lib.hid (HB2.out.trans hb3)
      have hlo1 := Lib.hid (Nat.le_trans hlo2.out hb3.size)
      clear I1 hb3 CM
      go_wp2_with fail
      go_meet
      case rel => exact ⟨_, _, _, _, _, HI1.out, HB1.out, hlo1.out, HFull.out.ok2, HFull.out.free, HFull.out.nw, HFull.out.is⟩
    case rest =>
    obtain ⟨P1, m1, i1, e1, c1, I1, B1, l1, O1, f1, n1, t1⟩ := hcut
    have HI1 := Lib.hid I1
    have HB1 := Lib.hid B1
    have hlo1 := Lib.hid l1
    have HOK := Lib.hid O1
    have HFR := Lib.hid f1
    have HIS0 := Lib.hid t1
    clear I1 B1 l1 O1 f1 t1 x8 HI2 HB2 hlo2 hno tc tl HF0 T1 T2 T3 HFPn
    have C1 := pcall_any HI1.out hlo1.out HOK.out.k ⟨1, 0, 0, 0, 0, gA⟩ (show (0 : Int) ≤ 0 by decide) (show (0 : Int) < 3 by decide) (by decide) (show (0 : Int) ≤ 9223372036854775807 by decide)
    obtain ⟨k1, fr, hcall, hfr0, hfr11, hk1⟩ : ∃ k1 fr, callP P1.kern (pgCall 1 0 0 0) = (k1, fr, 0) ∧ 0 ≤ fr ∧ fr ≤ 11 ∧ KOk k1 := by
     obtain ⟨g1, _, _⟩ := freeP_some (infos := P1.kern.infos) (by have := HFR.out; omega)
     rw [HOK.out.k.len] at g1
     have hk := callP_pg (kind := 1) (a := 0) (b := 0) (c := 0) HOK.out.k
     have e := take_done (k := P1.kern) HOK.out.may HFR.out (a := 0) (b := 0) (c := 0)
     rw [e] at hk
     exact ⟨_, _, e, HFR.out, by have := HFR.out; omega, hk⟩
    have hIS := HIS0.out
    rw [inP_of hcall] at hIS
    unfold PEnd at C1
    rw [show (⟨1, 0, 0, 0, 0, gA⟩ : CallV) = pgCall 1 0 0 0 from rfl, hcall] at C1
    have Hfr := Lib.hid (And.intro hfr0 hfr11)
    have HK1 := Lib.hid hk1
    clear hcall hfr0 hfr11 hk1 HFR
    go_wp2_with fail
    refine C1.mono ?_; rintro r w2 ⟨rfl, ⟨m2, i2, e2, c2, I2, _⟩, hb2, hg2⟩
    have B2 := Lib.hid (HB1.out.trans hb2)
    have hlo2 := Lib.hid (Nat.le_trans hlo1.out hg2.size)
    obtain ⟨hq2, fq2, p0, p1, p2⟩ := I2.pg (n := n) (by show n < P1.pages.length; rw [HOK.out.pagel]; exact hn)
    have HI2 := Lib.hid I2
    simp only at p0 p1
    clear C1 hb2 hg2 I2
    by_cases hw2 : (pageAt P1.pages n).w = 2
    ·rw [if_pos hw2, if_pos hw2] at hIS
     have hpg : (0 ≤ (pageAt P1.pages n).a ∧ (pageAt P1.pages n).a ≤ 15) ∧ rowOk (rowAt P1.swap (pageAt P1.pages n).a.toNat) = true := by
      rcases HOK.out.pages n hn with ⟨x, _⟩ | ⟨x, _⟩ | ⟨x1, x2, x3, x4, x5⟩
      ·omega
      ·omega
      ·rcases HOK.out.swapr (pageAt P1.pages n).a.toNat (by omega) with x | x
       ·exact absurd x x3
       ·exact ⟨by omega, x⟩
     obtain ⟨⟨ha0, ha15⟩, hrow⟩ := hpg
     obtain ⟨sl, hsl⟩ : ∃ sl : Nat, (pageAt P1.pages n).a = (sl : Int) := ⟨(pageAt P1.pages n).a.toNat, by omega⟩
     have hsl16 : sl < 16 := by omega
     have hsli : (sl : Int) < 16 := by omega
     rw [hsl, Int.toNat_natCast] at hrow hIS
     rw [hsl] at p1
     rw [hw2] at p0
     have HIS1 := Lib.hid hIS
     obtain ⟨hr4, hwd⟩ := rowOk_iff.1 hrow
     obtain ⟨svs, hsw⟩ := HI2.out.own.swp
     have hsw' : OwnRows lo w2 sv svs P1.swap := hsw
     have hsl' : P1.swap.length = 16 := HOK.out.swapl
     have hvl : svs.length = 16 := by rw [hsw'.2.1.1, hsl']
     obtain ⟨gs, sc, e1, hsc, _, hlgs, hgs, _⟩ := hsw'.1.shapeOwn (by omega)
     rw [hvl] at e1 hsc
     subst e1
     obtain ⟨gr, rc, hu, hxr, _, _⟩ := hsw'.row (f := sl) (by omega) (by omega)
     rw [hr4] at hu hxr
     have DR := OwnF.cellsAt oneCs_len (by rw [hvl]; exact hsw'.1) hu 0 _ rfl
     rw [Nat.mul_one, Nat.add_zero] at DR
     have x4 := HI2.out.cells.2.2.2.2.1
     have hRow := OwnInts.rd hxr
     have ngr : gr ≠ g := by
      obtain ⟨cur, hc⟩ := own_type hxr gr rfl
      exact blk_ne hc HI2.out.blk (by decide)
     have DW : ∀ j, j < 4 → w2.cell? ⟨gr, j, none⟩ = some (.int .i64 ((rowAt P1.swap sl).getD j 0)) := fun j hj => by
      have := World.ownsRow.cellAt (show w2.ownsRow lo 3 1 (.slice (some ⟨gr, 0, none⟩) 4 rc) 4 ((rowAt P1.swap sl).map (Value.int .i64)) by have := hxr; unfold OwnInts at this; rwa [hr4] at this) j hj
      rw [this, List.getElem?_map, getD_lt (d := 0) (by omega)]
      rfl
     have Hr := Lib.hid (And.intro hr4 hwd)
     have HDW := Lib.hid DW
     clear hIS hsw hsw' hu hxr hRow hrow hr4 hwd ha0 ha15 hvl hsl' DW hw2
     go_wp2_with fail
     go_quiet (fail)
     generalize hwq : w2.drewN _ = w3
     have b3 : Below w2.heap.size w2 w3 := by subst hwq; exact below_drewN (Below.refl _ _) _
     have HI3 := Lib.hid (HI2.out.below b3)
     have g3 : w2.grownBy w3 (some g) := grown_below b3 _
     have HG3 := Lib.hid g3
     have B3 := Lib.hid (B2.out.trans (b3.mono hlo2.out))
     clear hwq b3 g3 x4 p0 p1 p2 fq2 hq2 DR
     go_wp2_with fail
     go_loopw [9, 10, 71] (fun _ _ ix wr => ∃ k : Nat, k ≤ 4 ∧ ix = .int .i64 k ∧ (∃ m i e c, InP lo g wr m i e c (.slice (some ⟨gs, 0, none⟩) 16 sc) lv (.slice (some ⟨gq, 0, none⟩) 16 qc) { P1 with kern := pokesTo k1 fr (rowAt P1.swap sl) k }) ∧ w2.grownBy wr (some g) ∧ Below lo w wr) (fun _ _ ix _ => 4 - (intOf ix).toNat)
     case atStart => exact ⟨0, by omega, rfl, ⟨_, _, _, _, HI3.out⟩, HG3.out, B3.out⟩
     case round =>
      obtain ⟨k, hk, rfl, ⟨m4, i4, e4, c4, I4⟩, hg4, B4⟩ := hrel
      have hlo4 : lo ≤ wr.heap.size := Nat.le_trans hlo2.out hg4.size
      by_cases hk4 : k < 4
      ·have k4 : (k : Int) < 4 := by omega
       have DW := grown_at hg4 ngr (HDW.out k hk4)
       have hwk : (rowAt P1.swap sl).getD k 0 ≤ 9223372036854775807 := by have := (Hr.out.2 _ (getD_mem (d := 0) (show k < (rowAt P1.swap sl).length by rw [Hr.out.1]; exact hk4))).2; omega
       have C4 := Lib.hid (pcall_any I4 hlo4 (pokesTo_ok HK1.out k) ⟨3, 0, fr, (k : Int), (rowAt P1.swap sl).getD k 0, ⟨#[]⟩⟩ (show (0 : Int) ≤ 0 by decide) (show (0 : Int) < 3 by decide) (Nat.zero_le _) hwk)
       have Hg4 := Lib.hid hg4
       have HB4 := Lib.hid B4
       have Hps := Lib.hid (pokesTo_succ (k := k1) (f := fr) (ws := rowAt P1.swap sl) (j := k))
       generalize (rowAt P1.swap sl).getD k 0 = wd at *
       clear I4 hg4 B4 hwk
       go_wp2_with fail
       refine C4.out.mono ?_; rintro r w5 ⟨rfl, ⟨m5, i5, e5, c5, I5, _⟩, hb5, hg5⟩
       have I5' : InP lo g w5 m5 i5 e5 c5 (.slice (some ⟨gs, 0, none⟩) 16 sc) lv (.slice (some ⟨gq, 0, none⟩) 16 qc) { P1 with kern := pokesTo k1 fr (rowAt P1.swap sl) (k + 1) } := by
        rw [callP_nm (t := gA) ⟨by decide, by decide, by decide⟩] at I5
        rw [Hps.out]
        exact I5
       have HI5 := Lib.hid I5'
       have G5 := Lib.hid (grown_trans Hg4.out hg5)
       have B5 := Lib.hid (HB4.out.trans hb5)
       clear I5 I5' hb5 hg5 C4 DW
       go_wp2_with fail
       go_roundw
       case rel => exact ⟨k + 1, by omega, by go_num, ⟨_, _, _, _, HI5.out⟩, G5.out, B5.out⟩
       case measure => simp [intOf]; omega
      ·obtain rfl : k = 4 := by omega
       rw [show ((4 : Nat) : Int) = 4 from rfl]
       have HI4 := Lib.hid I4
       have HB4 := Lib.hid B4
       have Hlo4 := Lib.hid hlo4
       generalize hW4 : wr = W4 at *
       clear I4 hg4 B4 hW4
       have x4 := HI4.out.cells.2.2.2.2.1
       have hg4 := blk_lt HI4.out.blk
       obtain ⟨hq4, fq4, _, p1, _⟩ := HI4.out.pg (n := n) (by show n < P1.pages.length; rw [HOK.out.pagel]; exact hn)
       replace p1 : W4.cell? ⟨gq, n * 3 + 1, none⟩ = some (.int .i64 (pageAt P1.pages n).a) := p1
       rw [hsl] at p1
       go_wp2_with fail
       refine wp_region_grow 9 Tryz.mixed (by kernel_rfl) 105 rfl (by kernel_rfl) (fun ix vv ww => match ix with
        | 0 => vv = .pointer (some ⟨g, 0, none⟩)
        | 1 => vv = .pointer (some ⟨g, 0, none⟩)
        | 2 => vv = .pointer (some ⟨g, 4, none⟩)
        | 3 => vv = .slice (some ⟨gs, 0, none⟩) 16 sc
        | 4 => vv = .pointer (some ⟨gq, n * 3, none⟩)
        | 5 => vv = .pointer (some ⟨gq, n * 3, none⟩)
        | 6 => vv = .pointer (some ⟨gq, n * 3 + 1, none⟩)
        | 7 => vv = .int .i64 ((sl : Int))
        | 8 => vv = .pointer (some ⟨gs, sl, none⟩)
        | _ => True) ?_ ?_ ?_
       ·intro i hi vv wz ww' hbz hz
        match i, hi with
        | 0, _ | 1, _ | 2, _ | 3, _ | 4, _ | 5, _ | 6, _ | 7, _ | 8, _ => exact hz
       ·intro i hi o ho a wx Hb Hd hG K HK
        match i, hi with
        | 0, _ => exact dM ho rfl (gn rfl) HK rfl (eb (Hb.out.2.2 0 (by decide))) rfl
        | 1, _ => exact dC ho rfl (gn rfl) HK rfl (et (Hd.out 0 (by kernel_rfl))) rfl
        | 2, _ => exact dF ho rfl (gn rfl) HK rfl fA46_1 (et (Hd.out 1 (by kernel_rfl))) rfl
        | 3, _ => exact dL ho rfl (gn rfl) HK rfl (et (Hd.out 2 (by kernel_rfl))) (lA28 (bc hG hg4 x4)) rfl
        | 4, _ => exact dM ho rfl (gn rfl) HK rfl (eb (Hb.out.2.2 5 (by decide))) rfl
        | 5, _ => exact dC ho rfl (gn rfl) HK rfl (et (Hd.out 4 (by kernel_rfl))) rfl
        | 6, _ => exact dF ho rfl (gn rfl) HK rfl fA169_1 (et (Hd.out 5 (by kernel_rfl))) rfl
        | 7, _ => exact dL ho rfl (gn rfl) HK rfl (et (Hd.out 6 (by kernel_rfl))) (lA3 (bc hG hq4 p1)) rfl
        | 8, _ =>
         obtain rfl := Option.some.inj ho
         have d3 : (a.tmps[86]?.getD undef) = .slice (some ⟨gs, 0, none⟩) 16 sc := Hd.out 3 (by kernel_rfl)
         have d7 : (a.tmps[90]?.getD undef) = .int .i64 ((sl : Int)) := Hd.out 7 (by kernel_rfl)
         clear Hd Hb
         refine Does.of rfl ?_
         go_simp
         exact HK.out _ _ rfl (Below.refl _ _)
       ·intro vs wx hR hG
        have q8 : (vs 8) = .pointer (some ⟨gs, sl, none⟩) := hR 8 (by decide)
        clear hR
        simp only [fillAt, dstOf, List.range, List.range.loop, List.foldl_cons, List.foldl_nil, q8]
        simp
        clear q8
        replace hG : Below W4.heap.size W4 wx := hG
        have I4x := HI4.out.below hG
        obtain ⟨svs, hsw⟩ := I4x.own.swp
        replace hsw : OwnRows lo wx (.slice (some ⟨gs, 0, none⟩) 16 sc) svs P1.swap := hsw
        have hvl : svs.length = 16 := by rw [hsw.2.1.1]; exact HOK.out.swapl
        have hlox := Nat.le_trans Hlo4.out hG.size
        have R := hsw.set (B := wx.heap.size) (j := sl) (r := []) (v' := .slice none 0 0) (Below.refl _ _) (World.ownsRow_nil _ _ _ _) (Nat.le_refl _) hlox hvl.symm (by omega)
        have I5 := Lib.hid (I4x.putSwap R.2 R.1)
        have g1 : wx.ownsRow lo 38 1 (.slice (some ⟨gs, 0, none⟩) 16 sc) 16 svs := by have := hsw.1; unfold OwnF at this; rwa [flat_oneCs, hvl] at this
        obtain ⟨cv0, C1⟩ : ∃ v, wx.cell? ⟨gs, sl, none⟩ = some v := by
         have C1 := World.ownsRow.cellAt g1 sl (by omega)
         rw [List.getElem?_eq_getElem (by omega)] at C1
         exact ⟨_, C1⟩
        have F1 := World.ownsRow.frozenAt g1 sl
        have B5 := Lib.hid (below_grown (HB4.out.trans (hG.mono Hlo4.out)) R.2 (World.ownsRow.lt hsw.1 gs rfl).1 hlox)
        have hlo5 := Lib.hid (Nat.le_trans hlox R.2.size)
        have HK2 := Lib.hid (pokesTo_ok HK1.out (f := fr) (ws := rowAt P1.swap sl) 4)
        have HIS := HIS1
        clear HI4 HB4 I4x R g1 hsw x4 p1 fq4 HIS1 hvl
        go_wp2_with fail
        clear C1 F1
        generalize wx.setCell _ _ = w5 at *
        refine (EntryPut_yes fr _ Hfr.out.1 Hfr.out.2).mono ?_; rintro r w6 ⟨rfl, rfl⟩
        have C6 := Lib.hid (pset_any (P := { P1 with kern := pokesTo k1 fr (rowAt P1.swap sl) 4, swap := P1.swap.set sl [] }) I5.out hlo5.out HK2.out HOK.out.lowl hn (ent fr) (by have := Hfr.out.2; unfold ent; omega))
        generalize hen : ent fr = en at C6
        have Hen := Lib.hid hen
        clear hen
        go_wp2_with fail
        refine C6.out.mono ?_; rintro r w7 ⟨rfl, hT⟩
        obtain ⟨m7, i7, e7, c7, I7⟩ := hT.inp
        have B7 := B5.out.trans hT.2.1
        have hlo7 : lo ≤ w7.heap.size := Nat.le_trans hlo5.out hT.2.2.size
        obtain ⟨hq7, fq7, p0, p1, p2⟩ := I7.pg (n := n) (by show n < P1.pages.length; rw [HOK.out.pagel]; exact hn)
        have I8 := I7.putPages (n := n) HOK.out.pagel.symm (by show n < P1.pages.length; rw [HOK.out.pagel]; exact hn) ⟨1, fr, true⟩
        have B8 := Lib.hid (below_grown B7 I8.2.1 I8.2.2 hlo7)
        have HI8 := Lib.hid I8.1
        clear hT I7 I8 B7 C6
        go_wp2_with fail
        go_ret
        refine ⟨ret_bool (by rw [HIS.out]), fun _ => ⟨m7, i7, e7, c7, ?_⟩, B8.out⟩
        rw [HIS.out]
        have e8 := HI8.out
        rw [← Hen.out] at e8
        exact e8
    ·rw [if_neg hw2, if_neg hw2] at hIS
     have t2 : ((pageAt P1.pages n).w == 2) = false := by simp [hw2]
     have HIS := Lib.hid hIS
     have I5 := HI2
     have B5 := B2
     have hlo5 := hlo2
     have HK2 := HK1
     generalize (pageAt P1.pages n).w = pw at p0 t2
     clear hIS hw2 HK1
     go_wp2_with fail
     clear p0 p1 p2 t2 fq2 hq2
     refine (EntryPut_yes fr _ Hfr.out.1 Hfr.out.2).mono ?_; rintro r w6 ⟨rfl, rfl⟩
     have C6 := Lib.hid (pset_any (P := { P1 with kern := k1, swap := P1.swap }) I5.out hlo5.out HK2.out HOK.out.lowl hn (ent fr) (by have := Hfr.out.2; unfold ent; omega))
     generalize hen : ent fr = en at C6
     have Hen := Lib.hid hen
     clear hen
     go_wp2_with fail
     refine C6.out.mono ?_; rintro r w7 ⟨rfl, hT⟩
     obtain ⟨m7, i7, e7, c7, I7⟩ := hT.inp
     have B7 := B5.out.trans hT.2.1
     have hlo7 : lo ≤ w7.heap.size := Nat.le_trans hlo5.out hT.2.2.size
     obtain ⟨hq7, fq7, p0, p1, p2⟩ := I7.pg (n := n) (by show n < P1.pages.length; rw [HOK.out.pagel]; exact hn)
     have I8 := I7.putPages (n := n) HOK.out.pagel.symm (by show n < P1.pages.length; rw [HOK.out.pagel]; exact hn) ⟨1, fr, true⟩
     have B8 := Lib.hid (below_grown B7 I8.2.1 I8.2.2 hlo7)
     have HI8 := Lib.hid I8.1
     clear hT I7 I8 B7 C6
     go_wp2_with fail
     go_ret
     refine ⟨ret_bool (by rw [HIS.out]), fun _ => ⟨m7, i7, e7, c7, ?_⟩, B8.out⟩
     rw [HIS.out]
     have e8 := HI8.out
     rw [← Hen.out] at e8
     exact e8
   ·have HT := Lib.hid (T1.out (by
     simp only [Bool.and_eq_true, decide_eq_true_eq] at hno
     exact ⟨HF0.out.1 hno.1, hno.2⟩))
    go_wp2_with fail
    go_ret
    exact ⟨ret_bool (by rw [HT.out]), fun h => (by rw [HT.out] at h; cases h), HB2.out⟩
theorem pg_stored {lo g : Nat} {w : World} {a0 a1 a2 a3 a4 a5 a6 a7 a8 m i e c s l q : Value} {P : PagerV} (hB : w.heap[g]? = some (.cells #[a0, a1, a2, a3, a4, a5, a6, a7, a8] 46 (0, 0))) (O : OwnP lo w m i e c s l q P) :
 (((set7 w g m i e c s l q).setCell ⟨g, 7, none⟩ (.int .i64 P.hand)).setCell ⟨g, 8, none⟩ (.int .i64 P.limit)).heap[g]? = some (.cells #[m, i, e, c, s, l, q, .int .i64 P.hand, .int .i64 P.limit] 46 (0, 0)) ∧
 OwnP lo (((set7 w g m i e c s l q).setCell ⟨g, 7, none⟩ (.int .i64 P.hand)).setCell ⟨g, 8, none⟩ (.int .i64 P.limit)) m i e c s l q P ∧
 w.grownBy (((set7 w g m i e c s l q).setCell ⟨g, 7, none⟩ (.int .i64 P.hand)).setCell ⟨g, 8, none⟩ (.int .i64 P.limit)) (some g) := by
 have gr := set9_grown (w := w) (g := g) (b0 := m) (b1 := i) (b2 := e) (b3 := c) (b4 := s) (b5 := l) (b6 := q) (b7 := .int .i64 P.hand) (b8 := .int .i64 P.limit)
 exact ⟨set9_blk hB, O.far gr hB (by decide) (by decide) (by decide) (by decide) (by decide) (by decide) (by decide), gr⟩
theorem InP.start {lo : Nat} {w : World} {m i e c s l q : Value} {P : PagerV} (O : OwnP lo w m i e c s l q P) (hlo : lo ≤ w.heap.size) : InP lo w.heap.size (w.alloc (.cells #[m, i, e, c, s, l, q, .int .i64 P.hand, .int .i64 P.limit] 46)) m i e c s l q P :=
 ⟨heap_alloc_new _ _, hlo, O.below (below1 _ _)⟩
def TouchRes (w : World) (t : PagerV × Bool) (r : Ending) (w' : World) : Prop := ∃ m i e c s l q, r = .returned (.tuple #[pagerAgg m i e c s l q t.1.hand t.1.limit, .bool t.2]) ∧ OwnP w.heap.size w' m i e c s l q t.1 ∧ Below w.heap.size w w'
set_option maxRecDepth 100000 in
set_option maxHeartbeats 1000000 in
theorem PagerTouch_yes (mv iv ev cv sv lv qv : Value) (P : PagerV) (w : World) (h : RdP w mv iv ev cv sv lv qv P) (hP : POk P) {n : Nat} (hn : n < 16) :
 Calls Tryz.prog 158 #[pagerAgg mv iv ev cv sv lv qv P.hand P.limit, .int .i64 (n : Int)] w (TouchRes w (touchP P n)) := by
 unfold pagerAgg TouchRes
 obtain ⟨B0, B1, hb0, hs0⟩ := two_blocks w (.cells #[mv, iv, ev, cv, sv, lv, qv, .int .i64 P.hand, .int .i64 P.limit] 46) (.cells #[.slice none 0 0, .slice none 0 0, .slice none 0 0, .slice none 0 0, .slice none 0 0, .slice none 0 0, .slice none 0 0, .int .i64 0, .int .i64 0] 46)
 have h0 := h.below hb0
 have hok : pagerOk P = true := pagerOk_iff.2 hP
 have HT := fun (h : (touchP P n).2 = false) => touch_same hP hn h
 have HO := touch_pok hP hn
 generalize hT : touchP P n = t at HT HO ⊢
 obtain ⟨Q, bb⟩ := t
 replace HT := Lib.hid HT
 replace HO := Lib.hid HO
 have HhT := Lib.hid hT
 clear hT
 dsimp only at HT HO ⊢
 go_enter Tryz.func158, Tryz.ntmps158
 go_wp2_with fail
 generalize (w.alloc _).alloc _ = W0 at *
 have CV := Lib.hid (fun W (hW : Below W0.heap.size W0 W) => PagerValid_any mv iv ev cv sv lv qv P W (h0.below hW) (kok_small hP.k))
 have CO := Lib.hid (fun W (hW : Below W0.heap.size W0 W) => pown_any mv iv ev cv sv lv qv P W (h0.below hW) hP)
 rw [hok] at CV
 have Hb0 := Lib.hid hb0
 have HB0 := Lib.hid B0
 have HB1 := Lib.hid B1
 have HPO := Lib.hid hP
 have hni : inB (n : Int) 0 15 = true := inB_iff.2 (by omega)
 clear h h0 hb0 B0 B1 hP hok
 refine (CV.out W0 (Below.refl _ _)).mono ?_; rintro r w1 ⟨rfl, b1⟩
 obtain ⟨x0, x1, x2, x3, x4, x5, x6, x7, x8⟩ := blk_cells9 (blk_below HB0.out b1)
 have Hb1 := Lib.hid b1
 clear b1 CV
 go_wp2_with fail
 refine (isPage_any _ _).mono ?_; rintro r w2 ⟨rfl, rfl⟩
 rw [hni]
 go_wp2_with fail
 refine (CO.out w1 Hb1.out).mono ?_; rintro r w2 ⟨m2, i2, e2, c2, s2, l2, q2, rfl, O2, b2⟩; unfold pagerAgg
 obtain ⟨⟨⟨ma, mn, mc, rfl⟩, ⟨ia, iN, ic, rfl⟩, ⟨ea, en, ec, rfl⟩, ⟨qa, qn, qc, rfl⟩⟩, ⟨sa, sn, sc, rfl⟩, ⟨la, ln, lc, rfl⟩, ⟨pa, pn, pc, rfl⟩⟩ := O2.shapes
 have hl2 : W0.heap.size ≤ w2.heap.size := Nat.le_trans Hb1.out.size b2.size
 have I3 := InP.start (O2.lower Hb1.out.size) hl2
 have b3 : Below W0.heap.size W0 (w2.alloc (.cells #[.slice ma mn mc, .slice ia iN ic, .slice ea en ec, .slice qa qn qc, .slice sa sn sc, .slice la ln lc, .slice pa pn pc, .int .i64 P.hand, .int .i64 P.limit] 46)) := Hb1.out.trans ((b2.mono Hb1.out.size).trans ((below1 _ _).mono hl2))
 clear O2 b2 x0 x1 x2 x3 x4 x5 x6 x7 x8
 go_wp2_with fail
 generalize w2.heap.size = g3 at *
 generalize w2.alloc _ = W3 at *
 have CB := bring_any I3 b3.size HPO.out hn
 have Hb3 := Lib.hid b3
 clear I3 b3
 rw [HhT.out] at CB
 unfold BringRes at CB
 refine CB.mono ?_; rintro r w4 ⟨rfl, hI, hb4⟩
 have Hb4 := Lib.hid (Hb3.out.trans hb4)
 have B1 := blk_below HB1.out Hb4.out
 have HBx := Lib.hid (Hb0.out.trans (Hb4.out.mono Hb0.out.size))
 cases bb
 ·have hs := HT.out rfl
  obtain ⟨x0, x1, x2, x3, x4, x5, x6, x7, x8⟩ := blk_cells9 (blk_below HB0.out Hb4.out)
  clear hI hb4 CB
  go_wp2_with fail
  refine (CO.out w4 Hb4.out).mono ?_; rintro r w5 ⟨m5, i5, e5, c5, s5, l5, q5, rfl, O5, b5⟩; unfold pagerAgg
  clear x0 x1 x2 x3 x4 x5 x6 x7 x8
  subst hs
  obtain ⟨⟨⟨ma, mn, mc, rfl⟩, ⟨ia, iN, ic, rfl⟩, ⟨ea, en, ec, rfl⟩, ⟨qa, qn, qc, rfl⟩⟩, ⟨sa, sn, sc, rfl⟩, ⟨la, ln, lc, rfl⟩, ⟨pa, pn, pc, rfl⟩⟩ := O5.shapes
  have N5 := blk_below B1 b5
  have S5 := pg_stored N5 O5
  obtain ⟨a0, a1, a2, a3, a4, a5, a6, a7, a8⟩ := blk_cells9 N5
  have f5 := blk_frozen N5
  have HS5 := Lib.hid S5
  have Hb5 := Lib.hid b5
  have Hsz := Lib.hid (blk_lt B1)
  clear O5 S5 N5 b5 B1
  go_wp2_with fail
  clear a0 a1 a2 a3 a4 a5 a6 a7 a8 f5
  obtain ⟨N6, O6, gr6⟩ := HS5.out
  have B6 := below_grown (HBx.out.trans (Hb5.out.mono (by have := HBx.out.size; have := Hsz.out; omega))) gr6 (by omega) (by have := HBx.out.size; have := Hb5.out.size; omega)
  have O7 := O6.lower (lo' := w.heap.size) (by have := HBx.out.size; omega)
  unfold set7 at N6 O7 B6
  obtain ⟨E0, E1, E2, E3, E4, E5, E6, E7, E8⟩ := blk_cells9 N6
  exact bodyPost_ret (v := .tuple #[.agg #[_, _, _, _, _, _, _, _, _], .bool false]) (by simp [results, Tryz.results158, go_sem, E0, E1, E2, E3, E4, E5, E6, E7, E8]) rfl ⟨_, _, _, _, _, _, _, rfl, O7, B6⟩
 ·obtain ⟨m4, i4, e4, c4, I4⟩ := hI rfl
  have C5 := Lib.hid (pown_any _ _ _ _ _ _ _ Q w4 I4.own.rd HO.out)
  obtain ⟨x0, x1, x2, x3, x4, x5, x6, x7, x8⟩ := blk_cells9 I4.blk
  clear hb4 CB I4
  go_wp2_with fail
  refine C5.out.mono ?_; rintro r w5 ⟨m5, i5, e5, c5, s5, l5, q5, rfl, O5, b5⟩; unfold pagerAgg
  clear x0 x1 x2 x3 x4 x5 x6 x7 x8 C5
  obtain ⟨⟨⟨ma, mn, mc, rfl⟩, ⟨ia, iN, ic, rfl⟩, ⟨ea, en, ec, rfl⟩, ⟨qa, qn, qc, rfl⟩⟩, ⟨sa, sn, sc, rfl⟩, ⟨la, ln, lc, rfl⟩, ⟨pa, pn, pc, rfl⟩⟩ := O5.shapes
  have N5 := blk_below B1 b5
  have S5 := pg_stored N5 O5
  obtain ⟨a0, a1, a2, a3, a4, a5, a6, a7, a8⟩ := blk_cells9 N5
  have f5 := blk_frozen N5
  have HS5 := Lib.hid S5
  have Hb5 := Lib.hid b5
  have Hsz := Lib.hid (blk_lt B1)
  clear O5 S5 N5 b5 B1
  go_wp2_with fail
  clear a0 a1 a2 a3 a4 a5 a6 a7 a8 f5
  obtain ⟨N6, O6, gr6⟩ := HS5.out
  have B6 := below_grown (HBx.out.trans (Hb5.out.mono (by have := HBx.out.size; have := Hsz.out; omega))) gr6 (by omega) (by have := HBx.out.size; have := Hb5.out.size; omega)
  have O7 := O6.lower (lo' := w.heap.size) (by have := HBx.out.size; omega)
  unfold set7 at N6 O7 B6
  obtain ⟨E0, E1, E2, E3, E4, E5, E6, E7, E8⟩ := blk_cells9 N6
  exact bodyPost_ret (v := .tuple #[.agg #[_, _, _, _, _, _, _, _, _], .bool true]) (by simp [results, Tryz.results158, go_sem, E0, E1, E2, E3, E4, E5, E6, E7, E8]) rfl ⟨_, _, _, _, _, _, _, rfl, O7, B6⟩
def LoadRes (w : World) (t : PagerV × Int × Bool) (r : Ending) (w' : World) : Prop := ∃ m i e c s l q, r = .returned (.tuple #[pagerAgg m i e c s l q t.1.hand t.1.limit, .int .i64 t.2.1, .bool t.2.2]) ∧ OwnP w.heap.size w' m i e c s l q t.1 ∧ Below w.heap.size w w'
def OtherRes (w : World) (t : PagerV × Int) (r : Ending) (w' : World) : Prop := ∃ m i e c s l q, r = .returned (.tuple #[pagerAgg m i e c s l q t.1.hand t.1.limit, .int .i64 t.2]) ∧ OwnP w.heap.size w' m i e c s l q t.1 ∧ Below w.heap.size w w'
theorem loadP_of {p : PagerV} {a : Nat} {Q : PagerV} (h : touchP p (a / 4) = (Q, true)) : loadP p a = ({ Q with kern := (callP Q.kern (pgCall 10 (a : Int) 0 0)).1 }, (callP Q.kern (pgCall 10 (a : Int) 0 0)).2.1, true) := by
 unfold loadP
 rw [h]
 rfl
theorem storeP_of {p : PagerV} {a : Nat} {x : Int} {Q : PagerV} (h : touchP p (a / 4) = (Q, true)) : storeP p a x = ({ Q with kern := (callP Q.kern (pgCall 11 (a : Int) x 0)).1 }, true) := by
 unfold storeP
 rw [h]
 rfl
set_option maxRecDepth 100000 in
set_option maxHeartbeats 1000000 in
theorem PagerLoad_yes (mv iv ev cv sv lv qv : Value) (P : PagerV) (w : World) (h : RdP w mv iv ev cv sv lv qv P) (hP : POk P) {a : Nat} (ha : a < 64) :
 Calls Tryz.prog 88 #[pagerAgg mv iv ev cv sv lv qv P.hand P.limit, .int .i64 (a : Int)] w (LoadRes w (loadP P a)) := by
 unfold pagerAgg LoadRes
 obtain ⟨B0, B1, hb0, hs0⟩ := two_blocks w (.cells #[mv, iv, ev, cv, sv, lv, qv, .int .i64 P.hand, .int .i64 P.limit] 46) (.cells #[.slice none 0 0, .slice none 0 0, .slice none 0 0, .slice none 0 0, .slice none 0 0, .slice none 0 0, .slice none 0 0, .int .i64 0, .int .i64 0] 46)
 have h0 := h.below hb0
 obtain ⟨j, hj⟩ : ∃ j, j = a / 4 := ⟨_, rfl⟩
 have q1 : (a : Int) / 4 = (j : Int) := by omega
 have hA : inB (a : Int) 0 63 = true := inB_iff.2 (by omega)
 have hOK := touch_pok (p := P) (n := a / 4) hP (by omega)
 have hSM := fun (h : (touchP P (a / 4)).2 = false) => touch_same hP (by omega) h
 have hPK := load_pok hP ha
 have hNO := load_no hP ha
 have hYES := fun Q => loadP_of (p := P) (a := a) (Q := Q)
 have CT := fun W (hW : Below ((w.alloc (.cells #[mv, iv, ev, cv, sv, lv, qv, .int .i64 P.hand, .int .i64 P.limit] 46)).alloc (.cells #[.slice none 0 0, .slice none 0 0, .slice none 0 0, .slice none 0 0, .slice none 0 0, .slice none 0 0, .slice none 0 0, .int .i64 0, .int .i64 0] 46)).heap.size ((w.alloc (.cells #[mv, iv, ev, cv, sv, lv, qv, .int .i64 P.hand, .int .i64 P.limit] 46)).alloc (.cells #[.slice none 0 0, .slice none 0 0, .slice none 0 0, .slice none 0 0, .slice none 0 0, .slice none 0 0, .slice none 0 0, .int .i64 0, .int .i64 0] 46)) W) => PagerTouch_yes mv iv ev cv sv lv qv P W (h0.below hW) hP (n := a / 4) (by omega)
 rw [← hj] at hOK hNO hYES CT hSM
 generalize touchP P j = t at hOK hNO hYES CT hSM
 obtain ⟨Q, bb⟩ := t
 dsimp only at hOK hNO hYES CT hSM
 go_enter Tryz.func88, Tryz.ntmps88
 go_wp2_with fail
 generalize (w.alloc _).alloc _ = W0 at *
 have HCT := Lib.hid (CT W0 (Below.refl _ _))
 have HOK := Lib.hid hOK
 have HNO := Lib.hid hNO
 have HSM := Lib.hid hSM
 have HPK := Lib.hid hPK
 have HYES := Lib.hid hYES
 unfold TouchRes at HCT
 simp only [pagerAgg] at HCT
 have Hb0 := Lib.hid hb0
 have HB1 := Lib.hid B1
 have Hs0 := Lib.hid hs0
 have HP := Lib.hid hP
 obtain ⟨x0, x1, x2, x3, x4, x5, x6, x7, x8⟩ := blk_cells9 B0
 clear h h0 hb0 B0 B1 hP hOK hNO hYES hSM hPK CT hj hs0
 refine (isAddress_any _ _).mono ?_; rintro r w1 ⟨rfl, rfl⟩
 rw [hA]
 go_wp2_with fail
 refine HCT.out.mono ?_; rintro r w1 ⟨m1, i1, e1, c1, s1, l1, q1_, rfl, O1, b1⟩
 obtain ⟨⟨⟨ma, mn, mc, rfl⟩, ⟨ia, iN, ic, rfl⟩, ⟨ea, en, ec, rfl⟩, ⟨qa, qn, qc, rfl⟩⟩, ⟨sa, sn, sc, rfl⟩, ⟨la, ln, lc, rfl⟩, ⟨pa, pn, pc, rfl⟩⟩ := O1.shapes
 have I2 := InP.start O1 b1.size
 have b2 := b1.trans ((below1 w1 (.cells #[.slice ma mn mc, .slice ia iN ic, .slice ea en ec, .slice qa qn qc, .slice sa sn sc, .slice la ln lc, .slice pa pn pc, .int .i64 Q.hand, .int .i64 Q.limit] 46)).mono b1.size)
 have HI2 := Lib.hid I2
 have Hb2 := Lib.hid b2
 have B1 := blk_below HB1.out b2
 have HBx := Lib.hid (Hb0.out.trans (b2.mono Hb0.out.size))
 clear O1 b1 x0 x1 x2 x3 x4 x5 x6 x7 x8 HCT I2 b2
 cases bb
 ·have e := HNO.out rfl
  have hs := HSM.out rfl
  have He := Lib.hid e
  clear e HNO HYES HSM
  subst hs
  have O5 := HI2.out.own
  have b5 := (fun W : World => Below.refl W.heap.size W) (w1.alloc (.cells #[.slice ma mn mc, .slice ia iN ic, .slice ea en ec, .slice qa qn qc, .slice sa sn sc, .slice la ln lc, .slice pa pn pc, .int .i64 Q.hand, .int .i64 Q.limit] 46))
  have N5 := blk_below B1 b5
  have S5 := pg_stored N5 O5
  obtain ⟨a0, a1, a2, a3, a4, a5, a6, a7, a8⟩ := blk_cells9 N5
  have f5 := blk_frozen N5
  have HS5 := Lib.hid S5
  have Hb5 := Lib.hid b5
  have Hsz := Lib.hid (blk_lt B1)
  clear O5 S5 N5 b5 B1
  go_wp2_with fail
  clear a0 a1 a2 a3 a4 a5 a6 a7 a8 f5
  obtain ⟨N6, O6, gr6⟩ := HS5.out
  have B6 := below_grown (HBx.out.trans (Hb5.out.mono (by have := HBx.out.size; have := Hsz.out; omega))) gr6 (by omega) (by have := HBx.out.size; have := Hb5.out.size; omega)
  have O7 := O6.lower (lo' := w.heap.size) (by have := Hs0.out; omega)
  unfold set7 at N6 O7 B6
  obtain ⟨E0, E1, E2, E3, E4, E5, E6, E7, E8⟩ := blk_cells9 N6
  exact bodyPost_ret (v := .tuple #[.agg #[.slice ma mn mc, .slice ia iN ic, .slice ea en ec, .slice qa qn qc, .slice sa sn sc, .slice la ln lc, .slice pa pn pc, .int .i64 Q.hand, .int .i64 Q.limit], .int .i64 0, .bool false]) (by simp [results, Tryz.results88, go_sem, E0, E1, E2, E3, E4, E5, E6, E7, E8]) rfl (by rw [He.out]; exact ⟨_, _, _, _, _, _, _, rfl, O7, B6⟩)
 ·have e := HYES.out Q rfl
  have C3 := pcall_any HI2.out Hb2.out.size HOK.out.k ⟨10, 0, (a : Int), 0, 0, ⟨#[]⟩⟩ (show (0 : Int) ≤ 0 by decide) (show (0 : Int) < 3 by decide) (Nat.zero_le _) (show (0 : Int) ≤ 9223372036854775807 by decide)
  unfold PEnd at C3
  rw [callP_nm (t := gA) ⟨by decide, by decide, by decide⟩, show (⟨10, 0, (a : Int), 0, 0, gA⟩ : CallV) = pgCall 10 (a : Int) 0 0 from rfl] at C3
  have HK3 := Lib.hid (callP_pg (kind := 10) (a := (a : Int)) (b := 0) (c := 0) HOK.out.k)
  have hPQ := HPK.out
  rw [e] at hPQ
  have He := Lib.hid e
  have HPQ := Lib.hid hPQ
  have HC3 := Lib.hid C3
  clear C3 e HYES HNO HPK hPQ HSM
  generalize callP Q.kern (pgCall 10 (a : Int) 0 0) = res at *
  go_wp2_with fail
  generalize w1.heap.size = g2 at *
  generalize w1.alloc _ = W2 at *
  refine HC3.out.mono ?_; rintro r w3 ⟨rfl, ⟨m3, i3, e3, c3, I3, _⟩, hb3, hg3⟩
  have hB3 := Lib.hid (Hb2.out.trans hb3)
  obtain ⟨x0, x1, x2, x3, x4, x5, x6, x7, x8⟩ := blk_cells9 I3.blk
  have hPQ : POk { Q with kern := res.1 } := HPQ.out
  have C5 := Lib.hid (pown_any _ _ _ _ _ _ _ { Q with kern := res.1 } w3 I3.own.rd hPQ)
  have B3 := blk_below HB1.out hB3.out
  have HBy := Lib.hid (Hb0.out.trans (hB3.out.mono Hb0.out.size))
  clear hb3 hg3 HC3 I3 B1 hPQ
  go_wp2_with fail
  refine C5.out.mono ?_; rintro r w5 ⟨m5, i5, e5, c5, s5, l5, q5, rfl, O5, b5⟩; unfold pagerAgg
  clear x0 x1 x2 x3 x4 x5 x6 x7 x8 C5
  obtain ⟨⟨⟨ma, mn, mc, rfl⟩, ⟨ia, iN, ic, rfl⟩, ⟨ea, en, ec, rfl⟩, ⟨qa, qn, qc, rfl⟩⟩, ⟨sa, sn, sc, rfl⟩, ⟨la, ln, lc, rfl⟩, ⟨pa, pn, pc, rfl⟩⟩ := O5.shapes
  have N5 := blk_below B3 b5
  have S5 := pg_stored N5 O5
  obtain ⟨a0, a1, a2, a3, a4, a5, a6, a7, a8⟩ := blk_cells9 N5
  have f5 := blk_frozen N5
  have HS5 := Lib.hid S5
  have Hb5 := Lib.hid b5
  have Hsz := Lib.hid (blk_lt B3)
  clear O5 S5 N5 b5 B3
  go_wp2_with fail
  clear a0 a1 a2 a3 a4 a5 a6 a7 a8 f5
  obtain ⟨N6, O6, gr6⟩ := HS5.out
  have B6 := below_grown (HBy.out.trans (Hb5.out.mono (by have := HBy.out.size; have := Hsz.out; omega))) gr6 (by omega) (by have := HBy.out.size; have := Hb5.out.size; omega)
  have O7 := O6.lower (lo' := w.heap.size) (by have := HBy.out.size; omega)
  unfold set7 at N6 O7 B6
  obtain ⟨E0, E1, E2, E3, E4, E5, E6, E7, E8⟩ := blk_cells9 N6
  exact bodyPost_ret (v := .tuple #[.agg #[.slice ma mn mc, .slice ia iN ic, .slice ea en ec, .slice qa qn qc, .slice sa sn sc, .slice la ln lc, .slice pa pn pc, .int .i64 Q.hand, .int .i64 Q.limit], .int .i64 res.2.1, .bool true]) (by simp [results, Tryz.results88, go_sem, E0, E1, E2, E3, E4, E5, E6, E7, E8]) rfl (by rw [He.out]; exact ⟨_, _, _, _, _, _, _, rfl, O7, B6⟩)
set_option maxRecDepth 100000 in
set_option maxHeartbeats 1000000 in
theorem PagerStore_yes (mv iv ev cv sv lv qv : Value) (P : PagerV) (w : World) (h : RdP w mv iv ev cv sv lv qv P) (hP : POk P) {a : Nat} (ha : a < 64) {x : Int} (hx : wordOk x = true) :
 Calls Tryz.prog 89 #[pagerAgg mv iv ev cv sv lv qv P.hand P.limit, .int .i64 (a : Int), .int .i64 x] w (TouchRes w (storeP P a x)) := by
 unfold pagerAgg TouchRes
 obtain ⟨B0, B1, hb0, hs0⟩ := two_blocks w (.cells #[mv, iv, ev, cv, sv, lv, qv, .int .i64 P.hand, .int .i64 P.limit] 46) (.cells #[.slice none 0 0, .slice none 0 0, .slice none 0 0, .slice none 0 0, .slice none 0 0, .slice none 0 0, .slice none 0 0, .int .i64 0, .int .i64 0] 46)
 have h0 := h.below hb0
 obtain ⟨j, hj⟩ : ∃ j, j = a / 4 := ⟨_, rfl⟩
 have q1 : (a : Int) / 4 = (j : Int) := by omega
 have hA : inB (a : Int) 0 63 = true := inB_iff.2 (by omega)
 have hOK := touch_pok (p := P) (n := a / 4) hP (by omega)
 have hSM := fun (h : (touchP P (a / 4)).2 = false) => touch_same hP (by omega) h
 have hPK := store_pok hP ha hx
 have hNO := store_no (w := x) hP ha
 have hYES := fun Q => storeP_of (p := P) (a := a) (x := x) (Q := Q)
 have CT := fun W (hW : Below ((w.alloc (.cells #[mv, iv, ev, cv, sv, lv, qv, .int .i64 P.hand, .int .i64 P.limit] 46)).alloc (.cells #[.slice none 0 0, .slice none 0 0, .slice none 0 0, .slice none 0 0, .slice none 0 0, .slice none 0 0, .slice none 0 0, .int .i64 0, .int .i64 0] 46)).heap.size ((w.alloc (.cells #[mv, iv, ev, cv, sv, lv, qv, .int .i64 P.hand, .int .i64 P.limit] 46)).alloc (.cells #[.slice none 0 0, .slice none 0 0, .slice none 0 0, .slice none 0 0, .slice none 0 0, .slice none 0 0, .slice none 0 0, .int .i64 0, .int .i64 0] 46)) W) => PagerTouch_yes mv iv ev cv sv lv qv P W (h0.below hW) hP (n := a / 4) (by omega)
 rw [← hj] at hOK hNO hYES CT hSM
 generalize touchP P j = t at hOK hNO hYES CT hSM
 obtain ⟨Q, bb⟩ := t
 dsimp only at hOK hNO hYES CT hSM
 go_enter Tryz.func89, Tryz.ntmps89
 go_wp2_with fail
 generalize (w.alloc _).alloc _ = W0 at *
 have HCT := Lib.hid (CT W0 (Below.refl _ _))
 have HOK := Lib.hid hOK
 have HNO := Lib.hid hNO
 have HSM := Lib.hid hSM
 have HPK := Lib.hid hPK
 have HYES := Lib.hid hYES
 unfold TouchRes at HCT
 simp only [pagerAgg] at HCT
 have Hb0 := Lib.hid hb0
 have HB1 := Lib.hid B1
 have Hs0 := Lib.hid hs0
 have HP := Lib.hid hP
 obtain ⟨x0, x1, x2, x3, x4, x5, x6, x7, x8⟩ := blk_cells9 B0
 have hX : inB x 0 9999 = true := hx
 clear h h0 hb0 B0 B1 hP hOK hNO hYES hSM hPK CT hj hs0
 refine (isAddress_any _ _).mono ?_; rintro r w1 ⟨rfl, rfl⟩
 rw [hA]
 go_wp2_with fail
 refine (isWord_any _ _).mono ?_; rintro r w2 ⟨rfl, rfl⟩
 rw [hX]
 go_wp2_with fail
 refine HCT.out.mono ?_; rintro r w1 ⟨m1, i1, e1, c1, s1, l1, q1_, rfl, O1, b1⟩
 obtain ⟨⟨⟨ma, mn, mc, rfl⟩, ⟨ia, iN, ic, rfl⟩, ⟨ea, en, ec, rfl⟩, ⟨qa, qn, qc, rfl⟩⟩, ⟨sa, sn, sc, rfl⟩, ⟨la, ln, lc, rfl⟩, ⟨pa, pn, pc, rfl⟩⟩ := O1.shapes
 have I2 := InP.start O1 b1.size
 have b2 := b1.trans ((below1 w1 (.cells #[.slice ma mn mc, .slice ia iN ic, .slice ea en ec, .slice qa qn qc, .slice sa sn sc, .slice la ln lc, .slice pa pn pc, .int .i64 Q.hand, .int .i64 Q.limit] 46)).mono b1.size)
 have HI2 := Lib.hid I2
 have Hb2 := Lib.hid b2
 have B1 := blk_below HB1.out b2
 have HBx := Lib.hid (Hb0.out.trans (b2.mono Hb0.out.size))
 clear O1 b1 x0 x1 x2 x3 x4 x5 x6 x7 x8 HCT I2 b2
 cases bb
 ·have e := HNO.out rfl
  have hs := HSM.out rfl
  have He := Lib.hid e
  clear e HNO HYES HSM
  subst hs
  have O5 := HI2.out.own
  have b5 := (fun W : World => Below.refl W.heap.size W) (w1.alloc (.cells #[.slice ma mn mc, .slice ia iN ic, .slice ea en ec, .slice qa qn qc, .slice sa sn sc, .slice la ln lc, .slice pa pn pc, .int .i64 Q.hand, .int .i64 Q.limit] 46))
  have N5 := blk_below B1 b5
  have S5 := pg_stored N5 O5
  obtain ⟨a0, a1, a2, a3, a4, a5, a6, a7, a8⟩ := blk_cells9 N5
  have f5 := blk_frozen N5
  have HS5 := Lib.hid S5
  have Hb5 := Lib.hid b5
  have Hsz := Lib.hid (blk_lt B1)
  clear O5 S5 N5 b5 B1
  go_wp2_with fail
  clear a0 a1 a2 a3 a4 a5 a6 a7 a8 f5
  obtain ⟨N6, O6, gr6⟩ := HS5.out
  have B6 := below_grown (HBx.out.trans (Hb5.out.mono (by have := HBx.out.size; have := Hsz.out; omega))) gr6 (by omega) (by have := HBx.out.size; have := Hb5.out.size; omega)
  have O7 := O6.lower (lo' := w.heap.size) (by have := Hs0.out; omega)
  unfold set7 at N6 O7 B6
  obtain ⟨E0, E1, E2, E3, E4, E5, E6, E7, E8⟩ := blk_cells9 N6
  exact bodyPost_ret (v := .tuple #[.agg #[.slice ma mn mc, .slice ia iN ic, .slice ea en ec, .slice qa qn qc, .slice sa sn sc, .slice la ln lc, .slice pa pn pc, .int .i64 Q.hand, .int .i64 Q.limit], .bool false]) (by simp [results, Tryz.results89, go_sem, E0, E1, E2, E3, E4, E5, E6, E7, E8]) rfl (by rw [He.out]; exact ⟨_, _, _, _, _, _, _, rfl, O7, B6⟩)
 ·have e := HYES.out Q rfl
  have C3 := pcall_any HI2.out Hb2.out.size HOK.out.k ⟨11, 0, (a : Int), x, 0, ⟨#[]⟩⟩ (show (0 : Int) ≤ 0 by decide) (show (0 : Int) < 3 by decide) (Nat.zero_le _) (show (0 : Int) ≤ 9223372036854775807 by decide)
  unfold PEnd at C3
  rw [callP_nm (t := gA) ⟨by decide, by decide, by decide⟩, show (⟨11, 0, (a : Int), x, 0, gA⟩ : CallV) = pgCall 11 (a : Int) x 0 from rfl] at C3
  have HK3 := Lib.hid (callP_pg (kind := 11) (a := (a : Int)) (b := x) (c := 0) HOK.out.k)
  have hPQ := HPK.out
  rw [e] at hPQ
  have He := Lib.hid e
  have HPQ := Lib.hid hPQ
  have HC3 := Lib.hid C3
  clear C3 e HYES HNO HPK hPQ HSM
  generalize callP Q.kern (pgCall 11 (a : Int) x 0) = res at *
  go_wp2_with fail
  generalize w1.heap.size = g2 at *
  generalize w1.alloc _ = W2 at *
  refine HC3.out.mono ?_; rintro r w3 ⟨rfl, ⟨m3, i3, e3, c3, I3, _⟩, hb3, hg3⟩
  have hB3 := Lib.hid (Hb2.out.trans hb3)
  obtain ⟨x0, x1, x2, x3, x4, x5, x6, x7, x8⟩ := blk_cells9 I3.blk
  have hPQ : POk { Q with kern := res.1 } := HPQ.out
  have C5 := Lib.hid (pown_any _ _ _ _ _ _ _ { Q with kern := res.1 } w3 I3.own.rd hPQ)
  have B3 := blk_below HB1.out hB3.out
  have HBy := Lib.hid (Hb0.out.trans (hB3.out.mono Hb0.out.size))
  clear hb3 hg3 HC3 I3 B1 hPQ
  go_wp2_with fail
  refine C5.out.mono ?_; rintro r w5 ⟨m5, i5, e5, c5, s5, l5, q5, rfl, O5, b5⟩; unfold pagerAgg
  clear x0 x1 x2 x3 x4 x5 x6 x7 x8 C5
  obtain ⟨⟨⟨ma, mn, mc, rfl⟩, ⟨ia, iN, ic, rfl⟩, ⟨ea, en, ec, rfl⟩, ⟨qa, qn, qc, rfl⟩⟩, ⟨sa, sn, sc, rfl⟩, ⟨la, ln, lc, rfl⟩, ⟨pa, pn, pc, rfl⟩⟩ := O5.shapes
  have N5 := blk_below B3 b5
  have S5 := pg_stored N5 O5
  obtain ⟨a0, a1, a2, a3, a4, a5, a6, a7, a8⟩ := blk_cells9 N5
  have f5 := blk_frozen N5
  have HS5 := Lib.hid S5
  have Hb5 := Lib.hid b5
  have Hsz := Lib.hid (blk_lt B3)
  clear O5 S5 N5 b5 B3
  go_wp2_with fail
  clear a0 a1 a2 a3 a4 a5 a6 a7 a8 f5
  obtain ⟨N6, O6, gr6⟩ := HS5.out
  have B6 := below_grown (HBy.out.trans (Hb5.out.mono (by have := HBy.out.size; have := Hsz.out; omega))) gr6 (by omega) (by have := HBy.out.size; have := Hb5.out.size; omega)
  have O7 := O6.lower (lo' := w.heap.size) (by have := HBy.out.size; omega)
  unfold set7 at N6 O7 B6
  obtain ⟨E0, E1, E2, E3, E4, E5, E6, E7, E8⟩ := blk_cells9 N6
  exact bodyPost_ret (v := .tuple #[.agg #[.slice ma mn mc, .slice ia iN ic, .slice ea en ec, .slice qa qn qc, .slice sa sn sc, .slice la ln lc, .slice pa pn pc, .int .i64 Q.hand, .int .i64 Q.limit], .bool true]) (by simp [results, Tryz.results89, go_sem, E0, E1, E2, E3, E4, E5, E6, E7, E8]) rfl (by rw [He.out]; exact ⟨_, _, _, _, _, _, _, rfl, O7, B6⟩)
end Go.Proofs.YtjacdlekgdnndaaGreatDoor
set_option linter.unusedVariables false
namespace Go.Proofs.YtjacdlekgdnndaaGreatDoor
def StepV.kall (s : StepV) : CallV := ⟨s.ck, s.ce, s.ca, s.cb, s.cc, s.nm⟩
def loadW (r : PagerV × Int × Bool) : Int := if r.2.2 = true then r.2.1 else -1
def playStep (st : PagerV × List Int) (s : StepV) : PagerV × List Int :=
 if s.k = 1 then ((loadP st.1 s.a.toNat).1, st.2 ++ [loadW (loadP st.1 s.a.toNat)])
 else if s.k = 2 then ((storeP st.1 s.a.toNat s.x).1, st.2)
 else ((otherP st.1 s.kall).1, st.2)
def playP (p : PagerV) (ss : List StepV) : PagerV × List Int := ss.foldl playStep (p, [])
theorem play_snoc (p : PagerV) (ss : List StepV) (s : StepV) : playP p (ss ++ [s]) = playStep (playP p ss) s := by simp [playP]
theorem play_next {p : PagerV} {ss : List StepV} {k : Nat} {s : StepV} (h : ss[k]? = some s) : playP p (ss.take (k + 1)) = playStep (playP p (ss.take k)) s := by rw [take_one h, play_snoc]
theorem playStep1 {st : PagerV × List Int} {s : StepV} (h : s.k = 1) : playStep st s = ((loadP st.1 s.a.toNat).1, st.2 ++ [loadW (loadP st.1 s.a.toNat)]) := by simp [playStep, h]
theorem playStep2 {st : PagerV × List Int} {s : StepV} (h : s.k = 2) : playStep st s = ((storeP st.1 s.a.toNat s.x).1, st.2) := by simp [playStep, h]
theorem playStep3 {st : PagerV × List Int} {s : StepV} (h1 : s.k ≠ 1) (h2 : s.k ≠ 2) : playStep st s = ((otherP st.1 s.kall).1, st.2) := by simp [playStep, h1, h2]
theorem ok_word {s : StepV} (h : s.ok = true) (hk : s.k = 2) : wordOk s.x = true := by
 rw [StepV.ok, if_neg (by omega), if_pos hk, Bool.and_eq_true] at h
 exact h.2
theorem ok_env {s : StepV} (h : s.ok = true) (h1 : s.k ≠ 1) (h2 : s.k ≠ 2) : s.k = 3 ∧ (s.kall.e = 1 ∨ s.kall.e = 2) := by
 rw [StepV.ok, if_neg h1, if_neg h2] at h
 by_cases h3 : s.k = 3
 ·rw [if_pos h3] at h
  have := inB_iff.1 h
  refine ⟨h3, ?_⟩
  show s.ce = 1 ∨ s.ce = 2
  omega
 ·rw [if_neg h3] at h; cases h
theorem play12_ok {p : PagerV} (h : POk p) {ss : List StepV} (hs : ∀ s ∈ ss, s.ok = true ∧ (s.k = 1 ∨ s.k = 2)) (o : List Int) : POk (ss.foldl playStep (p, o)).1 := by
 induction ss generalizing p o with
 | nil => exact h
 | cons s ss ih =>
  simp only [List.foldl_cons]
  have hx := hs s (List.mem_cons_self ..)
  have hst : POk (playStep (p, o) s).1 := by
   rcases hx.2 with h1 | h2
   ·rw [playStep1 h1]
    have := ok_load hx.1 h1
    exact load_pok h (by omega)
   ·rw [playStep2 h2]
    have := ok_store hx.1 h2
    exact store_pok h (by omega) (ok_word hx.1 h2)
  exact ih hst (fun t ht => hs t (List.mem_cons_of_mem _ ht)) _
theorem play_len (ss : List StepV) (p : PagerV) (o : List Int) : (ss.foldl playStep (p, o)).2.length ≤ o.length + ss.length := by
 induction ss generalizing p o with
 | nil => simp
 | cons s ss ih =>
  simp only [List.foldl_cons, List.length_cons]
  have h1 := ih (playStep (p, o) s).1 (playStep (p, o) s).2
  have h2 : (playStep (p, o) s).2.length ≤ o.length + 1 := by
   unfold playStep
   split
   ·simp
   ·split <;> simp
  have e : ((playStep (p, o) s).1, (playStep (p, o) s).2) = playStep (p, o) s := rfl
  rw [e] at h1
  omega
def Stuck (p : PagerV) : Prop := freeP p.kern.infos < 0 ∧ countW p.pages 1 = 0
theorem touch_yes {p : PagerV} (h : POk p) (hs : ¬ Stuck p) {n : Nat} (hn : n < 16) : (touchP p n).2 = true := by
 cases e : (touchP p n).2
 ·exact absurd ((touch_no h hn).1 e) hs
 ·rfl
theorem page_unstuck {p : PagerV} (h : POk p) {n : Nat} (hn : n < 16) (hw : (pageAt p.pages n).w = 1) : ¬ Stuck p := fun hs => by
 have := count_pos.2 ⟨n, by rw [h.pagel]; exact hn, hw⟩
 have := hs.2
 omega
theorem load_unstuck {p : PagerV} (h : POk p) (hs : ¬ Stuck p) {a : Nat} (ha : a < 64) : ¬ Stuck (loadP p a).1 := by
 have hy := touch_yes h hs (n := a / 4) (by omega)
 have L := load_ok h ha hy
 refine page_unstuck L.2.2.1 (n := a / 4) (by omega) ?_
 have T := (touch_ok h (n := a / 4) (by omega) hy).w
 unfold loadP
 simp only [hy, if_true]
 exact T
theorem store_unstuck {p : PagerV} (h : POk p) (hs : ¬ Stuck p) {a : Nat} (ha : a < 64) {w : Int} (hw : wordOk w = true) : ¬ Stuck (storeP p a w).1 := by
 have S := store_ok h ha hw (touch_yes h hs (n := a / 4) (by omega))
 exact page_unstuck S.2.1 (n := a / 4) (by omega) S.2.2.2
theorem play_flat {p : PagerV} (h : POk p) (hn : ¬ Stuck p) {ss : List StepV} (hs : ∀ s ∈ ss, s.ok = true ∧ (s.k = 1 ∨ s.k = 2)) {ws o : List Int} (hl : ws.length = 64) (hw : ∀ a, a < 64 → wordP p a = nth ws a) :
 (ss.foldl playStep (p, o)).2 = (ss.foldl flatStep (ws, o)).2 := by
 induction ss generalizing p ws o with
 | nil => rfl
 | cons s ss ih =>
  simp only [List.foldl_cons]
  obtain ⟨hok, hk⟩ := hs s (List.mem_cons_self ..)
  have ht : ∀ t ∈ ss, t.ok = true ∧ (t.k = 1 ∨ t.k = 2) := fun t ht => hs t (List.mem_cons_of_mem _ ht)
  rcases hk with hk | hk
  ·have ha := ok_load hok hk
   have ha' : s.a.toNat < 64 := by omega
   rw [playStep1 hk, flatStep1 hk]
   have L := load_ok h ha' (touch_yes h hn (n := s.a.toNat / 4) (by omega))
   have e : loadW (loadP p s.a.toNat) = nth ws s.a.toNat := by unfold loadW; rw [if_pos L.1, L.2.1, hw _ ha']
   show (ss.foldl playStep ((loadP p s.a.toNat).1, o ++ [loadW (loadP p s.a.toNat)])).2 = _
   rw [e]
   exact ih L.2.2.1 (load_unstuck h hn ha') ht hl (fun a ha => (L.2.2.2 a ha).trans (hw a ha))
  ·have ha := ok_store hok hk
   have ha' : s.a.toNat < 64 := by omega
   rw [playStep2 hk, flatStep2 hk]
   have S := store_ok h ha' (ok_word hok hk) (touch_yes h hn (n := s.a.toNat / 4) (by omega))
   refine ih S.2.1 (store_unstuck h hn ha' (ok_word hok hk)) ht (by simpa using hl) (fun a ha => ?_)
   rw [S.2.2.1 a ha]
   unfold nth
   rw [List.getD_eq_getElem?_getD, List.getElem?_set]
   by_cases e : a = s.a.toNat
   ·subst e
    simp [hl, ha']
   ·rw [if_neg e, if_neg (fun x => e x.symm), hw a ha]
    unfold nth
    rw [List.getD_eq_getElem?_getD]
end Go.Proofs.YtjacdlekgdnndaaGreatDoor
set_option linter.unusedVariables false
namespace Go.Proofs.YtjacdlekgdnndaaGreatDoor
open Go.RowKit
def NewInt (lo : Nat) (v : Value) (w : World) (x : Int) : Prop := ∃ g, v = .slice (some ⟨g, 0, none⟩) 1 1 ∧ lo ≤ g ∧ w.heap[g]? = some (.cells #[.int .i64 x] 3 (0, 0))
theorem NewInt.past {lo : Nat} {v : Value} {w w' : World} {x : Int} {row : Option Nat} (h : NewInt lo v w x) (hg : w.grownBy w' row) (hr : ∀ k, row = some k → k < lo) : NewInt lo v w' x := by
 obtain ⟨g, h1, h2, h3⟩ := h
 exact ⟨g, h1, h2, blk_past h3 h2 hg hr⟩
theorem OwnP.past {lo : Nat} {w w' : World} {m i e c s l q : Value} {P : PagerV} {row : Option Nat} (h : OwnP lo w m i e c s l q P) (hg : w.grownBy w' row) (hr : ∀ b, row = some b → b < lo) : OwnP lo w' m i e c s l q P := by
 obtain ⟨h1, ⟨vs, h2, h3, h4⟩, h5, h6, h7⟩ := h
 exact ⟨h1.past hg hr, ⟨vs, own_past h2 hg hr, h3.mono fun _ _ x => own_past x hg hr, h4⟩, own_past h5 hg hr, own_past h6 hg hr, h7⟩
structure PSt (lo g : Nat) (o : Value) (st : PagerV × List Int) (w wr : World) (m i e c s l q : Value) : Prop where
 inp : InP lo g wr m i e c s l q st.1
 out : OwnInts lo wr o st.2
 bel : Below lo w wr
 lo : lo ≤ wr.heap.size
section
variable {lo g : Nat} {o m i e c s l q m' i' e' c' s' l' q' : Value} {st : PagerV × List Int} {w wr w1 : World} {Q : PagerV}
theorem PSt.below (h : PSt lo g o st w wr m i e c s l q) (hb : Below wr.heap.size wr w1) : PSt lo g o st w w1 m i e c s l q :=
 ⟨h.inp.below hb, h.out.below hb, h.bel.trans (hb.mono h.lo), Nat.le_trans h.lo hb.size⟩
theorem PSt.put (h : PSt lo g o st w wr m i e c s l q) (hb : Below wr.heap.size wr w1) (O : OwnP wr.heap.size w1 m' i' e' c' s' l' q' Q) :
 PSt lo g o (Q, st.2) w (((set7 w1 g m' i' e' c' s' l' q').setCell ⟨g, 7, none⟩ (.int .i64 Q.hand)).setCell ⟨g, 8, none⟩ (.int .i64 Q.limit)) m' i' e' c' s' l' q' := by
 have h' := h.below hb
 have S := pg_stored h'.inp.blk O
 exact ⟨⟨S.1, h.inp.glo, S.2.1.lower h.lo⟩, own_far h'.out S.2.2 h'.inp.blk (by decide), below_grown h'.bel S.2.2 h.inp.glo h'.lo, Nat.le_trans h'.lo S.2.2.size⟩
theorem PSt.push {w2 : World} {o' : Value} {x : Int} (h : PSt lo g o st w wr m i e c s l q) (hb : Below wr.heap.size wr w1) (O : OwnP wr.heap.size w1 m' i' e' c' s' l' q' Q) (hg : w1.grownBy w2 o.ownBlock) (ho : OwnInts lo w2 o' (st.2 ++ [x])) :
 w2.heap[g]? = some (.cells #[m, i, e, c, s, l, q, .int .i64 st.1.hand, .int .i64 st.1.limit] 46 (0, 0)) ∧
 PSt lo g o' (Q, st.2 ++ [x]) w (((set7 w2 g m' i' e' c' s' l' q').setCell ⟨g, 7, none⟩ (.int .i64 Q.hand)).setCell ⟨g, 8, none⟩ (.int .i64 Q.limit)) m' i' e' c' s' l' q' := by
 have h' := h.below hb
 have hrow : ∀ b, o.ownBlock = some b → b < wr.heap.size := fun b hb => (World.ownsRow.lt h.out b hb).2
 have hne := own_row_ne h'.out h'.inp.blk (by decide)
 have hB := (hg.block g (blk_lt h'.inp.blk) (fun e => hne e.symm)).trans h'.inp.blk
 have S := pg_stored hB (O.past hg hrow)
 have b2 := h'.bel.grown hg h'.lo (fun k hk => (World.ownsRow.lt h'.out k hk).1)
 exact ⟨hB, ⟨S.1, h.inp.glo, S.2.1.lower h.lo⟩, own_far ho S.2.2 hB (by decide), below_grown b2 S.2.2 h.inp.glo (Nat.le_trans h'.lo hg.size), Nat.le_trans (Nat.le_trans h'.lo hg.size) S.2.2.size⟩
end
def PPlayRes (w : World) (t : PagerV × List Int) (r : Ending) (w' : World) : Prop := ∃ m i e c s l q o, r = .returned (.tuple #[pagerAgg m i e c s l q t.1.hand t.1.limit, o]) ∧ OwnP w.heap.size w' m i e c s l q t.1 ∧ OwnInts w.heap.size w' o t.2 ∧ Below w.heap.size w w'
set_option maxRecDepth 100000 in
set_option maxHeartbeats 4000000 in
theorem PagerPlay_by (mv iv ev cv sv lv qv v : Value) (P : PagerV) (ss : List StepV) (w : World) (h : RdP w mv iv ev cv sv lv qv P) (hP : POk P) (hss : RdSteps w v ss) (hok : stepsOk ss = true) (hall : ∀ k, POk (playP P (ss.take k)).1)
 (hsm : ∀ s ∈ ss, s.k = 3 → ∀ (mv iv ev cv sv lv qv : Value) (Q : PagerV) (W : World), RdP W mv iv ev cv sv lv qv Q → POk Q → Calls Tryz.prog 90 #[pagerAgg mv iv ev cv sv lv qv Q.hand Q.limit, .agg #[.int .i64 s.ck, .int .i64 s.ce, .int .i64 s.ca, .int .i64 s.cb, .int .i64 s.cc, .string s.nm]] W (OtherRes W (otherP Q s.kall))) :
 Calls Tryz.prog 28 #[pagerAgg mv iv ev cv sv lv qv P.hand P.limit, v] w (PPlayRes w (playP P ss)) := by
 unfold pagerAgg PPlayRes
 obtain ⟨B0, B1, hb0, hs0⟩ := two_blocks w (.cells #[mv, iv, ev, cv, sv, lv, qv, .int .i64 P.hand, .int .i64 P.limit] 46) (.cells #[.slice none 0 0, .slice none 0 0, .slice none 0 0, .slice none 0 0, .slice none 0 0, .slice none 0 0, .slice none 0 0, .int .i64 0, .int .i64 0] 46)
 have h0 := h.below hb0
 have hpk : pagerOk P = true := pagerOk_iff.2 hP
 have CSt := Lib.hid (fun W (hW : Below w.heap.size w W) => StepsValid_impl v ss W (Rd.below hss hW))
 rw [hok] at CSt
 have h80 := stepsOk_len hok
 have HokS := Lib.hid hok
 have Hsm := Lib.hid hsm
 have Hall := Lib.hid hall
 obtain ⟨a, cap, rfl, hcl, hcm, H0⟩ := hss.open
 unfold maxLen at hcm
 have HA := Lib.hid H0
 generalize hPL : playP P ss = t
 obtain ⟨Q, so⟩ := t
 dsimp only
 have HPL := Lib.hid hPL
 clear hPL
 go_enter Tryz.func28, Tryz.ntmps28
 go_wp2_with fail
 generalize (w.alloc _).alloc _ = W0 at *
 have CV := Lib.hid (fun W (hW : Below W0.heap.size W0 W) => PagerValid_any mv iv ev cv sv lv qv P W (h0.below hW) (kok_small hP.k))
 have CO := Lib.hid (fun W (hW : Below W0.heap.size W0 W) => pown_any mv iv ev cv sv lv qv P W (h0.below hW) hP)
 rw [hpk] at CV
 have Hb0 := Lib.hid hb0
 have HB0 := Lib.hid B0
 have HB1 := Lib.hid B1
 have HPO := Lib.hid hP
 have Hs0 := Lib.hid hs0
 clear h h0 hb0 B0 B1 hP hpk hs0 H0 hss hok hsm hall
 refine (CV.out W0 (Below.refl _ _)).mono ?_; rintro r w1 ⟨rfl, b1⟩
 obtain ⟨x0, x1, x2, x3, x4, x5, x6, x7, x8⟩ := blk_cells9 (blk_below HB0.out b1)
 have Hb1 := Lib.hid b1
 clear b1 CV
 go_wp2_with fail
 refine (CSt.out _ (Hb0.out.trans (Hb1.out.mono Hb0.out.size))).mono ?_; rintro r w2 ⟨rfl, b2⟩
 have Hb2 := Lib.hid (Hb1.out.trans (b2.mono Hb1.out.size))
 clear b2 x0 x1 x2 x3 x4 x5 x6 x7 x8
 obtain ⟨x0, x1, x2, x3, x4, x5, x6, x7, x8⟩ := blk_cells9 (blk_below HB0.out Hb2.out)
 go_wp2_with fail
 refine (CO.out w2 Hb2.out).mono ?_; rintro r w3 ⟨m3, i3, e3, c3, s3, l3, q3, rfl, O3, b3⟩; unfold pagerAgg
 obtain ⟨⟨⟨ma, mn, mc, rfl⟩, ⟨ia, iN, ic, rfl⟩, ⟨ea, en, ec, rfl⟩, ⟨qa, qn, qc, rfl⟩⟩, ⟨sa, sn, sc, rfl⟩, ⟨la, ln, lc, rfl⟩, ⟨pa, pn, pc, rfl⟩⟩ := O3.shapes
 have hl3 : W0.heap.size ≤ w3.heap.size := Nat.le_trans Hb2.out.size b3.size
 have I4 := InP.start (O3.lower Hb2.out.size) hl3
 have b4 : Below W0.heap.size W0 (w3.alloc (.cells #[.slice ma mn mc, .slice ia iN ic, .slice ea en ec, .slice qa qn qc, .slice sa sn sc, .slice la ln lc, .slice pa pn pc, .int .i64 P.hand, .int .i64 P.limit] 46)) := Hb2.out.trans ((b3.mono Hb2.out.size).trans ((below1 _ _).mono hl3))
 have St : PSt W0.heap.size w3.heap.size (.slice none 0 0) (P, []) W0 (w3.alloc (.cells #[.slice ma mn mc, .slice ia iN ic, .slice ea en ec, .slice qa qn qc, .slice sa sn sc, .slice la ln lc, .slice pa pn pc, .int .i64 P.hand, .int .i64 P.limit] 46)) _ _ _ _ _ _ _ := ⟨I4, World.ownsRow_nil _ _ _ _, b4, b4.size⟩
 clear O3 b3 x0 x1 x2 x3 x4 x5 x6 x7 x8 I4 b4 CO CSt
 go_wp2_with fail
 generalize w3.heap.size = g at *
 generalize w3.alloc _ = W3 at *
 have HSt := Lib.hid St
 clear St
 go_loopw [7, 9, 10, 11, 12, 26] (fun o _ _ _ _ ix wr => ∃ k : Nat, k ≤ ss.length ∧ ix = .int .i64 k ∧ ∃ ov, ov = o ∧ ∃ m i e c s l q, PSt W0.heap.size g ov (playP P (ss.take k)) W0 wr m i e c s l q) (fun _ _ _ _ _ ix _ => ss.length - (intOf ix).toNat)
 case atStart => exact ⟨0, Nat.zero_le _, rfl, _, rfl, _, _, _, _, _, _, _, HSt.out⟩
 case round =>
  clear HSt
  obtain ⟨k, hk, rfl, ov, rfl, m5, i5, e5, c5, s5, l5, q5, St⟩ := hrel
  have hbw := Hb0.out.trans (St.bel.mono Hb0.out.size)
  by_cases hlt : k < ss.length
  ·obtain ⟨x, hx⟩ : ∃ x, ss[k]? = some x := ⟨_, List.getElem?_eq_getElem hlt⟩
   obtain ⟨b, off, rfl, D0, D1, D2, D3, D4, D5, D6, D7, D8⟩ := HA.out.nine hbw hx
   have hltI : (k : Int) < (ss.length : Int) := by omega
   have Nx := Lib.hid (play_next (p := P) hx)
   have Sm := Hsm.out x (List.mem_of_getElem? hx)
   have hxok := stepsOk_at HokS.out hx
   have hPst : POk (playP P (ss.take k)).1 := Hall.out k
   have hlen : (playP P (ss.take k)).2.length ≤ 80 := by
    have := play_len (ss.take k) P []
    unfold playP
    simp only [List.length_nil, List.length_take] at this
    omega
   generalize playP P (ss.take k) = st at St Nx hPst hlen
   clear HPL
   obtain ⟨Pk, so⟩ := st
   obtain ⟨xk, xa, xx, ck, ce, ca, cb, cc, nm⟩ := x
   dsimp only at D0 D1 D2 D3 D4 D5 D6 D7 D8 Sm hPst hlen
   have St1 := St.below (below1 wr (.cells #[.int .i64 xk, .int .i64 xa, .int .i64 xx, .int .i64 ck, .int .i64 ce, .int .i64 ca, .int .i64 cb, .int .i64 cc, .string nm] 62))
   obtain ⟨z0, z1, z2, z3, z4, z5, z6, z7, z8⟩ := blk_cells9 St1.inp.blk
   have Hso := Lib.hid hlen
   have HPk := Lib.hid hPst
   have hsh := St1.inp.own.shapes
   have hx2 := hx
   clear St hx hPst hlen hbw hsh
   have HSt0 := Lib.hid St1
   clear St1
   by_cases h1 : xk = 1
   ·subst h1
    obtain ⟨ha0, ha1⟩ := ok_load hxok rfl
    obtain ⟨an, rfl⟩ : ∃ an : Nat, xa = (an : Int) := ⟨xa.toNat, by simp only at ha0; omega⟩
    have han : an < 64 := by simp only at ha1; omega
    have E := playStep1 (st := (Pk, so)) (s := ⟨1, (an : Int), xx, ck, ce, ca, cb, cc, nm⟩) rfl
    rw [show (⟨1, (an : Int), xx, ck, ce, ca, cb, cc, nm⟩ : StepV).a.toNat = an from rfl] at E
    have CL := PagerLoad_yes _ _ _ _ _ _ _ Pk _ HSt0.out.inp.own.rd HPk.out han
    unfold LoadRes at CL
    simp only [pagerAgg] at CL
    dsimp only at E
    generalize loadP Pk an = res at E CL
    obtain ⟨Q, vr, ok⟩ := res
    have Nx2 := Nx.out.trans E
    have HCL := Lib.hid CL
    have HNx2 := Lib.hid Nx2
    clear E CL Nx Nx2 hxok ha0 ha1 hx2 Sm
    go_wp2_with fail
    clear D0 D1 D2 D3 D4 D5 D6 D7 D8 z0 z1 z2 z3 z4 z5 z6 z7 z8
    generalize wr.heap.size = gs at *
    generalize wr.alloc _ = W5 at *
    have HSt := HSt0
    refine HCL.out.mono ?_; rintro r w1 ⟨m6, i6, e6, c6, s6, l6, q6, rfl, O1, b1⟩
    obtain ⟨⟨⟨ma, mn, mc, rfl⟩, ⟨ia, iN, ic, rfl⟩, ⟨ea, en, ec, rfl⟩, ⟨qa, qn, qc, rfl⟩⟩, ⟨sa, sn, sc, rfl⟩, ⟨la, ln, lc, rfl⟩, ⟨pa, pn, pc, rfl⟩⟩ := O1.shapes
    have HN8 := Lib.hid (heap_alloc_new w1 (.cells #[.slice ma mn mc, .slice ia iN ic, .slice ea en ec, .slice qa qn qc, .slice sa sn sc, .slice la ln lc, .slice pa pn pc, .int .i64 Q.hand, .int .i64 Q.limit] 46))
    have HO10 := Lib.hid (O1.below (below1 w1 (.cells #[.slice ma mn mc, .slice ia iN ic, .slice ea en ec, .slice qa qn qc, .slice sa sn sc, .slice la ln lc, .slice pa pn pc, .int .i64 Q.hand, .int .i64 Q.limit] 46)))
    have Hb8 := Lib.hid (b1.trans ((below1 w1 (.cells #[.slice ma mn mc, .slice ia iN ic, .slice ea en ec, .slice qa qn qc, .slice sa sn sc, .slice la ln lc, .slice pa pn pc, .int .i64 Q.hand, .int .i64 Q.limit] 46)).mono b1.size))
    clear O1 b1 HCL
    cases ok
    ·have Nx := Lib.hid (show playP P (ss.take (k + 1)) = (Q, so ++ [-1]) from HNx2.out)
     clear HNx2
     go_wp2_with fail
     generalize w1.heap.size = g10 at *
     generalize w1.alloc _ = W8 at *
     obtain ⟨k0, k1, k2, k3, k4, k5, k6, k7, k8⟩ := blk_cells9 HN8.out
     have hl10 := blk_lt HN8.out
     have HO8 := Lib.hid (HSt.out.below Hb8.out).out
     have Hlo8 := Lib.hid (Nat.le_trans HSt.out.lo Hb8.out.size)
     have hne10 := own_row_ne HO8.out HN8.out (by decide)
     have hrow : ∀ k, ov.ownBlock = some k → k < W8.heap.size := fun k hk => (World.ownsRow.lt HO8.out k hk).2
     refine wp_region_own 5 Tryz.mixed (by kernel_rfl) 71 rfl (by kernel_rfl) 4 (ov.ownBlock) (fun ix vv ww => match ix with
      | 0 => vv = .agg #[.slice ma mn mc, .slice ia iN ic, .slice ea en ec, .slice qa qn qc, .slice sa sn sc, .slice la ln lc, .slice pa pn pc, .int .i64 Q.hand, .int .i64 Q.limit]
      | 1 => vv = ov
      | 2 => vv = .int .i64 ((-1))
      | 3 => NewInt W8.heap.size vv ww (-1)
      | 4 => OwnInts W0.heap.size ww vv (so ++ [(-1)])
      | _ => True) ?_ ?_ ?_ ?_ ?_
     ·intro i hi his vv wz ww' hz0 hbz hz
      match i, hi, his with
      | 0, _, hs | 1, _, hs | 2, _, hs => exact hz
      | 3, _, hs => exact (NewInt.past hz hbz hrow)
      | 4, _, hs => exact absurd rfl hs
     ·intro vv wz ww' hbz hz
      exact (OwnInts.below hz hbz)
     ·intro i hi his o ho a wx Hb Hd hG K HK
      match i, hi, his with
      | 0, _, _ => exact dL ho rfl (gn rfl) HK rfl (eb (Hb.out.2.2 10 (by decide))) (lA46 ((grown_cell hG hl10 hne10).trans k0) ((grown_cell hG hl10 hne10).trans k1) ((grown_cell hG hl10 hne10).trans k2) ((grown_cell hG hl10 hne10).trans k3) ((grown_cell hG hl10 hne10).trans k4) ((grown_cell hG hl10 hne10).trans k5) ((grown_cell hG hl10 hne10).trans k6) ((grown_cell hG hl10 hne10).trans k7) ((grown_cell hG hl10 hne10).trans k8)) rfl
      | 1, _, _ => exact dM ho rfl (gn rfl) HK rfl (eb (Hb.out.2.2 7 (by decide))) rfl
      | 2, _, _ => exact dM ho rfl (gn rfl) HK rfl (eb (Hb.out.2.2 11 (by decide))) rfl
      | 3, _, _ =>
       obtain rfl := Option.some.inj ho
       have d2 : (a.tmps[53]?.getD undef) = .int .i64 ((-1)) := Hd.out 2 (by kernel_rfl)
       clear Hd Hb
       refine Does.of rfl ?_
       go_simp
       exact HK.out _ _ ⟨_, rfl, hG.size, heap_alloc_new _ _⟩ (below1 _ _)
      | 4, _, hs => exact absurd rfl hs
     ·intro o ho a wx Hb Hd hG K HK
      obtain rfl := Option.some.inj ho
      have d1 : (a.tmps[52]?.getD undef) = ov := Hd.out 1 (by kernel_rfl)
      have d3 : NewInt W8.heap.size (a.tmps[54]?.getD undef) wx (-1) := Hd.out 3 (by kernel_rfl)
      clear Hd Hb
      obtain ⟨g9, d3, d3a, d3b⟩ := d3
      have o1' := OwnInts.below HO8.out hG
      obtain ⟨i0, hi0, hz0, hz1, hz2⟩ := info_parts Tryz.infoInt
      obtain ⟨v10, w4, hrun, r1, r2, _, r4⟩ := run_append_own_at (P := Tryz.prog) wx W0.heap.size 38 38 3 i0 _ 1 8 Tryz.underlying38 hi0 hz0 hz1 hz2 rfl (by decide) ov so.length (so.map (Value.int .i64)) o1' ⟨g9, 0, none⟩ 1 1 [.int .i64 ((-1))] rfl (by
       intro j x hx
       match j, hx with
       | 0, hx => simp at hx; subst hx; exact cell_of_row wx g9 0 _ _ _ d3b) (by simp [Value.oneCell']) (by have := Hso.out; simp only [maxLen]; omega) (by have := Hso.out; omega) (Nat.le_trans Hlo8.out hG.size)
      clear hi0 hz0 hz1 hz2
      refine Does.of rfl ?_
      refine wp_append_run rfl (eval_tmp d1) (eval_tmp d3) hrun ?_
      exact HK.out _ _ (by simpa [OwnInts] using r1) r2
     ·intro vs wx hR hG
      have q0 : (vs 0) = .agg #[.slice ma mn mc, .slice ia iN ic, .slice ea en ec, .slice qa qn qc, .slice sa sn sc, .slice la ln lc, .slice pa pn pc, .int .i64 Q.hand, .int .i64 Q.limit] := hR 0 (by decide)
      have q4 : OwnInts W0.heap.size wx (vs 4) (so ++ [(-1)]) := hR 4 (by decide)
      clear hR
      simp only [fillAt, dstOf, List.range, List.range.loop, List.foldl_cons, List.foldl_nil, q0]
      simp
      generalize vs 4 = z4 at q4 ⊢
      clear q0
      have PU := HSt.out.push Hb8.out HO10.out hG q4
      obtain ⟨_, _, rfl, _⟩ := (OwnInts.rd q4).open
      obtain ⟨c0, c1, c2, c3, c4, c5, c6, c7, c8⟩ := blk_cells9 PU.1
      have fz := blk_frozen PU.1
      have HPU := Lib.hid PU.2
      clear PU q4 hG k0 k1 k2 k3 k4 k5 k6 k7 k8 hl10 hne10 hrow HN8
      simp only [set7] at HPU
      go_wp2_with fail
      go_roundw
      case rel => exact ⟨k + 1, by omega, by go_num, _, rfl, _, _, _, _, _, _, _, by rw [Nx.out]; exact HPU.out⟩
      case measure => simp [intOf]; omega
    ·have Nx := Lib.hid (show playP P (ss.take (k + 1)) = (Q, so ++ [vr]) from HNx2.out)
     clear HNx2
     go_wp2_with fail
     generalize w1.heap.size = g10 at *
     generalize w1.alloc _ = W8 at *
     obtain ⟨k0, k1, k2, k3, k4, k5, k6, k7, k8⟩ := blk_cells9 HN8.out
     have hl10 := blk_lt HN8.out
     have HO8 := Lib.hid (HSt.out.below Hb8.out).out
     have Hlo8 := Lib.hid (Nat.le_trans HSt.out.lo Hb8.out.size)
     have hne10 := own_row_ne HO8.out HN8.out (by decide)
     have hrow : ∀ k, ov.ownBlock = some k → k < W8.heap.size := fun k hk => (World.ownsRow.lt HO8.out k hk).2
     refine wp_region_own 5 Tryz.mixed (by kernel_rfl) 71 rfl (by kernel_rfl) 4 (ov.ownBlock) (fun ix vv ww => match ix with
      | 0 => vv = .agg #[.slice ma mn mc, .slice ia iN ic, .slice ea en ec, .slice qa qn qc, .slice sa sn sc, .slice la ln lc, .slice pa pn pc, .int .i64 Q.hand, .int .i64 Q.limit]
      | 1 => vv = ov
      | 2 => vv = .int .i64 vr
      | 3 => NewInt W8.heap.size vv ww vr
      | 4 => OwnInts W0.heap.size ww vv (so ++ [vr])
      | _ => True) ?_ ?_ ?_ ?_ ?_
     ·intro i hi his vv wz ww' hz0 hbz hz
      match i, hi, his with
      | 0, _, hs | 1, _, hs | 2, _, hs => exact hz
      | 3, _, hs => exact (NewInt.past hz hbz hrow)
      | 4, _, hs => exact absurd rfl hs
     ·intro vv wz ww' hbz hz
      exact (OwnInts.below hz hbz)
     ·intro i hi his o ho a wx Hb Hd hG K HK
      match i, hi, his with
      | 0, _, _ => exact dL ho rfl (gn rfl) HK rfl (eb (Hb.out.2.2 10 (by decide))) (lA46 ((grown_cell hG hl10 hne10).trans k0) ((grown_cell hG hl10 hne10).trans k1) ((grown_cell hG hl10 hne10).trans k2) ((grown_cell hG hl10 hne10).trans k3) ((grown_cell hG hl10 hne10).trans k4) ((grown_cell hG hl10 hne10).trans k5) ((grown_cell hG hl10 hne10).trans k6) ((grown_cell hG hl10 hne10).trans k7) ((grown_cell hG hl10 hne10).trans k8)) rfl
      | 1, _, _ => exact dM ho rfl (gn rfl) HK rfl (eb (Hb.out.2.2 7 (by decide))) rfl
      | 2, _, _ => exact dM ho rfl (gn rfl) HK rfl (eb (Hb.out.2.2 11 (by decide))) rfl
      | 3, _, _ =>
       obtain rfl := Option.some.inj ho
       have d2 : (a.tmps[53]?.getD undef) = .int .i64 vr := Hd.out 2 (by kernel_rfl)
       clear Hd Hb
       refine Does.of rfl ?_
       go_simp
       exact HK.out _ _ ⟨_, rfl, hG.size, heap_alloc_new _ _⟩ (below1 _ _)
      | 4, _, hs => exact absurd rfl hs
     ·intro o ho a wx Hb Hd hG K HK
      obtain rfl := Option.some.inj ho
      have d1 : (a.tmps[52]?.getD undef) = ov := Hd.out 1 (by kernel_rfl)
      have d3 : NewInt W8.heap.size (a.tmps[54]?.getD undef) wx vr := Hd.out 3 (by kernel_rfl)
      clear Hd Hb
      obtain ⟨g9, d3, d3a, d3b⟩ := d3
      have o1' := OwnInts.below HO8.out hG
      obtain ⟨i0, hi0, hz0, hz1, hz2⟩ := info_parts Tryz.infoInt
      obtain ⟨v10, w4, hrun, r1, r2, _, r4⟩ := run_append_own_at (P := Tryz.prog) wx W0.heap.size 38 38 3 i0 _ 1 8 Tryz.underlying38 hi0 hz0 hz1 hz2 rfl (by decide) ov so.length (so.map (Value.int .i64)) o1' ⟨g9, 0, none⟩ 1 1 [.int .i64 (vr)] rfl (by
       intro j x hx
       match j, hx with
       | 0, hx => simp at hx; subst hx; exact cell_of_row wx g9 0 _ _ _ d3b) (by simp [Value.oneCell']) (by have := Hso.out; simp only [maxLen]; omega) (by have := Hso.out; omega) (Nat.le_trans Hlo8.out hG.size)
      clear hi0 hz0 hz1 hz2
      refine Does.of rfl ?_
      refine wp_append_run rfl (eval_tmp d1) (eval_tmp d3) hrun ?_
      exact HK.out _ _ (by simpa [OwnInts] using r1) r2
     ·intro vs wx hR hG
      have q0 : (vs 0) = .agg #[.slice ma mn mc, .slice ia iN ic, .slice ea en ec, .slice qa qn qc, .slice sa sn sc, .slice la ln lc, .slice pa pn pc, .int .i64 Q.hand, .int .i64 Q.limit] := hR 0 (by decide)
      have q4 : OwnInts W0.heap.size wx (vs 4) (so ++ [vr]) := hR 4 (by decide)
      clear hR
      simp only [fillAt, dstOf, List.range, List.range.loop, List.foldl_cons, List.foldl_nil, q0]
      simp
      generalize vs 4 = z4 at q4 ⊢
      clear q0
      have PU := HSt.out.push Hb8.out HO10.out hG q4
      obtain ⟨_, _, rfl, _⟩ := (OwnInts.rd q4).open
      obtain ⟨c0, c1, c2, c3, c4, c5, c6, c7, c8⟩ := blk_cells9 PU.1
      have fz := blk_frozen PU.1
      have HPU := Lib.hid PU.2
      clear PU q4 hG k0 k1 k2 k3 k4 k5 k6 k7 k8 hl10 hne10 hrow HN8
      simp only [set7] at HPU
      go_wp2_with fail
      go_roundw
      case rel => exact ⟨k + 1, by omega, by go_num, _, rfl, _, _, _, _, _, _, _, by rw [Nx.out]; exact HPU.out⟩
      case measure => simp [intOf]; omega
   ·have t1 : (xk == 1) = false := by simp [h1]
    by_cases h2 : xk = 2
    ·subst h2
     obtain ⟨ha0, ha1⟩ := ok_store hxok rfl
     have hxw := ok_word hxok rfl
     obtain ⟨an, rfl⟩ : ∃ an : Nat, xa = (an : Int) := ⟨xa.toNat, by simp only at ha0; omega⟩
     have han : an < 64 := by simp only at ha1; omega
     have E := playStep2 (st := (Pk, so)) (s := ⟨2, (an : Int), xx, ck, ce, ca, cb, cc, nm⟩) rfl
     rw [show (⟨2, (an : Int), xx, ck, ce, ca, cb, cc, nm⟩ : StepV).a.toNat = an from rfl] at E
     have CL := PagerStore_yes _ _ _ _ _ _ _ Pk _ HSt0.out.inp.own.rd HPk.out han (x := xx) hxw
     unfold TouchRes at CL
     simp only [pagerAgg] at CL
     dsimp only at E
     generalize storeP Pk an xx = res at E CL
     obtain ⟨Q, ok⟩ := res
     have Nx2 := Nx.out.trans E
     have HCL := Lib.hid CL
     have HNx2 := Lib.hid (show playP P (ss.take (k + 1)) = (Q, so) from Nx2)
     clear E CL Nx Nx2 hxok ha0 ha1 hx2 Sm hxw h1
     go_wp2_with fail
     clear D0 D1 D2 D3 D4 D5 D6 D7 D8 z0 z1 z2 z3 z4 z5 z6 z7 z8
     generalize wr.heap.size = gs at *
     generalize wr.alloc _ = W5 at *
     refine HCL.out.mono ?_; rintro r w1 ⟨m6, i6, e6, c6, s6, l6, q6, rfl, O1, b1⟩
     have PU := HSt0.out.put b1 O1
     obtain ⟨⟨⟨ma, mn, mc, rfl⟩, ⟨ia, iN, ic, rfl⟩, ⟨ea, en, ec, rfl⟩, ⟨qa, qn, qc, rfl⟩⟩, ⟨sa, sn, sc, rfl⟩, ⟨la, ln, lc, rfl⟩, ⟨pa, pn, pc, rfl⟩⟩ := O1.shapes
     have hB := (HSt0.out.below b1).inp.blk
     obtain ⟨c0, c1, c2, c3, c4, c5, c6, c7, c8⟩ := blk_cells9 hB
     have fz := blk_frozen hB
     obtain ⟨_, _, rfl, _⟩ := (OwnInts.rd HSt0.out.out).open
     have HPU := Lib.hid PU
     clear PU O1 b1 HCL hB
     simp only [set7] at HPU
     go_wp2_with fail
     go_roundw
     case rel => exact ⟨k + 1, by omega, by go_num, _, rfl, _, _, _, _, _, _, _, by rw [HNx2.out]; exact HPU.out⟩
     case measure => simp [intOf]; omega
    ·have t2 : (xk == 2) = false := by simp [h2]
     obtain ⟨h3, hce⟩ := ok_env hxok h1 h2
     have E := playStep3 (st := (Pk, so)) (s := ⟨xk, xa, xx, ck, ce, ca, cb, cc, nm⟩) h1 h2
     have CL := Sm h3 _ _ _ _ _ _ _ Pk _ HSt0.out.inp.own.rd HPk.out
     unfold OtherRes at CL
     simp only [pagerAgg] at CL
     dsimp only at E
     generalize otherP Pk (StepV.kall ⟨xk, xa, xx, ck, ce, ca, cb, cc, nm⟩) = res at E CL
     obtain ⟨Q, code⟩ := res
     have Nx2 := Nx.out.trans E
     have HCL := Lib.hid CL
     have HNx2 := Lib.hid (show playP P (ss.take (k + 1)) = (Q, so) from Nx2)
     clear E CL Nx Nx2 hxok hx2 Sm h1 h2 h3 hce
     go_wp2_with fail
     clear D0 D1 D2 D3 D4 D5 D6 D7 D8 z0 z1 z2 z3 z4 z5 z6 z7 z8
     generalize wr.heap.size = gs at *
     generalize wr.alloc _ = W5 at *
     refine HCL.out.mono ?_; rintro r w1 ⟨m6, i6, e6, c6, s6, l6, q6, rfl, O1, b1⟩
     have PU := HSt0.out.put b1 O1
     obtain ⟨⟨⟨ma, mn, mc, rfl⟩, ⟨ia, iN, ic, rfl⟩, ⟨ea, en, ec, rfl⟩, ⟨qa, qn, qc, rfl⟩⟩, ⟨sa, sn, sc, rfl⟩, ⟨la, ln, lc, rfl⟩, ⟨pa, pn, pc, rfl⟩⟩ := O1.shapes
     have hB := (HSt0.out.below b1).inp.blk
     obtain ⟨c0, c1, c2, c3, c4, c5, c6, c7, c8⟩ := blk_cells9 hB
     have fz := blk_frozen hB
     obtain ⟨_, _, rfl, _⟩ := (OwnInts.rd HSt0.out.out).open
     have HPU := Lib.hid PU
     clear PU O1 b1 HCL hB
     simp only [set7] at HPU
     go_wp2_with fail
     go_roundw
     case rel => exact ⟨k + 1, by omega, by go_num, _, rfl, _, _, _, _, _, _, _, by rw [HNx2.out]; exact HPU.out⟩
     case measure => simp [intOf]; omega
  ·obtain rfl : k = ss.length := by omega
   have e1 : ss.take ss.length = ss := List.take_of_length_le (Nat.le_refl _)
   rw [e1, HPL.out] at St
   have hPst : POk Q := by
    rw [show Q = (playP P ss).1 by rw [HPL.out]]
    have := Hall.out ss.length
    rwa [e1] at this
   obtain ⟨x0, x1, x2, x3, x4, x5, x6, x7, x8⟩ := blk_cells9 St.inp.blk
   have C6 := Lib.hid (pown_any _ _ _ _ _ _ _ Q wr St.inp.own.rd hPst)
   have B3 := blk_below HB1.out St.bel
   have HBy := Lib.hid (Hb0.out.trans (St.bel.mono Hb0.out.size))
   have HOut := Lib.hid St.out
   obtain ⟨oa, oc, rfl, _⟩ := (OwnInts.rd St.out).open
   clear St e1 hPst hbw
   go_wp2_with fail
   refine C6.out.mono ?_; rintro r w5 ⟨m5, i5, e5, c5, s5, l5, q5, rfl, O5, b5⟩; unfold pagerAgg
   clear C6 x0 x1 x2 x3 x4 x5 x6 x7 x8
   obtain ⟨⟨⟨ma, mn, mc, rfl⟩, ⟨ia, iN, ic, rfl⟩, ⟨ea, en, ec, rfl⟩, ⟨qa, qn, qc, rfl⟩⟩, ⟨sa, sn, sc, rfl⟩, ⟨la, ln, lc, rfl⟩, ⟨pa, pn, pc, rfl⟩⟩ := O5.shapes
   have N5 := blk_below B3 b5
   have S5 := pg_stored N5 O5
   obtain ⟨a0, a1, a2, a3, a4, a5, a6, a7, a8⟩ := blk_cells9 N5
   have f5 := blk_frozen N5
   have HS5 := Lib.hid S5
   have Hb5 := Lib.hid b5
   have Hsz := Lib.hid (blk_lt B3)
   clear O5 S5 N5 b5 B3
   go_wp2_with fail
   clear a0 a1 a2 a3 a4 a5 a6 a7 a8 f5
   obtain ⟨N6, O6, gr6⟩ := HS5.out
   have B6 := below_grown (HBy.out.trans (Hb5.out.mono (by have := HBy.out.size; have := Hsz.out; omega))) gr6 (by omega) (by have := HBy.out.size; have := Hb5.out.size; omega)
   have O7 := O6.lower (lo' := w.heap.size) (by have := HBy.out.size; omega)
   unfold set7 at N6 O7 B6
   obtain ⟨E0, E1, E2, E3, E4, E5, E6, E7, E8⟩ := blk_cells9 N6
   exact bodyPost_ret (v := .tuple #[.agg #[.slice ma mn mc, .slice ia iN ic, .slice ea en ec, .slice qa qn qc, .slice sa sn sc, .slice la ln lc, .slice pa pn pc, .int .i64 Q.hand, .int .i64 Q.limit], .slice oa so.length oc]) (by simp [results, Tryz.results28, go_sem, E0, E1, E2, E3, E4, E5, E6, E7, E8]) rfl ⟨_, _, _, _, _, _, _, _, rfl, O7, own_loV (own_past (lo := W0.heap.size) (OwnInts.below HOut.out Hb5.out) gr6 (fun k hk => by cases hk; have := Hs0.out; omega)) (by have := Hs0.out; omega), B6⟩
def noCalls (ss : List StepV) : List StepV := ss.filter fun s => decide (s.k ≠ 3)
theorem noCalls_next {ss : List StepV} {k : Nat} {s : StepV} (h : ss[k]? = some s) : noCalls (ss.take (k + 1)) = if s.k = 3 then noCalls (ss.take k) else noCalls (ss.take k) ++ [s] := by
 rw [take_one h, noCalls, List.filter_append]
 split
 ·next h => simp [h, noCalls]
 ·next h => simp [h, noCalls]
theorem noCalls_len (ss : List StepV) : (noCalls ss).length ≤ ss.length := List.length_filter_le _ _
theorem noCalls_run (ss : List StepV) (st : List Int × List Int) : (noCalls ss).foldl flatStep st = ss.foldl flatStep st := by
 induction ss generalizing st with
 | nil => rfl
 | cons s ss ih =>
  by_cases h : s.k = 3
  ·have e : noCalls (s :: ss) = noCalls ss := by simp [noCalls, h]
   rw [e, ih, List.foldl_cons, flatStep3 (by omega) (by omega)]
  ·have e : noCalls (s :: ss) = s :: noCalls ss := by simp [noCalls, h]
   rw [e, List.foldl_cons, ih, List.foldl_cons]
theorem noCalls_ok {ss : List StepV} (h : stepsOk ss = true) : stepsOk (noCalls ss) = true ∧ ∀ s ∈ noCalls ss, s.ok = true ∧ (s.k = 1 ∨ s.k = 2) := by
 have hl := noCalls_len ss
 simp only [stepsOk, Bool.and_eq_true, decide_eq_true_eq, List.all_eq_true] at h ⊢
 refine ⟨⟨by omega, fun s hs => h.2 s ((List.mem_filter.1 hs).1)⟩, fun s hs => ?_⟩
 have h1 := List.mem_filter.1 hs
 have h2 := h.2 s h1.1
 refine ⟨h2, ?_⟩
 have h3 : s.k ≠ 3 := by simpa using h1.2
 unfold StepV.ok at h2
 by_cases e1 : s.k = 1
 ·exact .inl e1
 ·by_cases e2 : s.k = 2
  ·exact .inr e2
  ·rw [if_neg e1, if_neg e2, if_neg h3] at h2
   cases h2
theorem play_new {ss : List StepV} (h : stepsOk ss = true) {l : Int} (h1 : 1 ≤ l) (h6 : l ≤ 6) : (playP (newP l) (noCalls ss)).2 = (flatRun ss).2 := by
 have hn := noCalls_ok h
 unfold playP
 rw [play_flat (newP_ok h1 h6) (fun hs => by have := hs.1; rw [newP_free] at this; omega) hn.2 (ws := List.replicate 64 0) (by simp) (fun a ha => by rw [newP_word l ha]; unfold nth; rw [List.getD_eq_getElem?_getD, List.getElem?_replicate, if_pos ha]; rfl), noCalls_run]
 rfl
set_option maxRecDepth 100000 in
set_option maxHeartbeats 4000000 in
theorem fnPlayFlat.walkR (v : Value) (bs : List Int) (v' : Value) (bs' : List Int) (w : World) (h : RdBytes w v bs) (h' : RdBytes w v' bs') :
 Calls Tryz.prog 6 #[v, v'] w fun e w' => e = .returned (.bool true) ∧ Below w.heap.size w w' := by
 obtain ⟨a, c, hv, hc, hcm, hA⟩ := h.open
 subst hv
 obtain ⟨a', c', hv, hc', hcm', _⟩ := h'.open
 subst hv
 clear h'
 unfold maxLen at hcm hcm'
 by_cases hl : 1048576 < bs.length
 ·have t0 : (1048576 : Int) < bs.length := by omega
  go_enter Tryz.func6, Tryz.ntmps6
  go_wp2_with fail
  go_ret
  exact ⟨rfl, Below.refl _ _⟩
 have t0 : ¬ (1048576 : Int) < bs.length := by omega
 by_cases hl' : 1048576 < bs'.length
 ·have t1 : (1048576 : Int) < bs'.length := by omega
  go_enter Tryz.func6, Tryz.ntmps6
  go_wp2_with fail
  go_ret
  exact ⟨rfl, Below.refl _ _⟩
 have t1 : ¬ (1048576 : Int) < bs'.length := by omega
 go_enter Tryz.func6, Tryz.ntmps6
 go_wp2_with fail
 refine (DrawFlatPlay_any _ bs _ h).mono ?_; rintro e w1 ⟨v1, ss, rfl, o1, hsl, b1⟩
 have hz1 := b1.size
 clear hA h
 go_wp2_with fail
 refine (FlatPlay_impl v1 ss _ o1.rd).mono ?_; rintro e w2 ⟨v2, rfl, o2, c2⟩
 have b2 := b1.trans (c2.mono b1.size)
 have r1 : RdSteps w2 v1 ss := Rd.below o1.rd c2
 clear c2 b1 o1
 go_wp2_with fail
 refine (FlatPlay_spec v1 ss _ r1).mono ?_; rintro e w3 ⟨v3, rfl, o3, c3⟩
 have b3 := b2.trans (c3.mono b2.size)
 have r1 : RdSteps w3 v1 ss := Rd.below r1 c3
 have o2 := o2.below c3
 clear c3 b2
 go_wp2_with fail
 refine (sameInts_any _ _ _ _ _ o2.rd o3.rd).mono ?_; rintro e w4 ⟨rfl, n4, rfl⟩
 rw [show decide (flatOut ss = flatOut ss) = true by simp]
 have b4 := below_drewN b3 n4
 have c4 := below_drewN (Below.refl w3.heap.size w3) n4
 have r1 : RdSteps (w3.drewN n4) v1 ss := Rd.below r1 c4
 have o2 := o2.below c4
 have o3 := o3.below c4
 generalize w3.drewN n4 = w4 at b4 r1 o2 o3
 clear c4 b3
 go_wp2_with fail
 refine (StepsValid_spec _ ss _ r1).mono ?_; rintro e w5 ⟨rfl, c5⟩
 have b5 := b4.trans (c5.mono b4.size)
 have r1 : RdSteps w5 v1 ss := Rd.below r1 c5
 have o2 := o2.below c5
 have o3 := o3.below c5
 clear c5 b4
 cases hok : stepsOk ss
 ·have Hk := Lib.hid hok; clear hok
  go_wp2_with fail
  refine (sameInts_any _ _ _ _ _ o2.rd o3.rd).mono ?_; rintro e w6 ⟨rfl, n6, rfl⟩
  rw [show decide (flatOut ss = flatOut ss) = true by simp]
  go_wp2_with fail
  go_ret
  exact ⟨rfl, below_drewN b5 n6⟩
 have Hok := Lib.hid hok
 clear hok o3
 have o1 := ownsRow_empty w5 62 9
 have hz5 := b5.size
 obtain ⟨a1, c1, rfl, hc1, hcm1, H0⟩ := r1.open
 unfold maxLen at hcm1
 clear r1
 go_wp2_with fail
 have bA := below1 w5 (.cells #[] 62)
 generalize w5.alloc (.cells #[] 62) = wa at o1 bA
 generalize (Value.slice (some ⟨w5.heap.size, 0, none⟩) 0 0) = o at o1
 go_loopw [8, 9] (fun o i wr => ∃ k : Nat, k ≤ ss.length ∧ i = .int .i64 k ∧ OwnSteps w5.heap.size wr o (noCalls (ss.take k)) ∧ Below w5.heap.size w5 wr) (fun _ i _ => ss.length - (intOf i).toNat)
 case atStart => exact ⟨0, Nat.zero_le _, rfl, by simpa [OwnSteps, noCalls, stepCells] using o1, bA⟩
 case round =>
  clear o1 bA
  obtain ⟨k, hk, rfl, hown, hbel⟩ := hrel
  by_cases hlt : k < ss.length
  ·obtain ⟨s, hs⟩ : ∃ s, ss[k]? = some s := ⟨_, List.getElem?_eq_getElem hlt⟩
   obtain ⟨b, off, rfl, D0, D1, D2, D3, D4, D5, D6, D7, D8⟩ := H0.nine hbel hs
   have Nx := Lib.hid (noCalls_next hs)
   have hnl := noCalls_len (ss.take k)
   have htk : (ss.take k).length ≤ 82 := by rw [List.length_take]; omega
   clear hs
   generalize noCalls (ss.take k) = ys at hown Nx hnl
   by_cases h3 : s.k = 3
   ·have t0 : (s.k == 3) = true := by simp [h3]
    have Nx' := Lib.hid (Nx.out.trans (if_pos h3))
    clear Nx h3
    go_wp2_with fail
    go_roundw
    case rel => exact ⟨k + 1, by omega, by go_num, by rw [Nx'.out]; exact hown, hbel⟩
    case measure => simp [intOf]; omega
   ·have t0 : (s.k == 3) = false := by simp [h3]
    have Nx' := Lib.hid (Nx.out.trans (if_neg h3))
    clear Nx h3
    go_wp2_with (at_builtin; go_must (refine wp_appendL (lo := w5.heap.size) (n := ys.length) (xs := stepCells ys) (m := 1) (news := s.cells.toList) rfl rfl 62 _ 9 _ Tryz.underlying54 Tryz.infoStep rfl (by decide) rfl (ownsRow_below hown (below1 _ _)) rfl (Rd.newsAt _ s.cells _ 9 1 _ (by simp) rfl (by simp [maxLen])) (by simp [StepV.cells, Value.oneCell']) (by unfold maxLen; omega) (by omega) (by have := hbel.size; simp; omega) ?_; intro o' w9 k1 k2 k3 k4))
    go_roundw
    case rel => exact ⟨k + 1, by omega, by go_num, by
     rw [Nx'.out]
     unfold OwnSteps
     rw [List.length_append, show stepCells (ys ++ [s]) = stepCells ys ++ s.cells.toList by simp [stepCells]]
     exact k1, (hbel.alloc hbel.size _).trans k4⟩
    case measure => simp [intOf]; omega
  ·have e1 : ss.take k = ss := List.take_of_length_le (by omega)
   rw [e1] at hown
   have o2 := o2.below hbel
   have b6 := b5.trans (hbel.mono b5.size)
   have hlm : 0 ≤ (bs'.length : Int) % 6 ∧ (bs'.length : Int) % 6 ≤ 5 := by omega
   have hOw := Lib.hid hown
   have hO2 := Lib.hid o2
   have hB6 := Lib.hid b6
   generalize hlim : (bs'.length : Int) % 6 = lm at hlm
   have Hlm := Lib.hid hlm
   obtain ⟨_, _, rfl, _⟩ := (OwnSteps.rd hown).open
   obtain ⟨_, _, rfl, _⟩ := (OwnInts.rd o2).open
   clear hbel hown o2 b6
   go_wp2_with fail
   rw [show ((1 : Int) + lm) = 1 + lm from rfl]
   refine (PagerNew_yes (1 + lm) _ (by have := Hlm.out; omega) (by have := Hlm.out; omega)).mono ?_; rintro r w7 ⟨m7, i7, e7, c7, s7, l7, q7, rfl, O7, b7⟩; unfold pagerAgg
   obtain ⟨⟨⟨ma, mn, mc, rfl⟩, ⟨ia, iN, ic, rfl⟩, ⟨ea, en, ec, rfl⟩, ⟨qa, qn, qc, rfl⟩⟩, ⟨sa, sn, sc, rfl⟩, ⟨la, ln, lc, rfl⟩, ⟨pa, pn, pc, rfl⟩⟩ := O7.shapes
   have bA := b7.trans ((below1 w7 (.cells #[.slice ma mn mc, .slice ia iN ic, .slice ea en ec, .slice qa qn qc, .slice sa sn sc, .slice la ln lc, .slice pa pn pc, .int .i64 0, .int .i64 (1 + lm)] 46)).mono b7.size)
   have RP := Lib.hid ((O7.below (below1 w7 (.cells #[.slice ma mn mc, .slice ia iN ic, .slice ea en ec, .slice qa qn qc, .slice sa sn sc, .slice la ln lc, .slice pa pn pc, .int .i64 0, .int .i64 (1 + lm)] 46))).rd)
   have RS := Lib.hid (Rd.below (OwnSteps.rd hOw.out) bA)
   have hO3 := Lib.hid (hO2.out.below bA)
   have hB7 := Lib.hid (hB6.out.trans (bA.mono hB6.out.size))
   clear O7 b7 bA
   go_wp2_with fail
   generalize w7.heap.size = g7 at *
   generalize w7.alloc _ = W7 at *
   have hn := noCalls_ok Hok.out
   refine (PagerPlay_by _ _ _ _ _ _ _ _ (newP (1 + lm)) (noCalls ss) W7 RP.out (newP_ok (by have := Hlm.out; omega) (by have := Hlm.out; omega)) RS.out hn.1 (fun k => play12_ok (newP_ok (by have := Hlm.out; omega) (by have := Hlm.out; omega)) (fun s hs => hn.2 s (List.mem_of_mem_take hs)) []) (fun s hs h3 => by rcases (hn.2 s hs).2 with e | e <;> omega)).mono ?_
   rintro r w8 ⟨m8, i8, e8, c8, s8, l8, q8, o8, rfl, O8, oo, b8⟩; unfold pagerAgg
   have hPl := play_new Hok.out (l := 1 + lm) (by have := Hlm.out; omega) (by have := Hlm.out; omega)
   have hPo : POk (playP (newP (1 + lm)) (noCalls ss)).1 := play12_ok (newP_ok (by have := Hlm.out; omega) (by have := Hlm.out; omega)) hn.2 []
   generalize playP (newP (1 + lm)) (noCalls ss) = t at O8 oo hPl hPo ⊢
   obtain ⟨Q, so⟩ := t
   dsimp only at hPl hPo O8 oo ⊢
   subst hPl
   obtain ⟨⟨⟨ma, mn, mc, rfl⟩, ⟨ia, iN, ic, rfl⟩, ⟨ea, en, ec, rfl⟩, ⟨qa, qn, qc, rfl⟩⟩, ⟨sa, sn, sc, rfl⟩, ⟨la, ln, lc, rfl⟩, ⟨pa, pn, pc, rfl⟩⟩ := O8.shapes
   have bB := below1 w8 (.cells #[.slice ma mn mc, .slice ia iN ic, .slice ea en ec, .slice qa qn qc, .slice sa sn sc, .slice la ln lc, .slice pa pn pc, .int .i64 Q.hand, .int .i64 Q.limit] 46)
   have RQ := Lib.hid ((O8.below bB).rd)
   have RO := Lib.hid (OwnInts.rd (oo.below bB))
   have RW := Lib.hid (OwnInts.rd (hO3.out.below (b8.trans (bB.mono b8.size))))
   have hB8 := Lib.hid (hB7.out.trans ((b8.trans (bB.mono b8.size)).mono hB7.out.size))
   have hQ := Lib.hid hPo
   have hfo := Lib.hid (show flatOut ss = (flatRun ss).2 by simp [flatOut, Hok.out])
   clear O8 oo b8 bB hPo hn RP RS
   go_wp2_with fail
   refine (sameInts_any _ _ _ _ _ RO.out RW.out).mono ?_; rintro e w9 ⟨rfl, n9, rfl⟩
   rw [show decide ((flatRun ss).2 = flatOut ss) = true by rw [hfo.out]; simp]
   have b9 := below_drewN (Below.refl (w8.alloc (.cells #[.slice ma mn mc, .slice ia iN ic, .slice ea en ec, .slice qa qn qc, .slice sa sn sc, .slice la ln lc, .slice pa pn pc, .int .i64 Q.hand, .int .i64 Q.limit] 46)).heap.size (w8.alloc (.cells #[.slice ma mn mc, .slice ia iN ic, .slice ea en ec, .slice qa qn qc, .slice sa sn sc, .slice la ln lc, .slice pa pn pc, .int .i64 Q.hand, .int .i64 Q.limit] 46))) n9
   have hB9 := Lib.hid (hB8.out.trans (b9.mono hB8.out.size))
   have C9 := PagerValid_any _ _ _ _ _ _ _ Q _ (RQ.out.below b9) (kok_small hQ.out.k)
   rw [show pagerOk Q = true from pagerOk_iff.2 hQ.out] at C9
   have N9 := blk_below (heap_alloc_new w8 (.cells #[.slice ma mn mc, .slice ia iN ic, .slice ea en ec, .slice qa qn qc, .slice sa sn sc, .slice la ln lc, .slice pa pn pc, .int .i64 Q.hand, .int .i64 Q.limit] 46)) b9
   obtain ⟨x0, x1, x2, x3, x4, x5, x6, x7, x8⟩ := blk_cells9 N9
   have HC9 := Lib.hid C9
   clear C9 N9 b9
   go_wp2_with fail
   refine HC9.out.mono ?_; rintro r w10 ⟨rfl, b10⟩
   have hB10 := Lib.hid (hB9.out.trans (b10.mono hB9.out.size))
   clear b10 x0 x1 x2 x3 x4 x5 x6 x7 x8 HC9
   go_wp2_with fail
   go_ret
   exact ⟨rfl, hB10.out⟩
end Go.Proofs.YtjacdlekgdnndaaGreatDoor
