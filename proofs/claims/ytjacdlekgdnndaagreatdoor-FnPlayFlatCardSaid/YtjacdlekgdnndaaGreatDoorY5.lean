/-
  Packed: 11 texts.
-/
import Derived.Test.YtjacdlekgdnndaaGreatDoorY4
import Derived.Test.YtjacdlekgdnndaaGreatDoorY2
import Derived.Test.YtjacdlekgdnndaaGreatDoorY1
import Derived.Test.YtjacdlekgdnndaaGreatDoorY3
set_option linter.unusedVariables false
namespace Go.Proofs.YtjacdlekgdnndaaGreatDoor
open Go.RowKit
theorem pin_eq {m : List (List Int)} {infos : List InfoV} {f : Nat} {kind : Int} {ss : List ByteArray} : pinP m infos f kind ss =
 if (infoAt infos f).k ≠ 1 ∨ (infoAt infos f).r ≠ 0 then (infos, 1)
 else if goodP m infos f kind ss = false then (infos, 2)
 else if infosOk (modAt (referP infos (named (rowAt m f)) 1) f (setK kind)) then (modAt (referP infos (named (rowAt m f)) 1) f (setK kind), 0) else (infos, 1) := rfl
theorem unpin_eq {m : List (List Int)} {infos : List InfoV} {f : Nat} : unpinP m infos f =
 if tabK (infoAt infos f).k = false ∨ (infoAt infos f).r ≠ 0 then (infos, 1)
 else if infosOk (modAt (referP infos (named (rowAt m f)) (-1)) f (setK 1)) then (modAt (referP infos (named (rowAt m f)) (-1)) f (setK 1), 0) else (infos, 2) := rfl
theorem named4 {m : List (List Int)} (h : memOk m = true) {f : Nat} (hf : f < 12) : (named (rowAt m f)).length ≤ 4 := by
 have h1 := named_len (r := rowAt m f)
 have h2 := (rowOk_iff.1 ((memOk_iff.1 h).2 f hf)).1
 omega
theorem small_mod {m : List (List Int)} {infos : List InfoV} {f : Nat} {kind n : Int} (hm : memOk m = true) (h : infosOk infos = true) (hf : f < 12) (hn : n = 1 ∨ n = -1) : SmallI (modAt (referP infos (named (rowAt m f)) n) f (setK kind)) := by
 refine smallI_at fun g hg => ?_
 rw [modAt_len, refer_len, (infosOk_iff.1 h).1] at hg
 have h1 := (refer_small h (named4 hm hf) hn hg).2.2
 rw [infoAt_mod]
 split
 ·exact (refer_small h (named4 hm hf) hn hf).2.2
 ·exact h1
def PinRes (r : List InfoV × Int) (w : World) (e : Ending) (w' : World) : Prop := ∃ v', e = .returned (.tuple #[v', .int .i64 r.2]) ∧ OwnF w.heap.size 89 3 infoCs w' v' r.1 ∧ Below w.heap.size w w'
set_option maxRecDepth 100000 in
set_option maxHeartbeats 4000000 in
theorem TablePin_any (v iv rv : Value) (m : List (List Int)) (infos : List InfoV) (f : Nat) (kind : Int) (ss : List ByteArray) (w : World) (h : RdRows w v m) (hok : memOk m = true) (hI : RdInfos w iv infos) (hio : infosOk infos = true) (hf : f < 12) (hk : tabK kind = true) (hv : RdStrs w rv ss) (hss : SmallS ss) (hr : rightsOk ss = true) :
 Calls Tryz.prog 225 #[v, iv, .int .i64 (f : Int), .int .i64 kind, rv] w (PinRes (pinP m infos f kind ss) w) := by
 have hl := (infosOk_iff.1 hio).1
 have C1 := Lib.hid (fun W (hW : Below w.heap.size w W) => by have := MemoryValid_impl v m W (h.below hW); rw [hok] at this; exact this)
 have C2 := Lib.hid (fun W (hW : Below w.heap.size w W) => by have := InfosValid_impl iv infos W (RdF.below hI hW) (small_infos hio); rw [hio] at this; exact this)
 have C3 := Lib.hid (fun W (_ : Below w.heap.size w W) => same_below (by have := isFrame_any (f : Int) W; rw [show inB (f : Int) 0 11 = true from inB_iff.2 (by omega)] at this; exact this))
 have C4 := Lib.hid (fun W (_ : Below w.heap.size w W) => same_below (by have := isTable_any kind W; rw [hk] at this; exact this))
 have C5 := Lib.hid (fun W (hW : Below w.heap.size w W) => by have := RightsValid_impl rv ss W (RdF.below hv hW) hss; rw [hr] at this; exact this)
 have C6 := Lib.hid (fun W (hW : Below w.heap.size w W) => CloneInfo_any iv infos W (RdF.below hI hW) (by omega))
 have C7 := Lib.hid (fun W (hW : Below w.heap.size w W) => good_any v iv rv m infos f kind ss W (h.below hW) hok (RdF.below hI hW) hl hf hk (RdF.below hv hW))
 have C8 := Lib.hid (fun W (hW : Below w.heap.size w W) => refer_any v iv m infos f 1 W (h.below hW) hok (RdF.below hI hW) hio hf (.inl rfl))
 have SM := Lib.hid (small_mod (kind := kind) hok hio hf (.inl (rfl : (1 : Int) = 1)))
 obtain ⟨ai, ci, rfl, hci, hcim, H2⟩ := RdF.open infoCs_len (by decide) hI
 obtain ⟨bi, offi, rfl, hbi, D0, _, D2⟩ := H2.infoCells (show f < infos.length by omega)
 have hfl : (f : Int) < infos.length := by omega
 have Hl := Lib.hid hl
 have hb := Below.refl w.heap.size w
 clear h hok hI hio hk hv hss hr hl H2
 go_enter Tryz.func225, Tryz.ntmps225
 go_wp2_with fail
 refine (C1.out _ hb).mono ?_; rintro e w_ ⟨rfl, hb_⟩
 replace hb := hb.trans (hb_.mono hb.size); clear hb_
 go_wp2_with fail
 refine (C2.out _ hb).mono ?_; rintro e w_ ⟨rfl, hb_⟩
 replace hb := hb.trans (hb_.mono hb.size); clear hb_
 go_wp2_with fail
 refine (C3.out _ hb).mono ?_; rintro e w_ ⟨rfl, hb_⟩
 replace hb := hb.trans (hb_.mono hb.size); clear hb_
 go_wp2_with fail
 refine (C4.out _ hb).mono ?_; rintro e w_ ⟨rfl, hb_⟩
 replace hb := hb.trans (hb_.mono hb.size); clear hb_
 go_wp2_with fail
 refine (C5.out _ hb).mono ?_; rintro e w_ ⟨rfl, hb_⟩
 replace hb := hb.trans (hb_.mono hb.size); clear hb_
 replace D0 := (hb.cell (p := ⟨bi, offi + f * 3, none⟩) hbi).trans D0
 replace D2 := (hb.cell (p := ⟨bi, offi + f * 3 + 2, none⟩) hbi).trans D2
 by_cases e1 : (infoAt infos f).k = 1
 ·by_cases e2 : (infoAt infos f).r = 0
  ·have t1 : ((infoAt infos f).k != 1) = false := by simp [e1]
   have t2 : ((infoAt infos f).r != 0) = false := by simp [e2]
   have P := Lib.hid (show pinP m infos f kind ss = if goodP m infos f kind ss = false then (infos, 2)
    else if infosOk (modAt (referP infos (named (rowAt m f)) 1) f (setK kind)) then (modAt (referP infos (named (rowAt m f)) 1) f (setK kind), 0) else (infos, 1) by rw [pin_eq, if_neg (by simp [e1, e2])])
   clear e1 e2
   cases hg : goodP m infos f kind ss
   ·have P2 := Lib.hid (show pinP m infos f kind ss = (infos, 2) by rw [P.out, hg]; rfl)
    have G := Lib.hid hg
    clear hg
    go_wp2_with fail
    refine (C7.out _ hb).mono ?_; rintro e w_ ⟨rfl, hb_⟩; rw [G.out]
    replace hb := hb.trans (hb_.mono hb.size); clear hb_
    go_wp2_with fail
    refine (C6.out _ hb).mono ?_; rintro e w2 ⟨v', rfl, hO, hb2⟩
    go_wp2_with fail
    go_ret2
    exact ⟨v', by rw [P2.out]; rfl, by rw [P2.out]; exact hO.lower hb.size, hb.trans (hb2.mono hb.size)⟩
   ·have G := Lib.hid hg
    have P2 := Lib.hid (show pinP m infos f kind ss = if infosOk (modAt (referP infos (named (rowAt m f)) 1) f (setK kind)) then (modAt (referP infos (named (rowAt m f)) 1) f (setK kind), 0) else (infos, 1) by rw [P.out, hg]; rfl)
    clear hg
    go_wp2_with fail
    refine (C7.out _ hb).mono ?_; rintro e w_ ⟨rfl, hb_⟩; rw [G.out]
    replace hb := hb.trans (hb_.mono hb.size); clear hb_
    clear D0 D2
    go_wp2_with fail
    refine (C8.out _ hb).mono ?_; rintro e w2 ⟨v', rfl, hO, hb2⟩
    have hlr : (referP infos (named (rowAt m f)) 1).length = infos.length := refer_len
    rw [modAt_info] at P2 SM
    generalize referP infos (named (rowAt m f)) 1 = X at *
    have hfX : f < X.length := by rw [hlr, Hl.out]; exact hf
    obtain ⟨g, cap, rfl, c1, c2, q1, q2, hfz⟩ := hO.shapeOwn (by omega)
    unfold maxLen at c2
    have q3 := Nat.le_trans hb.size q1
    have S0 := OwnF.stored1 infoCs_len hO (infoAt_get hfX) (j := 0) (by decide) (y := setK kind (infoAt X f)) (u := .int .i64 kind) rfl
    rw [Nat.add_zero] at S0
    have S := Lib.hid S0
    clear S0
    obtain ⟨d0, _, _⟩ := OwnF.infoCells hO hfX
    have Fr := hfz (f * 3)
    have hbX := below_grown (hb.trans (hb2.mono hb.size)) S.out.2 q3 (Nat.le_trans hb.size hb2.size)
    have hfi : (f : Int) < X.length := by omega
    have hOl := Lib.hid (S.out.1.lower hb.size)
    clear hO hb2 hb hlr
    go_wp2_with fail
    generalize hw3 : w2.setCell _ _ = w3 at *
    clear d0 Fr hfz hw3
    have hXl : (X.set f (setK kind (infoAt X f))).length = X.length := List.length_set ..
    have C9 := InfosValid_impl (.slice (some ⟨g, 0, none⟩) X.length cap) (X.set f (setK kind (infoAt X f))) w3 hOl.out.rd SM.out
    cases hq : infosOk (X.set f (setK kind (infoAt X f)))
    ·have P3 := Lib.hid (show pinP m infos f kind ss = (infos, 1) by rw [P2.out, hq]; rfl)
     rw [hq] at C9
     have C := Lib.hid C9
     clear C9 hq hXl
     refine (C.out).mono ?_; rintro e w4 ⟨rfl, hb4⟩
     have hb := hbX.trans (hb4.mono hbX.size)
     go_wp2_with fail
     refine (C6.out _ hb).mono ?_; rintro e w2 ⟨v', rfl, hO, hb2⟩
     go_wp2_with fail
     go_ret2
     exact ⟨v', by rw [P3.out]; rfl, by rw [P3.out]; exact hO.lower hb.size, hb.trans (hb2.mono hb.size)⟩
    ·have P3 := Lib.hid (show pinP m infos f kind ss = (X.set f (setK kind (infoAt X f)), 0) by rw [P2.out, hq]; rfl)
     rw [hq] at C9
     have C := Lib.hid C9
     clear C9 hq hXl
     refine (C.out).mono ?_; rintro e w4 ⟨rfl, hb4⟩
     have hb := hbX.trans (hb4.mono hbX.size)
     have hO4 := Lib.hid (hOl.out.below hb4)
     go_wp2_with fail
     go_ret2
     exact ⟨_, by rw [P3.out]; rfl, by rw [P3.out]; exact hO4.out, hb⟩
  ·have t1 : ((infoAt infos f).k != 1) = false := by simp [e1]
   have t2 : ((infoAt infos f).r != 0) = true := by simp [e2]
   have P2 := Lib.hid (show pinP m infos f kind ss = (infos, 1) by rw [pin_eq, if_pos (.inr e2)])
   clear e1 e2
   go_wp2_with fail
   refine (C6.out _ hb).mono ?_; rintro e w2 ⟨v', rfl, hO, hb2⟩
   go_wp2_with fail
   go_ret2
   exact ⟨v', by rw [P2.out]; rfl, by rw [P2.out]; exact hO.lower hb.size, hb.trans (hb2.mono hb.size)⟩
 ·have t1 : ((infoAt infos f).k != 1) = true := by simp [e1]
  have P2 := Lib.hid (show pinP m infos f kind ss = (infos, 1) by rw [pin_eq, if_pos (.inl e1)])
  clear e1 D2
  go_wp2_with fail
  refine (C6.out _ hb).mono ?_; rintro e w2 ⟨v', rfl, hO, hb2⟩
  go_wp2_with fail
  go_ret2
  exact ⟨v', by rw [P2.out]; rfl, by rw [P2.out]; exact hO.lower hb.size, hb.trans (hb2.mono hb.size)⟩
set_option maxRecDepth 100000 in
set_option maxHeartbeats 4000000 in
theorem TableUnpin_any (v iv : Value) (m : List (List Int)) (infos : List InfoV) (f : Nat) (w : World) (h : RdRows w v m) (hok : memOk m = true) (hI : RdInfos w iv infos) (hio : infosOk infos = true) (hf : f < 12) :
 Calls Tryz.prog 227 #[v, iv, .int .i64 (f : Int)] w (PinRes (unpinP m infos f) w) := by
 have hl := (infosOk_iff.1 hio).1
 have C1 := Lib.hid (fun W (hW : Below w.heap.size w W) => by have := MemoryValid_impl v m W (h.below hW); rw [hok] at this; exact this)
 have C2 := Lib.hid (fun W (hW : Below w.heap.size w W) => by have := InfosValid_impl iv infos W (RdF.below hI hW) (small_infos hio); rw [hio] at this; exact this)
 have C3 := Lib.hid (fun W (_ : Below w.heap.size w W) => same_below (by have := isFrame_any (f : Int) W; rw [show inB (f : Int) 0 11 = true from inB_iff.2 (by omega)] at this; exact this))
 have C4 := Lib.hid (fun W (_ : Below w.heap.size w W) => same_below (isTable_any (infoAt infos f).k W))
 have C6 := Lib.hid (fun W (hW : Below w.heap.size w W) => CloneInfo_any iv infos W (RdF.below hI hW) (by omega))
 have C8 := Lib.hid (fun W (hW : Below w.heap.size w W) => refer_any v iv m infos f (-1) W (h.below hW) hok (RdF.below hI hW) hio hf (.inr rfl))
 have SM := Lib.hid (small_mod (kind := 1) hok hio hf (.inr (rfl : (-1 : Int) = -1)))
 obtain ⟨ai, ci, rfl, hci, hcim, H2⟩ := RdF.open infoCs_len (by decide) hI
 obtain ⟨bi, offi, rfl, hbi, D0, _, D2⟩ := H2.infoCells (show f < infos.length by omega)
 have hfl : (f : Int) < infos.length := by omega
 have Hl := Lib.hid hl
 have hb := Below.refl w.heap.size w
 clear h hok hI hio hl H2
 go_enter Tryz.func227, Tryz.ntmps227
 go_wp2_with fail
 refine (C1.out _ hb).mono ?_; rintro e w_ ⟨rfl, hb_⟩
 replace hb := hb.trans (hb_.mono hb.size); clear hb_
 go_wp2_with fail
 refine (C2.out _ hb).mono ?_; rintro e w_ ⟨rfl, hb_⟩
 replace hb := hb.trans (hb_.mono hb.size); clear hb_
 go_wp2_with fail
 refine (C3.out _ hb).mono ?_; rintro e w_ ⟨rfl, hb_⟩
 replace hb := hb.trans (hb_.mono hb.size); clear hb_
 replace D0 := (hb.cell (p := ⟨bi, offi + f * 3, none⟩) hbi).trans D0
 have D2' := D2
 replace D2 := (hb.cell (p := ⟨bi, offi + f * 3 + 2, none⟩) hbi).trans D2
 cases e1 : tabK (infoAt infos f).k
 ·have P2 := Lib.hid (show unpinP m infos f = (infos, 1) by rw [unpin_eq, if_pos (.inl e1)])
  have T := Lib.hid e1
  clear e1 D2
  go_wp2_with fail
  refine (C4.out _ hb).mono ?_; rintro e w_ ⟨rfl, hb_⟩; rw [T.out]
  replace hb := hb.trans (hb_.mono hb.size); clear hb_
  go_wp2_with fail
  refine (C6.out _ hb).mono ?_; rintro e w2 ⟨v', rfl, hO, hb2⟩
  go_wp2_with fail
  go_ret2
  exact ⟨v', by rw [P2.out]; rfl, by rw [P2.out]; exact hO.lower hb.size, hb.trans (hb2.mono hb.size)⟩
 ·have T := Lib.hid e1
  by_cases e2 : (infoAt infos f).r = 0
  ·have t2 : ((infoAt infos f).r != 0) = false := by simp [e2]
   have P2 := Lib.hid (show unpinP m infos f = if infosOk (modAt (referP infos (named (rowAt m f)) (-1)) f (setK 1)) then (modAt (referP infos (named (rowAt m f)) (-1)) f (setK 1), 0) else (infos, 2) by rw [unpin_eq, if_neg (by simp [e1, e2])])
   clear e1 e2
   go_wp2_with fail
   refine (C4.out _ hb).mono ?_; rintro e w_ ⟨rfl, hb_⟩; rw [T.out]
   replace hb := hb.trans (hb_.mono hb.size); clear hb_
   replace D2 := (hb.cell (p := ⟨bi, offi + f * 3 + 2, none⟩) hbi).trans D2'
   go_wp2_with fail
   clear D0 D2
   refine (C8.out _ hb).mono ?_; rintro e w2 ⟨v', rfl, hO, hb2⟩
   have hlr : (referP infos (named (rowAt m f)) (-1)).length = infos.length := refer_len
   rw [modAt_info] at P2 SM
   generalize referP infos (named (rowAt m f)) (-1) = X at *
   have hfX : f < X.length := by rw [hlr, Hl.out]; exact hf
   obtain ⟨g, cap, rfl, c1, c2, q1, q2, hfz⟩ := hO.shapeOwn (by omega)
   unfold maxLen at c2
   have q3 := Nat.le_trans hb.size q1
   have S0 := OwnF.stored1 infoCs_len hO (infoAt_get hfX) (j := 0) (by decide) (y := setK 1 (infoAt X f)) (u := .int .i64 1) rfl
   rw [Nat.add_zero] at S0
   have S := Lib.hid S0
   clear S0
   obtain ⟨d0, _, _⟩ := OwnF.infoCells hO hfX
   have Fr := hfz (f * 3)
   have hbX := below_grown (hb.trans (hb2.mono hb.size)) S.out.2 q3 (Nat.le_trans hb.size hb2.size)
   have hfi : (f : Int) < X.length := by omega
   have hOl := Lib.hid (S.out.1.lower hb.size)
   clear hO hb2 hb hlr
   go_wp2_with fail
   generalize hw3 : w2.setCell _ _ = w3 at *
   clear d0 Fr hfz hw3
   have hXl : (X.set f (setK 1 (infoAt X f))).length = X.length := List.length_set ..
   have C9 := InfosValid_impl (.slice (some ⟨g, 0, none⟩) X.length cap) (X.set f (setK 1 (infoAt X f))) w3 hOl.out.rd SM.out
   cases hq : infosOk (X.set f (setK 1 (infoAt X f)))
   ·have P3 := Lib.hid (show unpinP m infos f = (infos, 2) by rw [P2.out, hq]; rfl)
    rw [hq] at C9
    have C := Lib.hid C9
    clear C9 hq hXl
    refine (C.out).mono ?_; rintro e w4 ⟨rfl, hb4⟩
    have hb := hbX.trans (hb4.mono hbX.size)
    go_wp2_with fail
    refine (C6.out _ hb).mono ?_; rintro e w2 ⟨v', rfl, hO, hb2⟩
    go_wp2_with fail
    go_ret2
    exact ⟨v', by rw [P3.out]; rfl, by rw [P3.out]; exact hO.lower hb.size, hb.trans (hb2.mono hb.size)⟩
   ·have P3 := Lib.hid (show unpinP m infos f = (X.set f (setK 1 (infoAt X f)), 0) by rw [P2.out, hq]; rfl)
    rw [hq] at C9
    have C := Lib.hid C9
    clear C9 hq hXl
    refine (C.out).mono ?_; rintro e w4 ⟨rfl, hb4⟩
    have hb := hbX.trans (hb4.mono hbX.size)
    have hO4 := Lib.hid (hOl.out.below hb4)
    go_wp2_with fail
    go_ret2
    exact ⟨_, by rw [P3.out]; rfl, by rw [P3.out]; exact hO4.out, hb⟩
  ·have t2 : ((infoAt infos f).r != 0) = true := by simp [e2]
   have P2 := Lib.hid (show unpinP m infos f = (infos, 1) by rw [unpin_eq, if_pos (.inr e2)])
   clear e1 e2
   go_wp2_with fail
   refine (C4.out _ hb).mono ?_; rintro e w_ ⟨rfl, hb_⟩; rw [T.out]
   replace hb := hb.trans (hb_.mono hb.size); clear hb_
   replace D2 := (hb.cell (p := ⟨bi, offi + f * 3 + 2, none⟩) hbi).trans D2'
   go_wp2_with fail
   refine (C6.out _ hb).mono ?_; rintro e w2 ⟨v', rfl, hO, hb2⟩
   go_wp2_with fail
   go_ret2
   exact ⟨v', by rw [P2.out]; rfl, by rw [P2.out]; exact hO.lower hb.size, hb.trans (hb2.mono hb.size)⟩
theorem set_mid {α : Type} (us vs : List α) (u0 u : α) : (us ++ u0 :: vs).set us.length u = (us ++ [u]) ++ vs := by simp
def HalfRows (lo : Nat) (w : World) (v : Value) (us vs : List Value) (m : List (List Int)) : Prop := OwnF lo 38 1 oneCs w v (us ++ vs) ∧ Both (OwnInts lo w) us (m.take us.length) ∧ AllApart us
theorem HalfRows.step {lo g n cap : Nat} {w w1 : World} {us vs : List Value} {u0 u : Value} {m : List (List Int)} {r : List Int} (h : HalfRows lo w (.slice (some ⟨g, 0, none⟩) n cap) us (u0 :: vs) m) (hn : n = (us ++ u0 :: vs).length)
 (hb : Below w.heap.size w w1) (hlo : lo ≤ w.heap.size) (hu : OwnInts w.heap.size w1 u r) (hr : m[us.length]? = some r) :
 HalfRows lo (w1.setCell ⟨g, us.length, none⟩ u) (.slice (some ⟨g, 0, none⟩) n cap) (us ++ [u]) vs m ∧ w1.grownBy (w1.setCell ⟨g, us.length, none⟩ u) (some g) := by
 obtain ⟨a1, a2, a3⟩ := h
 have a1' := a1.below hb
 subst hn
 have S := OwnF.stored1 oneCs_len a1' (k := us.length) (x := u0) (by simp) (j := 0) (by decide) (y := u) (u := u) rfl
 rw [Nat.mul_one, Nat.add_zero, set_mid] at S
 have hne : 3 ≠ 38 := Ne.symm tyRowInt
 refine ⟨⟨?_, ?_, AllApart.snoc a3 fun y hy => ?_⟩, S.2⟩
 ·have := S.1
  rwa [show (us ++ u0 :: vs).length = ((us ++ [u]) ++ vs).length by simp] at this ⊢
 ·rw [List.length_append, List.length_singleton, take_one hr]
  refine Both.snoc (a2.mono fun y ys hy => ?_) ?_
  ·have hy' := hy.below hb
   exact own_grown hy' S.2 (apart_type hy' a1' hne).ne
  ·exact own_grown (own_loV hu hlo) S.2 (apart_type hu a1' hne).ne
 ·obtain ⟨i, hi⟩ := List.getElem?_of_mem hy
  obtain ⟨ys, hys⟩ : ∃ ys, (m.take us.length)[i]? = some ys := ⟨_, List.getElem?_eq_getElem (by rw [← a2.1]; exact (List.getElem?_eq_some_iff.1 hi).1)⟩
  exact own_apart (B := 0) (a2.2 i y ys hi hys) (fun k hk => (hu.lt k hk).1)
theorem HalfRows.whole {lo : Nat} {w : World} {v : Value} {us : List Value} {m : List (List Int)} (h : HalfRows lo w v us [] m) (hl : us.length = m.length) : OwnRows lo w v us m := by
 obtain ⟨a1, a2, a3⟩ := h
 rw [List.append_nil] at a1
 rw [hl, List.take_length] at a2
 exact ⟨a1, a2, a3⟩
theorem HalfRows.below {lo : Nat} {w w1 : World} {v : Value} {us vs : List Value} {m : List (List Int)} (h : HalfRows lo w v us vs m) (hb : Below w.heap.size w w1) : HalfRows lo w1 v us vs m := ⟨h.1.below hb, h.2.1.mono fun _ _ h => OwnInts.below h hb, h.2.2⟩
def HalfEnvs (lo : Nat) (w : World) (v : Value) (qs ps : List (Value × Int)) (es : List EnvV) : Prop := OwnF lo 80 2 pairCs w v (qs ++ ps) ∧ Both (fun p e => OwnF lo 9 1 strCs w p.1 e.rights ∧ p.2 = e.root) qs (es.take qs.length) ∧ AllApart (qs.map (·.1))
theorem HalfEnvs.step {lo g n cap : Nat} {w w1 : World} {qs ps : List (Value × Int)} {p0 : Value × Int} {u : Value} {es : List EnvV} {e : EnvV} (h : HalfEnvs lo w (.slice (some ⟨g, 0, none⟩) n cap) qs (p0 :: ps) es) (hn : n = (qs ++ p0 :: ps).length)
 (hb : Below w.heap.size w w1) (hlo : lo ≤ w.heap.size) (hu : OwnF w.heap.size 9 1 strCs w1 u e.rights) (he : es[qs.length]? = some e) (hp : p0.2 = e.root) :
 HalfEnvs lo (w1.setCell ⟨g, qs.length * 2, none⟩ u) (.slice (some ⟨g, 0, none⟩) n cap) (qs ++ [(u, p0.2)]) ps es ∧ w1.grownBy (w1.setCell ⟨g, qs.length * 2, none⟩ u) (some g) := by
 obtain ⟨a1, a2, a3⟩ := h
 have a1' := a1.below hb
 subst hn
 have S := OwnF.stored1 pairCs_len a1' (k := qs.length) (x := p0) (by simp) (j := 0) (by decide) (y := (u, p0.2)) (u := u) rfl
 rw [Nat.add_zero, set_mid] at S
 have hne : 9 ≠ 80 := by decide
 refine ⟨⟨?_, ?_, ?_⟩, S.2⟩
 ·have := S.1
  rwa [show (qs ++ p0 :: ps).length = ((qs ++ [(u, p0.2)]) ++ ps).length by simp] at this ⊢
 ·rw [List.length_append, List.length_singleton, take_one he]
  refine Both.snoc (a2.mono fun y ys hy => ⟨?_, hy.2⟩) ⟨?_, hp⟩
  ·have hy' := hy.1.below hb
   exact own_grown hy' S.2 (apart_type hy' a1' hne).ne
  ·exact own_grown (own_loV hu hlo) S.2 (apart_type hu a1' hne).ne
 ·rw [List.map_append]
  refine AllApart.snoc a3 fun y hy => ?_
  obtain ⟨p, hp, rfl⟩ := List.mem_map.1 hy
  obtain ⟨i, hi⟩ := List.getElem?_of_mem hp
  obtain ⟨e', he'⟩ : ∃ e', (es.take qs.length)[i]? = some e' := ⟨_, List.getElem?_eq_getElem (by rw [← a2.1]; exact (List.getElem?_eq_some_iff.1 hi).1)⟩
  exact own_apart (B := 0) (a2.2 i p e' hi he').1 (fun k hk => (hu.lt k hk).1)
theorem HalfEnvs.whole {lo : Nat} {w : World} {v : Value} {qs : List (Value × Int)} {es : List EnvV} (h : HalfEnvs lo w v qs [] es) (hl : qs.length = es.length) : OwnEnvs lo w v qs es := by
 obtain ⟨a1, a2, a3⟩ := h
 rw [List.append_nil] at a1
 rw [hl, List.take_length] at a2
 exact ⟨a1, a2, a3⟩
set_option maxRecDepth 100000 in
set_option maxHeartbeats 2000000 in
theorem ownWords_any (v : Value) (m : List (List Int)) (w : World) (h : RdRows w v m) (hok : memOk m = true) :
 Calls Tryz.prog 105 #[v] w fun e w' => ∃ v' vs, e = .returned v' ∧ OwnRows w.heap.size w' v' vs m ∧ Below w.heap.size w w' := by
 obtain ⟨vs, h1, h2⟩ := h
 have hml := (memOk_iff.1 hok).1
 have hvl : vs.length = 12 := by rw [h2.1, hml]
 have CC := Lib.hid (CloneRows_any v vs w h1 (by omega) (ones_rows h2))
 have CI := Lib.hid (fun k (hk : k < 12) W (hW : Below w.heap.size w W) => CloneInts_any (vs.getD k (.bool false)) (rowAt m k) W (RdInts.below (h2.2 k _ _ (getD_lt (by omega)) (by unfold rowAt; exact getD_lt (by omega))) hW) (by have := (rowOk_iff.1 ((memOk_iff.1 hok).2 k hk)).1; omega))
 have SH := Lib.hid (fun k (hk : k < 12) => (by obtain ⟨a, c, e, _⟩ := (h2.2 k _ _ (getD_lt (d := Value.bool false) (by omega)) (getD_lt (d := []) (by omega))).open; exact ⟨a, _, c, e⟩ : ∃ a n c, vs.getD k (.bool false) = .slice a n c))
 have Hvl := Lib.hid hvl
 have Hml := Lib.hid hml
 obtain ⟨ai, ci, rfl, _, _⟩ := h1.shape
 clear h1 h2 hok hml
 rw [hvl] at CC ⊢
 clear hvl
 go_enter Tryz.func105, Tryz.ntmps105
 go_wp2_with fail
 refine (CC.out).mono ?_; rintro e w1 ⟨v', rfl, hO, hb1⟩
 obtain ⟨g, cap, rfl, c1, c2, q1, q2, hfz⟩ := hO.shapeOwn (by have := Hvl.out; omega)
 unfold maxLen at c2
 rw [Hvl.out] at hO c1 ⊢
 have HO := Lib.hid hO
 have HB := Lib.hid hb1
 clear hO hb1 hfz
 go_wp2_with fail
 go_loopw [10] (fun i wr => ∃ us : List Value, us.length ≤ 12 ∧ i = .int .i64 us.length ∧ HalfRows w.heap.size wr (.slice (some ⟨g, 0, none⟩) 12 cap) us (vs.drop us.length) m ∧ Below w.heap.size w wr) (fun i _ => 12 - (intOf i).toNat)
 case atStart => exact ⟨[], by simp, rfl, ⟨HO.out, Both.nil, AllApart.nil⟩, HB.out⟩
 case round =>
  obtain ⟨us, hk, rfl, hH, hbel⟩ := hrel
  by_cases hlt : us.length < 12
  ·have hlv : us.length < vs.length := by rw [Hvl.out]; exact hlt
   have ed : vs.drop us.length = vs.getD us.length (.bool false) :: vs.drop (us.length + 1) := by
    rw [List.drop_eq_getElem_cons hlv]
    congr 1
    simp [hlv]
   rw [ed] at hH
   have hlen : (us ++ vs.getD us.length (.bool false) :: vs.drop (us.length + 1)).length = 12 := by
    have := Hvl.out
    simp only [List.length_append, List.length_cons, List.length_drop]
    omega
   have hH1 := hH.1
   rw [← hlen] at hH1
   have D := OwnF.cellsAt oneCs_len hH1 (k := us.length) (x := vs.getD us.length (.bool false)) (by simp) 0 _ rfl
   rw [Nat.mul_one, Nat.add_zero] at D
   have C := CI.out _ hlt wr hbel
   have hr : m[us.length]? = some (rowAt m us.length) := by unfold rowAt; exact getD_lt (by rw [Hml.out]; exact hlt)
   have HH := Lib.hid hH
   have HR := Lib.hid hr
   have CH := Lib.hid C
   have Hlen := Lib.hid hlen
   have hfz := World.ownsRow.frozenAt hH1 us.length
   have c12 : (12 : Int) ≤ cap := by omega
   clear hH hH1 hr C ed hlen
   generalize hu0 : vs.getD us.length (.bool false) = u0 at *
   obtain ⟨a0, n0, c0, rfl⟩ : ∃ a n c, u0 = .slice a n c := by have := SH.out _ hlt; rwa [hu0] at this
   go_wp2_with fail
   refine (CH.out).mono ?_; rintro e w2 ⟨u, rfl, hu, hb2⟩
   have D2 := (hb2.cell (p := ⟨g, us.length, none⟩) (World.block_lt_of_cell? wr _ D)).trans D
   have hfz2 := (hb2.frozen (p := ⟨g, us.length, none⟩) (World.block_lt_of_cell? wr _ D)).trans hfz
   have ST := Lib.hid (HalfRows.step HH.out Hlen.out.symm hb2 hbel.size hu HR.out)
   have HB2 := Lib.hid (below_grown (hbel.trans (hb2.mono hbel.size)) ST.out.2 q1 (Nat.le_trans hbel.size hb2.size))
   obtain ⟨a9, c9, rfl, _⟩ := hu.rd.open
   clear D hfz hu hb2 hbel
   go_wp2_with fail
   go_roundw
   case rel =>
    refine ⟨us ++ [.slice a9 (rowAt m us.length).length c9], by rw [List.length_append, List.length_singleton]; omega, by rw [List.length_append, List.length_singleton]; go_num, ?_, HB2.out⟩
    rw [List.length_append, List.length_singleton]
    exact ST.out.1
   case measure => simp [intOf]; omega
  ·have e12 : us.length = 12 := by omega
   rw [List.drop_eq_nil_of_le (by rw [e12, Hvl.out]; exact Nat.le_refl _)] at hH
   have R := Lib.hid (hH.whole (by rw [e12, Hml.out]))
   clear hH
   go_wp2_with fail
   go_ret
   exact ⟨_, us, rfl, R.out, hbel⟩
def OwnParts (lo : Nat) (w : World) (v : Value) (k : KernV) (ps : List (Value × Int)) : Prop := ∃ m i e c, v = .agg #[m, i, e, c] ∧ (∃ vs, OwnRows lo w m vs k.mem) ∧ OwnF lo 89 3 infoCs w i k.infos ∧ OwnF lo 80 2 pairCs w e ps ∧ OwnF lo 94 4 cachedCs w c k.cache
theorem OwnParts.below {lo : Nat} {w w' : World} {v : Value} {k : KernV} {ps : List (Value × Int)} (h : OwnParts lo w v k ps) (hb : Below w.heap.size w w') : OwnParts lo w' v k ps := by
 obtain ⟨m, i, e, c, h0, ⟨vs, h1⟩, h2, h3, h4⟩ := h
 exact ⟨m, i, e, c, h0, ⟨vs, h1.below hb⟩, h2.below hb, h3.below hb, h4.below hb⟩
def FreshK (lo : Nat) (w : World) (v : Value) : Prop := ∃ g, v = .pointer (some ⟨g, 0, none⟩) ∧ lo ≤ g ∧ w.heap[g]? = some (.cells #[.slice none 0 0, .slice none 0 0, .slice none 0 0, .slice none 0 0] 33 (0, 0))
theorem FreshK.below {lo : Nat} {w w' : World} {v : Value} (h : FreshK lo w v) (hb : Below w.heap.size w w') : FreshK lo w' v := by
 obtain ⟨g, h0, h1, h2⟩ := h
 exact ⟨g, h0, h1, blk_below h2 hb⟩
def OwnSt (w0 : World) (g : Nat) (m i e c : Value) (k : KernV) (qs ps : List (Value × Int)) (wr : World) : Prop :=
 wr.heap[g]? = some (.cells #[m, i, e, c] 33 (0, 0)) ∧ (∃ vs, OwnRows w0.heap.size wr m vs k.mem) ∧ OwnF w0.heap.size 89 3 infoCs wr i k.infos ∧ HalfEnvs w0.heap.size wr e qs ps k.envs ∧ OwnF w0.heap.size 94 4 cachedCs wr c k.cache ∧ Below w0.heap.size w0 wr
theorem HalfEnvs.below {lo : Nat} {w w1 : World} {v : Value} {qs ps : List (Value × Int)} {es : List EnvV} (h : HalfEnvs lo w v qs ps es) (hb : Below w.heap.size w w1) : HalfEnvs lo w1 v qs ps es := ⟨h.1.below hb, h.2.1.mono fun _ _ h => ⟨h.1.below hb, h.2⟩, h.2.2⟩
theorem OwnSt.below {w0 : World} {g : Nat} {m i e c : Value} {k : KernV} {qs ps : List (Value × Int)} {wr w' : World} (h : OwnSt w0 g m i e c k qs ps wr) (hb : Below wr.heap.size wr w') : OwnSt w0 g m i e c k qs ps w' := by
 obtain ⟨h0, ⟨vs, h1⟩, h2, h3, h4, h5⟩ := h
 exact ⟨blk_below h0 hb, ⟨vs, h1.below hb⟩, h2.below hb, h3.below hb, h4.below hb, h5.trans (hb.mono h5.size)⟩
theorem OwnSt.step {w0 : World} {g ge n cap : Nat} {m i c : Value} {k : KernV} {qs ps : List (Value × Int)} {p0 : Value × Int} {w w1 : World} {u : Value} {e : EnvV} (h : OwnSt w0 g m i (.slice (some ⟨ge, 0, none⟩) n cap) c k qs (p0 :: ps) w) (hn : n = (qs ++ p0 :: ps).length)
 (hb : Below w.heap.size w w1) (hu : OwnF w.heap.size 9 1 strCs w1 u e.rights) (he : k.envs[qs.length]? = some e) (hp : p0.2 = e.root) :
 OwnSt w0 g m i (.slice (some ⟨ge, 0, none⟩) n cap) c k (qs ++ [(u, p0.2)]) ps (w1.setCell ⟨ge, qs.length * 2, none⟩ u) := by
 obtain ⟨hB, ⟨vs, h1⟩, h2, h3, h4, h5⟩ := h
 have S := HalfEnvs.step h3 hn hb h5.size hu he hp
 have hB1 := blk_below hB hb
 have h3' := h3.1.below hb
 obtain ⟨cur, hcur⟩ := own_type h3' ge rfl
 have hlo := (World.ownsRow.lt h3' ge rfl).1
 refine ⟨(S.2.block g (blk_lt hB1) fun e => ?_).trans hB1, ⟨vs, (h1.below hb).far S.2 hcur (by decide) (by decide)⟩, (h2.below hb).far S.2 hcur (by decide), S.1, (h4.below hb).far S.2 hcur (by decide), (h5.trans (hb.mono h5.size)).setCell hlo _⟩
 cases e
 rw [hB1] at hcur
 simp at hcur
def OwnKRes (w : World) (k : KernV) (e : Ending) (w' : World) : Prop := ∃ m i ev c, e = .returned (.agg #[m, i, ev, c]) ∧ OwnK w.heap.size w' m i ev c k ∧ Below w.heap.size w w'
theorem kok_rights {k : KernV} (hk : KOk k) {j : Nat} (hj : j < 3) : (envAt k.envs j).rights.length ≤ 6 := by
 have h5 := hk.rights j hj
 unfold rightsOk at h5
 simp only [Bool.and_eq_true, decide_eq_true_eq] at h5
 exact h5.2
set_option maxRecDepth 100000 in
set_option maxHeartbeats 4000000 in
theorem own_any (m i e c : Value) (k : KernV) (w : World) (h : RdK w m i e c k) (hk : KOk k) :
 Calls Tryz.prog 42 #[.agg #[m, i, e, c]] w (OwnKRes w k) := by
 obtain ⟨h1, h2, ⟨ps, h3, h3'⟩, h4⟩ := h
 have hpl : ps.length = 3 := by rw [h3'.1, hk.envl]
 have hcl : k.cache.length ≤ 4 := by have := hk.cache; simp only [cacheOk, Bool.and_eq_true, decide_eq_true_eq] at this; exact this.2
 have hel := hk.envl
 have N0 := heap_alloc_new w (.cells #[m, i, e, c] 33)
 have N1 := heap_alloc_new (w.alloc (.cells #[m, i, e, c] 33)) (.cells #[.slice none 0 0, .slice none 0 0, .slice none 0 0, .slice none 0 0] 33)
 replace N0 := blk_below N0 (below1 _ (.cells #[.slice none 0 0, .slice none 0 0, .slice none 0 0, .slice none 0 0] 33))
 have hb0 := below2 w (.cells #[m, i, e, c] 33) (.cells #[.slice none 0 0, .slice none 0 0, .slice none 0 0, .slice none 0 0] 33)
 have hs0 : w.heap.size + 2 = ((w.alloc (.cells #[m, i, e, c] 33)).alloc (.cells #[.slice none 0 0, .slice none 0 0, .slice none 0 0, .slice none 0 0] 33)).heap.size := by simp
 simp only [World.size_alloc] at N1
 obtain ⟨am, cm, rfl, _⟩ := h1.open
 obtain ⟨ai, ci, rfl, _⟩ := h2.shape
 obtain ⟨ae, ce, rfl, _⟩ := h3.shape
 obtain ⟨ac, cc, rfl, _⟩ := h4.shape
 have Hpl := Lib.hid hpl
 have Hcl := Lib.hid hcl
 have Hel := Lib.hid hel
 clear hpl hcl hel
 go_enter Tryz.func42, Tryz.ntmps42
 go_wp2_with fail
 have hpl := Hpl.out
 have hcl := Hcl.out
 have hel := Hel.out
 generalize hW0 : (w.alloc _).alloc _ = W0 at *
 have C1 := Lib.hid (fun W (hW : Below W0.heap.size W0 W) => ownWords_any _ k.mem W ((h1.below hb0).below hW) hk.mem)
 have C2 := Lib.hid (fun W (hW : Below W0.heap.size W0 W) => CloneInfo_any _ k.infos W ((h2.below hb0).below hW) (by rw [hk.len]; omega))
 have C3 := Lib.hid (fun W (hW : Below W0.heap.size W0 W) => CloneEnv_any _ ps W ((h3.below hb0).below hW) (by omega) (ones_envs h3'))
 have C4 := Lib.hid (fun W (hW : Below W0.heap.size W0 W) => CloneCached_any _ k.cache W ((h4.below hb0).below hW) (by omega))
 have C5 := Lib.hid (fun j (hj : j < 3) W (hW : Below w.heap.size w W) => CloneString_any (ps.getD j (.bool false, 0)).1 (envAt k.envs j).rights W (RdF.below (h3'.2 j _ _ (getD_lt (by omega)) (by unfold envAt; exact getD_lt (by omega))).1 hW) (by have h6 := kok_rights hk hj; omega))
 have C6 := Lib.hid (fun j (hj : j < 3) => (h3'.2 j (ps.getD j (.bool false, 0)) (envAt k.envs j) (getD_lt (by omega)) (by unfold envAt; exact getD_lt (by omega))).2)
 have C7 := Lib.hid (fun j (hj : j < 3) => (by obtain ⟨a, n, e, _⟩ := (h3'.2 j (ps.getD j (.bool false, 0)) (envAt k.envs j) (getD_lt (by omega)) (by unfold envAt; exact getD_lt (by omega))).1.shape; exact ⟨a, _, n, e⟩ : ∃ a n c, (ps.getD j (.bool false, 0)).1 = .slice a n c))
 have Hk := Lib.hid hk
 have hlt0 : w.heap.size < W0.heap.size := by omega
 obtain ⟨x0, x1, x2, x3⟩ := blk_cells4 N0
 clear h1 h2 h3 h3' h4 hk hW0 hpl hcl hel
 refine wp_region_grow 14 Tryz.mixed (by kernel_rfl) 37 rfl (by kernel_rfl) (fun ix vv ww => match ix with
  | 0 => vv = .pointer (some ⟨w.heap.size, 0, none⟩)
  | 1 => vv = .slice am k.mem.length cm
  | 2 => ∃ vs', OwnRows W0.heap.size ww vv vs' k.mem
  | 3 => vv = .pointer (some ⟨w.heap.size, 1, none⟩)
  | 4 => vv = .slice ai k.infos.length ci
  | 5 => OwnF W0.heap.size 89 3 infoCs ww vv k.infos
  | 6 => vv = .pointer (some ⟨w.heap.size, 2, none⟩)
  | 7 => vv = .slice ae ps.length ce
  | 8 => OwnF W0.heap.size 80 2 pairCs ww vv ps
  | 9 => vv = .pointer (some ⟨w.heap.size, 3, none⟩)
  | 10 => vv = .slice ac k.cache.length cc
  | 11 => OwnF W0.heap.size 94 4 cachedCs ww vv k.cache
  | 12 => OwnParts W0.heap.size ww vv k ps
  | 13 => FreshK W0.heap.size ww vv
  | _ => True) ?_ ?_ ?_
 ·intro i hi vv wz ww' hbz hz
  match i, hi with
  | 0, _ | 1, _ => exact hz
  | 2, _ => exact (by obtain ⟨vs', h'⟩ := hz; exact ⟨vs', h'.below hbz⟩)
  | 3, _ | 4, _ => exact hz
  | 5, _ => exact (OwnF.below hz hbz)
  | 6, _ | 7, _ => exact hz
  | 8, _ => exact (OwnF.below hz hbz)
  | 9, _ | 10, _ => exact hz
  | 11, _ => exact (OwnF.below hz hbz)
  | 12, _ => exact (OwnParts.below hz hbz)
  | 13, _ => exact (FreshK.below hz hbz)
 ·intro i hi o ho a wx Hb Hd hG K HK
  match i, hi with
  | 0, _ => exact dF ho rfl (gn rfl) HK rfl fA33_0 (eb (Hb.out.2.2 1 (by decide))) rfl
  | 1, _ => exact dL ho rfl (gn rfl) HK rfl (et (Hd.out 0 (by kernel_rfl))) (lA28 (bc hG hlt0 x0)) rfl
  | 2, _ =>
   obtain rfl := Option.some.inj ho
   have d1 : (a.tmps[7]?.getD undef) = .slice am k.mem.length cm := Hd.out 1 (by kernel_rfl)
   clear Hd Hb
   refine Does.of rfl ?_
   go_simp
   refine (C1.out _ hG).mono ?_; rintro e w_ ⟨v', vs', rfl, hO, hb2⟩
   exact HK.out _ _ ⟨vs', hO.lower hG.size⟩ hb2
  | 3, _ => exact dF ho rfl (gn rfl) HK rfl fA33_1 (eb (Hb.out.2.2 1 (by decide))) rfl
  | 4, _ => exact dL ho rfl (gn rfl) HK rfl (et (Hd.out 3 (by kernel_rfl))) (lA29 (bc hG hlt0 x1)) rfl
  | 5, _ =>
   obtain rfl := Option.some.inj ho
   have d4 : (a.tmps[10]?.getD undef) = .slice ai k.infos.length ci := Hd.out 4 (by kernel_rfl)
   clear Hd Hb
   refine Does.of rfl ?_
   go_simp
   refine (C2.out _ hG).mono ?_; rintro e w_ ⟨v', rfl, hO, hb2⟩
   exact HK.out _ _ (hO.lower hG.size) hb2
  | 6, _ => exact dF ho rfl (gn rfl) HK rfl fA33_2 (eb (Hb.out.2.2 1 (by decide))) rfl
  | 7, _ => exact dL ho rfl (gn rfl) HK rfl (et (Hd.out 6 (by kernel_rfl))) (lA30 (bc hG hlt0 x2)) rfl
  | 8, _ =>
   obtain rfl := Option.some.inj ho
   have d7 : (a.tmps[13]?.getD undef) = .slice ae ps.length ce := Hd.out 7 (by kernel_rfl)
   clear Hd Hb
   refine Does.of rfl ?_
   go_simp
   refine (C3.out _ hG).mono ?_; rintro e w_ ⟨v', rfl, hO, hb2⟩
   exact HK.out _ _ (hO.lower hG.size) hb2
  | 9, _ => exact dF ho rfl (gn rfl) HK rfl fA33_3 (eb (Hb.out.2.2 1 (by decide))) rfl
  | 10, _ => exact dL ho rfl (gn rfl) HK rfl (et (Hd.out 9 (by kernel_rfl))) (lA31 (bc hG hlt0 x3)) rfl
  | 11, _ =>
   obtain rfl := Option.some.inj ho
   have d10 : (a.tmps[16]?.getD undef) = .slice ac k.cache.length cc := Hd.out 10 (by kernel_rfl)
   clear Hd Hb
   refine Does.of rfl ?_
   go_simp
   refine (C4.out _ hG).mono ?_; rintro e w_ ⟨v', rfl, hO, hb2⟩
   exact HK.out _ _ (hO.lower hG.size) hb2
  | 12, _ =>
   obtain rfl := Option.some.inj ho
   have d2 : ∃ vs', OwnRows W0.heap.size wx (a.tmps[8]?.getD undef) vs' k.mem := Hd.out 2 (by kernel_rfl)
   have d5 : OwnF W0.heap.size 89 3 infoCs wx (a.tmps[11]?.getD undef) k.infos := Hd.out 5 (by kernel_rfl)
   have d8 : OwnF W0.heap.size 80 2 pairCs wx (a.tmps[14]?.getD undef) ps := Hd.out 8 (by kernel_rfl)
   have d11 : OwnF W0.heap.size 94 4 cachedCs wx (a.tmps[17]?.getD undef) k.cache := Hd.out 11 (by kernel_rfl)
   clear Hd Hb
   generalize e8 : a.tmps[8]?.getD undef = m' at d2
   generalize e11 : a.tmps[11]?.getD undef = i' at d5
   generalize e14 : a.tmps[14]?.getD undef = e' at d8
   generalize e17 : a.tmps[17]?.getD undef = c' at d11
   have W : Hid (OwnParts W0.heap.size wx (.agg #[m', i', e', c']) k ps) := Lib.hid ⟨m', i', e', c', rfl, d2, d5, d8, d11⟩
   obtain ⟨_, d2⟩ := d2
   obtain ⟨_, _, rfl, _, _⟩ := d2.1.rd.shape
   obtain ⟨_, _, rfl, _, _⟩ := d5.rd.shape
   obtain ⟨_, _, rfl, _, _⟩ := d8.rd.shape
   obtain ⟨_, _, rfl, _, _⟩ := d11.rd.shape
   clear d2 d5 d8 d11
   refine Does.of rfl ?_
   go_simp
   exact HK.out _ _ W.out (Below.refl _ _)
  | 13, _ =>
   obtain rfl := Option.some.inj ho
   clear Hd Hb
   refine Does.of rfl ?_
   go_simp
   exact HK.out _ _ ⟨_, rfl, hG.size, heap_alloc_new _ _⟩ (below1 _ _)
 ·intro vs wx hR hG
  have q12 : OwnParts W0.heap.size wx (vs 12) k ps := hR 12 (by decide)
  have q13 : FreshK W0.heap.size wx (vs 13) := hR 13 (by decide)
  obtain ⟨g, q13, hg, hB⟩ := q13
  clear hR
  simp only [fillAt, dstOf, List.range, List.range.loop, List.foldl_cons, List.foldl_nil, q13]
  simp
  generalize vs 12 = z12 at q12 ⊢
  clear q13
  obtain ⟨m', i', e0, c', rfl, ⟨vs', o1⟩, o2, o3, o4⟩ := q12
  obtain ⟨ge, cape, rfl, d1, d2, ge1, ge2, hfze⟩ := o3.shapeOwn (by rw [Hpl.out]; omega)
  rw [Hpl.out] at o3 d1 ⊢
  unfold maxLen at d2
  have hne : g ≠ w.heap.size + 1 := by omega
  have hgr := grown_set' (grown_set' (grown_set' (grown_set wx g 0 m') 1 i') 2 (.slice (some ⟨ge, 0, none⟩) 3 cape)) 3 c'
  have St : OwnSt W0 g m' i' (.slice (some ⟨ge, 0, none⟩) 3 cape) c' k [] ps ((((wx.setCell ⟨g, 0, none⟩ m').setCell ⟨g, 1, none⟩ i').setCell ⟨g, 2, none⟩ (.slice (some ⟨ge, 0, none⟩) 3 cape)).setCell ⟨g, 3, none⟩ c') :=
   ⟨blk_set4 hB, ⟨vs', o1.far hgr hB (by decide) (by decide)⟩, o2.far hgr hB (by decide), ⟨o3.far hgr hB (by decide), Both.nil, AllApart.nil⟩, o4.far hgr hB (by decide), (((hG.setCell hg _).setCell hg _).setCell hg _).setCell hg _⟩
  obtain ⟨pa, pc, rfl, _, _⟩ := o1.1.rd.shape
  obtain ⟨qa, qc, rfl, _, _⟩ := o2.rd.shape
  obtain ⟨ra, rc, rfl, _, _⟩ := o4.rd.shape
  obtain ⟨b0, b1, b2, b3⟩ := blk_cells4 hB
  have hfz := blk_frozen hB
  have HN0 := Lib.hid N0
  have HN1 := Lib.hid N1
  clear o1 o2 o3 o4 hG hB hgr x0 x1 x2 x3 hfze N0 N1
  go_wp2_with fail
  clear b0 b1 b2 b3 hfz
  go_loopw [22] (fun i wr => ∃ qs : List (Value × Int), qs.length ≤ 3 ∧ i = .int .i64 qs.length ∧ OwnSt W0 g _ _ (.slice (some ⟨ge, 0, none⟩) 3 cape) _ k qs (ps.drop qs.length) wr) (fun i _ => 3 - (intOf i).toNat)
  case atStart => exact ⟨[], by simp, rfl, St⟩
  case round =>
   clear St
   obtain ⟨qs, hq, rfl, St⟩ := hrel
   by_cases hlt : qs.length < 3
   ·have hlv : qs.length < ps.length := by rw [Hpl.out]; exact hlt
    have ed : ps.drop qs.length = ps.getD qs.length (.bool false, 0) :: ps.drop (qs.length + 1) := by
     rw [List.drop_eq_getElem_cons hlv]
     congr 1
     simp [hlv]
    rw [ed] at St
    have hlen : (qs ++ ps.getD qs.length (.bool false, 0) :: ps.drop (qs.length + 1)).length = 3 := by
     have := Hpl.out
     simp only [List.length_append, List.length_cons, List.length_drop]
     omega
    have hH1 := St.2.2.2.1.1
    rw [← hlen] at hH1
    have D := OwnF.cellsAt pairCs_len hH1 (k := qs.length) (x := ps.getD qs.length (.bool false, 0)) (by simp)
    have D0 := D 0 _ rfl
    have D1 := D 1 _ rfl
    rw [Nat.add_zero] at D0
    have fz := World.ownsRow.frozenAt hH1
    have hbw := hb0.trans (St.2.2.2.2.2.mono hb0.size)
    have C := C5.out _ hlt
    have hp := C6.out _ hlt
    obtain ⟨a0, n0, c0, hs0⟩ := C7.out _ hlt
    have he : k.envs[qs.length]? = some (envAt k.envs qs.length) := by unfold envAt; exact getD_lt (by rw [Hel.out]; exact hlt)
    have y2 := (blk_cells4 St.1).2.2.1
    have hgl := blk_lt St.1
    have hgel := World.block_lt_of_cell? wr _ D0
    have HST := Lib.hid St
    have Hlen := Lib.hid hlen
    have He := Lib.hid he
    have Hp := Lib.hid hp
    clear St hlen he hp hH1 D ed
    generalize ps.getD qs.length (.bool false, 0) = p0 at *
    obtain ⟨u0, r0⟩ := p0
    cases hs0
    change wr.cell? _ = some (Value.slice a0 n0 c0) at D0
    change wr.cell? _ = some (Value.int .i64 r0) at D1
    have N := heap_alloc_new wr (.cells #[.slice a0 n0 c0, .int .i64 r0] 80)
    have hbn := below1 wr (.cells #[.slice a0 n0 c0, .int .i64 r0] 80)
    have c3 : (3 : Int) ≤ cape := by omega
    go_wp2_with fail
    generalize wr.alloc _ = wa at *
    have y5 := cell_of_row _ _ 0 _ _ _ N
    have hl5 := blk_lt N
    have HC := Lib.hid (fun W (hW : Below wa.heap.size wa W) => C W ((hbw.trans (hbn.mono hbw.size)).trans (hW.mono (hbw.trans (hbn.mono hbw.size)).size)))
    replace y2 := (hbn.cell (p := ⟨g, 2, none⟩) hgl).trans y2
    replace D0 := (hbn.cell (p := ⟨ge, qs.length * 2, none⟩) hgel).trans D0
    have fz2 := (hbn.frozen (p := ⟨ge, qs.length * 2, none⟩) hgel).trans (fz _)
    replace hgl := Nat.lt_of_lt_of_le hgl hbn.size
    replace hgel := Nat.lt_of_lt_of_le hgel hbn.size
    clear C N D1 fz
    refine wp_region_grow 8 Tryz.mixed (by kernel_rfl) 37 rfl (by kernel_rfl) (fun ix vv ww => match ix with
     | 0 => vv = .pointer (some ⟨g, 2, none⟩)
     | 1 => vv = .slice (some ⟨ge, 0, none⟩) 3 cape
     | 2 => vv = .int .i64 ((qs.length : Int))
     | 3 => vv = .pointer (some ⟨wr.heap.size, 0, none⟩)
     | 4 => vv = .slice a0 n0 c0
     | 5 => OwnF wa.heap.size 9 1 strCs ww vv (envAt k.envs qs.length).rights
     | 6 => vv = .pointer (some ⟨ge, qs.length * 2, none⟩)
     | 7 => vv = .pointer (some ⟨ge, qs.length * 2, none⟩)
     | _ => True) ?_ ?_ ?_
    ·intro i hi vv wz ww' hbz hz
     match i, hi with
     | 0, _ | 1, _ | 2, _ | 3, _ | 4, _ => exact hz
     | 5, _ => exact (OwnF.below hz hbz)
     | 6, _ | 7, _ => exact hz
    ·intro i hi o ho a wx Hb Hd hG K HK
     match i, hi with
     | 0, _ => exact dF ho rfl (gn rfl) HK rfl fA33_2 (eb (Hb.out.2.2 3 (by decide))) rfl
     | 1, _ => exact dL ho rfl (gn rfl) HK rfl (et (Hd.out 0 (by kernel_rfl))) (lA30 (bc hG hgl y2)) rfl
     | 2, _ => exact dM ho rfl (gn rfl) HK rfl (eb (Hb.out.2.2 4 (by decide))) rfl
     | 3, _ => exact dF ho rfl (gn rfl) HK rfl fA80_0 (eb (Hb.out.2.2 5 (by decide))) rfl
     | 4, _ => exact dL ho rfl (gn rfl) HK rfl (et (Hd.out 3 (by kernel_rfl))) (lA36 (bc hG hl5 y5)) rfl
     | 5, _ =>
      obtain rfl := Option.some.inj ho
      have d4 : (a.tmps[31]?.getD undef) = .slice a0 n0 c0 := Hd.out 4 (by kernel_rfl)
      clear Hd Hb
      refine Does.of rfl ?_
      go_simp
      refine (HC.out _ hG).mono ?_; rintro e w_ ⟨v', rfl, hO, hb2⟩
      exact HK.out _ _ (hO.lower hG.size) hb2
     | 6, _ =>
      obtain rfl := Option.some.inj ho
      have d1 : (a.tmps[28]?.getD undef) = .slice (some ⟨ge, 0, none⟩) 3 cape := Hd.out 1 (by kernel_rfl)
      have d2 : (a.tmps[29]?.getD undef) = .int .i64 ((qs.length : Int)) := Hd.out 2 (by kernel_rfl)
      clear Hd Hb
      refine Does.of rfl ?_
      go_simp
      exact HK.out _ _ rfl (Below.refl _ _)
     | 7, _ => exact dF ho rfl (gn rfl) HK rfl fA80_0 (et (Hd.out 6 (by kernel_rfl))) rfl
    ·intro vs wx hR hG
     have q5 : OwnF wa.heap.size 9 1 strCs wx (vs 5) (envAt k.envs qs.length).rights := hR 5 (by decide)
     have q7 : (vs 7) = .pointer (some ⟨ge, qs.length * 2, none⟩) := hR 7 (by decide)
     clear hR
     simp only [fillAt, dstOf, List.range, List.range.loop, List.foldl_cons, List.foldl_nil, q7]
     simp
     generalize vs 5 = z5 at q5 ⊢
     clear q7
     have ST := Lib.hid (OwnSt.step (p0 := (_, r0)) HST.out Hlen.out.symm (hbn.trans (hG.mono hbn.size)) (q5.lower hbn.size) He.out Hp.out)
     replace D0 := (hG.cell (p := ⟨ge, qs.length * 2, none⟩) hgel).trans D0
     replace fz2 := (hG.frozen (p := ⟨ge, qs.length * 2, none⟩) hgel).trans fz2
     obtain ⟨_, _, rfl, _, _⟩ := q5.rd.shape
     clear q5 hG y2 y5
     go_wp2_with fail
     go_roundw
     case rel => exact ⟨qs ++ [(_, r0)], by rw [List.length_append, List.length_singleton]; omega, by rw [List.length_append, List.length_singleton]; go_num, by rw [List.length_append, List.length_singleton]; exact ST.out⟩
     case measure => simp [intOf]; omega
   ·have e3 : qs.length = 3 := by omega
    rw [List.drop_eq_nil_of_le (by rw [e3, Hpl.out]; exact Nat.le_refl _)] at St
    obtain ⟨hB, ⟨vs2, o1⟩, o2, o3, o4, hbel⟩ := St
    have o5 := o3.whole (by rw [e3, Hel.out])
    have hBs := (hbel.block _ (by omega)).trans HN1.out
    have S := Lib.hid (show ∀ w', wr.grownBy w' (some (w.heap.size + 1)) → OwnKRes w k (.returned (.agg #[_, _, (.slice (some ⟨ge, 0, none⟩) 3 cape), _])) w' from fun w' hg' =>
     ⟨_, _, _, _, rfl, ⟨⟨vs2, (o1.far hg' hBs (by decide) (by decide)).lower hb0.size⟩, (o2.far hg' hBs (by decide)).lower hb0.size, ⟨qs, (o5.far hg' hBs (by decide) (by decide)).lower hb0.size⟩, (o4.far hg' hBs (by decide)).lower hb0.size⟩, (hb0.trans (hbel.mono hb0.size)).grown hg' (hb0.trans (hbel.mono hb0.size)).size (fun k hk => by cases hk; omega)⟩)
    obtain ⟨E0, E1, E2, E3⟩ := blk_cells4 (blk_set4 (m' := .slice pa vs'.length pc) (i' := .slice qa k.infos.length qc) (e' := .slice (some ⟨ge, 0, none⟩) 3 cape) (c' := .slice ra k.cache.length rc) hBs)
    have HE := Lib.hid (And.intro E0 (And.intro E1 (And.intro E2 E3)))
    have hgr : wr.grownBy ((((wr.setCell ⟨w.heap.size + 1, 0, none⟩ (.slice pa vs'.length pc)).setCell ⟨w.heap.size + 1, 1, none⟩ (.slice qa k.infos.length qc)).setCell ⟨w.heap.size + 1, 2, none⟩ (.slice (some ⟨ge, 0, none⟩) 3 cape)).setCell ⟨w.heap.size + 1, 3, none⟩ (.slice ra k.cache.length rc)) (some (w.heap.size + 1)) := grown_set' (grown_set' (grown_set' (grown_set wr (w.heap.size + 1) 0 _) 1 _) 2 _) 3 _
    obtain ⟨b0, b1, b2, b3⟩ := blk_cells4 hB
    obtain ⟨c0, c1, c2, c3⟩ := blk_cells4 hBs
    have hfz := blk_frozen hBs
    have hlt3 : ¬ (qs.length : Int) < 3 := by omega
    clear hB hBs o1 o2 o3 o4 o5 E0 E1 E2 E3 e3
    go_wp2_with fail
    obtain ⟨E0, E1, E2, E3⟩ := HE.out
    exact bodyPost_ret (v := .agg #[_, _, _, _]) (by simp [results, Tryz.results42, go_sem, E0, E1, E2, E3]) rfl (S.out _ hgr)
section
variable {P : Program}
theorem wp_region_own {id : Nat} {Q : Exit → Act → World → Prop} {a0 : Act} {w0 : World} {l : List Oper} (n : Nat) (hm : P.follows .mixedOrders = true) (hB : postsB l n = true)
 (N : Nat) (hN : a0.tmps.size = N) (hD : dstB l n N = true) (s : Nat) (row : Option Nat) (R : Nat → Value → World → Prop)
 (hmono : ∀ i, i < n → i ≠ s → ∀ v w w', w0.grownBy w row → w.grownBy w' row → R i v w → R i v w') (hmonoS : ∀ v w w', Below w.heap.size w w' → R s v w → R s v w')
 (hstep : ∀ i, i < n → i ≠ s → ∀ o, l[i]? = some o → ∀ a w, Hid (a.defers = a0.defers ∧ a.tmps.size = a0.tmps.size ∧ ∀ t, (∀ i, i < n → dstOf l i ≠ t) → a.tmps[t]? = a0.tmps[t]?) →
  Hid (∀ j, Region.waitsFor .any l.toArray i j = true → R j (a.tmps[dstOf l j]?.getD undef) w) → w0.grownBy w row →
  ∀ K : Act → World → Prop, Hid (∀ v w', R i v w' → Below w.heap.size w w' → K (a.put o.dst v) w') → Does P l o a w K Q)
 (hstepS : ∀ o, l[s]? = some o → ∀ a w, Hid (a.defers = a0.defers ∧ a.tmps.size = a0.tmps.size ∧ ∀ t, (∀ i, i < n → dstOf l i ≠ t) → a.tmps[t]? = a0.tmps[t]?) →
  Hid (∀ j, Region.waitsFor .any l.toArray s j = true → R j (a.tmps[dstOf l j]?.getD undef) w) → Below w0.heap.size w0 w →
  ∀ K : Act → World → Prop, Hid (∀ v w', R s v w' → w.grownBy w' row → K (a.put o.dst v) w') → Does P l o a w K Q)
 (htail : ∀ (vs : Nat → Value) w, (∀ i, i < n → R i (vs i) w) → w0.grownBy w row → wpList P l.toArray Q (l.drop n) { a0 with tmps := fillAt l (List.range n) vs a0.tmps } w) :
 (Code.region id l.toArray true).wp P Q a0 w0 := by
 refine wp_region_posts n hm hB N hN hD R (fun L w => w0.grownBy w row ∧ (L s = false → Below w0.heap.size w0 w)) ⟨grown_below (below_drewN (Below.refl _ _) 1) _, fun _ => below_drewN (Below.refl _ _) 1⟩ ?_ (fun vs w h1 _ _ h2 => htail vs w h1 h2.1)
 intro i hi o ho a w Hb Hd L HL hG K HK
 by_cases his : i = s
 ·subst his
  exact hstepS o ho a w Hb Hd (hG.2 HL.out.1) K (Lib.hid fun v w' h1 h2 => HK.out v w' h1 ⟨grown_trans hG.1 h2, fun h => by simp [upd] at h⟩ (fun j u hj hjn _ h => hmono j hjn hj u w w' hG.1 h2 h))
 ·exact hstep i hi his o ho a w Hb Hd hG.1 K (Lib.hid fun v w' h1 h2 => HK.out v w' h1 ⟨grown_trans hG.1 (grown_below h2 _), fun h => (hG.2 (upd_no h)).trans (h2.mono hG.1.size)⟩ (fun j u hj hjn _ h => by
   by_cases hjs : j = s
   ·subst hjs; exact hmonoS u w w' h2 h
   ·exact hmono j hjn hjs u w w' hG.1 (grown_below h2 _) h))
end
theorem yield_un {l : List Oper} {tmps : Array Value} {g d : Nat} (hd : (l[g]?).bind (·.dst) = some d) (hv : tmps[d]?.getD undef = undef) : yielded l.toArray tmps g = none := by
 have h : (l.toArray[g]?).bind (·.dst) = some d := by simpa using hd
 unfold yielded
 rw [h, Option.bind_some]
 cases hx : tmps[d]? with
 | none => rfl
 | some x =>
  rw [hx] at hv
  simp at hv
  subst hv
  rfl
theorem Does.un {P : Program} {l : List Oper} {o : Oper} {a : Act} {w : World} {K : Act → World → Prop} {Q : Exit → Act → World → Prop} {g d : Nat} {b : Bool} (hg : o.guard = some (g, b)) (hd : (l[g]?).bind (·.dst) = some d) (hv : a.tmps[d]?.getD undef = undef) (h : K (a.put o.dst undef) w) : Does P l o a w K Q :=
 ⟨fun hw => by rw [Region.wanted, hg] at hw; simp only [yield_un hd hv] at hw; cases b <;> simp at hw, fun _ => h⟩
theorem grown_cell {w w' : World} {row : Option Nat} {b o : Nat} (h : w.grownBy w' row) (hb : b < w.heap.size) (hne : row ≠ some b) : w'.cell? ⟨b, o, none⟩ = w.cell? ⟨b, o, none⟩ := World.cell?_of_block (h.block b hb (fun e => hne e.symm))
def OneRow (lo : Nat) (w : World) (v : Value) (r : List Int) : Prop := ∃ u g, v = .slice (some ⟨g, 0, none⟩) 1 1 ∧ lo ≤ g ∧ w.heap[g]? = some (.cells #[u] 38 (0, 0)) ∧ OwnInts lo w u r
def OneEnv (lo : Nat) (w : World) (v : Value) (ts : List ByteArray) : Prop := ∃ u g, v = .slice (some ⟨g, 0, none⟩) 1 1 ∧ lo ≤ g ∧ w.heap[g]? = some (.cells #[u, .int .i64 (-1)] 80 (0, 0)) ∧ OwnF lo 9 1 strCs w u ts
theorem OneRow.past {lo : Nat} {w w' : World} {v : Value} {r : List Int} {row : Option Nat} (h : OneRow lo w v r) (hg : w.grownBy w' row) (hr : ∀ k, row = some k → k < lo) : OneRow lo w' v r := by
 obtain ⟨u, g, h0, h1, h2, h3⟩ := h
 exact ⟨u, g, h0, h1, blk_past h2 h1 hg hr, own_past h3 hg hr⟩
theorem OneEnv.past {lo : Nat} {w w' : World} {v : Value} {ts : List ByteArray} {row : Option Nat} (h : OneEnv lo w v ts) (hg : w.grownBy w' row) (hr : ∀ k, row = some k → k < lo) : OneEnv lo w' v ts := by
 obtain ⟨u, g, h0, h1, h2, h3⟩ := h
 exact ⟨u, g, h0, h1, blk_past h2 h1 hg hr, own_past h3 hg hr⟩
def NewI (W0 : World) (g n : Nat) (es : List EnvV) (wr : World) : Prop :=
 ∃ m i e vs ps, wr.heap[g]? = some (.cells #[m, i, e, .slice none 0 0] 33 (0, 0)) ∧ W0.heap.size ≤ g ∧ OwnRows W0.heap.size wr m vs (zeros n) ∧ OwnF W0.heap.size 89 3 infoCs wr i (List.replicate 12 InfoV.zero) ∧ OwnEnvs W0.heap.size wr e ps es ∧ Below W0.heap.size W0 wr
theorem own_nil {α : Type} (cs : α → List Value) (lo e sz : Nat) (w : World) : OwnF lo e sz cs w (.slice none 0 0) [] := World.ownsRow_nil _ _ _ _
theorem rows_nil (lo : Nat) (w : World) : OwnRows lo w (.slice none 0 0) [] (zeros 0) := ⟨own_nil _ _ _ _ _, Both.nil, AllApart.nil⟩
theorem envs_nil (lo : Nat) (w : World) : OwnEnvs lo w (.slice none 0 0) [] [] := ⟨own_nil _ _ _ _ _, Both.nil, AllApart.nil⟩
theorem own_row_ne {lo e sz n g T : Nat} {w : World} {v : Value} {xs : List Value} {cur : Array Value} (h : w.ownsRow lo e sz v n xs) (hB : w.heap[g]? = some (.cells cur T (0, 0))) (hne : e ≠ T) : v.ownBlock ≠ some g := fun he => by
 obtain ⟨c, hc⟩ := own_type h g he
 rw [hB] at hc
 simp at hc
 exact hne hc.2.symm
set_option maxHeartbeats 400000 in
theorem KernelNew1_any (v : Value) (ts : List ByteArray) (w : World) (h : RdStrs w v ts) (hs : SmallS ts) : Calls Tryz.prog 39 #[v] w fun e w' => e = .returned (.bool (!rightsOk ts)) ∧ Below w.heap.size w w' := by
 have C := Lib.hid (RightsValid_impl v ts w h hs)
 clear h hs
 go_enter Tryz.func39, Tryz.ntmps39
 go_wp2_with fail
 refine (C.out).mono ?_; rintro e w1 ⟨rfl, hb⟩
 go_wp2_with fail
 go_ret
 exact ⟨rfl, hb⟩
set_option maxRecDepth 100000 in
set_option maxHeartbeats 4000000 in
theorem KernelNew_impl (v : Value) (tss : List (List ByteArray)) (w : World) (h : RdTexts w v tss) (h3 : tss.length = 3) (hok : ∀ ts ∈ tss, rightsOk ts = true) (hsm : ∀ ts ∈ tss, SmallS ts) :
 Calls Tryz.prog 11 #[v] w (NewK w true (newKern tss)) := by
 have hb0 := below1 w (.cells #[.slice none 0 0, .slice none 0 0, .slice none 0 0, .slice none 0 0] 33)
 have N0 := heap_alloc_new w (.cells #[.slice none 0 0, .slice none 0 0, .slice none 0 0, .slice none 0 0] 33)
 have hs0 : w.heap.size + 1 = (w.alloc (.cells #[.slice none 0 0, .slice none 0 0, .slice none 0 0, .slice none 0 0] 33)).heap.size := by simp
 have C0 := ContainsFuncTexts_any 39 #[] (fun ts => !rightsOk ts) v tss (w.alloc (.cells #[.slice none 0 0, .slice none 0 0, .slice none 0 0, .slice none 0 0] 33)) (h.below hb0)
 obtain ⟨vs, h1, h2⟩ := h
 obtain ⟨a, cv, rfl, hc, hcm, H0⟩ := RdF.open oneCs_len (by decide) h1
 unfold maxLen at hcm
 have hv3 : vs.length = 3 := by rw [h2.1, h3]
 have HB := Lib.hid h2
 have H3 := Lib.hid h3
 have Hok := Lib.hid hok
 have Hsm := Lib.hid hsm
 have Hv3 := Lib.hid hv3
 have hany : (tss.any fun ts => !rightsOk ts) = false := by
  rw [List.any_eq_false]
  intro ts hts
  simp [hok ts hts]
 rw [hany] at C0
 have C := Lib.hid (C0 (fun _ _ => by kernel_rfl) (fun u r hr W _ hu => KernelNew1_any u r W hu (hsm r hr)))
 rw [hv3] at C hc ⊢
 clear h2 h3 hok hsm hany C0 h1 hv3
 go_enter Tryz.func11, Tryz.ntmps11
 go_wp2_with fail
 refine (C.out).mono ?_; rintro e w1 ⟨rfl, hb1⟩
 generalize w.alloc _ = W0 at *
 go_wp2_with (first | (at_make; go_must (refine wp_makeN (n := 12) rfl rfl 89 _ 3 32 Tryz.underlying29 Tryz.infoInfoK rfl (by omega) (by unfold maxLen; omega) ?_; intro w2 hown hbel hsz)))
 rw [madeInfos] at hown
 have hgW : W0.heap.size ≤ w2.heap.size := Nat.le_trans hb1.size hbel.size
 have hbx := hb1.trans (hbel.mono hb1.size)
 have N2 := heap_alloc_new w2 (.cells #[.slice none 0 0, .slice (some ⟨w1.heap.size, 0, none⟩) 12 12, .slice none 0 0, .slice none 0 0] 33)
 have hb3 := hbx.trans ((below1 w2 (.cells #[.slice none 0 0, .slice (some ⟨w1.heap.size, 0, none⟩) 12 12, .slice none 0 0, .slice none 0 0] 33)).mono hgW)
 have hown3 : OwnF W0.heap.size 89 3 infoCs w2 (.slice (some ⟨w1.heap.size, 0, none⟩) 12 12) (List.replicate 12 InfoV.zero) := own_loV hown hb1.size
 have St : NewI W0 w2.heap.size 0 [] (w2.alloc (.cells #[.slice none 0 0, .slice (some ⟨w1.heap.size, 0, none⟩) 12 12, .slice none 0 0, .slice none 0 0] 33)) :=
  ⟨_, _, _, [], [], N2, hgW, rows_nil _ _, hown3.below (below1 _ _), envs_nil _ _, hb3⟩
 generalize w2.heap.size = g at *
 clear N2 hb3 hown3 hown hbel hbx
 go_loopw [17] (fun i wr => ∃ k : Nat, k ≤ 12 ∧ i = .int .i64 k ∧ NewI W0 g k [] wr) (fun i _ => 12 - (intOf i).toNat)
 case atStart => exact ⟨0, by omega, rfl, St⟩
 case round =>
  clear St
  obtain ⟨k, hk, rfl, m, iv, ev, rs, ps, hB, hg, o1, o2, o3, hbel⟩ := hrel
  by_cases hlt : k < 12
  ·have hrl : rs.length = k := by rw [o1.2.1.1]; simp [zeros]
   have hne := own_row_ne o1.1 hB (by decide)
   have hgl := blk_lt hB
   have y0 := (blk_cells4 hB).1
   have hrow := fun k hk => (World.ownsRow.lt o1.1 k hk)
   go_wp2_with fail
   refine wp_region_own 5 Tryz.mixed (by kernel_rfl) 42 rfl (by kernel_rfl) 4 (m.ownBlock) (fun ix vv ww => match ix with
    | 0 => vv = .pointer (some ⟨g, 0, none⟩)
    | 1 => vv = m
    | 2 => OwnInts wr.heap.size ww vv [0, 0, 0, 0]
    | 3 => OneRow wr.heap.size ww vv [0, 0, 0, 0]
    | 4 => ∃ u, OwnRows W0.heap.size ww vv (rs ++ [u]) (zeros k ++ [[0, 0, 0, 0]])
    | _ => True) ?_ ?_ ?_ ?_ ?_
   ·intro i hi his vv wz ww' hz0 hbz hz
    match i, hi, his with
    | 0, _, hs | 1, _, hs => exact hz
    | 2, _, hs => exact (own_past hz hbz (fun k hk => (hrow k hk).2))
    | 3, _, hs => exact (OneRow.past hz hbz (fun k hk => (hrow k hk).2))
    | 4, _, hs => exact absurd rfl hs
   ·intro vv wz ww' hbz hz
    exact (by obtain ⟨u, h⟩ := hz; exact ⟨u, h.below hbz⟩)
   ·intro i hi his o ho a wx Hb Hd hG K HK
    match i, hi, his with
    | 0, _, _ => exact dF ho rfl (gn rfl) HK rfl fA33_0 (eb (Hb.out.2.2 4 (by decide))) rfl
    | 1, _, _ => exact dL ho rfl (gn rfl) HK rfl (et (Hd.out 0 (by kernel_rfl))) (lA28 ((grown_cell hG hgl hne).trans y0)) rfl
    | 2, _, _ =>
     obtain rfl := Option.some.inj ho
     clear Hd Hb
     obtain ⟨i0, hi0, hz0, hz1, hz2⟩ := info_parts Tryz.infoInt
     obtain ⟨w9, hrun, h3, h4⟩ := run_make_full (P := Tryz.prog) wx wx.heap.size 38 3 i0 _ 1 Tryz.underlying38 hi0 hz0 hz1 .i64 .i64 4 (by rw [hz2]; decide) (by decide) (Nat.le_refl _)
     have h5 := Below.of_grown h4
     rw [madeOnes (.int .i64 0) rfl 4] at h3
     have hrun' : (Instr.makeSlice 38 (.int .i64 4) (.int .i64 4)).run Tryz.prog wx = .ok (.slice (some ⟨wx.heap.size, 0, none⟩) 4 4) w9 := hrun
     clear hi0 hz0 hz1 hz2 hrun
     refine Does.of rfl ?_
     go_simp
     exact HK.out _ _ (own_loV h3 hG.size) h5
    | 3, _, _ =>
     obtain rfl := Option.some.inj ho
     have d2 : OwnInts wr.heap.size wx (a.tmps[21]?.getD undef) [0, 0, 0, 0] := Hd.out 2 (by kernel_rfl)
     clear Hd Hb
     generalize e21 : a.tmps[21]?.getD undef = u at d2
     have W := Lib.hid d2
     obtain ⟨_, _, rfl, _⟩ := d2.rd.open
     clear d2
     refine Does.of rfl ?_
     go_simp
     exact HK.out _ _ ⟨_, _, rfl, hG.size, heap_alloc_new _ _, OwnInts.below W.out (below1 _ _)⟩ (below1 _ _)
    | 4, _, hs => exact absurd rfl hs
   ·intro o ho a wx Hb Hd hG K HK
    obtain rfl := Option.some.inj ho
    have d1 : (a.tmps[20]?.getD undef) = m := Hd.out 1 (by kernel_rfl)
    have d3 : OneRow wr.heap.size wx (a.tmps[22]?.getD undef) [0, 0, 0, 0] := Hd.out 3 (by kernel_rfl)
    clear Hd Hb
    obtain ⟨u, g9, d3, d3a, d3b, d3c⟩ := d3
    have o1' := o1.below hG
    obtain ⟨i0, hi0, hz0, hz1, hz2⟩ := info_parts Tryz.infoRow
    obtain ⟨v10, w4, hrun, r1, r2, _, r4⟩ := run_append_own_at (P := Tryz.prog) wx W0.heap.size 28 28 38 i0 _ 1 24 Tryz.underlying28 hi0 hz0 hz1 hz2 rfl (by decide) m rs.length (flat oneCs rs) o1'.1 ⟨g9, 0, none⟩ 1 1 [u] rfl (by
     intro j x hx
     match j, hx with
     | 0, hx => simp at hx; subst hx; exact cell_of_row wx g9 0 _ _ _ d3b) (by
     obtain ⟨_, _, rfl, _⟩ := d3c.rd.open
     simp [Value.oneCell']) (by simp only [maxLen]; omega) (by omega) (Nat.le_trans hbel.size hG.size)
    clear hi0 hz0 hz1 hz2
    refine Does.of rfl ?_
    refine wp_append_run rfl (eval_tmp d1) (eval_tmp d3) hrun ?_
    exact HK.out _ _ ⟨u, o1.push hG hbel.size d3c r1 r2⟩ r2
   ·intro vs wx hR hG
    have q4 : ∃ u, OwnRows W0.heap.size wx (vs 4) (rs ++ [u]) (zeros k ++ [[0, 0, 0, 0]]) := hR 4 (by decide)
    clear hR
    simp only [fillAt, dstOf, List.range, List.range.loop, List.foldl_cons, List.foldl_nil]
    simp
    generalize vs 4 = z4 at q4 ⊢
    obtain ⟨u, q4⟩ := q4
    have hB3 := (hG.block g hgl (fun e => hne e.symm)).trans hB
    have hgr := grown_set wx g 0 z4
    have St : NewI W0 g (k + 1) [] (wx.setCell ⟨g, 0, none⟩ z4) := by
     refine ⟨z4, iv, ev, rs ++ [u], ps, ?_, hg, ?_, ?_, ?_, ?_⟩
     ·have := heap_setCell_same wx g 0 _ 33 z4 hB3
      simpa using this
     ·rw [show zeros (k + 1) = zeros k ++ [[0, 0, 0, 0]] by simp [zeros, List.replicate_succ']]
      exact q4.far hgr hB3 (by decide) (by decide)
     ·exact OwnF.far (own_grown o2 hG (apart_type o2 o1.1 (by decide)).ne) hgr hB3 (by decide)
     ·have hps : ps = [] := List.eq_nil_of_length_eq_zero (by rw [o3.2.1.1]; rfl)
      subst hps
      exact OwnEnvs.far ⟨own_grown o3.1 hG (apart_type o3.1 o1.1 (by decide)).ne, Both.nil, AllApart.nil⟩ hgr hB3 (by decide) (by decide)
     ·exact (hbel.grown hG hbel.size (fun k hk => (hrow k hk).1)).setCell hg _
    obtain ⟨_, _, rfl, _, _⟩ := q4.1.rd.shape
    obtain ⟨_, _, rfl, _, _⟩ := o1.1.rd.shape
    obtain ⟨c0, _, _, _⟩ := blk_cells4 hB3
    have hfz := blk_frozen hB3
    simp only [List.length_append, List.length_singleton, hrl] at St
    clear hB3 hgr q4 o1 o2 o3 hne hrow y0
    go_wp2_with fail
    go_roundw
    case rel => exact ⟨k + 1, by omega, by go_num, St⟩
    case measure => simp [intOf]; omega
  ·obtain rfl : k = 12 := by omega
   have St : NewI W0 g 12 (newEnvs (tss.take 0)) wr := ⟨m, iv, ev, rs, ps, hB, hg, o1, o2, o3, hbel⟩
   clear hB o1 o2 o3 hbel
   go_wp2_with fail
   rw [show ((12 : Nat) : Int) = 12 from rfl]
   go_loopw [28] (fun i wr => ∃ k : Nat, k ≤ 3 ∧ i = .int .i64 k ∧ NewI W0 g 12 (newEnvs (tss.take k)) wr) (fun i _ => 3 - (intOf i).toNat)
   case atStart => exact ⟨0, by omega, rfl, St⟩
   case round =>
    clear St
    obtain ⟨k, hk, rfl, m, iv, ev, rs, ps, hB, hg, o1, o2, o3, hbel⟩ := hrel
    by_cases hlt : k < 3
    ·have hlv : k < vs.length := by have := Hv3.out; omega
     obtain ⟨u, hu⟩ : ∃ u, vs[k]? = some u := ⟨_, List.getElem?_eq_getElem hlv⟩
     obtain ⟨ts, hts⟩ : ∃ ts, tss[k]? = some ts := ⟨_, List.getElem?_eq_getElem (by rw [H3.out]; exact hlt)⟩
     have Ru := HB.out.2 k u ts hu hts
     have hok := Hok.out ts (List.mem_of_getElem? hts)
     obtain ⟨b, off, rfl, hbl0, hcell⟩ := H0 k u hu
     have Dw : w.cell? ⟨b, off + k, none⟩ = some u := by simpa using hcell 0 u rfl
     have hbw := hb0.trans (hbel.mono hb0.size)
     have D : wr.cell? ⟨b, off + k, none⟩ = some u := (hbw.cell (World.block_lt_of_cell? w _ Dw)).trans Dw
     have Hts := Lib.hid hts
     have htl : ts.length ≤ 6 := by
      simp only [rightsOk, Bool.and_eq_true, decide_eq_true_eq] at hok
      exact hok.2
     have hrl : ps.length = k := by rw [o3.2.1.1]; simp [newEnvs]; have := H3.out; omega
     have hne := own_row_ne o3.1 hB (by decide)
     have hgl := blk_lt hB
     have y2 := (blk_cells4 hB).2.2.1
     have hrow := fun k hk => (World.ownsRow.lt o3.1 k hk)
     have k3 : (k : Int) < 3 := by omega
     have c3 : (3 : Int) ≤ cv := by omega
     have CS := Lib.hid (fun W (hW : Below wr.heap.size wr W) => CloneString_any u ts W (RdF.below (RdF.below Ru hbw) hW) (by omega))
     have hRu := Lib.hid Ru
     obtain ⟨ua, uc, rfl, _, _⟩ := RdF.shape Ru
     clear hu hts Dw hcell hok Ru
     go_wp2_with fail
     have hso : Below wr.heap.size wr wr := Below.refl _ _
     refine wp_region_own 7 Tryz.mixed (by kernel_rfl) 42 rfl (by kernel_rfl) 6 (ev.ownBlock) (fun ix vv ww => match ix with
      | 0 => vv = .pointer (some ⟨g, 2, none⟩)
      | 1 => vv = ev
      | 2 => vv = .slice ua ts.length uc
      | 3 => OwnF wr.heap.size 9 1 strCs ww vv ts
      | 4 => ∃ r, vv = .agg #[r, .int .i64 (-1)] ∧ OwnF wr.heap.size 9 1 strCs ww r ts
      | 5 => OneEnv wr.heap.size ww vv ts
      | 6 => ∃ r, OwnEnvs W0.heap.size ww vv (ps ++ [(r, -1)]) (newEnvs (tss.take k) ++ [⟨ts, -1⟩])
      | _ => True) ?_ ?_ ?_ ?_ ?_
     ·intro i hi his vv wz ww' hz0 hbz hz
      match i, hi, his with
      | 0, _, hs | 1, _, hs | 2, _, hs => exact hz
      | 3, _, hs => exact (own_past hz hbz (fun k hk => (hrow k hk).2))
      | 4, _, hs => exact (by obtain ⟨r, h0, h1⟩ := hz; exact ⟨r, h0, own_past h1 hbz (fun k hk => (hrow k hk).2)⟩)
      | 5, _, hs => exact (OneEnv.past hz hbz (fun k hk => (hrow k hk).2))
      | 6, _, hs => exact absurd rfl hs
     ·intro vv wz ww' hbz hz
      exact (by obtain ⟨u, h⟩ := hz; exact ⟨u, h.below hbz⟩)
     ·intro i hi his o ho a wx Hb Hd hG K HK
      match i, hi, his with
      | 0, _, _ => exact dF ho rfl (gn rfl) HK rfl fA33_2 (eb (Hb.out.2.2 4 (by decide))) rfl
      | 1, _, _ => exact dL ho rfl (gn rfl) HK rfl (et (Hd.out 0 (by kernel_rfl))) (lA30 ((grown_cell hG hgl hne).trans y2)) rfl
      | 2, _, _ => exact dM ho rfl (gn rfl) HK rfl (eb (Hb.out.2.2 6 (by decide))) rfl
      | 3, _, _ =>
       obtain rfl := Option.some.inj ho
       have d2 : (a.tmps[34]?.getD undef) = .slice ua ts.length uc := Hd.out 2 (by kernel_rfl)
       clear Hd Hb
       refine Does.of rfl ?_
       go_simp
       refine (CloneString_any _ ts wx (RdF.keep hRu.out (fun k hk => (hG.block k (Nat.lt_of_lt_of_le hk hbw.size) (fun e => by have := (hrow k e.symm).1; have := hb0.size; omega)).trans (hbw.block k hk))) (by omega)).mono ?_; rintro e w_ ⟨v', rfl, hO, hb2⟩
       exact HK.out _ _ (hO.lower hG.size) hb2
      | 4, _, _ =>
       obtain rfl := Option.some.inj ho
       have d3 : OwnF wr.heap.size 9 1 strCs wx (a.tmps[35]?.getD undef) ts := Hd.out 3 (by kernel_rfl)
       clear Hd Hb
       generalize e35 : a.tmps[35]?.getD undef = u at d3
       have W := Lib.hid d3
       obtain ⟨_, _, rfl, _, _⟩ := d3.rd.shape
       clear d3
       refine Does.of rfl ?_
       go_simp
       exact HK.out _ _ ⟨_, rfl, W.out⟩ (Below.refl _ _)
      | 5, _, _ =>
       obtain rfl := Option.some.inj ho
       have d4 : ∃ r, (a.tmps[36]?.getD undef) = .agg #[r, .int .i64 (-1)] ∧ OwnF wr.heap.size 9 1 strCs wx r ts := Hd.out 4 (by kernel_rfl)
       clear Hd Hb
       obtain ⟨r, d4, d4a⟩ := d4
       refine Does.of rfl ?_
       go_simp
       exact HK.out _ _ ⟨r, _, rfl, hG.size, heap_alloc_new _ _, OwnF.below d4a (below1 _ _)⟩ (below1 _ _)
      | 6, _, hs => exact absurd rfl hs
     ·intro o ho a wx Hb Hd hG K HK
      obtain rfl := Option.some.inj ho
      have d1 : (a.tmps[33]?.getD undef) = ev := Hd.out 1 (by kernel_rfl)
      have d5 : OneEnv wr.heap.size wx (a.tmps[37]?.getD undef) ts := Hd.out 5 (by kernel_rfl)
      clear Hd Hb
      obtain ⟨u, g9, d5, d5a, d5b, d5c⟩ := d5
      have o3' := o3.below hG
      obtain ⟨i0, hi0, hz0, hz1, hz2⟩ := info_parts Tryz.infoEnv
      obtain ⟨v10, w4, hrun, r1, r2, _, r4⟩ := run_append_own_at (P := Tryz.prog) wx W0.heap.size 30 30 80 i0 _ 2 32 Tryz.underlying30 hi0 hz0 hz1 hz2 rfl (by decide) ev ps.length (flat pairCs ps) o3'.1 ⟨g9, 0, none⟩ 1 1 [u, .int .i64 (-1)] rfl (by
       intro j x hx
       match j, hx with
       | 0, hx => simp at hx; subst hx; exact cell_of_row wx g9 0 _ _ _ d5b
       | 1, hx => simp at hx; subst hx; exact cell_of_row wx g9 1 _ _ _ d5b) (by
       obtain ⟨_, _, rfl, _, _⟩ := d5c.rd.shape
       simp [Value.oneCell']) (by simp only [maxLen]; omega) (by omega) (Nat.le_trans hbel.size hG.size)
      clear hi0 hz0 hz1 hz2
      refine Does.of rfl ?_
      refine wp_append_run rfl (eval_tmp d1) (eval_tmp d5) hrun ?_
      exact HK.out _ _ ⟨u, o3.push hG hbel.size (Nat.le_refl _) d5c r1 r2⟩ r2
     ·intro vs wx hR hG
      have q6 : ∃ r, OwnEnvs W0.heap.size wx (vs 6) (ps ++ [(r, -1)]) (newEnvs (tss.take k) ++ [⟨ts, -1⟩]) := hR 6 (by decide)
      clear hR
      simp only [fillAt, dstOf, List.range, List.range.loop, List.foldl_cons, List.foldl_nil]
      simp
      generalize vs 6 = z6 at q6 ⊢
      obtain ⟨r, q6⟩ := q6
      have hB3 := (hG.block g hgl (fun e => hne e.symm)).trans hB
      have hgr := grown_set wx g 2 z6
      have St : NewI W0 g 12 (newEnvs (tss.take (k + 1))) (wx.setCell ⟨g, 2, none⟩ z6) := by
       have e1 : newEnvs (tss.take (k + 1)) = newEnvs (tss.take k) ++ [⟨ts, -1⟩] := by rw [take_one Hts.out]; simp [newEnvs]
       rw [e1]
       refine ⟨m, iv, z6, rs, _, ?_, hg, ?_, ?_, q6.far hgr hB3 (by decide) (by decide), ?_⟩
       ·have := heap_setCell_same wx g 2 _ 33 z6 hB3
        simpa using this
       ·exact OwnRows.far (o1.kept hG o3.1 (by decide) (by decide)) hgr hB3 (by decide) (by decide)
       ·exact OwnF.far (own_grown o2 hG (apart_type o2 o3.1 (by decide)).ne) hgr hB3 (by decide)
       ·exact (hbel.grown hG hbel.size (fun k hk => (hrow k hk).1)).setCell hg _
      obtain ⟨_, _, rfl, _, _⟩ := q6.1.rd.shape
      obtain ⟨_, _, rfl, _, _⟩ := o3.1.rd.shape
      obtain ⟨_, _, c2, _⟩ := blk_cells4 hB3
      have hfz := blk_frozen hB3
      simp only [List.length_append, List.length_singleton, hrl] at St
      clear hB3 hgr q6 o1 o2 o3 hne hrow y2
      go_wp2_with fail
      go_roundw
      case rel => exact ⟨k + 1, by omega, by go_num, St⟩
      case measure => simp [intOf]; omega
    ·obtain rfl : k = 3 := by omega
     have e3 : tss.take 3 = tss := List.take_of_length_le (by rw [H3.out]; omega)
     rw [e3] at o3
     have hne : g ≠ w.heap.size := by omega
     have hBs := (hbel.block _ (by omega)).trans N0
     have S := Lib.hid (show ∀ w', wr.grownBy w' (some w.heap.size) → NewK w true (newKern tss) (.returned (.tuple #[.agg #[m, iv, ev, .slice none 0 0], .bool true])) w' from fun w' hg' =>
      ⟨m, iv, ev, _, rfl, ⟨⟨rs, (o1.far hg' hBs (by decide) (by decide)).lower hb0.size⟩, (o2.far hg' hBs (by decide)).lower hb0.size, ⟨ps, (o3.far hg' hBs (by decide) (by decide)).lower hb0.size⟩, own_nil _ _ _ _ _⟩, (hb0.trans (hbel.mono hb0.size)).grown hg' (hb0.trans (hbel.mono hb0.size)).size (fun k hk => by cases hk; exact Nat.le_refl _)⟩)
     have hgr : wr.grownBy ((((wr.setCell ⟨w.heap.size, 0, none⟩ m).setCell ⟨w.heap.size, 1, none⟩ iv).setCell ⟨w.heap.size, 2, none⟩ ev).setCell ⟨w.heap.size, 3, none⟩ (.slice none 0 0)) (some w.heap.size) := grown_set' (grown_set' (grown_set' (grown_set wr w.heap.size 0 m) 1 iv) 2 ev) 3 _
     obtain ⟨E0, E1, E2, E3⟩ := blk_cells4 (blk_set4 (m' := m) (i' := iv) (e' := ev) (c' := .slice none 0 0) hBs)
     have HE := Lib.hid (And.intro E0 (And.intro E1 (And.intro E2 E3)))
     clear E0 E1 E2 E3
     obtain ⟨_, _, rfl, _, _⟩ := o1.1.rd.shape
     obtain ⟨_, _, rfl, _, _⟩ := o2.rd.shape
     obtain ⟨_, _, rfl, _, _⟩ := o3.1.rd.shape
     obtain ⟨c0, c1, c2, c3⟩ := blk_cells4 hB
     obtain ⟨d0, d1, d2, d3⟩ := blk_cells4 hBs
     have hfz := blk_frozen hBs
     clear hB hBs o1 o2 o3 e3
     simp only [List.length_replicate] at HE S hgr ⊢
     go_wp2_with fail
     obtain ⟨E0, E1, E2, E3⟩ := HE.out
     exact bodyPost_ret (v := .tuple #[.agg #[_, _, _, _], .bool true]) (by simp [results, Tryz.results11, go_sem, E0, E1, E2, E3]) rfl (S.out _ hgr)
def InK (lo : Nat) (w : World) (g : Nat) (m i e c : Value) (k : KernV) : Prop := w.heap[g]? = some (.cells #[m, i, e, c] 33 (0, 0)) ∧ lo ≤ g ∧ OwnK lo w m i e c k
theorem InK.below {lo g : Nat} {w w' : World} {m i e c : Value} {k : KernV} (h : InK lo w g m i e c k) (hb : Below w.heap.size w w') : InK lo w' g m i e c k := ⟨blk_below h.1 hb, h.2.1, h.2.2.below hb⟩
theorem InK.cells {lo g : Nat} {w : World} {m i e c : Value} {k : KernV} (h : InK lo w g m i e c k) : w.cell? ⟨g, 0, none⟩ = some m ∧ w.cell? ⟨g, 1, none⟩ = some i ∧ w.cell? ⟨g, 2, none⟩ = some e ∧ w.cell? ⟨g, 3, none⟩ = some c := blk_cells4 h.1
section
variable {lo g : Nat} {w w1 : World} {m i e c : Value} {k : KernV}
theorem blk_far {b T : Nat} {cur : Array Value} (hB : w.heap[g]? = some (.cells #[m, i, e, c] 33 (0, 0))) (hg : w.grownBy w1 (some b)) (hb : w.heap[b]? = some (.cells cur T (0, 0))) (hT : 33 ≠ T) : w1.heap[g]? = some (.cells #[m, i, e, c] 33 (0, 0)) := by
 refine (hg.block g (blk_lt hB) fun he => ?_).trans hB
 cases he
 rw [hB] at hb
 simp at hb
 exact hT hb.2
theorem InK.infos (h : InK lo w g m i e c k) (hlo : lo ≤ w.heap.size) (hb : Below w.heap.size w w1) {i' : Value} {xs : List InfoV} (h2 : OwnF w.heap.size 89 3 infoCs w1 i' xs) : InK lo (w1.setCell ⟨g, 1, none⟩ i') g m i' e c { k with infos := xs } := by
 obtain ⟨hB, hg, ⟨vs, o1⟩, o2, ⟨ps, o3⟩, o4⟩ := h.below hb
 have hgr := grown_set w1 g 1 i'
 refine ⟨?_, hg, ⟨vs, o1.far hgr hB (by decide) (by decide)⟩, (h2.lower hlo).far hgr hB (by decide), ⟨ps, o3.far hgr hB (by decide) (by decide)⟩, o4.far hgr hB (by decide)⟩
 have := heap_setCell_same w1 g 1 _ 33 i' hB
 simpa using this
theorem InK.cache (h : InK lo w g m i e c k) (hlo : lo ≤ w.heap.size) (hb : Below w.heap.size w w1) {c' : Value} {xs : List CachedV} (h2 : OwnF w.heap.size 94 4 cachedCs w1 c' xs) : InK lo (w1.setCell ⟨g, 3, none⟩ c') g m i e c' { k with cache := xs } := by
 obtain ⟨hB, hg, ⟨vs, o1⟩, o2, ⟨ps, o3⟩, o4⟩ := h.below hb
 have hgr := grown_set w1 g 3 c'
 refine ⟨?_, hg, ⟨vs, o1.far hgr hB (by decide) (by decide)⟩, o2.far hgr hB (by decide), ⟨ps, o3.far hgr hB (by decide) (by decide)⟩, (h2.lower hlo).far hgr hB (by decide)⟩
 have := heap_setCell_same w1 g 3 _ 33 c' hB
 simpa using this
theorem InK.info {gi n cap : Nat} (h : InK lo w g m (.slice (some ⟨gi, 0, none⟩) n cap) e c k) (hn : n = k.infos.length) {f j : Nat} {x y : InfoV} {u : Value} (hk : k.infos[f]? = some x) (hj : j < 3) (hy : infoCs y = (infoCs x).set j u) :
 InK lo (w.setCell ⟨gi, f * 3 + j, none⟩ u) g m (.slice (some ⟨gi, 0, none⟩) n cap) e c { k with infos := k.infos.set f y } ∧ w.grownBy (w.setCell ⟨gi, f * 3 + j, none⟩ u) (some gi) ∧ lo ≤ gi := by
 obtain ⟨hB, hg, ⟨vs, o1⟩, o2, ⟨ps, o3⟩, o4⟩ := h
 subst hn
 have S := OwnF.stored1 infoCs_len o2 hk hj hy
 obtain ⟨cur, hc⟩ := own_type o2 gi rfl
 exact ⟨⟨blk_far hB S.2 hc (by decide), hg, ⟨vs, o1.far S.2 hc (by decide) (by decide)⟩, S.1, ⟨ps, o3.far S.2 hc (by decide) (by decide)⟩, o4.far S.2 hc (by decide)⟩, S.2, (World.ownsRow.lt o2 gi rfl).1⟩
end
theorem OwnRows.turn {lo : Nat} {w w' : World} {v u : Value} {vs : List Value} {m : List (List Int)} {f : Nat} {r : List Int} (h : OwnRows lo w v vs m) (hf : f < m.length) (hu : vs[f]? = some u) (hr : OwnInts lo w' u r) (hg : w.grownBy w' u.ownBlock) : OwnRows lo w' v vs (m.set f r) := by
 obtain ⟨a1, a2, a3⟩ := h
 have hx := a2.2 f u _ hu (List.getElem?_eq_getElem hf)
 refine ⟨own_grown a1 hg (apart_type a1 hx tyRowInt).ne, ⟨by rw [List.length_set]; exact a2.1, fun j y ys hy hys => ?_⟩, a3⟩
 by_cases e : f = j
 ·subst e
  rw [hu] at hy
  cases hy
  rw [List.getElem?_set_self hf] at hys
  cases hys
  exact hr
 ·rw [List.getElem?_set_ne e] at hys
  exact own_grown (a2.2 j y ys hy hys) hg (a3 j f y u (fun h => e h.symm) hy hu).ne
theorem OwnRows.row {lo : Nat} {w : World} {v : Value} {vs : List Value} {m : List (List Int)} (h : OwnRows lo w v vs m) {f : Nat} (hf : f < m.length) (h0 : 0 < (rowAt m f).length) :
 ∃ gw cap, vs[f]? = some (.slice (some ⟨gw, 0, none⟩) (rowAt m f).length cap) ∧ OwnInts lo w (.slice (some ⟨gw, 0, none⟩) (rowAt m f).length cap) (rowAt m f) ∧ lo ≤ gw ∧ gw < w.heap.size := by
 obtain ⟨a1, a2, a3⟩ := h
 obtain ⟨u, hu⟩ : ∃ u, vs[f]? = some u := ⟨_, List.getElem?_eq_getElem (by rw [a2.1]; exact hf)⟩
 have hx := a2.2 f u (rowAt m f) hu (by unfold rowAt; exact getD_lt hf)
 obtain ⟨gw, cap, rfl, h1, h2⟩ := own_shape hx h0
 exact ⟨gw, cap, hu, hx, h1, h2⟩
section
variable {lo g : Nat} {w w1 : World} {m i e c : Value} {k : KernV}
theorem InK.row (h : InK lo w g m i e c k) {vs : List Value} (hv : OwnRows lo w m vs k.mem) {f gw n cap : Nat} {r : List Int} (hf : f < k.mem.length) (hu : vs[f]? = some (.slice (some ⟨gw, 0, none⟩) n cap)) (hr : OwnInts lo w1 (.slice (some ⟨gw, 0, none⟩) n cap) r) (hg : w.grownBy w1 (some gw)) :
 InK lo w1 g m i e c { k with mem := k.mem.set f r } := by
 obtain ⟨hB, hg0, _, o2, ⟨ps, o3⟩, o4⟩ := h
 have hx := hv.2.1.2 f _ _ hu (List.getElem?_eq_getElem hf)
 obtain ⟨cur, hc⟩ := own_type hx gw rfl
 exact ⟨blk_far hB hg hc (by decide), hg0, ⟨vs, hv.turn hf hu hr hg⟩, o2.far hg hc (by decide), ⟨ps, o3.far hg hc (by decide) (by decide)⟩, o4.far hg hc (by decide)⟩
theorem InK.root {ge n cap : Nat} (h : InK lo w g m i (.slice (some ⟨ge, 0, none⟩) n cap) c k) (hn : n = k.envs.length) {j : Nat} (hj : j < k.envs.length) (r : Int) :
 InK lo (w.setCell ⟨ge, j * 2 + 1, none⟩ (.int .i64 r)) g m i (.slice (some ⟨ge, 0, none⟩) n cap) c { k with envs := modAt k.envs j (setRoot r) } ∧ w.grownBy (w.setCell ⟨ge, j * 2 + 1, none⟩ (.int .i64 r)) (some ge) ∧ lo ≤ ge := by
 obtain ⟨hB, hg, ⟨vs, o1⟩, o2, ⟨ps, a1, a2, a3⟩, o4⟩ := h
 have hpl : ps.length = k.envs.length := a2.1
 rw [← hpl] at hn
 subst hn
 have hjp : j < ps.length := by omega
 have S := OwnF.stored1 pairCs_len a1 (k := j) (x := ps[j]) (List.getElem?_eq_getElem hjp) (j := 1) (by decide) (y := (ps[j].1, r)) (u := .int .i64 r) rfl
 obtain ⟨cur, hc⟩ := own_type a1 ge rfl
 refine ⟨⟨blk_far hB S.2 hc (by decide), hg, ⟨vs, o1.far S.2 hc (by decide) (by decide)⟩, o2.far S.2 hc (by decide), ⟨ps.set j (ps[j].1, r), ?_, ⟨?_, ?_⟩, ?_⟩, o4.far S.2 hc (by decide)⟩, S.2, (World.ownsRow.lt a1 ge rfl).1⟩
 ·exact S.1
 ·rw [List.length_set, modAt_len]; exact hpl
 ·intro q p ev hp hev
  rw [modAt_set (d := ⟨[], 0⟩)] at hev
  by_cases e : j = q
  ·subst e
   rw [List.getElem?_set_self hjp] at hp
   rw [List.getElem?_set_self hj] at hev
   cases hp
   cases hev
   have hx := a2.2 j ps[j] (k.envs.getD j ⟨[], 0⟩) (List.getElem?_eq_getElem hjp) (getD_lt hj)
   exact ⟨hx.1.far S.2 hc (by decide), rfl⟩
  ·rw [List.getElem?_set_ne e] at hp hev
   have hx := a2.2 q p ev hp hev
   exact ⟨hx.1.far S.2 hc (by decide), hx.2⟩
 ·rw [List.map_set, show ps[j].1 = (ps.map (·.1))[j]'(by simpa using hjp) by simp, List.set_getElem_self]
  exact a3
theorem InK.rights {ge n cap : Nat} (h : InK lo w g m i (.slice (some ⟨ge, 0, none⟩) n cap) c k) (hn : n = k.envs.length) (hlo : lo ≤ w.heap.size) (hb : Below w.heap.size w w1) {j : Nat} (hj : j < k.envs.length) {u : Value} {ss : List ByteArray} (hu : OwnF w.heap.size 9 1 strCs w1 u ss) :
 InK lo (w1.setCell ⟨ge, j * 2, none⟩ u) g m i (.slice (some ⟨ge, 0, none⟩) n cap) c { k with envs := modAt k.envs j (setRights ss) } ∧ w1.grownBy (w1.setCell ⟨ge, j * 2, none⟩ u) (some ge) ∧ lo ≤ ge := by
 have h' := h.below hb
 obtain ⟨hB0, hg0, _, _, ⟨ps0, b1, b2, b3⟩, _⟩ := h
 obtain ⟨hB, hg, ⟨vs, o1⟩, o2, _, o4⟩ := h'
 have a1 := OwnF.below b1 hb
 have hpl : ps0.length = k.envs.length := b2.1
 rw [← hpl] at hn
 subst hn
 have hjp : j < ps0.length := by omega
 have S := OwnF.stored1 pairCs_len a1 (k := j) (x := ps0[j]) (List.getElem?_eq_getElem hjp) (j := 0) (by decide) (y := (u, ps0[j].2)) (u := u) rfl
 rw [Nat.add_zero] at S
 obtain ⟨cur, hc⟩ := own_type a1 ge rfl
 have hne : 9 ≠ 80 := by decide
 refine ⟨⟨blk_far hB S.2 hc (by decide), hg, ⟨vs, o1.far S.2 hc (by decide) (by decide)⟩, o2.far S.2 hc (by decide), ⟨ps0.set j (u, ps0[j].2), ?_, ⟨?_, ?_⟩, ?_⟩, o4.far S.2 hc (by decide)⟩, S.2, (World.ownsRow.lt a1 ge rfl).1⟩
 ·exact S.1
 ·rw [List.length_set, modAt_len]; exact hpl
 ·intro q p ev hp hev
  rw [modAt_set (d := ⟨[], 0⟩)] at hev
  by_cases e : j = q
  ·subst e
   rw [List.getElem?_set_self hjp] at hp
   rw [List.getElem?_set_self hj] at hev
   cases hp
   cases hev
   have hx := b2.2 j ps0[j] (k.envs.getD j ⟨[], 0⟩) (List.getElem?_eq_getElem hjp) (getD_lt hj)
   exact ⟨(hu.lower hlo).far S.2 hc hne, hx.2⟩
  ·rw [List.getElem?_set_ne e] at hp hev
   have hx := b2.2 q p ev hp hev
   exact ⟨(hx.1.below hb).far S.2 hc hne, hx.2⟩
 ·rw [List.map_set]
  intro x y a b hxy ha hb'
  have far : ∀ (q : Nat) (p : Value × Int), ps0[q]? = some p → Apart p.1 u := fun q p hq => by
   obtain ⟨ev, hev⟩ : ∃ ev, k.envs[q]? = some ev := ⟨_, List.getElem?_eq_getElem (by rw [← hpl]; exact (List.getElem?_eq_some_iff.1 hq).1)⟩
   exact own_apart (B := 0) (b2.2 q p ev hq hev).1 (fun k hk => (hu.lt k hk).1)
  by_cases e1 : j = x
  ·subst e1
   rw [List.getElem?_set_self (by simpa using hjp)] at ha
   cases ha
   rw [List.getElem?_set_ne hxy] at hb'
   rw [List.getElem?_map] at hb'
   obtain ⟨p, hp, rfl⟩ := Option.map_eq_some_iff.1 hb'
   exact (far y p hp).symm
  ·rw [List.getElem?_set_ne e1] at ha
   by_cases e2 : j = y
   ·subst e2
    rw [List.getElem?_set_self (by simpa using hjp)] at hb'
    cases hb'
    rw [List.getElem?_map] at ha
    obtain ⟨p, hp, rfl⟩ := Option.map_eq_some_iff.1 ha
    exact far x p hp
   ·rw [List.getElem?_set_ne e2] at hb'
    exact b3 x y a b hxy ha hb'
end
def AtEnvs (w : World) (a : Option Addr) (es : List EnvV) : Prop := ∀ j, j < es.length → ∃ b off ua uc, a = some ⟨b, off, none⟩ ∧ b < w.heap.size ∧ w.cell? ⟨b, off + j * 2, none⟩ = some (.slice ua (envAt es j).rights.length uc) ∧ w.cell? ⟨b, off + j * 2 + 1, none⟩ = some (.int .i64 (envAt es j).root) ∧ RdStrs w (.slice ua (envAt es j).rights.length uc) (envAt es j).rights
theorem RdEnvs.open {w : World} {v : Value} {es : List EnvV} (h : RdEnvs w v es) : ∃ a cap, v = .slice a es.length cap ∧ es.length ≤ cap ∧ cap ≤ maxLen ∧ AtEnvs w a es := by
 obtain ⟨ps, h1, h2⟩ := h
 obtain ⟨a, cap, rfl, hc, hcm, H⟩ := RdF.open pairCs_len (by decide) h1
 refine ⟨a, cap, by rw [h2.1], by rw [← h2.1]; exact hc, hcm, fun j hj => ?_⟩
 have hp : j < ps.length := by rw [h2.1]; exact hj
 obtain ⟨b, off, rfl, hlt, hcell⟩ := H j _ (List.getElem?_eq_getElem hp)
 have hr := h2.2 j _ (envAt es j) (List.getElem?_eq_getElem hp) (by unfold envAt; exact getD_lt hj)
 obtain ⟨ua, uc, e, _, _⟩ := hr.1.shape
 refine ⟨b, off, ua, uc, rfl, hlt, ?_, ?_, ?_⟩
 ·have := hcell 0 _ rfl
  rw [e] at this
  exact this
 ·have := hcell 1 _ rfl
  rw [hr.2] at this
  exact this
 ·rw [← e]; exact hr.1
theorem AtEnvs.below {w w' : World} {a : Option Addr} {es : List EnvV} (h : AtEnvs w a es) (hb : Below w.heap.size w w') : AtEnvs w' a es := by
 intro j hj
 obtain ⟨b, off, ua, uc, rfl, hlt, h0, h1, h2⟩ := h j hj
 exact ⟨b, off, ua, uc, rfl, Nat.lt_of_lt_of_le hlt hb.size, (hb.cell (p := ⟨b, off + j * 2, none⟩) hlt).trans h0, (hb.cell (p := ⟨b, off + j * 2 + 1, none⟩) hlt).trans h1, RdF.below h2 hb⟩
theorem allowed_mem {infos : List InfoV} {a b : List Nat} {ss : List ByteArray} (h : ∀ g, g ∈ a ↔ g ∈ b) : allowedP infos a ss = allowedP infos b ss := by
 unfold allowedP
 rw [Bool.eq_iff_iff]
 simp only [List.all_eq_true]
 exact ⟨fun H g hg => H g ((h g).2 hg), fun H g hg => H g ((h g).1 hg)⟩
section
variable {k : KernV}
theorem kern_mem (h : memOk k.mem = false) : kernOk k = false := by simp [kernOk, h]
theorem kern_infos (h : infosOk k.infos = false) : kernOk k = false := by simp [kernOk, h]
theorem kern_cache (h : cacheOk k.cache = false) : kernOk k = false := by simp [kernOk, h]
theorem kern_envl (h : k.envs.length ≠ 3) : kernOk k = false := by simp [kernOk, envsOk, h]
theorem kern_env {j : Nat} (hj : j < k.envs.length) (h : envOk k (envAt k.envs j) = false) : kernOk k = false := by
 have : k.envs.all (envOk k) = false := List.all_eq_false.2 ⟨envAt k.envs j, by unfold envAt; exact List.mem_of_getElem? (getD_lt hj), by simp [h]⟩
 simp [kernOk, envsOk, this]
theorem kern_tab {f : Nat} (hf : f < 12) (h : tableOk k f = false) : kernOk k = false := by
 have : (List.range 12).all (tableOk k) = false := List.all_eq_false.2 ⟨f, List.mem_range.2 hf, by simp [h]⟩
 simp [kernOk, this]
theorem kern_ref {f : Nat} (hf : f < 12) (h : refOk k f = false) : kernOk k = false := by
 have : (List.range 12).all (refOk k) = false := List.all_eq_false.2 ⟨f, List.mem_range.2 hf, by simp [h]⟩
 simp [kernOk, this]
theorem kern_trans {j : Nat} (hj : j < k.cache.length) (h : transOk k (cacheAt k.cache j) = false) : kernOk k = false := by
 have : k.cache.all (transOk k) = false := List.all_eq_false.2 ⟨cacheAt k.cache j, by unfold cacheAt; exact List.mem_of_getElem? (getD_lt hj), by simp [h]⟩
 simp [kernOk, this]
theorem kern_yes (h1 : memOk k.mem = true) (h2 : infosOk k.infos = true) (h3 : cacheOk k.cache = true) (h4 : k.envs.length = 3) (h5 : ∀ j, j < 3 → envOk k (envAt k.envs j) = true)
 (h6 : ∀ f, f < 12 → tableOk k f = true ∧ refOk k f = true) (h7 : ∀ j, j < k.cache.length → transOk k (cacheAt k.cache j) = true) : kernOk k = true := by
 have a1 : k.envs.all (envOk k) = true := List.all_eq_true.2 fun x hx => by
  obtain ⟨j, hj, rfl⟩ := List.getElem_of_mem hx
  have := h5 j (by omega)
  unfold envAt at this
  rwa [List.getD_eq_getElem?_getD, List.getElem?_eq_getElem hj] at this
 have a2 : (List.range 12).all (tableOk k) = true := List.all_eq_true.2 fun f hf => (h6 f (List.mem_range.1 hf)).1
 have a3 : (List.range 12).all (refOk k) = true := List.all_eq_true.2 fun f hf => (h6 f (List.mem_range.1 hf)).2
 have a4 : k.cache.all (transOk k) = true := List.all_eq_true.2 fun x hx => by
  obtain ⟨j, hj, rfl⟩ := List.getElem_of_mem hx
  have := h7 j hj
  unfold cacheAt at this
  rwa [List.getD_eq_getElem?_getD, List.getElem?_eq_getElem hj] at this
 simp [kernOk, envsOk, h1, h2, h3, h4, a1, a2, a3, a4]
def refL (k : KernV) (j : Nat) : List Int := (List.range 12).map fun g => (countP k.mem k.infos g : Int) + (rootsP (k.envs.take j) g : Int)
theorem refL_len {j : Nat} : (refL k j).length = 12 := by simp [refL]
theorem refL_nth {j g : Nat} (h : g < 12) : nth (refL k j) g = (countP k.mem k.infos g : Int) + (rootsP (k.envs.take j) g : Int) := by
 unfold refL nth
 rw [List.getD_eq_getElem?_getD, List.getElem?_map, List.getElem?_range h]
 rfl
theorem refL_zero : refL k 0 = (List.range 12).map fun g => (countP k.mem k.infos g : Int) := by
 unfold refL
 rw [List.take_zero]
 simp [rootsP]
theorem roots_take {j g : Nat} (hj : j < k.envs.length) : rootsP (k.envs.take (j + 1)) g = rootsP (k.envs.take j) g + (if (envAt k.envs j).root = (g : Int) then 1 else 0) := by
 have h : k.envs[j]? = some (envAt k.envs j) := by unfold envAt; exact getD_lt hj
 rw [take_one h]
 unfold rootsP
 rw [List.countP_append, List.countP_singleton]
 simp
theorem refL_no {j : Nat} (hj : j < k.envs.length) (h : (envAt k.envs j).root < 0) : refL k (j + 1) = refL k j := by
 unfold refL
 refine List.map_congr_left fun g _ => ?_
 rw [roots_take hj, if_neg (by omega), Nat.add_zero]
theorem refL_yes {j r : Nat} (hj : j < k.envs.length) (h : (envAt k.envs j).root = (r : Int)) (hr : r < 12) : refL k (j + 1) = (refL k j).set r (nth (refL k j) r + 1) := by
 refine eq_of_nth (by simp [refL]) fun g hg => ?_
 rw [refL_len] at hg
 rw [nth_set (by rw [refL_len]; exact hr), refL_nth hg, refL_nth hr, roots_take hj, h]
 by_cases e : g = r
 ·subst e; simp; omega
 ·rw [if_neg e, refL_nth hg, if_neg (by intro h; apply e; omega)]; simp
theorem refL_small (hm : memOk k.mem = true) {j g : Nat} (he : k.envs.length = 3) (hg : g < 12) : 0 ≤ nth (refL k j) g ∧ nth (refL k j) g ≤ 103 := by
 rw [refL_nth hg]
 have h1 : countP k.mem k.infos g ≤ 100 := by
  have := cntTo_le (infos := k.infos) (g := g) hm (Nat.le_refl 12) (Nat.zero_le 4)
  unfold cntTo at this
  unfold countP
  omega
 have h2 : rootsP (k.envs.take j) g ≤ 3 := by
  have := List.countP_le_length (p := fun e : EnvV => decide (e.root = (g : Int))) (l := k.envs.take j)
  rw [List.length_take] at this
  unfold rootsP
  omega
 omega
theorem refL_ref (he : k.envs.length = 3) {f : Nat} (hf : f < 12) : refOk k f = decide ((infoAt k.infos f).r = nth (refL k 3) f) := by
 rw [refL_nth hf, List.take_of_length_le (by omega)]
 rfl
end
def ReachIn (lo : Nat) (m : List (List Int)) (root : Int) (w : World) (v : Value) : Prop := ∃ ts, OwnInts lo w v (ints ts) ∧ ∀ g, g ∈ ts ↔ g ∈ reachL m root
theorem ReachIn.below {lo : Nat} {m : List (List Int)} {root : Int} {w w' : World} {v : Value} (h : ReachIn lo m root w v) (hb : Below w.heap.size w w') : ReachIn lo m root w' v := by
 obtain ⟨ts, h1, h2⟩ := h
 exact ⟨ts, OwnInts.below h1 hb, h2⟩
theorem reach_lt {m : List (List Int)} {root : Int} (hr : root < 12) : ∀ g ∈ reachL m root, g < 12 := by
 intro g hg
 obtain ⟨h0, h⟩ := reach_mem.1 hg
 have hn : ∀ t : Nat, ∀ x ∈ named (rowAt m t), x < 12 := fun t x hx => by
  unfold named at hx
  obtain ⟨y, hy, rfl⟩ := List.mem_map.1 hx
  exact entF_lt (List.mem_filter.1 hy).2
 rcases h with rfl | h | ⟨t, _, h⟩
 ·omega
 ·exact hn _ _ h
 ·exact hn _ _ h
def CallV.onCells (g : Nat) (c : CallV) : Array Value := #[.pointer (some ⟨g, 0, none⟩), .int .i64 c.k, .int .i64 c.e, .int .i64 c.a, .int .i64 c.b, .int .i64 c.c, .string c.nm]
def CallV.on (g : Nat) (c : CallV) : Value := .agg (c.onCells g)
theorem on_cells {w : World} {b g : Nat} {c : CallV} {T : Nat} (h : w.heap[b]? = some (.cells (c.onCells g) T (0, 0))) : w.cell? ⟨b, 0, none⟩ = some (.pointer (some ⟨g, 0, none⟩)) ∧ w.cell? ⟨b, 1, none⟩ = some (.int .i64 c.k) ∧ w.cell? ⟨b, 2, none⟩ = some (.int .i64 c.e) ∧ w.cell? ⟨b, 3, none⟩ = some (.int .i64 c.a) ∧ w.cell? ⟨b, 4, none⟩ = some (.int .i64 c.b) ∧ w.cell? ⟨b, 5, none⟩ = some (.int .i64 c.c) ∧ w.cell? ⟨b, 6, none⟩ = some (.string c.nm) :=
 ⟨cell_of_row _ _ 0 _ _ _ h, cell_of_row _ _ 1 _ _ _ h, cell_of_row _ _ 2 _ _ _ h, cell_of_row _ _ 3 _ _ _ h, cell_of_row _ _ 4 _ _ _ h, cell_of_row _ _ 5 _ _ _ h, cell_of_row _ _ 6 _ _ _ h⟩
theorem InK.env {lo g : Nat} {w : World} {m i e c : Value} {k : KernV} (h : InK lo w g m i e c k) {j : Nat} (hj : j < k.envs.length) :
 ∃ ge cap ua uc, e = .slice (some ⟨ge, 0, none⟩) k.envs.length cap ∧ ge < w.heap.size ∧ w.cell? ⟨ge, j * 2, none⟩ = some (.slice ua (envAt k.envs j).rights.length uc) ∧ w.cell? ⟨ge, j * 2 + 1, none⟩ = some (.int .i64 (envAt k.envs j).root) ∧ RdStrs w (.slice ua (envAt k.envs j).rights.length uc) (envAt k.envs j).rights ∧ ∀ q, w.frozen? ⟨ge, q, none⟩ = false := by
 have hr := h.2.2.rd.2.2.1
 obtain ⟨ps, o⟩ := h.2.2.2.2.1
 have hpl : ps.length = k.envs.length := o.2.1.1
 obtain ⟨ge, cap, rfl, _, hlt⟩ := own_shape o.1 (by omega)
 obtain ⟨a, cp, hv, _, _, H⟩ := RdEnvs.open hr
 simp only [Value.slice.injEq] at hv
 obtain ⟨rfl, _, rfl⟩ := hv
 obtain ⟨b, off, ua, uc, hab, _, h0, h1, h2⟩ := H j hj
 cases hab
 rw [Nat.zero_add] at h0 h1
 exact ⟨ge, cap, ua, uc, by rw [hpl], hlt, h0, h1, h2, fun q => World.ownsRow.frozenAt o.1 q⟩
set_option maxHeartbeats 1000000 in
theorem env_any (g ge n cap en : Nat) (c : CallV) (w : World) (h2 : w.cell? ⟨g, 2, none⟩ = some (.slice (some ⟨ge, 0, none⟩) n cap)) (he : c.e = (en : Int)) (hn : en < n) :
 Calls Tryz.prog 222 #[c.on g] w fun e w' => e = .returned (.pointer (some ⟨ge, en * 2, none⟩)) ∧ Below w.heap.size w w' := by
 obtain ⟨k, e, a, b, cc, nm⟩ := c
 simp only at he
 subst he
 simp only [CallV.on, CallV.onCells]
 have N := heap_alloc_new w (.cells #[.pointer (some ⟨g, 0, none⟩), .int .i64 k, .int .i64 (en : Int), .int .i64 a, .int .i64 b, .int .i64 cc, .string nm] 150)
 have hb := below1 w (.cells #[.pointer (some ⟨g, 0, none⟩), .int .i64 k, .int .i64 (en : Int), .int .i64 a, .int .i64 b, .int .i64 cc, .string nm] 150)
 have x2 := (hb.cell (p := ⟨g, 2, none⟩) (World.block_lt_of_cell? w _ h2)).trans h2
 have hni : (en : Int) < n := by omega
 go_enter Tryz.func222, Tryz.ntmps222
 go_wp2_with fail
 generalize w.alloc _ = W0 at *
 have y0 := cell_regrown (cell_of_row _ _ 0 _ _ _ N)
 have y2 := cell_regrown (cell_of_row _ _ 2 _ _ _ N)
 have k2 := cell_regrown x2
 clear N x2 h2
 refine wp_region_quiet_below Tryz.mixed (by kernel_rfl) ?_
 repeat (go_big_quiet_step (fail))
 refine wpQuiet_nil ?_
 intro _ hw'
 obtain ⟨⟨dq, osq⟩, hw''⟩ := hw'
 subst hw''
 have bq := below_regrown W0 dq osq
 generalize Sort.grow (redrawn W0 dq) osq = wq at bq
 go_wp2_with fail
 go_ret
 exact ⟨rfl, hb.trans (bq.mono hb.size)⟩
set_option maxHeartbeats 1000000 in
theorem may_c {lo g : Nat} {w : World} {m i e c : Value} {k : KernV} (h : InK lo w g m i e c k) (call : CallV) (nm : ByteArray) (he : 0 ≤ call.e) (hn : call.e < k.envs.length) :
 Calls Tryz.prog 175 #[call.on g, .string nm] w fun r w' => r = .returned (.bool (mayE k call.e nm)) ∧ Below w.heap.size w w' := by
 obtain ⟨en, hen⟩ : ∃ n : Nat, call.e = (n : Int) := ⟨call.e.toNat, by omega⟩
 obtain ⟨ge, cap, ua, uc, rfl, hge, D0, _, R, _⟩ := h.env (j := en) (by omega)
 have N := heap_alloc_new w (.cells (call.onCells g) 150)
 have hb := below1 w (.cells (call.onCells g) 150)
 have CE := Lib.hid (fun W (hW : Below w.heap.size w W) => env_any g ge k.envs.length cap en call W ((hW.cell (p := ⟨g, 2, none⟩) (blk_lt h.1)).trans h.cells.2.2.1) hen (by omega))
 have CM := Lib.hid (fun W (hW : Below w.heap.size w W) => may_any _ (envAt k.envs en).rights nm W (RdF.below R hW))
 have S := Lib.hid (show mayP (envAt k.envs en).rights nm = mayE k call.e nm by unfold mayE; rw [hen]; rfl)
 have HD := Lib.hid D0
 clear h R D0 hen he hn
 obtain ⟨k1, e1, a1, b1, c1, nm1⟩ := call
 simp only [CallV.on, CallV.onCells] at N hb CE ⊢
 obtain ⟨y0, y1, y2, y3, y4, y5, y6⟩ := on_cells (c := ⟨k1, e1, a1, b1, c1, nm1⟩) N
 go_enter Tryz.func175, Tryz.ntmps175
 go_wp2_with fail
 refine (CE.out _ hb).mono ?_; rintro e w2 ⟨rfl, hb2⟩
 replace hb2 := hb.trans (hb2.mono hb.size)
 have D := (hb2.cell (p := ⟨ge, en * 2, none⟩) hge).trans HD.out
 clear y0 y1 y2 y3 y4 y5 y6 N hb
 go_wp2_with fail
 refine (CM.out _ hb2).mono ?_; rintro e w3 ⟨rfl, hb3⟩
 go_wp2_with fail
 go_ret
 exact ⟨ret_bool S.out, hb2.trans (hb3.mono hb2.size)⟩
def SmallR (xs : List InfoV) (b : Int) : Prop := ∀ f, f < xs.length → -b ≤ (infoAt xs f).r ∧ (infoAt xs f).r ≤ b
theorem InK.infoAt' {lo g : Nat} {w : World} {m i e c : Value} {k : KernV} (h : InK lo w g m i e c k) {f : Nat} (hf : f < k.infos.length) :
 ∃ gi cap, i = .slice (some ⟨gi, 0, none⟩) k.infos.length cap ∧ gi < w.heap.size ∧ lo ≤ gi ∧ w.cell? ⟨gi, f * 3, none⟩ = some (.int .i64 (infoAt k.infos f).k) ∧ w.cell? ⟨gi, f * 3 + 1, none⟩ = some (.string (infoAt k.infos f).g) ∧ w.cell? ⟨gi, f * 3 + 2, none⟩ = some (.int .i64 (infoAt k.infos f).r) ∧ ∀ q, w.frozen? ⟨gi, q, none⟩ = false := by
 have o := h.2.2.2.1
 obtain ⟨gi, cap, rfl, _, _, hlo, hlt, hfz⟩ := o.shapeOwn (by omega)
 obtain ⟨d0, d1, d2⟩ := OwnF.infoCells o hf
 exact ⟨gi, cap, rfl, hlt, hlo, d0, d1, d2, hfz⟩
set_option maxRecDepth 100000 in
set_option maxHeartbeats 2000000 in
theorem InfosGive_yes (v : Value) (xs : List InfoV) (f : Nat) (w : World) (h : RdInfos w v xs) (hok : infosOk xs = true) (hf : f < 12) (hk : (infoAt xs f).k = 1) (hr : (infoAt xs f).r = 0) :
 Calls Tryz.prog 223 #[v, .int .i64 (f : Int)] w fun e w' => ∃ v', e = .returned (.tuple #[v', .bool true]) ∧ OwnF w.heap.size 89 3 infoCs w' v' (xs.set f InfoV.zero) ∧ Below w.heap.size w w' := by
 have hl := (infosOk_iff.1 hok).1
 have C1 := Lib.hid (fun W (hW : Below w.heap.size w W) => by have := InfosValid_impl v xs W (RdF.below h hW) (small_infos hok); rw [hok] at this; exact this)
 have C2 := Lib.hid (fun W (_ : Below w.heap.size w W) => same_below (by have := isFrame_any (f : Int) W; rw [show inB (f : Int) 0 11 = true from inB_iff.2 (by omega)] at this; exact this))
 have C3 := Lib.hid (fun W (hW : Below w.heap.size w W) => CloneInfo_any v xs W (RdF.below h hW) (by omega))
 obtain ⟨ai, ci, rfl, hci, hcim, H2⟩ := RdF.open infoCs_len (by decide) h
 obtain ⟨bi, offi, rfl, hbi, D0, _, D2⟩ := H2.infoCells (show f < xs.length by omega)
 have hfl : (f : Int) < xs.length := by omega
 have t1 : ((infoAt xs f).k != 1) = false := by simp [hk]
 have t2 : ((infoAt xs f).r != 0) = false := by simp [hr]
 have Hl := Lib.hid hl
 have hb := Below.refl w.heap.size w
 clear h hok hk hr H2 hl
 go_enter Tryz.func223, Tryz.ntmps223
 go_wp2_with fail
 refine (C1.out _ hb).mono ?_; rintro e w_ ⟨rfl, hb_⟩
 replace hb := hb.trans (hb_.mono hb.size); clear hb_
 go_wp2_with fail
 refine (C2.out _ hb).mono ?_; rintro e w_ ⟨rfl, hb_⟩
 replace hb := hb.trans (hb_.mono hb.size); clear hb_
 replace D0 := (hb.cell (p := ⟨bi, offi + f * 3, none⟩) hbi).trans D0
 replace D2 := (hb.cell (p := ⟨bi, offi + f * 3 + 2, none⟩) hbi).trans D2
 go_wp2_with fail
 clear D0 D2
 refine (C3.out _ hb).mono ?_; rintro e w4 ⟨v', rfl, hO, hb4⟩
 obtain ⟨q, cap, rfl, c1, c2, q1, q2, hfz⟩ := hO.shapeOwn (by have := Hl.out; omega)
 unfold maxLen at c2
 have hS := Lib.hid (OwnF.stored infoCs_len hO (show f < xs.length by have := Hl.out; omega) InfoV.zero)
 obtain ⟨d0, d1, d2⟩ := OwnF.infoCells hO (show f < xs.length by have := Hl.out; omega)
 have hB := Lib.hid (below_grown (hb.trans (hb4.mono hb.size)) hS.out.2 (Nat.le_trans hb.size q1) (hb.trans (hb4.mono hb.size)).size)
 have hlo := hb.size
 clear hO hb4 hb t1 t2
 go_wp2_with fail
 go_ret2
 exact ⟨_, rfl, hS.out.1.lower hlo, hB.out⟩
set_option maxRecDepth 100000 in
set_option maxHeartbeats 2000000 in
theorem InfosGive_no (v : Value) (xs : List InfoV) (f : Nat) (w : World) (h : RdInfos w v xs) (hok : infosOk xs = true) (hf : f < 12) (hk : (infoAt xs f).k = 1) (hr : (infoAt xs f).r ≠ 0) :
 Calls Tryz.prog 223 #[v, .int .i64 (f : Int)] w fun e w' => e = .returned (.tuple #[.slice none 0 0, .bool false]) ∧ Below w.heap.size w w' := by
 have hl := (infosOk_iff.1 hok).1
 have C1 := Lib.hid (fun W (hW : Below w.heap.size w W) => by have := InfosValid_impl v xs W (RdF.below h hW) (small_infos hok); rw [hok] at this; exact this)
 have C2 := Lib.hid (fun W (_ : Below w.heap.size w W) => same_below (by have := isFrame_any (f : Int) W; rw [show inB (f : Int) 0 11 = true from inB_iff.2 (by omega)] at this; exact this))
 obtain ⟨ai, ci, rfl, hci, hcim, H2⟩ := RdF.open infoCs_len (by decide) h
 obtain ⟨bi, offi, rfl, hbi, D0, _, D2⟩ := H2.infoCells (show f < xs.length by omega)
 have hfl : (f : Int) < xs.length := by omega
 have t1 : ((infoAt xs f).k != 1) = false := by simp [hk]
 have t2 : ((infoAt xs f).r != 0) = true := by simp [hr]
 have hb := Below.refl w.heap.size w
 clear h hok hk hr H2 hl
 go_enter Tryz.func223, Tryz.ntmps223
 go_wp2_with fail
 refine (C1.out _ hb).mono ?_; rintro e w_ ⟨rfl, hb_⟩
 replace hb := hb.trans (hb_.mono hb.size); clear hb_
 go_wp2_with fail
 refine (C2.out _ hb).mono ?_; rintro e w_ ⟨rfl, hb_⟩
 replace hb := hb.trans (hb_.mono hb.size); clear hb_
 replace D0 := (hb.cell (p := ⟨bi, offi + f * 3, none⟩) hbi).trans D0
 replace D2 := (hb.cell (p := ⟨bi, offi + f * 3 + 2, none⟩) hbi).trans D2
 go_wp2_with fail
 go_ret2
 exact ⟨rfl, hb⟩
def Ends2 (lo g : Nat) (w : World) (res : Res) (r : Ending) (w' : World) : Prop := r = .returned (.tuple #[.int .i64 res.2.1, .int .i64 res.2.2]) ∧ (res.2.2 = 0 → ∃ m i e c, InK lo w' g m i e c res.1) ∧ Below lo w w'
def Ends1 (lo g : Nat) (w : World) (res : Res) (r : Ending) (w' : World) : Prop := r = .returned (.int .i64 res.2.2) ∧ (res.2.2 = 0 → ∃ m i e c, InK lo w' g m i e c res.1) ∧ Below lo w w'
theorem Ends2.bad {lo g : Nat} {w w' : World} {k : KernV} {n : Int} {res : Res} (h : res = (k, 0, n)) (hn : n ≠ 0) (hb : Below lo w w') : Ends2 lo g w res (.returned (.tuple #[.int .i64 0, .int .i64 n])) w' := by subst h; exact ⟨rfl, fun h => absurd h hn, hb⟩
theorem Ends1.bad {lo g : Nat} {w w' : World} {k : KernV} {n : Int} {res : Res} (h : res = (k, 0, n)) (hn : n ≠ 0) (hb : Below lo w w') : Ends1 lo g w res (.returned (.int .i64 n)) w' := by subst h; exact ⟨rfl, fun h => absurd h hn, hb⟩
theorem kok_parts {k : KernV} (h : KOk k) : memOk k.mem = true ∧ infosOk k.infos = true ∧ cacheOk k.cache = true := by
 have := kernOk_iff.2 h
 unfold kernOk at this
 simp only [Bool.and_eq_true] at this
 exact ⟨this.1.1.1.1.1.1, this.1.1.1.1.1.2, this.1.1.1.1.2⟩
theorem run_clear4 {lo g cap : Nat} {w : World} {r : List Int} (h : OwnInts lo w (.slice (some ⟨g, 0, none⟩) 4 cap) r) (hl : r.length = 4) :
 ∃ w', (∀ ty, (Builtin.clear_ #[38] ty #[.slice (some ⟨g, 0, none⟩) 4 cap]).run Tryz.prog w = .ok (.tuple #[]) w') ∧ OwnInts lo w' (.slice (some ⟨g, 0, none⟩) 4 cap) [0, 0, 0, 0] ∧ w.grownBy w' (some g) := by
 have h4 : w.ownsRow lo 3 1 (.slice (some ⟨g, 0, none⟩) 4 cap) 4 (r.map (Value.int .i64)) := by have := h; unfold OwnInts at this; rwa [hl] at this
 have ez : (Builtin.zeroCells (Value.int .i64 0).cells 4).toList = [.int .i64 0, .int .i64 0, .int .i64 0, .int .i64 0] := by kernel_rfl
 have hst := run_storeCells_cells (P := Tryz.prog) g 0 (Builtin.zeroCells (Value.int .i64 0).cells 4).toList 0 w (by
  intro j hj
  have hj4 : j < 4 := by rw [ez] at hj; exact hj
  have := World.ownsRow.cellAt h4 j (by omega)
  simp only [Nat.zero_add] at this ⊢
  rw [this]
  simp; omega) (by intro j _; exact World.ownsRow.frozenAt h4 _) (by
  intro u hu
  rw [ez] at hu
  have : u = .int .i64 0 := by simpa using hu
  subst this
  rfl)
 simp only [Nat.add_zero] at hst
 have e0 := setCells_many g 0 (Builtin.zeroCells (Value.int .i64 0).cells 4).toList 0 w
 rw [Nat.add_zero] at e0
 refine ⟨w.setCells g 0 (Builtin.zeroCells (Value.int .i64 0).cells 4).toList, fun ty => ?_, ?_, ?_⟩
 ·simp [Builtin.clear_, run_underlying Tryz.underlying38, hst]
 ·rw [e0]
  obtain ⟨a1, _⟩ := setMany_own h4 0 0 (Builtin.zeroCells (Value.int .i64 0).cells 4).toList
  have e : setList (r.map (Value.int .i64)) 0 0 (Builtin.zeroCells (Value.int .i64 0).cells 4).toList = [0, 0, 0, 0].map (Value.int .i64) := by
   rw [ez]
   match r, hl with
   | [a, b, c, d], _ => rfl
  rw [e] at a1
  exact a1
 ·rw [e0]
  exact (setMany_own h4 0 0 (Builtin.zeroCells (Value.int .i64 0).cells 4).toList).2
theorem InK.memRow {lo g : Nat} {w : World} {m i e c : Value} {k : KernV} (h : InK lo w g m i e c k) (hok : memOk k.mem = true) {f : Nat} (hf : f < 12) :
 ∃ gm capm gw capw vs, m = .slice (some ⟨gm, 0, none⟩) 12 capm ∧ gm < w.heap.size ∧ gm ≠ g ∧ w.cell? ⟨gm, f, none⟩ = some (.slice (some ⟨gw, 0, none⟩) 4 capw) ∧ gw < w.heap.size ∧ lo ≤ gw ∧ gw ≠ g ∧ gw ≠ gm ∧ OwnRows lo w m vs k.mem ∧ vs[f]? = some (.slice (some ⟨gw, 0, none⟩) 4 capw) ∧ OwnInts lo w (.slice (some ⟨gw, 0, none⟩) 4 capw) (rowAt k.mem f) := by
 obtain ⟨vs, o⟩ := h.2.2.1
 obtain ⟨hml, hr⟩ := memOk_iff.1 hok
 have h4 := (rowOk_iff.1 (hr f hf)).1
 have hvl : vs.length = 12 := by rw [o.2.1.1, hml]
 obtain ⟨gm, capm, rfl, _, _, _, hgm, _⟩ := o.1.shapeOwn (by omega)
 obtain ⟨gw, capw, hu, hx, hlo, hlt⟩ := o.row (f := f) (by omega) (by omega)
 rw [h4] at hu hx
 have D := OwnF.cellsAt oneCs_len o.1 hu 0 _ rfl
 rw [Nat.mul_one, Nat.add_zero] at D
 have n1 : gm ≠ g := fun e => own_row_ne o.1 h.1 (by decide) (by rw [e]; rfl)
 have n2 : gw ≠ g := fun e => own_row_ne hx h.1 (by decide) (by rw [e]; rfl)
 have n3 : gw ≠ gm := fun e => by
  have := apart_type hx o.1 (Ne.symm tyRowInt) gw rfl
  apply this
  rw [e]; rfl
 rw [hvl] at *
 exact ⟨gm, capm, gw, capw, vs, rfl, hgm, n1, D, hlt, hlo, n2, n3, o, hu, hx⟩
set_option maxRecDepth 100000 in
set_option maxHeartbeats 4000000 in
theorem takeC_any {lo g : Nat} {w : World} {m i e c : Value} {k : KernV} (h : InK lo w g m i e c k) (hlo : lo ≤ w.heap.size) (hK : KOk k) (call : CallV) (he : 0 ≤ call.e) (hn : call.e < 3) (hnm : call.nm.size ≤ maxLen) :
 Calls Tryz.prog 174 #[call.on g] w (Ends2 lo g w (takeP k call)) := by
 have N := heap_alloc_new w (.cells (call.onCells g) 150)
 have hb0 := below1 w (.cells (call.onCells g) 150)
 obtain ⟨hm, hi, hc⟩ := kok_parts hK
 have C1 := Lib.hid (fun W (_ : Below w.heap.size w W) => RightValid_impl call.nm W hnm)
 have C2 := Lib.hid (fun W (hW : Below w.heap.size w W) => may_c (h.below hW) call call.nm he (by rw [hK.envl]; exact hn))
 have P : takeP k call = if rightOk call.nm = false then (k, 0, 3) else if mayE k call.e call.nm = false then (k, 0, 1) else if freeP k.infos < 0 then (k, 0, 4) else ({ k with infos := k.infos.set (freeP k.infos).toNat ⟨1, call.nm, 0⟩, mem := k.mem.set (freeP k.infos).toNat [0, 0, 0, 0] }, freeP k.infos, 0) := rfl
 obtain ⟨k1, e1, a1, b1, c1, nm⟩ := call
 simp only [CallV.on, CallV.onCells] at N hb0 C1 C2 P hnm ⊢
 obtain ⟨y0, y1, y2, y3, y4, y5, y6⟩ := on_cells (c := ⟨k1, e1, a1, b1, c1, nm⟩) N
 have hl := blk_lt N
 have HN := Lib.hid N
 have HP := Lib.hid P
 have Hm := Lib.hid hm
 have Hi := Lib.hid hi
 have HK := Lib.hid hK
 have HI := Lib.hid h
 clear P hm hi hc hK h N y0 y1 y2 y3 y4 y5
 go_enter Tryz.func174, Tryz.ntmps174
 go_wp2_with fail
 generalize hW0 : w.alloc _ = W0 at *
 clear hW0
 cases e5 : rightOk nm
 ·have T := Lib.hid e5
  have E := Lib.hid (show takeP k ⟨k1, e1, a1, b1, c1, nm⟩ = (k, 0, 3) by rw [HP.out, e5]; rfl)
  clear e5 y6
  refine (C1.out _ hb0).mono ?_; rintro r w1 ⟨rfl, hb1⟩; rw [T.out]
  have hbw := hb0.trans (hb1.mono hb0.size)
  go_wp2_with fail
  go_ret2
  exact Ends2.bad E.out (by decide) (hbw.mono hlo)
 ·have T := Lib.hid e5
  have HP2 := Lib.hid (show takeP k ⟨k1, e1, a1, b1, c1, nm⟩ = _ by rw [HP.out, e5, if_neg (by decide)])
  clear e5 y6
  refine (C1.out _ hb0).mono ?_; rintro r w1 ⟨rfl, hbW⟩; rw [T.out]
  have hbw := hb0.trans (hbW.mono hb0.size)
  obtain ⟨y0, y1, y2, y3, y4, y5, y6⟩ := on_cells (c := ⟨k1, e1, a1, b1, c1, nm⟩) (blk_below HN.out hbW)
  go_wp2_with fail
  clear y0 y1 y2 y3 y4 y5 y6
  cases e6 : mayE k e1 nm
  ·have T6 := Lib.hid e6
   have E := Lib.hid (show takeP k ⟨k1, e1, a1, b1, c1, nm⟩ = (k, 0, 1) by rw [HP2.out, e6]; rfl)
   clear e6
   refine (C2.out _ hbw).mono ?_; rintro r w2 ⟨rfl, hb2⟩; rw [T6.out]
   replace hbw := hbw.trans (hb2.mono hbw.size)
   go_wp2_with fail
   go_ret2
   exact Ends2.bad E.out (by decide) (hbw.mono hlo)
  ·have T6 := Lib.hid e6
   have HP3 := Lib.hid (show takeP k ⟨k1, e1, a1, b1, c1, nm⟩ = _ by rw [HP2.out, e6, if_neg (by decide)])
   clear e6
   refine (C2.out _ hbw).mono ?_; rintro r W2 ⟨rfl, hb2⟩; rw [T6.out]
   replace hbW := hbW.trans (hb2.mono hbW.size)
   replace hbw := hbw.trans (hb2.mono hbw.size)
   have h2 := HI.out.below hbw
   have hI2 := Lib.hid h2
   have hlo2 := Nat.le_trans hlo hbw.size
   obtain ⟨y0, y1, y2, y3, y4, y5, y6⟩ := on_cells (c := ⟨k1, e1, a1, b1, c1, nm⟩) (blk_below HN.out hbW)
   have hl2 := Nat.lt_of_lt_of_le hl hbW.size
   have hgl2 := blk_lt h2.1
   have hgb : g ≠ w.heap.size := Nat.ne_of_lt (blk_lt HI.out.1)
   obtain ⟨gi, capi, rfl, _, _, _, _, _, hfzi⟩ := h2.infoAt' (f := 0) (by have := (infosOk_iff.1 Hi.out).1; omega)
   have x1 := h2.cells.2.1
   have RI : RdInfos W2 (.slice (some ⟨gi, 0, none⟩) k.infos.length capi) k.infos := h2.2.2.2.1.rd
   clear h2 hb2 y1 y2 y3 y4 y5 hfzi
   go_wp2_with fail
   by_cases e7 : freeP k.infos < 0
   ·have E := Lib.hid (show takeP k ⟨k1, e1, a1, b1, c1, nm⟩ = (k, 0, 4) by rw [HP3.out, if_pos e7])
    have C3 := Lib.hid (fun W (hW : Below W2.heap.size W2 W) => InfosTake_none _ k.infos nm W (RdF.below RI hW) (small_infos Hi.out) hnm Hi.out T.out e7)
    clear e7 RI
    refine wp_region_grow 15 Tryz.mixed (by kernel_rfl) 49 rfl (by kernel_rfl) (fun ix vv ww => match ix with
     | 0 => vv = .pointer (some ⟨w.heap.size, 0, none⟩)
     | 1 => vv = .pointer (some ⟨g, 0, none⟩)
     | 2 => vv = .pointer (some ⟨g, 0, none⟩)
     | 3 => vv = .pointer (some ⟨g, 1, none⟩)
     | 4 => vv = .slice (some ⟨gi, 0, none⟩) k.infos.length capi
     | 5 => vv = .pointer (some ⟨w.heap.size, 1, none⟩)
     | 6 => vv = .pointer (some ⟨w.heap.size, 6, none⟩)
     | 7 => vv = .string nm
     | 8 => vv = .tuple #[.slice none 0 0, .int .i64 0, .bool false]
     | 9 => vv = .tuple #[.slice none 0 0, .int .i64 0, .bool false]
     | 10 => vv = .slice none 0 0
     | 11 => vv = .int .i64 0
     | 12 => vv = .bool false
     | 13 => vv = .slice none 0 0
     | 14 => vv = .int .i64 0
     | _ => True) ?_ ?_ ?_
    ·intro i hi vv wz ww' hbz hz
     match i, hi with
     | 0, _ | 1, _ | 2, _ | 3, _ | 4, _ | 5, _ | 6, _ | 7, _ | 8, _ | 9, _ | 10, _ | 11, _ | 12, _ | 13, _ | 14, _ => exact hz
     | _ + 15, hq => exact absurd hq (by omega)
    ·intro i hi o ho a wx Hb Hd hG K HK
     match i, hi with
     | 0, _ => exact dF ho rfl (gn rfl) HK rfl fA150_0 (eb (Hb.out.2.2 1 (by decide))) rfl
     | 1, _ => exact dL ho rfl (gn rfl) HK rfl (et (Hd.out 0 (by kernel_rfl))) (lA148 (bc hG hl2 y0)) rfl
     | 2, _ => exact dC ho rfl (gn rfl) HK rfl (et (Hd.out 1 (by kernel_rfl))) rfl
     | 3, _ => exact dF ho rfl (gn rfl) HK rfl fA33_1 (et (Hd.out 2 (by kernel_rfl))) rfl
     | 4, _ => exact dL ho rfl (gn rfl) HK rfl (et (Hd.out 3 (by kernel_rfl))) (lA29 (bc hG hgl2 x1)) rfl
     | 5, _ => exact dF ho rfl (gn rfl) HK rfl fA150_1 (eb (Hb.out.2.2 1 (by decide))) rfl
     | 6, _ => exact dF ho rfl (gn rfl) HK rfl fA60_5 (et (Hd.out 5 (by kernel_rfl))) rfl
     | 7, _ => exact dL ho rfl (gn rfl) HK rfl (et (Hd.out 6 (by kernel_rfl))) (lA9 (bc hG hl2 y6)) rfl
     | 8, _ =>
      obtain rfl := Option.some.inj ho
      have d4 : (a.tmps[25]?.getD undef) = .slice (some ⟨gi, 0, none⟩) k.infos.length capi := Hd.out 4 (by kernel_rfl)
      have d7 : (a.tmps[28]?.getD undef) = .string nm := Hd.out 7 (by kernel_rfl)
      clear Hd Hb
      refine Does.of rfl ?_
      go_simp
      refine (C3.out _ hG).mono ?_; rintro e w_ ⟨rfl, hb2⟩
      exact HK.out _ _ rfl hb2
     | 9, _ => exact dM ho rfl (gn rfl) HK rfl (et (Hd.out 8 (by kernel_rfl))) rfl
     | 10, _ =>
      obtain rfl := Option.some.inj ho
      have d9 : (a.tmps[20]?.getD undef) = .tuple #[.slice none 0 0, .int .i64 0, .bool false] := Hd.out 9 (by kernel_rfl)
      clear Hd Hb
      refine Does.of rfl ?_
      go_simp
      exact HK.out _ _ rfl (Below.refl _ _)
     | 11, _ =>
      obtain rfl := Option.some.inj ho
      have d9 : (a.tmps[20]?.getD undef) = .tuple #[.slice none 0 0, .int .i64 0, .bool false] := Hd.out 9 (by kernel_rfl)
      clear Hd Hb
      refine Does.of rfl ?_
      go_simp
      exact HK.out _ _ rfl (Below.refl _ _)
     | 12, _ =>
      obtain rfl := Option.some.inj ho
      have d9 : (a.tmps[20]?.getD undef) = .tuple #[.slice none 0 0, .int .i64 0, .bool false] := Hd.out 9 (by kernel_rfl)
      clear Hd Hb
      refine Does.of rfl ?_
      go_simp
      exact HK.out _ _ rfl (Below.refl _ _)
     | 13, _ => exact dA ho rfl (gn rfl) HK rfl (et (Hd.out 10 (by kernel_rfl))) rfl
     | 14, _ => exact dA ho rfl (gn rfl) HK rfl (et (Hd.out 11 (by kernel_rfl))) rfl
     | _ + 15, hq => exact absurd hq (by omega)
    ·intro vs wx hR hG
     have q12 : (vs 12) = .bool false := hR 12 (by decide)
     have q13 : (vs 13) = .slice none 0 0 := hR 13 (by decide)
     have q14 : (vs 14) = .int .i64 0 := hR 14 (by decide)
     clear hR
     simp only [fillAt, dstOf, List.range, List.range.loop, List.foldl_cons, List.foldl_nil, q12, q13, q14]
     simp
     clear q12 q13 q14
     replace hbw := hbw.trans (hG.mono hbw.size)
     clear hG y0 y6 x1
     go_wp2_with fail
     go_ret2
     exact Ends2.bad E.out (by decide) (hbw.mono hlo)
   ·obtain ⟨f1, f2, f3⟩ := freeP_some e7
    obtain ⟨f, hf⟩ : ∃ f : Nat, freeP k.infos = (f : Int) := ⟨(freeP k.infos).toNat, by omega⟩
    have E := Lib.hid (show takeP k ⟨k1, e1, a1, b1, c1, nm⟩ = ({ k with infos := k.infos.set f ⟨1, nm, 0⟩, mem := k.mem.set f [0, 0, 0, 0] }, (f : Int), 0) by rw [HP3.out, if_neg e7, hf]; rfl)
    have C30 := fun W (hW : Below W2.heap.size W2 W) => InfosTake_some _ k.infos nm W (RdF.below RI hW) (small_infos Hi.out) hnm Hi.out T.out f3
    unfold takenInfos at C30
    rw [hf] at C30 f1
    simp only [Int.toNat_natCast] at C30 f1
    have C3 := Lib.hid C30
    have hf12 : f < 12 := by have := (infosOk_iff.1 Hi.out).1; omega
    clear e7 RI C30 f2 f3 hf f1
    refine wp_region_grow 15 Tryz.mixed (by kernel_rfl) 49 rfl (by kernel_rfl) (fun ix vv ww => match ix with
     | 0 => vv = .pointer (some ⟨w.heap.size, 0, none⟩)
     | 1 => vv = .pointer (some ⟨g, 0, none⟩)
     | 2 => vv = .pointer (some ⟨g, 0, none⟩)
     | 3 => vv = .pointer (some ⟨g, 1, none⟩)
     | 4 => vv = .slice (some ⟨gi, 0, none⟩) k.infos.length capi
     | 5 => vv = .pointer (some ⟨w.heap.size, 1, none⟩)
     | 6 => vv = .pointer (some ⟨w.heap.size, 6, none⟩)
     | 7 => vv = .string nm
     | 8 => ∃ v', vv = .tuple #[v', .int .i64 (f : Int), .bool true] ∧ OwnF W2.heap.size 89 3 infoCs ww v' (k.infos.set f ⟨1, nm, 0⟩)
     | 9 => ∃ v', vv = .tuple #[v', .int .i64 (f : Int), .bool true] ∧ OwnF W2.heap.size 89 3 infoCs ww v' (k.infos.set f ⟨1, nm, 0⟩)
     | 10 => OwnF W2.heap.size 89 3 infoCs ww vv (k.infos.set f ⟨1, nm, 0⟩)
     | 11 => vv = .int .i64 ((f : Int))
     | 12 => vv = .bool true
     | 13 => OwnF W2.heap.size 89 3 infoCs ww vv (k.infos.set f ⟨1, nm, 0⟩)
     | 14 => vv = .int .i64 ((f : Int))
     | _ => True) ?_ ?_ ?_
    ·intro i hi vv wz ww' hbz hz
     match i, hi with
     | 0, _ | 1, _ | 2, _ | 3, _ | 4, _ | 5, _ | 6, _ | 7, _ => exact hz
     | 8, _ => exact (by obtain ⟨v', h0, h1⟩ := hz; exact ⟨v', h0, OwnF.below h1 hbz⟩)
     | 9, _ => exact (by obtain ⟨v', h0, h1⟩ := hz; exact ⟨v', h0, OwnF.below h1 hbz⟩)
     | 10, _ => exact (OwnF.below hz hbz)
     | 11, _ | 12, _ => exact hz
     | 13, _ => exact (OwnF.below hz hbz)
     | 14, _ => exact hz
     | _ + 15, hq => exact absurd hq (by omega)
    ·intro i hi o ho a wx Hb Hd hG K HK
     match i, hi with
     | 0, _ => exact dF ho rfl (gn rfl) HK rfl fA150_0 (eb (Hb.out.2.2 1 (by decide))) rfl
     | 1, _ => exact dL ho rfl (gn rfl) HK rfl (et (Hd.out 0 (by kernel_rfl))) (lA148 (bc hG hl2 y0)) rfl
     | 2, _ => exact dC ho rfl (gn rfl) HK rfl (et (Hd.out 1 (by kernel_rfl))) rfl
     | 3, _ => exact dF ho rfl (gn rfl) HK rfl fA33_1 (et (Hd.out 2 (by kernel_rfl))) rfl
     | 4, _ => exact dL ho rfl (gn rfl) HK rfl (et (Hd.out 3 (by kernel_rfl))) (lA29 (bc hG hgl2 x1)) rfl
     | 5, _ => exact dF ho rfl (gn rfl) HK rfl fA150_1 (eb (Hb.out.2.2 1 (by decide))) rfl
     | 6, _ => exact dF ho rfl (gn rfl) HK rfl fA60_5 (et (Hd.out 5 (by kernel_rfl))) rfl
     | 7, _ => exact dL ho rfl (gn rfl) HK rfl (et (Hd.out 6 (by kernel_rfl))) (lA9 (bc hG hl2 y6)) rfl
     | 8, _ =>
      obtain rfl := Option.some.inj ho
      have d4 : (a.tmps[25]?.getD undef) = .slice (some ⟨gi, 0, none⟩) k.infos.length capi := Hd.out 4 (by kernel_rfl)
      have d7 : (a.tmps[28]?.getD undef) = .string nm := Hd.out 7 (by kernel_rfl)
      clear Hd Hb
      refine Does.of rfl ?_
      go_simp
      refine (C3.out _ hG).mono ?_; rintro e w_ ⟨v', rfl, hO, hb2⟩
      exact HK.out _ _ ⟨_, rfl, hO.lower hG.size⟩ hb2
     | 9, _ =>
      obtain rfl := Option.some.inj ho
      have d8 : ∃ v', (a.tmps[29]?.getD undef) = .tuple #[v', .int .i64 (f : Int), .bool true] ∧ OwnF W2.heap.size 89 3 infoCs wx v' (k.infos.set f ⟨1, nm, 0⟩) := Hd.out 8 (by kernel_rfl)
      clear Hd Hb
      obtain ⟨v', d8, hO⟩ := d8
      refine Does.of rfl ?_
      go_simp
      exact HK.out _ _ ⟨_, rfl, hO⟩ (Below.refl _ _)
     | 10, _ =>
      obtain rfl := Option.some.inj ho
      have d9 : ∃ v', (a.tmps[20]?.getD undef) = .tuple #[v', .int .i64 (f : Int), .bool true] ∧ OwnF W2.heap.size 89 3 infoCs wx v' (k.infos.set f ⟨1, nm, 0⟩) := Hd.out 9 (by kernel_rfl)
      clear Hd Hb
      obtain ⟨v', d9, hO⟩ := d9
      refine Does.of rfl ?_
      go_simp
      exact HK.out _ _ hO (Below.refl _ _)
     | 11, _ =>
      obtain rfl := Option.some.inj ho
      have d9 : ∃ v', (a.tmps[20]?.getD undef) = .tuple #[v', .int .i64 (f : Int), .bool true] ∧ OwnF W2.heap.size 89 3 infoCs wx v' (k.infos.set f ⟨1, nm, 0⟩) := Hd.out 9 (by kernel_rfl)
      clear Hd Hb
      obtain ⟨v', d9, hO⟩ := d9
      refine Does.of rfl ?_
      go_simp
      exact HK.out _ _ rfl (Below.refl _ _)
     | 12, _ =>
      obtain rfl := Option.some.inj ho
      have d9 : ∃ v', (a.tmps[20]?.getD undef) = .tuple #[v', .int .i64 (f : Int), .bool true] ∧ OwnF W2.heap.size 89 3 infoCs wx v' (k.infos.set f ⟨1, nm, 0⟩) := Hd.out 9 (by kernel_rfl)
      clear Hd Hb
      obtain ⟨v', d9, hO⟩ := d9
      refine Does.of rfl ?_
      go_simp
      exact HK.out _ _ rfl (Below.refl _ _)
     | 13, _ =>
      obtain rfl := Option.some.inj ho
      have d10 : OwnF W2.heap.size 89 3 infoCs wx (a.tmps[30]?.getD undef) (k.infos.set f ⟨1, nm, 0⟩) := Hd.out 10 (by kernel_rfl)
      clear Hd Hb
      refine Does.of rfl ?_
      go_simp
      exact HK.out _ _ d10 (Below.refl _ _)
     | 14, _ => exact dA ho rfl (gn rfl) HK rfl (et (Hd.out 11 (by kernel_rfl))) rfl
     | _ + 15, hq => exact absurd hq (by omega)
    ·intro vs wx hR hG
     have q12 : (vs 12) = .bool true := hR 12 (by decide)
     have q13 : OwnF W2.heap.size 89 3 infoCs wx (vs 13) (k.infos.set f ⟨1, nm, 0⟩) := hR 13 (by decide)
     have q14 : (vs 14) = .int .i64 ((f : Int)) := hR 14 (by decide)
     clear hR
     simp only [fillAt, dstOf, List.range, List.range.loop, List.foldl_cons, List.foldl_nil, q12, q14]
     simp
     generalize vs 13 = z13 at q13 ⊢
     clear q12 q14
     have h5 := hI2.out.infos hlo2 hG q13
     have hbw5 := ((hbw.trans (hG.mono hbw.size)).mono hlo).setCell (p := ⟨g, 1, none⟩) hI2.out.2.1 z13
     replace y0 := (hG.cell (p := ⟨w.heap.size, 0, none⟩) hl2).trans y0
     replace x1 := (hG.cell (p := ⟨g, 1, none⟩) hgl2).trans x1
     have h2x := hI2.out.below hG
     have x0 := h2x.cells.1
     have hfzg := blk_frozen h2x.1
     obtain ⟨gm, capm, gw, capw, vs, rfl, hgm, n1, D, hgw, hlw, n2, n3, o1, hu, hx⟩ := h5.memRow (f := f) Hm.out hf12
     have hml := (memOk_iff.1 Hm.out).1
     have h4 := (rowOk_iff.1 ((memOk_iff.1 Hm.out).2 f hf12)).1
     have D2 := (grown_cell (o := f) (grown_set wx g 1 z13) (by simpa using hgm) (fun e => n1 (Option.some.inj e).symm)).symm.trans D
     obtain ⟨w6, hcl, hO6, hg6⟩ := run_clear4 hx h4
     have h6 := Lib.hid (h5.row o1 (by rw [hml]; exact hf12) hu hO6 hg6)
     have hb6 := Lib.hid (below_grown hbw5 hg6 hlw (Nat.le_trans hlo hbw5.size))
     have hf12i : (f : Int) < 12 := by omega
     obtain ⟨q1, q2, rfl, _, _⟩ := q13.rd.shape
     simp only [List.length_set] at hcl
     have hgb' : w.heap.size ≠ g := fun e => hgb e.symm
     clear h5 hbw5 h2x D hx o1 hu hO6 hg6 h4 hml hgm hgw hlw n2 n3 q13 hG
     go_wp2_with fail
     go_ret2
     exact ⟨by rw [E.out]; rfl, fun _ => ⟨_, _, _, _, by rw [E.out]; exact h6.out⟩, hb6.out⟩
theorem small_rights {ss : List ByteArray} (h : rightsOk ss = true) : SmallS ss := by
 intro s hs
 obtain ⟨j, hj, rfl⟩ := List.getElem_of_mem hs
 unfold rightsOk at h
 simp only [Bool.and_eq_true, List.all_eq_true] at h
 have h1 := h.1 j (List.mem_range.2 hj)
 unfold stepRight at h1
 simp only [Bool.and_eq_true] at h1
 have h2 := rightOk_small h1.1
 have e : nthS ss j = ss[j] := by simp [nthS, hj]
 rw [e] at h2
 exact Nat.le_trans h2 (by decide)
set_option maxRecDepth 100000 in
set_option maxHeartbeats 4000000 in
theorem grantC_any {lo g : Nat} {w : World} {m i e c : Value} {k : KernV} (h : InK lo w g m i e c k) (hlo : lo ≤ w.heap.size) (hK : KOk k) (call : CallV) (he : 0 ≤ call.e) (hn : call.e < 3) (hnm : call.nm.size ≤ maxLen) :
 Calls Tryz.prog 178 #[call.on g] w (Ends1 lo g w (grantP k call)) := by
 have N := heap_alloc_new w (.cells (call.onCells g) 150)
 have hb0 := below1 w (.cells (call.onCells g) 150)
 have C0 := Lib.hid (fun W (_ : Below w.heap.size w W) => same_below (isEnv_any call.a W))
 have C1 := Lib.hid (fun W (_ : Below w.heap.size w W) => RightValid_impl call.nm W hnm)
 have C2 := Lib.hid (fun W (hW : Below w.heap.size w W) => may_c (h.below hW) call call.nm he (by rw [hK.envl]; exact hn))
 have P : grantP k call = if inB call.a 0 2 = false ∨ rightOk call.nm = false then (k, 0, 3) else if mayE k call.e call.nm = false then (k, 0, 1) else if (rightsAddP (envAt k.envs call.a.toNat).rights call.nm).2 = false then (k, 0, 4) else ({ k with envs := modAt k.envs call.a.toNat (setRights (rightsAddP (envAt k.envs call.a.toNat).rights call.nm).1) }, 0, 0) := rfl
 obtain ⟨k1, e1, a1, b1, c1, nm⟩ := call
 simp only [CallV.on, CallV.onCells] at N hb0 C0 C1 C2 P hnm ⊢
 obtain ⟨y0, y1, y2, y3, y4, y5, y6⟩ := on_cells (c := ⟨k1, e1, a1, b1, c1, nm⟩) N
 have hl := blk_lt N
 have HN := Lib.hid N
 have HP := Lib.hid P
 have HK := Lib.hid hK
 have HI := Lib.hid h
 clear P hK h N y0 y1 y2 y4 y5 y6
 go_enter Tryz.func178, Tryz.ntmps178
 go_wp2_with fail
 generalize hW0 : w.alloc _ = W0 at *
 clear hW0
 cases e4 : inB a1 0 2
 ·have T := Lib.hid e4
  have E := Lib.hid (show grantP k ⟨k1, e1, a1, b1, c1, nm⟩ = (k, 0, 3) by rw [HP.out, if_pos (.inl e4)])
  clear e4 y3
  refine (C0.out _ hb0).mono ?_; rintro r w1 ⟨rfl, hb1⟩; rw [T.out]
  have hbw := hb0.trans (hb1.mono hb0.size)
  go_wp2_with fail
  go_ret
  exact Ends1.bad E.out (by decide) (hbw.mono hlo)
 ·have T0 := Lib.hid e4
  have ab := inB_iff.1 e4
  obtain ⟨an, rfl⟩ : ∃ n : Nat, a1 = (n : Int) := ⟨a1.toNat, by omega⟩
  have han : an < 3 := by omega
  clear e4 y3
  refine (C0.out _ hb0).mono ?_; rintro r w1 ⟨rfl, hbW⟩; rw [T0.out]
  have hbw := hb0.trans (hbW.mono hb0.size)
  obtain ⟨y0, y1, y2, y3, y4, y5, y6⟩ := on_cells (c := ⟨k1, e1, (an : Int), b1, c1, nm⟩) (blk_below HN.out hbW)
  clear y0 y1 y2 y3 y4 y5
  go_wp2_with fail
  clear y6
  cases e5 : rightOk nm
  ·have T := Lib.hid e5
   have E := Lib.hid (show grantP k ⟨k1, e1, (an : Int), b1, c1, nm⟩ = (k, 0, 3) by rw [HP.out, if_pos (.inr e5)])
   clear e5
   refine (C1.out _ hbw).mono ?_; rintro r w2 ⟨rfl, hb1⟩; rw [T.out]
   replace hbw := hbw.trans (hb1.mono hbw.size)
   go_wp2_with fail
   go_ret
   exact Ends1.bad E.out (by decide) (hbw.mono hlo)
  ·have T := Lib.hid e5
   have HP2 := Lib.hid (show grantP k ⟨k1, e1, (an : Int), b1, c1, nm⟩ = _ by rw [HP.out, if_neg (by rw [T0.out, e5]; simp)])
   clear e5
   refine (C1.out _ hbw).mono ?_; rintro r w2 ⟨rfl, hb1⟩; rw [T.out]
   replace hbW := hbW.trans (hb1.mono hbW.size)
   replace hbw := hbw.trans (hb1.mono hbw.size)
   obtain ⟨y0, y1, y2, y3, y4, y5, y6⟩ := on_cells (c := ⟨k1, e1, (an : Int), b1, c1, nm⟩) (blk_below HN.out hbW)
   clear hb1
   go_wp2_with fail
   clear y0 y1 y2 y3 y4 y5 y6
   cases e6 : mayE k e1 nm
   ·have T6 := Lib.hid e6
    have E := Lib.hid (show grantP k ⟨k1, e1, (an : Int), b1, c1, nm⟩ = (k, 0, 1) by rw [HP2.out, e6]; rfl)
    clear e6
    refine (C2.out _ hbw).mono ?_; rintro r w2 ⟨rfl, hb2⟩; rw [T6.out]
    replace hbw := hbw.trans (hb2.mono hbw.size)
    go_wp2_with fail
    go_ret
    exact Ends1.bad E.out (by decide) (hbw.mono hlo)
   ·have T6 := Lib.hid e6
    have HP3 := Lib.hid (show grantP k ⟨k1, e1, (an : Int), b1, c1, nm⟩ = _ by rw [HP2.out, e6, if_neg (by decide)])
    clear e6
    refine (C2.out _ hbw).mono ?_; rintro r W2 ⟨rfl, hb2⟩; rw [T6.out]
    replace hbW := hbW.trans (hb2.mono hbW.size)
    replace hbw := hbw.trans (hb2.mono hbw.size)
    have h2 := HI.out.below hbw
    obtain ⟨ge, cap, ua, uc, rfl, hge0, D0, _, R, fz⟩ := h2.env (j := an) (by rw [HK.out.envl]; exact han)
    have x2 := cell_regrown h2.cells.2.2.1
    obtain ⟨y0, y1, y2, y3, y4, y5, y6⟩ := on_cells (c := ⟨k1, e1, (an : Int), b1, c1, nm⟩) (blk_below HN.out hbW)
    replace y0 := cell_regrown y0
    replace y3 := cell_regrown y3
    have hane : (an : Int) < k.envs.length := by rw [HK.out.envl]; omega
    have hl20 := Nat.lt_of_lt_of_le hl hbW.size
    have hgb : ge ≠ w.heap.size := by
     intro e'
     have h0 := (World.ownsRow.lt HI.out.2.2.2.2.1.choose_spec.1 ge rfl).2
     omega
    clear y1 y2 y4 y5 hb2
    go_wp2_with fail
    refine wp_region_quiet_below Tryz.mixed (by kernel_rfl) ?_
    repeat (go_big_quiet_step (fail))
    refine wpQuiet_nil ?_
    intro _ hw'
    obtain ⟨⟨dq, osq⟩, hw''⟩ := hw'
    subst hw''
    have bq := below_regrown W2 dq osq
    generalize Sort.grow (redrawn W2 dq) osq = wq at bq
    clear x2 y0 y3
    go_wp2_with fail
    have hbq := hbw.trans (bq.mono hbw.size)
    have hIq := Lib.hid (h2.below bq)
    replace y6 := (bq.cell (p := ⟨w.heap.size, 6, none⟩) hl20).trans y6
    replace D0 := (bq.cell (p := ⟨ge, an * 2, none⟩) hge0).trans D0
    have fzq := (bq.frozen (p := ⟨ge, an * 2, none⟩) hge0).trans (fz _)
    have hl2 := Nat.lt_of_lt_of_le hl20 bq.size
    have hge := Nat.lt_of_lt_of_le hge0 bq.size
    have hloq := Nat.le_trans hlo hbq.size
    have Rq : RdStrs wq (.slice ua (envAt k.envs an).rights.length uc) (envAt k.envs an).rights := RdF.below R bq
    have rk := HK.out.rights an han
    have C30 := fun W (hW : Below wq.heap.size wq W) => RightsAdd_any _ (envAt k.envs an).rights nm W (RdF.below Rq hW) (small_rights rk) hnm rk T.out
    have HP4 := Lib.hid (show grantP k ⟨k1, e1, (an : Int), b1, c1, nm⟩ = if (rightsAddP (envAt k.envs an).rights nm).2 = false then (k, 0, 4) else ({ k with envs := modAt k.envs an (setRights (rightsAddP (envAt k.envs an).rights nm).1) }, 0, 0) from HP3.out)
    unfold AddRes at C30
    obtain ⟨ss, bb, hsb⟩ : ∃ ss bb, rightsAddP (envAt k.envs an).rights nm = (ss, bb) := ⟨_, _, rfl⟩
    simp only [hsb] at C30 HP4
    have C3 := Lib.hid C30
    clear C30 R Rq rk hsb h2 fz bq hge0 hl20
    refine wp_region_grow 12 Tryz.mixed (by kernel_rfl) 52 rfl (by kernel_rfl) (fun ix vv ww => match ix with
     | 0 => vv = .pointer (some ⟨ge, an * 2, none⟩)
     | 1 => vv = .pointer (some ⟨ge, an * 2, none⟩)
     | 2 => vv = .pointer (some ⟨ge, an * 2, none⟩)
     | 3 => vv = .slice ua (envAt k.envs an).rights.length uc
     | 4 => vv = .pointer (some ⟨w.heap.size, 1, none⟩)
     | 5 => vv = .pointer (some ⟨w.heap.size, 6, none⟩)
     | 6 => vv = .string nm
     | 7 => ∃ v', vv = .tuple #[v', .bool bb] ∧ OwnF wq.heap.size 9 1 strCs ww v' ss
     | 8 => ∃ v', vv = .tuple #[v', .bool bb] ∧ OwnF wq.heap.size 9 1 strCs ww v' ss
     | 9 => OwnF wq.heap.size 9 1 strCs ww vv ss
     | 10 => vv = .bool bb
     | 11 => OwnF wq.heap.size 9 1 strCs ww vv ss
     | _ => True) ?_ ?_ ?_
    ·intro i hi vv wz ww' hbz hz
     match i, hi with
     | 0, _ | 1, _ | 2, _ | 3, _ | 4, _ | 5, _ | 6, _ => exact hz
     | 7, _ => exact (by obtain ⟨v', h0, h1⟩ := hz; exact ⟨v', h0, OwnF.below h1 hbz⟩)
     | 8, _ => exact (by obtain ⟨v', h0, h1⟩ := hz; exact ⟨v', h0, OwnF.below h1 hbz⟩)
     | 9, _ => exact (OwnF.below hz hbz)
     | 10, _ => exact hz
     | 11, _ => exact (OwnF.below hz hbz)
    ·intro i hi o ho a wx Hb Hd hG K HK
     match i, hi with
     | 0, _ => exact dM ho rfl (gn rfl) HK rfl (eb (Hb.out.2.2 3 (by decide))) rfl
     | 1, _ => exact dC ho rfl (gn rfl) HK rfl (et (Hd.out 0 (by kernel_rfl))) rfl
     | 2, _ => exact dF ho rfl (gn rfl) HK rfl fA80_0 (et (Hd.out 1 (by kernel_rfl))) rfl
     | 3, _ => exact dL ho rfl (gn rfl) HK rfl (et (Hd.out 2 (by kernel_rfl))) (lA36 (bc hG hge D0)) rfl
     | 4, _ => exact dF ho rfl (gn rfl) HK rfl fA150_1 (eb (Hb.out.2.2 1 (by decide))) rfl
     | 5, _ => exact dF ho rfl (gn rfl) HK rfl fA60_5 (et (Hd.out 4 (by kernel_rfl))) rfl
     | 6, _ => exact dL ho rfl (gn rfl) HK rfl (et (Hd.out 5 (by kernel_rfl))) (lA9 (bc hG hl2 y6)) rfl
     | 7, _ =>
      obtain rfl := Option.some.inj ho
      have d3 : (a.tmps[39]?.getD undef) = .slice ua (envAt k.envs an).rights.length uc := Hd.out 3 (by kernel_rfl)
      have d6 : (a.tmps[42]?.getD undef) = .string nm := Hd.out 6 (by kernel_rfl)
      clear Hd Hb
      refine Does.of rfl ?_
      go_simp
      refine (C3.out _ hG).mono ?_; rintro e w_ ⟨v', rfl, hO, hb2⟩
      exact HK.out _ _ ⟨_, rfl, hO.lower hG.size⟩ hb2
     | 8, _ =>
      obtain rfl := Option.some.inj ho
      have d7 : ∃ v', (a.tmps[43]?.getD undef) = .tuple #[v', .bool bb] ∧ OwnF wq.heap.size 9 1 strCs wx v' ss := Hd.out 7 (by kernel_rfl)
      clear Hd Hb
      obtain ⟨v', d7, hO⟩ := d7
      refine Does.of rfl ?_
      go_simp
      exact HK.out _ _ ⟨_, rfl, hO⟩ (Below.refl _ _)
     | 9, _ =>
      obtain rfl := Option.some.inj ho
      have d8 : ∃ v', (a.tmps[35]?.getD undef) = .tuple #[v', .bool bb] ∧ OwnF wq.heap.size 9 1 strCs wx v' ss := Hd.out 8 (by kernel_rfl)
      clear Hd Hb
      obtain ⟨v', d8, hO⟩ := d8
      refine Does.of rfl ?_
      go_simp
      exact HK.out _ _ hO (Below.refl _ _)
     | 10, _ =>
      obtain rfl := Option.some.inj ho
      have d8 : ∃ v', (a.tmps[35]?.getD undef) = .tuple #[v', .bool bb] ∧ OwnF wq.heap.size 9 1 strCs wx v' ss := Hd.out 8 (by kernel_rfl)
      clear Hd Hb
      obtain ⟨v', d8, hO⟩ := d8
      refine Does.of rfl ?_
      go_simp
      exact HK.out _ _ rfl (Below.refl _ _)
     | 11, _ =>
      obtain rfl := Option.some.inj ho
      have d9 : OwnF wq.heap.size 9 1 strCs wx (a.tmps[44]?.getD undef) ss := Hd.out 9 (by kernel_rfl)
      clear Hd Hb
      refine Does.of rfl ?_
      go_simp
      exact HK.out _ _ d9 (Below.refl _ _)
    ·intro vs wx hR hG
     have q10 : (vs 10) = .bool bb := hR 10 (by decide)
     have q11 : OwnF wq.heap.size 9 1 strCs wx (vs 11) ss := hR 11 (by decide)
     clear hR
     simp only [fillAt, dstOf, List.range, List.range.loop, List.foldl_cons, List.foldl_nil, q10]
     simp
     generalize vs 11 = z11 at q11 ⊢
     clear q10
     have hbx := hbq.trans (hG.mono hbq.size)
     replace D0 := (hG.cell (p := ⟨ge, an * 2, none⟩) hge).trans D0
     replace fzq := (hG.frozen (p := ⟨ge, an * 2, none⟩) hge).trans fzq
     cases bb
     ·have E := Lib.hid (show grantP k ⟨k1, e1, (an : Int), b1, c1, nm⟩ = (k, 0, 4) by rw [HP4.out]; rfl)
      clear q11 hG D0 fzq y6
      go_wp2_with fail
      go_ret
      exact Ends1.bad E.out (by decide) (hbx.mono hlo)
     ·have E := Lib.hid (show grantP k ⟨k1, e1, (an : Int), b1, c1, nm⟩ = ({ k with envs := modAt k.envs an (setRights ss) }, 0, 0) by rw [HP4.out]; rfl)
      have S := Lib.hid (hIq.out.rights rfl hloq hG (by rw [HK.out.envl]; exact han) q11)
      have hbx2 := Lib.hid (below_grown (hbx.mono hlo) S.out.2.1 S.out.2.2 (Nat.le_trans hlo hbx.size))
      obtain ⟨_, _, rfl, _, _⟩ := q11.rd.shape
      clear q11 hG y6
      go_wp2_with fail
      go_ret
      exact ⟨by rw [E.out]; rfl, fun _ => ⟨_, _, _, _, by rw [E.out]; exact S.out.1⟩, hbx2.out⟩
theorem reached_root (v : Value) (m : List (List Int)) (r : Int) (w : World) (h : RdRows w v m) (hok : memOk m = true) (hr : r < 12) : Calls Tryz.prog 51 #[v, .int .i64 r] w (ReachedRes m r w) := by
 by_cases h0 : r < 0
 ·exact reached_neg v m r w h h0
 ·obtain ⟨n, rfl⟩ : ∃ n : Nat, r = (n : Int) := ⟨r.toNat, by omega⟩
  exact reached_any v m n w h hok (by omega)
theorem root_lt {k : KernV} (h : KOk k) {j : Nat} (hj : j < 3) : (envAt k.envs j).root < 12 := by
 have := h.roots j hj
 unfold rootOf at this
 omega
set_option maxRecDepth 100000 in
set_option maxHeartbeats 4000000 in
theorem revokeC_any {lo g : Nat} {w : World} {m i e c : Value} {k : KernV} (h : InK lo w g m i e c k) (hlo : lo ≤ w.heap.size) (hK : KOk k) (call : CallV) (he : 0 ≤ call.e) (hn : call.e < 3) (hnm : call.nm.size ≤ maxLen) :
 Calls Tryz.prog 179 #[call.on g] w (Ends1 lo g w (revokeP k call)) := by
 have N := heap_alloc_new w (.cells (call.onCells g) 150)
 have hb0 := below1 w (.cells (call.onCells g) 150)
 have C0 := Lib.hid (fun W (_ : Below w.heap.size w W) => same_below (isEnv_any call.a W))
 have C1 := Lib.hid (fun W (_ : Below w.heap.size w W) => RightValid_impl call.nm W hnm)
 have C2 := Lib.hid (fun W (hW : Below w.heap.size w W) => may_c (h.below hW) call call.nm he (by rw [hK.envl]; exact hn))
 have P : revokeP k call = if inB call.a 0 2 = false ∨ call.a = call.e ∨ rightOk call.nm = false then (k, 0, 3) else if mayE k call.e call.nm = false then (k, 0, 1) else if allowedP k.infos (reachL k.mem (envAt k.envs call.a.toNat).root) (rightsDropP (envAt k.envs call.a.toNat).rights call.nm) = false then (k, 0, 2) else ({ k with envs := modAt k.envs call.a.toNat (setRights (rightsDropP (envAt k.envs call.a.toNat).rights call.nm)) }, 0, 0) := rfl
 obtain ⟨k1, e1, a1, b1, c1, nm⟩ := call
 simp only [CallV.on, CallV.onCells] at N hb0 C0 C1 C2 P hnm ⊢
 obtain ⟨y0, y1, y2, y3, y4, y5, y6⟩ := on_cells (c := ⟨k1, e1, a1, b1, c1, nm⟩) N
 have hl := blk_lt N
 have HN := Lib.hid N
 have HP := Lib.hid P
 have HK := Lib.hid hK
 have HI := Lib.hid h
 clear P hK h N y0 y1 y2 y4 y5 y6
 go_enter Tryz.func179, Tryz.ntmps179
 go_wp2_with fail
 generalize hW0 : w.alloc _ = W0 at *
 clear hW0
 cases e4 : inB a1 0 2
 ·have T := Lib.hid e4
  have E := Lib.hid (show revokeP k ⟨k1, e1, a1, b1, c1, nm⟩ = (k, 0, 3) by rw [HP.out, if_pos (.inl e4)])
  clear e4 y3
  refine (C0.out _ hb0).mono ?_; rintro r w1 ⟨rfl, hb1⟩; rw [T.out]
  have hbw := hb0.trans (hb1.mono hb0.size)
  go_wp2_with fail
  go_ret
  exact Ends1.bad E.out (by decide) (hbw.mono hlo)
 ·have T0 := Lib.hid e4
  have ab := inB_iff.1 e4
  obtain ⟨an, rfl⟩ : ∃ n : Nat, a1 = (n : Int) := ⟨a1.toNat, by omega⟩
  have han : an < 3 := by omega
  clear e4 y3
  refine (C0.out _ hb0).mono ?_; rintro r w1 ⟨rfl, hbW⟩; rw [T0.out]
  have hbw := hb0.trans (hbW.mono hb0.size)
  obtain ⟨y0, y1, y2, y3, y4, y5, y6⟩ := on_cells (c := ⟨k1, e1, (an : Int), b1, c1, nm⟩) (blk_below HN.out hbW)
  clear y0 y1 y4 y5
  by_cases hae : (an : Int) = e1
  ·have E := Lib.hid (show revokeP k ⟨k1, e1, (an : Int), b1, c1, nm⟩ = (k, 0, 3) by rw [HP.out, if_pos (.inr (.inl hae))])
   have t3 : ((an : Int) == e1) = true := by simp [hae]
   clear hae y6
   go_wp2_with fail
   go_ret
   exact Ends1.bad E.out (by decide) (hbw.mono hlo)
  have t3 : ((an : Int) == e1) = false := by simp [hae]
  have hne := Lib.hid hae
  clear hae
  go_wp2_with fail
  clear y2 y3 y6 t3
  cases e5 : rightOk nm
  ·have T := Lib.hid e5
   have E := Lib.hid (show revokeP k ⟨k1, e1, (an : Int), b1, c1, nm⟩ = (k, 0, 3) by rw [HP.out, if_pos (.inr (.inr e5))])
   clear e5
   refine (C1.out _ hbw).mono ?_; rintro r w2 ⟨rfl, hb1⟩; rw [T.out]
   replace hbw := hbw.trans (hb1.mono hbw.size)
   go_wp2_with fail
   go_ret
   exact Ends1.bad E.out (by decide) (hbw.mono hlo)
  ·have T := Lib.hid e5
   have HP2 := Lib.hid (show revokeP k ⟨k1, e1, (an : Int), b1, c1, nm⟩ = _ by rw [HP.out, if_neg (by rw [T0.out, e5]; simpa using hne.out)])
   clear e5
   refine (C1.out _ hbw).mono ?_; rintro r w2 ⟨rfl, hb1⟩; rw [T.out]
   replace hbW := hbW.trans (hb1.mono hbW.size)
   replace hbw := hbw.trans (hb1.mono hbw.size)
   obtain ⟨y0, y1, y2, y3, y4, y5, y6⟩ := on_cells (c := ⟨k1, e1, (an : Int), b1, c1, nm⟩) (blk_below HN.out hbW)
   clear hb1
   go_wp2_with fail
   clear y0 y1 y2 y3 y4 y5 y6
   cases e6 : mayE k e1 nm
   ·have T6 := Lib.hid e6
    have E := Lib.hid (show revokeP k ⟨k1, e1, (an : Int), b1, c1, nm⟩ = (k, 0, 1) by rw [HP2.out, e6]; rfl)
    clear e6
    refine (C2.out _ hbw).mono ?_; rintro r w2 ⟨rfl, hb2⟩; rw [T6.out]
    replace hbw := hbw.trans (hb2.mono hbw.size)
    go_wp2_with fail
    go_ret
    exact Ends1.bad E.out (by decide) (hbw.mono hlo)
   ·have T6 := Lib.hid e6
    have HP3 := Lib.hid (show revokeP k ⟨k1, e1, (an : Int), b1, c1, nm⟩ = _ by rw [HP2.out, e6, if_neg (by decide)])
    clear e6
    refine (C2.out _ hbw).mono ?_; rintro r W2 ⟨rfl, hb2⟩; rw [T6.out]
    replace hbW := hbW.trans (hb2.mono hbW.size)
    replace hbw := hbw.trans (hb2.mono hbw.size)
    have h2 := HI.out.below hbw
    obtain ⟨ge, cap, ua, uc, rfl, hge0, D0, D1, R, fz⟩ := h2.env (j := an) (by rw [HK.out.envl]; exact han)
    have x2 := cell_regrown h2.cells.2.2.1
    obtain ⟨y0, y1, y2, y3, y4, y5, y6⟩ := on_cells (c := ⟨k1, e1, (an : Int), b1, c1, nm⟩) (blk_below HN.out hbW)
    replace y0 := cell_regrown y0
    replace y3 := cell_regrown y3
    have hane : (an : Int) < k.envs.length := by rw [HK.out.envl]; omega
    have hl20 := Nat.lt_of_lt_of_le hl hbW.size
    have hgb : ge ≠ w.heap.size := by
     intro e'
     have h0 := (World.ownsRow.lt HI.out.2.2.2.2.1.choose_spec.1 ge rfl).2
     omega
    clear y1 y2 y4 y5 hb2
    go_wp2_with fail
    refine wp_region_quiet_below Tryz.mixed (by kernel_rfl) ?_
    repeat (go_big_quiet_step (fail))
    refine wpQuiet_nil ?_
    intro _ hw'
    obtain ⟨⟨dq, osq⟩, hw''⟩ := hw'
    subst hw''
    have bq := below_regrown W2 dq osq
    generalize Sort.grow (redrawn W2 dq) osq = wq at bq
    clear x2 y0 y3
    go_wp2_with fail
    have hbq := hbw.trans (bq.mono hbw.size)
    have hIq := Lib.hid (h2.below bq)
    replace y6 := (bq.cell (p := ⟨w.heap.size, 6, none⟩) hl20).trans y6
    replace D0 := (bq.cell (p := ⟨ge, an * 2, none⟩) hge0).trans D0
    replace D1 := (bq.cell (p := ⟨ge, an * 2 + 1, none⟩) hge0).trans D1
    have fzq := (bq.frozen (p := ⟨ge, an * 2, none⟩) hge0).trans (fz _)
    have hbWq := hbW.trans (bq.mono hbW.size)
    have hl2 := Nat.lt_of_lt_of_le hl20 bq.size
    have hge := Nat.lt_of_lt_of_le hge0 bq.size
    have hloq := Nat.le_trans hlo hbq.size
    have Rq : RdStrs wq (.slice ua (envAt k.envs an).rights.length uc) (envAt k.envs an).rights := RdF.below R bq
    have rk := HK.out.rights an han
    have C3 := Lib.hid (fun W (hW : Below wq.heap.size wq W) => RightsDrop_any _ (envAt k.envs an).rights nm W (RdF.below Rq hW) (small_rights rk) hnm rk T.out)
    have HP4 := Lib.hid (show revokeP k ⟨k1, e1, (an : Int), b1, c1, nm⟩ = if allowedP k.infos (reachL k.mem (envAt k.envs an).root) (rightsDropP (envAt k.envs an).rights nm) = false then (k, 0, 2) else ({ k with envs := modAt k.envs an (setRights (rightsDropP (envAt k.envs an).rights nm)) }, 0, 0) from HP3.out)
    clear R Rq rk h2 fz bq hge0 hl20
    refine wp_region_grow 8 Tryz.mixed (by kernel_rfl) 70 rfl (by kernel_rfl) (fun ix vv ww => match ix with
     | 0 => vv = .pointer (some ⟨ge, an * 2, none⟩)
     | 1 => vv = .pointer (some ⟨ge, an * 2, none⟩)
     | 2 => vv = .pointer (some ⟨ge, an * 2, none⟩)
     | 3 => vv = .slice ua (envAt k.envs an).rights.length uc
     | 4 => vv = .pointer (some ⟨w.heap.size, 1, none⟩)
     | 5 => vv = .pointer (some ⟨w.heap.size, 6, none⟩)
     | 6 => vv = .string nm
     | 7 => OwnF wq.heap.size 9 1 strCs ww vv (rightsDropP (envAt k.envs an).rights nm)
     | _ => True) ?_ ?_ ?_
    ·intro i hi vv wz ww' hbz hz
     match i, hi with
     | 0, _ | 1, _ | 2, _ | 3, _ | 4, _ | 5, _ | 6, _ => exact hz
     | 7, _ => exact (OwnF.below hz hbz)
    ·intro i hi o ho a wx Hb Hd hG K HK
     match i, hi with
     | 0, _ => exact dM ho rfl (gn rfl) HK rfl (eb (Hb.out.2.2 3 (by decide))) rfl
     | 1, _ => exact dC ho rfl (gn rfl) HK rfl (et (Hd.out 0 (by kernel_rfl))) rfl
     | 2, _ => exact dF ho rfl (gn rfl) HK rfl fA80_0 (et (Hd.out 1 (by kernel_rfl))) rfl
     | 3, _ => exact dL ho rfl (gn rfl) HK rfl (et (Hd.out 2 (by kernel_rfl))) (lA36 (bc hG hge D0)) rfl
     | 4, _ => exact dF ho rfl (gn rfl) HK rfl fA150_1 (eb (Hb.out.2.2 1 (by decide))) rfl
     | 5, _ => exact dF ho rfl (gn rfl) HK rfl fA60_5 (et (Hd.out 4 (by kernel_rfl))) rfl
     | 6, _ => exact dL ho rfl (gn rfl) HK rfl (et (Hd.out 5 (by kernel_rfl))) (lA9 (bc hG hl2 y6)) rfl
     | 7, _ =>
      obtain rfl := Option.some.inj ho
      have d3 : (a.tmps[46]?.getD undef) = .slice ua (envAt k.envs an).rights.length uc := Hd.out 3 (by kernel_rfl)
      have d6 : (a.tmps[49]?.getD undef) = .string nm := Hd.out 6 (by kernel_rfl)
      clear Hd Hb
      refine Does.of rfl ?_
      go_simp
      refine (C3.out _ hG).mono ?_; rintro e w_ ⟨v', rfl, hO, hb2⟩
      exact HK.out _ _ (hO.lower hG.size) hb2
    ·intro vs wx hR hG
     have q7 : OwnF wq.heap.size 9 1 strCs wx (vs 7) (rightsDropP (envAt k.envs an).rights nm) := hR 7 (by decide)
     clear hR
     simp only [fillAt, dstOf, List.range, List.range.loop, List.foldl_cons, List.foldl_nil]
     simp
     generalize vs 7 = z7 at q7 ⊢
     have hbx := hbq.trans (hG.mono hbq.size)
     have hbWx := hbWq.trans (hG.mono hbWq.size)
     have hIx := hIq.out.below hG
     obtain ⟨y0, _, _, _, _, _, _⟩ := on_cells (c := ⟨k1, e1, (an : Int), b1, c1, nm⟩) (blk_below HN.out hbWx)
     replace D0 := (hG.cell (p := ⟨ge, an * 2, none⟩) hge).trans D0
     replace D1 := (hG.cell (p := ⟨ge, an * 2 + 1, none⟩) hge).trans D1
     replace fzq := (hG.frozen (p := ⟨ge, an * 2, none⟩) hge).trans fzq
     have hge3 := Nat.lt_of_lt_of_le hge hG.size
     have hl3 := Nat.lt_of_lt_of_le hl2 hG.size
     have hgl3 := blk_lt hIx.1
     have x0 := hIx.cells.1
     have x1 := hIx.cells.2.1
     have hm12 := root_lt HK.out han
     have RM : RdRows wx m k.mem := hIx.2.2.rd.1
     have RIn : RdInfos wx i k.infos := hIx.2.2.2.1.rd
     have hOq := Lib.hid q7
     have hGq := Lib.hid hG
     obtain ⟨wy, rfl⟩ : ∃ wy : World, wy = wx := ⟨_, rfl⟩
     have CX := Lib.hid (fun W (hW : Below wy.heap.size wy W) => reached_root m k.mem _ W (RM.below hW) (kok_parts HK.out).1 hm12)
     have CA := Lib.hid (fun W (hW : Below wy.heap.size wy W) v2 ts (h2 : RdInts W v2 (ints ts)) (hm : ∀ g, g ∈ ts ↔ g ∈ reachL k.mem (envAt k.envs an).root) => by have := allowed_any g _ v2 _ (rightsDropP (envAt k.envs an).rights nm) ts k.infos W ((hW.cell (p := ⟨g, 1, none⟩) hgl3).trans x1) (RdF.below q7.rd hW) (RdF.below RIn hW) h2 (fun f hf => by have := reach_lt hm12 f ((hm f).1 hf); have := HK.out.len; omega); rw [allowed_mem hm] at this; exact this)
     generalize hbb : allowedP k.infos (reachL k.mem (envAt k.envs an).root) (rightsDropP (envAt k.envs an).rights nm) = bb at CA HP4
     have HBb := Lib.hid hbb
     obtain ⟨p1, p2, rfl, _, _⟩ := q7.rd.shape
     clear hbb RM RIn q7 hG hIx x1
     go_wp2_with fail
     refine wp_region_grow 14 Tryz.mixed (by kernel_rfl) 70 rfl (by kernel_rfl) (fun ix vv ww => match ix with
      | 0 => vv = .pointer (some ⟨w.heap.size, 0, none⟩)
      | 1 => vv = .pointer (some ⟨g, 0, none⟩)
      | 2 => vv = .slice p1 (rightsDropP (envAt k.envs an).rights nm).length p2
      | 3 => vv = .pointer (some ⟨w.heap.size, 0, none⟩)
      | 4 => vv = .pointer (some ⟨g, 0, none⟩)
      | 5 => vv = .pointer (some ⟨g, 0, none⟩)
      | 6 => vv = .pointer (some ⟨g, 0, none⟩)
      | 7 => vv = m
      | 8 => vv = .pointer (some ⟨ge, an * 2, none⟩)
      | 9 => vv = .pointer (some ⟨ge, an * 2, none⟩)
      | 10 => vv = .pointer (some ⟨ge, an * 2 + 1, none⟩)
      | 11 => vv = .int .i64 ((envAt k.envs an).root)
      | 12 => ReachIn wy.heap.size k.mem (envAt k.envs an).root ww vv
      | 13 => vv = .bool bb
      | _ => True) ?_ ?_ ?_
     ·intro i hi vv wz ww' hbz hz
      match i, hi with
      | 0, _ | 1, _ | 2, _ | 3, _ | 4, _ | 5, _ | 6, _ | 7, _ | 8, _ | 9, _ | 10, _ | 11, _ => exact hz
      | 12, _ => exact (ReachIn.below hz hbz)
      | 13, _ => exact hz
     ·intro i hi o ho a wx Hb Hd hG K HK
      match i, hi with
      | 0, _ => exact dF ho rfl (gn rfl) HK rfl fA150_0 (eb (Hb.out.2.2 1 (by decide))) rfl
      | 1, _ => exact dL ho rfl (gn rfl) HK rfl (et (Hd.out 0 (by kernel_rfl))) (lA148 (bc hG hl3 y0)) rfl
      | 2, _ => exact dM ho rfl (gn rfl) HK rfl (eb (Hb.out.2.2 4 (by decide))) rfl
      | 3, _ => exact dF ho rfl (gn rfl) HK rfl fA150_0 (eb (Hb.out.2.2 1 (by decide))) rfl
      | 4, _ => exact dL ho rfl (gn rfl) HK rfl (et (Hd.out 3 (by kernel_rfl))) (lA148 (bc hG hl3 y0)) rfl
      | 5, _ => exact dC ho rfl (gn rfl) HK rfl (et (Hd.out 4 (by kernel_rfl))) rfl
      | 6, _ => exact dF ho rfl (gn rfl) HK rfl fA33_0 (et (Hd.out 5 (by kernel_rfl))) rfl
      | 7, _ => exact dL ho rfl (gn rfl) HK rfl (et (Hd.out 6 (by kernel_rfl))) (lA28 (bc hG hgl3 x0)) rfl
      | 8, _ => exact dM ho rfl (gn rfl) HK rfl (eb (Hb.out.2.2 3 (by decide))) rfl
      | 9, _ => exact dC ho rfl (gn rfl) HK rfl (et (Hd.out 8 (by kernel_rfl))) rfl
      | 10, _ => exact dF ho rfl (gn rfl) HK rfl fA80_1 (et (Hd.out 9 (by kernel_rfl))) rfl
      | 11, _ => exact dL ho rfl (gn rfl) HK rfl (et (Hd.out 10 (by kernel_rfl))) (lA3 (bc hG hge3 D1)) rfl
      | 12, _ =>
       obtain rfl := Option.some.inj ho
       have d7 : (a.tmps[58]?.getD undef) = m := Hd.out 7 (by kernel_rfl)
       have d11 : (a.tmps[62]?.getD undef) = .int .i64 ((envAt k.envs an).root) := Hd.out 11 (by kernel_rfl)
       clear Hd Hb
       refine Does.of rfl ?_
       go_simp
       refine (CX.out _ hG).mono ?_; rintro e w_ ⟨v', ts, rfl, hO, hmem, _, hb2⟩
       exact HK.out _ _ ⟨ts, own_loV hO hG.size, hmem⟩ hb2
      | 13, _ =>
       obtain rfl := Option.some.inj ho
       have d1 : (a.tmps[52]?.getD undef) = .pointer (some ⟨g, 0, none⟩) := Hd.out 1 (by kernel_rfl)
       have d2 : (a.tmps[53]?.getD undef) = .slice p1 (rightsDropP (envAt k.envs an).rights nm).length p2 := Hd.out 2 (by kernel_rfl)
       have d12 : ReachIn wy.heap.size k.mem (envAt k.envs an).root wx (a.tmps[63]?.getD undef) := Hd.out 12 (by kernel_rfl)
       clear Hd Hb
       generalize e63 : a.tmps[63]?.getD undef = v2 at d12
       obtain ⟨ts, hO, hmem⟩ := d12
       have CAx := CA.out wx hG v2 ts (OwnInts.rd hO) hmem
       refine Does.of rfl ?_
       go_simp
       refine CAx.mono ?_; rintro e w_ ⟨rfl, hb2⟩
       exact HK.out _ _ rfl hb2
     ·intro vs wx hR hG
      have q13 : (vs 13) = .bool bb := hR 13 (by decide)
      clear hR
      simp only [fillAt, dstOf, List.range, List.range.loop, List.foldl_cons, List.foldl_nil, q13]
      simp
      clear q13
      have hbz := hbx.trans (hG.mono hbx.size)
      cases bb
      ·have E := Lib.hid (show revokeP k ⟨k1, e1, (an : Int), b1, c1, nm⟩ = (k, 0, 2) by rw [HP4.out]; rfl)
       clear hG D0 D1 fzq y0 x0
       go_wp2_with fail
       go_ret
       exact Ends1.bad E.out (by decide) (hbz.mono hlo)
      ·have E := Lib.hid (show revokeP k ⟨k1, e1, (an : Int), b1, c1, nm⟩ = ({ k with envs := modAt k.envs an (setRights (rightsDropP (envAt k.envs an).rights nm)) }, 0, 0) by rw [HP4.out]; rfl)
       have S := Lib.hid (hIq.out.rights rfl hloq (hGq.out.trans (hG.mono hGq.out.size)) (by rw [HK.out.envl]; exact han) (hOq.out.below hG))
       have hbz2 := Lib.hid (below_grown (hbz.mono hlo) S.out.2.1 S.out.2.2 (Nat.le_trans hlo hbz.size))
       replace D0 := (hG.cell (p := ⟨ge, an * 2, none⟩) hge3).trans D0
       replace fzq := (hG.frozen (p := ⟨ge, an * 2, none⟩) hge3).trans fzq
       clear hG D1 y0 x0
       go_wp2_with fail
       go_ret
       exact ⟨by rw [E.out]; rfl, fun _ => ⟨_, _, _, _, by rw [E.out]; exact S.out.1⟩, hbz2.out⟩
end Go.Proofs.YtjacdlekgdnndaaGreatDoor
