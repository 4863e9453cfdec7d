/-
  Packed: 1 texts.
-/
import Derived.Test.YtjacdlekgdnndaaGreatDoorY6
set_option linter.unusedVariables false
namespace Go.Proofs.YtjacdlekgdnndaaGreatDoor
open Go.RowKit
def SmallK (k : KernV) : Prop := SmallI k.infos ∧ ∀ j, j < k.envs.length → SmallS (envAt k.envs j).rights
set_option maxRecDepth 100000 in
set_option maxHeartbeats 16000000 in
theorem KernelValid_impl (m i e c : Value) (k : KernV) (w : World) (h : RdK w m i e c k) (hs : SmallK k) :
 Calls Tryz.prog 13 #[.agg #[m, i, e, c]] w fun e w' => e = .returned (.bool (kernOk k)) ∧ Below w.heap.size w w' := by
 obtain ⟨h1, h2, h3, h4⟩ := h
 have N0 := heap_alloc_new w (.cells #[m, i, e, c] 33)
 have hb0 := below1 w (.cells #[m, i, e, c] 33)
 have hlt0 := blk_lt N0
 replace h1 := h1.below hb0
 replace h2 := h2.below hb0
 replace h3 := h3.below hb0
 replace h4 := h4.below hb0
 have Hs := Lib.hid hs
 obtain ⟨am, cm, rfl, _⟩ := h1.open
 obtain ⟨ai, ci, rfl, _, _⟩ := h2.shape
 obtain ⟨ae, ce, rfl, hce, hcem, HE0⟩ := h3.open
 obtain ⟨ac, cc, rfl, hcc, hccm⟩ := h4.shape
 obtain ⟨x0, x1, x2, x3⟩ := blk_cells4 N0
 go_enter Tryz.func13, Tryz.ntmps13
 go_wp2_with fail
 generalize w.alloc _ = W0 at *
 have HB0 := Lib.hid hb0
 have HN := Lib.hid N0
 have H1 := Lib.hid h1
 have H2 := Lib.hid h2
 have HE := Lib.hid HE0
 have H4 := Lib.hid h4
 have Hl0 := Lib.hid hlt0
 clear hs h3 HE0 h1 h2 h4 N0 hb0
 have C1 := Lib.hid (fun W (hW : Below W0.heap.size W0 W) => MemoryValid_impl _ k.mem W (H1.out.below hW))
 have C2 := Lib.hid (fun W (hW : Below W0.heap.size W0 W) => InfosValid_impl _ k.infos W (RdF.below H2.out hW) Hs.out.1)
 have C3 := Lib.hid (fun W (hW : Below W0.heap.size W0 W) => CacheValid_impl _ k.cache W (RdF.below H4.out hW))
 have hb := Below.refl W0.heap.size W0
 cases e1 : memOk k.mem
 ·have S := Lib.hid (kern_mem e1)
  have T := Lib.hid e1
  clear e1 x1 x2 x3
  refine (C1.out _ hb).mono ?_; rintro e w1 ⟨rfl, hb1⟩; rw [T.out]
  go_wp2_with fail
  go_ret
  exact ⟨ret_bool S.out.symm, HB0.out.trans (hb1.mono HB0.out.size)⟩
 ·have T1 := Lib.hid e1
  clear e1 x0 x1 x2 x3 hlt0
  refine (C1.out _ hb).mono ?_; rintro e w1 ⟨rfl, hb1⟩; rw [T1.out]
  replace hb := hb1; clear hb1
  have x1 := (blk_cells4 (blk_below HN.out hb)).2.1
  go_wp2_with fail
  cases e2 : infosOk k.infos
  ·have S := Lib.hid (kern_infos e2)
   have T := Lib.hid e2
   clear e2
   refine (C2.out _ hb).mono ?_; rintro e w1 ⟨rfl, hb1⟩; rw [T.out]
   replace hb := hb.trans (hb1.mono hb.size)
   go_wp2_with fail
   go_ret
   exact ⟨ret_bool S.out.symm, HB0.out.trans (hb.mono HB0.out.size)⟩
  ·have T2 := Lib.hid e2
   clear e2 x1
   refine (C2.out _ hb).mono ?_; rintro e w1 ⟨rfl, hb1⟩; rw [T2.out]
   replace hb := hb.trans (hb1.mono hb.size); clear hb1
   have x3 := (blk_cells4 (blk_below HN.out hb)).2.2.2
   go_wp2_with fail
   cases e3 : cacheOk k.cache
   ·have S := Lib.hid (kern_cache e3)
    have T := Lib.hid e3
    clear e3
    refine (C3.out _ hb).mono ?_; rintro e w1 ⟨rfl, hb1⟩; rw [T.out]
    replace hb := hb.trans (hb1.mono hb.size)
    go_wp2_with fail
    go_ret
    exact ⟨ret_bool S.out.symm, HB0.out.trans (hb.mono HB0.out.size)⟩
   ·have T3 := Lib.hid e3
    clear e3 x3
    refine (C3.out _ hb).mono ?_; rintro e w1 ⟨rfl, hb1⟩; rw [T3.out]
    replace hb := hb.trans (hb1.mono hb.size); clear hb1
    have x0 := (blk_cells4 (blk_below HN.out hb)).1
    have x1 := (blk_cells4 (blk_below HN.out hb)).2.1
    have x2 := (blk_cells4 (blk_below HN.out hb)).2.2.1
    by_cases e4 : k.envs.length = 3
    ·have T4 := Lib.hid e4
     have n4 : ((k.envs.length : Int) != 3) = false := by simp; omega
     have hl12 := Lib.hid (infosOk_iff.1 T2.out).1
     have C := Lib.hid (fun W (hW : Below W0.heap.size W0 W) => counted_any _ _ k.mem k.infos W (H1.out.below hW) T1.out (RdF.below H2.out hW) hl12.out)
     clear e4
     go_wp2_with fail
     refine (C.out _ hb).mono ?_; rintro e w1 ⟨v', rfl, hO, hb1⟩
     rw [← refL_zero] at hO
     replace hO := own_loV hO hb.size
     replace hb := hb.trans (hb1.mono hb.size); clear hb1 x0 x1 x2
     have x2 := (blk_cells4 (blk_below HN.out hb)).2.2.1
     obtain ⟨gr, capr, rfl, hr1, hr2⟩ := own_shape hO (by rw [refL_len]; omega)
     have hO0 : Hid (OwnInts W0.heap.size w1 (.slice (some ⟨gr, 0, none⟩) 12 capr) (refL k 0)) := Lib.hid (by have := hO; rw [refL_len] at this; exact this)
     rw [refL_len]
     clear hO hr2
     go_wp2_with fail
     have hb1 := Lib.hid hb
     clear x2 hb n4
     go_loopw [43] (fun i wr => ∃ j : Nat, j ≤ k.envs.length ∧ i = .int .i64 j ∧ (∀ j', j' < j → envOk k (envAt k.envs j') = true) ∧ OwnInts W0.heap.size wr (.slice (some ⟨gr, 0, none⟩) 12 capr) (refL k j) ∧ Below W0.heap.size W0 wr) (fun i _ => k.envs.length - (intOf i).toNat)
     case atStart => exact ⟨0, Nat.zero_le _, rfl, fun j hj => absurd hj (Nat.not_lt_zero _), hO0.out, hb1.out⟩
     case round =>
      obtain ⟨j, hj, rfl, hpre, hO, hbel⟩ := hrel
      have Hpre := Lib.hid hpre
      clear hpre
      by_cases hlt : j < k.envs.length
      ·obtain ⟨b, off, ua, uc, rfl, hbl, D0, D1, RR⟩ := HE.out j hlt
       replace D0 := (hbel.cell (p := ⟨b, off + j * 2, none⟩) hbl).trans D0
       replace D1 := (hbel.cell (p := ⟨b, off + j * 2 + 1, none⟩) hbl).trans D1
       have N := heap_alloc_new wr (.cells #[.slice ua (envAt k.envs j).rights.length uc, .int .i64 (envAt k.envs j).root] 80)
       have hbn := below1 wr (.cells #[.slice ua (envAt k.envs j).rights.length uc, .int .i64 (envAt k.envs j).root] 80)
       have HO := Lib.hid (OwnInts.below hO hbn)
       have hlz : (j : Int) < k.envs.length := by omega
       have j3 : j < 3 := by have := T4.out; omega
       have hjc := Lib.hid hj
       clear hO hj
       go_wp2_with fail
       generalize wr.alloc _ = wa at *
       have hba := hbel.trans (hbn.mono hbel.size)
       have y0 : wa.cell? ⟨wr.heap.size, 0, none⟩ = some (.slice ua (envAt k.envs j).rights.length uc) := cell_of_row _ _ 0 _ _ _ N
       have y1 : wa.cell? ⟨wr.heap.size, 1, none⟩ = some (.int .i64 (envAt k.envs j).root) := cell_of_row _ _ 1 _ _ _ N
       have hl5 := blk_lt N
       have hg0 := Nat.lt_of_lt_of_le Hl0.out hba.size
       have x0 := (blk_cells4 (blk_below HN.out hba)).1
       have x1 := (blk_cells4 (blk_below HN.out hba)).2.1
       have HBA := Lib.hid hba
       have HR := Lib.hid RR
       clear D0 D1 N hbn hbel hba RR
       have CR0 := fun W (hW : Below wa.heap.size wa W) => RightsValid_impl _ (envAt k.envs j).rights W (RdF.below (RdF.below HR.out HBA.out) hW) (Hs.out.2 j hlt)
       cases e5 : rightsOk (envAt k.envs j).rights
       ·rw [e5] at CR0
        have CR := Lib.hid CR0
        have CF := Lib.hid True.intro
        have S := Lib.hid (kern_env hlt (show envOk k (envAt k.envs j) = false by simp [envOk, e5]))
        clear CR0 e5
        refine wp_region_grow 35 Tryz.mixed (by kernel_rfl) 170 rfl (by kernel_rfl) (fun ix vv ww => match ix with
         | 0 => vv = .pointer (some ⟨wr.heap.size, 0, none⟩)
         | 1 => vv = .slice ua (envAt k.envs j).rights.length uc
         | 2 => vv = .bool false
         | 3 => vv = .bool true
         | 4 => vv = .bool true
         | 5 => vv = undef
         | 6 => vv = undef
         | 7 => vv = undef
         | 8 => vv = undef
         | 9 => vv = undef
         | 10 => vv = undef
         | 11 => vv = undef
         | 12 => vv = undef
         | 13 => vv = undef
         | 14 => vv = undef
         | 15 => vv = undef
         | 16 => vv = undef
         | 17 => vv = undef
         | 18 => vv = undef
         | 19 => vv = undef
         | 20 => vv = undef
         | 21 => vv = undef
         | 22 => vv = undef
         | 23 => vv = undef
         | 24 => vv = .bool true
         | 25 => vv = .bool true
         | 26 => vv = undef
         | 27 => vv = undef
         | 28 => vv = undef
         | 29 => vv = undef
         | 30 => vv = undef
         | 31 => vv = undef
         | 32 => vv = undef
         | 33 => vv = undef
         | 34 => vv = undef
         | _ => True) ?_ ?_ ?_
        ·intro i hi vv wz ww' hbz hz
         match i, hi with
         | 0, _ => exact hz
         | 1, _ => exact hz
         | 2, _ => exact hz
         | 3, _ => exact hz
         | 4, _ => exact hz
         | 5, _ => exact hz
         | 6, _ => exact hz
         | 7, _ => exact hz
         | 8, _ => exact hz
         | 9, _ => exact hz
         | 10, _ => exact hz
         | 11, _ => exact hz
         | 12, _ => exact hz
         | 13, _ => exact hz
         | 14, _ => exact hz
         | 15, _ => exact hz
         | 16, _ => exact hz
         | 17, _ => exact hz
         | 18, _ => exact hz
         | 19, _ => exact hz
         | 20, _ => exact hz
         | 21, _ => exact hz
         | 22, _ => exact hz
         | 23, _ => exact hz
         | 24, _ => exact hz
         | 25, _ => exact hz
         | 26, _ => exact hz
         | 27, _ => exact hz
         | 28, _ => exact hz
         | 29, _ => exact hz
         | 30, _ => exact hz
         | 31, _ => exact hz
         | 32, _ => exact hz
         | 33, _ => exact hz
         | 34, _ => exact hz
         | _ + 35, hq => exact absurd hq (by omega)
        ·intro i hi o ho a wx Hb Hd hG K HK
         match i, hi with
         | 0, _ =>
          obtain rfl := Option.some.inj ho
          have e5 : a.tmps[5]?.getD undef = .pointer (some ⟨wr.heap.size, 0, none⟩) := by rw [Hb.out.2.2 5 (by decide)]; rfl
          clear Hd Hb
          refine Does.of rfl ?_
          go_simp
          exact HK.out _ _ rfl (Below.refl _ _)
         | 1, _ =>
          obtain rfl := Option.some.inj ho
          have d0 := Hd.out 0 (by kernel_rfl)
          change (a.tmps[47]?.getD undef) = .pointer (some ⟨wr.heap.size, 0, none⟩) at d0
          clear Hd Hb
          have m0 := (hG.cell (p := ⟨wr.heap.size, 0, none⟩) hl5).trans y0
          refine Does.of rfl ?_
          go_simp
          exact HK.out _ _ rfl (Below.refl _ _)
         | 2, _ =>
          obtain rfl := Option.some.inj ho
          have d1 := Hd.out 1 (by kernel_rfl)
          change (a.tmps[48]?.getD undef) = .slice ua (envAt k.envs j).rights.length uc at d1
          clear Hd Hb
          refine Does.of rfl ?_
          go_simp
          refine (CR.out _ hG).mono ?_; rintro e w_ ⟨rfl, hb2⟩
          exact HK.out _ _ rfl hb2
         | 3, _ =>
          obtain rfl := Option.some.inj ho
          have d2 := Hd.out 2 (by kernel_rfl)
          change (a.tmps[49]?.getD undef) = .bool false at d2
          clear Hd Hb
          refine Does.of rfl ?_
          go_simp
          exact HK.out _ _ rfl (Below.refl _ _)
         | 4, _ =>
          obtain rfl := Option.some.inj ho
          have d3 := Hd.out 3 (by kernel_rfl)
          change (a.tmps[50]?.getD undef) = .bool true at d3
          clear Hd Hb
          refine Does.of rfl ?_
          go_simp
          exact HK.out _ _ rfl (Below.refl _ _)
         | 5, _ =>
          obtain rfl := Option.some.inj ho
          have d4 := Hd.out 4 (by kernel_rfl)
          change (a.tmps[51]?.getD undef) = .bool true at d4
          clear Hd Hb
          exact Does.no rfl rfl d4 (HK.out _ _ rfl (Below.refl _ _))
         | 6, _ =>
          obtain rfl := Option.some.inj ho
          have d4 := Hd.out 4 (by kernel_rfl)
          change (a.tmps[51]?.getD undef) = .bool true at d4
          clear Hd Hb
          exact Does.no rfl rfl d4 (HK.out _ _ rfl (Below.refl _ _))
         | 7, _ =>
          obtain rfl := Option.some.inj ho
          have d4 := Hd.out 4 (by kernel_rfl)
          change (a.tmps[51]?.getD undef) = .bool true at d4
          clear Hd Hb
          exact Does.no rfl rfl d4 (HK.out _ _ rfl (Below.refl _ _))
         | 8, _ =>
          obtain rfl := Option.some.inj ho
          have d4 := Hd.out 4 (by kernel_rfl)
          change (a.tmps[51]?.getD undef) = .bool true at d4
          clear Hd Hb
          exact Does.no rfl rfl d4 (HK.out _ _ rfl (Below.refl _ _))
         | 9, _ =>
          obtain rfl := Option.some.inj ho
          have d8 := Hd.out 8 (by kernel_rfl)
          change (a.tmps[55]?.getD undef) = undef at d8
          clear Hd Hb
          exact Does.un rfl rfl d8 (HK.out _ _ rfl (Below.refl _ _))
         | 10, _ =>
          obtain rfl := Option.some.inj ho
          have d8 := Hd.out 8 (by kernel_rfl)
          change (a.tmps[55]?.getD undef) = undef at d8
          clear Hd Hb
          exact Does.un rfl rfl d8 (HK.out _ _ rfl (Below.refl _ _))
         | 11, _ =>
          obtain rfl := Option.some.inj ho
          have d8 := Hd.out 8 (by kernel_rfl)
          change (a.tmps[55]?.getD undef) = undef at d8
          clear Hd Hb
          exact Does.un rfl rfl d8 (HK.out _ _ rfl (Below.refl _ _))
         | 12, _ =>
          obtain rfl := Option.some.inj ho
          have d8 := Hd.out 8 (by kernel_rfl)
          change (a.tmps[55]?.getD undef) = undef at d8
          clear Hd Hb
          exact Does.un rfl rfl d8 (HK.out _ _ rfl (Below.refl _ _))
         | 13, _ =>
          obtain rfl := Option.some.inj ho
          have d8 := Hd.out 8 (by kernel_rfl)
          change (a.tmps[55]?.getD undef) = undef at d8
          clear Hd Hb
          exact Does.un rfl rfl d8 (HK.out _ _ rfl (Below.refl _ _))
         | 14, _ =>
          obtain rfl := Option.some.inj ho
          have d13 := Hd.out 13 (by kernel_rfl)
          change (a.tmps[60]?.getD undef) = undef at d13
          clear Hd Hb
          exact Does.un rfl rfl d13 (HK.out _ _ rfl (Below.refl _ _))
         | 15, _ =>
          obtain rfl := Option.some.inj ho
          have d13 := Hd.out 13 (by kernel_rfl)
          change (a.tmps[60]?.getD undef) = undef at d13
          clear Hd Hb
          exact Does.un rfl rfl d13 (HK.out _ _ rfl (Below.refl _ _))
         | 16, _ =>
          obtain rfl := Option.some.inj ho
          have d13 := Hd.out 13 (by kernel_rfl)
          change (a.tmps[60]?.getD undef) = undef at d13
          clear Hd Hb
          exact Does.un rfl rfl d13 (HK.out _ _ rfl (Below.refl _ _))
         | 17, _ =>
          obtain rfl := Option.some.inj ho
          have d13 := Hd.out 13 (by kernel_rfl)
          change (a.tmps[60]?.getD undef) = undef at d13
          clear Hd Hb
          exact Does.un rfl rfl d13 (HK.out _ _ rfl (Below.refl _ _))
         | 18, _ =>
          obtain rfl := Option.some.inj ho
          have d13 := Hd.out 13 (by kernel_rfl)
          change (a.tmps[60]?.getD undef) = undef at d13
          clear Hd Hb
          exact Does.un rfl rfl d13 (HK.out _ _ rfl (Below.refl _ _))
         | 19, _ =>
          obtain rfl := Option.some.inj ho
          have d13 := Hd.out 13 (by kernel_rfl)
          change (a.tmps[60]?.getD undef) = undef at d13
          clear Hd Hb
          exact Does.un rfl rfl d13 (HK.out _ _ rfl (Below.refl _ _))
         | 20, _ =>
          obtain rfl := Option.some.inj ho
          have d13 := Hd.out 13 (by kernel_rfl)
          change (a.tmps[60]?.getD undef) = undef at d13
          clear Hd Hb
          exact Does.un rfl rfl d13 (HK.out _ _ rfl (Below.refl _ _))
         | 21, _ =>
          obtain rfl := Option.some.inj ho
          have d13 := Hd.out 13 (by kernel_rfl)
          change (a.tmps[60]?.getD undef) = undef at d13
          clear Hd Hb
          exact Does.un rfl rfl d13 (HK.out _ _ rfl (Below.refl _ _))
         | 22, _ =>
          obtain rfl := Option.some.inj ho
          have d8 := Hd.out 8 (by kernel_rfl)
          change (a.tmps[55]?.getD undef) = undef at d8
          clear Hd Hb
          exact Does.un rfl rfl d8 (HK.out _ _ rfl (Below.refl _ _))
         | 23, _ =>
          obtain rfl := Option.some.inj ho
          have d4 := Hd.out 4 (by kernel_rfl)
          change (a.tmps[51]?.getD undef) = .bool true at d4
          clear Hd Hb
          exact Does.no rfl rfl d4 (HK.out _ _ rfl (Below.refl _ _))
         | 24, _ =>
          obtain rfl := Option.some.inj ho
          have d4 := Hd.out 4 (by kernel_rfl)
          change (a.tmps[51]?.getD undef) = .bool true at d4
          have d23 := Hd.out 23 (by kernel_rfl)
          change (a.tmps[70]?.getD undef) = undef at d23
          clear Hd Hb
          refine Does.of rfl ?_
          go_simp
          exact HK.out _ _ rfl (Below.refl _ _)
         | 25, _ =>
          obtain rfl := Option.some.inj ho
          have d24 := Hd.out 24 (by kernel_rfl)
          change (a.tmps[71]?.getD undef) = .bool true at d24
          clear Hd Hb
          refine Does.of rfl ?_
          go_simp
          exact HK.out _ _ rfl (Below.refl _ _)
         | 26, _ =>
          obtain rfl := Option.some.inj ho
          have d25 := Hd.out 25 (by kernel_rfl)
          change (a.tmps[72]?.getD undef) = .bool true at d25
          clear Hd Hb
          exact Does.no rfl rfl d25 (HK.out _ _ rfl (Below.refl _ _))
         | 27, _ =>
          obtain rfl := Option.some.inj ho
          have d25 := Hd.out 25 (by kernel_rfl)
          change (a.tmps[72]?.getD undef) = .bool true at d25
          clear Hd Hb
          exact Does.no rfl rfl d25 (HK.out _ _ rfl (Below.refl _ _))
         | 28, _ =>
          obtain rfl := Option.some.inj ho
          have d25 := Hd.out 25 (by kernel_rfl)
          change (a.tmps[72]?.getD undef) = .bool true at d25
          clear Hd Hb
          exact Does.no rfl rfl d25 (HK.out _ _ rfl (Below.refl _ _))
         | 29, _ =>
          obtain rfl := Option.some.inj ho
          have d25 := Hd.out 25 (by kernel_rfl)
          change (a.tmps[72]?.getD undef) = .bool true at d25
          clear Hd Hb
          exact Does.no rfl rfl d25 (HK.out _ _ rfl (Below.refl _ _))
         | 30, _ =>
          obtain rfl := Option.some.inj ho
          have d25 := Hd.out 25 (by kernel_rfl)
          change (a.tmps[72]?.getD undef) = .bool true at d25
          clear Hd Hb
          exact Does.no rfl rfl d25 (HK.out _ _ rfl (Below.refl _ _))
         | 31, _ =>
          obtain rfl := Option.some.inj ho
          have d25 := Hd.out 25 (by kernel_rfl)
          change (a.tmps[72]?.getD undef) = .bool true at d25
          clear Hd Hb
          exact Does.no rfl rfl d25 (HK.out _ _ rfl (Below.refl _ _))
         | 32, _ =>
          obtain rfl := Option.some.inj ho
          have d25 := Hd.out 25 (by kernel_rfl)
          change (a.tmps[72]?.getD undef) = .bool true at d25
          clear Hd Hb
          exact Does.no rfl rfl d25 (HK.out _ _ rfl (Below.refl _ _))
         | 33, _ =>
          obtain rfl := Option.some.inj ho
          have d25 := Hd.out 25 (by kernel_rfl)
          change (a.tmps[72]?.getD undef) = .bool true at d25
          clear Hd Hb
          exact Does.no rfl rfl d25 (HK.out _ _ rfl (Below.refl _ _))
         | 34, _ =>
          obtain rfl := Option.some.inj ho
          have d25 := Hd.out 25 (by kernel_rfl)
          change (a.tmps[72]?.getD undef) = .bool true at d25
          clear Hd Hb
          exact Does.no rfl rfl d25 (HK.out _ _ rfl (Below.refl _ _))
         | _ + 35, hq => exact absurd hq (by omega)
        ·intro vs wx hR hG
         have q25 := hR 25 (by decide)
         change (vs 25) = .bool true at q25
         have q34 := hR 34 (by decide)
         change (vs 34) = undef at q34
         clear hR
         simp only [fillAt, dstOf, List.range, List.range.loop, List.foldl_cons, List.foldl_nil, q25, q34]
         simp
         try generalize vs 0 = z0
         try generalize vs 1 = z1
         try generalize vs 2 = z2
         try generalize vs 3 = z3
         try generalize vs 4 = z4
         try generalize vs 5 = z5
         try generalize vs 6 = z6
         try generalize vs 7 = z7
         try generalize vs 8 = z8
         try generalize vs 9 = z9
         try generalize vs 10 = z10
         try generalize vs 11 = z11
         try generalize vs 12 = z12
         try generalize vs 13 = z13
         try generalize vs 14 = z14
         try generalize vs 15 = z15
         try generalize vs 16 = z16
         try generalize vs 17 = z17
         try generalize vs 18 = z18
         try generalize vs 19 = z19
         try generalize vs 20 = z20
         try generalize vs 21 = z21
         try generalize vs 22 = z22
         try generalize vs 23 = z23
         try generalize vs 24 = z24
         try generalize vs 26 = z26
         try generalize vs 27 = z27
         try generalize vs 28 = z28
         try generalize vs 29 = z29
         try generalize vs 30 = z30
         try generalize vs 31 = z31
         try generalize vs 32 = z32
         try generalize vs 33 = z33
         clear q25 q34
         have hbG := HBA.out.trans (hG.mono HBA.out.size)
         clear hG
         go_wp2_with fail
         go_ret
         exact ⟨ret_bool S.out.symm, HB0.out.trans (hbG.mono HB0.out.size)⟩
       ·rw [e5] at CR0
        have CR := Lib.hid CR0
        have E5 := Lib.hid e5
        clear CR0 e5
        by_cases e6 : (envAt k.envs j).root = -1
        ·have E6 := Lib.hid e6
         have t6 : ((envAt k.envs j).root != -1) = false := by simp [e6]
         rw [e6] at y1
         have t6' : ((-1 : Int) != -1) = false := rfl
         have CF := Lib.hid True.intro
         have CX := Lib.hid (fun W (hW : Below wa.heap.size wa W) => reached_neg _ k.mem (-1) W ((H1.out.below HBA.out).below hW) (by omega))
         have x1' := x1
         have CA := Lib.hid (fun W (hW : Below wa.heap.size wa W) v2 ts (h2 : RdInts W v2 (ints ts)) (hm : ∀ g, g ∈ ts ↔ g ∈ reachL k.mem (-1)) => allowed_any w.heap.size _ v2 _ (envAt k.envs j).rights ts k.infos W ((hW.cell (p := ⟨w.heap.size, 1, none⟩) hg0).trans x1') (RdF.below (RdF.below HR.out HBA.out) hW) (RdF.below (RdF.below H2.out HBA.out) hW) h2 (fun f hf => by have := (reach_mem.1 ((hm f).1 hf)).1; omega))
         clear x1' e6
         replace CA := Lib.hid (fun W (hW : Below wa.heap.size wa W) v2 ts (h2 : RdInts W v2 (ints ts)) (hm : ∀ g, g ∈ ts ↔ g ∈ reachL k.mem (-1)) => by have := CA.out W hW v2 ts h2 hm; rw [allowed_mem hm] at this; exact this)
         have hbb : Hid (allowedP k.infos (reachL k.mem (-1)) (envAt k.envs j).rights = true) := Lib.hid (by simp [allowedP, reachL])
         rw [hbb.out] at CA
         have S := Lib.hid (show envOk k (envAt k.envs j) = true by simp only [envOk, E5.out, E6.out, hbb.out]; rfl)
         have L := Lib.hid (refL_no hlt (show (envAt k.envs j).root < 0 by rw [E6.out]; omega))
         clear hbb
         refine wp_region_grow 35 Tryz.mixed (by kernel_rfl) 170 rfl (by kernel_rfl) (fun ix vv ww => match ix with
          | 0 => vv = .pointer (some ⟨wr.heap.size, 0, none⟩)
          | 1 => vv = .slice ua (envAt k.envs j).rights.length uc
          | 2 => vv = .bool true
          | 3 => vv = .bool false
          | 4 => vv = .bool false
          | 5 => vv = .pointer (some ⟨wr.heap.size, 1, none⟩)
          | 6 => vv = .int .i64 (-1)
          | 7 => vv = .bool false
          | 8 => vv = .bool false
          | 9 => vv = undef
          | 10 => vv = undef
          | 11 => vv = undef
          | 12 => vv = undef
          | 13 => vv = undef
          | 14 => vv = undef
          | 15 => vv = undef
          | 16 => vv = undef
          | 17 => vv = undef
          | 18 => vv = undef
          | 19 => vv = undef
          | 20 => vv = undef
          | 21 => vv = undef
          | 22 => vv = undef
          | 23 => vv = .bool false
          | 24 => vv = .bool false
          | 25 => vv = .bool false
          | 26 => vv = .pointer (some ⟨wr.heap.size, 0, none⟩)
          | 27 => vv = .slice ua (envAt k.envs j).rights.length uc
          | 28 => vv = .pointer (some ⟨w.heap.size, 0, none⟩)
          | 29 => vv = .slice am k.mem.length cm
          | 30 => vv = .pointer (some ⟨wr.heap.size, 1, none⟩)
          | 31 => vv = .int .i64 (-1)
          | 32 => ReachIn wa.heap.size k.mem (-1) ww vv
          | 33 => vv = .bool true
          | 34 => vv = .bool false
          | _ => True) ?_ ?_ ?_
         ·intro i hi vv wz ww' hbz hz
          match i, hi with
          | 0, _ => exact hz
          | 1, _ => exact hz
          | 2, _ => exact hz
          | 3, _ => exact hz
          | 4, _ => exact hz
          | 5, _ => exact hz
          | 6, _ => exact hz
          | 7, _ => exact hz
          | 8, _ => exact hz
          | 9, _ => exact hz
          | 10, _ => exact hz
          | 11, _ => exact hz
          | 12, _ => exact hz
          | 13, _ => exact hz
          | 14, _ => exact hz
          | 15, _ => exact hz
          | 16, _ => exact hz
          | 17, _ => exact hz
          | 18, _ => exact hz
          | 19, _ => exact hz
          | 20, _ => exact hz
          | 21, _ => exact hz
          | 22, _ => exact hz
          | 23, _ => exact hz
          | 24, _ => exact hz
          | 25, _ => exact hz
          | 26, _ => exact hz
          | 27, _ => exact hz
          | 28, _ => exact hz
          | 29, _ => exact hz
          | 30, _ => exact hz
          | 31, _ => exact hz
          | 32, _ => exact (ReachIn.below hz hbz)
          | 33, _ => exact hz
          | 34, _ => exact hz
          | _ + 35, hq => exact absurd hq (by omega)
         ·intro i hi o ho a wx Hb Hd hG K HK
          match i, hi with
          | 0, _ =>
           obtain rfl := Option.some.inj ho
           have e5 : a.tmps[5]?.getD undef = .pointer (some ⟨wr.heap.size, 0, none⟩) := by rw [Hb.out.2.2 5 (by decide)]; rfl
           clear Hd Hb
           refine Does.of rfl ?_
           go_simp
           exact HK.out _ _ rfl (Below.refl _ _)
          | 1, _ =>
           obtain rfl := Option.some.inj ho
           have d0 := Hd.out 0 (by kernel_rfl)
           change (a.tmps[47]?.getD undef) = .pointer (some ⟨wr.heap.size, 0, none⟩) at d0
           clear Hd Hb
           have m0 := (hG.cell (p := ⟨wr.heap.size, 0, none⟩) hl5).trans y0
           refine Does.of rfl ?_
           go_simp
           exact HK.out _ _ rfl (Below.refl _ _)
          | 2, _ =>
           obtain rfl := Option.some.inj ho
           have d1 := Hd.out 1 (by kernel_rfl)
           change (a.tmps[48]?.getD undef) = .slice ua (envAt k.envs j).rights.length uc at d1
           clear Hd Hb
           refine Does.of rfl ?_
           go_simp
           refine (CR.out _ hG).mono ?_; rintro e w_ ⟨rfl, hb2⟩
           exact HK.out _ _ rfl hb2
          | 3, _ =>
           obtain rfl := Option.some.inj ho
           have d2 := Hd.out 2 (by kernel_rfl)
           change (a.tmps[49]?.getD undef) = .bool true at d2
           clear Hd Hb
           refine Does.of rfl ?_
           go_simp
           exact HK.out _ _ rfl (Below.refl _ _)
          | 4, _ =>
           obtain rfl := Option.some.inj ho
           have d3 := Hd.out 3 (by kernel_rfl)
           change (a.tmps[50]?.getD undef) = .bool false at d3
           clear Hd Hb
           refine Does.of rfl ?_
           go_simp
           exact HK.out _ _ rfl (Below.refl _ _)
          | 5, _ =>
           obtain rfl := Option.some.inj ho
           have e5 : a.tmps[5]?.getD undef = .pointer (some ⟨wr.heap.size, 0, none⟩) := by rw [Hb.out.2.2 5 (by decide)]; rfl
           have d4 := Hd.out 4 (by kernel_rfl)
           change (a.tmps[51]?.getD undef) = .bool false at d4
           clear Hd Hb
           refine Does.yes rfl rfl d4 ?_
           go_simp
           exact HK.out _ _ rfl (Below.refl _ _)
          | 6, _ =>
           obtain rfl := Option.some.inj ho
           have d5 := Hd.out 5 (by kernel_rfl)
           change (a.tmps[52]?.getD undef) = .pointer (some ⟨wr.heap.size, 1, none⟩) at d5
           have d4 := Hd.out 4 (by kernel_rfl)
           change (a.tmps[51]?.getD undef) = .bool false at d4
           clear Hd Hb
           have m0 := (hG.cell (p := ⟨wr.heap.size, 1, none⟩) hl5).trans y1
           refine Does.yes rfl rfl d4 ?_
           go_simp
           exact HK.out _ _ rfl (Below.refl _ _)
          | 7, _ =>
           obtain rfl := Option.some.inj ho
           have d6 := Hd.out 6 (by kernel_rfl)
           change (a.tmps[53]?.getD undef) = .int .i64 (-1) at d6
           have d4 := Hd.out 4 (by kernel_rfl)
           change (a.tmps[51]?.getD undef) = .bool false at d4
           clear Hd Hb
           refine Does.yes rfl rfl d4 ?_
           go_simp
           exact HK.out _ _ rfl (Below.refl _ _)
          | 8, _ =>
           obtain rfl := Option.some.inj ho
           have d7 := Hd.out 7 (by kernel_rfl)
           change (a.tmps[54]?.getD undef) = .bool false at d7
           have d4 := Hd.out 4 (by kernel_rfl)
           change (a.tmps[51]?.getD undef) = .bool false at d4
           clear Hd Hb
           refine Does.yes rfl rfl d4 ?_
           go_simp
           exact HK.out _ _ rfl (Below.refl _ _)
          | 9, _ =>
           obtain rfl := Option.some.inj ho
           have d8 := Hd.out 8 (by kernel_rfl)
           change (a.tmps[55]?.getD undef) = .bool false at d8
           clear Hd Hb
           exact Does.no rfl rfl d8 (HK.out _ _ rfl (Below.refl _ _))
          | 10, _ =>
           obtain rfl := Option.some.inj ho
           have d8 := Hd.out 8 (by kernel_rfl)
           change (a.tmps[55]?.getD undef) = .bool false at d8
           clear Hd Hb
           exact Does.no rfl rfl d8 (HK.out _ _ rfl (Below.refl _ _))
          | 11, _ =>
           obtain rfl := Option.some.inj ho
           have d8 := Hd.out 8 (by kernel_rfl)
           change (a.tmps[55]?.getD undef) = .bool false at d8
           clear Hd Hb
           exact Does.no rfl rfl d8 (HK.out _ _ rfl (Below.refl _ _))
          | 12, _ =>
           obtain rfl := Option.some.inj ho
           have d8 := Hd.out 8 (by kernel_rfl)
           change (a.tmps[55]?.getD undef) = .bool false at d8
           clear Hd Hb
           exact Does.no rfl rfl d8 (HK.out _ _ rfl (Below.refl _ _))
          | 13, _ =>
           obtain rfl := Option.some.inj ho
           have d8 := Hd.out 8 (by kernel_rfl)
           change (a.tmps[55]?.getD undef) = .bool false at d8
           clear Hd Hb
           exact Does.no rfl rfl d8 (HK.out _ _ rfl (Below.refl _ _))
          | 14, _ =>
           obtain rfl := Option.some.inj ho
           have d13 := Hd.out 13 (by kernel_rfl)
           change (a.tmps[60]?.getD undef) = undef at d13
           clear Hd Hb
           exact Does.un rfl rfl d13 (HK.out _ _ rfl (Below.refl _ _))
          | 15, _ =>
           obtain rfl := Option.some.inj ho
           have d13 := Hd.out 13 (by kernel_rfl)
           change (a.tmps[60]?.getD undef) = undef at d13
           clear Hd Hb
           exact Does.un rfl rfl d13 (HK.out _ _ rfl (Below.refl _ _))
          | 16, _ =>
           obtain rfl := Option.some.inj ho
           have d13 := Hd.out 13 (by kernel_rfl)
           change (a.tmps[60]?.getD undef) = undef at d13
           clear Hd Hb
           exact Does.un rfl rfl d13 (HK.out _ _ rfl (Below.refl _ _))
          | 17, _ =>
           obtain rfl := Option.some.inj ho
           have d13 := Hd.out 13 (by kernel_rfl)
           change (a.tmps[60]?.getD undef) = undef at d13
           clear Hd Hb
           exact Does.un rfl rfl d13 (HK.out _ _ rfl (Below.refl _ _))
          | 18, _ =>
           obtain rfl := Option.some.inj ho
           have d13 := Hd.out 13 (by kernel_rfl)
           change (a.tmps[60]?.getD undef) = undef at d13
           clear Hd Hb
           exact Does.un rfl rfl d13 (HK.out _ _ rfl (Below.refl _ _))
          | 19, _ =>
           obtain rfl := Option.some.inj ho
           have d13 := Hd.out 13 (by kernel_rfl)
           change (a.tmps[60]?.getD undef) = undef at d13
           clear Hd Hb
           exact Does.un rfl rfl d13 (HK.out _ _ rfl (Below.refl _ _))
          | 20, _ =>
           obtain rfl := Option.some.inj ho
           have d13 := Hd.out 13 (by kernel_rfl)
           change (a.tmps[60]?.getD undef) = undef at d13
           clear Hd Hb
           exact Does.un rfl rfl d13 (HK.out _ _ rfl (Below.refl _ _))
          | 21, _ =>
           obtain rfl := Option.some.inj ho
           have d13 := Hd.out 13 (by kernel_rfl)
           change (a.tmps[60]?.getD undef) = undef at d13
           clear Hd Hb
           exact Does.un rfl rfl d13 (HK.out _ _ rfl (Below.refl _ _))
          | 22, _ =>
           obtain rfl := Option.some.inj ho
           have d8 := Hd.out 8 (by kernel_rfl)
           change (a.tmps[55]?.getD undef) = .bool false at d8
           clear Hd Hb
           exact Does.no rfl rfl d8 (HK.out _ _ rfl (Below.refl _ _))
          | 23, _ =>
           obtain rfl := Option.some.inj ho
           have d8 := Hd.out 8 (by kernel_rfl)
           change (a.tmps[55]?.getD undef) = .bool false at d8
           have d22 := Hd.out 22 (by kernel_rfl)
           change (a.tmps[69]?.getD undef) = undef at d22
           have d4 := Hd.out 4 (by kernel_rfl)
           change (a.tmps[51]?.getD undef) = .bool false at d4
           clear Hd Hb
           refine Does.yes rfl rfl d4 ?_
           go_simp
           exact HK.out _ _ rfl (Below.refl _ _)
          | 24, _ =>
           obtain rfl := Option.some.inj ho
           have d4 := Hd.out 4 (by kernel_rfl)
           change (a.tmps[51]?.getD undef) = .bool false at d4
           have d23 := Hd.out 23 (by kernel_rfl)
           change (a.tmps[70]?.getD undef) = .bool false at d23
           clear Hd Hb
           refine Does.of rfl ?_
           go_simp
           exact HK.out _ _ rfl (Below.refl _ _)
          | 25, _ =>
           obtain rfl := Option.some.inj ho
           have d24 := Hd.out 24 (by kernel_rfl)
           change (a.tmps[71]?.getD undef) = .bool false at d24
           clear Hd Hb
           refine Does.of rfl ?_
           go_simp
           exact HK.out _ _ rfl (Below.refl _ _)
          | 26, _ =>
           obtain rfl := Option.some.inj ho
           have e5 : a.tmps[5]?.getD undef = .pointer (some ⟨wr.heap.size, 0, none⟩) := by rw [Hb.out.2.2 5 (by decide)]; rfl
           have d25 := Hd.out 25 (by kernel_rfl)
           change (a.tmps[72]?.getD undef) = .bool false at d25
           clear Hd Hb
           refine Does.yes rfl rfl d25 ?_
           go_simp
           exact HK.out _ _ rfl (Below.refl _ _)
          | 27, _ =>
           obtain rfl := Option.some.inj ho
           have d26 := Hd.out 26 (by kernel_rfl)
           change (a.tmps[73]?.getD undef) = .pointer (some ⟨wr.heap.size, 0, none⟩) at d26
           have d25 := Hd.out 25 (by kernel_rfl)
           change (a.tmps[72]?.getD undef) = .bool false at d25
           clear Hd Hb
           have m0 := (hG.cell (p := ⟨wr.heap.size, 0, none⟩) hl5).trans y0
           refine Does.yes rfl rfl d25 ?_
           go_simp
           exact HK.out _ _ rfl (Below.refl _ _)
          | 28, _ =>
           obtain rfl := Option.some.inj ho
           have e1 : a.tmps[1]?.getD undef = .pointer (some ⟨w.heap.size, 0, none⟩) := by rw [Hb.out.2.2 1 (by decide)]; rfl
           have d25 := Hd.out 25 (by kernel_rfl)
           change (a.tmps[72]?.getD undef) = .bool false at d25
           clear Hd Hb
           refine Does.yes rfl rfl d25 ?_
           go_simp
           exact HK.out _ _ rfl (Below.refl _ _)
          | 29, _ =>
           obtain rfl := Option.some.inj ho
           have d28 := Hd.out 28 (by kernel_rfl)
           change (a.tmps[75]?.getD undef) = .pointer (some ⟨w.heap.size, 0, none⟩) at d28
           have d25 := Hd.out 25 (by kernel_rfl)
           change (a.tmps[72]?.getD undef) = .bool false at d25
           clear Hd Hb
           have m0 := (hG.cell (p := ⟨w.heap.size, 0, none⟩) hg0).trans x0
           refine Does.yes rfl rfl d25 ?_
           go_simp
           exact HK.out _ _ rfl (Below.refl _ _)
          | 30, _ =>
           obtain rfl := Option.some.inj ho
           have e5 : a.tmps[5]?.getD undef = .pointer (some ⟨wr.heap.size, 0, none⟩) := by rw [Hb.out.2.2 5 (by decide)]; rfl
           have d25 := Hd.out 25 (by kernel_rfl)
           change (a.tmps[72]?.getD undef) = .bool false at d25
           clear Hd Hb
           refine Does.yes rfl rfl d25 ?_
           go_simp
           exact HK.out _ _ rfl (Below.refl _ _)
          | 31, _ =>
           obtain rfl := Option.some.inj ho
           have d30 := Hd.out 30 (by kernel_rfl)
           change (a.tmps[77]?.getD undef) = .pointer (some ⟨wr.heap.size, 1, none⟩) at d30
           have d25 := Hd.out 25 (by kernel_rfl)
           change (a.tmps[72]?.getD undef) = .bool false at d25
           clear Hd Hb
           have m0 := (hG.cell (p := ⟨wr.heap.size, 1, none⟩) hl5).trans y1
           refine Does.yes rfl rfl d25 ?_
           go_simp
           exact HK.out _ _ rfl (Below.refl _ _)
          | 32, _ =>
           obtain rfl := Option.some.inj ho
           have d29 := Hd.out 29 (by kernel_rfl)
           change (a.tmps[76]?.getD undef) = .slice am k.mem.length cm at d29
           have d31 := Hd.out 31 (by kernel_rfl)
           change (a.tmps[78]?.getD undef) = .int .i64 (-1) at d31
           have d25 := Hd.out 25 (by kernel_rfl)
           change (a.tmps[72]?.getD undef) = .bool false at d25
           clear Hd Hb
           refine Does.yes rfl rfl d25 ?_
           go_simp
           refine (CX.out _ hG).mono ?_; rintro e w_ ⟨v', ts, rfl, hO, hmem, _, hb2⟩
           exact HK.out _ _ ⟨ts, own_loV hO hG.size, hmem⟩ hb2
          | 33, _ =>
           obtain rfl := Option.some.inj ho
           have e1 : a.tmps[1]?.getD undef = .pointer (some ⟨w.heap.size, 0, none⟩) := by rw [Hb.out.2.2 1 (by decide)]; rfl
           have d27 := Hd.out 27 (by kernel_rfl)
           change (a.tmps[74]?.getD undef) = .slice ua (envAt k.envs j).rights.length uc at d27
           have d32 := Hd.out 32 (by kernel_rfl)
           change ReachIn wa.heap.size k.mem (-1) wx (a.tmps[79]?.getD undef) at d32
           have d25 := Hd.out 25 (by kernel_rfl)
           change (a.tmps[72]?.getD undef) = .bool false at d25
           clear Hd Hb
           generalize e79 : a.tmps[79]?.getD undef = v2 at d32
           obtain ⟨ts, hO, hmem⟩ := d32
           have CAx := CA.out wx hG v2 ts (OwnInts.rd hO) hmem
           refine Does.yes rfl rfl d25 ?_
           go_simp
           refine CAx.mono ?_; rintro e w_ ⟨rfl, hb2⟩
           exact HK.out _ _ rfl hb2
          | 34, _ =>
           obtain rfl := Option.some.inj ho
           have d33 := Hd.out 33 (by kernel_rfl)
           change (a.tmps[80]?.getD undef) = .bool true at d33
           have d25 := Hd.out 25 (by kernel_rfl)
           change (a.tmps[72]?.getD undef) = .bool false at d25
           clear Hd Hb
           refine Does.yes rfl rfl d25 ?_
           go_simp
           exact HK.out _ _ rfl (Below.refl _ _)
          | _ + 35, hq => exact absurd hq (by omega)
         ·intro vs wx hR hG
          have q25 := hR 25 (by decide)
          change (vs 25) = .bool false at q25
          have q34 := hR 34 (by decide)
          change (vs 34) = .bool false at q34
          clear hR
          simp only [fillAt, dstOf, List.range, List.range.loop, List.foldl_cons, List.foldl_nil, q25, q34]
          simp
          try generalize vs 0 = z0
          try generalize vs 1 = z1
          try generalize vs 2 = z2
          try generalize vs 3 = z3
          try generalize vs 4 = z4
          try generalize vs 5 = z5
          try generalize vs 6 = z6
          try generalize vs 7 = z7
          try generalize vs 8 = z8
          try generalize vs 9 = z9
          try generalize vs 10 = z10
          try generalize vs 11 = z11
          try generalize vs 12 = z12
          try generalize vs 13 = z13
          try generalize vs 14 = z14
          try generalize vs 15 = z15
          try generalize vs 16 = z16
          try generalize vs 17 = z17
          try generalize vs 18 = z18
          try generalize vs 19 = z19
          try generalize vs 20 = z20
          try generalize vs 21 = z21
          try generalize vs 22 = z22
          try generalize vs 23 = z23
          try generalize vs 24 = z24
          try generalize vs 26 = z26
          try generalize vs 27 = z27
          try generalize vs 28 = z28
          try generalize vs 29 = z29
          try generalize vs 30 = z30
          try generalize vs 31 = z31
          try generalize vs 32 = z32
          try generalize vs 33 = z33
          clear q25 q34
          have hbG := HBA.out.trans (hG.mono HBA.out.size)
          replace y1 := (hG.cell (p := ⟨wr.heap.size, 1, none⟩) hl5).trans y1
          have HO2 := Lib.hid (OwnInts.below HO.out hG)
          clear hG x0 x1 y0
          go_wp2_with fail
          go_roundw
          case rel => exact ⟨j + 1, by omega, by go_num, forall_lt_succ Hpre.out S.out, by rw [L.out]; exact HO2.out, hbG⟩
          case measure => simp [intOf]; omega
        ·have t6 : ((envAt k.envs j).root != -1) = true := by simp [e6]
         have CF0 := fun W (_ : Below wa.heap.size wa W) => same_below (isFrame_any (envAt k.envs j).root W)
         cases e7 : inB (envAt k.envs j).root 0 11
         ·rw [e7] at CF0
          have CF := Lib.hid CF0
          have S := Lib.hid (kern_env hlt (show envOk k (envAt k.envs j) = false by simp [envOk, e6, e7]))
          clear CF0 e6 e7
          refine wp_region_grow 35 Tryz.mixed (by kernel_rfl) 170 rfl (by kernel_rfl) (fun ix vv ww => match ix with
           | 0 => vv = .pointer (some ⟨wr.heap.size, 0, none⟩)
           | 1 => vv = .slice ua (envAt k.envs j).rights.length uc
           | 2 => vv = .bool true
           | 3 => vv = .bool false
           | 4 => vv = .bool false
           | 5 => vv = .pointer (some ⟨wr.heap.size, 1, none⟩)
           | 6 => vv = .int .i64 ((envAt k.envs j).root)
           | 7 => vv = .bool true
           | 8 => vv = .bool true
           | 9 => vv = .pointer (some ⟨wr.heap.size, 1, none⟩)
           | 10 => vv = .int .i64 ((envAt k.envs j).root)
           | 11 => vv = .bool false
           | 12 => vv = .bool true
           | 13 => vv = .bool true
           | 14 => vv = undef
           | 15 => vv = undef
           | 16 => vv = undef
           | 17 => vv = undef
           | 18 => vv = undef
           | 19 => vv = undef
           | 20 => vv = undef
           | 21 => vv = undef
           | 22 => vv = .bool true
           | 23 => vv = .bool true
           | 24 => vv = .bool true
           | 25 => vv = .bool true
           | 26 => vv = undef
           | 27 => vv = undef
           | 28 => vv = undef
           | 29 => vv = undef
           | 30 => vv = undef
           | 31 => vv = undef
           | 32 => vv = undef
           | 33 => vv = undef
           | 34 => vv = undef
           | _ => True) ?_ ?_ ?_
          ·intro i hi vv wz ww' hbz hz
           match i, hi with
           | 0, _ => exact hz
           | 1, _ => exact hz
           | 2, _ => exact hz
           | 3, _ => exact hz
           | 4, _ => exact hz
           | 5, _ => exact hz
           | 6, _ => exact hz
           | 7, _ => exact hz
           | 8, _ => exact hz
           | 9, _ => exact hz
           | 10, _ => exact hz
           | 11, _ => exact hz
           | 12, _ => exact hz
           | 13, _ => exact hz
           | 14, _ => exact hz
           | 15, _ => exact hz
           | 16, _ => exact hz
           | 17, _ => exact hz
           | 18, _ => exact hz
           | 19, _ => exact hz
           | 20, _ => exact hz
           | 21, _ => exact hz
           | 22, _ => exact hz
           | 23, _ => exact hz
           | 24, _ => exact hz
           | 25, _ => exact hz
           | 26, _ => exact hz
           | 27, _ => exact hz
           | 28, _ => exact hz
           | 29, _ => exact hz
           | 30, _ => exact hz
           | 31, _ => exact hz
           | 32, _ => exact hz
           | 33, _ => exact hz
           | 34, _ => exact hz
           | _ + 35, hq => exact absurd hq (by omega)
          ·intro i hi o ho a wx Hb Hd hG K HK
           match i, hi with
           | 0, _ =>
            obtain rfl := Option.some.inj ho
            have e5 : a.tmps[5]?.getD undef = .pointer (some ⟨wr.heap.size, 0, none⟩) := by rw [Hb.out.2.2 5 (by decide)]; rfl
            clear Hd Hb
            refine Does.of rfl ?_
            go_simp
            exact HK.out _ _ rfl (Below.refl _ _)
           | 1, _ =>
            obtain rfl := Option.some.inj ho
            have d0 := Hd.out 0 (by kernel_rfl)
            change (a.tmps[47]?.getD undef) = .pointer (some ⟨wr.heap.size, 0, none⟩) at d0
            clear Hd Hb
            have m0 := (hG.cell (p := ⟨wr.heap.size, 0, none⟩) hl5).trans y0
            refine Does.of rfl ?_
            go_simp
            exact HK.out _ _ rfl (Below.refl _ _)
           | 2, _ =>
            obtain rfl := Option.some.inj ho
            have d1 := Hd.out 1 (by kernel_rfl)
            change (a.tmps[48]?.getD undef) = .slice ua (envAt k.envs j).rights.length uc at d1
            clear Hd Hb
            refine Does.of rfl ?_
            go_simp
            refine (CR.out _ hG).mono ?_; rintro e w_ ⟨rfl, hb2⟩
            exact HK.out _ _ rfl hb2
           | 3, _ =>
            obtain rfl := Option.some.inj ho
            have d2 := Hd.out 2 (by kernel_rfl)
            change (a.tmps[49]?.getD undef) = .bool true at d2
            clear Hd Hb
            refine Does.of rfl ?_
            go_simp
            exact HK.out _ _ rfl (Below.refl _ _)
           | 4, _ =>
            obtain rfl := Option.some.inj ho
            have d3 := Hd.out 3 (by kernel_rfl)
            change (a.tmps[50]?.getD undef) = .bool false at d3
            clear Hd Hb
            refine Does.of rfl ?_
            go_simp
            exact HK.out _ _ rfl (Below.refl _ _)
           | 5, _ =>
            obtain rfl := Option.some.inj ho
            have e5 : a.tmps[5]?.getD undef = .pointer (some ⟨wr.heap.size, 0, none⟩) := by rw [Hb.out.2.2 5 (by decide)]; rfl
            have d4 := Hd.out 4 (by kernel_rfl)
            change (a.tmps[51]?.getD undef) = .bool false at d4
            clear Hd Hb
            refine Does.yes rfl rfl d4 ?_
            go_simp
            exact HK.out _ _ rfl (Below.refl _ _)
           | 6, _ =>
            obtain rfl := Option.some.inj ho
            have d5 := Hd.out 5 (by kernel_rfl)
            change (a.tmps[52]?.getD undef) = .pointer (some ⟨wr.heap.size, 1, none⟩) at d5
            have d4 := Hd.out 4 (by kernel_rfl)
            change (a.tmps[51]?.getD undef) = .bool false at d4
            clear Hd Hb
            have m0 := (hG.cell (p := ⟨wr.heap.size, 1, none⟩) hl5).trans y1
            refine Does.yes rfl rfl d4 ?_
            go_simp
            exact HK.out _ _ rfl (Below.refl _ _)
           | 7, _ =>
            obtain rfl := Option.some.inj ho
            have d6 := Hd.out 6 (by kernel_rfl)
            change (a.tmps[53]?.getD undef) = .int .i64 ((envAt k.envs j).root) at d6
            have d4 := Hd.out 4 (by kernel_rfl)
            change (a.tmps[51]?.getD undef) = .bool false at d4
            clear Hd Hb
            refine Does.yes rfl rfl d4 ?_
            go_simp
            exact HK.out _ _ rfl (Below.refl _ _)
           | 8, _ =>
            obtain rfl := Option.some.inj ho
            have d7 := Hd.out 7 (by kernel_rfl)
            change (a.tmps[54]?.getD undef) = .bool true at d7
            have d4 := Hd.out 4 (by kernel_rfl)
            change (a.tmps[51]?.getD undef) = .bool false at d4
            clear Hd Hb
            refine Does.yes rfl rfl d4 ?_
            go_simp
            exact HK.out _ _ rfl (Below.refl _ _)
           | 9, _ =>
            obtain rfl := Option.some.inj ho
            have e5 : a.tmps[5]?.getD undef = .pointer (some ⟨wr.heap.size, 0, none⟩) := by rw [Hb.out.2.2 5 (by decide)]; rfl
            have d8 := Hd.out 8 (by kernel_rfl)
            change (a.tmps[55]?.getD undef) = .bool true at d8
            clear Hd Hb
            refine Does.yes rfl rfl d8 ?_
            go_simp
            exact HK.out _ _ rfl (Below.refl _ _)
           | 10, _ =>
            obtain rfl := Option.some.inj ho
            have d9 := Hd.out 9 (by kernel_rfl)
            change (a.tmps[56]?.getD undef) = .pointer (some ⟨wr.heap.size, 1, none⟩) at d9
            have d8 := Hd.out 8 (by kernel_rfl)
            change (a.tmps[55]?.getD undef) = .bool true at d8
            clear Hd Hb
            have m0 := (hG.cell (p := ⟨wr.heap.size, 1, none⟩) hl5).trans y1
            refine Does.yes rfl rfl d8 ?_
            go_simp
            exact HK.out _ _ rfl (Below.refl _ _)
           | 11, _ =>
            obtain rfl := Option.some.inj ho
            have d10 := Hd.out 10 (by kernel_rfl)
            change (a.tmps[57]?.getD undef) = .int .i64 ((envAt k.envs j).root) at d10
            have d8 := Hd.out 8 (by kernel_rfl)
            change (a.tmps[55]?.getD undef) = .bool true at d8
            clear Hd Hb
            refine Does.yes rfl rfl d8 ?_
            go_simp
            refine (CF.out _ hG).mono ?_; rintro e w_ ⟨rfl, hb2⟩
            exact HK.out _ _ rfl hb2
           | 12, _ =>
            obtain rfl := Option.some.inj ho
            have d11 := Hd.out 11 (by kernel_rfl)
            change (a.tmps[58]?.getD undef) = .bool false at d11
            have d8 := Hd.out 8 (by kernel_rfl)
            change (a.tmps[55]?.getD undef) = .bool true at d8
            clear Hd Hb
            refine Does.yes rfl rfl d8 ?_
            go_simp
            exact HK.out _ _ rfl (Below.refl _ _)
           | 13, _ =>
            obtain rfl := Option.some.inj ho
            have d12 := Hd.out 12 (by kernel_rfl)
            change (a.tmps[59]?.getD undef) = .bool true at d12
            have d8 := Hd.out 8 (by kernel_rfl)
            change (a.tmps[55]?.getD undef) = .bool true at d8
            clear Hd Hb
            refine Does.yes rfl rfl d8 ?_
            go_simp
            exact HK.out _ _ rfl (Below.refl _ _)
           | 14, _ =>
            obtain rfl := Option.some.inj ho
            have d13 := Hd.out 13 (by kernel_rfl)
            change (a.tmps[60]?.getD undef) = .bool true at d13
            clear Hd Hb
            exact Does.no rfl rfl d13 (HK.out _ _ rfl (Below.refl _ _))
           | 15, _ =>
            obtain rfl := Option.some.inj ho
            have d13 := Hd.out 13 (by kernel_rfl)
            change (a.tmps[60]?.getD undef) = .bool true at d13
            clear Hd Hb
            exact Does.no rfl rfl d13 (HK.out _ _ rfl (Below.refl _ _))
           | 16, _ =>
            obtain rfl := Option.some.inj ho
            have d13 := Hd.out 13 (by kernel_rfl)
            change (a.tmps[60]?.getD undef) = .bool true at d13
            clear Hd Hb
            exact Does.no rfl rfl d13 (HK.out _ _ rfl (Below.refl _ _))
           | 17, _ =>
            obtain rfl := Option.some.inj ho
            have d13 := Hd.out 13 (by kernel_rfl)
            change (a.tmps[60]?.getD undef) = .bool true at d13
            clear Hd Hb
            exact Does.no rfl rfl d13 (HK.out _ _ rfl (Below.refl _ _))
           | 18, _ =>
            obtain rfl := Option.some.inj ho
            have d13 := Hd.out 13 (by kernel_rfl)
            change (a.tmps[60]?.getD undef) = .bool true at d13
            clear Hd Hb
            exact Does.no rfl rfl d13 (HK.out _ _ rfl (Below.refl _ _))
           | 19, _ =>
            obtain rfl := Option.some.inj ho
            have d13 := Hd.out 13 (by kernel_rfl)
            change (a.tmps[60]?.getD undef) = .bool true at d13
            clear Hd Hb
            exact Does.no rfl rfl d13 (HK.out _ _ rfl (Below.refl _ _))
           | 20, _ =>
            obtain rfl := Option.some.inj ho
            have d13 := Hd.out 13 (by kernel_rfl)
            change (a.tmps[60]?.getD undef) = .bool true at d13
            clear Hd Hb
            exact Does.no rfl rfl d13 (HK.out _ _ rfl (Below.refl _ _))
           | 21, _ =>
            obtain rfl := Option.some.inj ho
            have d13 := Hd.out 13 (by kernel_rfl)
            change (a.tmps[60]?.getD undef) = .bool true at d13
            clear Hd Hb
            exact Does.no rfl rfl d13 (HK.out _ _ rfl (Below.refl _ _))
           | 22, _ =>
            obtain rfl := Option.some.inj ho
            have d13 := Hd.out 13 (by kernel_rfl)
            change (a.tmps[60]?.getD undef) = .bool true at d13
            have d21 := Hd.out 21 (by kernel_rfl)
            change (a.tmps[68]?.getD undef) = undef at d21
            have d8 := Hd.out 8 (by kernel_rfl)
            change (a.tmps[55]?.getD undef) = .bool true at d8
            clear Hd Hb
            refine Does.yes rfl rfl d8 ?_
            go_simp
            exact HK.out _ _ rfl (Below.refl _ _)
           | 23, _ =>
            obtain rfl := Option.some.inj ho
            have d8 := Hd.out 8 (by kernel_rfl)
            change (a.tmps[55]?.getD undef) = .bool true at d8
            have d22 := Hd.out 22 (by kernel_rfl)
            change (a.tmps[69]?.getD undef) = .bool true at d22
            have d4 := Hd.out 4 (by kernel_rfl)
            change (a.tmps[51]?.getD undef) = .bool false at d4
            clear Hd Hb
            refine Does.yes rfl rfl d4 ?_
            go_simp
            exact HK.out _ _ rfl (Below.refl _ _)
           | 24, _ =>
            obtain rfl := Option.some.inj ho
            have d4 := Hd.out 4 (by kernel_rfl)
            change (a.tmps[51]?.getD undef) = .bool false at d4
            have d23 := Hd.out 23 (by kernel_rfl)
            change (a.tmps[70]?.getD undef) = .bool true at d23
            clear Hd Hb
            refine Does.of rfl ?_
            go_simp
            exact HK.out _ _ rfl (Below.refl _ _)
           | 25, _ =>
            obtain rfl := Option.some.inj ho
            have d24 := Hd.out 24 (by kernel_rfl)
            change (a.tmps[71]?.getD undef) = .bool true at d24
            clear Hd Hb
            refine Does.of rfl ?_
            go_simp
            exact HK.out _ _ rfl (Below.refl _ _)
           | 26, _ =>
            obtain rfl := Option.some.inj ho
            have d25 := Hd.out 25 (by kernel_rfl)
            change (a.tmps[72]?.getD undef) = .bool true at d25
            clear Hd Hb
            exact Does.no rfl rfl d25 (HK.out _ _ rfl (Below.refl _ _))
           | 27, _ =>
            obtain rfl := Option.some.inj ho
            have d25 := Hd.out 25 (by kernel_rfl)
            change (a.tmps[72]?.getD undef) = .bool true at d25
            clear Hd Hb
            exact Does.no rfl rfl d25 (HK.out _ _ rfl (Below.refl _ _))
           | 28, _ =>
            obtain rfl := Option.some.inj ho
            have d25 := Hd.out 25 (by kernel_rfl)
            change (a.tmps[72]?.getD undef) = .bool true at d25
            clear Hd Hb
            exact Does.no rfl rfl d25 (HK.out _ _ rfl (Below.refl _ _))
           | 29, _ =>
            obtain rfl := Option.some.inj ho
            have d25 := Hd.out 25 (by kernel_rfl)
            change (a.tmps[72]?.getD undef) = .bool true at d25
            clear Hd Hb
            exact Does.no rfl rfl d25 (HK.out _ _ rfl (Below.refl _ _))
           | 30, _ =>
            obtain rfl := Option.some.inj ho
            have d25 := Hd.out 25 (by kernel_rfl)
            change (a.tmps[72]?.getD undef) = .bool true at d25
            clear Hd Hb
            exact Does.no rfl rfl d25 (HK.out _ _ rfl (Below.refl _ _))
           | 31, _ =>
            obtain rfl := Option.some.inj ho
            have d25 := Hd.out 25 (by kernel_rfl)
            change (a.tmps[72]?.getD undef) = .bool true at d25
            clear Hd Hb
            exact Does.no rfl rfl d25 (HK.out _ _ rfl (Below.refl _ _))
           | 32, _ =>
            obtain rfl := Option.some.inj ho
            have d25 := Hd.out 25 (by kernel_rfl)
            change (a.tmps[72]?.getD undef) = .bool true at d25
            clear Hd Hb
            exact Does.no rfl rfl d25 (HK.out _ _ rfl (Below.refl _ _))
           | 33, _ =>
            obtain rfl := Option.some.inj ho
            have d25 := Hd.out 25 (by kernel_rfl)
            change (a.tmps[72]?.getD undef) = .bool true at d25
            clear Hd Hb
            exact Does.no rfl rfl d25 (HK.out _ _ rfl (Below.refl _ _))
           | 34, _ =>
            obtain rfl := Option.some.inj ho
            have d25 := Hd.out 25 (by kernel_rfl)
            change (a.tmps[72]?.getD undef) = .bool true at d25
            clear Hd Hb
            exact Does.no rfl rfl d25 (HK.out _ _ rfl (Below.refl _ _))
           | _ + 35, hq => exact absurd hq (by omega)
          ·intro vs wx hR hG
           have q25 := hR 25 (by decide)
           change (vs 25) = .bool true at q25
           have q34 := hR 34 (by decide)
           change (vs 34) = undef at q34
           clear hR
           simp only [fillAt, dstOf, List.range, List.range.loop, List.foldl_cons, List.foldl_nil, q25, q34]
           simp
           try generalize vs 0 = z0
           try generalize vs 1 = z1
           try generalize vs 2 = z2
           try generalize vs 3 = z3
           try generalize vs 4 = z4
           try generalize vs 5 = z5
           try generalize vs 6 = z6
           try generalize vs 7 = z7
           try generalize vs 8 = z8
           try generalize vs 9 = z9
           try generalize vs 10 = z10
           try generalize vs 11 = z11
           try generalize vs 12 = z12
           try generalize vs 13 = z13
           try generalize vs 14 = z14
           try generalize vs 15 = z15
           try generalize vs 16 = z16
           try generalize vs 17 = z17
           try generalize vs 18 = z18
           try generalize vs 19 = z19
           try generalize vs 20 = z20
           try generalize vs 21 = z21
           try generalize vs 22 = z22
           try generalize vs 23 = z23
           try generalize vs 24 = z24
           try generalize vs 26 = z26
           try generalize vs 27 = z27
           try generalize vs 28 = z28
           try generalize vs 29 = z29
           try generalize vs 30 = z30
           try generalize vs 31 = z31
           try generalize vs 32 = z32
           try generalize vs 33 = z33
           clear q25 q34
           have hbG := HBA.out.trans (hG.mono HBA.out.size)
           clear hG
           go_wp2_with fail
           go_ret
           exact ⟨ret_bool S.out.symm, HB0.out.trans (hbG.mono HB0.out.size)⟩
         ·rw [e7] at CF0
          obtain ⟨r, hr⟩ : ∃ r : Nat, (envAt k.envs j).root = (r : Int) := ⟨(envAt k.envs j).root.toNat, by have := (inB_iff.1 e7).1; omega⟩
          have hr12 : r < 12 := by have := (inB_iff.1 e7).2; omega
          have E7 := Lib.hid (And.intro e6 e7)
          rw [hr] at CF0 t6 y1
          have CF := Lib.hid CF0
          have Hr := Lib.hid hr
          clear CF0 e6 e7 hr
          have hri : (r : Int) < k.infos.length := by have := hl12.out; omega
          obtain ⟨a9, c9, ev, _, _, H2o⟩ := RdF.open infoCs_len (by decide) (RdF.below H2.out HBA.out)
          cases ev
          obtain ⟨bi, offi, rfl, hbi, f0c, _, _⟩ := H2o.infoCells (show r < k.infos.length by have := hl12.out; omega)
          clear H2o
          by_cases e8 : (infoAt k.infos r).k = 3
          ·have t8 : ((infoAt k.infos r).k != 3) = false := by simp [e8]
           have CX := Lib.hid (fun W (hW : Below wa.heap.size wa W) => reached_any _ k.mem r W ((H1.out.below HBA.out).below hW) T1.out hr12)
           have x1' := x1
           have CA := Lib.hid (fun W (hW : Below wa.heap.size wa W) v2 ts (h2 : RdInts W v2 (ints ts)) (hm : ∀ g, g ∈ ts ↔ g ∈ reachL k.mem (r : Int)) => by have := allowed_any w.heap.size _ v2 _ (envAt k.envs j).rights ts k.infos W ((hW.cell (p := ⟨w.heap.size, 1, none⟩) hg0).trans x1') (RdF.below (RdF.below HR.out HBA.out) hW) (RdF.below (RdF.below H2.out HBA.out) hW) h2 (fun f hf => by have := reach_lt (root := (r : Int)) (by omega) f ((hm f).1 hf); have := hl12.out; omega); rw [allowed_mem hm] at this; exact this)
           clear x1'
           have E8 := Lib.hid e8
           clear e8
           generalize hbb : allowedP k.infos (reachL k.mem (r : Int)) (envAt k.envs j).rights = bb at CA
           have HBb := Lib.hid hbb
           clear hbb
           refine wp_region_grow 35 Tryz.mixed (by kernel_rfl) 170 rfl (by kernel_rfl) (fun ix vv ww => match ix with
            | 0 => vv = .pointer (some ⟨wr.heap.size, 0, none⟩)
            | 1 => vv = .slice ua (envAt k.envs j).rights.length uc
            | 2 => vv = .bool true
            | 3 => vv = .bool false
            | 4 => vv = .bool false
            | 5 => vv = .pointer (some ⟨wr.heap.size, 1, none⟩)
            | 6 => vv = .int .i64 ((r : Int))
            | 7 => vv = .bool true
            | 8 => vv = .bool true
            | 9 => vv = .pointer (some ⟨wr.heap.size, 1, none⟩)
            | 10 => vv = .int .i64 ((r : Int))
            | 11 => vv = .bool true
            | 12 => vv = .bool false
            | 13 => vv = .bool false
            | 14 => vv = .pointer (some ⟨w.heap.size, 1, none⟩)
            | 15 => vv = .slice (some ⟨bi, offi, none⟩) k.infos.length ci
            | 16 => vv = .pointer (some ⟨wr.heap.size, 1, none⟩)
            | 17 => vv = .int .i64 ((r : Int))
            | 18 => vv = .pointer (some ⟨bi, offi + r * 3, none⟩)
            | 19 => vv = .pointer (some ⟨bi, offi + r * 3, none⟩)
            | 20 => vv = .int .i64 ((infoAt k.infos r).k)
            | 21 => vv = .bool false
            | 22 => vv = .bool false
            | 23 => vv = .bool false
            | 24 => vv = .bool false
            | 25 => vv = .bool false
            | 26 => vv = .pointer (some ⟨wr.heap.size, 0, none⟩)
            | 27 => vv = .slice ua (envAt k.envs j).rights.length uc
            | 28 => vv = .pointer (some ⟨w.heap.size, 0, none⟩)
            | 29 => vv = .slice am k.mem.length cm
            | 30 => vv = .pointer (some ⟨wr.heap.size, 1, none⟩)
            | 31 => vv = .int .i64 ((r : Int))
            | 32 => ReachIn wa.heap.size k.mem ((r : Int)) ww vv
            | 33 => vv = .bool bb
            | 34 => vv = .bool (!bb)
            | _ => True) ?_ ?_ ?_
           ·intro i hi vv wz ww' hbz hz
            match i, hi with
            | 0, _ => exact hz
            | 1, _ => exact hz
            | 2, _ => exact hz
            | 3, _ => exact hz
            | 4, _ => exact hz
            | 5, _ => exact hz
            | 6, _ => exact hz
            | 7, _ => exact hz
            | 8, _ => exact hz
            | 9, _ => exact hz
            | 10, _ => exact hz
            | 11, _ => exact hz
            | 12, _ => exact hz
            | 13, _ => exact hz
            | 14, _ => exact hz
            | 15, _ => exact hz
            | 16, _ => exact hz
            | 17, _ => exact hz
            | 18, _ => exact hz
            | 19, _ => exact hz
            | 20, _ => exact hz
            | 21, _ => exact hz
            | 22, _ => exact hz
            | 23, _ => exact hz
            | 24, _ => exact hz
            | 25, _ => exact hz
            | 26, _ => exact hz
            | 27, _ => exact hz
            | 28, _ => exact hz
            | 29, _ => exact hz
            | 30, _ => exact hz
            | 31, _ => exact hz
            | 32, _ => exact (ReachIn.below hz hbz)
            | 33, _ => exact hz
            | 34, _ => exact hz
            | _ + 35, hq => exact absurd hq (by omega)
           ·intro i hi o ho a wx Hb Hd hG K HK
            match i, hi with
            | 0, _ =>
             obtain rfl := Option.some.inj ho
             have e5 : a.tmps[5]?.getD undef = .pointer (some ⟨wr.heap.size, 0, none⟩) := by rw [Hb.out.2.2 5 (by decide)]; rfl
             clear Hd Hb
             refine Does.of rfl ?_
             go_simp
             exact HK.out _ _ rfl (Below.refl _ _)
            | 1, _ =>
             obtain rfl := Option.some.inj ho
             have d0 := Hd.out 0 (by kernel_rfl)
             change (a.tmps[47]?.getD undef) = .pointer (some ⟨wr.heap.size, 0, none⟩) at d0
             clear Hd Hb
             have m0 := (hG.cell (p := ⟨wr.heap.size, 0, none⟩) hl5).trans y0
             refine Does.of rfl ?_
             go_simp
             exact HK.out _ _ rfl (Below.refl _ _)
            | 2, _ =>
             obtain rfl := Option.some.inj ho
             have d1 := Hd.out 1 (by kernel_rfl)
             change (a.tmps[48]?.getD undef) = .slice ua (envAt k.envs j).rights.length uc at d1
             clear Hd Hb
             refine Does.of rfl ?_
             go_simp
             refine (CR.out _ hG).mono ?_; rintro e w_ ⟨rfl, hb2⟩
             exact HK.out _ _ rfl hb2
            | 3, _ =>
             obtain rfl := Option.some.inj ho
             have d2 := Hd.out 2 (by kernel_rfl)
             change (a.tmps[49]?.getD undef) = .bool true at d2
             clear Hd Hb
             refine Does.of rfl ?_
             go_simp
             exact HK.out _ _ rfl (Below.refl _ _)
            | 4, _ =>
             obtain rfl := Option.some.inj ho
             have d3 := Hd.out 3 (by kernel_rfl)
             change (a.tmps[50]?.getD undef) = .bool false at d3
             clear Hd Hb
             refine Does.of rfl ?_
             go_simp
             exact HK.out _ _ rfl (Below.refl _ _)
            | 5, _ =>
             obtain rfl := Option.some.inj ho
             have e5 : a.tmps[5]?.getD undef = .pointer (some ⟨wr.heap.size, 0, none⟩) := by rw [Hb.out.2.2 5 (by decide)]; rfl
             have d4 := Hd.out 4 (by kernel_rfl)
             change (a.tmps[51]?.getD undef) = .bool false at d4
             clear Hd Hb
             refine Does.yes rfl rfl d4 ?_
             go_simp
             exact HK.out _ _ rfl (Below.refl _ _)
            | 6, _ =>
             obtain rfl := Option.some.inj ho
             have d5 := Hd.out 5 (by kernel_rfl)
             change (a.tmps[52]?.getD undef) = .pointer (some ⟨wr.heap.size, 1, none⟩) at d5
             have d4 := Hd.out 4 (by kernel_rfl)
             change (a.tmps[51]?.getD undef) = .bool false at d4
             clear Hd Hb
             have m0 := (hG.cell (p := ⟨wr.heap.size, 1, none⟩) hl5).trans y1
             refine Does.yes rfl rfl d4 ?_
             go_simp
             exact HK.out _ _ rfl (Below.refl _ _)
            | 7, _ =>
             obtain rfl := Option.some.inj ho
             have d6 := Hd.out 6 (by kernel_rfl)
             change (a.tmps[53]?.getD undef) = .int .i64 ((r : Int)) at d6
             have d4 := Hd.out 4 (by kernel_rfl)
             change (a.tmps[51]?.getD undef) = .bool false at d4
             clear Hd Hb
             refine Does.yes rfl rfl d4 ?_
             go_simp
             exact HK.out _ _ rfl (Below.refl _ _)
            | 8, _ =>
             obtain rfl := Option.some.inj ho
             have d7 := Hd.out 7 (by kernel_rfl)
             change (a.tmps[54]?.getD undef) = .bool true at d7
             have d4 := Hd.out 4 (by kernel_rfl)
             change (a.tmps[51]?.getD undef) = .bool false at d4
             clear Hd Hb
             refine Does.yes rfl rfl d4 ?_
             go_simp
             exact HK.out _ _ rfl (Below.refl _ _)
            | 9, _ =>
             obtain rfl := Option.some.inj ho
             have e5 : a.tmps[5]?.getD undef = .pointer (some ⟨wr.heap.size, 0, none⟩) := by rw [Hb.out.2.2 5 (by decide)]; rfl
             have d8 := Hd.out 8 (by kernel_rfl)
             change (a.tmps[55]?.getD undef) = .bool true at d8
             clear Hd Hb
             refine Does.yes rfl rfl d8 ?_
             go_simp
             exact HK.out _ _ rfl (Below.refl _ _)
            | 10, _ =>
             obtain rfl := Option.some.inj ho
             have d9 := Hd.out 9 (by kernel_rfl)
             change (a.tmps[56]?.getD undef) = .pointer (some ⟨wr.heap.size, 1, none⟩) at d9
             have d8 := Hd.out 8 (by kernel_rfl)
             change (a.tmps[55]?.getD undef) = .bool true at d8
             clear Hd Hb
             have m0 := (hG.cell (p := ⟨wr.heap.size, 1, none⟩) hl5).trans y1
             refine Does.yes rfl rfl d8 ?_
             go_simp
             exact HK.out _ _ rfl (Below.refl _ _)
            | 11, _ =>
             obtain rfl := Option.some.inj ho
             have d10 := Hd.out 10 (by kernel_rfl)
             change (a.tmps[57]?.getD undef) = .int .i64 ((r : Int)) at d10
             have d8 := Hd.out 8 (by kernel_rfl)
             change (a.tmps[55]?.getD undef) = .bool true at d8
             clear Hd Hb
             refine Does.yes rfl rfl d8 ?_
             go_simp
             refine (CF.out _ hG).mono ?_; rintro e w_ ⟨rfl, hb2⟩
             exact HK.out _ _ rfl hb2
            | 12, _ =>
             obtain rfl := Option.some.inj ho
             have d11 := Hd.out 11 (by kernel_rfl)
             change (a.tmps[58]?.getD undef) = .bool true at d11
             have d8 := Hd.out 8 (by kernel_rfl)
             change (a.tmps[55]?.getD undef) = .bool true at d8
             clear Hd Hb
             refine Does.yes rfl rfl d8 ?_
             go_simp
             exact HK.out _ _ rfl (Below.refl _ _)
            | 13, _ =>
             obtain rfl := Option.some.inj ho
             have d12 := Hd.out 12 (by kernel_rfl)
             change (a.tmps[59]?.getD undef) = .bool false at d12
             have d8 := Hd.out 8 (by kernel_rfl)
             change (a.tmps[55]?.getD undef) = .bool true at d8
             clear Hd Hb
             refine Does.yes rfl rfl d8 ?_
             go_simp
             exact HK.out _ _ rfl (Below.refl _ _)
            | 14, _ =>
             obtain rfl := Option.some.inj ho
             have e1 : a.tmps[1]?.getD undef = .pointer (some ⟨w.heap.size, 0, none⟩) := by rw [Hb.out.2.2 1 (by decide)]; rfl
             have d13 := Hd.out 13 (by kernel_rfl)
             change (a.tmps[60]?.getD undef) = .bool false at d13
             clear Hd Hb
             refine Does.yes rfl rfl d13 ?_
             go_simp
             exact HK.out _ _ rfl (Below.refl _ _)
            | 15, _ =>
             obtain rfl := Option.some.inj ho
             have d14 := Hd.out 14 (by kernel_rfl)
             change (a.tmps[61]?.getD undef) = .pointer (some ⟨w.heap.size, 1, none⟩) at d14
             have d13 := Hd.out 13 (by kernel_rfl)
             change (a.tmps[60]?.getD undef) = .bool false at d13
             clear Hd Hb
             have m0 := (hG.cell (p := ⟨w.heap.size, 1, none⟩) hg0).trans x1
             refine Does.yes rfl rfl d13 ?_
             go_simp
             exact HK.out _ _ rfl (Below.refl _ _)
            | 16, _ =>
             obtain rfl := Option.some.inj ho
             have e5 : a.tmps[5]?.getD undef = .pointer (some ⟨wr.heap.size, 0, none⟩) := by rw [Hb.out.2.2 5 (by decide)]; rfl
             have d13 := Hd.out 13 (by kernel_rfl)
             change (a.tmps[60]?.getD undef) = .bool false at d13
             clear Hd Hb
             refine Does.yes rfl rfl d13 ?_
             go_simp
             exact HK.out _ _ rfl (Below.refl _ _)
            | 17, _ =>
             obtain rfl := Option.some.inj ho
             have d16 := Hd.out 16 (by kernel_rfl)
             change (a.tmps[63]?.getD undef) = .pointer (some ⟨wr.heap.size, 1, none⟩) at d16
             have d13 := Hd.out 13 (by kernel_rfl)
             change (a.tmps[60]?.getD undef) = .bool false at d13
             clear Hd Hb
             have m0 := (hG.cell (p := ⟨wr.heap.size, 1, none⟩) hl5).trans y1
             refine Does.yes rfl rfl d13 ?_
             go_simp
             exact HK.out _ _ rfl (Below.refl _ _)
            | 18, _ =>
             obtain rfl := Option.some.inj ho
             have d15 := Hd.out 15 (by kernel_rfl)
             change (a.tmps[62]?.getD undef) = .slice (some ⟨bi, offi, none⟩) k.infos.length ci at d15
             have d17 := Hd.out 17 (by kernel_rfl)
             change (a.tmps[64]?.getD undef) = .int .i64 ((r : Int)) at d17
             have d13 := Hd.out 13 (by kernel_rfl)
             change (a.tmps[60]?.getD undef) = .bool false at d13
             clear Hd Hb
             refine Does.yes rfl rfl d13 ?_
             go_simp
             exact HK.out _ _ rfl (Below.refl _ _)
            | 19, _ =>
             obtain rfl := Option.some.inj ho
             have d18 := Hd.out 18 (by kernel_rfl)
             change (a.tmps[65]?.getD undef) = .pointer (some ⟨bi, offi + r * 3, none⟩) at d18
             have d13 := Hd.out 13 (by kernel_rfl)
             change (a.tmps[60]?.getD undef) = .bool false at d13
             clear Hd Hb
             refine Does.yes rfl rfl d13 ?_
             go_simp
             exact HK.out _ _ rfl (Below.refl _ _)
            | 20, _ =>
             obtain rfl := Option.some.inj ho
             have d19 := Hd.out 19 (by kernel_rfl)
             change (a.tmps[66]?.getD undef) = .pointer (some ⟨bi, offi + r * 3, none⟩) at d19
             have d13 := Hd.out 13 (by kernel_rfl)
             change (a.tmps[60]?.getD undef) = .bool false at d13
             clear Hd Hb
             have m0 := (hG.cell (p := ⟨bi, offi + r * 3, none⟩) hbi).trans f0c
             refine Does.yes rfl rfl d13 ?_
             go_simp
             exact HK.out _ _ rfl (Below.refl _ _)
            | 21, _ =>
             obtain rfl := Option.some.inj ho
             have d20 := Hd.out 20 (by kernel_rfl)
             change (a.tmps[67]?.getD undef) = .int .i64 ((infoAt k.infos r).k) at d20
             have d13 := Hd.out 13 (by kernel_rfl)
             change (a.tmps[60]?.getD undef) = .bool false at d13
             clear Hd Hb
             refine Does.yes rfl rfl d13 ?_
             go_simp
             exact HK.out _ _ rfl (Below.refl _ _)
            | 22, _ =>
             obtain rfl := Option.some.inj ho
             have d13 := Hd.out 13 (by kernel_rfl)
             change (a.tmps[60]?.getD undef) = .bool false at d13
             have d21 := Hd.out 21 (by kernel_rfl)
             change (a.tmps[68]?.getD undef) = .bool false at d21
             have d8 := Hd.out 8 (by kernel_rfl)
             change (a.tmps[55]?.getD undef) = .bool true at d8
             clear Hd Hb
             refine Does.yes rfl rfl d8 ?_
             go_simp
             exact HK.out _ _ rfl (Below.refl _ _)
            | 23, _ =>
             obtain rfl := Option.some.inj ho
             have d8 := Hd.out 8 (by kernel_rfl)
             change (a.tmps[55]?.getD undef) = .bool true at d8
             have d22 := Hd.out 22 (by kernel_rfl)
             change (a.tmps[69]?.getD undef) = .bool false at d22
             have d4 := Hd.out 4 (by kernel_rfl)
             change (a.tmps[51]?.getD undef) = .bool false at d4
             clear Hd Hb
             refine Does.yes rfl rfl d4 ?_
             go_simp
             exact HK.out _ _ rfl (Below.refl _ _)
            | 24, _ =>
             obtain rfl := Option.some.inj ho
             have d4 := Hd.out 4 (by kernel_rfl)
             change (a.tmps[51]?.getD undef) = .bool false at d4
             have d23 := Hd.out 23 (by kernel_rfl)
             change (a.tmps[70]?.getD undef) = .bool false at d23
             clear Hd Hb
             refine Does.of rfl ?_
             go_simp
             exact HK.out _ _ rfl (Below.refl _ _)
            | 25, _ =>
             obtain rfl := Option.some.inj ho
             have d24 := Hd.out 24 (by kernel_rfl)
             change (a.tmps[71]?.getD undef) = .bool false at d24
             clear Hd Hb
             refine Does.of rfl ?_
             go_simp
             exact HK.out _ _ rfl (Below.refl _ _)
            | 26, _ =>
             obtain rfl := Option.some.inj ho
             have e5 : a.tmps[5]?.getD undef = .pointer (some ⟨wr.heap.size, 0, none⟩) := by rw [Hb.out.2.2 5 (by decide)]; rfl
             have d25 := Hd.out 25 (by kernel_rfl)
             change (a.tmps[72]?.getD undef) = .bool false at d25
             clear Hd Hb
             refine Does.yes rfl rfl d25 ?_
             go_simp
             exact HK.out _ _ rfl (Below.refl _ _)
            | 27, _ =>
             obtain rfl := Option.some.inj ho
             have d26 := Hd.out 26 (by kernel_rfl)
             change (a.tmps[73]?.getD undef) = .pointer (some ⟨wr.heap.size, 0, none⟩) at d26
             have d25 := Hd.out 25 (by kernel_rfl)
             change (a.tmps[72]?.getD undef) = .bool false at d25
             clear Hd Hb
             have m0 := (hG.cell (p := ⟨wr.heap.size, 0, none⟩) hl5).trans y0
             refine Does.yes rfl rfl d25 ?_
             go_simp
             exact HK.out _ _ rfl (Below.refl _ _)
            | 28, _ =>
             obtain rfl := Option.some.inj ho
             have e1 : a.tmps[1]?.getD undef = .pointer (some ⟨w.heap.size, 0, none⟩) := by rw [Hb.out.2.2 1 (by decide)]; rfl
             have d25 := Hd.out 25 (by kernel_rfl)
             change (a.tmps[72]?.getD undef) = .bool false at d25
             clear Hd Hb
             refine Does.yes rfl rfl d25 ?_
             go_simp
             exact HK.out _ _ rfl (Below.refl _ _)
            | 29, _ =>
             obtain rfl := Option.some.inj ho
             have d28 := Hd.out 28 (by kernel_rfl)
             change (a.tmps[75]?.getD undef) = .pointer (some ⟨w.heap.size, 0, none⟩) at d28
             have d25 := Hd.out 25 (by kernel_rfl)
             change (a.tmps[72]?.getD undef) = .bool false at d25
             clear Hd Hb
             have m0 := (hG.cell (p := ⟨w.heap.size, 0, none⟩) hg0).trans x0
             refine Does.yes rfl rfl d25 ?_
             go_simp
             exact HK.out _ _ rfl (Below.refl _ _)
            | 30, _ =>
             obtain rfl := Option.some.inj ho
             have e5 : a.tmps[5]?.getD undef = .pointer (some ⟨wr.heap.size, 0, none⟩) := by rw [Hb.out.2.2 5 (by decide)]; rfl
             have d25 := Hd.out 25 (by kernel_rfl)
             change (a.tmps[72]?.getD undef) = .bool false at d25
             clear Hd Hb
             refine Does.yes rfl rfl d25 ?_
             go_simp
             exact HK.out _ _ rfl (Below.refl _ _)
            | 31, _ =>
             obtain rfl := Option.some.inj ho
             have d30 := Hd.out 30 (by kernel_rfl)
             change (a.tmps[77]?.getD undef) = .pointer (some ⟨wr.heap.size, 1, none⟩) at d30
             have d25 := Hd.out 25 (by kernel_rfl)
             change (a.tmps[72]?.getD undef) = .bool false at d25
             clear Hd Hb
             have m0 := (hG.cell (p := ⟨wr.heap.size, 1, none⟩) hl5).trans y1
             refine Does.yes rfl rfl d25 ?_
             go_simp
             exact HK.out _ _ rfl (Below.refl _ _)
            | 32, _ =>
             obtain rfl := Option.some.inj ho
             have d29 := Hd.out 29 (by kernel_rfl)
             change (a.tmps[76]?.getD undef) = .slice am k.mem.length cm at d29
             have d31 := Hd.out 31 (by kernel_rfl)
             change (a.tmps[78]?.getD undef) = .int .i64 ((r : Int)) at d31
             have d25 := Hd.out 25 (by kernel_rfl)
             change (a.tmps[72]?.getD undef) = .bool false at d25
             clear Hd Hb
             refine Does.yes rfl rfl d25 ?_
             go_simp
             refine (CX.out _ hG).mono ?_; rintro e w_ ⟨v', ts, rfl, hO, hmem, _, hb2⟩
             exact HK.out _ _ ⟨ts, own_loV hO hG.size, hmem⟩ hb2
            | 33, _ =>
             obtain rfl := Option.some.inj ho
             have e1 : a.tmps[1]?.getD undef = .pointer (some ⟨w.heap.size, 0, none⟩) := by rw [Hb.out.2.2 1 (by decide)]; rfl
             have d27 := Hd.out 27 (by kernel_rfl)
             change (a.tmps[74]?.getD undef) = .slice ua (envAt k.envs j).rights.length uc at d27
             have d32 := Hd.out 32 (by kernel_rfl)
             change ReachIn wa.heap.size k.mem ((r : Int)) wx (a.tmps[79]?.getD undef) at d32
             have d25 := Hd.out 25 (by kernel_rfl)
             change (a.tmps[72]?.getD undef) = .bool false at d25
             clear Hd Hb
             generalize e79 : a.tmps[79]?.getD undef = v2 at d32
             obtain ⟨ts, hO, hmem⟩ := d32
             have CAx := CA.out wx hG v2 ts (OwnInts.rd hO) hmem
             refine Does.yes rfl rfl d25 ?_
             go_simp
             refine CAx.mono ?_; rintro e w_ ⟨rfl, hb2⟩
             exact HK.out _ _ rfl hb2
            | 34, _ =>
             obtain rfl := Option.some.inj ho
             have d33 := Hd.out 33 (by kernel_rfl)
             change (a.tmps[80]?.getD undef) = .bool bb at d33
             have d25 := Hd.out 25 (by kernel_rfl)
             change (a.tmps[72]?.getD undef) = .bool false at d25
             clear Hd Hb
             refine Does.yes rfl rfl d25 ?_
             go_simp
             exact HK.out _ _ rfl (Below.refl _ _)
            | _ + 35, hq => exact absurd hq (by omega)
           ·intro vs wx hR hG
            have q25 := hR 25 (by decide)
            change (vs 25) = .bool false at q25
            have q34 := hR 34 (by decide)
            change (vs 34) = .bool (!bb) at q34
            clear hR
            simp only [fillAt, dstOf, List.range, List.range.loop, List.foldl_cons, List.foldl_nil, q25, q34]
            simp
            try generalize vs 0 = z0
            try generalize vs 1 = z1
            try generalize vs 2 = z2
            try generalize vs 3 = z3
            try generalize vs 4 = z4
            try generalize vs 5 = z5
            try generalize vs 6 = z6
            try generalize vs 7 = z7
            try generalize vs 8 = z8
            try generalize vs 9 = z9
            try generalize vs 10 = z10
            try generalize vs 11 = z11
            try generalize vs 12 = z12
            try generalize vs 13 = z13
            try generalize vs 14 = z14
            try generalize vs 15 = z15
            try generalize vs 16 = z16
            try generalize vs 17 = z17
            try generalize vs 18 = z18
            try generalize vs 19 = z19
            try generalize vs 20 = z20
            try generalize vs 21 = z21
            try generalize vs 22 = z22
            try generalize vs 23 = z23
            try generalize vs 24 = z24
            try generalize vs 26 = z26
            try generalize vs 27 = z27
            try generalize vs 28 = z28
            try generalize vs 29 = z29
            try generalize vs 30 = z30
            try generalize vs 31 = z31
            try generalize vs 32 = z32
            try generalize vs 33 = z33
            clear q25 q34
            have hbG := HBA.out.trans (hG.mono HBA.out.size)
            replace y1 := (hG.cell (p := ⟨wr.heap.size, 1, none⟩) hl5).trans y1
            have HO2 := OwnInts.below HO.out hG
            clear hG x0 x1 y0 f0c
            cases bb
            ·have S := Lib.hid (kern_env hlt (show envOk k (envAt k.envs j) = false by simp only [envOk, Hr.out, HBb.out, Bool.and_false]))
             clear HO2
             go_wp2_with fail
             go_ret
             exact ⟨ret_bool S.out.symm, HB0.out.trans (hbG.mono HB0.out.size)⟩
            ·have S := Lib.hid (show envOk k (envAt k.envs j) = true by
              have e7 := E7.out.2
              rw [Hr.out] at e7
              simp only [envOk, E5.out, Hr.out, HBb.out, e7, Int.toNat_natCast, E8.out]
              simp)
             have L := Lib.hid (refL_yes hlt Hr.out hr12)
             obtain ⟨s1, s2⟩ := refL_small (k := k) (j := j) T1.out T4.out hr12
             have own1 : wx.ownsRow W0.heap.size 3 1 (.slice (some ⟨gr, 0, none⟩) 12 capr) 12 ((refL k j).map (Value.int .i64)) := by have := HO2; unfold OwnInts at this; rwa [refL_len] at this
             have C := (own1.cellAt r (by omega)).trans (getElem_ints (xs := refL k j) (by rw [refL_len]; exact hr12))
             have Fr := own1.frozenAt r
             have S2 := Lib.hid (own1.stored r (.int .i64 (nth (refL k j) r + 1)))
             have r0 : (0 : Int) ≤ r := by omega
             have r12 : (r : Int) < 12 := by omega
             have hgrl := hr1
             have Hgr : Hid (W0.heap.size ≤ gr) := Lib.hid (own1.lt gr rfl).1
             clear HO2 own1
             generalize nth (refL k j) r = nn at *
             go_wp2_with fail
             go_roundw
             case rel =>
              refine ⟨j + 1, by omega, by go_num, forall_lt_succ Hpre.out S.out, ?_, below_grown hbG S2.out.2 Hgr.out hbG.size⟩
              rw [L.out]
              unfold OwnInts
              rw [List.length_set, refL_len, List.map_set]
              exact S2.out.1
             case measure => simp [intOf]; omega
          ·have t8 : ((infoAt k.infos r).k != 3) = true := by simp [e8]
           have S := Lib.hid (kern_env hlt (show envOk k (envAt k.envs j) = false by simp [envOk, Hr.out, e8]))
           clear e8
           refine wp_region_grow 35 Tryz.mixed (by kernel_rfl) 170 rfl (by kernel_rfl) (fun ix vv ww => match ix with
            | 0 => vv = .pointer (some ⟨wr.heap.size, 0, none⟩)
            | 1 => vv = .slice ua (envAt k.envs j).rights.length uc
            | 2 => vv = .bool true
            | 3 => vv = .bool false
            | 4 => vv = .bool false
            | 5 => vv = .pointer (some ⟨wr.heap.size, 1, none⟩)
            | 6 => vv = .int .i64 ((r : Int))
            | 7 => vv = .bool true
            | 8 => vv = .bool true
            | 9 => vv = .pointer (some ⟨wr.heap.size, 1, none⟩)
            | 10 => vv = .int .i64 ((r : Int))
            | 11 => vv = .bool true
            | 12 => vv = .bool false
            | 13 => vv = .bool false
            | 14 => vv = .pointer (some ⟨w.heap.size, 1, none⟩)
            | 15 => vv = .slice (some ⟨bi, offi, none⟩) k.infos.length ci
            | 16 => vv = .pointer (some ⟨wr.heap.size, 1, none⟩)
            | 17 => vv = .int .i64 ((r : Int))
            | 18 => vv = .pointer (some ⟨bi, offi + r * 3, none⟩)
            | 19 => vv = .pointer (some ⟨bi, offi + r * 3, none⟩)
            | 20 => vv = .int .i64 ((infoAt k.infos r).k)
            | 21 => vv = .bool true
            | 22 => vv = .bool true
            | 23 => vv = .bool true
            | 24 => vv = .bool true
            | 25 => vv = .bool true
            | 26 => vv = undef
            | 27 => vv = undef
            | 28 => vv = undef
            | 29 => vv = undef
            | 30 => vv = undef
            | 31 => vv = undef
            | 32 => vv = undef
            | 33 => vv = undef
            | 34 => vv = undef
            | _ => True) ?_ ?_ ?_
           ·intro i hi vv wz ww' hbz hz
            match i, hi with
            | 0, _ => exact hz
            | 1, _ => exact hz
            | 2, _ => exact hz
            | 3, _ => exact hz
            | 4, _ => exact hz
            | 5, _ => exact hz
            | 6, _ => exact hz
            | 7, _ => exact hz
            | 8, _ => exact hz
            | 9, _ => exact hz
            | 10, _ => exact hz
            | 11, _ => exact hz
            | 12, _ => exact hz
            | 13, _ => exact hz
            | 14, _ => exact hz
            | 15, _ => exact hz
            | 16, _ => exact hz
            | 17, _ => exact hz
            | 18, _ => exact hz
            | 19, _ => exact hz
            | 20, _ => exact hz
            | 21, _ => exact hz
            | 22, _ => exact hz
            | 23, _ => exact hz
            | 24, _ => exact hz
            | 25, _ => exact hz
            | 26, _ => exact hz
            | 27, _ => exact hz
            | 28, _ => exact hz
            | 29, _ => exact hz
            | 30, _ => exact hz
            | 31, _ => exact hz
            | 32, _ => exact hz
            | 33, _ => exact hz
            | 34, _ => exact hz
            | _ + 35, hq => exact absurd hq (by omega)
           ·intro i hi o ho a wx Hb Hd hG K HK
            match i, hi with
            | 0, _ =>
             obtain rfl := Option.some.inj ho
             have e5 : a.tmps[5]?.getD undef = .pointer (some ⟨wr.heap.size, 0, none⟩) := by rw [Hb.out.2.2 5 (by decide)]; rfl
             clear Hd Hb
             refine Does.of rfl ?_
             go_simp
             exact HK.out _ _ rfl (Below.refl _ _)
            | 1, _ =>
             obtain rfl := Option.some.inj ho
             have d0 := Hd.out 0 (by kernel_rfl)
             change (a.tmps[47]?.getD undef) = .pointer (some ⟨wr.heap.size, 0, none⟩) at d0
             clear Hd Hb
             have m0 := (hG.cell (p := ⟨wr.heap.size, 0, none⟩) hl5).trans y0
             refine Does.of rfl ?_
             go_simp
             exact HK.out _ _ rfl (Below.refl _ _)
            | 2, _ =>
             obtain rfl := Option.some.inj ho
             have d1 := Hd.out 1 (by kernel_rfl)
             change (a.tmps[48]?.getD undef) = .slice ua (envAt k.envs j).rights.length uc at d1
             clear Hd Hb
             refine Does.of rfl ?_
             go_simp
             refine (CR.out _ hG).mono ?_; rintro e w_ ⟨rfl, hb2⟩
             exact HK.out _ _ rfl hb2
            | 3, _ =>
             obtain rfl := Option.some.inj ho
             have d2 := Hd.out 2 (by kernel_rfl)
             change (a.tmps[49]?.getD undef) = .bool true at d2
             clear Hd Hb
             refine Does.of rfl ?_
             go_simp
             exact HK.out _ _ rfl (Below.refl _ _)
            | 4, _ =>
             obtain rfl := Option.some.inj ho
             have d3 := Hd.out 3 (by kernel_rfl)
             change (a.tmps[50]?.getD undef) = .bool false at d3
             clear Hd Hb
             refine Does.of rfl ?_
             go_simp
             exact HK.out _ _ rfl (Below.refl _ _)
            | 5, _ =>
             obtain rfl := Option.some.inj ho
             have e5 : a.tmps[5]?.getD undef = .pointer (some ⟨wr.heap.size, 0, none⟩) := by rw [Hb.out.2.2 5 (by decide)]; rfl
             have d4 := Hd.out 4 (by kernel_rfl)
             change (a.tmps[51]?.getD undef) = .bool false at d4
             clear Hd Hb
             refine Does.yes rfl rfl d4 ?_
             go_simp
             exact HK.out _ _ rfl (Below.refl _ _)
            | 6, _ =>
             obtain rfl := Option.some.inj ho
             have d5 := Hd.out 5 (by kernel_rfl)
             change (a.tmps[52]?.getD undef) = .pointer (some ⟨wr.heap.size, 1, none⟩) at d5
             have d4 := Hd.out 4 (by kernel_rfl)
             change (a.tmps[51]?.getD undef) = .bool false at d4
             clear Hd Hb
             have m0 := (hG.cell (p := ⟨wr.heap.size, 1, none⟩) hl5).trans y1
             refine Does.yes rfl rfl d4 ?_
             go_simp
             exact HK.out _ _ rfl (Below.refl _ _)
            | 7, _ =>
             obtain rfl := Option.some.inj ho
             have d6 := Hd.out 6 (by kernel_rfl)
             change (a.tmps[53]?.getD undef) = .int .i64 ((r : Int)) at d6
             have d4 := Hd.out 4 (by kernel_rfl)
             change (a.tmps[51]?.getD undef) = .bool false at d4
             clear Hd Hb
             refine Does.yes rfl rfl d4 ?_
             go_simp
             exact HK.out _ _ rfl (Below.refl _ _)
            | 8, _ =>
             obtain rfl := Option.some.inj ho
             have d7 := Hd.out 7 (by kernel_rfl)
             change (a.tmps[54]?.getD undef) = .bool true at d7
             have d4 := Hd.out 4 (by kernel_rfl)
             change (a.tmps[51]?.getD undef) = .bool false at d4
             clear Hd Hb
             refine Does.yes rfl rfl d4 ?_
             go_simp
             exact HK.out _ _ rfl (Below.refl _ _)
            | 9, _ =>
             obtain rfl := Option.some.inj ho
             have e5 : a.tmps[5]?.getD undef = .pointer (some ⟨wr.heap.size, 0, none⟩) := by rw [Hb.out.2.2 5 (by decide)]; rfl
             have d8 := Hd.out 8 (by kernel_rfl)
             change (a.tmps[55]?.getD undef) = .bool true at d8
             clear Hd Hb
             refine Does.yes rfl rfl d8 ?_
             go_simp
             exact HK.out _ _ rfl (Below.refl _ _)
            | 10, _ =>
             obtain rfl := Option.some.inj ho
             have d9 := Hd.out 9 (by kernel_rfl)
             change (a.tmps[56]?.getD undef) = .pointer (some ⟨wr.heap.size, 1, none⟩) at d9
             have d8 := Hd.out 8 (by kernel_rfl)
             change (a.tmps[55]?.getD undef) = .bool true at d8
             clear Hd Hb
             have m0 := (hG.cell (p := ⟨wr.heap.size, 1, none⟩) hl5).trans y1
             refine Does.yes rfl rfl d8 ?_
             go_simp
             exact HK.out _ _ rfl (Below.refl _ _)
            | 11, _ =>
             obtain rfl := Option.some.inj ho
             have d10 := Hd.out 10 (by kernel_rfl)
             change (a.tmps[57]?.getD undef) = .int .i64 ((r : Int)) at d10
             have d8 := Hd.out 8 (by kernel_rfl)
             change (a.tmps[55]?.getD undef) = .bool true at d8
             clear Hd Hb
             refine Does.yes rfl rfl d8 ?_
             go_simp
             refine (CF.out _ hG).mono ?_; rintro e w_ ⟨rfl, hb2⟩
             exact HK.out _ _ rfl hb2
            | 12, _ =>
             obtain rfl := Option.some.inj ho
             have d11 := Hd.out 11 (by kernel_rfl)
             change (a.tmps[58]?.getD undef) = .bool true at d11
             have d8 := Hd.out 8 (by kernel_rfl)
             change (a.tmps[55]?.getD undef) = .bool true at d8
             clear Hd Hb
             refine Does.yes rfl rfl d8 ?_
             go_simp
             exact HK.out _ _ rfl (Below.refl _ _)
            | 13, _ =>
             obtain rfl := Option.some.inj ho
             have d12 := Hd.out 12 (by kernel_rfl)
             change (a.tmps[59]?.getD undef) = .bool false at d12
             have d8 := Hd.out 8 (by kernel_rfl)
             change (a.tmps[55]?.getD undef) = .bool true at d8
             clear Hd Hb
             refine Does.yes rfl rfl d8 ?_
             go_simp
             exact HK.out _ _ rfl (Below.refl _ _)
            | 14, _ =>
             obtain rfl := Option.some.inj ho
             have e1 : a.tmps[1]?.getD undef = .pointer (some ⟨w.heap.size, 0, none⟩) := by rw [Hb.out.2.2 1 (by decide)]; rfl
             have d13 := Hd.out 13 (by kernel_rfl)
             change (a.tmps[60]?.getD undef) = .bool false at d13
             clear Hd Hb
             refine Does.yes rfl rfl d13 ?_
             go_simp
             exact HK.out _ _ rfl (Below.refl _ _)
            | 15, _ =>
             obtain rfl := Option.some.inj ho
             have d14 := Hd.out 14 (by kernel_rfl)
             change (a.tmps[61]?.getD undef) = .pointer (some ⟨w.heap.size, 1, none⟩) at d14
             have d13 := Hd.out 13 (by kernel_rfl)
             change (a.tmps[60]?.getD undef) = .bool false at d13
             clear Hd Hb
             have m0 := (hG.cell (p := ⟨w.heap.size, 1, none⟩) hg0).trans x1
             refine Does.yes rfl rfl d13 ?_
             go_simp
             exact HK.out _ _ rfl (Below.refl _ _)
            | 16, _ =>
             obtain rfl := Option.some.inj ho
             have e5 : a.tmps[5]?.getD undef = .pointer (some ⟨wr.heap.size, 0, none⟩) := by rw [Hb.out.2.2 5 (by decide)]; rfl
             have d13 := Hd.out 13 (by kernel_rfl)
             change (a.tmps[60]?.getD undef) = .bool false at d13
             clear Hd Hb
             refine Does.yes rfl rfl d13 ?_
             go_simp
             exact HK.out _ _ rfl (Below.refl _ _)
            | 17, _ =>
             obtain rfl := Option.some.inj ho
             have d16 := Hd.out 16 (by kernel_rfl)
             change (a.tmps[63]?.getD undef) = .pointer (some ⟨wr.heap.size, 1, none⟩) at d16
             have d13 := Hd.out 13 (by kernel_rfl)
             change (a.tmps[60]?.getD undef) = .bool false at d13
             clear Hd Hb
             have m0 := (hG.cell (p := ⟨wr.heap.size, 1, none⟩) hl5).trans y1
             refine Does.yes rfl rfl d13 ?_
             go_simp
             exact HK.out _ _ rfl (Below.refl _ _)
            | 18, _ =>
             obtain rfl := Option.some.inj ho
             have d15 := Hd.out 15 (by kernel_rfl)
             change (a.tmps[62]?.getD undef) = .slice (some ⟨bi, offi, none⟩) k.infos.length ci at d15
             have d17 := Hd.out 17 (by kernel_rfl)
             change (a.tmps[64]?.getD undef) = .int .i64 ((r : Int)) at d17
             have d13 := Hd.out 13 (by kernel_rfl)
             change (a.tmps[60]?.getD undef) = .bool false at d13
             clear Hd Hb
             refine Does.yes rfl rfl d13 ?_
             go_simp
             exact HK.out _ _ rfl (Below.refl _ _)
            | 19, _ =>
             obtain rfl := Option.some.inj ho
             have d18 := Hd.out 18 (by kernel_rfl)
             change (a.tmps[65]?.getD undef) = .pointer (some ⟨bi, offi + r * 3, none⟩) at d18
             have d13 := Hd.out 13 (by kernel_rfl)
             change (a.tmps[60]?.getD undef) = .bool false at d13
             clear Hd Hb
             refine Does.yes rfl rfl d13 ?_
             go_simp
             exact HK.out _ _ rfl (Below.refl _ _)
            | 20, _ =>
             obtain rfl := Option.some.inj ho
             have d19 := Hd.out 19 (by kernel_rfl)
             change (a.tmps[66]?.getD undef) = .pointer (some ⟨bi, offi + r * 3, none⟩) at d19
             have d13 := Hd.out 13 (by kernel_rfl)
             change (a.tmps[60]?.getD undef) = .bool false at d13
             clear Hd Hb
             have m0 := (hG.cell (p := ⟨bi, offi + r * 3, none⟩) hbi).trans f0c
             refine Does.yes rfl rfl d13 ?_
             go_simp
             exact HK.out _ _ rfl (Below.refl _ _)
            | 21, _ =>
             obtain rfl := Option.some.inj ho
             have d20 := Hd.out 20 (by kernel_rfl)
             change (a.tmps[67]?.getD undef) = .int .i64 ((infoAt k.infos r).k) at d20
             have d13 := Hd.out 13 (by kernel_rfl)
             change (a.tmps[60]?.getD undef) = .bool false at d13
             clear Hd Hb
             refine Does.yes rfl rfl d13 ?_
             go_simp
             exact HK.out _ _ rfl (Below.refl _ _)
            | 22, _ =>
             obtain rfl := Option.some.inj ho
             have d13 := Hd.out 13 (by kernel_rfl)
             change (a.tmps[60]?.getD undef) = .bool false at d13
             have d21 := Hd.out 21 (by kernel_rfl)
             change (a.tmps[68]?.getD undef) = .bool true at d21
             have d8 := Hd.out 8 (by kernel_rfl)
             change (a.tmps[55]?.getD undef) = .bool true at d8
             clear Hd Hb
             refine Does.yes rfl rfl d8 ?_
             go_simp
             exact HK.out _ _ rfl (Below.refl _ _)
            | 23, _ =>
             obtain rfl := Option.some.inj ho
             have d8 := Hd.out 8 (by kernel_rfl)
             change (a.tmps[55]?.getD undef) = .bool true at d8
             have d22 := Hd.out 22 (by kernel_rfl)
             change (a.tmps[69]?.getD undef) = .bool true at d22
             have d4 := Hd.out 4 (by kernel_rfl)
             change (a.tmps[51]?.getD undef) = .bool false at d4
             clear Hd Hb
             refine Does.yes rfl rfl d4 ?_
             go_simp
             exact HK.out _ _ rfl (Below.refl _ _)
            | 24, _ =>
             obtain rfl := Option.some.inj ho
             have d4 := Hd.out 4 (by kernel_rfl)
             change (a.tmps[51]?.getD undef) = .bool false at d4
             have d23 := Hd.out 23 (by kernel_rfl)
             change (a.tmps[70]?.getD undef) = .bool true at d23
             clear Hd Hb
             refine Does.of rfl ?_
             go_simp
             exact HK.out _ _ rfl (Below.refl _ _)
            | 25, _ =>
             obtain rfl := Option.some.inj ho
             have d24 := Hd.out 24 (by kernel_rfl)
             change (a.tmps[71]?.getD undef) = .bool true at d24
             clear Hd Hb
             refine Does.of rfl ?_
             go_simp
             exact HK.out _ _ rfl (Below.refl _ _)
            | 26, _ =>
             obtain rfl := Option.some.inj ho
             have d25 := Hd.out 25 (by kernel_rfl)
             change (a.tmps[72]?.getD undef) = .bool true at d25
             clear Hd Hb
             exact Does.no rfl rfl d25 (HK.out _ _ rfl (Below.refl _ _))
            | 27, _ =>
             obtain rfl := Option.some.inj ho
             have d25 := Hd.out 25 (by kernel_rfl)
             change (a.tmps[72]?.getD undef) = .bool true at d25
             clear Hd Hb
             exact Does.no rfl rfl d25 (HK.out _ _ rfl (Below.refl _ _))
            | 28, _ =>
             obtain rfl := Option.some.inj ho
             have d25 := Hd.out 25 (by kernel_rfl)
             change (a.tmps[72]?.getD undef) = .bool true at d25
             clear Hd Hb
             exact Does.no rfl rfl d25 (HK.out _ _ rfl (Below.refl _ _))
            | 29, _ =>
             obtain rfl := Option.some.inj ho
             have d25 := Hd.out 25 (by kernel_rfl)
             change (a.tmps[72]?.getD undef) = .bool true at d25
             clear Hd Hb
             exact Does.no rfl rfl d25 (HK.out _ _ rfl (Below.refl _ _))
            | 30, _ =>
             obtain rfl := Option.some.inj ho
             have d25 := Hd.out 25 (by kernel_rfl)
             change (a.tmps[72]?.getD undef) = .bool true at d25
             clear Hd Hb
             exact Does.no rfl rfl d25 (HK.out _ _ rfl (Below.refl _ _))
            | 31, _ =>
             obtain rfl := Option.some.inj ho
             have d25 := Hd.out 25 (by kernel_rfl)
             change (a.tmps[72]?.getD undef) = .bool true at d25
             clear Hd Hb
             exact Does.no rfl rfl d25 (HK.out _ _ rfl (Below.refl _ _))
            | 32, _ =>
             obtain rfl := Option.some.inj ho
             have d25 := Hd.out 25 (by kernel_rfl)
             change (a.tmps[72]?.getD undef) = .bool true at d25
             clear Hd Hb
             exact Does.no rfl rfl d25 (HK.out _ _ rfl (Below.refl _ _))
            | 33, _ =>
             obtain rfl := Option.some.inj ho
             have d25 := Hd.out 25 (by kernel_rfl)
             change (a.tmps[72]?.getD undef) = .bool true at d25
             clear Hd Hb
             exact Does.no rfl rfl d25 (HK.out _ _ rfl (Below.refl _ _))
            | 34, _ =>
             obtain rfl := Option.some.inj ho
             have d25 := Hd.out 25 (by kernel_rfl)
             change (a.tmps[72]?.getD undef) = .bool true at d25
             clear Hd Hb
             exact Does.no rfl rfl d25 (HK.out _ _ rfl (Below.refl _ _))
            | _ + 35, hq => exact absurd hq (by omega)
           ·intro vs wx hR hG
            have q25 := hR 25 (by decide)
            change (vs 25) = .bool true at q25
            have q34 := hR 34 (by decide)
            change (vs 34) = undef at q34
            clear hR
            simp only [fillAt, dstOf, List.range, List.range.loop, List.foldl_cons, List.foldl_nil, q25, q34]
            simp
            try generalize vs 0 = z0
            try generalize vs 1 = z1
            try generalize vs 2 = z2
            try generalize vs 3 = z3
            try generalize vs 4 = z4
            try generalize vs 5 = z5
            try generalize vs 6 = z6
            try generalize vs 7 = z7
            try generalize vs 8 = z8
            try generalize vs 9 = z9
            try generalize vs 10 = z10
            try generalize vs 11 = z11
            try generalize vs 12 = z12
            try generalize vs 13 = z13
            try generalize vs 14 = z14
            try generalize vs 15 = z15
            try generalize vs 16 = z16
            try generalize vs 17 = z17
            try generalize vs 18 = z18
            try generalize vs 19 = z19
            try generalize vs 20 = z20
            try generalize vs 21 = z21
            try generalize vs 22 = z22
            try generalize vs 23 = z23
            try generalize vs 24 = z24
            try generalize vs 26 = z26
            try generalize vs 27 = z27
            try generalize vs 28 = z28
            try generalize vs 29 = z29
            try generalize vs 30 = z30
            try generalize vs 31 = z31
            try generalize vs 32 = z32
            try generalize vs 33 = z33
            clear q25 q34
            have hbG := HBA.out.trans (hG.mono HBA.out.size)
            clear hG
            go_wp2_with fail
            go_ret
            exact ⟨ret_bool S.out.symm, HB0.out.trans (hbG.mono HB0.out.size)⟩
      ·obtain rfl : j = k.envs.length := by omega
       have HEO := Lib.hid (fun j (hj : j < 3) => Hpre.out j (by have := T4.out; omega))
       have hO3 : Hid (OwnInts W0.heap.size wr (.slice (some ⟨gr, 0, none⟩) 12 capr) (refL k 3)) := Lib.hid (by have := hO; rwa [T4.out] at this)
       have x1 := (blk_cells4 (blk_below HN.out hbel)).2.1
       have Hgr : Hid (gr < wr.heap.size) := Lib.hid (World.ownsRow.lt hO gr rfl).2
       have hb2 := Lib.hid hbel
       clear hO hbel Hpre
       go_wp2_with fail
       clear x1
       obtain ⟨wq, rfl⟩ : ∃ wq : World, wq = wr := ⟨_, rfl⟩
       go_loopw [97] (fun i wr => ∃ f : Nat, f ≤ k.infos.length ∧ i = .int .i64 f ∧ (∀ f', f' < f → tableOk k f' = true ∧ refOk k f' = true) ∧ OwnInts W0.heap.size wr (.slice (some ⟨gr, 0, none⟩) 12 capr) (refL k 3) ∧ Below W0.heap.size W0 wr) (fun i _ => k.infos.length - (intOf i).toNat)
       case atStart => exact ⟨0, Nat.zero_le _, rfl, fun j hj => absurd hj (Nat.not_lt_zero _), hO3.out, hb2.out⟩
       case round =>
        obtain ⟨f, hf, rfl, hpre, hO, hbel⟩ := hrel
        have Hpre := Lib.hid hpre
        clear hpre
        by_cases hlt : f < k.infos.length
        ·obtain ⟨a9, c9, ev, _, _, H2o⟩ := RdF.open infoCs_len (by decide) (RdF.below H2.out hbel)
         cases ev
         obtain ⟨bi, offi, rfl, hbi, D0, D1, D2⟩ := H2o.infoCells hlt
         have N := heap_alloc_new wr (.cells #[.int .i64 (infoAt k.infos f).k, .string (infoAt k.infos f).g, .int .i64 (infoAt k.infos f).r] 89)
         have hbn := below1 wr (.cells #[.int .i64 (infoAt k.infos f).k, .string (infoAt k.infos f).g, .int .i64 (infoAt k.infos f).r] 89)
         have HO := Lib.hid (OwnInts.below hO hbn)
         have hlz : (f : Int) < k.infos.length := by omega
         have hf12 : f < 12 := by have := hl12.out; omega
         have hfz : (f : Int) < 12 := by omega
         clear hO H2o
         go_wp2_with fail
         generalize wr.alloc _ = wa at *
         have hba := hbel.trans (hbn.mono hbel.size)
         have y0 : wa.cell? ⟨wr.heap.size, 0, none⟩ = some (.int .i64 (infoAt k.infos f).k) := cell_of_row _ _ 0 _ _ _ N
         have y2 : wa.cell? ⟨wr.heap.size, 2, none⟩ = some (.int .i64 (infoAt k.infos f).r) := cell_of_row _ _ 2 _ _ _ N
         have hl7 := blk_lt N
         have hg0 := Nat.lt_of_lt_of_le Hl0.out hba.size
         have x0 := (blk_cells4 (blk_below HN.out hba)).1
         have x1 := (blk_cells4 (blk_below HN.out hba)).2.1
         have own1 : wa.ownsRow W0.heap.size 3 1 (.slice (some ⟨gr, 0, none⟩) 12 capr) 12 ((refL k 3).map (Value.int .i64)) := by have := HO.out; unfold OwnInts at this; rwa [refL_len] at this
         have f1c := (own1.cellAt f (by omega)).trans (getElem_ints (xs := refL k 3) (by rw [refL_len]; exact hf12))
         have hgr := (own1.lt gr rfl).2
         have HBA := Lib.hid hba
         have CT0 := fun W (_ : Below wa.heap.size wa W) => same_below (isTable_any (infoAt k.infos f).k W)
         clear D0 D1 D2 N hbn hbel hba own1
         cases e5 : tabK (infoAt k.infos f).k
         ·rw [e5] at CT0
          have CT := Lib.hid CT0
          have TB := Lib.hid (show tableOk k f = true by simp [tableOk, e5])
          clear CT0 e5
          refine wp_region_grow 23 Tryz.mixed (by kernel_rfl) 170 rfl (by kernel_rfl) (fun ix vv ww => match ix with
           | 0 => vv = .pointer (some ⟨wr.heap.size, 0, none⟩)
           | 1 => vv = .int .i64 ((infoAt k.infos f).k)
           | 2 => vv = .bool false
           | 3 => vv = .bool false
           | 4 => vv = undef
           | 5 => vv = undef
           | 6 => vv = undef
           | 7 => vv = undef
           | 8 => vv = undef
           | 9 => vv = undef
           | 10 => vv = undef
           | 11 => vv = undef
           | 12 => vv = undef
           | 13 => vv = undef
           | 14 => vv = .bool false
           | 15 => vv = .bool false
           | 16 => vv = .pointer (some ⟨wr.heap.size, 2, none⟩)
           | 17 => vv = .int .i64 ((infoAt k.infos f).r)
           | 18 => vv = .slice (some ⟨gr, 0, none⟩) 12 capr
           | 19 => vv = .int .i64 ((f : Int))
           | 20 => vv = .pointer (some ⟨gr, f, none⟩)
           | 21 => vv = .int .i64 (nth (refL k 3) f)
           | 22 => vv = .bool ((infoAt k.infos f).r != nth (refL k 3) f)
           | _ => True) ?_ ?_ ?_
          ·intro i hi vv wz ww' hbz hz
           match i, hi with
           | 0, _ => exact hz
           | 1, _ => exact hz
           | 2, _ => exact hz
           | 3, _ => exact hz
           | 4, _ => exact hz
           | 5, _ => exact hz
           | 6, _ => exact hz
           | 7, _ => exact hz
           | 8, _ => exact hz
           | 9, _ => exact hz
           | 10, _ => exact hz
           | 11, _ => exact hz
           | 12, _ => exact hz
           | 13, _ => exact hz
           | 14, _ => exact hz
           | 15, _ => exact hz
           | 16, _ => exact hz
           | 17, _ => exact hz
           | 18, _ => exact hz
           | 19, _ => exact hz
           | 20, _ => exact hz
           | 21, _ => exact hz
           | 22, _ => exact hz
           | _ + 23, hq => exact absurd hq (by omega)
          ·intro i hi o ho a wx Hb Hd hG K HK
           match i, hi with
           | 0, _ =>
            obtain rfl := Option.some.inj ho
            have e7 : a.tmps[7]?.getD undef = .pointer (some ⟨wr.heap.size, 0, none⟩) := by rw [Hb.out.2.2 7 (by decide)]; rfl
            clear Hd Hb
            refine Does.of rfl ?_
            go_simp
            exact HK.out _ _ rfl (Below.refl _ _)
           | 1, _ =>
            obtain rfl := Option.some.inj ho
            have d0 := Hd.out 0 (by kernel_rfl)
            change (a.tmps[102]?.getD undef) = .pointer (some ⟨wr.heap.size, 0, none⟩) at d0
            clear Hd Hb
            have m0 := (hG.cell (p := ⟨wr.heap.size, 0, none⟩) hl7).trans y0
            refine Does.of rfl ?_
            go_simp
            exact HK.out _ _ rfl (Below.refl _ _)
           | 2, _ =>
            obtain rfl := Option.some.inj ho
            have d1 := Hd.out 1 (by kernel_rfl)
            change (a.tmps[103]?.getD undef) = .int .i64 ((infoAt k.infos f).k) at d1
            clear Hd Hb
            refine Does.of rfl ?_
            go_simp
            refine (CT.out _ hG).mono ?_; rintro e w_ ⟨rfl, hb2⟩
            exact HK.out _ _ rfl hb2
           | 3, _ =>
            obtain rfl := Option.some.inj ho
            have d2 := Hd.out 2 (by kernel_rfl)
            change (a.tmps[104]?.getD undef) = .bool false at d2
            clear Hd Hb
            refine Does.of rfl ?_
            go_simp
            exact HK.out _ _ rfl (Below.refl _ _)
           | 4, _ =>
            obtain rfl := Option.some.inj ho
            have d3 := Hd.out 3 (by kernel_rfl)
            change (a.tmps[105]?.getD undef) = .bool false at d3
            clear Hd Hb
            exact Does.no rfl rfl d3 (HK.out _ _ rfl (Below.refl _ _))
           | 5, _ =>
            obtain rfl := Option.some.inj ho
            have d3 := Hd.out 3 (by kernel_rfl)
            change (a.tmps[105]?.getD undef) = .bool false at d3
            clear Hd Hb
            exact Does.no rfl rfl d3 (HK.out _ _ rfl (Below.refl _ _))
           | 6, _ =>
            obtain rfl := Option.some.inj ho
            have d3 := Hd.out 3 (by kernel_rfl)
            change (a.tmps[105]?.getD undef) = .bool false at d3
            clear Hd Hb
            exact Does.no rfl rfl d3 (HK.out _ _ rfl (Below.refl _ _))
           | 7, _ =>
            obtain rfl := Option.some.inj ho
            have d3 := Hd.out 3 (by kernel_rfl)
            change (a.tmps[105]?.getD undef) = .bool false at d3
            clear Hd Hb
            exact Does.no rfl rfl d3 (HK.out _ _ rfl (Below.refl _ _))
           | 8, _ =>
            obtain rfl := Option.some.inj ho
            have d3 := Hd.out 3 (by kernel_rfl)
            change (a.tmps[105]?.getD undef) = .bool false at d3
            clear Hd Hb
            exact Does.no rfl rfl d3 (HK.out _ _ rfl (Below.refl _ _))
           | 9, _ =>
            obtain rfl := Option.some.inj ho
            have d3 := Hd.out 3 (by kernel_rfl)
            change (a.tmps[105]?.getD undef) = .bool false at d3
            clear Hd Hb
            exact Does.no rfl rfl d3 (HK.out _ _ rfl (Below.refl _ _))
           | 10, _ =>
            obtain rfl := Option.some.inj ho
            have d3 := Hd.out 3 (by kernel_rfl)
            change (a.tmps[105]?.getD undef) = .bool false at d3
            clear Hd Hb
            exact Does.no rfl rfl d3 (HK.out _ _ rfl (Below.refl _ _))
           | 11, _ =>
            obtain rfl := Option.some.inj ho
            have d3 := Hd.out 3 (by kernel_rfl)
            change (a.tmps[105]?.getD undef) = .bool false at d3
            clear Hd Hb
            exact Does.no rfl rfl d3 (HK.out _ _ rfl (Below.refl _ _))
           | 12, _ =>
            obtain rfl := Option.some.inj ho
            have d3 := Hd.out 3 (by kernel_rfl)
            change (a.tmps[105]?.getD undef) = .bool false at d3
            clear Hd Hb
            exact Does.no rfl rfl d3 (HK.out _ _ rfl (Below.refl _ _))
           | 13, _ =>
            obtain rfl := Option.some.inj ho
            have d3 := Hd.out 3 (by kernel_rfl)
            change (a.tmps[105]?.getD undef) = .bool false at d3
            clear Hd Hb
            exact Does.no rfl rfl d3 (HK.out _ _ rfl (Below.refl _ _))
           | 14, _ =>
            obtain rfl := Option.some.inj ho
            have d3 := Hd.out 3 (by kernel_rfl)
            change (a.tmps[105]?.getD undef) = .bool false at d3
            have d13 := Hd.out 13 (by kernel_rfl)
            change (a.tmps[115]?.getD undef) = undef at d13
            clear Hd Hb
            refine Does.of rfl ?_
            go_simp
            exact HK.out _ _ rfl (Below.refl _ _)
           | 15, _ =>
            obtain rfl := Option.some.inj ho
            have d14 := Hd.out 14 (by kernel_rfl)
            change (a.tmps[116]?.getD undef) = .bool false at d14
            clear Hd Hb
            refine Does.of rfl ?_
            go_simp
            exact HK.out _ _ rfl (Below.refl _ _)
           | 16, _ =>
            obtain rfl := Option.some.inj ho
            have e7 : a.tmps[7]?.getD undef = .pointer (some ⟨wr.heap.size, 0, none⟩) := by rw [Hb.out.2.2 7 (by decide)]; rfl
            have d15 := Hd.out 15 (by kernel_rfl)
            change (a.tmps[117]?.getD undef) = .bool false at d15
            clear Hd Hb
            refine Does.yes rfl rfl d15 ?_
            go_simp
            exact HK.out _ _ rfl (Below.refl _ _)
           | 17, _ =>
            obtain rfl := Option.some.inj ho
            have d16 := Hd.out 16 (by kernel_rfl)
            change (a.tmps[118]?.getD undef) = .pointer (some ⟨wr.heap.size, 2, none⟩) at d16
            have d15 := Hd.out 15 (by kernel_rfl)
            change (a.tmps[117]?.getD undef) = .bool false at d15
            clear Hd Hb
            have m0 := (hG.cell (p := ⟨wr.heap.size, 2, none⟩) hl7).trans y2
            refine Does.yes rfl rfl d15 ?_
            go_simp
            exact HK.out _ _ rfl (Below.refl _ _)
           | 18, _ =>
            obtain rfl := Option.some.inj ho
            have e3 : a.tmps[3]?.getD undef = .slice (some ⟨gr, 0, none⟩) 12 capr := by rw [Hb.out.2.2 3 (by decide)]; rfl
            have d15 := Hd.out 15 (by kernel_rfl)
            change (a.tmps[117]?.getD undef) = .bool false at d15
            clear Hd Hb
            refine Does.yes rfl rfl d15 ?_
            go_simp
            exact HK.out _ _ rfl (Below.refl _ _)
           | 19, _ =>
            obtain rfl := Option.some.inj ho
            have e6 : a.tmps[6]?.getD undef = .int .i64 ((f : Int)) := by rw [Hb.out.2.2 6 (by decide)]; rfl
            have d15 := Hd.out 15 (by kernel_rfl)
            change (a.tmps[117]?.getD undef) = .bool false at d15
            clear Hd Hb
            refine Does.yes rfl rfl d15 ?_
            go_simp
            exact HK.out _ _ rfl (Below.refl _ _)
           | 20, _ =>
            obtain rfl := Option.some.inj ho
            have d18 := Hd.out 18 (by kernel_rfl)
            change (a.tmps[120]?.getD undef) = .slice (some ⟨gr, 0, none⟩) 12 capr at d18
            have d19 := Hd.out 19 (by kernel_rfl)
            change (a.tmps[121]?.getD undef) = .int .i64 ((f : Int)) at d19
            have d15 := Hd.out 15 (by kernel_rfl)
            change (a.tmps[117]?.getD undef) = .bool false at d15
            clear Hd Hb
            refine Does.yes rfl rfl d15 ?_
            go_simp
            exact HK.out _ _ rfl (Below.refl _ _)
           | 21, _ =>
            obtain rfl := Option.some.inj ho
            have d20 := Hd.out 20 (by kernel_rfl)
            change (a.tmps[122]?.getD undef) = .pointer (some ⟨gr, f, none⟩) at d20
            have d15 := Hd.out 15 (by kernel_rfl)
            change (a.tmps[117]?.getD undef) = .bool false at d15
            clear Hd Hb
            have m0 := (hG.cell (p := ⟨gr, f, none⟩) hgr).trans f1c
            refine Does.yes rfl rfl d15 ?_
            go_simp
            exact HK.out _ _ rfl (Below.refl _ _)
           | 22, _ =>
            obtain rfl := Option.some.inj ho
            have d17 := Hd.out 17 (by kernel_rfl)
            change (a.tmps[119]?.getD undef) = .int .i64 ((infoAt k.infos f).r) at d17
            have d21 := Hd.out 21 (by kernel_rfl)
            change (a.tmps[123]?.getD undef) = .int .i64 (nth (refL k 3) f) at d21
            have d15 := Hd.out 15 (by kernel_rfl)
            change (a.tmps[117]?.getD undef) = .bool false at d15
            clear Hd Hb
            refine Does.yes rfl rfl d15 ?_
            go_simp
            exact HK.out _ _ rfl (Below.refl _ _)
           | _ + 23, hq => exact absurd hq (by omega)
          ·intro vs wx hR hG
           have q15 := hR 15 (by decide)
           change (vs 15) = .bool false at q15
           have q22 := hR 22 (by decide)
           change (vs 22) = .bool ((infoAt k.infos f).r != nth (refL k 3) f) at q22
           clear hR
           simp only [fillAt, dstOf, List.range, List.range.loop, List.foldl_cons, List.foldl_nil, q15, q22]
           simp
           try generalize vs 0 = z0
           try generalize vs 1 = z1
           try generalize vs 2 = z2
           try generalize vs 3 = z3
           try generalize vs 4 = z4
           try generalize vs 5 = z5
           try generalize vs 6 = z6
           try generalize vs 7 = z7
           try generalize vs 8 = z8
           try generalize vs 9 = z9
           try generalize vs 10 = z10
           try generalize vs 11 = z11
           try generalize vs 12 = z12
           try generalize vs 13 = z13
           try generalize vs 14 = z14
           try generalize vs 16 = z16
           try generalize vs 17 = z17
           try generalize vs 18 = z18
           try generalize vs 19 = z19
           try generalize vs 20 = z20
           try generalize vs 21 = z21
           clear q15 q22
           have hbG := HBA.out.trans (hG.mono HBA.out.size)
           have HO2 := Lib.hid (OwnInts.below HO.out hG)
           clear hG x0 x1 y0 y2 f1c
           have RL := refL_ref (k := k) T4.out hf12
           cases hne : ((infoAt k.infos f).r != nth (refL k 3) f)
           ·have S1 := Lib.hid (show refOk k f = true by rw [RL]; simpa using hne)
            clear RL
            go_wp2_with fail
            go_roundw
            case rel => exact ⟨f + 1, by omega, by go_num, forall_lt_succ Hpre.out ⟨TB.out, S1.out⟩, HO2.out, hbG⟩
            case measure => simp [intOf]; omega
           ·have S := Lib.hid (kern_ref hf12 (show refOk k f = false by rw [RL]; simpa using hne))
            clear RL
            go_wp2_with fail
            go_ret
            exact ⟨ret_bool S.out.symm, HB0.out.trans (hbG.mono HB0.out.size)⟩
         ·rw [e5] at CT0
          have CT := Lib.hid CT0
          have CG0 := fun W (hW : Below wa.heap.size wa W) v2 (h2 : RdStrs W v2 [⟨#[]⟩]) => good_any _ _ v2 k.mem k.infos f (infoAt k.infos f).k [⟨#[]⟩] W ((H1.out.below HBA.out).below hW) T1.out (RdF.below (RdF.below H2.out HBA.out) hW) hl12.out hf12 e5 h2
          cases e6 : goodP k.mem k.infos f (infoAt k.infos f).k [⟨#[]⟩]
          ·rw [e6] at CG0
           have CG := Lib.hid CG0
           have S := Lib.hid (kern_tab hf12 (show tableOk k f = false by simp [tableOk, e5, e6]))
           clear CT0 e5 CG0 e6
           refine wp_region_grow 23 Tryz.mixed (by kernel_rfl) 170 rfl (by kernel_rfl) (fun ix vv ww => match ix with
            | 0 => vv = .pointer (some ⟨wr.heap.size, 0, none⟩)
            | 1 => vv = .int .i64 ((infoAt k.infos f).k)
            | 2 => vv = .bool true
            | 3 => vv = .bool true
            | 4 => vv = .pointer (some ⟨w.heap.size, 0, none⟩)
            | 5 => vv = .slice am k.mem.length cm
            | 6 => vv = .pointer (some ⟨w.heap.size, 1, none⟩)
            | 7 => vv = .slice (some ⟨bi, offi, none⟩) k.infos.length ci
            | 8 => vv = .int .i64 ((f : Int))
            | 9 => vv = .pointer (some ⟨wr.heap.size, 0, none⟩)
            | 10 => vv = .int .i64 ((infoAt k.infos f).k)
            | 11 => RdStrs ww vv [⟨#[]⟩]
            | 12 => vv = .bool false
            | 13 => vv = .bool true
            | 14 => vv = .bool true
            | 15 => vv = .bool true
            | 16 => vv = undef
            | 17 => vv = undef
            | 18 => vv = undef
            | 19 => vv = undef
            | 20 => vv = undef
            | 21 => vv = undef
            | 22 => vv = undef
            | _ => True) ?_ ?_ ?_
           ·intro i hi vv wz ww' hbz hz
            match i, hi with
            | 0, _ => exact hz
            | 1, _ => exact hz
            | 2, _ => exact hz
            | 3, _ => exact hz
            | 4, _ => exact hz
            | 5, _ => exact hz
            | 6, _ => exact hz
            | 7, _ => exact hz
            | 8, _ => exact hz
            | 9, _ => exact hz
            | 10, _ => exact hz
            | 11, _ => exact (RdF.below hz hbz)
            | 12, _ => exact hz
            | 13, _ => exact hz
            | 14, _ => exact hz
            | 15, _ => exact hz
            | 16, _ => exact hz
            | 17, _ => exact hz
            | 18, _ => exact hz
            | 19, _ => exact hz
            | 20, _ => exact hz
            | 21, _ => exact hz
            | 22, _ => exact hz
            | _ + 23, hq => exact absurd hq (by omega)
           ·intro i hi o ho a wx Hb Hd hG K HK
            match i, hi with
            | 0, _ =>
             obtain rfl := Option.some.inj ho
             have e7 : a.tmps[7]?.getD undef = .pointer (some ⟨wr.heap.size, 0, none⟩) := by rw [Hb.out.2.2 7 (by decide)]; rfl
             clear Hd Hb
             refine Does.of rfl ?_
             go_simp
             exact HK.out _ _ rfl (Below.refl _ _)
            | 1, _ =>
             obtain rfl := Option.some.inj ho
             have d0 := Hd.out 0 (by kernel_rfl)
             change (a.tmps[102]?.getD undef) = .pointer (some ⟨wr.heap.size, 0, none⟩) at d0
             clear Hd Hb
             have m0 := (hG.cell (p := ⟨wr.heap.size, 0, none⟩) hl7).trans y0
             refine Does.of rfl ?_
             go_simp
             exact HK.out _ _ rfl (Below.refl _ _)
            | 2, _ =>
             obtain rfl := Option.some.inj ho
             have d1 := Hd.out 1 (by kernel_rfl)
             change (a.tmps[103]?.getD undef) = .int .i64 ((infoAt k.infos f).k) at d1
             clear Hd Hb
             refine Does.of rfl ?_
             go_simp
             refine (CT.out _ hG).mono ?_; rintro e w_ ⟨rfl, hb2⟩
             exact HK.out _ _ rfl hb2
            | 3, _ =>
             obtain rfl := Option.some.inj ho
             have d2 := Hd.out 2 (by kernel_rfl)
             change (a.tmps[104]?.getD undef) = .bool true at d2
             clear Hd Hb
             refine Does.of rfl ?_
             go_simp
             exact HK.out _ _ rfl (Below.refl _ _)
            | 4, _ =>
             obtain rfl := Option.some.inj ho
             have e1 : a.tmps[1]?.getD undef = .pointer (some ⟨w.heap.size, 0, none⟩) := by rw [Hb.out.2.2 1 (by decide)]; rfl
             have d3 := Hd.out 3 (by kernel_rfl)
             change (a.tmps[105]?.getD undef) = .bool true at d3
             clear Hd Hb
             refine Does.yes rfl rfl d3 ?_
             go_simp
             exact HK.out _ _ rfl (Below.refl _ _)
            | 5, _ =>
             obtain rfl := Option.some.inj ho
             have d4 := Hd.out 4 (by kernel_rfl)
             change (a.tmps[106]?.getD undef) = .pointer (some ⟨w.heap.size, 0, none⟩) at d4
             have d3 := Hd.out 3 (by kernel_rfl)
             change (a.tmps[105]?.getD undef) = .bool true at d3
             clear Hd Hb
             have m0 := (hG.cell (p := ⟨w.heap.size, 0, none⟩) hg0).trans x0
             refine Does.yes rfl rfl d3 ?_
             go_simp
             exact HK.out _ _ rfl (Below.refl _ _)
            | 6, _ =>
             obtain rfl := Option.some.inj ho
             have e1 : a.tmps[1]?.getD undef = .pointer (some ⟨w.heap.size, 0, none⟩) := by rw [Hb.out.2.2 1 (by decide)]; rfl
             have d3 := Hd.out 3 (by kernel_rfl)
             change (a.tmps[105]?.getD undef) = .bool true at d3
             clear Hd Hb
             refine Does.yes rfl rfl d3 ?_
             go_simp
             exact HK.out _ _ rfl (Below.refl _ _)
            | 7, _ =>
             obtain rfl := Option.some.inj ho
             have d6 := Hd.out 6 (by kernel_rfl)
             change (a.tmps[108]?.getD undef) = .pointer (some ⟨w.heap.size, 1, none⟩) at d6
             have d3 := Hd.out 3 (by kernel_rfl)
             change (a.tmps[105]?.getD undef) = .bool true at d3
             clear Hd Hb
             have m0 := (hG.cell (p := ⟨w.heap.size, 1, none⟩) hg0).trans x1
             refine Does.yes rfl rfl d3 ?_
             go_simp
             exact HK.out _ _ rfl (Below.refl _ _)
            | 8, _ =>
             obtain rfl := Option.some.inj ho
             have e6 : a.tmps[6]?.getD undef = .int .i64 ((f : Int)) := by rw [Hb.out.2.2 6 (by decide)]; rfl
             have d3 := Hd.out 3 (by kernel_rfl)
             change (a.tmps[105]?.getD undef) = .bool true at d3
             clear Hd Hb
             refine Does.yes rfl rfl d3 ?_
             go_simp
             exact HK.out _ _ rfl (Below.refl _ _)
            | 9, _ =>
             obtain rfl := Option.some.inj ho
             have e7 : a.tmps[7]?.getD undef = .pointer (some ⟨wr.heap.size, 0, none⟩) := by rw [Hb.out.2.2 7 (by decide)]; rfl
             have d3 := Hd.out 3 (by kernel_rfl)
             change (a.tmps[105]?.getD undef) = .bool true at d3
             clear Hd Hb
             refine Does.yes rfl rfl d3 ?_
             go_simp
             exact HK.out _ _ rfl (Below.refl _ _)
            | 10, _ =>
             obtain rfl := Option.some.inj ho
             have d9 := Hd.out 9 (by kernel_rfl)
             change (a.tmps[111]?.getD undef) = .pointer (some ⟨wr.heap.size, 0, none⟩) at d9
             have d3 := Hd.out 3 (by kernel_rfl)
             change (a.tmps[105]?.getD undef) = .bool true at d3
             clear Hd Hb
             have m0 := (hG.cell (p := ⟨wr.heap.size, 0, none⟩) hl7).trans y0
             refine Does.yes rfl rfl d3 ?_
             go_simp
             exact HK.out _ _ rfl (Below.refl _ _)
            | 11, _ =>
             obtain rfl := Option.some.inj ho
             have d3 := Hd.out 3 (by kernel_rfl)
             change (a.tmps[105]?.getD undef) = .bool true at d3
             clear Hd Hb
             refine Does.yes rfl rfl d3 ?_
             go_simp
             exact HK.out _ _ (Rd.news _ #[.string ⟨#[]⟩] _ 1 1 rfl (by simp [maxLen])) (below1 _ _)
            | 12, _ =>
             obtain rfl := Option.some.inj ho
             have d5 := Hd.out 5 (by kernel_rfl)
             change (a.tmps[107]?.getD undef) = .slice am k.mem.length cm at d5
             have d7 := Hd.out 7 (by kernel_rfl)
             change (a.tmps[109]?.getD undef) = .slice (some ⟨bi, offi, none⟩) k.infos.length ci at d7
             have d8 := Hd.out 8 (by kernel_rfl)
             change (a.tmps[110]?.getD undef) = .int .i64 ((f : Int)) at d8
             have d10 := Hd.out 10 (by kernel_rfl)
             change (a.tmps[112]?.getD undef) = .int .i64 ((infoAt k.infos f).k) at d10
             have d11 := Hd.out 11 (by kernel_rfl)
             change RdStrs wx (a.tmps[113]?.getD undef) [⟨#[]⟩] at d11
             have d3 := Hd.out 3 (by kernel_rfl)
             change (a.tmps[105]?.getD undef) = .bool true at d3
             clear Hd Hb
             generalize e113 : a.tmps[113]?.getD undef = v2 at d11
             have CGx := CG.out wx hG v2 d11
             refine Does.yes rfl rfl d3 ?_
             go_simp
             refine CGx.mono ?_; rintro e w_ ⟨rfl, hb2⟩
             exact HK.out _ _ rfl hb2
            | 13, _ =>
             obtain rfl := Option.some.inj ho
             have d12 := Hd.out 12 (by kernel_rfl)
             change (a.tmps[114]?.getD undef) = .bool false at d12
             have d3 := Hd.out 3 (by kernel_rfl)
             change (a.tmps[105]?.getD undef) = .bool true at d3
             clear Hd Hb
             refine Does.yes rfl rfl d3 ?_
             go_simp
             exact HK.out _ _ rfl (Below.refl _ _)
            | 14, _ =>
             obtain rfl := Option.some.inj ho
             have d3 := Hd.out 3 (by kernel_rfl)
             change (a.tmps[105]?.getD undef) = .bool true at d3
             have d13 := Hd.out 13 (by kernel_rfl)
             change (a.tmps[115]?.getD undef) = .bool true at d13
             clear Hd Hb
             refine Does.of rfl ?_
             go_simp
             exact HK.out _ _ rfl (Below.refl _ _)
            | 15, _ =>
             obtain rfl := Option.some.inj ho
             have d14 := Hd.out 14 (by kernel_rfl)
             change (a.tmps[116]?.getD undef) = .bool true at d14
             clear Hd Hb
             refine Does.of rfl ?_
             go_simp
             exact HK.out _ _ rfl (Below.refl _ _)
            | 16, _ =>
             obtain rfl := Option.some.inj ho
             have d15 := Hd.out 15 (by kernel_rfl)
             change (a.tmps[117]?.getD undef) = .bool true at d15
             clear Hd Hb
             exact Does.no rfl rfl d15 (HK.out _ _ rfl (Below.refl _ _))
            | 17, _ =>
             obtain rfl := Option.some.inj ho
             have d15 := Hd.out 15 (by kernel_rfl)
             change (a.tmps[117]?.getD undef) = .bool true at d15
             clear Hd Hb
             exact Does.no rfl rfl d15 (HK.out _ _ rfl (Below.refl _ _))
            | 18, _ =>
             obtain rfl := Option.some.inj ho
             have d15 := Hd.out 15 (by kernel_rfl)
             change (a.tmps[117]?.getD undef) = .bool true at d15
             clear Hd Hb
             exact Does.no rfl rfl d15 (HK.out _ _ rfl (Below.refl _ _))
            | 19, _ =>
             obtain rfl := Option.some.inj ho
             have d15 := Hd.out 15 (by kernel_rfl)
             change (a.tmps[117]?.getD undef) = .bool true at d15
             clear Hd Hb
             exact Does.no rfl rfl d15 (HK.out _ _ rfl (Below.refl _ _))
            | 20, _ =>
             obtain rfl := Option.some.inj ho
             have d15 := Hd.out 15 (by kernel_rfl)
             change (a.tmps[117]?.getD undef) = .bool true at d15
             clear Hd Hb
             exact Does.no rfl rfl d15 (HK.out _ _ rfl (Below.refl _ _))
            | 21, _ =>
             obtain rfl := Option.some.inj ho
             have d15 := Hd.out 15 (by kernel_rfl)
             change (a.tmps[117]?.getD undef) = .bool true at d15
             clear Hd Hb
             exact Does.no rfl rfl d15 (HK.out _ _ rfl (Below.refl _ _))
            | 22, _ =>
             obtain rfl := Option.some.inj ho
             have d15 := Hd.out 15 (by kernel_rfl)
             change (a.tmps[117]?.getD undef) = .bool true at d15
             clear Hd Hb
             exact Does.no rfl rfl d15 (HK.out _ _ rfl (Below.refl _ _))
            | _ + 23, hq => exact absurd hq (by omega)
           ·intro vs wx hR hG
            have q15 := hR 15 (by decide)
            change (vs 15) = .bool true at q15
            have q22 := hR 22 (by decide)
            change (vs 22) = undef at q22
            clear hR
            simp only [fillAt, dstOf, List.range, List.range.loop, List.foldl_cons, List.foldl_nil, q15, q22]
            simp
            try generalize vs 0 = z0
            try generalize vs 1 = z1
            try generalize vs 2 = z2
            try generalize vs 3 = z3
            try generalize vs 4 = z4
            try generalize vs 5 = z5
            try generalize vs 6 = z6
            try generalize vs 7 = z7
            try generalize vs 8 = z8
            try generalize vs 9 = z9
            try generalize vs 10 = z10
            try generalize vs 11 = z11
            try generalize vs 12 = z12
            try generalize vs 13 = z13
            try generalize vs 14 = z14
            try generalize vs 16 = z16
            try generalize vs 17 = z17
            try generalize vs 18 = z18
            try generalize vs 19 = z19
            try generalize vs 20 = z20
            try generalize vs 21 = z21
            clear q15 q22
            have hbG := HBA.out.trans (hG.mono HBA.out.size)
            clear hG x0 x1 y0 y2 f1c
            go_wp2_with fail
            go_ret
            exact ⟨ret_bool S.out.symm, HB0.out.trans (hbG.mono HB0.out.size)⟩
          ·rw [e6] at CG0
           have CG := Lib.hid CG0
           have TB := Lib.hid (show tableOk k f = true by simp [tableOk, e6])
           clear CT0 e5 CG0 e6
           refine wp_region_grow 23 Tryz.mixed (by kernel_rfl) 170 rfl (by kernel_rfl) (fun ix vv ww => match ix with
            | 0 => vv = .pointer (some ⟨wr.heap.size, 0, none⟩)
            | 1 => vv = .int .i64 ((infoAt k.infos f).k)
            | 2 => vv = .bool true
            | 3 => vv = .bool true
            | 4 => vv = .pointer (some ⟨w.heap.size, 0, none⟩)
            | 5 => vv = .slice am k.mem.length cm
            | 6 => vv = .pointer (some ⟨w.heap.size, 1, none⟩)
            | 7 => vv = .slice (some ⟨bi, offi, none⟩) k.infos.length ci
            | 8 => vv = .int .i64 ((f : Int))
            | 9 => vv = .pointer (some ⟨wr.heap.size, 0, none⟩)
            | 10 => vv = .int .i64 ((infoAt k.infos f).k)
            | 11 => RdStrs ww vv [⟨#[]⟩]
            | 12 => vv = .bool true
            | 13 => vv = .bool false
            | 14 => vv = .bool false
            | 15 => vv = .bool false
            | 16 => vv = .pointer (some ⟨wr.heap.size, 2, none⟩)
            | 17 => vv = .int .i64 ((infoAt k.infos f).r)
            | 18 => vv = .slice (some ⟨gr, 0, none⟩) 12 capr
            | 19 => vv = .int .i64 ((f : Int))
            | 20 => vv = .pointer (some ⟨gr, f, none⟩)
            | 21 => vv = .int .i64 (nth (refL k 3) f)
            | 22 => vv = .bool ((infoAt k.infos f).r != nth (refL k 3) f)
            | _ => True) ?_ ?_ ?_
           ·intro i hi vv wz ww' hbz hz
            match i, hi with
            | 0, _ => exact hz
            | 1, _ => exact hz
            | 2, _ => exact hz
            | 3, _ => exact hz
            | 4, _ => exact hz
            | 5, _ => exact hz
            | 6, _ => exact hz
            | 7, _ => exact hz
            | 8, _ => exact hz
            | 9, _ => exact hz
            | 10, _ => exact hz
            | 11, _ => exact (RdF.below hz hbz)
            | 12, _ => exact hz
            | 13, _ => exact hz
            | 14, _ => exact hz
            | 15, _ => exact hz
            | 16, _ => exact hz
            | 17, _ => exact hz
            | 18, _ => exact hz
            | 19, _ => exact hz
            | 20, _ => exact hz
            | 21, _ => exact hz
            | 22, _ => exact hz
            | _ + 23, hq => exact absurd hq (by omega)
           ·intro i hi o ho a wx Hb Hd hG K HK
            match i, hi with
            | 0, _ =>
             obtain rfl := Option.some.inj ho
             have e7 : a.tmps[7]?.getD undef = .pointer (some ⟨wr.heap.size, 0, none⟩) := by rw [Hb.out.2.2 7 (by decide)]; rfl
             clear Hd Hb
             refine Does.of rfl ?_
             go_simp
             exact HK.out _ _ rfl (Below.refl _ _)
            | 1, _ =>
             obtain rfl := Option.some.inj ho
             have d0 := Hd.out 0 (by kernel_rfl)
             change (a.tmps[102]?.getD undef) = .pointer (some ⟨wr.heap.size, 0, none⟩) at d0
             clear Hd Hb
             have m0 := (hG.cell (p := ⟨wr.heap.size, 0, none⟩) hl7).trans y0
             refine Does.of rfl ?_
             go_simp
             exact HK.out _ _ rfl (Below.refl _ _)
            | 2, _ =>
             obtain rfl := Option.some.inj ho
             have d1 := Hd.out 1 (by kernel_rfl)
             change (a.tmps[103]?.getD undef) = .int .i64 ((infoAt k.infos f).k) at d1
             clear Hd Hb
             refine Does.of rfl ?_
             go_simp
             refine (CT.out _ hG).mono ?_; rintro e w_ ⟨rfl, hb2⟩
             exact HK.out _ _ rfl hb2
            | 3, _ =>
             obtain rfl := Option.some.inj ho
             have d2 := Hd.out 2 (by kernel_rfl)
             change (a.tmps[104]?.getD undef) = .bool true at d2
             clear Hd Hb
             refine Does.of rfl ?_
             go_simp
             exact HK.out _ _ rfl (Below.refl _ _)
            | 4, _ =>
             obtain rfl := Option.some.inj ho
             have e1 : a.tmps[1]?.getD undef = .pointer (some ⟨w.heap.size, 0, none⟩) := by rw [Hb.out.2.2 1 (by decide)]; rfl
             have d3 := Hd.out 3 (by kernel_rfl)
             change (a.tmps[105]?.getD undef) = .bool true at d3
             clear Hd Hb
             refine Does.yes rfl rfl d3 ?_
             go_simp
             exact HK.out _ _ rfl (Below.refl _ _)
            | 5, _ =>
             obtain rfl := Option.some.inj ho
             have d4 := Hd.out 4 (by kernel_rfl)
             change (a.tmps[106]?.getD undef) = .pointer (some ⟨w.heap.size, 0, none⟩) at d4
             have d3 := Hd.out 3 (by kernel_rfl)
             change (a.tmps[105]?.getD undef) = .bool true at d3
             clear Hd Hb
             have m0 := (hG.cell (p := ⟨w.heap.size, 0, none⟩) hg0).trans x0
             refine Does.yes rfl rfl d3 ?_
             go_simp
             exact HK.out _ _ rfl (Below.refl _ _)
            | 6, _ =>
             obtain rfl := Option.some.inj ho
             have e1 : a.tmps[1]?.getD undef = .pointer (some ⟨w.heap.size, 0, none⟩) := by rw [Hb.out.2.2 1 (by decide)]; rfl
             have d3 := Hd.out 3 (by kernel_rfl)
             change (a.tmps[105]?.getD undef) = .bool true at d3
             clear Hd Hb
             refine Does.yes rfl rfl d3 ?_
             go_simp
             exact HK.out _ _ rfl (Below.refl _ _)
            | 7, _ =>
             obtain rfl := Option.some.inj ho
             have d6 := Hd.out 6 (by kernel_rfl)
             change (a.tmps[108]?.getD undef) = .pointer (some ⟨w.heap.size, 1, none⟩) at d6
             have d3 := Hd.out 3 (by kernel_rfl)
             change (a.tmps[105]?.getD undef) = .bool true at d3
             clear Hd Hb
             have m0 := (hG.cell (p := ⟨w.heap.size, 1, none⟩) hg0).trans x1
             refine Does.yes rfl rfl d3 ?_
             go_simp
             exact HK.out _ _ rfl (Below.refl _ _)
            | 8, _ =>
             obtain rfl := Option.some.inj ho
             have e6 : a.tmps[6]?.getD undef = .int .i64 ((f : Int)) := by rw [Hb.out.2.2 6 (by decide)]; rfl
             have d3 := Hd.out 3 (by kernel_rfl)
             change (a.tmps[105]?.getD undef) = .bool true at d3
             clear Hd Hb
             refine Does.yes rfl rfl d3 ?_
             go_simp
             exact HK.out _ _ rfl (Below.refl _ _)
            | 9, _ =>
             obtain rfl := Option.some.inj ho
             have e7 : a.tmps[7]?.getD undef = .pointer (some ⟨wr.heap.size, 0, none⟩) := by rw [Hb.out.2.2 7 (by decide)]; rfl
             have d3 := Hd.out 3 (by kernel_rfl)
             change (a.tmps[105]?.getD undef) = .bool true at d3
             clear Hd Hb
             refine Does.yes rfl rfl d3 ?_
             go_simp
             exact HK.out _ _ rfl (Below.refl _ _)
            | 10, _ =>
             obtain rfl := Option.some.inj ho
             have d9 := Hd.out 9 (by kernel_rfl)
             change (a.tmps[111]?.getD undef) = .pointer (some ⟨wr.heap.size, 0, none⟩) at d9
             have d3 := Hd.out 3 (by kernel_rfl)
             change (a.tmps[105]?.getD undef) = .bool true at d3
             clear Hd Hb
             have m0 := (hG.cell (p := ⟨wr.heap.size, 0, none⟩) hl7).trans y0
             refine Does.yes rfl rfl d3 ?_
             go_simp
             exact HK.out _ _ rfl (Below.refl _ _)
            | 11, _ =>
             obtain rfl := Option.some.inj ho
             have d3 := Hd.out 3 (by kernel_rfl)
             change (a.tmps[105]?.getD undef) = .bool true at d3
             clear Hd Hb
             refine Does.yes rfl rfl d3 ?_
             go_simp
             exact HK.out _ _ (Rd.news _ #[.string ⟨#[]⟩] _ 1 1 rfl (by simp [maxLen])) (below1 _ _)
            | 12, _ =>
             obtain rfl := Option.some.inj ho
             have d5 := Hd.out 5 (by kernel_rfl)
             change (a.tmps[107]?.getD undef) = .slice am k.mem.length cm at d5
             have d7 := Hd.out 7 (by kernel_rfl)
             change (a.tmps[109]?.getD undef) = .slice (some ⟨bi, offi, none⟩) k.infos.length ci at d7
             have d8 := Hd.out 8 (by kernel_rfl)
             change (a.tmps[110]?.getD undef) = .int .i64 ((f : Int)) at d8
             have d10 := Hd.out 10 (by kernel_rfl)
             change (a.tmps[112]?.getD undef) = .int .i64 ((infoAt k.infos f).k) at d10
             have d11 := Hd.out 11 (by kernel_rfl)
             change RdStrs wx (a.tmps[113]?.getD undef) [⟨#[]⟩] at d11
             have d3 := Hd.out 3 (by kernel_rfl)
             change (a.tmps[105]?.getD undef) = .bool true at d3
             clear Hd Hb
             generalize e113 : a.tmps[113]?.getD undef = v2 at d11
             have CGx := CG.out wx hG v2 d11
             refine Does.yes rfl rfl d3 ?_
             go_simp
             refine CGx.mono ?_; rintro e w_ ⟨rfl, hb2⟩
             exact HK.out _ _ rfl hb2
            | 13, _ =>
             obtain rfl := Option.some.inj ho
             have d12 := Hd.out 12 (by kernel_rfl)
             change (a.tmps[114]?.getD undef) = .bool true at d12
             have d3 := Hd.out 3 (by kernel_rfl)
             change (a.tmps[105]?.getD undef) = .bool true at d3
             clear Hd Hb
             refine Does.yes rfl rfl d3 ?_
             go_simp
             exact HK.out _ _ rfl (Below.refl _ _)
            | 14, _ =>
             obtain rfl := Option.some.inj ho
             have d3 := Hd.out 3 (by kernel_rfl)
             change (a.tmps[105]?.getD undef) = .bool true at d3
             have d13 := Hd.out 13 (by kernel_rfl)
             change (a.tmps[115]?.getD undef) = .bool false at d13
             clear Hd Hb
             refine Does.of rfl ?_
             go_simp
             exact HK.out _ _ rfl (Below.refl _ _)
            | 15, _ =>
             obtain rfl := Option.some.inj ho
             have d14 := Hd.out 14 (by kernel_rfl)
             change (a.tmps[116]?.getD undef) = .bool false at d14
             clear Hd Hb
             refine Does.of rfl ?_
             go_simp
             exact HK.out _ _ rfl (Below.refl _ _)
            | 16, _ =>
             obtain rfl := Option.some.inj ho
             have e7 : a.tmps[7]?.getD undef = .pointer (some ⟨wr.heap.size, 0, none⟩) := by rw [Hb.out.2.2 7 (by decide)]; rfl
             have d15 := Hd.out 15 (by kernel_rfl)
             change (a.tmps[117]?.getD undef) = .bool false at d15
             clear Hd Hb
             refine Does.yes rfl rfl d15 ?_
             go_simp
             exact HK.out _ _ rfl (Below.refl _ _)
            | 17, _ =>
             obtain rfl := Option.some.inj ho
             have d16 := Hd.out 16 (by kernel_rfl)
             change (a.tmps[118]?.getD undef) = .pointer (some ⟨wr.heap.size, 2, none⟩) at d16
             have d15 := Hd.out 15 (by kernel_rfl)
             change (a.tmps[117]?.getD undef) = .bool false at d15
             clear Hd Hb
             have m0 := (hG.cell (p := ⟨wr.heap.size, 2, none⟩) hl7).trans y2
             refine Does.yes rfl rfl d15 ?_
             go_simp
             exact HK.out _ _ rfl (Below.refl _ _)
            | 18, _ =>
             obtain rfl := Option.some.inj ho
             have e3 : a.tmps[3]?.getD undef = .slice (some ⟨gr, 0, none⟩) 12 capr := by rw [Hb.out.2.2 3 (by decide)]; rfl
             have d15 := Hd.out 15 (by kernel_rfl)
             change (a.tmps[117]?.getD undef) = .bool false at d15
             clear Hd Hb
             refine Does.yes rfl rfl d15 ?_
             go_simp
             exact HK.out _ _ rfl (Below.refl _ _)
            | 19, _ =>
             obtain rfl := Option.some.inj ho
             have e6 : a.tmps[6]?.getD undef = .int .i64 ((f : Int)) := by rw [Hb.out.2.2 6 (by decide)]; rfl
             have d15 := Hd.out 15 (by kernel_rfl)
             change (a.tmps[117]?.getD undef) = .bool false at d15
             clear Hd Hb
             refine Does.yes rfl rfl d15 ?_
             go_simp
             exact HK.out _ _ rfl (Below.refl _ _)
            | 20, _ =>
             obtain rfl := Option.some.inj ho
             have d18 := Hd.out 18 (by kernel_rfl)
             change (a.tmps[120]?.getD undef) = .slice (some ⟨gr, 0, none⟩) 12 capr at d18
             have d19 := Hd.out 19 (by kernel_rfl)
             change (a.tmps[121]?.getD undef) = .int .i64 ((f : Int)) at d19
             have d15 := Hd.out 15 (by kernel_rfl)
             change (a.tmps[117]?.getD undef) = .bool false at d15
             clear Hd Hb
             refine Does.yes rfl rfl d15 ?_
             go_simp
             exact HK.out _ _ rfl (Below.refl _ _)
            | 21, _ =>
             obtain rfl := Option.some.inj ho
             have d20 := Hd.out 20 (by kernel_rfl)
             change (a.tmps[122]?.getD undef) = .pointer (some ⟨gr, f, none⟩) at d20
             have d15 := Hd.out 15 (by kernel_rfl)
             change (a.tmps[117]?.getD undef) = .bool false at d15
             clear Hd Hb
             have m0 := (hG.cell (p := ⟨gr, f, none⟩) hgr).trans f1c
             refine Does.yes rfl rfl d15 ?_
             go_simp
             exact HK.out _ _ rfl (Below.refl _ _)
            | 22, _ =>
             obtain rfl := Option.some.inj ho
             have d17 := Hd.out 17 (by kernel_rfl)
             change (a.tmps[119]?.getD undef) = .int .i64 ((infoAt k.infos f).r) at d17
             have d21 := Hd.out 21 (by kernel_rfl)
             change (a.tmps[123]?.getD undef) = .int .i64 (nth (refL k 3) f) at d21
             have d15 := Hd.out 15 (by kernel_rfl)
             change (a.tmps[117]?.getD undef) = .bool false at d15
             clear Hd Hb
             refine Does.yes rfl rfl d15 ?_
             go_simp
             exact HK.out _ _ rfl (Below.refl _ _)
            | _ + 23, hq => exact absurd hq (by omega)
           ·intro vs wx hR hG
            have q15 := hR 15 (by decide)
            change (vs 15) = .bool false at q15
            have q22 := hR 22 (by decide)
            change (vs 22) = .bool ((infoAt k.infos f).r != nth (refL k 3) f) at q22
            clear hR
            simp only [fillAt, dstOf, List.range, List.range.loop, List.foldl_cons, List.foldl_nil, q15, q22]
            simp
            try generalize vs 0 = z0
            try generalize vs 1 = z1
            try generalize vs 2 = z2
            try generalize vs 3 = z3
            try generalize vs 4 = z4
            try generalize vs 5 = z5
            try generalize vs 6 = z6
            try generalize vs 7 = z7
            try generalize vs 8 = z8
            try generalize vs 9 = z9
            try generalize vs 10 = z10
            try generalize vs 11 = z11
            try generalize vs 12 = z12
            try generalize vs 13 = z13
            try generalize vs 14 = z14
            try generalize vs 16 = z16
            try generalize vs 17 = z17
            try generalize vs 18 = z18
            try generalize vs 19 = z19
            try generalize vs 20 = z20
            try generalize vs 21 = z21
            clear q15 q22
            have hbG := HBA.out.trans (hG.mono HBA.out.size)
            have HO2 := Lib.hid (OwnInts.below HO.out hG)
            clear hG x0 x1 y0 y2 f1c
            have RL := refL_ref (k := k) T4.out hf12
            cases hne : ((infoAt k.infos f).r != nth (refL k 3) f)
            ·have S1 := Lib.hid (show refOk k f = true by rw [RL]; simpa using hne)
             clear RL
             go_wp2_with fail
             go_roundw
             case rel => exact ⟨f + 1, by omega, by go_num, forall_lt_succ Hpre.out ⟨TB.out, S1.out⟩, HO2.out, hbG⟩
             case measure => simp [intOf]; omega
            ·have S := Lib.hid (kern_ref hf12 (show refOk k f = false by rw [RL]; simpa using hne))
             clear RL
             go_wp2_with fail
             go_ret
             exact ⟨ret_bool S.out.symm, HB0.out.trans (hbG.mono HB0.out.size)⟩
        ·obtain rfl : f = k.infos.length := by omega
         have HTR := Lib.hid (fun f (hf : f < 12) => Hpre.out f (by have := hl12.out; omega))
         have x3 := (blk_cells4 (blk_below HN.out hbel)).2.2.2
         have hb3 := Lib.hid hbel
         clear hO hbel Hpre
         go_wp2_with fail
         clear x3
         obtain ⟨wq2, rfl⟩ : ∃ wq : World, wq = wr := ⟨_, rfl⟩
         go_loopw [130] (fun i wr => ∃ j : Nat, j ≤ k.cache.length ∧ i = .int .i64 j ∧ (∀ j', j' < j → transOk k (cacheAt k.cache j') = true) ∧ Below W0.heap.size W0 wr) (fun i _ => k.cache.length - (intOf i).toNat)
         case atStart => exact ⟨0, Nat.zero_le _, rfl, fun j hj => absurd hj (Nat.not_lt_zero _), hb3.out⟩
         case round =>
          obtain ⟨j, hj, rfl, hpre, hbel⟩ := hrel
          have Hpre := Lib.hid hpre
          clear hpre
          by_cases hlt : j < k.cache.length
          ·obtain ⟨a9, c9, ev, _, _, H4o⟩ := RdF.open cachedCs_len (by decide) (RdF.below H4.out hbel)
           cases ev
           obtain ⟨bi, offi, rfl, hbi, D0, D1, D2, D3⟩ := H4o.cachedCells hlt
           have hco : cachedOk (cacheAt k.cache j) = true := by
            have h1 := T3.out
            unfold cacheOk at h1
            simp only [Bool.and_eq_true, List.all_eq_true] at h1
            have h2 := h1.1 j (List.mem_range.2 hlt)
            unfold stepCache at h2
            simp only [Bool.and_eq_true] at h2
            exact h2.1
           have hcl : k.cache.length ≤ 4 := by
            have h1 := T3.out
            unfold cacheOk at h1
            simp only [Bool.and_eq_true, decide_eq_true_eq] at h1
            exact h1.2
           unfold cachedOk at hco
           simp only [Bool.and_eq_true, inB_iff] at hco
           obtain ⟨⟨⟨e0, e2⟩, p0, p2⟩, f0, f2⟩ := hco
           obtain ⟨en, hen⟩ : ∃ n : Nat, (cacheAt k.cache j).e = (n : Int) := ⟨(cacheAt k.cache j).e.toNat, by omega⟩
           obtain ⟨pn, hpn⟩ : ∃ n : Nat, (cacheAt k.cache j).p = (n : Int) := ⟨(cacheAt k.cache j).p.toNat, by omega⟩
           obtain ⟨fn, hfn⟩ : ∃ n : Nat, (cacheAt k.cache j).f = (n : Int) := ⟨(cacheAt k.cache j).f.toNat, by omega⟩
           have TO := Lib.hid (show transOk k (cacheAt k.cache j) = (decide (0 ≤ (envAt k.envs en).root) && decide (walkP k.mem (envAt k.envs en).root.toNat (4 * pn) = (0, fn, (cacheAt k.cache j).w))) by unfold transOk; rw [hen, hpn, hfn]; rfl)
           have hen3 : en < 3 := by omega
           have hpn16 : pn < 16 := by omega
           have KT := Lib.hid (kern_trans (k := k) hlt)
           rw [hen] at D0
           rw [hpn] at D1
           rw [hfn] at D2
           generalize hcw : (cacheAt k.cache j).w = cw at *
           have N := heap_alloc_new wr (.cells #[.int .i64 (en : Int), .int .i64 (pn : Int), .int .i64 (fn : Int), .bool cw] 94)
           have hbn := below1 wr (.cells #[.int .i64 (en : Int), .int .i64 (pn : Int), .int .i64 (fn : Int), .bool cw] 94)
           have hlz : (j : Int) < k.cache.length := by omega
           have hjz : (j : Int) < 4 := by omega
           have hba := hbel.trans (hbn.mono hbel.size)
           obtain ⟨b, off, ua, uc, rfl, hbl, E0, E1, RR⟩ := HE.out en (by have := T4.out; omega)
           replace E1 := (hba.cell (p := ⟨b, off + en * 2 + 1, none⟩) hbl).trans E1
           have x0 := (blk_cells4 (blk_below HN.out hba)).1
           have x2 := (blk_cells4 (blk_below HN.out hba)).2.2.1
           obtain ⟨y0, y1, y2, y3⟩ := blk_cells4 N
           have env3 : (en : Int) < k.envs.length := by have := T4.out; omega
           have HBA := Lib.hid hba
           have HEe := Lib.hid (HEO.out en hen3)
           have hEN := Lib.hid (And.intro hen (And.intro hpn hfn))
           clear H4o E0 RR hbn hbel hba N e0 e2 p0 p2 f0 f2 hen hpn hfn hcl
           by_cases hroot : (envAt k.envs en).root < 0
           ·have S := Lib.hid (KT.out (by rw [TO.out]; simp; omega))
            have hbG := HBA.out
            clear x0 y1 y2 y3
            go_wp2_with fail
            go_ret
            exact ⟨ret_bool S.out.symm, HB0.out.trans (hbG.mono HB0.out.size)⟩
           ·obtain ⟨rn, hrn⟩ : ∃ n : Nat, (envAt k.envs en).root = (n : Int) := ⟨(envAt k.envs en).root.toNat, by omega⟩
            have hrn12 : rn < 12 := by
             have h1 := HEe.out
             unfold envOk at h1
             simp only [Bool.and_eq_true, Bool.or_eq_true, decide_eq_true_eq, inB_iff] at h1
             rcases h1.1.2 with h | h <;> omega
            have CW0 := fun W (hW : Below W0.heap.size W0 W) => walk_any _ k.mem rn (4 * pn) W (H1.out.below hW) T1.out hrn12 (by omega)
            have hl9 : wr.heap.size < (wr.alloc (.cells #[.int .i64 (en : Int), .int .i64 (pn : Int), .int .i64 (fn : Int), .bool cw] 94)).heap.size := by simp
            rw [hrn] at E1 TO hroot
            unfold walkV at CW0
            rw [show ((4 * pn : Nat) : Int) = (pn : Int) * 4 by omega] at CW0
            simp only [Int.toNat_natCast] at TO
            obtain ⟨code, fr, wb, hwp⟩ : ∃ code fr wb, walkP k.mem rn (4 * pn) = (code, fr, wb) := ⟨_, _, _, rfl⟩
            simp only [hwp] at CW0 TO
            clear hwp
            have TO2 := Lib.hid (show transOk k (cacheAt k.cache j) = (decide (code = 0) && (decide (fr = fn) && decide (wb = cw))) by
             rw [TO.out]
             have : (0 : Int) ≤ (rn : Int) := by omega
             simp [this])
            by_cases hc0 : code = 0
            ·subst hc0
             rw [if_pos rfl] at CW0
             unfold placeV at CW0
             rw [show ((4 * pn % 4 : Nat) : Int) = 0 by omega] at CW0
             have CW := Lib.hid CW0
             clear CW0
             go_wp2_with fail
             refine (CW.out _ HBA.out).mono ?_; rintro e w2 ⟨rfl, hb2⟩
             have hbG0 := HBA.out.trans (hb2.mono HBA.out.size)
             replace y2 := (hb2.cell (p := ⟨wr.heap.size, 2, none⟩) hl9).trans y2
             replace y3 := (hb2.cell (p := ⟨wr.heap.size, 3, none⟩) hl9).trans y3
             clear x0 x2 E1 y0 y1 hb2
             have hbG := hbG0.trans ((below1 w2 (.cells #[.int .i64 (fr : Int), .int .i64 0, .bool wb] 96)).mono hbG0.size)
             replace y2 := ((below1 w2 (.cells #[.int .i64 (fr : Int), .int .i64 0, .bool wb] 96)).cell (World.block_lt_of_cell? w2 _ y2)).trans y2
             replace y3 := ((below1 w2 (.cells #[.int .i64 (fr : Int), .int .i64 0, .bool wb] 96)).cell (World.block_lt_of_cell? w2 _ y3)).trans y3
             have HG := Lib.hid hbG
             clear hbG0 hbG hroot
             by_cases hfr : fr = fn
             ·have t1 : ((fr : Int) != (fn : Int)) = false := by simp [hfr]
              by_cases hwb : wb = cw
              ·have S := Lib.hid (show transOk k (cacheAt k.cache j) = true by rw [TO2.out]; simp [hfr, hwb])
               subst hwb
               clear hfr
               cases wb
               all_goals
                go_wp2_with fail
                go_roundw
                case rel => exact ⟨j + 1, by omega, by go_num, forall_lt_succ Hpre.out S.out, HG.out⟩
                case measure => simp [intOf]; omega
              ·have S := Lib.hid (KT.out (by rw [TO2.out]; simp [hwb]))
               have hq := Lib.hid hwb
               clear hfr hwb
               cases wb <;> cases cw
               ·exact absurd rfl hq.out
               ·go_wp2_with fail
                go_ret
                exact ⟨ret_bool S.out.symm, HB0.out.trans (HG.out.mono HB0.out.size)⟩
               ·go_wp2_with fail
                go_ret
                exact ⟨ret_bool S.out.symm, HB0.out.trans (HG.out.mono HB0.out.size)⟩
               ·exact absurd rfl hq.out
             ·have t1 : ((fr : Int) != (fn : Int)) = true := by simp; omega
              have S := Lib.hid (KT.out (by rw [TO2.out]; simp [hfr]))
              clear hfr y3
              go_wp2_with fail
              go_ret
              exact ⟨ret_bool S.out.symm, HB0.out.trans (HG.out.mono HB0.out.size)⟩
            ·rw [if_neg hc0] at CW0
             unfold noPlace at CW0
             have CW := Lib.hid CW0
             have t1 : (code != 0) = true := by simp [hc0]
             have S := Lib.hid (KT.out (by rw [TO2.out]; simp [hc0]))
             clear CW0 hc0
             go_wp2_with fail
             refine (CW.out _ HBA.out).mono ?_; rintro e w2 ⟨rfl, hb2⟩
             have hbG0 := HBA.out.trans (hb2.mono HBA.out.size)
             have HG := Lib.hid (hbG0.trans ((below1 w2 (.cells #[.int .i64 0, .int .i64 0, .bool false] 96)).mono hbG0.size))
             clear x0 x2 E1 y0 y1 y2 y3 hb2 hbG0 hroot
             go_wp2_with fail
             go_ret
             exact ⟨ret_bool S.out.symm, HB0.out.trans (HG.out.mono HB0.out.size)⟩
          ·have S := Lib.hid (kern_yes T1.out T2.out T3.out T4.out HEO.out HTR.out (fun j' hj' => Hpre.out j' (by omega)))
           have hbG := hbel
           go_wp2_with fail
           go_ret
           exact ⟨ret_bool S.out.symm, HB0.out.trans (hbG.mono HB0.out.size)⟩
    ·have S := Lib.hid (kern_envl e4)
     have n4 : ((k.envs.length : Int) != 3) = true := by simp; omega
     clear e4
     go_wp2_with fail
     go_ret
     exact ⟨ret_bool S.out.symm, HB0.out.trans (hb.mono HB0.out.size)⟩
end Go.Proofs.YtjacdlekgdnndaaGreatDoor
