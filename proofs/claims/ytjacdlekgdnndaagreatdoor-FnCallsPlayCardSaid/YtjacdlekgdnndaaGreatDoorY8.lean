/-
  Packed: 4 texts.
-/
import Derived.Test.YtjacdlekgdnndaaGreatDoorY7
import Derived.Test.YtjacdlekgdnndaaGreatDoorY4
set_option linter.unusedVariables false
namespace Go.Proofs.YtjacdlekgdnndaaGreatDoor
open Go.RowKit
def unrooted (infos : List InfoV) (old : Int) : List InfoV := if 0 ≤ old then modAt infos old.toNat (addR (-1)) else infos
def rerooted (infos : List InfoV) (new : Int) : List InfoV := if 0 ≤ new then modAt infos new.toNat (addR 1) else infos
theorem rootP_eq {k : KernV} {c : CallV} : rootP k c =
 if c.a ≠ -1 ∧ (inB c.a 0 11 = false ∨ (infoAt k.infos c.a.toNat).k ≠ 3) then (k, 0, 3)
 else if allowedP k.infos (reachL k.mem c.a) (envAt k.envs c.e.toNat).rights = false then (k, 0, 1)
 else ({ k with infos := rerooted (unrooted k.infos (envAt k.envs c.e.toNat).root) c.a, envs := modAt k.envs c.e.toNat (setRoot c.a), cache := dropC k.cache c.e }, 0, 0) := rfl
set_option maxRecDepth 100000 in
set_option maxHeartbeats 4000000 in
theorem rootC_any {lo g : Nat} {w : World} {m i e c : Value} {k : KernV} (h : InK lo w g m i e c k) (hlo : lo ≤ w.heap.size) (hK : KOk k) (call : CallV) (he : 0 ≤ call.e) (hn : call.e < 3) :
 Calls Tryz.prog 177 #[call.on g] w (Ends1 lo g w (rootP k call)) := by
 have N := heap_alloc_new w (.cells (call.onCells g) 150)
 have hb0 := below1 w (.cells (call.onCells g) 150)
 have S0 := CS.start h hlo call
 have C0 := Lib.hid (fun W (_ : Below w.heap.size w W) => same_below (isFrame_any call.a W))
 have HPx := Lib.hid (rootP_eq (k := k) (c := call))
 obtain ⟨k1, e1, a1, b1, c1, nm⟩ := call
 obtain ⟨en, rfl⟩ : ∃ n : Nat, e1 = (n : Int) := ⟨e1.toNat, by simp only at he; omega⟩
 have hen : en < 3 := by simp only at hn; omega
 simp only [CallV.on, CallV.onCells] at N hb0 C0 HPx S0 ⊢
 simp only [Int.toNat_natCast] at HPx
 obtain ⟨y0, y1, y2, y3, y4, y5, y6⟩ := on_cells (c := ⟨k1, (en : Int), a1, b1, c1, nm⟩) N
 have hl := blk_lt N
 have HN := Lib.hid N
 have HK := Lib.hid hK
 obtain ⟨ge, cap, e9, _, ⟨⟨nge1, nge2⟩, nge3, nge4⟩, _⟩ := S0.envs (by rw [hK.envl]; omega)
 rw [hK.envl] at e9
 obtain ⟨gi, capi, e8, _, _, ⟨⟨ngi1, ngi2⟩, ngi3, ngi4⟩, _⟩ := S0.infos (by rw [hK.len]; omega)
 rw [hK.len] at e8
 subst e8 e9
 obtain ⟨nie, nei⟩ := S0.infos_envs
 have HI := Lib.hid h
 have HS0 := Lib.hid S0
 clear hK h N y1 y2 y4 y5 y6 S0
 by_cases e1 : a1 = -1
 ·have t1 : (a1 != -1) = false := by simp [e1]
  have HP2 := Lib.hid (show rootP k ⟨k1, (en : Int), a1, b1, c1, nm⟩ = if allowedP k.infos (reachL k.mem a1) (envAt k.envs en).rights = false then (k, 0, 1) else ({ k with infos := rerooted (unrooted k.infos (envAt k.envs en).root) a1, envs := modAt k.envs en (setRoot a1), cache := dropC k.cache (en : Int) }, 0, 0) by rw [HPx.out, if_neg (by rw [e1]; simp)])
  have Ha : Hid (a1 < 12) := Lib.hid (by omega)
  have Hn : Hid (a1 < 0) := Lib.hid (by omega)
  clear e1 y0
  go_enter Tryz.func177, Tryz.ntmps177
  go_wp2_with fail
  have HS := HS0
  generalize hW2 : w.alloc _ = W2 at *
  clear hW2
  have hge := HS.out.ge_lt
  obtain ⟨y0, y1, y2, y3, y4, y5, y6⟩ := HS.out.ys
  obtain ⟨x0, x1, x2, _⟩ := HS.out.xs
  obtain ⟨hl2, hgl2, ngb, nbg⟩ := HS.out.lts
  obtain ⟨ua, uc, D0, D1, R⟩ := HS.out.env (j := en) (by rw [HK.out.envl]; exact hen)
  have CE := Lib.hid (fun W (hW : Below W2.heap.size W2 W) => HS.out.callEnv (en := en) rfl hen W hW)
  simp only [CallV.on, CallV.onCells] at CE
  have RM : RdRows W2 m k.mem := HS.out.ink.2.2.rd.1
  have RIn : RdInfos W2 (.slice (some ⟨gi, 0, none⟩) 12 capi) k.infos := HS.out.ink.2.2.2.1.rd
  have CX := Lib.hid (fun W (hW : Below W2.heap.size W2 W) => reached_root m k.mem (a1) W (RM.below hW) (kok_parts HK.out).1 Ha.out)
  have CA := Lib.hid (fun W (hW : Below W2.heap.size W2 W) v2 ts (h2 : RdInts W v2 (ints ts)) (hm : ∀ g, g ∈ ts ↔ g ∈ reachL k.mem (a1)) => by have := allowed_any g _ v2 _ (envAt k.envs en).rights ts k.infos W ((hW.cell (p := ⟨g, 1, none⟩) hgl2).trans x1) (RdF.below R hW) (RdF.below RIn hW) h2 (fun f hf => by have := reach_lt Ha.out f ((hm f).1 hf); have := HK.out.len; omega); rw [allowed_mem hm] at this; exact this)
  generalize hbb : allowedP k.infos (reachL k.mem (a1)) (envAt k.envs en).rights = bb at CA HP2
  clear hbb RM RIn R x1 x2
  refine wp_region_grow 15 Tryz.mixed (by kernel_rfl) 94 rfl (by kernel_rfl) (fun ix vv ww => match ix with
   | 0 => vv = .pointer (some ⟨w.heap.size, 0, none⟩)
   | 1 => vv = .pointer (some ⟨g, 0, none⟩)
   | 2 => vv = .agg #[.pointer (some ⟨g, 0, none⟩), .int .i64 k1, .int .i64 ((en : Int)), .int .i64 a1, .int .i64 b1, .int .i64 c1, .string nm]
   | 3 => vv = .pointer (some ⟨ge, en * 2, none⟩)
   | 4 => vv = .pointer (some ⟨ge, en * 2, none⟩)
   | 5 => vv = .pointer (some ⟨ge, en * 2, none⟩)
   | 6 => vv = .slice ua (envAt k.envs en).rights.length uc
   | 7 => vv = .pointer (some ⟨w.heap.size, 0, none⟩)
   | 8 => vv = .pointer (some ⟨g, 0, none⟩)
   | 9 => vv = .pointer (some ⟨g, 0, none⟩)
   | 10 => vv = .pointer (some ⟨g, 0, none⟩)
   | 11 => vv = m
   | 12 => vv = .int .i64 a1
   | 13 => ReachIn W2.heap.size k.mem (a1) ww vv
   | 14 => vv = .bool bb
   | _ => True) ?_ ?_ ?_
  ·intro i hi vv wz ww' hbz hz
   match i, hi with
   | 0, _ => exact hz
   | 1, _ => exact hz
   | 2, _ => exact hz
   | 3, _ => exact hz
   | 4, _ => exact hz
   | 5, _ => exact hz
   | 6, _ => exact hz
   | 7, _ => exact hz
   | 8, _ => exact hz
   | 9, _ => exact hz
   | 10, _ => exact hz
   | 11, _ => exact hz
   | 12, _ => exact hz
   | 13, _ => exact (ReachIn.below hz hbz)
   | 14, _ => exact hz
   | _ + 15, hq => exact absurd hq (by omega)
  ·intro i hi o ho a wx Hb Hd hG K HK
   match i, hi with
   | 0, _ =>
    obtain rfl := Option.some.inj ho
    have e1 : a.tmps[1]?.getD undef = .pointer (some ⟨w.heap.size, 0, none⟩) := by rw [Hb.out.2.2 1 (by decide)]; rfl
    clear Hd Hb
    refine Does.of rfl ?_
    go_simp
    exact HK.out _ _ rfl (Below.refl _ _)
   | 1, _ =>
    obtain rfl := Option.some.inj ho
    have d0 := Hd.out 0 (by kernel_rfl)
    change (a.tmps[27]?.getD undef) = .pointer (some ⟨w.heap.size, 0, none⟩) at d0
    clear Hd Hb
    have m0 := (hG.cell (p := ⟨w.heap.size, 0, none⟩) hl2).trans y0
    refine Does.of rfl ?_
    go_simp
    exact HK.out _ _ rfl (Below.refl _ _)
   | 2, _ =>
    obtain rfl := Option.some.inj ho
    have e1 : a.tmps[1]?.getD undef = .pointer (some ⟨w.heap.size, 0, none⟩) := by rw [Hb.out.2.2 1 (by decide)]; rfl
    clear Hd Hb
    have m0 := (hG.cell (p := ⟨w.heap.size, 0, none⟩) hl2).trans y0
    have m1 := (hG.cell (p := ⟨w.heap.size, 1, none⟩) hl2).trans y1
    have m2 := (hG.cell (p := ⟨w.heap.size, 2, none⟩) hl2).trans y2
    have m3 := (hG.cell (p := ⟨w.heap.size, 3, none⟩) hl2).trans y3
    have m4 := (hG.cell (p := ⟨w.heap.size, 4, none⟩) hl2).trans y4
    have m5 := (hG.cell (p := ⟨w.heap.size, 5, none⟩) hl2).trans y5
    have m6 := (hG.cell (p := ⟨w.heap.size, 6, none⟩) hl2).trans y6
    refine Does.of rfl ?_
    go_simp
    exact HK.out _ _ rfl (Below.refl _ _)
   | 3, _ =>
    obtain rfl := Option.some.inj ho
    have d2 := Hd.out 2 (by kernel_rfl)
    change (a.tmps[29]?.getD undef) = .agg #[.pointer (some ⟨g, 0, none⟩), .int .i64 k1, .int .i64 ((en : Int)), .int .i64 a1, .int .i64 b1, .int .i64 c1, .string nm] at d2
    clear Hd Hb
    refine Does.of rfl ?_
    go_simp
    refine (CE.out _ hG).mono ?_; rintro e w_ ⟨rfl, hb2⟩
    exact HK.out _ _ rfl hb2
   | 4, _ =>
    obtain rfl := Option.some.inj ho
    have d3 := Hd.out 3 (by kernel_rfl)
    change (a.tmps[30]?.getD undef) = .pointer (some ⟨ge, en * 2, none⟩) at d3
    clear Hd Hb
    refine Does.of rfl ?_
    go_simp
    exact HK.out _ _ rfl (Below.refl _ _)
   | 5, _ =>
    obtain rfl := Option.some.inj ho
    have d4 := Hd.out 4 (by kernel_rfl)
    change (a.tmps[31]?.getD undef) = .pointer (some ⟨ge, en * 2, none⟩) at d4
    clear Hd Hb
    refine Does.of rfl ?_
    go_simp
    exact HK.out _ _ rfl (Below.refl _ _)
   | 6, _ =>
    obtain rfl := Option.some.inj ho
    have d5 := Hd.out 5 (by kernel_rfl)
    change (a.tmps[32]?.getD undef) = .pointer (some ⟨ge, en * 2, none⟩) at d5
    clear Hd Hb
    have m0 := (hG.cell (p := ⟨ge, en * 2, none⟩) hge).trans D0
    refine Does.of rfl ?_
    go_simp
    exact HK.out _ _ rfl (Below.refl _ _)
   | 7, _ =>
    obtain rfl := Option.some.inj ho
    have e1 : a.tmps[1]?.getD undef = .pointer (some ⟨w.heap.size, 0, none⟩) := by rw [Hb.out.2.2 1 (by decide)]; rfl
    clear Hd Hb
    refine Does.of rfl ?_
    go_simp
    exact HK.out _ _ rfl (Below.refl _ _)
   | 8, _ =>
    obtain rfl := Option.some.inj ho
    have d7 := Hd.out 7 (by kernel_rfl)
    change (a.tmps[34]?.getD undef) = .pointer (some ⟨w.heap.size, 0, none⟩) at d7
    clear Hd Hb
    have m0 := (hG.cell (p := ⟨w.heap.size, 0, none⟩) hl2).trans y0
    refine Does.of rfl ?_
    go_simp
    exact HK.out _ _ rfl (Below.refl _ _)
   | 9, _ =>
    obtain rfl := Option.some.inj ho
    have d8 := Hd.out 8 (by kernel_rfl)
    change (a.tmps[35]?.getD undef) = .pointer (some ⟨g, 0, none⟩) at d8
    clear Hd Hb
    refine Does.of rfl ?_
    go_simp
    exact HK.out _ _ rfl (Below.refl _ _)
   | 10, _ =>
    obtain rfl := Option.some.inj ho
    have d9 := Hd.out 9 (by kernel_rfl)
    change (a.tmps[36]?.getD undef) = .pointer (some ⟨g, 0, none⟩) at d9
    clear Hd Hb
    refine Does.of rfl ?_
    go_simp
    exact HK.out _ _ rfl (Below.refl _ _)
   | 11, _ =>
    obtain rfl := Option.some.inj ho
    have d10 := Hd.out 10 (by kernel_rfl)
    change (a.tmps[37]?.getD undef) = .pointer (some ⟨g, 0, none⟩) at d10
    clear Hd Hb
    have m0 := (hG.cell (p := ⟨g, 0, none⟩) hgl2).trans x0
    refine Does.of rfl ?_
    go_simp
    exact HK.out _ _ rfl (Below.refl _ _)
   | 12, _ =>
    obtain rfl := Option.some.inj ho
    have e3 : a.tmps[3]?.getD undef = .int .i64 a1 := by rw [Hb.out.2.2 3 (by decide)]; rfl
    clear Hd Hb
    refine Does.of rfl ?_
    go_simp
    exact HK.out _ _ rfl (Below.refl _ _)
   | 13, _ =>
    obtain rfl := Option.some.inj ho
    have d11 := Hd.out 11 (by kernel_rfl)
    change (a.tmps[38]?.getD undef) = m at d11
    have d12 := Hd.out 12 (by kernel_rfl)
    change (a.tmps[39]?.getD undef) = .int .i64 a1 at d12
    clear Hd Hb
    refine Does.of rfl ?_
    go_simp
    refine (CX.out _ hG).mono ?_; rintro e w_ ⟨v', ts, rfl, hO, hmem, _, hb2⟩
    exact HK.out _ _ ⟨ts, own_loV hO hG.size, hmem⟩ hb2
   | 14, _ =>
    obtain rfl := Option.some.inj ho
    have d1 := Hd.out 1 (by kernel_rfl)
    change (a.tmps[28]?.getD undef) = .pointer (some ⟨g, 0, none⟩) at d1
    have d6 := Hd.out 6 (by kernel_rfl)
    change (a.tmps[33]?.getD undef) = .slice ua (envAt k.envs en).rights.length uc at d6
    have d13 := Hd.out 13 (by kernel_rfl)
    change ReachIn W2.heap.size k.mem (a1) wx (a.tmps[40]?.getD undef) at d13
    clear Hd Hb
    generalize e40 : a.tmps[40]?.getD undef = v2 at d13
    obtain ⟨ts, hO, hmem⟩ := d13
    have CAx := CA.out wx hG v2 ts (OwnInts.rd hO) hmem
    refine Does.of rfl ?_
    go_simp
    refine CAx.mono ?_; rintro e w_ ⟨rfl, hb2⟩
    exact HK.out _ _ rfl hb2
   | _ + 15, hq => exact absurd hq (by omega)
  ·intro vs wx hR hG
   have q14 := hR 14 (by decide)
   change (vs 14) = .bool bb at q14
   clear hR
   simp only [fillAt, dstOf, List.range, List.range.loop, List.foldl_cons, List.foldl_nil, q14]
   simp
   try generalize vs 0 = z0
   try generalize vs 1 = z1
   try generalize vs 2 = z2
   try generalize vs 3 = z3
   try generalize vs 4 = z4
   try generalize vs 5 = z5
   try generalize vs 6 = z6
   try generalize vs 7 = z7
   try generalize vs 8 = z8
   try generalize vs 9 = z9
   try generalize vs 10 = z10
   try generalize vs 11 = z11
   try generalize vs 12 = z12
   try generalize vs 13 = z13
   clear q14
   have S1 := Lib.hid (HS.out.below hG)
   cases bb
   ·have E := Lib.hid (show rootP k ⟨k1, (en : Int), a1, b1, c1, nm⟩ = (k, 0, 1) by rw [HP2.out]; rfl)
    clear D0 D1 y0 y1 y2 y3 y4 y5 y6 x0
    go_wp2_with fail
    go_ret
    exact Ends1.bad E.out (by decide) S1.out.bel
   ·have HP3 := Lib.hid (show rootP k ⟨k1, (en : Int), a1, b1, c1, nm⟩ = ({ k with infos := rerooted (unrooted k.infos (envAt k.envs en).root) (a1), envs := modAt k.envs en (setRoot (a1)), cache := dropC k.cache (en : Int) }, 0, 0) by rw [HP2.out]; rfl)
    clear y0 y1 y2 y3 y4 y5 y6 x0 D0 D1
    obtain ⟨y0, y1, y2, y3, y4, y5, y6⟩ := S1.out.ys
    go_wp2_with fail
    refine (CE.out _ hG).mono ?_; rintro r w3 ⟨rfl, hb3⟩
    have S3 := Lib.hid (S1.out.below hb3)
    obtain ⟨_, _, _, D1, _⟩ := S3.out.env (j := en) (by rw [HK.out.envl]; exact hen)
    clear y0 y1 y2 y3 y4 y5 y6 hG hb3
    obtain ⟨y0, y1, y2, y3, y4, y5, y6⟩ := S3.out.ys
    by_cases ho : (envAt k.envs en).root < 0
    ·have t5 : ¬ (0 : Int) ≤ (envAt k.envs en).root := by omega
     have HU := Lib.hid (show unrooted k.infos (envAt k.envs en).root = k.infos by unfold unrooted; rw [if_neg t5])
     have CE4 := Lib.hid (fun W (hW : Below w3.heap.size w3 W) => S3.out.callEnv (en := en) rfl hen W hW)
     simp only [CallV.on, CallV.onCells] at CE4
     clear ho
     go_wp2_with fail
     clear y0 y1 y2 y3 y4 y5 y6 D1
     refine (CE4.out _ (Below.refl _ _)).mono ?_; rintro r4 w5 ⟨rfl, hb5⟩
     have S5 := Lib.hid (S3.out.below hb5)
     obtain ⟨_, _, _, D1, _⟩ := S5.out.env (j := en) (by rw [HK.out.envl]; exact hen)
     have Fe := S5.out.fze (en * 2 + 1)
     have S6 := Lib.hid (S5.out.root HK.out.envl.symm (by rw [HK.out.envl]; exact hen) (a1))
     have t6 := Lib.hid Hn.out
     have t7 : ¬ (0 : Int) ≤ a1 := by have := Hn.out; omega
     have HR := Lib.hid (show rerooted (unrooted k.infos (envAt k.envs en).root) (a1) = k.infos by rw [HU.out]; unfold rerooted; rw [if_neg t7])
     go_wp2_with fail
     clear D1 Fe t7
     generalize w5.setCell _ _ = W7 at *
     have S7 := S6
     clear S6
     have Y := S7.out.ys
     obtain ⟨y0, y1, y2, _, _, _, _⟩ := Y
     obtain ⟨x0, _, _, x3⟩ := S7.out.xs
     obtain ⟨hl7, hgl7, ngb, nbg⟩ := S7.out.lts
     have RC : RdCache W7 c k.cache := S7.out.ink.2.2.2.2.2.rd
     have CD := Lib.hid (fun W (hW : Below W7.heap.size W7 W) => CacheDrop_any c k.cache (en : Int) W (RdF.below RC hW) (kok_parts HK.out).2.2)
     clear RC x0 y1
     refine wp_region_grow 13 Tryz.mixed (by kernel_rfl) 94 rfl (by kernel_rfl) (fun ix vv ww => match ix with
      | 0 => vv = .pointer (some ⟨w.heap.size, 0, none⟩)
      | 1 => vv = .pointer (some ⟨g, 0, none⟩)
      | 2 => vv = .pointer (some ⟨w.heap.size, 0, none⟩)
      | 3 => vv = .pointer (some ⟨g, 0, none⟩)
      | 4 => vv = .pointer (some ⟨g, 0, none⟩)
      | 5 => vv = .pointer (some ⟨g, 3, none⟩)
      | 6 => vv = c
      | 7 => vv = .pointer (some ⟨w.heap.size, 1, none⟩)
      | 8 => vv = .pointer (some ⟨w.heap.size, 2, none⟩)
      | 9 => vv = .int .i64 ((en : Int))
      | 10 => OwnF W7.heap.size 94 4 cachedCs ww vv (dropC k.cache (en : Int))
      | 11 => vv = .pointer (some ⟨g, 0, none⟩)
      | 12 => vv = .pointer (some ⟨g, 3, none⟩)
      | _ => True) ?_ ?_ ?_
     ·intro i hi vv wz ww' hbz hz
      match i, hi with
      | 0, _ => exact hz
      | 1, _ => exact hz
      | 2, _ => exact hz
      | 3, _ => exact hz
      | 4, _ => exact hz
      | 5, _ => exact hz
      | 6, _ => exact hz
      | 7, _ => exact hz
      | 8, _ => exact hz
      | 9, _ => exact hz
      | 10, _ => exact (OwnF.below hz hbz)
      | 11, _ => exact hz
      | 12, _ => exact hz
     ·intro i hi o ho a wx Hb Hd hG K HK
      match i, hi with
      | 0, _ =>
       obtain rfl := Option.some.inj ho
       have e1 : a.tmps[1]?.getD undef = .pointer (some ⟨w.heap.size, 0, none⟩) := by rw [Hb.out.2.2 1 (by decide)]; rfl
       clear Hd Hb
       refine Does.of rfl ?_
       go_simp
       exact HK.out _ _ rfl (Below.refl _ _)
      | 1, _ =>
       obtain rfl := Option.some.inj ho
       have d0 := Hd.out 0 (by kernel_rfl)
       change (a.tmps[81]?.getD undef) = .pointer (some ⟨w.heap.size, 0, none⟩) at d0
       clear Hd Hb
       have m0 := (hG.cell (p := ⟨w.heap.size, 0, none⟩) hl7).trans y0
       refine Does.of rfl ?_
       go_simp
       exact HK.out _ _ rfl (Below.refl _ _)
      | 2, _ =>
       obtain rfl := Option.some.inj ho
       have e1 : a.tmps[1]?.getD undef = .pointer (some ⟨w.heap.size, 0, none⟩) := by rw [Hb.out.2.2 1 (by decide)]; rfl
       clear Hd Hb
       refine Does.of rfl ?_
       go_simp
       exact HK.out _ _ rfl (Below.refl _ _)
      | 3, _ =>
       obtain rfl := Option.some.inj ho
       have d2 := Hd.out 2 (by kernel_rfl)
       change (a.tmps[83]?.getD undef) = .pointer (some ⟨w.heap.size, 0, none⟩) at d2
       clear Hd Hb
       have m0 := (hG.cell (p := ⟨w.heap.size, 0, none⟩) hl7).trans y0
       refine Does.of rfl ?_
       go_simp
       exact HK.out _ _ rfl (Below.refl _ _)
      | 4, _ =>
       obtain rfl := Option.some.inj ho
       have d3 := Hd.out 3 (by kernel_rfl)
       change (a.tmps[84]?.getD undef) = .pointer (some ⟨g, 0, none⟩) at d3
       clear Hd Hb
       refine Does.of rfl ?_
       go_simp
       exact HK.out _ _ rfl (Below.refl _ _)
      | 5, _ =>
       obtain rfl := Option.some.inj ho
       have d4 := Hd.out 4 (by kernel_rfl)
       change (a.tmps[85]?.getD undef) = .pointer (some ⟨g, 0, none⟩) at d4
       clear Hd Hb
       refine Does.of rfl ?_
       go_simp
       exact HK.out _ _ rfl (Below.refl _ _)
      | 6, _ =>
       obtain rfl := Option.some.inj ho
       have d5 := Hd.out 5 (by kernel_rfl)
       change (a.tmps[86]?.getD undef) = .pointer (some ⟨g, 3, none⟩) at d5
       clear Hd Hb
       have m0 := (hG.cell (p := ⟨g, 3, none⟩) hgl7).trans x3
       refine Does.of rfl ?_
       go_simp
       exact HK.out _ _ rfl (Below.refl _ _)
      | 7, _ =>
       obtain rfl := Option.some.inj ho
       have e1 : a.tmps[1]?.getD undef = .pointer (some ⟨w.heap.size, 0, none⟩) := by rw [Hb.out.2.2 1 (by decide)]; rfl
       clear Hd Hb
       refine Does.of rfl ?_
       go_simp
       exact HK.out _ _ rfl (Below.refl _ _)
      | 8, _ =>
       obtain rfl := Option.some.inj ho
       have d7 := Hd.out 7 (by kernel_rfl)
       change (a.tmps[88]?.getD undef) = .pointer (some ⟨w.heap.size, 1, none⟩) at d7
       clear Hd Hb
       refine Does.of rfl ?_
       go_simp
       exact HK.out _ _ rfl (Below.refl _ _)
      | 9, _ =>
       obtain rfl := Option.some.inj ho
       have d8 := Hd.out 8 (by kernel_rfl)
       change (a.tmps[89]?.getD undef) = .pointer (some ⟨w.heap.size, 2, none⟩) at d8
       clear Hd Hb
       have m0 := (hG.cell (p := ⟨w.heap.size, 2, none⟩) hl7).trans y2
       refine Does.of rfl ?_
       go_simp
       exact HK.out _ _ rfl (Below.refl _ _)
      | 10, _ =>
       obtain rfl := Option.some.inj ho
       have d6 := Hd.out 6 (by kernel_rfl)
       change (a.tmps[87]?.getD undef) = c at d6
       have d9 := Hd.out 9 (by kernel_rfl)
       change (a.tmps[90]?.getD undef) = .int .i64 ((en : Int)) at d9
       clear Hd Hb
       refine Does.of rfl ?_
       go_simp
       refine (CD.out _ hG).mono ?_; rintro e w_ ⟨v', rfl, hO, hb2⟩
       exact HK.out _ _ (hO.lower hG.size) hb2
      | 11, _ =>
       obtain rfl := Option.some.inj ho
       have d1 := Hd.out 1 (by kernel_rfl)
       change (a.tmps[82]?.getD undef) = .pointer (some ⟨g, 0, none⟩) at d1
       clear Hd Hb
       refine Does.of rfl ?_
       go_simp
       exact HK.out _ _ rfl (Below.refl _ _)
      | 12, _ =>
       obtain rfl := Option.some.inj ho
       have d11 := Hd.out 11 (by kernel_rfl)
       change (a.tmps[92]?.getD undef) = .pointer (some ⟨g, 0, none⟩) at d11
       clear Hd Hb
       refine Does.of rfl ?_
       go_simp
       exact HK.out _ _ rfl (Below.refl _ _)
     ·intro vs wx hR hG
      have q1 := hR 1 (by decide)
      change (vs 1) = .pointer (some ⟨g, 0, none⟩) at q1
      have q10 := hR 10 (by decide)
      change OwnF W7.heap.size 94 4 cachedCs wx (vs 10) (dropC k.cache (en : Int)) at q10
      have q11 := hR 11 (by decide)
      change (vs 11) = .pointer (some ⟨g, 0, none⟩) at q11
      have q12 := hR 12 (by decide)
      change (vs 12) = .pointer (some ⟨g, 3, none⟩) at q12
      clear hR
      simp only [fillAt, dstOf, List.range, List.range.loop, List.foldl_cons, List.foldl_nil, q1, q11, q12]
      simp
      try generalize vs 0 = z0
      try generalize vs 2 = z2
      try generalize vs 3 = z3
      try generalize vs 4 = z4
      try generalize vs 5 = z5
      try generalize vs 6 = z6
      try generalize vs 7 = z7
      try generalize vs 8 = z8
      try generalize vs 9 = z9
      generalize vs 10 = z10 at q10 ⊢
      clear q1 q11 q12
      have S8 := Lib.hid (S7.out.cache hG q10)
      have fzg := blk_frozen (S7.out.below hG).ink.1
      have x3w := (S7.out.below hG).xs.2.2.2
      obtain ⟨_, _, rfl, _, _⟩ := q10.rd.shape
      clear q10 hG y0 y2 x3
      go_wp2_with fail
      go_ret
      exact ⟨by rw [HP3.out]; rfl, fun _ => ⟨_, _, _, _, by rw [HP3.out]; rw [HR.out]; exact S8.out.ink⟩, S8.out.bel⟩
    ·obtain ⟨rn, hrn⟩ : ∃ n : Nat, (envAt k.envs en).root = (n : Int) := ⟨(envAt k.envs en).root.toNat, by omega⟩
     have hr12 : rn < 12 := by have := root_lt HK.out hen; omega
     have HU := Lib.hid (show unrooted k.infos (envAt k.envs en).root = modAt k.infos rn (addR (-1)) by unfold unrooted; rw [hrn, if_pos (by omega), Int.toNat_natCast])
     rw [hrn] at D1
     have t5 : (0 : Int) ≤ (rn : Int) := by omega
     have hri : (rn : Int) < 12 := by omega
     obtain ⟨_, _, d2⟩ := S3.out.infoAt (f := rn) (by rw [HK.out.len]; exact hr12)
     have rf := HK.out.refs_le hr12
     have x1 := S3.out.xs.2.1
     have Fr := S3.out.fzi (rn * 3 + 2)
     have S4 : Hid (CS lo g w.heap.size ⟨k1, (en : Int), a1, b1, c1, nm⟩ w (w3.setCell ⟨gi, rn * 3 + 2, none⟩ (.int .i64 ((infoAt k.infos rn).r - 1))) m (.slice (some ⟨gi, 0, none⟩) 12 capi) (.slice (some ⟨ge, 0, none⟩) 3 cap) c { k with infos := modAt k.infos rn (addR (-1)) }) := Lib.hid (S3.out.info HK.out.len.symm (by rw [HK.out.len]; exact hr12) (-1))
     clear ho hrn
     go_wp2_with fail
     clear y0 y1 y2 y3 y4 y5 y6 D1 d2 x1 Fr rf
     generalize w3.setCell _ _ = W4 at *
     have CE4 := S4.out.callEnv (en := en) rfl hen W4 (Below.refl _ _)
     simp only [CallV.on, CallV.onCells] at CE4
     refine CE4.mono ?_; rintro r4 w5 ⟨rfl, hb5⟩
     have S5 := Lib.hid (S4.out.below hb5)
     obtain ⟨_, _, _, D1, _⟩ := S5.out.env (j := en) (by rw [HK.out.envl]; exact hen)
     have Fe := S5.out.fze (en * 2 + 1)
     have S6 := Lib.hid (S5.out.root HK.out.envl.symm (by rw [HK.out.envl]; exact hen) (a1))
     have t6 := Lib.hid Hn.out
     have t7 : ¬ (0 : Int) ≤ a1 := by have := Hn.out; omega
     have HR := Lib.hid (show rerooted (unrooted k.infos (envAt k.envs en).root) (a1) = modAt k.infos rn (addR (-1)) by rw [HU.out]; unfold rerooted; rw [if_neg t7])
     go_wp2_with fail
     clear D1 Fe t7
     generalize w5.setCell _ _ = W7 at *
     have S7 := S6
     clear S6
     have Y := S7.out.ys
     obtain ⟨y0, y1, y2, _, _, _, _⟩ := Y
     obtain ⟨x0, _, _, x3⟩ := S7.out.xs
     obtain ⟨hl7, hgl7, ngb, nbg⟩ := S7.out.lts
     have RC : RdCache W7 c k.cache := S7.out.ink.2.2.2.2.2.rd
     have CD := Lib.hid (fun W (hW : Below W7.heap.size W7 W) => CacheDrop_any c k.cache (en : Int) W (RdF.below RC hW) (kok_parts HK.out).2.2)
     clear RC x0 y1
     refine wp_region_grow 13 Tryz.mixed (by kernel_rfl) 94 rfl (by kernel_rfl) (fun ix vv ww => match ix with
      | 0 => vv = .pointer (some ⟨w.heap.size, 0, none⟩)
      | 1 => vv = .pointer (some ⟨g, 0, none⟩)
      | 2 => vv = .pointer (some ⟨w.heap.size, 0, none⟩)
      | 3 => vv = .pointer (some ⟨g, 0, none⟩)
      | 4 => vv = .pointer (some ⟨g, 0, none⟩)
      | 5 => vv = .pointer (some ⟨g, 3, none⟩)
      | 6 => vv = c
      | 7 => vv = .pointer (some ⟨w.heap.size, 1, none⟩)
      | 8 => vv = .pointer (some ⟨w.heap.size, 2, none⟩)
      | 9 => vv = .int .i64 ((en : Int))
      | 10 => OwnF W7.heap.size 94 4 cachedCs ww vv (dropC k.cache (en : Int))
      | 11 => vv = .pointer (some ⟨g, 0, none⟩)
      | 12 => vv = .pointer (some ⟨g, 3, none⟩)
      | _ => True) ?_ ?_ ?_
     ·intro i hi vv wz ww' hbz hz
      match i, hi with
      | 0, _ => exact hz
      | 1, _ => exact hz
      | 2, _ => exact hz
      | 3, _ => exact hz
      | 4, _ => exact hz
      | 5, _ => exact hz
      | 6, _ => exact hz
      | 7, _ => exact hz
      | 8, _ => exact hz
      | 9, _ => exact hz
      | 10, _ => exact (OwnF.below hz hbz)
      | 11, _ => exact hz
      | 12, _ => exact hz
     ·intro i hi o ho a wx Hb Hd hG K HK
      match i, hi with
      | 0, _ =>
       obtain rfl := Option.some.inj ho
       have e1 : a.tmps[1]?.getD undef = .pointer (some ⟨w.heap.size, 0, none⟩) := by rw [Hb.out.2.2 1 (by decide)]; rfl
       clear Hd Hb
       refine Does.of rfl ?_
       go_simp
       exact HK.out _ _ rfl (Below.refl _ _)
      | 1, _ =>
       obtain rfl := Option.some.inj ho
       have d0 := Hd.out 0 (by kernel_rfl)
       change (a.tmps[81]?.getD undef) = .pointer (some ⟨w.heap.size, 0, none⟩) at d0
       clear Hd Hb
       have m0 := (hG.cell (p := ⟨w.heap.size, 0, none⟩) hl7).trans y0
       refine Does.of rfl ?_
       go_simp
       exact HK.out _ _ rfl (Below.refl _ _)
      | 2, _ =>
       obtain rfl := Option.some.inj ho
       have e1 : a.tmps[1]?.getD undef = .pointer (some ⟨w.heap.size, 0, none⟩) := by rw [Hb.out.2.2 1 (by decide)]; rfl
       clear Hd Hb
       refine Does.of rfl ?_
       go_simp
       exact HK.out _ _ rfl (Below.refl _ _)
      | 3, _ =>
       obtain rfl := Option.some.inj ho
       have d2 := Hd.out 2 (by kernel_rfl)
       change (a.tmps[83]?.getD undef) = .pointer (some ⟨w.heap.size, 0, none⟩) at d2
       clear Hd Hb
       have m0 := (hG.cell (p := ⟨w.heap.size, 0, none⟩) hl7).trans y0
       refine Does.of rfl ?_
       go_simp
       exact HK.out _ _ rfl (Below.refl _ _)
      | 4, _ =>
       obtain rfl := Option.some.inj ho
       have d3 := Hd.out 3 (by kernel_rfl)
       change (a.tmps[84]?.getD undef) = .pointer (some ⟨g, 0, none⟩) at d3
       clear Hd Hb
       refine Does.of rfl ?_
       go_simp
       exact HK.out _ _ rfl (Below.refl _ _)
      | 5, _ =>
       obtain rfl := Option.some.inj ho
       have d4 := Hd.out 4 (by kernel_rfl)
       change (a.tmps[85]?.getD undef) = .pointer (some ⟨g, 0, none⟩) at d4
       clear Hd Hb
       refine Does.of rfl ?_
       go_simp
       exact HK.out _ _ rfl (Below.refl _ _)
      | 6, _ =>
       obtain rfl := Option.some.inj ho
       have d5 := Hd.out 5 (by kernel_rfl)
       change (a.tmps[86]?.getD undef) = .pointer (some ⟨g, 3, none⟩) at d5
       clear Hd Hb
       have m0 := (hG.cell (p := ⟨g, 3, none⟩) hgl7).trans x3
       refine Does.of rfl ?_
       go_simp
       exact HK.out _ _ rfl (Below.refl _ _)
      | 7, _ =>
       obtain rfl := Option.some.inj ho
       have e1 : a.tmps[1]?.getD undef = .pointer (some ⟨w.heap.size, 0, none⟩) := by rw [Hb.out.2.2 1 (by decide)]; rfl
       clear Hd Hb
       refine Does.of rfl ?_
       go_simp
       exact HK.out _ _ rfl (Below.refl _ _)
      | 8, _ =>
       obtain rfl := Option.some.inj ho
       have d7 := Hd.out 7 (by kernel_rfl)
       change (a.tmps[88]?.getD undef) = .pointer (some ⟨w.heap.size, 1, none⟩) at d7
       clear Hd Hb
       refine Does.of rfl ?_
       go_simp
       exact HK.out _ _ rfl (Below.refl _ _)
      | 9, _ =>
       obtain rfl := Option.some.inj ho
       have d8 := Hd.out 8 (by kernel_rfl)
       change (a.tmps[89]?.getD undef) = .pointer (some ⟨w.heap.size, 2, none⟩) at d8
       clear Hd Hb
       have m0 := (hG.cell (p := ⟨w.heap.size, 2, none⟩) hl7).trans y2
       refine Does.of rfl ?_
       go_simp
       exact HK.out _ _ rfl (Below.refl _ _)
      | 10, _ =>
       obtain rfl := Option.some.inj ho
       have d6 := Hd.out 6 (by kernel_rfl)
       change (a.tmps[87]?.getD undef) = c at d6
       have d9 := Hd.out 9 (by kernel_rfl)
       change (a.tmps[90]?.getD undef) = .int .i64 ((en : Int)) at d9
       clear Hd Hb
       refine Does.of rfl ?_
       go_simp
       refine (CD.out _ hG).mono ?_; rintro e w_ ⟨v', rfl, hO, hb2⟩
       exact HK.out _ _ (hO.lower hG.size) hb2
      | 11, _ =>
       obtain rfl := Option.some.inj ho
       have d1 := Hd.out 1 (by kernel_rfl)
       change (a.tmps[82]?.getD undef) = .pointer (some ⟨g, 0, none⟩) at d1
       clear Hd Hb
       refine Does.of rfl ?_
       go_simp
       exact HK.out _ _ rfl (Below.refl _ _)
      | 12, _ =>
       obtain rfl := Option.some.inj ho
       have d11 := Hd.out 11 (by kernel_rfl)
       change (a.tmps[92]?.getD undef) = .pointer (some ⟨g, 0, none⟩) at d11
       clear Hd Hb
       refine Does.of rfl ?_
       go_simp
       exact HK.out _ _ rfl (Below.refl _ _)
     ·intro vs wx hR hG
      have q1 := hR 1 (by decide)
      change (vs 1) = .pointer (some ⟨g, 0, none⟩) at q1
      have q10 := hR 10 (by decide)
      change OwnF W7.heap.size 94 4 cachedCs wx (vs 10) (dropC k.cache (en : Int)) at q10
      have q11 := hR 11 (by decide)
      change (vs 11) = .pointer (some ⟨g, 0, none⟩) at q11
      have q12 := hR 12 (by decide)
      change (vs 12) = .pointer (some ⟨g, 3, none⟩) at q12
      clear hR
      simp only [fillAt, dstOf, List.range, List.range.loop, List.foldl_cons, List.foldl_nil, q1, q11, q12]
      simp
      try generalize vs 0 = z0
      try generalize vs 2 = z2
      try generalize vs 3 = z3
      try generalize vs 4 = z4
      try generalize vs 5 = z5
      try generalize vs 6 = z6
      try generalize vs 7 = z7
      try generalize vs 8 = z8
      try generalize vs 9 = z9
      generalize vs 10 = z10 at q10 ⊢
      clear q1 q11 q12
      have S8 := Lib.hid (S7.out.cache hG q10)
      have fzg := blk_frozen (S7.out.below hG).ink.1
      have x3w := (S7.out.below hG).xs.2.2.2
      obtain ⟨_, _, rfl, _, _⟩ := q10.rd.shape
      clear q10 hG y0 y2 x3
      go_wp2_with fail
      go_ret
      exact ⟨by rw [HP3.out]; rfl, fun _ => ⟨_, _, _, _, by rw [HP3.out]; rw [HR.out]; exact S8.out.ink⟩, S8.out.bel⟩
 ·have t1 : (a1 != -1) = true := by simp [e1]
  cases e2 : inB a1 0 11
  ·have E := Lib.hid (show rootP k ⟨k1, (en : Int), a1, b1, c1, nm⟩ = (k, 0, 3) by rw [HPx.out, if_pos ⟨e1, .inl e2⟩])
   have T := Lib.hid e2
   clear e1 e2 y0
   go_enter Tryz.func177, Tryz.ntmps177
   go_wp2_with fail
   refine (C0.out _ hb0).mono ?_; rintro r w1 ⟨rfl, hb1⟩; rw [T.out]
   have hbw := hb0.trans (hb1.mono hb0.size)
   go_wp2_with fail
   go_ret
   exact Ends1.bad E.out (by decide) (hbw.mono hlo)
  ·have T := Lib.hid e2
   have ab := inB_iff.1 e2
   obtain ⟨an, rfl⟩ : ∃ n : Nat, a1 = (n : Int) := ⟨a1.toNat, by omega⟩
   have han : an < k.infos.length := by rw [HK.out.len]; omega
   have hani : (an : Int) < 12 := by omega
   have e1' := Lib.hid e1
   have Ha : Hid ((an : Int) < 12) := Lib.hid (by omega)
   clear e2 y0 e1
   by_cases e3 : (infoAt k.infos an).k = 3
   ·have t3 : ((infoAt k.infos an).k != 3) = false := by simp [e3]
    have HP2 := Lib.hid (show rootP k ⟨k1, (en : Int), (an : Int), b1, c1, nm⟩ = if allowedP k.infos (reachL k.mem (an : Int)) (envAt k.envs en).rights = false then (k, 0, 1) else ({ k with infos := rerooted (unrooted k.infos (envAt k.envs en).root) (an : Int), envs := modAt k.envs en (setRoot (an : Int)), cache := dropC k.cache (en : Int) }, 0, 0) by rw [HPx.out, if_neg (by rintro ⟨_, x | x⟩; (· rw [T.out] at x; cases x); (· exact x e3))])
    clear e3
    go_enter Tryz.func177, Tryz.ntmps177
    go_wp2_with fail
    refine (C0.out _ hb0).mono ?_; rintro r W2 ⟨rfl, hbW⟩; rw [T.out]
    have HS := Lib.hid (HS0.out.below hbW)
    obtain ⟨y0, _, _, _, _, _, _⟩ := HS.out.ys
    obtain ⟨d0, _, _⟩ := HS.out.infoAt han
    have x1 := HS.out.xs.2.1
    clear hbW
    go_wp2_with fail
    clear y0 x1 d0 hani t3 han
    have hge := HS.out.ge_lt
    obtain ⟨y0, y1, y2, y3, y4, y5, y6⟩ := HS.out.ys
    obtain ⟨x0, x1, x2, _⟩ := HS.out.xs
    obtain ⟨hl2, hgl2, ngb, nbg⟩ := HS.out.lts
    obtain ⟨ua, uc, D0, D1, R⟩ := HS.out.env (j := en) (by rw [HK.out.envl]; exact hen)
    have CE := Lib.hid (fun W (hW : Below W2.heap.size W2 W) => HS.out.callEnv (en := en) rfl hen W hW)
    simp only [CallV.on, CallV.onCells] at CE
    have RM : RdRows W2 m k.mem := HS.out.ink.2.2.rd.1
    have RIn : RdInfos W2 (.slice (some ⟨gi, 0, none⟩) 12 capi) k.infos := HS.out.ink.2.2.2.1.rd
    have CX := Lib.hid (fun W (hW : Below W2.heap.size W2 W) => reached_root m k.mem ((an : Int)) W (RM.below hW) (kok_parts HK.out).1 Ha.out)
    have CA := Lib.hid (fun W (hW : Below W2.heap.size W2 W) v2 ts (h2 : RdInts W v2 (ints ts)) (hm : ∀ g, g ∈ ts ↔ g ∈ reachL k.mem ((an : Int))) => by have := allowed_any g _ v2 _ (envAt k.envs en).rights ts k.infos W ((hW.cell (p := ⟨g, 1, none⟩) hgl2).trans x1) (RdF.below R hW) (RdF.below RIn hW) h2 (fun f hf => by have := reach_lt Ha.out f ((hm f).1 hf); have := HK.out.len; omega); rw [allowed_mem hm] at this; exact this)
    generalize hbb : allowedP k.infos (reachL k.mem ((an : Int))) (envAt k.envs en).rights = bb at CA HP2
    clear hbb RM RIn R x1 x2
    refine wp_region_grow 15 Tryz.mixed (by kernel_rfl) 94 rfl (by kernel_rfl) (fun ix vv ww => match ix with
     | 0 => vv = .pointer (some ⟨w.heap.size, 0, none⟩)
     | 1 => vv = .pointer (some ⟨g, 0, none⟩)
     | 2 => vv = .agg #[.pointer (some ⟨g, 0, none⟩), .int .i64 k1, .int .i64 ((en : Int)), .int .i64 ((an : Int)), .int .i64 b1, .int .i64 c1, .string nm]
     | 3 => vv = .pointer (some ⟨ge, en * 2, none⟩)
     | 4 => vv = .pointer (some ⟨ge, en * 2, none⟩)
     | 5 => vv = .pointer (some ⟨ge, en * 2, none⟩)
     | 6 => vv = .slice ua (envAt k.envs en).rights.length uc
     | 7 => vv = .pointer (some ⟨w.heap.size, 0, none⟩)
     | 8 => vv = .pointer (some ⟨g, 0, none⟩)
     | 9 => vv = .pointer (some ⟨g, 0, none⟩)
     | 10 => vv = .pointer (some ⟨g, 0, none⟩)
     | 11 => vv = m
     | 12 => vv = .int .i64 ((an : Int))
     | 13 => ReachIn W2.heap.size k.mem ((an : Int)) ww vv
     | 14 => vv = .bool bb
     | _ => True) ?_ ?_ ?_
    ·intro i hi vv wz ww' hbz hz
     match i, hi with
     | 0, _ => exact hz
     | 1, _ => exact hz
     | 2, _ => exact hz
     | 3, _ => exact hz
     | 4, _ => exact hz
     | 5, _ => exact hz
     | 6, _ => exact hz
     | 7, _ => exact hz
     | 8, _ => exact hz
     | 9, _ => exact hz
     | 10, _ => exact hz
     | 11, _ => exact hz
     | 12, _ => exact hz
     | 13, _ => exact (ReachIn.below hz hbz)
     | 14, _ => exact hz
     | _ + 15, hq => exact absurd hq (by omega)
    ·intro i hi o ho a wx Hb Hd hG K HK
     match i, hi with
     | 0, _ =>
      obtain rfl := Option.some.inj ho
      have e1 : a.tmps[1]?.getD undef = .pointer (some ⟨w.heap.size, 0, none⟩) := by rw [Hb.out.2.2 1 (by decide)]; rfl
      clear Hd Hb
      refine Does.of rfl ?_
      go_simp
      exact HK.out _ _ rfl (Below.refl _ _)
     | 1, _ =>
      obtain rfl := Option.some.inj ho
      have d0 := Hd.out 0 (by kernel_rfl)
      change (a.tmps[27]?.getD undef) = .pointer (some ⟨w.heap.size, 0, none⟩) at d0
      clear Hd Hb
      have m0 := (hG.cell (p := ⟨w.heap.size, 0, none⟩) hl2).trans y0
      refine Does.of rfl ?_
      go_simp
      exact HK.out _ _ rfl (Below.refl _ _)
     | 2, _ =>
      obtain rfl := Option.some.inj ho
      have e1 : a.tmps[1]?.getD undef = .pointer (some ⟨w.heap.size, 0, none⟩) := by rw [Hb.out.2.2 1 (by decide)]; rfl
      clear Hd Hb
      have m0 := (hG.cell (p := ⟨w.heap.size, 0, none⟩) hl2).trans y0
      have m1 := (hG.cell (p := ⟨w.heap.size, 1, none⟩) hl2).trans y1
      have m2 := (hG.cell (p := ⟨w.heap.size, 2, none⟩) hl2).trans y2
      have m3 := (hG.cell (p := ⟨w.heap.size, 3, none⟩) hl2).trans y3
      have m4 := (hG.cell (p := ⟨w.heap.size, 4, none⟩) hl2).trans y4
      have m5 := (hG.cell (p := ⟨w.heap.size, 5, none⟩) hl2).trans y5
      have m6 := (hG.cell (p := ⟨w.heap.size, 6, none⟩) hl2).trans y6
      refine Does.of rfl ?_
      go_simp
      exact HK.out _ _ rfl (Below.refl _ _)
     | 3, _ =>
      obtain rfl := Option.some.inj ho
      have d2 := Hd.out 2 (by kernel_rfl)
      change (a.tmps[29]?.getD undef) = .agg #[.pointer (some ⟨g, 0, none⟩), .int .i64 k1, .int .i64 ((en : Int)), .int .i64 ((an : Int)), .int .i64 b1, .int .i64 c1, .string nm] at d2
      clear Hd Hb
      refine Does.of rfl ?_
      go_simp
      refine (CE.out _ hG).mono ?_; rintro e w_ ⟨rfl, hb2⟩
      exact HK.out _ _ rfl hb2
     | 4, _ =>
      obtain rfl := Option.some.inj ho
      have d3 := Hd.out 3 (by kernel_rfl)
      change (a.tmps[30]?.getD undef) = .pointer (some ⟨ge, en * 2, none⟩) at d3
      clear Hd Hb
      refine Does.of rfl ?_
      go_simp
      exact HK.out _ _ rfl (Below.refl _ _)
     | 5, _ =>
      obtain rfl := Option.some.inj ho
      have d4 := Hd.out 4 (by kernel_rfl)
      change (a.tmps[31]?.getD undef) = .pointer (some ⟨ge, en * 2, none⟩) at d4
      clear Hd Hb
      refine Does.of rfl ?_
      go_simp
      exact HK.out _ _ rfl (Below.refl _ _)
     | 6, _ =>
      obtain rfl := Option.some.inj ho
      have d5 := Hd.out 5 (by kernel_rfl)
      change (a.tmps[32]?.getD undef) = .pointer (some ⟨ge, en * 2, none⟩) at d5
      clear Hd Hb
      have m0 := (hG.cell (p := ⟨ge, en * 2, none⟩) hge).trans D0
      refine Does.of rfl ?_
      go_simp
      exact HK.out _ _ rfl (Below.refl _ _)
     | 7, _ =>
      obtain rfl := Option.some.inj ho
      have e1 : a.tmps[1]?.getD undef = .pointer (some ⟨w.heap.size, 0, none⟩) := by rw [Hb.out.2.2 1 (by decide)]; rfl
      clear Hd Hb
      refine Does.of rfl ?_
      go_simp
      exact HK.out _ _ rfl (Below.refl _ _)
     | 8, _ =>
      obtain rfl := Option.some.inj ho
      have d7 := Hd.out 7 (by kernel_rfl)
      change (a.tmps[34]?.getD undef) = .pointer (some ⟨w.heap.size, 0, none⟩) at d7
      clear Hd Hb
      have m0 := (hG.cell (p := ⟨w.heap.size, 0, none⟩) hl2).trans y0
      refine Does.of rfl ?_
      go_simp
      exact HK.out _ _ rfl (Below.refl _ _)
     | 9, _ =>
      obtain rfl := Option.some.inj ho
      have d8 := Hd.out 8 (by kernel_rfl)
      change (a.tmps[35]?.getD undef) = .pointer (some ⟨g, 0, none⟩) at d8
      clear Hd Hb
      refine Does.of rfl ?_
      go_simp
      exact HK.out _ _ rfl (Below.refl _ _)
     | 10, _ =>
      obtain rfl := Option.some.inj ho
      have d9 := Hd.out 9 (by kernel_rfl)
      change (a.tmps[36]?.getD undef) = .pointer (some ⟨g, 0, none⟩) at d9
      clear Hd Hb
      refine Does.of rfl ?_
      go_simp
      exact HK.out _ _ rfl (Below.refl _ _)
     | 11, _ =>
      obtain rfl := Option.some.inj ho
      have d10 := Hd.out 10 (by kernel_rfl)
      change (a.tmps[37]?.getD undef) = .pointer (some ⟨g, 0, none⟩) at d10
      clear Hd Hb
      have m0 := (hG.cell (p := ⟨g, 0, none⟩) hgl2).trans x0
      refine Does.of rfl ?_
      go_simp
      exact HK.out _ _ rfl (Below.refl _ _)
     | 12, _ =>
      obtain rfl := Option.some.inj ho
      have e3 : a.tmps[3]?.getD undef = .int .i64 ((an : Int)) := by rw [Hb.out.2.2 3 (by decide)]; rfl
      clear Hd Hb
      refine Does.of rfl ?_
      go_simp
      exact HK.out _ _ rfl (Below.refl _ _)
     | 13, _ =>
      obtain rfl := Option.some.inj ho
      have d11 := Hd.out 11 (by kernel_rfl)
      change (a.tmps[38]?.getD undef) = m at d11
      have d12 := Hd.out 12 (by kernel_rfl)
      change (a.tmps[39]?.getD undef) = .int .i64 ((an : Int)) at d12
      clear Hd Hb
      refine Does.of rfl ?_
      go_simp
      refine (CX.out _ hG).mono ?_; rintro e w_ ⟨v', ts, rfl, hO, hmem, _, hb2⟩
      exact HK.out _ _ ⟨ts, own_loV hO hG.size, hmem⟩ hb2
     | 14, _ =>
      obtain rfl := Option.some.inj ho
      have d1 := Hd.out 1 (by kernel_rfl)
      change (a.tmps[28]?.getD undef) = .pointer (some ⟨g, 0, none⟩) at d1
      have d6 := Hd.out 6 (by kernel_rfl)
      change (a.tmps[33]?.getD undef) = .slice ua (envAt k.envs en).rights.length uc at d6
      have d13 := Hd.out 13 (by kernel_rfl)
      change ReachIn W2.heap.size k.mem ((an : Int)) wx (a.tmps[40]?.getD undef) at d13
      clear Hd Hb
      generalize e40 : a.tmps[40]?.getD undef = v2 at d13
      obtain ⟨ts, hO, hmem⟩ := d13
      have CAx := CA.out wx hG v2 ts (OwnInts.rd hO) hmem
      refine Does.of rfl ?_
      go_simp
      refine CAx.mono ?_; rintro e w_ ⟨rfl, hb2⟩
      exact HK.out _ _ rfl hb2
     | _ + 15, hq => exact absurd hq (by omega)
    ·intro vs wx hR hG
     have q14 := hR 14 (by decide)
     change (vs 14) = .bool bb at q14
     clear hR
     simp only [fillAt, dstOf, List.range, List.range.loop, List.foldl_cons, List.foldl_nil, q14]
     simp
     try generalize vs 0 = z0
     try generalize vs 1 = z1
     try generalize vs 2 = z2
     try generalize vs 3 = z3
     try generalize vs 4 = z4
     try generalize vs 5 = z5
     try generalize vs 6 = z6
     try generalize vs 7 = z7
     try generalize vs 8 = z8
     try generalize vs 9 = z9
     try generalize vs 10 = z10
     try generalize vs 11 = z11
     try generalize vs 12 = z12
     try generalize vs 13 = z13
     clear q14
     have S1 := Lib.hid (HS.out.below hG)
     cases bb
     ·have E := Lib.hid (show rootP k ⟨k1, (en : Int), (an : Int), b1, c1, nm⟩ = (k, 0, 1) by rw [HP2.out]; rfl)
      clear D0 D1 y0 y1 y2 y3 y4 y5 y6 x0
      go_wp2_with fail
      go_ret
      exact Ends1.bad E.out (by decide) S1.out.bel
     ·have HP3 := Lib.hid (show rootP k ⟨k1, (en : Int), (an : Int), b1, c1, nm⟩ = ({ k with infos := rerooted (unrooted k.infos (envAt k.envs en).root) ((an : Int)), envs := modAt k.envs en (setRoot ((an : Int))), cache := dropC k.cache (en : Int) }, 0, 0) by rw [HP2.out]; rfl)
      clear y0 y1 y2 y3 y4 y5 y6 x0 D0 D1
      obtain ⟨y0, y1, y2, y3, y4, y5, y6⟩ := S1.out.ys
      go_wp2_with fail
      refine (CE.out _ hG).mono ?_; rintro r w3 ⟨rfl, hb3⟩
      have S3 := Lib.hid (S1.out.below hb3)
      obtain ⟨_, _, _, D1, _⟩ := S3.out.env (j := en) (by rw [HK.out.envl]; exact hen)
      clear y0 y1 y2 y3 y4 y5 y6 hG hb3
      obtain ⟨y0, y1, y2, y3, y4, y5, y6⟩ := S3.out.ys
      by_cases ho : (envAt k.envs en).root < 0
      ·have t5 : ¬ (0 : Int) ≤ (envAt k.envs en).root := by omega
       have HU := Lib.hid (show unrooted k.infos (envAt k.envs en).root = k.infos by unfold unrooted; rw [if_neg t5])
       have CE4 := Lib.hid (fun W (hW : Below w3.heap.size w3 W) => S3.out.callEnv (en := en) rfl hen W hW)
       simp only [CallV.on, CallV.onCells] at CE4
       clear ho
       go_wp2_with fail
       clear y0 y1 y2 y3 y4 y5 y6 D1
       refine (CE4.out _ (Below.refl _ _)).mono ?_; rintro r4 w5 ⟨rfl, hb5⟩
       have S5 := Lib.hid (S3.out.below hb5)
       obtain ⟨_, _, _, D1, _⟩ := S5.out.env (j := en) (by rw [HK.out.envl]; exact hen)
       have Fe := S5.out.fze (en * 2 + 1)
       have S6 := Lib.hid (S5.out.root HK.out.envl.symm (by rw [HK.out.envl]; exact hen) ((an : Int)))
       have x1 := S5.out.xs.2.1
       obtain ⟨y0, _, _, y3, _, _, _⟩ := S5.out.ys
       obtain ⟨_, _, d2⟩ := S5.out.infoAt (f := an) (by have := HK.out.len; (try simp only [modAt_len]); omega)
       have Fr := S5.out.fzi (an * 3 + 2)
       have hA12 : an < 12 := by have := Ha.out; omega
       have rfa : 0 - 1 ≤ (infoAt (k.infos) an).r ∧ (infoAt (k.infos) an).r ≤ 47 := by
        have r1 := HK.out.refs_le hA12
        omega
       have HR := Lib.hid (show rerooted (unrooted k.infos (envAt k.envs en).root) ((an : Int)) = modAt (k.infos) an (addR 1) by rw [HU.out]; unfold rerooted; rw [if_pos (by omega), Int.toNat_natCast])
       have S7 := Lib.hid (S6.out.info (by show 12 = (k.infos).length; (try simp only [modAt_len]); exact HK.out.len.symm) (f := an) (by show an < (k.infos).length; (try simp only [modAt_len]); rw [HK.out.len]; exact hA12) 1)
       have hani : (an : Int) < 12 := by omega
       simp only at S7 d2
       generalize hrv : (infoAt (k.infos) an).r = rv at *
       go_wp2_with fail
       clear D1 Fe Fr d2 x1 y0 y3 rfa hrv
       generalize World.setCell (World.setCell _ _ _) _ _ = W7 at *
       clear S6
       have Y := S7.out.ys
       obtain ⟨y0, y1, y2, _, _, _, _⟩ := Y
       obtain ⟨x0, _, _, x3⟩ := S7.out.xs
       obtain ⟨hl7, hgl7, ngb, nbg⟩ := S7.out.lts
       have RC : RdCache W7 c k.cache := S7.out.ink.2.2.2.2.2.rd
       have CD := Lib.hid (fun W (hW : Below W7.heap.size W7 W) => CacheDrop_any c k.cache (en : Int) W (RdF.below RC hW) (kok_parts HK.out).2.2)
       clear RC x0 y1
       refine wp_region_grow 13 Tryz.mixed (by kernel_rfl) 94 rfl (by kernel_rfl) (fun ix vv ww => match ix with
        | 0 => vv = .pointer (some ⟨w.heap.size, 0, none⟩)
        | 1 => vv = .pointer (some ⟨g, 0, none⟩)
        | 2 => vv = .pointer (some ⟨w.heap.size, 0, none⟩)
        | 3 => vv = .pointer (some ⟨g, 0, none⟩)
        | 4 => vv = .pointer (some ⟨g, 0, none⟩)
        | 5 => vv = .pointer (some ⟨g, 3, none⟩)
        | 6 => vv = c
        | 7 => vv = .pointer (some ⟨w.heap.size, 1, none⟩)
        | 8 => vv = .pointer (some ⟨w.heap.size, 2, none⟩)
        | 9 => vv = .int .i64 ((en : Int))
        | 10 => OwnF W7.heap.size 94 4 cachedCs ww vv (dropC k.cache (en : Int))
        | 11 => vv = .pointer (some ⟨g, 0, none⟩)
        | 12 => vv = .pointer (some ⟨g, 3, none⟩)
        | _ => True) ?_ ?_ ?_
       ·intro i hi vv wz ww' hbz hz
        match i, hi with
        | 0, _ => exact hz
        | 1, _ => exact hz
        | 2, _ => exact hz
        | 3, _ => exact hz
        | 4, _ => exact hz
        | 5, _ => exact hz
        | 6, _ => exact hz
        | 7, _ => exact hz
        | 8, _ => exact hz
        | 9, _ => exact hz
        | 10, _ => exact (OwnF.below hz hbz)
        | 11, _ => exact hz
        | 12, _ => exact hz
       ·intro i hi o ho a wx Hb Hd hG K HK
        match i, hi with
        | 0, _ =>
         obtain rfl := Option.some.inj ho
         have e1 : a.tmps[1]?.getD undef = .pointer (some ⟨w.heap.size, 0, none⟩) := by rw [Hb.out.2.2 1 (by decide)]; rfl
         clear Hd Hb
         refine Does.of rfl ?_
         go_simp
         exact HK.out _ _ rfl (Below.refl _ _)
        | 1, _ =>
         obtain rfl := Option.some.inj ho
         have d0 := Hd.out 0 (by kernel_rfl)
         change (a.tmps[81]?.getD undef) = .pointer (some ⟨w.heap.size, 0, none⟩) at d0
         clear Hd Hb
         have m0 := (hG.cell (p := ⟨w.heap.size, 0, none⟩) hl7).trans y0
         refine Does.of rfl ?_
         go_simp
         exact HK.out _ _ rfl (Below.refl _ _)
        | 2, _ =>
         obtain rfl := Option.some.inj ho
         have e1 : a.tmps[1]?.getD undef = .pointer (some ⟨w.heap.size, 0, none⟩) := by rw [Hb.out.2.2 1 (by decide)]; rfl
         clear Hd Hb
         refine Does.of rfl ?_
         go_simp
         exact HK.out _ _ rfl (Below.refl _ _)
        | 3, _ =>
         obtain rfl := Option.some.inj ho
         have d2 := Hd.out 2 (by kernel_rfl)
         change (a.tmps[83]?.getD undef) = .pointer (some ⟨w.heap.size, 0, none⟩) at d2
         clear Hd Hb
         have m0 := (hG.cell (p := ⟨w.heap.size, 0, none⟩) hl7).trans y0
         refine Does.of rfl ?_
         go_simp
         exact HK.out _ _ rfl (Below.refl _ _)
        | 4, _ =>
         obtain rfl := Option.some.inj ho
         have d3 := Hd.out 3 (by kernel_rfl)
         change (a.tmps[84]?.getD undef) = .pointer (some ⟨g, 0, none⟩) at d3
         clear Hd Hb
         refine Does.of rfl ?_
         go_simp
         exact HK.out _ _ rfl (Below.refl _ _)
        | 5, _ =>
         obtain rfl := Option.some.inj ho
         have d4 := Hd.out 4 (by kernel_rfl)
         change (a.tmps[85]?.getD undef) = .pointer (some ⟨g, 0, none⟩) at d4
         clear Hd Hb
         refine Does.of rfl ?_
         go_simp
         exact HK.out _ _ rfl (Below.refl _ _)
        | 6, _ =>
         obtain rfl := Option.some.inj ho
         have d5 := Hd.out 5 (by kernel_rfl)
         change (a.tmps[86]?.getD undef) = .pointer (some ⟨g, 3, none⟩) at d5
         clear Hd Hb
         have m0 := (hG.cell (p := ⟨g, 3, none⟩) hgl7).trans x3
         refine Does.of rfl ?_
         go_simp
         exact HK.out _ _ rfl (Below.refl _ _)
        | 7, _ =>
         obtain rfl := Option.some.inj ho
         have e1 : a.tmps[1]?.getD undef = .pointer (some ⟨w.heap.size, 0, none⟩) := by rw [Hb.out.2.2 1 (by decide)]; rfl
         clear Hd Hb
         refine Does.of rfl ?_
         go_simp
         exact HK.out _ _ rfl (Below.refl _ _)
        | 8, _ =>
         obtain rfl := Option.some.inj ho
         have d7 := Hd.out 7 (by kernel_rfl)
         change (a.tmps[88]?.getD undef) = .pointer (some ⟨w.heap.size, 1, none⟩) at d7
         clear Hd Hb
         refine Does.of rfl ?_
         go_simp
         exact HK.out _ _ rfl (Below.refl _ _)
        | 9, _ =>
         obtain rfl := Option.some.inj ho
         have d8 := Hd.out 8 (by kernel_rfl)
         change (a.tmps[89]?.getD undef) = .pointer (some ⟨w.heap.size, 2, none⟩) at d8
         clear Hd Hb
         have m0 := (hG.cell (p := ⟨w.heap.size, 2, none⟩) hl7).trans y2
         refine Does.of rfl ?_
         go_simp
         exact HK.out _ _ rfl (Below.refl _ _)
        | 10, _ =>
         obtain rfl := Option.some.inj ho
         have d6 := Hd.out 6 (by kernel_rfl)
         change (a.tmps[87]?.getD undef) = c at d6
         have d9 := Hd.out 9 (by kernel_rfl)
         change (a.tmps[90]?.getD undef) = .int .i64 ((en : Int)) at d9
         clear Hd Hb
         refine Does.of rfl ?_
         go_simp
         refine (CD.out _ hG).mono ?_; rintro e w_ ⟨v', rfl, hO, hb2⟩
         exact HK.out _ _ (hO.lower hG.size) hb2
        | 11, _ =>
         obtain rfl := Option.some.inj ho
         have d1 := Hd.out 1 (by kernel_rfl)
         change (a.tmps[82]?.getD undef) = .pointer (some ⟨g, 0, none⟩) at d1
         clear Hd Hb
         refine Does.of rfl ?_
         go_simp
         exact HK.out _ _ rfl (Below.refl _ _)
        | 12, _ =>
         obtain rfl := Option.some.inj ho
         have d11 := Hd.out 11 (by kernel_rfl)
         change (a.tmps[92]?.getD undef) = .pointer (some ⟨g, 0, none⟩) at d11
         clear Hd Hb
         refine Does.of rfl ?_
         go_simp
         exact HK.out _ _ rfl (Below.refl _ _)
       ·intro vs wx hR hG
        have q1 := hR 1 (by decide)
        change (vs 1) = .pointer (some ⟨g, 0, none⟩) at q1
        have q10 := hR 10 (by decide)
        change OwnF W7.heap.size 94 4 cachedCs wx (vs 10) (dropC k.cache (en : Int)) at q10
        have q11 := hR 11 (by decide)
        change (vs 11) = .pointer (some ⟨g, 0, none⟩) at q11
        have q12 := hR 12 (by decide)
        change (vs 12) = .pointer (some ⟨g, 3, none⟩) at q12
        clear hR
        simp only [fillAt, dstOf, List.range, List.range.loop, List.foldl_cons, List.foldl_nil, q1, q11, q12]
        simp
        try generalize vs 0 = z0
        try generalize vs 2 = z2
        try generalize vs 3 = z3
        try generalize vs 4 = z4
        try generalize vs 5 = z5
        try generalize vs 6 = z6
        try generalize vs 7 = z7
        try generalize vs 8 = z8
        try generalize vs 9 = z9
        generalize vs 10 = z10 at q10 ⊢
        clear q1 q11 q12
        have S8 := Lib.hid (S7.out.cache hG q10)
        have fzg := blk_frozen (S7.out.below hG).ink.1
        have x3w := (S7.out.below hG).xs.2.2.2
        obtain ⟨_, _, rfl, _, _⟩ := q10.rd.shape
        clear q10 hG y0 y2 x3
        go_wp2_with fail
        go_ret
        exact ⟨by rw [HP3.out]; rfl, fun _ => ⟨_, _, _, _, by rw [HP3.out]; rw [HR.out]; exact S8.out.ink⟩, S8.out.bel⟩
      ·obtain ⟨rn, hrn⟩ : ∃ n : Nat, (envAt k.envs en).root = (n : Int) := ⟨(envAt k.envs en).root.toNat, by omega⟩
       have hr12 : rn < 12 := by have := root_lt HK.out hen; omega
       have HU := Lib.hid (show unrooted k.infos (envAt k.envs en).root = modAt k.infos rn (addR (-1)) by unfold unrooted; rw [hrn, if_pos (by omega), Int.toNat_natCast])
       rw [hrn] at D1
       have t5 : (0 : Int) ≤ (rn : Int) := by omega
       have hri : (rn : Int) < 12 := by omega
       obtain ⟨_, _, d2⟩ := S3.out.infoAt (f := rn) (by rw [HK.out.len]; exact hr12)
       have rf := HK.out.refs_le hr12
       have x1 := S3.out.xs.2.1
       have Fr := S3.out.fzi (rn * 3 + 2)
       have S4 : Hid (CS lo g w.heap.size ⟨k1, (en : Int), (an : Int), b1, c1, nm⟩ w (w3.setCell ⟨gi, rn * 3 + 2, none⟩ (.int .i64 ((infoAt k.infos rn).r - 1))) m (.slice (some ⟨gi, 0, none⟩) 12 capi) (.slice (some ⟨ge, 0, none⟩) 3 cap) c { k with infos := modAt k.infos rn (addR (-1)) }) := Lib.hid (S3.out.info HK.out.len.symm (by rw [HK.out.len]; exact hr12) (-1))
       clear ho hrn
       go_wp2_with fail
       clear y0 y1 y2 y3 y4 y5 y6 D1 d2 x1 Fr rf
       generalize w3.setCell _ _ = W4 at *
       have CE4 := S4.out.callEnv (en := en) rfl hen W4 (Below.refl _ _)
       simp only [CallV.on, CallV.onCells] at CE4
       refine CE4.mono ?_; rintro r4 w5 ⟨rfl, hb5⟩
       have S5 := Lib.hid (S4.out.below hb5)
       obtain ⟨_, _, _, D1, _⟩ := S5.out.env (j := en) (by rw [HK.out.envl]; exact hen)
       have Fe := S5.out.fze (en * 2 + 1)
       have S6 := Lib.hid (S5.out.root HK.out.envl.symm (by rw [HK.out.envl]; exact hen) ((an : Int)))
       have x1 := S5.out.xs.2.1
       obtain ⟨y0, _, _, y3, _, _, _⟩ := S5.out.ys
       obtain ⟨_, _, d2⟩ := S5.out.infoAt (f := an) (by have := HK.out.len; (try simp only [modAt_len]); omega)
       have Fr := S5.out.fzi (an * 3 + 2)
       have hA12 : an < 12 := by have := Ha.out; omega
       have rfa : 0 - 1 ≤ (infoAt (modAt k.infos rn (addR (-1))) an).r ∧ (infoAt (modAt k.infos rn (addR (-1))) an).r ≤ 47 := by
        have r1 := HK.out.refs_le hA12
        rw [infoAt_mod]
        split
        ·next hx => have r2 := HK.out.refs_le hr12; show 0 - 1 ≤ (infoAt k.infos rn).r + -1 ∧ (infoAt k.infos rn).r + -1 ≤ 47; omega
        ·omega
       have HR := Lib.hid (show rerooted (unrooted k.infos (envAt k.envs en).root) ((an : Int)) = modAt (modAt k.infos rn (addR (-1))) an (addR 1) by rw [HU.out]; unfold rerooted; rw [if_pos (by omega), Int.toNat_natCast])
       have S7 := Lib.hid (S6.out.info (by show 12 = (modAt k.infos rn (addR (-1))).length; (try simp only [modAt_len]); exact HK.out.len.symm) (f := an) (by show an < (modAt k.infos rn (addR (-1))).length; (try simp only [modAt_len]); rw [HK.out.len]; exact hA12) 1)
       have hani : (an : Int) < 12 := by omega
       simp only at S7 d2
       generalize hrv : (infoAt (modAt k.infos rn (addR (-1))) an).r = rv at *
       go_wp2_with fail
       clear D1 Fe Fr d2 x1 y0 y3 rfa hrv
       generalize World.setCell (World.setCell _ _ _) _ _ = W7 at *
       clear S6
       have Y := S7.out.ys
       obtain ⟨y0, y1, y2, _, _, _, _⟩ := Y
       obtain ⟨x0, _, _, x3⟩ := S7.out.xs
       obtain ⟨hl7, hgl7, ngb, nbg⟩ := S7.out.lts
       have RC : RdCache W7 c k.cache := S7.out.ink.2.2.2.2.2.rd
       have CD := Lib.hid (fun W (hW : Below W7.heap.size W7 W) => CacheDrop_any c k.cache (en : Int) W (RdF.below RC hW) (kok_parts HK.out).2.2)
       clear RC x0 y1
       refine wp_region_grow 13 Tryz.mixed (by kernel_rfl) 94 rfl (by kernel_rfl) (fun ix vv ww => match ix with
        | 0 => vv = .pointer (some ⟨w.heap.size, 0, none⟩)
        | 1 => vv = .pointer (some ⟨g, 0, none⟩)
        | 2 => vv = .pointer (some ⟨w.heap.size, 0, none⟩)
        | 3 => vv = .pointer (some ⟨g, 0, none⟩)
        | 4 => vv = .pointer (some ⟨g, 0, none⟩)
        | 5 => vv = .pointer (some ⟨g, 3, none⟩)
        | 6 => vv = c
        | 7 => vv = .pointer (some ⟨w.heap.size, 1, none⟩)
        | 8 => vv = .pointer (some ⟨w.heap.size, 2, none⟩)
        | 9 => vv = .int .i64 ((en : Int))
        | 10 => OwnF W7.heap.size 94 4 cachedCs ww vv (dropC k.cache (en : Int))
        | 11 => vv = .pointer (some ⟨g, 0, none⟩)
        | 12 => vv = .pointer (some ⟨g, 3, none⟩)
        | _ => True) ?_ ?_ ?_
       ·intro i hi vv wz ww' hbz hz
        match i, hi with
        | 0, _ => exact hz
        | 1, _ => exact hz
        | 2, _ => exact hz
        | 3, _ => exact hz
        | 4, _ => exact hz
        | 5, _ => exact hz
        | 6, _ => exact hz
        | 7, _ => exact hz
        | 8, _ => exact hz
        | 9, _ => exact hz
        | 10, _ => exact (OwnF.below hz hbz)
        | 11, _ => exact hz
        | 12, _ => exact hz
       ·intro i hi o ho a wx Hb Hd hG K HK
        match i, hi with
        | 0, _ =>
         obtain rfl := Option.some.inj ho
         have e1 : a.tmps[1]?.getD undef = .pointer (some ⟨w.heap.size, 0, none⟩) := by rw [Hb.out.2.2 1 (by decide)]; rfl
         clear Hd Hb
         refine Does.of rfl ?_
         go_simp
         exact HK.out _ _ rfl (Below.refl _ _)
        | 1, _ =>
         obtain rfl := Option.some.inj ho
         have d0 := Hd.out 0 (by kernel_rfl)
         change (a.tmps[81]?.getD undef) = .pointer (some ⟨w.heap.size, 0, none⟩) at d0
         clear Hd Hb
         have m0 := (hG.cell (p := ⟨w.heap.size, 0, none⟩) hl7).trans y0
         refine Does.of rfl ?_
         go_simp
         exact HK.out _ _ rfl (Below.refl _ _)
        | 2, _ =>
         obtain rfl := Option.some.inj ho
         have e1 : a.tmps[1]?.getD undef = .pointer (some ⟨w.heap.size, 0, none⟩) := by rw [Hb.out.2.2 1 (by decide)]; rfl
         clear Hd Hb
         refine Does.of rfl ?_
         go_simp
         exact HK.out _ _ rfl (Below.refl _ _)
        | 3, _ =>
         obtain rfl := Option.some.inj ho
         have d2 := Hd.out 2 (by kernel_rfl)
         change (a.tmps[83]?.getD undef) = .pointer (some ⟨w.heap.size, 0, none⟩) at d2
         clear Hd Hb
         have m0 := (hG.cell (p := ⟨w.heap.size, 0, none⟩) hl7).trans y0
         refine Does.of rfl ?_
         go_simp
         exact HK.out _ _ rfl (Below.refl _ _)
        | 4, _ =>
         obtain rfl := Option.some.inj ho
         have d3 := Hd.out 3 (by kernel_rfl)
         change (a.tmps[84]?.getD undef) = .pointer (some ⟨g, 0, none⟩) at d3
         clear Hd Hb
         refine Does.of rfl ?_
         go_simp
         exact HK.out _ _ rfl (Below.refl _ _)
        | 5, _ =>
         obtain rfl := Option.some.inj ho
         have d4 := Hd.out 4 (by kernel_rfl)
         change (a.tmps[85]?.getD undef) = .pointer (some ⟨g, 0, none⟩) at d4
         clear Hd Hb
         refine Does.of rfl ?_
         go_simp
         exact HK.out _ _ rfl (Below.refl _ _)
        | 6, _ =>
         obtain rfl := Option.some.inj ho
         have d5 := Hd.out 5 (by kernel_rfl)
         change (a.tmps[86]?.getD undef) = .pointer (some ⟨g, 3, none⟩) at d5
         clear Hd Hb
         have m0 := (hG.cell (p := ⟨g, 3, none⟩) hgl7).trans x3
         refine Does.of rfl ?_
         go_simp
         exact HK.out _ _ rfl (Below.refl _ _)
        | 7, _ =>
         obtain rfl := Option.some.inj ho
         have e1 : a.tmps[1]?.getD undef = .pointer (some ⟨w.heap.size, 0, none⟩) := by rw [Hb.out.2.2 1 (by decide)]; rfl
         clear Hd Hb
         refine Does.of rfl ?_
         go_simp
         exact HK.out _ _ rfl (Below.refl _ _)
        | 8, _ =>
         obtain rfl := Option.some.inj ho
         have d7 := Hd.out 7 (by kernel_rfl)
         change (a.tmps[88]?.getD undef) = .pointer (some ⟨w.heap.size, 1, none⟩) at d7
         clear Hd Hb
         refine Does.of rfl ?_
         go_simp
         exact HK.out _ _ rfl (Below.refl _ _)
        | 9, _ =>
         obtain rfl := Option.some.inj ho
         have d8 := Hd.out 8 (by kernel_rfl)
         change (a.tmps[89]?.getD undef) = .pointer (some ⟨w.heap.size, 2, none⟩) at d8
         clear Hd Hb
         have m0 := (hG.cell (p := ⟨w.heap.size, 2, none⟩) hl7).trans y2
         refine Does.of rfl ?_
         go_simp
         exact HK.out _ _ rfl (Below.refl _ _)
        | 10, _ =>
         obtain rfl := Option.some.inj ho
         have d6 := Hd.out 6 (by kernel_rfl)
         change (a.tmps[87]?.getD undef) = c at d6
         have d9 := Hd.out 9 (by kernel_rfl)
         change (a.tmps[90]?.getD undef) = .int .i64 ((en : Int)) at d9
         clear Hd Hb
         refine Does.of rfl ?_
         go_simp
         refine (CD.out _ hG).mono ?_; rintro e w_ ⟨v', rfl, hO, hb2⟩
         exact HK.out _ _ (hO.lower hG.size) hb2
        | 11, _ =>
         obtain rfl := Option.some.inj ho
         have d1 := Hd.out 1 (by kernel_rfl)
         change (a.tmps[82]?.getD undef) = .pointer (some ⟨g, 0, none⟩) at d1
         clear Hd Hb
         refine Does.of rfl ?_
         go_simp
         exact HK.out _ _ rfl (Below.refl _ _)
        | 12, _ =>
         obtain rfl := Option.some.inj ho
         have d11 := Hd.out 11 (by kernel_rfl)
         change (a.tmps[92]?.getD undef) = .pointer (some ⟨g, 0, none⟩) at d11
         clear Hd Hb
         refine Does.of rfl ?_
         go_simp
         exact HK.out _ _ rfl (Below.refl _ _)
       ·intro vs wx hR hG
        have q1 := hR 1 (by decide)
        change (vs 1) = .pointer (some ⟨g, 0, none⟩) at q1
        have q10 := hR 10 (by decide)
        change OwnF W7.heap.size 94 4 cachedCs wx (vs 10) (dropC k.cache (en : Int)) at q10
        have q11 := hR 11 (by decide)
        change (vs 11) = .pointer (some ⟨g, 0, none⟩) at q11
        have q12 := hR 12 (by decide)
        change (vs 12) = .pointer (some ⟨g, 3, none⟩) at q12
        clear hR
        simp only [fillAt, dstOf, List.range, List.range.loop, List.foldl_cons, List.foldl_nil, q1, q11, q12]
        simp
        try generalize vs 0 = z0
        try generalize vs 2 = z2
        try generalize vs 3 = z3
        try generalize vs 4 = z4
        try generalize vs 5 = z5
        try generalize vs 6 = z6
        try generalize vs 7 = z7
        try generalize vs 8 = z8
        try generalize vs 9 = z9
        generalize vs 10 = z10 at q10 ⊢
        clear q1 q11 q12
        have S8 := Lib.hid (S7.out.cache hG q10)
        have fzg := blk_frozen (S7.out.below hG).ink.1
        have x3w := (S7.out.below hG).xs.2.2.2
        obtain ⟨_, _, rfl, _, _⟩ := q10.rd.shape
        clear q10 hG y0 y2 x3
        go_wp2_with fail
        go_ret
        exact ⟨by rw [HP3.out]; rfl, fun _ => ⟨_, _, _, _, by rw [HP3.out]; rw [HR.out]; exact S8.out.ink⟩, S8.out.bel⟩
   ·have t3 : ((infoAt k.infos an).k != 3) = true := by simp [e3]
    have E := Lib.hid (show rootP k ⟨k1, (en : Int), (an : Int), b1, c1, nm⟩ = (k, 0, 3) by rw [HPx.out, if_pos ⟨e1'.out, .inr e3⟩])
    clear e3
    go_enter Tryz.func177, Tryz.ntmps177
    go_wp2_with fail
    refine (C0.out _ hb0).mono ?_; rintro r w1 ⟨rfl, hbW⟩; rw [T.out]
    have hbw := hb0.trans (hbW.mono hb0.size)
    have HS := Lib.hid (HS0.out.below hbW)
    obtain ⟨y0, _, _, _, _, _, _⟩ := HS.out.ys
    obtain ⟨d0, _, _⟩ := HS.out.infoAt han
    have x1 := HS.out.xs.2.1
    clear hbW
    go_wp2_with fail
    go_ret
    exact Ends1.bad E.out (by decide) (hbw.mono hlo)
end Go.Proofs.YtjacdlekgdnndaaGreatDoor
set_option linter.unusedVariables false
set_option linter.unusedSimpArgs false
namespace Go.Proofs.YtjacdlekgdnndaaGreatDoor
theorem POk.lows_ne {p : PagerV} (h : POk p) {n i : Nat} (hn : n < 16) (hw : (pageAt p.pages n).w = 1) (hi : i < 4) : (lowAt p.low i).toNat ≠ (pageAt p.pages n).a.toNat := fun e => by
 have h1 := h.low_kind hi
 have h2 := h.frame_kind hn hw
 rw [e] at h1
 omega
theorem POk.root_ne {p : PagerV} (h : POk p) {n : Nat} (hn : n < 16) (hw : (pageAt p.pages n).w = 1) : (rootOf p.kern 0).toNat ≠ (pageAt p.pages n).a.toNat := fun e => by
 have h1 := h.root_lt
 have h2 := h.frame_kind hn hw
 rw [e] at h1
 omega
theorem POk.rowl {p : PagerV} (h : POk p) {f : Nat} (hf : f < 12) : (rowAt p.kern.mem f).length = 4 := h.k.row hf
theorem POk.meml {p : PagerV} (h : POk p) : p.kern.mem.length = 12 := (memOk_iff.1 h.k.mem).1
theorem row4 {r : List Int} (h : r.length = 4) : (((r.set 0 (r.getD 0 0)).set 1 (r.getD 1 0)).set 2 (r.getD 2 0)).set 3 (r.getD 3 0) = r := by
 match r, h with
 | [a, b, c, d], _ => rfl
theorem set4 {x r : List Int} (hx : x.length = 4) (h : r.length = 4) : (((x.set 0 (r.getD 0 0)).set 1 (r.getD 1 0)).set 2 (r.getD 2 0)).set 3 (r.getD 3 0) = r := by
 match x, hx, r, h with
 | [_, _, _, _], _, [a, b, c, d], _ => rfl
end Go.Proofs.YtjacdlekgdnndaaGreatDoor
set_option linter.unusedVariables false
set_option linter.unusedSimpArgs false
namespace Go.Proofs.YtjacdlekgdnndaaGreatDoor
def far (hand : Int) (i : Nat) : Nat := ((i : Int) - hand).toNat + (if (i : Int) < hand then ((i : Int) + 16 - hand).toNat else 0)
theorem unuse_at {pages : List PageV} {j i : Nat} : (pageAt (pages.set j (unuse (pageAt pages j))) i).w = (pageAt pages i).w ∧ (pageAt (pages.set j (unuse (pageAt pages j))) i).a = (pageAt pages i).a ∧
 ((pageAt (pages.set j (unuse (pageAt pages j))) i).u = true → (pageAt pages i).u = true) ∧ (i ≠ j → pageAt (pages.set j (unuse (pageAt pages j))) i = pageAt pages i) := by
 rw [pageAt_set]
 by_cases e : i = j ∧ j < pages.length
 ·rw [if_pos e]
  obtain ⟨rfl, _⟩ := e
  exact ⟨rfl, rfl, (fun h => by cases h), fun h => absurd rfl h⟩
 ·rw [if_neg e]
  exact ⟨rfl, rfl, fun h => h, fun _ => rfl⟩
structure Unused (a b : List PageV) : Prop where
 len : b.length = a.length
 w : ∀ i, (pageAt b i).w = (pageAt a i).w
 at' : ∀ i, (pageAt b i).a = (pageAt a i).a
 u : ∀ i, (pageAt b i).u = true → (pageAt a i).u = true
theorem Unused.refl (a : List PageV) : Unused a a := ⟨rfl, fun _ => rfl, fun _ => rfl, fun _ h => h⟩
theorem Unused.step {a b : List PageV} {j : Nat} (h : Unused (a.set j (unuse (pageAt a j))) b) : Unused a b :=
 ⟨by rw [h.len, List.length_set], fun i => (h.w i).trans unuse_at.1, fun i => (h.at' i).trans unuse_at.2.1, fun i hi => unuse_at.2.2.1 (h.u i hi)⟩
theorem countP_same {q : PageV → Bool} : ∀ {a b : List PageV}, b.length = a.length → (∀ i, q (pageAt b i) = q (pageAt a i)) → b.countP q = a.countP q
 | [], [], _, _ => rfl
 | x :: a, y :: b, hl, h => by
  rw [List.countP_cons, List.countP_cons, countP_same (by simpa using hl) (fun i => by simpa [pageAt] using h (i + 1))]
  have := h 0
  simp only [pageAt, List.getD_cons_zero] at this
  rw [this]
theorem Unused.count {a b : List PageV} (h : Unused a b) (w : Int) : countW b w = countW a w := countP_same h.len fun i => by unfold isW; rw [h.w i]
theorem Unused.slots {a b : List PageV} (h : Unused a b) (s : Nat) : slotUse b s = slotUse a s := countP_same h.len fun i => by unfold atSlot; rw [h.w i, h.at' i]
theorem Unused.word {p : PagerV} {b : List PageV} (h : Unused p.pages b) (hand : Int) (a : Nat) : wordP { p with pages := b, hand := hand } a = wordP p a := by
 unfold wordP
 show (if (pageAt b (a / 4)).w = 1 then _ else if (pageAt b (a / 4)).w = 2 then _ else _) = _
 rw [h.w, h.at']
theorem Unused.ok {p : PagerV} {b : List PageV} (h : Unused p.pages b) (hp : POk p) {hand : Int} (h0 : 0 ≤ hand) (h1 : hand ≤ 15) : POk { p with pages := b, hand := hand } := by
 refine ⟨hp.k, hp.swapl, hp.swapr, hp.may, hp.alone, hp.root, hp.lowl, hp.mroot, hp.lows, h.len.trans hp.pagel, fun s hs => (h.slots s).trans (hp.slots s hs), fun n hn => ?_, ⟨h0, h1⟩, hp.limit, ?_⟩
 ·have e : tabWord { p with pages := b, hand := hand } n = tabWord p n := rfl
  unfold PageOk
  rw [e]
  show ((pageAt b n).w = 0 ∧ (pageAt b n).a = 0 ∧ (pageAt b n).u = false ∧ _) ∨ ((pageAt b n).w = 1 ∧ _ ∧ _ = ent (pageAt b n).a ∧ Mine _ (pageAt b n).a.toNat) ∨ ((pageAt b n).w = 2 ∧ _ ∧ rowAt p.swap (pageAt b n).a.toNat ≠ [] ∧ (pageAt b n).u = false ∧ _)
  rw [h.w, h.at']
  have hu := h.u n
  have un : (pageAt p.pages n).u = false → (pageAt b n).u = false := fun x => by
   cases hb : (pageAt b n).u
   ·rfl
   ·rw [hu hb] at x; cases x
  rcases hp.pages n hn with ⟨x1, x2, x3, x4⟩ | x | ⟨x1, x2, x3, x4, x5⟩
  ·exact .inl ⟨x1, x2, un x3, x4⟩
  ·exact .inr (.inl x)
  ·exact .inr (.inr ⟨x1, x2, x3, un x4, x5⟩)
 ·show (countW b 1 : Int) ≤ p.limit
  rw [h.count]; exact hp.count
end Go.Proofs.YtjacdlekgdnndaaGreatDoor
set_option linter.unusedVariables false
set_option linter.unusedSimpArgs false
namespace Go.Proofs.YtjacdlekgdnndaaGreatDoor
def usedC (c : List CachedV) (e p : Int) (f : Nat) (w : Bool) : List CachedV := if findC c e p < 0 then putC c ⟨e, p, f, w⟩ else c
theorem POk.cache {p : PagerV} (h : POk p) {c : List CachedV} (hk : KOk { p.kern with cache := c }) : POk { p with kern := { p.kern with cache := c } } :=
 ⟨hk, h.swapl, h.swapr, h.may, h.alone, h.root, h.lowl, h.mroot, h.lows, h.pagel, h.slots, fun n hn => h.pages n hn, h.hand, h.limit, h.count⟩
theorem addr_eq {a b : Nat} (h1 : a / 4 = b / 4) (h2 : a % 4 = b % 4) : a = b := by omega
theorem POk.put {p : PagerV} (h : POk p) {a : Nat} (ha : a < 64) (hw : (pageAt p.pages (a / 4)).w = 1) {w : Int} {c : List CachedV} (hk : KOk { p.kern with mem := setWd p.kern.mem (pageAt p.pages (a / 4)).a.toNat (a % 4) w, cache := c }) :
 POk { p with kern := { p.kern with mem := setWd p.kern.mem (pageAt p.pages (a / 4)).a.toNat (a % 4) w, cache := c } } ∧
 ∀ b, b < 64 → wordP { p with kern := { p.kern with mem := setWd p.kern.mem (pageAt p.pages (a / 4)).a.toNat (a % 4) w, cache := c } } b = if b = a then w else wordP p b := by
 have fk := h.frame_kind (n := a / 4) (by omega) hw
 have hat : ∀ f i, wdAt (setWd p.kern.mem (pageAt p.pages (a / 4)).a.toNat (a % 4) w) f i = if f = (pageAt p.pages (a / 4)).a.toNat ∧ i = a % 4 then w else wdAt p.kern.mem f i := fun f i => setWd_at (by rw [h.meml]; exact fk.1) (by rw [h.rowl fk.1]; omega)
 refine ⟨⟨hk, h.swapl, h.swapr, h.may, h.alone, h.root, h.lowl, h.mroot, fun i hi => ?_, h.pagel, h.slots, fun n hn => ?_, h.hand, h.limit, h.count⟩, fun b hb => ?_⟩
 ·obtain ⟨x1, x2, x3, x4⟩ := h.lows i hi
  refine ⟨x1, x2, ?_, x4⟩
  show wdAt (setWd p.kern.mem _ _ w) (rootOf p.kern 0).toNat i = _
  rw [hat, if_neg (fun e => h.root_ne (n := a / 4) (by omega) hw e.1)]
  exact x3
 ·have e : tabWord { p with kern := { p.kern with mem := setWd p.kern.mem (pageAt p.pages (a / 4)).a.toNat (a % 4) w, cache := c } } n = tabWord p n := by
   unfold tabWord
   show wdAt (setWd p.kern.mem _ _ w) (lowAt p.low (n / 4)).toNat (n % 4) = _
   rw [hat, if_neg (fun e => h.lows_ne (n := a / 4) (i := n / 4) (by omega) hw (by omega) e.1)]
  have := h.pages n hn
  unfold PageOk at this ⊢
  rw [e]
  exact this
 ·unfold wordP
  show (if (pageAt p.pages (b / 4)).w = 1 then wdAt (setWd p.kern.mem _ _ w) (pageAt p.pages (b / 4)).a.toNat (b % 4) else if (pageAt p.pages (b / 4)).w = 2 then _ else _) = _
  by_cases e : b = a
  ·subst e
   rw [if_pos hw, if_pos rfl, hat, if_pos ⟨rfl, rfl⟩]
  ·rw [if_neg e]
   by_cases w1 : (pageAt p.pages (b / 4)).w = 1
   ·rw [if_pos w1, if_pos w1, hat, if_neg]
    rintro ⟨x, y⟩
    exact e (addr_eq (h.frame_inj (by omega) (by omega) w1 hw x) y)
   ·rw [if_neg w1, if_neg w1]
end Go.Proofs.YtjacdlekgdnndaaGreatDoor
