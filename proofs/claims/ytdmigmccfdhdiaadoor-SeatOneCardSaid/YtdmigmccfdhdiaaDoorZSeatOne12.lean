/- Texts that the law's proof needs, joined by a program of this session. -/
import Derived.Test.YtdmigmccfdhdiaaDoorZSeatOne1
import Derived.Test.YtdmigmccfdhdiaaDoorZSeatOne11
namespace Go.Proofs.YtdmigmccfdhdiaaDoor.X
open Go.RowKit Go.Proofs.YtdmigmccfdhdiaaDoorW.PrintWords Go.Proofs.YtdmigmccfdhdiaaDoorW.PrintLast Go.Proofs.YtdmigmccfdhdiaaDoorW.PrintMore
attribute [local go_sem] max2_int min2_int max_two min_two max_three min_three max_four min_four
set_option linter.unusedVariables false
set_option linter.unusedSimpArgs false
mutual
def monikerref19_row.l0 : Nat → List Int → List ByteArray → Int → Option (List Int × Bool)
  | 0, _, _, _ => none
  | k + 1, x4, x5, x6 => if x6 < (x5.length : Int) then (if 0 ≤ x6 then ((monikerref19_V4.f k (rdOf ByteArray.empty x5 x6)).bind fun bt297 => (if bt297.2.2.2.2 = true then (monikerref19_row.j1 k x4 x5 x6 (x6 == (wrap64 ((x5.length : Int) - 1))) bt297.1 bt297.2.1 bt297.2.2.1 bt297.2.2.2.1) else (monikerref19_row.j1 k x4 x5 x6 false bt297.1 bt297.2.1 bt297.2.2.1 bt297.2.2.2.1))) else (none)) else (some (x4, true))
def monikerref19_row.j1 : Nat → List Int → List ByteArray → Int → Bool → Int → Int → Int → Int → Option (List Int × Bool)
  | 0, _, _, _, _, _, _, _, _ => none
  | k + 1, x4, x5, x6, x37, x303000, x303001, x303002, x303003 => if x37 = true then ((some (([wrap64 ((wrap64 (256 * x303000)) + x303001), wrap64 ((wrap64 (256 * x303002)) + x303003)] : List Int) : List Int)).bind fun y303 => (if x4.length + y303.length < 17592186044416 then (some ((x4 ++ y303), true)) else (none))) else (if 0 ≤ x6 then (if x6 < (x5.length : Int) then ((monikerref19_word.f k (rdOf ByteArray.empty x5 x6)).bind fun t310 => (if t310 < 0 then (some (([] : List Int), false)) else (if x4.length < 17592186044416 then (monikerref19_row.l0 k (x4 ++ [t310]) x5 (wrap64 (x6 + 1))) else (none)))) else (none)) else (none))
end
def monikerref19_row.f (k : Nat) (a0 : ByteArray) : Option (List Int × Bool) := (some (([] : List Int) : List Int)).bind fun y290 => (if a0.toList = ([] : List UInt8) then (some (y290, true)) else ((monikerref19_Parts.f k a0 58).bind fun t293 => (monikerref19_row.l0 k y290 t293 0)))
theorem monikerref19_row.mono_l : ∀ k, (∀ y0 y1 y2, LeO (monikerref19_row.l0 k y0 y1 y2) (monikerref19_row.l0 (k + 1) y0 y1 y2)) ∧ (∀ y0 y1 y2 y3 y4 y5 y6 y7, LeO (monikerref19_row.j1 k y0 y1 y2 y3 y4 y5 y6 y7) (monikerref19_row.j1 (k + 1) y0 y1 y2 y3 y4 y5 y6 y7))
  | 0 => ⟨fun _ _ _ r h => by simp [monikerref19_row.l0] at h, fun _ _ _ _ _ _ _ _ r h => by simp [monikerref19_row.j1] at h⟩
  | k + 1 => by
    obtain ⟨ih0, ih1⟩ := monikerref19_row.mono_l k
    have m0 := @monikerref19_Parts.mono; have m1 := @monikerref19_V4.mono; have m2 := @monikerref19_word.mono
    refine ⟨?_, ?_⟩
    · intro y0 y1 y2
      unfold monikerref19_row.l0
      exact xmo
    · intro y0 y1 y2 y3 y4 y5 y6 y7
      unfold monikerref19_row.j1
      exact xmo
theorem monikerref19_row.mono : ∀ a0 k, LeO (monikerref19_row.f k a0) (monikerref19_row.f (k + 1) a0) := by
  intro a0 k
  obtain ⟨ih0, ih1⟩ := monikerref19_row.mono_l k
  have m0 := @monikerref19_Parts.mono; have m1 := @monikerref19_V4.mono; have m2 := @monikerref19_word.mono
  unfold monikerref19_row.f
  exact xmo
set_option maxHeartbeats 8000000 in
set_option maxRecDepth 100000 in
theorem monikerref19_row.calls (k : Nat) (a0 : ByteArray) (r1 : List Int) (r2 : Bool) (w : World) (h : monikerref19_row.f k a0 = some (r1, r2)) :
    Calls Tryd.prog 38 #[.string a0] w fun e w' => ∃ v0_ : Value, e = .returned (.tuple #[v0_, .bool r2]) ∧ Kd.R (Kd.int .i64) 3 w' w.heap.size (fun _ => True) v0_ r1 ∧ Below w.heap.size w w' := by
 have hu46 := Tryd.underlying46
 have HB := Aside0.mk (Below.refl w.heap.size w)
 have H : ((some (([] : List Int) : List Int)).bind fun y290 => (if a0.toList = ([] : List UInt8) then (some (y290, true)) else ((monikerref19_Parts.f k a0 58).bind fun t293 => (monikerref19_row.l0 k y290 t293 0)))) = some (r1, r2) := h
 clear h
 obtain ⟨y290, hy290⟩ : ∃ y_ : List Int, y_ = (([] : List Int)) := ⟨_, rfl⟩
 replace H : (if a0.toList = ([] : List UInt8) then (some (y290, true)) else ((monikerref19_Parts.f k a0 58).bind fun t293 => (monikerref19_row.l0 k y290 t293 0))) = some (r1, r2) := by first | (rw [hy290]; with_reducible exact H) | (have H2_ := (Option.bind_some _ _).symm.trans H; rw [hy290]; with_reducible exact H2_) | (have H2_ := (Option.bind_some _ _).symm.trans H; with_reducible exact H2_) | with_reducible exact H | (rw [hy290]; exact H) | exact H
 have Ny290 := Aside0.mk hy290
 clear hy290
 by_cases c2 : a0.toList = ([] : List UInt8)
 ·
  rw [if_pos c2] at H
  have c2b0 : (a0.toList == ([] : List UInt8)) = true := beq_iff_eq.mpr c2
  have c2b1 : (a0.toList != ([] : List UInt8)) = false := bne_eq_false_iff_eq.mpr c2
  clear c2
  simp only [Option.some.injEq, Prod.mk.injEq] at H
  obtain ⟨rfl, rfl⟩ := H
  go_enter Tryd.func38, Tryd.ntmps38
  go_wp2_with (first | ((with_reducible refine gate_dst (N := 10) rfl ?_); (try (refine gate_guard (by rfl) ?_; dsimp only)); refine Kd.R_lit (Kd.int .i64) _ 3 ?hg (N := 10) ?hd (xs := ([] : List Int)) (inner := []) (ok := fun _ => True) (okp := fun _ => True) ?hr ?hp (fun _ hk => hk) trivial (Below.refl _ _) (Nat.le_refl _) (by simp) ?_; (case hd => rfl); (case hg => rfl); (case hr => first | (go_simp; done) | (go_simp; rfl)); (case hp => exact (Reps.none _ _)); intro v291 w3 ho4 hb hg_ hnew_; clear hg_ hnew_; (first | rw [← Ny290.out] at ho4 | (simp only [Int.reduceToNat] at ho4; rw [← Ny290.out] at ho4)); have HO292 := Aside0.mk (Kd.R_lower ho4 (below_size xbl)); replace HB := xst hb; clear hb ho4))
  go_ret2
  exact ⟨_, by first | rfl | (simp [errW_none, errW_some] <;> first | rfl | (simp only [xp_isEmpty, bne, Bool.not_not]; done)) | (simp [*, errW_none, errW_some] <;> rfl), by (with_reducible repeat (first | apply Kd.R_alloc | apply Kd.R_drewN | apply Kd.R_drew)); exact HO292.out, xbl⟩
 ·
  rw [if_neg c2] at H
  have c2b0 : (a0.toList == ([] : List UInt8)) = false := beq_eq_false_iff_ne.mpr c2
  have c2b1 : (a0.toList != ([] : List UInt8)) = true := bne_iff_ne.mpr c2
  replace H := Option.bind_eq_some_iff.mp H
  obtain ⟨t293, A50, H⟩ := H
  try dsimp only at H
  have A5 := Aside0.mk A50
  clear A50
  have H' := Aside0.mk H
  clear H
  go_enter Tryd.func38, Tryd.ntmps38
  go_wp2_with (first | ((with_reducible refine gate_dst (N := 10) rfl ?_); (try (refine gate_guard (by rfl) ?_; dsimp only)); refine Kd.R_lit (Kd.int .i64) _ 3 ?hg (N := 10) ?hd (xs := ([] : List Int)) (inner := []) (ok := fun _ => True) (okp := fun _ => True) ?hr ?hp (fun _ hk => hk) trivial (Below.refl _ _) (Nat.le_refl _) (by simp) ?_; (case hd => rfl); (case hg => rfl); (case hr => first | (go_simp; done) | (go_simp; rfl)); (case hp => exact (Reps.none _ _)); intro v291 w6 ho7 hb hg_ hnew_; clear hg_ hnew_; (first | rw [← Ny290.out] at ho7 | (simp only [Int.reduceToNat] at ho7; rw [← Ny290.out] at ho7)); have HO292 := Aside0.mk (Kd.R_lower ho7 (below_size xbl)); replace HB := xst hb; clear hb ho7) | ((with_reducible refine gate_callee (f := 40) rfl ?_); refine xgl 15 Tryd.func40 #[.string a0, .int .u8 58] ?_; (with_reducible refine (monikerref19_Parts.calls k a0 58 t293 _ A5.out).mono ?_); rintro e w8 ⟨v294, rfl, ho0, hb⟩; refine ⟨_, rfl, ?_⟩; have HO295 := Aside0.mk (Kd.R_lower ho0 (below_size xbl)); replace HO292 := Aside0.mk (Kd.R_below (xkd HO292) hb); replace HB := xst hb; (try clear hb); (try clear ho0)))
  go_loopg [4, 6] k (fun kq v4 v6 w' => ∃ (x4_1 : List Int) (x6_1 : Int), v6 = .int .i64 x6_1 ∧ Aside0 (monikerref19_row.l0 kq x4_1 t293 x6_1 = some (r1, r2)) ∧ Aside0 (kq ≤ k) ∧ Aside0 (Kd.R (Kd.int .i64) 3 w' w.heap.size (fun _ => True) v4 x4_1) ∧ Aside0 (Kd.R Kd.string 9 w' w.heap.size (fun _ => True) v294 t293) ∧ Aside0 (Below w.heap.size w w'))
  case atStart => exact ⟨(y290), (0), xrr, H', ⟨Nat.le_refl _⟩, ⟨xkd HO292⟩, ⟨xkd HO295⟩, ⟨xbl⟩⟩
  case round =>
   clear H'
   clear c2b0 c2b1
   obtain ⟨x4_1, x6_1, rfl, HA, HK1, HO_4, HO_5, HB⟩ := hrel
   cases gk with
   | zero => exact absurd HA.out (by simp [monikerref19_row.l0])
   | succ k1 =>
    have H := HA.out
    clear HA
    simp only [monikerref19_row.l0] at H
    by_cases c9 : x6_1 < (t293.length : Int)
    ·
     rw [if_pos c9] at H
     have c9b0 := decide_eq_true c9
     clear c9
     by_cases c10 : 0 ≤ x6_1
     ·
      rw [if_pos c10] at H
      have c10b0 := decide_eq_true c10
      clear c10
      replace H := Option.bind_eq_some_iff.mp H
      obtain ⟨⟨t297, t298, t299, t300, t301⟩, A110, H⟩ := H
      try dsimp only at H
      have A11 := Aside0.mk A110
      clear A110
      have HC12 := Aside0.mk H
      clear H
      obtain ⟨Ao13, co13, eo13⟩ := Kd.R_slice HO_5.out
      subst eo13
      have p296 : 0 ≤ (x6_1 : Int) := xod
      have q296 : x6_1 < (t293.length : Int) := xod
      obtain ⟨ad296, e296, hx296_0⟩ := Kd.at_string (Kd.R_reads' HO_5.out).2.2 x6_1 p296 q296
      cases e296
      replace p296 := eq_true p296
      replace q296 := eq_true q296
      try (have q296x := q296; simp only [ByteArray.size_extract, Nat.min_self] at q296x)
      go_upto_region 9 with (first | ((with_reducible refine gate_callee (f := 25) rfl ?_); refine xgl 27 Tryd.func25 #[.string (rdOf ByteArray.empty t293 x6_1)] ?_; (with_reducible refine (monikerref19_V4.calls k1 (rdOf ByteArray.empty t293 x6_1) t297 t298 t299 t300 t301 _ A11.out).mono ?_); rintro e w14 ⟨rfl, hb⟩; refine ⟨_, rfl, ?_⟩; replace HO_4 := Aside0.mk (Kd.R_below (xkd HO_4) hb); replace HO_5 := Aside0.mk (Kd.R_below (xkd HO_5) hb); replace HB := xst hb; (try clear hb)) | ((with_reducible refine gate_dst (N := 7) rfl ?_); (try (refine gate_guard (by rfl) ?_; dsimp only)); refine xev 7 #[.int .i64 0, .int .i64 0, .int .i64 0, .int .i64 0] 46 ?_; intro gb302 hg w15 hbox hb; have BK302 := Aside0.mk (hbox); have GW302 := xsz hg; have GE302 := GW302; replace HO_4 := Aside0.mk (Kd.R_below (xkd HO_4) hb); replace HO_5 := Aside0.mk (Kd.R_below (xkd HO_5) hb); replace HB := xst hb; clear hb hbox hg; obtain ⟨hcz16_0, hcz16_1, hcz16_2, hcz16_3⟩ := xc4 BK302; have hfz16_0 := xf BK302 0; have hfz16_1 := xf BK302 1; have hfz16_2 := xf BK302 2; have hfz16_3 := xf BK302 3))
      (try simp only [Act.put, List.setIfInBounds_toArray, List.set_cons_zero, List.set_cons_succ])
      go_cut [37] (fun v37 wc => ∃ (kq : Nat) (x37_11 : Bool), v37 = .bool x37_11 ∧ Aside0 (monikerref19_row.j1 kq x4_1 t293 x6_1 x37_11 t297 t298 t299 t300 = some (r1, r2)) ∧ Aside0 (kq ≤ k1) ∧ Aside0 (Kd.R (Kd.int .i64) 3 wc w.heap.size (fun _ => True) u4 x4_1) ∧ Aside0 (Kd.R Kd.string 9 wc w.heap.size (fun _ => True) (.slice (some ad296) t293.length co13) t293) ∧ Aside0 (wc.heap[gb302]? = some (.cells #[.int .i64 t297, .int .i64 t298, .int .i64 t299, .int .i64 t300] 46 (0, 0))) ∧ Aside0 (Below w.heap.size w wc))
      case first =>
       have H := HC12.out
       clear HC12
       by_cases c17 : t301 = true
       ·
        subst c17
        rw [if_pos rfl] at H
        have H' := Aside0.mk H
        clear H
        go_wp2
        go_meet
        case rel => exact ⟨_, ((x6_1 == (wrap64 ((t293.length : Int) - 1)))), xrr, H', ⟨by have := HK1.out; first | omega | exact Nat.le_refl _⟩, ⟨by (with_reducible repeat (first | apply Kd.R_alloc | apply Kd.R_drewN | apply Kd.R_drew)); exact Kd.R_mono (Kd.R_far (p := ⟨gb302, 3, none⟩) (Kd.R_far (p := ⟨gb302, 2, none⟩) (Kd.R_far (p := ⟨gb302, 1, none⟩) (Kd.R_far (p := ⟨gb302, 0, none⟩) (Kd.R_types HO_4.out BK302.out (by decide)) (fun _ hk => hk.2) (.int .i64 t297)) (fun _ hk => hk.2) (.int .i64 t298)) (fun _ hk => hk.2) (.int .i64 t299)) (fun _ hk => hk.2) (.int .i64 t300)) (fun _ hk => trivial)⟩, ⟨by (with_reducible repeat (first | apply Kd.R_alloc | apply Kd.R_drewN | apply Kd.R_drew)); exact Kd.R_mono (Kd.R_far (p := ⟨gb302, 3, none⟩) (Kd.R_far (p := ⟨gb302, 2, none⟩) (Kd.R_far (p := ⟨gb302, 1, none⟩) (Kd.R_far (p := ⟨gb302, 0, none⟩) (Kd.R_types HO_5.out BK302.out (by decide)) (fun _ hk => hk.2) (.int .i64 t297)) (fun _ hk => hk.2) (.int .i64 t298)) (fun _ hk => hk.2) (.int .i64 t299)) (fun _ hk => hk.2) (.int .i64 t300)) (fun _ hk => trivial)⟩, ⟨by (with_reducible repeat (first | refine blk_drewN ?_ _ | refine blk_drew ?_ | refine blk_alloc ?_ _)); refine blk_put (cs := #[.int .i64 t297, .int .i64 t298, .int .i64 t299, .int .i64 0]) ?_ 3 _ rfl; (with_reducible repeat (first | refine blk_drewN ?_ _ | refine blk_drew ?_ | refine blk_alloc ?_ _)); refine blk_put (cs := #[.int .i64 t297, .int .i64 t298, .int .i64 0, .int .i64 0]) ?_ 2 _ rfl; (with_reducible repeat (first | refine blk_drewN ?_ _ | refine blk_drew ?_ | refine blk_alloc ?_ _)); refine blk_put (cs := #[.int .i64 t297, .int .i64 0, .int .i64 0, .int .i64 0]) ?_ 1 _ rfl; (with_reducible repeat (first | refine blk_drewN ?_ _ | refine blk_drew ?_ | refine blk_alloc ?_ _)); refine blk_put (cs := #[.int .i64 0, .int .i64 0, .int .i64 0, .int .i64 0]) ?_ 0 _ rfl; (with_reducible repeat (first | refine blk_drewN ?_ _ | refine blk_drew ?_ | refine blk_alloc ?_ _)); exact BK302.out⟩, ⟨xbl⟩⟩
       ·
        replace c17 := Bool.eq_false_iff.mpr c17
        subst c17
        rw [if_neg (show ¬ (false = true) by decide)] at H
        have H' := Aside0.mk H
        clear H
        go_wp2
        go_meet
        case rel => exact ⟨_, (false), xrr, H', ⟨by have := HK1.out; first | omega | exact Nat.le_refl _⟩, ⟨by (with_reducible repeat (first | apply Kd.R_alloc | apply Kd.R_drewN | apply Kd.R_drew)); exact Kd.R_mono (Kd.R_far (p := ⟨gb302, 3, none⟩) (Kd.R_far (p := ⟨gb302, 2, none⟩) (Kd.R_far (p := ⟨gb302, 1, none⟩) (Kd.R_far (p := ⟨gb302, 0, none⟩) (Kd.R_types HO_4.out BK302.out (by decide)) (fun _ hk => hk.2) (.int .i64 t297)) (fun _ hk => hk.2) (.int .i64 t298)) (fun _ hk => hk.2) (.int .i64 t299)) (fun _ hk => hk.2) (.int .i64 t300)) (fun _ hk => trivial)⟩, ⟨by (with_reducible repeat (first | apply Kd.R_alloc | apply Kd.R_drewN | apply Kd.R_drew)); exact Kd.R_mono (Kd.R_far (p := ⟨gb302, 3, none⟩) (Kd.R_far (p := ⟨gb302, 2, none⟩) (Kd.R_far (p := ⟨gb302, 1, none⟩) (Kd.R_far (p := ⟨gb302, 0, none⟩) (Kd.R_types HO_5.out BK302.out (by decide)) (fun _ hk => hk.2) (.int .i64 t297)) (fun _ hk => hk.2) (.int .i64 t298)) (fun _ hk => hk.2) (.int .i64 t299)) (fun _ hk => hk.2) (.int .i64 t300)) (fun _ hk => trivial)⟩, ⟨by (with_reducible repeat (first | refine blk_drewN ?_ _ | refine blk_drew ?_ | refine blk_alloc ?_ _)); refine blk_put (cs := #[.int .i64 t297, .int .i64 t298, .int .i64 t299, .int .i64 0]) ?_ 3 _ rfl; (with_reducible repeat (first | refine blk_drewN ?_ _ | refine blk_drew ?_ | refine blk_alloc ?_ _)); refine blk_put (cs := #[.int .i64 t297, .int .i64 t298, .int .i64 0, .int .i64 0]) ?_ 2 _ rfl; (with_reducible repeat (first | refine blk_drewN ?_ _ | refine blk_drew ?_ | refine blk_alloc ?_ _)); refine blk_put (cs := #[.int .i64 t297, .int .i64 0, .int .i64 0, .int .i64 0]) ?_ 1 _ rfl; (with_reducible repeat (first | refine blk_drewN ?_ _ | refine blk_drew ?_ | refine blk_alloc ?_ _)); refine blk_put (cs := #[.int .i64 0, .int .i64 0, .int .i64 0, .int .i64 0]) ?_ 0 _ rfl; (with_reducible repeat (first | refine blk_drewN ?_ _ | refine blk_drew ?_ | refine blk_alloc ?_ _)); exact BK302.out⟩, ⟨xbl⟩⟩
      case rest =>
       clear HC12
       clear c9b0 c10b0 p296 q296
       try clear hx296_0
       obtain ⟨kq, x37_11, rfl, HA, HJ11, HO_4, HO_5, BK302, HB⟩ := hcut
       cases kq with
       | zero => exact absurd HA.out (by simp [monikerref19_row.j1])
       | succ kj11 =>
        have H := HA.out
        clear HA
        simp only [monikerref19_row.j1] at H
        by_cases c18 : x37_11 = true
        ·
         subst c18
         rw [if_pos rfl] at H
         obtain ⟨y303, hy303⟩ : ∃ y_ : List Int, y_ = (([wrap64 ((wrap64 (256 * t297)) + t298), wrap64 ((wrap64 (256 * t299)) + t300)] : List Int)) := ⟨_, rfl⟩
         replace H : (if x4_1.length + y303.length < 17592186044416 then (some ((x4_1 ++ y303), true)) else (none)) = some (r1, r2) := by first | (rw [hy303]; with_reducible exact H) | (have H2_ := (Option.bind_some _ _).symm.trans H; rw [hy303]; with_reducible exact H2_) | (have H2_ := (Option.bind_some _ _).symm.trans H; with_reducible exact H2_) | with_reducible exact H | (rw [hy303]; exact H) | exact H
         have Ny303 := Aside0.mk hy303
         clear hy303
         by_cases c19 : x4_1.length + y303.length < 17592186044416
         ·
          rw [if_pos c19] at H
          have LMc19 := Aside0.mk c19
          clear c19
          obtain ⟨y306, hy306⟩ : ∃ y_ : List Int, y_ = (x4_1 ++ y303) := ⟨_, rfl⟩
          replace H : (some (y306, true)) = some (r1, r2) := by first | (rw [hy306]; with_reducible exact H) | (have H2_ := (Option.bind_some _ _).symm.trans H; rw [hy306]; with_reducible exact H2_) | (have H2_ := (Option.bind_some _ _).symm.trans H; with_reducible exact H2_) | with_reducible exact H | (rw [hy306]; exact H) | exact H
          have Ny306 := Aside0.mk hy306
          clear hy306
          simp only [Option.some.injEq, Prod.mk.injEq] at H
          obtain ⟨rfl, rfl⟩ := H
          obtain ⟨hcz20_0, hcz20_1, hcz20_2, hcz20_3⟩ := xc4 BK302
          have hfz20_0 := xf BK302 0
          have hfz20_1 := xf BK302 1
          have hfz20_2 := xf BK302 2
          have hfz20_3 := xf BK302 3
          go_wp2_with (first | ((with_reducible refine gate_dst (N := 51) rfl ?_); (try (refine gate_guard (by rfl) ?_; dsimp only)); refine Kd.R_lit (Kd.int .i64) _ 3 ?hg (N := 51) ?hd (xs := ([wrap64 ((wrap64 (256 * t297)) + t298), wrap64 ((wrap64 (256 * t299)) + t300)] : List Int)) (inner := [.int .i64 (wrap64 ((wrap64 (256 * t297)) + t298)), .int .i64 (wrap64 ((wrap64 (256 * t299)) + t300))]) (ok := fun _ => True) (okp := fun _ => True) ?hr ?hp (fun _ hk => hk) trivial (Below.refl _ _) (Nat.le_refl _) (by simp) ?_; (case hd => rfl); (case hg => rfl); (case hr => first | (go_simp; done) | (go_simp; rfl)); (case hp => exact (Reps.one (show Kd.M (Kd.int .i64) _ _ _ (wrap64 ((wrap64 (256 * t297)) + t298)) [.int .i64 (wrap64 ((wrap64 (256 * t297)) + t298))] from rfl) (Reps.one (show Kd.M (Kd.int .i64) _ _ _ (wrap64 ((wrap64 (256 * t299)) + t300)) [.int .i64 (wrap64 ((wrap64 (256 * t299)) + t300))] from rfl) (Reps.none _ _)))); intro v304 w21 ho22 hb hg_ hnew_; clear hg_ hnew_; (first | rw [← Ny303.out] at ho22 | (simp only [Int.reduceToNat] at ho22; rw [← Ny303.out] at ho22)); have HO305 := Aside0.mk (Kd.R_lower (Kd.R_new' ho22 (Kd.R_lt (xkd HO_4))) (below_size xbl)); replace HO_4 := Aside0.mk (Kd.R_elder' (xkd HO_4) (Kd.R_base ho22) hb); replace HO_5 := Aside0.mk (Kd.R_below (xkd HO_5) hb); replace BK302 := xbb (g := gb302) (o := .cells #[.int .i64 t297, .int .i64 t298, .int .i64 t299, .int .i64 t300] 46 (0, 0)) hb; replace HB := xst hb; clear hb ho22; obtain ⟨Ao24, co24, eo24⟩ := Kd.R_slice HO305.out; subst eo24) | ((with_reducible refine gate_builtin (b := .append) (xs := #[.tmp 38, .tmp 51]) rfl ?_); (try (refine gate_guard (by rfl) ?_; dsimp only)); at_builtin; refine Kd.R_append_rows (Kd.int .i64) (w0 := w) w.heap.size rfl (.tmp 38) (.tmp 51) 63 3 (.int .i64 0) 8 rfl Tryd.underlying63 info3 rfl (by decide) (by omega) u4 x4_1 y303 _ _ _ (fun k_ => some k_ ≠ (.slice Ao24 y303.length co24 : Value).ownBlock) (fun _ => False) rfl rfl ?aO ?aR (fun _ _ h => h) (fun _ h => h.elim) ?aF ?aB ?aS ?aL ?_; (case aR => repeat (first | exact (Kd.R_reads' HO305.out).2.2 | (with_reducible refine Kd.C_alloc ?_ _) | (with_reducible refine Kd.C_drewN ?_ _) | (with_reducible refine Kd.C_drew ?_))); (case aB => exact xbl); (case aF => exact (fun k_ hk => Kd.fresh' (Kd.R_lt (xkd HO305)) k_ hk)); (case aO => exact (by (with_reducible repeat (first | apply Kd.R_alloc | apply Kd.R_drewN | apply Kd.R_drew)); exact Kd.R_mono HO_4.out (fun _ hk => hk.2))); (case aS => exact (below_size xbl)); (case aL => have := LMc19.out; omega); intro v307 w23 ho hb hg hat; rw [← Ny306.out] at ho; have n0_ := Aside0.mk (Kd.R_over' (xkd HO_5) (Kd.R_typed (xkd HO_4)) (by decide) hg); have n1_ := Aside0.mk (blk_grown (g := gb302) (o := .cells #[.int .i64 t297, .int .i64 t298, .int .i64 t299, .int .i64 t300] 46 (0, 0)) xbk hg (Kd.R_ne HO_4.out BK302.out (by decide))); have n2_ := Aside0.mk (Kd.R_after (ok := (fun _ => True)) (xkd HO305) hg hat); have n3_ := Aside0.mk (hb); have n4_ := Aside0.mk (ho); clear HO_5; clear BK302; clear HO305; clear HB; clear HO_4; have HO_5 := n0_; have BK302 := n1_; have HO305 := n2_; have HB := n3_; have HO308 := n4_; clear n0_ n1_ n2_ n3_ n4_; clear ho hb hg hat))
          go_ret2
          exact ⟨_, by first | rfl | (simp [errW_none, errW_some] <;> first | rfl | (simp only [xp_isEmpty, bne, Bool.not_not]; done)) | (simp [*, errW_none, errW_some] <;> rfl), by (with_reducible repeat (first | apply Kd.R_alloc | apply Kd.R_drewN | apply Kd.R_drew)); exact Kd.R_mono HO308.out (fun _ hk => trivial), xbl⟩
         ·
          rw [if_neg c19] at H
          exact absurd H (by simp)
        ·
         replace c18 := Bool.eq_false_iff.mpr c18
         subst c18
         rw [if_neg (show ¬ (false = true) by decide)] at H
         by_cases c25 : 0 ≤ x6_1
         ·
          rw [if_pos c25] at H
          have c25b0 := decide_eq_true c25
          clear c25
          by_cases c26 : x6_1 < (t293.length : Int)
          ·
           rw [if_pos c26] at H
           have c26b0 := decide_eq_true c26
           clear c26
           replace H := Option.bind_eq_some_iff.mp H
           obtain ⟨t310, A270, H⟩ := H
           try dsimp only at H
           have A27 := Aside0.mk A270
           clear A270
           by_cases c28 : t310 < 0
           ·
            rw [if_pos c28] at H
            have c28b0 := decide_eq_true c28
            clear c28
            simp only [Option.some.injEq, Prod.mk.injEq] at H
            obtain ⟨rfl, rfl⟩ := H
            have p309 : 0 ≤ (x6_1 : Int) := xod
            have q309 : x6_1 < (t293.length : Int) := xod
            obtain ⟨ad309, e309, hx309_0⟩ := Kd.at_string (Kd.R_reads' HO_5.out).2.2 x6_1 p309 q309
            obtain rfl : ad296 = ad309 := (by injection e309)
            replace p309 := eq_true p309
            replace q309 := eq_true q309
            try (have q309x := q309; simp only [ByteArray.size_extract, Nat.min_self] at q309x)
            go_wp2_with (first | ((with_reducible refine gate_callee (f := 60) rfl ?_); refine xgl 57 Tryd.func60 #[.string (rdOf ByteArray.empty t293 x6_1)] ?_; (with_reducible refine (monikerref19_word.calls kj11 (rdOf ByteArray.empty t293 x6_1) t310 _ A27.out).mono ?_); rintro e w' ⟨rfl, ⟨nd, rfl⟩⟩; refine ⟨_, rfl, ?_⟩))
            go_ret2
            exact ⟨_, by first | rfl | (simp [errW_none, errW_some] <;> first | rfl | (simp only [xp_isEmpty, bne, Bool.not_not]; done)) | (simp [*, errW_none, errW_some] <;> rfl), by first | exact Kd.R_nil _ _ _ _ _ | exact Kd.N_nil _ _ _ _ _ | exact Kd.V_nil _ _ _ _ _ | exact Kd.Q_nil _ _ _ _ _ | exact Kd.S_nil _ _ _ _ _, xbl⟩
           ·
            rw [if_neg c28] at H
            have c28b0 := decide_eq_false c28
            clear c28
            by_cases c29 : x4_1.length < 17592186044416
            ·
             rw [if_pos c29] at H
             have LMc29 := Aside0.mk c29
             clear c29
             obtain ⟨y311, hy311⟩ : ∃ y_ : List Int, y_ = (x4_1 ++ [t310]) := ⟨_, rfl⟩
             replace H : (monikerref19_row.l0 kj11 y311 t293 (wrap64 (x6_1 + 1))) = some (r1, r2) := by first | (rw [hy311]; with_reducible exact H) | (have H2_ := (Option.bind_some _ _).symm.trans H; rw [hy311]; with_reducible exact H2_) | (have H2_ := (Option.bind_some _ _).symm.trans H; with_reducible exact H2_) | with_reducible exact H | (rw [hy311]; exact H) | exact H
             have Ny311 := Aside0.mk hy311
             clear hy311
             have H' := Aside0.mk H
             clear H
             have p309 : 0 ≤ (x6_1 : Int) := xod
             have q309 : x6_1 < (t293.length : Int) := xod
             obtain ⟨ad309, e309, hx309_0⟩ := Kd.at_string (Kd.R_reads' HO_5.out).2.2 x6_1 p309 q309
             obtain rfl : ad296 = ad309 := (by injection e309)
             replace p309 := eq_true p309
             replace q309 := eq_true q309
             try (have q309x := q309; simp only [ByteArray.size_extract, Nat.min_self] at q309x)
             go_wp2_with (first | ((with_reducible refine gate_callee (f := 60) rfl ?_); refine xgl 57 Tryd.func60 #[.string (rdOf ByteArray.empty t293 x6_1)] ?_; (with_reducible refine (monikerref19_word.calls kj11 (rdOf ByteArray.empty t293 x6_1) t310 _ A27.out).mono ?_); rintro e w' ⟨rfl, ⟨nd, rfl⟩⟩; refine ⟨_, rfl, ?_⟩) | ((with_reducible refine gate_builtin (b := .append) (xs := #[.tmp 60, .tmp 62]) rfl ?_); (try (refine gate_guard (by rfl) ?_; dsimp only)); at_builtin; refine Kd.R_append (Kd.int .i64) (w0 := w) w.heap.size rfl (.tmp 60) (.tmp 62) 63 3 (.int .i64 0) 8 rfl Tryd.underlying63 info3 rfl (by decide) (by omega) u4 x4_1 t310 [.int .i64 t310] (fun _ => True) (fun _ => False) rfl rfl ?aP (fun _ hk => hk.elim) ?aF ?aO ?aB ?aS ?aL ?_; (case aP => exact rfl); (case aB => exact xbl); (case aF => exact (fun _ _ => trivial)); (case aO => exact (xkd HO_4)); (case aS => exact (below_size xbl)); (case aL => have := LMc29.out; omega); intro v312 w30 ho hb hg hat; rw [← Ny311.out] at ho; have n0_ := Aside0.mk (Kd.R_over' (xkd HO_5) (Kd.R_typed (xkd HO_4)) (by decide) hg); have n1_ := Aside0.mk (blk_grown (g := gb302) (o := .cells #[.int .i64 t297, .int .i64 t298, .int .i64 t299, .int .i64 t300] 46 (0, 0)) xbk hg (Kd.R_ne HO_4.out BK302.out (by decide))); have n2_ := Aside0.mk (hb); have n3_ := Aside0.mk (ho); clear HO_5; clear BK302; clear HB; clear HO_4; have HO_5 := n0_; have BK302 := n1_; have HB := n2_; have HO313 := n3_; clear n0_ n1_ n2_ n3_; clear ho hb hg hat))
             go_roundg kj11
             case measure => have := HK1.out; have := HJ11.out; omega
             case rel => exact ⟨(y311), (wrap64 (x6_1 + 1)), xrr, H', ⟨by have := HK1.out; have := HJ11.out; omega⟩, ⟨xkd HO313⟩, ⟨xkd HO_5⟩, ⟨xbl⟩⟩
            ·
             rw [if_neg c29] at H
             exact absurd H (by simp)
          ·
           rw [if_neg c26] at H
           exact absurd H (by simp)
         ·
          rw [if_neg c25] at H
          exact absurd H (by simp)
     ·
      rw [if_neg c10] at H
      exact absurd H (by simp)
    ·
     rw [if_neg c9] at H
     have c9b0 := decide_eq_false c9
     clear c9
     simp only [Option.some.injEq, Prod.mk.injEq] at H
     obtain ⟨rfl, rfl⟩ := H
     obtain ⟨Ao31, co31, eo31⟩ := Kd.R_slice HO_5.out
     subst eo31
     go_wp2
     go_ret2
     exact ⟨_, by first | rfl | (simp [errW_none, errW_some] <;> first | rfl | (simp only [xp_isEmpty, bne, Bool.not_not]; done)) | (simp [*, errW_none, errW_some] <;> rfl), by (with_reducible repeat (first | apply Kd.R_alloc | apply Kd.R_drewN | apply Kd.R_drew)); exact HO_4.out, xbl⟩
end Go.Proofs.YtdmigmccfdhdiaaDoor.X
