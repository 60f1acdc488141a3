/- Texts that the law's proof needs, joined by a program of this session. -/
import Derived.Test.YtdmigmccfdhdiaaDoorZSeatOne1
import Derived.Test.YtdmigmccfdhdiaaDoorZSeatOne14
namespace Go.Proofs.YtdmigmccfdhdiaaDoor.X
open Go.RowKit Go.Proofs.YtdmigmccfdhdiaaDoorW.PrintWords Go.Proofs.YtdmigmccfdhdiaaDoorW.PrintLast Go.Proofs.YtdmigmccfdhdiaaDoorW.PrintMore
attribute [local go_sem] max2_int min2_int max_two min_two max_three min_three max_four min_four
set_option linter.unusedVariables false
set_option linter.unusedSimpArgs false
mutual
def monikerref21_All.l0 : Nat → Bool → ByteArray → List (S24) → Int → Option ((List (S24)))
  | 0, _, _, _, _ => none
  | k + 1, x0, x1, x5, x6 => if x6 < (x1.size : Int) then (if x6 ≥ 0 then (if 0 ≤ x6 then (monikerref21_All.j1 k x0 x1 x5 x6 ((bt x1 x6) != 64)) else (none)) else (monikerref21_All.j1 k x0 x1 x5 x6 false)) else (some x5)
def monikerref21_All.j1 : Nat → Bool → ByteArray → List (S24) → Int → Bool → Option ((List (S24)))
  | 0, _, _, _, _, _ => none
  | k + 1, x0, x1, x5, x6, x23 => if x23 = true then (monikerref21_All.l0 k x0 x1 x5 (wrap64 (x6 + 1))) else (monikerref21_All.l1 k x0 x1 x5 x6 (wrap64 (x6 + 1)))
def monikerref21_All.l1 : Nat → Bool → ByteArray → List (S24) → Int → Int → Option ((List (S24)))
  | 0, _, _, _, _, _ => none
  | k + 1, x0, x1, x5, x6, x7 => if x7 ≤ (x1.size : Int) then (if x7 < (x1.size : Int) then (if 0 ≤ x7 then (monikerref21_All.j3 k x0 x1 x5 x6 x7 ((bt x1 x7) != 58)) else (none)) else (monikerref21_All.j3 k x0 x1 x5 x6 x7 false)) else (monikerref21_All.l0 k x0 x1 x5 (wrap64 (x6 + 1)))
def monikerref21_All.j3 : Nat → Bool → ByteArray → List (S24) → Int → Int → Bool → Option ((List (S24)))
  | 0, _, _, _, _, _, _ => none
  | k + 1, x0, x1, x5, x6, x7, x41 => if x41 = true then (monikerref21_All.l1 k x0 x1 x5 x6 (wrap64 (x7 + 1))) else (if 0 ≤ (wrap64 (x6 + 1)) then (if (wrap64 (x6 + 1)) ≤ x7 then (if x7 ≤ (x1.size : Int) then (if x6 ≥ 0 then (if 0 ≤ x6 then (if x6 ≤ (x1.size : Int) then (monikerref21_All.j4 k x0 x1 x5 x6 x7 true (x1.extract 0 (x6 : Int).toNat) (x1.extract ((wrap64 (x6 + 1)) : Int).toNat (x7 : Int).toNat) false (⟨#[]⟩ : ByteArray)) else (none)) else (none)) else (monikerref21_All.j4 k x0 x1 x5 x6 x7 false (⟨#[]⟩ : ByteArray) (x1.extract ((wrap64 (x6 + 1)) : Int).toNat (x7 : Int).toNat) false (⟨#[]⟩ : ByteArray))) else (none)) else (none)) else (none))
def monikerref21_All.j4 : Nat → Bool → ByteArray → List (S24) → Int → Int → Bool → ByteArray → ByteArray → Bool → ByteArray → Option ((List (S24)))
  | 0, _, _, _, _, _, _, _, _, _, _ => none
  | k + 1, x0, x1, x5, x6, x7, x361000, x361001, x361002, x361003, x361004 => if x7 < (x1.size : Int) then (if 0 ≤ (wrap64 (x7 + 1)) then (if (wrap64 (x7 + 1)) ≤ (x1.size : Int) then ((monikerref21_Right.f k x0 x361000 x361001 x361002 true (x1.extract ((wrap64 (x7 + 1)) : Int).toNat x1.size)).bind fun t361 => (if t361 = true then (if x5.length < 2199023255552 then (monikerref21_All.l1 k x0 x1 (x5 ++ [(⟨x361000, x361001, x361002, true, x1.extract ((wrap64 (x7 + 1)) : Int).toNat x1.size⟩ : S24)]) x6 (wrap64 (x7 + 1))) else (none)) else (monikerref21_All.l1 k x0 x1 x5 x6 (wrap64 (x7 + 1))))) else (none)) else (none)) else ((monikerref21_Right.f k x0 x361000 x361001 x361002 x361003 x361004).bind fun t365 => (if t365 = true then (if x5.length < 2199023255552 then (monikerref21_All.l1 k x0 x1 (x5 ++ [(⟨x361000, x361001, x361002, x361003, x361004⟩ : S24)]) x6 (wrap64 (x7 + 1))) else (none)) else (monikerref21_All.l1 k x0 x1 x5 x6 (wrap64 (x7 + 1)))))
end
def monikerref21_All.f (k : Nat) (a0 : Bool) (a1 : ByteArray) : Option ((List (S24))) := monikerref21_All.l0 k a0 a1 (([] : List (S24))) (-1)
theorem monikerref21_All.mono_l : ∀ k, (∀ y0 y1 y2 y3, LeO (monikerref21_All.l0 k y0 y1 y2 y3) (monikerref21_All.l0 (k + 1) y0 y1 y2 y3)) ∧ (∀ y0 y1 y2 y3 y4, LeO (monikerref21_All.j1 k y0 y1 y2 y3 y4) (monikerref21_All.j1 (k + 1) y0 y1 y2 y3 y4)) ∧ (∀ y0 y1 y2 y3 y4, LeO (monikerref21_All.l1 k y0 y1 y2 y3 y4) (monikerref21_All.l1 (k + 1) y0 y1 y2 y3 y4)) ∧ (∀ y0 y1 y2 y3 y4 y5, LeO (monikerref21_All.j3 k y0 y1 y2 y3 y4 y5) (monikerref21_All.j3 (k + 1) y0 y1 y2 y3 y4 y5)) ∧ (∀ y0 y1 y2 y3 y4 y5 y6 y7 y8 y9, LeO (monikerref21_All.j4 k y0 y1 y2 y3 y4 y5 y6 y7 y8 y9) (monikerref21_All.j4 (k + 1) y0 y1 y2 y3 y4 y5 y6 y7 y8 y9))
  | 0 => ⟨fun _ _ _ _ r h => by simp [monikerref21_All.l0] at h, fun _ _ _ _ _ r h => by simp [monikerref21_All.j1] at h, fun _ _ _ _ _ r h => by simp [monikerref21_All.l1] at h, fun _ _ _ _ _ _ r h => by simp [monikerref21_All.j3] at h, fun _ _ _ _ _ _ _ _ _ _ r h => by simp [monikerref21_All.j4] at h⟩
  | k + 1 => by
    obtain ⟨ih0, ih1, ih2, ih3, ih4⟩ := monikerref21_All.mono_l k
    have m0 := @monikerref21_Right.mono
    refine ⟨?_, ?_, ?_, ?_, ?_⟩
    · intro y0 y1 y2 y3
      unfold monikerref21_All.l0
      exact xmo
    · intro y0 y1 y2 y3 y4
      unfold monikerref21_All.j1
      exact xmo
    · intro y0 y1 y2 y3 y4
      unfold monikerref21_All.l1
      exact xmo
    · intro y0 y1 y2 y3 y4 y5
      unfold monikerref21_All.j3
      exact xmo
    · intro y0 y1 y2 y3 y4 y5 y6 y7 y8 y9
      unfold monikerref21_All.j4
      exact xmo
theorem monikerref21_All.mono : ∀ a0 a1 k, LeO (monikerref21_All.f k a0 a1) (monikerref21_All.f (k + 1) a0 a1) := by
  intro a0 a1 k
  obtain ⟨ih0, ih1, ih2, ih3, ih4⟩ := monikerref21_All.mono_l k
  have m0 := @monikerref21_Right.mono
  unfold monikerref21_All.f
  exact xmo
set_option maxHeartbeats 8000000 in
set_option maxRecDepth 100000 in
theorem monikerref21_All.calls (k : Nat) (a0 : Bool) (a1 : ByteArray) (r : List (S24)) (w : World) (h : monikerref21_All.f k a0 a1 = some r) :
    Calls Tryd.prog 7 #[.bool a0, .string a1] w fun e w' => ∃ v0_ : Value, e = .returned (v0_) ∧ Kd.R k24 24 w' w.heap.size (fun _ => True) v0_ r ∧ Below w.heap.size w w' := by
 have hu24 := Tryd.underlying24
 have HB := Aside0.mk (Below.refl w.heap.size w)
 have H : (monikerref21_All.l0 k a0 a1 (([] : List (S24))) (-1)) = some r := h
 clear h
 obtain ⟨y357, hy357⟩ : ∃ y_ : List (S24), y_ = (([] : List (S24))) := ⟨_, rfl⟩
 replace H : (monikerref21_All.l0 k a0 a1 y357 (-1)) = some r := by first | (rw [hy357]; with_reducible exact H) | (have H2_ := (Option.bind_some _ _).symm.trans H; rw [hy357]; with_reducible exact H2_) | (have H2_ := (Option.bind_some _ _).symm.trans H; with_reducible exact H2_) | with_reducible exact H | (rw [hy357]; exact H) | exact H
 have Ny357 := Aside0.mk hy357
 clear hy357
 have H' := Aside0.mk H
 clear H
 go_enter Tryd.func7, Tryd.ntmps7
 go_wp2_with (first | ((with_reducible refine gate_dst (N := 9) rfl ?_); refine Kd.R_lit k24 _ 24 ?hg (N := 9) ?hd (xs := ([] : List (S24))) (inner := []) (ok := fun _ => True) (okp := fun _ => True) ?hr ?hp (fun _ hk => hk) trivial (Below.refl _ _) (Nat.le_refl _) (by simp) ?_; (case hd => rfl); (case hg => rfl); (case hr => first | (go_simp; done) | (go_simp; rfl)); (case hp => exact (Reps.none _ _)); intro v358 w3 ho4 hb hg_ hnew_; clear hg_ hnew_; (first | rw [← Ny357.out] at ho4 | (simp only [Int.reduceToNat] at ho4; rw [← Ny357.out] at ho4)); have HO359 := Aside0.mk (Kd.R_lower ho4 (below_size xbl)); replace HB := xst hb; clear hb ho4))
 go_loopg [5, 6] k (fun kq v5 v6 w' => ∃ (x5_1 : List (S24)) (x6_1 : Int), v6 = .int .i64 x6_1 ∧ Aside0 (monikerref21_All.l0 kq a0 a1 x5_1 x6_1 = some r) ∧ Aside0 (kq ≤ k) ∧ Aside0 (Kd.R k24 24 w' w.heap.size (fun _ => True) v5 x5_1) ∧ Aside0 (Below w.heap.size w w'))
 case atStart => exact ⟨(y357), ((-1)), xrr, H', ⟨Nat.le_refl _⟩, ⟨xkd HO359⟩, ⟨xbl⟩⟩
 case round =>
  clear H'
  obtain ⟨x5_1, x6_1, rfl, HA, HK1, HO_5, HB⟩ := hrel
  cases gk with
  | zero => exact absurd HA.out (by simp [monikerref21_All.l0])
  | succ k1 =>
   have H := HA.out
   clear HA
   simp only [monikerref21_All.l0] at H
   by_cases c5 : x6_1 < (a1.size : Int)
   ·
    rw [if_pos c5] at H
    have c5b0 := decide_eq_true c5
    clear c5
    have HC6 := Aside0.mk H
    clear H
    go_upto_region 5 with (fail)
    go_cut [23] (fun v23 wc => ∃ (kq : Nat) (x23_5 : Bool), v23 = .bool x23_5 ∧ Aside0 (monikerref21_All.j1 kq a0 a1 x5_1 x6_1 x23_5 = some r) ∧ Aside0 (kq ≤ k1) ∧ Aside0 (Kd.R k24 24 wc w.heap.size (fun _ => True) u5 x5_1) ∧ Aside0 (Below w.heap.size w wc))
    case first =>
     have H := HC6.out
     clear HC6
     by_cases c7 : x6_1 ≥ 0
     ·
      rw [if_pos c7] at H
      have c7b0 := decide_eq_true c7
      clear c7
      (first | rw [c7b0] | (simp only [i64_w, i32_w]; rw [c7b0]) | skip)
      by_cases c8 : 0 ≤ x6_1
      ·
       rw [if_pos c8] at H
       have c8b0 := decide_eq_true c8
       clear c8
       have H' := Aside0.mk H
       clear H
       have p9 : 0 ≤ (x6_1 : Int) := xod
       have q9 : x6_1 < (a1.size : Int) := xod
       have hx9 := bt_at a1 x6_1
       replace p9 := eq_true p9
       replace q9 := eq_true q9
       try (have q9x := q9; simp only [ByteArray.size_extract, Nat.min_self] at q9x)
       go_wp2
       go_meet
       case rel => exact ⟨_, (((bt a1 x6_1) != 64)), xrr, H', ⟨by have := HK1.out; first | omega | exact Nat.le_refl _⟩, ⟨xkd HO_5⟩, ⟨xbl⟩⟩
      ·
       rw [if_neg c8] at H
       exact absurd H (by simp)
     ·
      rw [if_neg c7] at H
      have c7b0 := decide_eq_false c7
      clear c7
      (first | rw [c7b0] | (simp only [i64_w, i32_w]; rw [c7b0]) | skip)
      have H' := Aside0.mk H
      clear H
      go_wp2
      go_meet
      case rel => exact ⟨_, (false), xrr, H', ⟨by have := HK1.out; first | omega | exact Nat.le_refl _⟩, ⟨xkd HO_5⟩, ⟨xbl⟩⟩
    case rest =>
     clear HC6
     clear c5b0
     obtain ⟨kq, x23_5, rfl, HA, HJ5, HO_5, HB⟩ := hcut
     cases kq with
     | zero => exact absurd HA.out (by simp [monikerref21_All.j1])
     | succ kj5 =>
      have H := HA.out
      clear HA
      simp only [monikerref21_All.j1] at H
      by_cases c10 : x23_5 = true
      ·
       subst c10
       rw [if_pos rfl] at H
       have H' := Aside0.mk H
       clear H
       go_wp2
       go_roundg kj5
       case measure => have := HK1.out; have := HJ5.out; omega
       case rel => exact ⟨(x5_1), (wrap64 (x6_1 + 1)), xrr, H', ⟨by have := HK1.out; have := HJ5.out; omega⟩, ⟨xkd HO_5⟩, ⟨xbl⟩⟩
      ·
       replace c10 := Bool.eq_false_iff.mpr c10
       subst c10
       rw [if_neg (show ¬ (false = true) by decide)] at H
       have H' := Aside0.mk H
       clear H
       go_wp2
       go_loopg [5, 7] kj5 (fun kq v5 v7 w' => ∃ (x5_3 : List (S24)) (x7_3 : Int), v7 = .int .i64 x7_3 ∧ Aside0 (monikerref21_All.l1 kq a0 a1 x5_3 x6_1 x7_3 = some r) ∧ Aside0 (kq ≤ kj5) ∧ Aside0 (Kd.R k24 24 w' w.heap.size (fun _ => True) v5 x5_3) ∧ Aside0 (Below w.heap.size w w'))
       case atStart => exact ⟨(x5_1), (wrap64 (x6_1 + 1)), xrr, H', ⟨Nat.le_refl _⟩, ⟨xkd HO_5⟩, ⟨xbl⟩⟩
       case round =>
        clear H'
        obtain ⟨x5_3, x7_3, rfl, HA, HK3, HO_5, HB⟩ := hrel
        cases gk with
        | zero => exact absurd HA.out (by simp [monikerref21_All.l1])
        | succ k3 =>
         have H := HA.out
         clear HA
         simp only [monikerref21_All.l1] at H
         by_cases c11 : x7_3 ≤ (a1.size : Int)
         ·
          rw [if_pos c11] at H
          have c11b0 := decide_eq_true c11
          clear c11
          have HC12 := Aside0.mk H
          clear H
          go_upto_region 9 with (fail)
          go_cut [41] (fun v41 wc => ∃ (kq : Nat) (x41_11 : Bool), v41 = .bool x41_11 ∧ Aside0 (monikerref21_All.j3 kq a0 a1 x5_3 x6_1 x7_3 x41_11 = some r) ∧ Aside0 (kq ≤ k3) ∧ Aside0 (Kd.R k24 24 wc w.heap.size (fun _ => True) u5 x5_3) ∧ Aside0 (Below w.heap.size w wc))
          case first =>
           have H := HC12.out
           clear HC12
           by_cases c13 : x7_3 < (a1.size : Int)
           ·
            rw [if_pos c13] at H
            have c13b0 := decide_eq_true c13
            clear c13
            (first | rw [c13b0] | (simp only [i64_w, i32_w]; rw [c13b0]) | skip)
            by_cases c14 : 0 ≤ x7_3
            ·
             rw [if_pos c14] at H
             have c14b0 := decide_eq_true c14
             clear c14
             have H' := Aside0.mk H
             clear H
             have p15 : 0 ≤ (x7_3 : Int) := xod
             have q15 : x7_3 < (a1.size : Int) := xod
             have hx15 := bt_at a1 x7_3
             replace p15 := eq_true p15
             replace q15 := eq_true q15
             try (have q15x := q15; simp only [ByteArray.size_extract, Nat.min_self] at q15x)
             go_wp2
             go_meet
             case rel => exact ⟨_, (((bt a1 x7_3) != 58)), xrr, H', ⟨by have := HK1.out; have := HJ5.out; have := HK3.out; first | omega | exact Nat.le_refl _⟩, ⟨xkd HO_5⟩, ⟨xbl⟩⟩
            ·
             rw [if_neg c14] at H
             exact absurd H (by simp)
           ·
            rw [if_neg c13] at H
            have c13b0 := decide_eq_false c13
            clear c13
            (first | rw [c13b0] | (simp only [i64_w, i32_w]; rw [c13b0]) | skip)
            have H' := Aside0.mk H
            clear H
            go_wp2
            go_meet
            case rel => exact ⟨_, (false), xrr, H', ⟨by have := HK1.out; have := HJ5.out; have := HK3.out; first | omega | exact Nat.le_refl _⟩, ⟨xkd HO_5⟩, ⟨xbl⟩⟩
          case rest =>
           clear HC12
           clear c11b0
           obtain ⟨kq, x41_11, rfl, HA, HJ11, HO_5, HB⟩ := hcut
           cases kq with
           | zero => exact absurd HA.out (by simp [monikerref21_All.j3])
           | succ kj11 =>
            have H := HA.out
            clear HA
            simp only [monikerref21_All.j3] at H
            by_cases c16 : x41_11 = true
            ·
             subst c16
             rw [if_pos rfl] at H
             have H' := Aside0.mk H
             clear H
             go_wp2
             go_roundg kj11
             case measure => have := HK1.out; have := HJ5.out; have := HK3.out; have := HJ11.out; omega
             case rel => exact ⟨(x5_3), (wrap64 (x7_3 + 1)), xrr, H', ⟨by have := HK1.out; have := HJ5.out; have := HK3.out; have := HJ11.out; omega⟩, ⟨xkd HO_5⟩, ⟨xbl⟩⟩
            ·
             replace c16 := Bool.eq_false_iff.mpr c16
             subst c16
             rw [if_neg (show ¬ (false = true) by decide)] at H
             obtain ⟨ji17, hji17⟩ : ∃ j_ : Int, (wrap64 (x6_1 + 1)) = j_ := ⟨_, rfl⟩
             first | rw [hji17] at H | simp only [hji17] at H | skip
             have hji17w : (IntKind.i64.wrap (x6_1 + 1)) = ji17 := (i64_w _).trans hji17
             by_cases c18 : 0 ≤ (ji17)
             ·
              rw [if_pos c18] at H
              have c18b0 := eq_true c18
              have c18b1 := decide_eq_true c18
              clear c18
              by_cases c19 : (ji17) ≤ x7_3
              ·
               rw [if_pos c19] at H
               have c19b0 := eq_true c19
               have c19b1 := decide_eq_true c19
               clear c19
               by_cases c20 : x7_3 ≤ (a1.size : Int)
               ·
                rw [if_pos c20] at H
                have c20b0 := eq_true c20
                have c20b1 := decide_eq_true c20
                clear c20
                obtain ⟨ji21, hji21⟩ : ∃ j_ : ByteArray, (a1.extract ((ji17) : Int).toNat (x7_3 : Int).toNat) = j_ := ⟨_, rfl⟩
                try (have hji21x := hji21; simp only [Int.toNat_natCast, Int.toNat_ofNat] at hji21x)
                first | rw [hji21] at H | simp only [hji21] at H | skip
                have HC22 := Aside0.mk H
                clear H
                go_upto_if 49 with (first | ((with_reducible refine gate_dst (N := 8) rfl ?_); refine xev 8 #[.bool false, .string (⟨#[]⟩ : ByteArray), .string (⟨#[]⟩ : ByteArray), .bool false, .string (⟨#[]⟩ : ByteArray)] 24 ?_; intro gb360 hg w23 hbox hb; have BK360 := Aside0.mk (hbox); have GW360 := xsz hg; have GE360 := GW360; replace HO_5 := Aside0.mk (Kd.R_below (Kd.R_elderB (xkd HO_5) gb360 (Nat.le_of_eq hg.symm)) hb); replace HB := xst hb; clear hb hbox hg; obtain ⟨hcz24_0, hcz24_1, hcz24_2, hcz24_3, hcz24_4⟩ := xc5 BK360; have hfz24_0 := xf BK360 0; have hfz24_1 := xf BK360 1; have hfz24_2 := xf BK360 2; have hfz24_3 := xf BK360 3; have hfz24_4 := xf BK360 4))
                (try simp only [Act.put, List.setIfInBounds_toArray, List.set_cons_zero, List.set_cons_succ])
                go_cut [] (fun wc => ∃ (kq : Nat) (x361000_21 : Bool) (x361001_21 : ByteArray), Aside0 (monikerref21_All.j4 kq a0 a1 x5_3 x6_1 x7_3 x361000_21 x361001_21 ji21 false (⟨#[]⟩ : ByteArray) = some r) ∧ Aside0 (kq ≤ kj11) ∧ Aside0 (Kd.R k24 24 wc w.heap.size (fun k_ => k_ ≠ gb360) u5 x5_3) ∧ Aside0 (wc.heap[gb360]? = some (.cells #[.bool x361000_21, .string x361001_21, .string ji21, .bool false, .string (⟨#[]⟩ : ByteArray)] 24 (0, 0))) ∧ Aside0 (Below w.heap.size w wc))
                case first =>
                 have H := HC22.out
                 clear HC22
                 by_cases c25 : x6_1 ≥ 0
                 ·
                  rw [if_pos c25] at H
                  have c25b0 := decide_eq_true c25
                  clear c25
                  (first | rw [c25b0] | (simp only [i64_w, i32_w]; rw [c25b0]) | skip)
                  by_cases c26 : 0 ≤ x6_1
                  ·
                   rw [if_pos c26] at H
                   have c26b0 := eq_true c26
                   have c26b1 := decide_eq_true c26
                   clear c26
                   by_cases c27 : x6_1 ≤ (a1.size : Int)
                   ·
                    rw [if_pos c27] at H
                    have c27b0 := eq_true c27
                    have c27b1 := decide_eq_true c27
                    clear c27
                    obtain ⟨ji28, hji28⟩ : ∃ j_ : ByteArray, (a1.extract 0 (x6_1 : Int).toNat) = j_ := ⟨_, rfl⟩
                    try (have hji28x := hji28; simp only [Int.toNat_natCast, Int.toNat_ofNat] at hji28x)
                    first | rw [hji28] at H | simp only [hji28] at H | skip
                    have H' := Aside0.mk H
                    clear H
                    obtain ⟨hcz29_0, hcz29_1, hcz29_2, hcz29_3, hcz29_4⟩ := xc5 BK360
                    have hfz29_0 := xf BK360 0
                    have hfz29_1 := xf BK360 1
                    have hfz29_2 := xf BK360 2
                    have hfz29_3 := xf BK360 3
                    have hfz29_4 := xf BK360 4
                    go_wp2
                    go_meet
                    case rel => exact ⟨_, (true), (ji28), H', ⟨by have := HK1.out; have := HJ5.out; have := HK3.out; have := HJ11.out; first | omega | exact Nat.le_refl _⟩, ⟨by (with_reducible repeat (first | apply Kd.R_alloc | apply Kd.R_drewN | apply Kd.R_drew)); exact Kd.R_mono (Kd.R_far (p := ⟨gb360, 1, none⟩) (Kd.R_far (p := ⟨gb360, 0, none⟩) (Kd.R_far (p := ⟨gb360, 4, none⟩) (Kd.R_far (p := ⟨gb360, 3, none⟩) (Kd.R_far (p := ⟨gb360, 2, none⟩) (Kd.R_far (p := ⟨gb360, 1, none⟩) (Kd.R_far (p := ⟨gb360, 0, none⟩) (Kd.R_mono HO_5.out (fun k_ hk => (⟨hk, hk.2⟩ : _ ∧ k_ ≠ gb360))) (fun _ hk => hk.2) (.bool false)) (fun _ hk => hk.2) (.string (⟨#[]⟩ : ByteArray))) (fun _ hk => hk.2) (.string ji21)) (fun _ hk => hk.2) (.bool false)) (fun _ hk => hk.2) (.string (⟨#[]⟩ : ByteArray))) (fun _ hk => hk.2) (.bool true)) (fun _ hk => hk.2) (.string ji28)) (fun _ hk => hk.1.2)⟩, ⟨by (with_reducible repeat (first | refine blk_drewN ?_ _ | refine blk_drew ?_ | refine blk_alloc ?_ _)); refine blk_put (cs := #[.bool true, .string (⟨#[]⟩ : ByteArray), .string ji21, .bool false, .string (⟨#[]⟩ : ByteArray)]) ?_ 1 _ rfl; (with_reducible repeat (first | refine blk_drewN ?_ _ | refine blk_drew ?_ | refine blk_alloc ?_ _)); refine blk_put (cs := #[.bool false, .string (⟨#[]⟩ : ByteArray), .string ji21, .bool false, .string (⟨#[]⟩ : ByteArray)]) ?_ 0 _ rfl; (with_reducible repeat (first | refine blk_drewN ?_ _ | refine blk_drew ?_ | refine blk_alloc ?_ _)); refine blk_put (cs := #[.bool false, .string (⟨#[]⟩ : ByteArray), .string ji21, .bool false, .string (⟨#[]⟩ : ByteArray)]) ?_ 4 _ rfl; (with_reducible repeat (first | refine blk_drewN ?_ _ | refine blk_drew ?_ | refine blk_alloc ?_ _)); refine blk_put (cs := #[.bool false, .string (⟨#[]⟩ : ByteArray), .string ji21, .bool false, .string (⟨#[]⟩ : ByteArray)]) ?_ 3 _ rfl; (with_reducible repeat (first | refine blk_drewN ?_ _ | refine blk_drew ?_ | refine blk_alloc ?_ _)); refine blk_put (cs := #[.bool false, .string (⟨#[]⟩ : ByteArray), .string (⟨#[]⟩ : ByteArray), .bool false, .string (⟨#[]⟩ : ByteArray)]) ?_ 2 _ rfl; (with_reducible repeat (first | refine blk_drewN ?_ _ | refine blk_drew ?_ | refine blk_alloc ?_ _)); refine blk_put (cs := #[.bool false, .string (⟨#[]⟩ : ByteArray), .string (⟨#[]⟩ : ByteArray), .bool false, .string (⟨#[]⟩ : ByteArray)]) ?_ 1 _ rfl; (with_reducible repeat (first | refine blk_drewN ?_ _ | refine blk_drew ?_ | refine blk_alloc ?_ _)); refine blk_put (cs := #[.bool false, .string (⟨#[]⟩ : ByteArray), .string (⟨#[]⟩ : ByteArray), .bool false, .string (⟨#[]⟩ : ByteArray)]) ?_ 0 _ rfl; (with_reducible repeat (first | refine blk_drewN ?_ _ | refine blk_drew ?_ | refine blk_alloc ?_ _)); exact BK360.out⟩, ⟨xbl⟩⟩
                   ·
                    rw [if_neg c27] at H
                    exact absurd H (by simp)
                  ·
                   rw [if_neg c26] at H
                   exact absurd H (by simp)
                 ·
                  rw [if_neg c25] at H
                  have c25b0 := decide_eq_false c25
                  clear c25
                  (first | rw [c25b0] | (simp only [i64_w, i32_w]; rw [c25b0]) | skip)
                  have H' := Aside0.mk H
                  clear H
                  go_wp2
                  go_meet
                  case rel => exact ⟨_, (false), ((⟨#[]⟩ : ByteArray)), H', ⟨by have := HK1.out; have := HJ5.out; have := HK3.out; have := HJ11.out; first | omega | exact Nat.le_refl _⟩, ⟨by (with_reducible repeat (first | apply Kd.R_alloc | apply Kd.R_drewN | apply Kd.R_drew)); exact Kd.R_mono (Kd.R_far (p := ⟨gb360, 4, none⟩) (Kd.R_far (p := ⟨gb360, 3, none⟩) (Kd.R_far (p := ⟨gb360, 2, none⟩) (Kd.R_far (p := ⟨gb360, 1, none⟩) (Kd.R_far (p := ⟨gb360, 0, none⟩) (Kd.R_mono HO_5.out (fun k_ hk => (⟨hk, hk.2⟩ : _ ∧ k_ ≠ gb360))) (fun _ hk => hk.2) (.bool false)) (fun _ hk => hk.2) (.string (⟨#[]⟩ : ByteArray))) (fun _ hk => hk.2) (.string ji21)) (fun _ hk => hk.2) (.bool false)) (fun _ hk => hk.2) (.string (⟨#[]⟩ : ByteArray))) (fun _ hk => hk.1.2)⟩, ⟨by (with_reducible repeat (first | refine blk_drewN ?_ _ | refine blk_drew ?_ | refine blk_alloc ?_ _)); refine blk_put (cs := #[.bool false, .string (⟨#[]⟩ : ByteArray), .string ji21, .bool false, .string (⟨#[]⟩ : ByteArray)]) ?_ 4 _ rfl; (with_reducible repeat (first | refine blk_drewN ?_ _ | refine blk_drew ?_ | refine blk_alloc ?_ _)); refine blk_put (cs := #[.bool false, .string (⟨#[]⟩ : ByteArray), .string ji21, .bool false, .string (⟨#[]⟩ : ByteArray)]) ?_ 3 _ rfl; (with_reducible repeat (first | refine blk_drewN ?_ _ | refine blk_drew ?_ | refine blk_alloc ?_ _)); refine blk_put (cs := #[.bool false, .string (⟨#[]⟩ : ByteArray), .string (⟨#[]⟩ : ByteArray), .bool false, .string (⟨#[]⟩ : ByteArray)]) ?_ 2 _ rfl; (with_reducible repeat (first | refine blk_drewN ?_ _ | refine blk_drew ?_ | refine blk_alloc ?_ _)); refine blk_put (cs := #[.bool false, .string (⟨#[]⟩ : ByteArray), .string (⟨#[]⟩ : ByteArray), .bool false, .string (⟨#[]⟩ : ByteArray)]) ?_ 1 _ rfl; (with_reducible repeat (first | refine blk_drewN ?_ _ | refine blk_drew ?_ | refine blk_alloc ?_ _)); refine blk_put (cs := #[.bool false, .string (⟨#[]⟩ : ByteArray), .string (⟨#[]⟩ : ByteArray), .bool false, .string (⟨#[]⟩ : ByteArray)]) ?_ 0 _ rfl; (with_reducible repeat (first | refine blk_drewN ?_ _ | refine blk_drew ?_ | refine blk_alloc ?_ _)); exact BK360.out⟩, ⟨xbl⟩⟩
                case rest =>
                 clear HC22
                 clear c18b0 c18b1 c19b0 c19b1 c20b0 c20b1
                 obtain ⟨kq, x361000_21, x361001_21, HA, HJ21, HO_5, BK360, HB⟩ := hcut
                 cases kq with
                 | zero => exact absurd HA.out (by simp [monikerref21_All.j4])
                 | succ kj21 =>
                  have H := HA.out
                  clear HA
                  simp only [monikerref21_All.j4] at H
                  by_cases c30 : x7_3 < (a1.size : Int)
                  ·
                   rw [if_pos c30] at H
                   have c30b0 := decide_eq_true c30
                   clear c30
                   obtain ⟨ji31, hji31⟩ : ∃ j_ : Int, (wrap64 (x7_3 + 1)) = j_ := ⟨_, rfl⟩
                   first | rw [hji31] at H | simp only [hji31] at H | skip
                   have hji31w : (IntKind.i64.wrap (x7_3 + 1)) = ji31 := (i64_w _).trans hji31
                   by_cases c32 : 0 ≤ (ji31)
                   ·
                    rw [if_pos c32] at H
                    have c32b0 := eq_true c32
                    have c32b1 := decide_eq_true c32
                    clear c32
                    by_cases c33 : (ji31) ≤ (a1.size : Int)
                    ·
                     rw [if_pos c33] at H
                     have c33b0 := eq_true c33
                     have c33b1 := decide_eq_true c33
                     clear c33
                     obtain ⟨ji34, hji34⟩ : ∃ j_ : ByteArray, (a1.extract ((ji31) : Int).toNat a1.size) = j_ := ⟨_, rfl⟩
                     try (have hji34x := hji34; simp only [Int.toNat_natCast, Int.toNat_ofNat] at hji34x)
                     first | rw [hji34] at H | simp only [hji34] at H | skip
                     replace H := Option.bind_eq_some_iff.mp H
                     obtain ⟨t361, A350, H⟩ := H
                     try dsimp only at H
                     have A35 := Aside0.mk A350
                     clear A350
                     by_cases c36 : t361 = true
                     ·
                      subst c36
                      rw [if_pos rfl] at H
                      by_cases c37 : x5_3.length < 2199023255552
                      ·
                       rw [if_pos c37] at H
                       have LMc37 := Aside0.mk c37
                       clear c37
                       obtain ⟨y362, hy362⟩ : ∃ y_ : List (S24), y_ = (x5_3 ++ [(⟨x361000_21, x361001_21, ji21, true, ji34⟩ : S24)]) := ⟨_, rfl⟩
                       replace H : (monikerref21_All.l1 kj21 a0 a1 y362 x6_1 ji31) = some r := by first | (rw [hy362]; with_reducible exact H) | (have H2_ := (Option.bind_some _ _).symm.trans H; rw [hy362]; with_reducible exact H2_) | (have H2_ := (Option.bind_some _ _).symm.trans H; with_reducible exact H2_) | with_reducible exact H | (rw [hy362]; exact H) | exact H
                       have Ny362 := Aside0.mk hy362
                       clear hy362
                       have H' := Aside0.mk H
                       clear H
                       obtain ⟨hcz38_0, hcz38_1, hcz38_2, hcz38_3, hcz38_4⟩ := xc5 BK360
                       have hfz38_0 := xf BK360 0
                       have hfz38_1 := xf BK360 1
                       have hfz38_2 := xf BK360 2
                       have hfz38_3 := xf BK360 3
                       have hfz38_4 := xf BK360 4
                       go_wp2_with (first | ((with_reducible refine gate_callee (f := 8) rfl ?_); refine goesL_ (some 67) rfl rfl Tryd.func8 (by kernel_rfl) rfl #[.bool a0, .agg #[.bool x361000_21, .string x361001_21, .string ji21, .bool true, .string ji34]] rfl (by (try simp only [List.map_toArray, List.map_cons, List.map_nil]); first | done | (simp only [hji21, hji34]; rfl) | rfl | (simp only [List.length_drop, List.length_take]; rfl)) ?_; (with_reducible refine (monikerref21_Right.calls kj21 a0 x361000_21 x361001_21 ji21 true ji34 true _ A35.out).mono ?_); rintro e w39 ⟨rfl, hb⟩; refine ⟨_, rfl, ?_⟩; replace HO_5 := Aside0.mk (Kd.R_below (by (with_reducible repeat (first | apply Kd.R_alloc | apply Kd.R_drewN | apply Kd.R_drew)); exact (Kd.R_mono (Kd.R_far (p := ⟨gb360, 4, none⟩) (Kd.R_far (p := ⟨gb360, 3, none⟩) (Kd.R_mono HO_5.out (fun k_ hk => (⟨hk, hk⟩ : _ ∧ k_ ≠ gb360))) (fun _ hk => hk.2) (.bool true)) (fun _ hk => hk.2) (.string ji34)) (fun _ h_ => h_.1))) hb); replace BK360 := xbb (g := gb360) (o := .cells #[.bool x361000_21, .string x361001_21, .string ji21, .bool true, .string ji34] 24 (0, 0)) hb; replace HB := xst hb; (try clear hb); obtain ⟨hcz40_0, hcz40_1, hcz40_2, hcz40_3, hcz40_4⟩ := xc5 BK360; have hfz40_0 := xf BK360 0; have hfz40_1 := xf BK360 1; have hfz40_2 := xf BK360 2; have hfz40_3 := xf BK360 3; have hfz40_4 := xf BK360 4) | ((with_reducible refine gate_builtin (b := .append) (xs := #[.tmp 68, .tmp 70]) rfl ?_); at_builtin; refine Kd.R_append k24 (w0 := w) w.heap.size rfl (.tmp 68) (.tmp 70) 27 24 (.agg #[(.bool false), (.string ⟨#[]⟩), (.string ⟨#[]⟩), (.bool false), (.string ⟨#[]⟩)]) 64 rfl Tryd.underlying27 info24 rfl (by decide) (by omega) u5 x5_3 (⟨x361000_21, x361001_21, ji21, true, ji34⟩ : S24) [.bool x361000_21, .string x361001_21, .string ji21, .bool true, .string ji34] (fun k_ => k_ ≠ gb360) (fun _ => False) rfl rfl ?aP (fun _ hk => hk.elim) ?aF ?aO ?aB ?aS ?aL ?_; (case aP => exact k24_mkM _ _ _ (⟨x361000_21, x361001_21, ji21, true, ji34⟩ : S24)); (case aB => exact xbl); (case aF => exact (fun k_ hk => Kd.freshB (g := gb360) (o := .cells #[.bool x361000_21, .string x361001_21, .string ji21, .bool true, .string ji34] 24 (0, 0)) xbk k_ hk)); (case aO => exact (xkd HO_5)); (case aS => exact (below_size xbl)); (case aL => have := LMc37.out; omega); intro v363 w41 ho hb hg hat; rw [← Ny362.out] at ho; have n0_ := Aside0.mk (blk_grown (g := gb360) (o := .cells #[.bool x361000_21, .string x361001_21, .string ji21, .bool true, .string ji34] 24 (0, 0)) xbk hg (Kd.R_away HO_5.out (fun _ hk => hk))); have n1_ := Aside0.mk (hb); have n2_ := Aside0.mk (ho); clear BK360; clear HB; clear HO_5; have BK360 := n0_; have HB := n1_; have HO364 := n2_; clear n0_ n1_ n2_; clear ho hb hg hat))
                       first | go_roundg kj21 | (simp only [← hji17, ← hji21, ← hji31, ← hji34]; go_roundg kj21)
                       case measure => have := HK1.out; have := HJ5.out; have := HK3.out; have := HJ11.out; have := HJ21.out; omega
                       case rel => exact ⟨(y362), (ji31), (by first | rfl | (simp; done) | (simp only [← hji31] <;> (first | rfl | simp)) | (simp [*]; done) | (simp [wrap64]; done)), H', ⟨by have := HK1.out; have := HJ5.out; have := HK3.out; have := HJ11.out; have := HJ21.out; omega⟩, ⟨by (with_reducible repeat (first | apply Kd.R_alloc | apply Kd.R_drewN | apply Kd.R_drew)); exact Kd.R_mono HO364.out (fun _ hk => trivial)⟩, ⟨xbl⟩⟩
                      ·
                       rw [if_neg c37] at H
                       exact absurd H (by simp)
                     ·
                      replace c36 := Bool.eq_false_iff.mpr c36
                      subst c36
                      rw [if_neg (show ¬ (false = true) by decide)] at H
                      have H' := Aside0.mk H
                      clear H
                      obtain ⟨hcz42_0, hcz42_1, hcz42_2, hcz42_3, hcz42_4⟩ := xc5 BK360
                      have hfz42_0 := xf BK360 0
                      have hfz42_1 := xf BK360 1
                      have hfz42_2 := xf BK360 2
                      have hfz42_3 := xf BK360 3
                      have hfz42_4 := xf BK360 4
                      go_wp2_with (first | ((with_reducible refine gate_callee (f := 8) rfl ?_); refine goesL_ (some 67) rfl rfl Tryd.func8 (by kernel_rfl) rfl #[.bool a0, .agg #[.bool x361000_21, .string x361001_21, .string ji21, .bool true, .string ji34]] rfl (by (try simp only [List.map_toArray, List.map_cons, List.map_nil]); first | done | (simp only [hji21, hji34]; rfl) | rfl | (simp only [List.length_drop, List.length_take]; rfl)) ?_; (with_reducible refine (monikerref21_Right.calls kj21 a0 x361000_21 x361001_21 ji21 true ji34 false _ A35.out).mono ?_); rintro e w43 ⟨rfl, hb⟩; refine ⟨_, rfl, ?_⟩; replace HO_5 := Aside0.mk (Kd.R_below (by (with_reducible repeat (first | apply Kd.R_alloc | apply Kd.R_drewN | apply Kd.R_drew)); exact (Kd.R_mono (Kd.R_far (p := ⟨gb360, 4, none⟩) (Kd.R_far (p := ⟨gb360, 3, none⟩) (Kd.R_mono HO_5.out (fun k_ hk => (⟨hk, hk⟩ : _ ∧ k_ ≠ gb360))) (fun _ hk => hk.2) (.bool true)) (fun _ hk => hk.2) (.string ji34)) (fun _ h_ => h_.1))) hb); replace BK360 := xbb (g := gb360) (o := .cells #[.bool x361000_21, .string x361001_21, .string ji21, .bool true, .string ji34] 24 (0, 0)) hb; replace HB := xst hb; (try clear hb)))
                      first | go_roundg kj21 | (simp only [← hji17, ← hji21, ← hji31, ← hji34]; go_roundg kj21)
                      case measure => have := HK1.out; have := HJ5.out; have := HK3.out; have := HJ11.out; have := HJ21.out; omega
                      case rel => exact ⟨(x5_3), (ji31), (by first | rfl | (simp; done) | (simp only [← hji31] <;> (first | rfl | simp)) | (simp [*]; done) | (simp [wrap64]; done)), H', ⟨by have := HK1.out; have := HJ5.out; have := HK3.out; have := HJ11.out; have := HJ21.out; omega⟩, ⟨by (with_reducible repeat (first | apply Kd.R_alloc | apply Kd.R_drewN | apply Kd.R_drew)); exact Kd.R_mono HO_5.out (fun _ hk => trivial)⟩, ⟨xbl⟩⟩
                    ·
                     rw [if_neg c33] at H
                     exact absurd H (by simp)
                   ·
                    rw [if_neg c32] at H
                    exact absurd H (by simp)
                  ·
                   rw [if_neg c30] at H
                   have c30b0 := decide_eq_false c30
                   clear c30
                   replace H := Option.bind_eq_some_iff.mp H
                   obtain ⟨t365, A440, H⟩ := H
                   try dsimp only at H
                   have A44 := Aside0.mk A440
                   clear A440
                   by_cases c45 : t365 = true
                   ·
                    subst c45
                    rw [if_pos rfl] at H
                    by_cases c46 : x5_3.length < 2199023255552
                    ·
                     rw [if_pos c46] at H
                     have LMc46 := Aside0.mk c46
                     clear c46
                     obtain ⟨y366, hy366⟩ : ∃ y_ : List (S24), y_ = (x5_3 ++ [(⟨x361000_21, x361001_21, ji21, false, (⟨#[]⟩ : ByteArray)⟩ : S24)]) := ⟨_, rfl⟩
                     replace H : (monikerref21_All.l1 kj21 a0 a1 y366 x6_1 (wrap64 (x7_3 + 1))) = some r := by first | (rw [hy366]; with_reducible exact H) | (have H2_ := (Option.bind_some _ _).symm.trans H; rw [hy366]; with_reducible exact H2_) | (have H2_ := (Option.bind_some _ _).symm.trans H; with_reducible exact H2_) | with_reducible exact H | (rw [hy366]; exact H) | exact H
                     have Ny366 := Aside0.mk hy366
                     clear hy366
                     have H' := Aside0.mk H
                     clear H
                     obtain ⟨hcz47_0, hcz47_1, hcz47_2, hcz47_3, hcz47_4⟩ := xc5 BK360
                     have hfz47_0 := xf BK360 0
                     have hfz47_1 := xf BK360 1
                     have hfz47_2 := xf BK360 2
                     have hfz47_3 := xf BK360 3
                     have hfz47_4 := xf BK360 4
                     go_wp2_with (first | ((with_reducible refine gate_callee (f := 8) rfl ?_); refine goesL_ (some 67) rfl rfl Tryd.func8 (by kernel_rfl) rfl #[.bool a0, .agg #[.bool x361000_21, .string x361001_21, .string ji21, .bool false, .string (⟨#[]⟩ : ByteArray)]] rfl (by (try simp only [List.map_toArray, List.map_cons, List.map_nil]); first | done | (simp only [hji21]; rfl) | rfl | (simp only [List.length_drop, List.length_take]; rfl)) ?_; (with_reducible refine (monikerref21_Right.calls kj21 a0 x361000_21 x361001_21 ji21 false (⟨#[]⟩ : ByteArray) true _ A44.out).mono ?_); rintro e w48 ⟨rfl, hb⟩; refine ⟨_, rfl, ?_⟩; replace HO_5 := Aside0.mk (Kd.R_below (xkd HO_5) hb); replace BK360 := xbb (g := gb360) (o := .cells #[.bool x361000_21, .string x361001_21, .string ji21, .bool false, .string (⟨#[]⟩ : ByteArray)] 24 (0, 0)) hb; replace HB := xst hb; (try clear hb); obtain ⟨hcz49_0, hcz49_1, hcz49_2, hcz49_3, hcz49_4⟩ := xc5 BK360; have hfz49_0 := xf BK360 0; have hfz49_1 := xf BK360 1; have hfz49_2 := xf BK360 2; have hfz49_3 := xf BK360 3; have hfz49_4 := xf BK360 4) | ((with_reducible refine gate_builtin (b := .append) (xs := #[.tmp 68, .tmp 70]) rfl ?_); at_builtin; refine Kd.R_append k24 (w0 := w) w.heap.size rfl (.tmp 68) (.tmp 70) 27 24 (.agg #[(.bool false), (.string ⟨#[]⟩), (.string ⟨#[]⟩), (.bool false), (.string ⟨#[]⟩)]) 64 rfl Tryd.underlying27 info24 rfl (by decide) (by omega) u5 x5_3 (⟨x361000_21, x361001_21, ji21, false, (⟨#[]⟩ : ByteArray)⟩ : S24) [.bool x361000_21, .string x361001_21, .string ji21, .bool false, .string (⟨#[]⟩ : ByteArray)] (fun k_ => k_ ≠ gb360) (fun _ => False) rfl rfl ?aP (fun _ hk => hk.elim) ?aF ?aO ?aB ?aS ?aL ?_; (case aP => exact k24_mkM _ _ _ (⟨x361000_21, x361001_21, ji21, false, (⟨#[]⟩ : ByteArray)⟩ : S24)); (case aB => exact xbl); (case aF => exact (fun k_ hk => Kd.freshB (g := gb360) (o := .cells #[.bool x361000_21, .string x361001_21, .string ji21, .bool false, .string (⟨#[]⟩ : ByteArray)] 24 (0, 0)) xbk k_ hk)); (case aO => exact (xkd HO_5)); (case aS => exact (below_size xbl)); (case aL => have := LMc46.out; omega); intro v367 w50 ho hb hg hat; rw [← Ny366.out] at ho; have n0_ := Aside0.mk (blk_grown (g := gb360) (o := .cells #[.bool x361000_21, .string x361001_21, .string ji21, .bool false, .string (⟨#[]⟩ : ByteArray)] 24 (0, 0)) xbk hg (Kd.R_away HO_5.out (fun _ hk => hk))); have n1_ := Aside0.mk (hb); have n2_ := Aside0.mk (ho); clear BK360; clear HB; clear HO_5; have BK360 := n0_; have HB := n1_; have HO368 := n2_; clear n0_ n1_ n2_; clear ho hb hg hat))
                     first | go_roundg kj21 | (simp only [← hji17, ← hji21]; go_roundg kj21)
                     case measure => have := HK1.out; have := HJ5.out; have := HK3.out; have := HJ11.out; have := HJ21.out; omega
                     case rel => exact ⟨(y366), (wrap64 (x7_3 + 1)), xrr, H', ⟨by have := HK1.out; have := HJ5.out; have := HK3.out; have := HJ11.out; have := HJ21.out; omega⟩, ⟨by (with_reducible repeat (first | apply Kd.R_alloc | apply Kd.R_drewN | apply Kd.R_drew)); exact Kd.R_mono HO368.out (fun _ hk => trivial)⟩, ⟨xbl⟩⟩
                    ·
                     rw [if_neg c46] at H
                     exact absurd H (by simp)
                   ·
                    replace c45 := Bool.eq_false_iff.mpr c45
                    subst c45
                    rw [if_neg (show ¬ (false = true) by decide)] at H
                    have H' := Aside0.mk H
                    clear H
                    obtain ⟨hcz51_0, hcz51_1, hcz51_2, hcz51_3, hcz51_4⟩ := xc5 BK360
                    have hfz51_0 := xf BK360 0
                    have hfz51_1 := xf BK360 1
                    have hfz51_2 := xf BK360 2
                    have hfz51_3 := xf BK360 3
                    have hfz51_4 := xf BK360 4
                    go_wp2_with (first | ((with_reducible refine gate_callee (f := 8) rfl ?_); refine goesL_ (some 67) rfl rfl Tryd.func8 (by kernel_rfl) rfl #[.bool a0, .agg #[.bool x361000_21, .string x361001_21, .string ji21, .bool false, .string (⟨#[]⟩ : ByteArray)]] rfl (by (try simp only [List.map_toArray, List.map_cons, List.map_nil]); first | done | (simp only [hji21]; rfl) | rfl | (simp only [List.length_drop, List.length_take]; rfl)) ?_; (with_reducible refine (monikerref21_Right.calls kj21 a0 x361000_21 x361001_21 ji21 false (⟨#[]⟩ : ByteArray) false _ A44.out).mono ?_); rintro e w52 ⟨rfl, hb⟩; refine ⟨_, rfl, ?_⟩; replace HO_5 := Aside0.mk (Kd.R_below (xkd HO_5) hb); replace BK360 := xbb (g := gb360) (o := .cells #[.bool x361000_21, .string x361001_21, .string ji21, .bool false, .string (⟨#[]⟩ : ByteArray)] 24 (0, 0)) hb; replace HB := xst hb; (try clear hb)))
                    first | go_roundg kj21 | (simp only [← hji17, ← hji21]; go_roundg kj21)
                    case measure => have := HK1.out; have := HJ5.out; have := HK3.out; have := HJ11.out; have := HJ21.out; omega
                    case rel => exact ⟨(x5_3), (wrap64 (x7_3 + 1)), xrr, H', ⟨by have := HK1.out; have := HJ5.out; have := HK3.out; have := HJ11.out; have := HJ21.out; omega⟩, ⟨by (with_reducible repeat (first | apply Kd.R_alloc | apply Kd.R_drewN | apply Kd.R_drew)); exact Kd.R_mono HO_5.out (fun _ hk => trivial)⟩, ⟨xbl⟩⟩
               ·
                rw [if_neg c20] at H
                exact absurd H (by simp)
              ·
               rw [if_neg c19] at H
               exact absurd H (by simp)
             ·
              rw [if_neg c18] at H
              exact absurd H (by simp)
         ·
          rw [if_neg c11] at H
          have c11b0 := decide_eq_false c11
          clear c11
          have H' := Aside0.mk H
          clear H
          go_wp2
          go_roundg k3
          case measure => have := HK1.out; have := HJ5.out; have := HK3.out; omega
          case rel => exact ⟨(x5_3), (wrap64 (x6_1 + 1)), xrr, H', ⟨by have := HK1.out; have := HJ5.out; have := HK3.out; omega⟩, ⟨xkd HO_5⟩, ⟨xbl⟩⟩
   ·
    rw [if_neg c5] at H
    have c5b0 := decide_eq_false c5
    clear c5
    obtain rfl := Option.some.inj H
    go_wp2
    go_ret
    exact ⟨_, by first | rfl | (simp [errW_none, errW_some] <;> first | rfl | (simp only [xp_isEmpty, bne, Bool.not_not]; done)) | (simp [*, errW_none, errW_some] <;> rfl), by (with_reducible repeat (first | apply Kd.R_alloc | apply Kd.R_drewN | apply Kd.R_drew)); exact HO_5.out, xbl⟩
end Go.Proofs.YtdmigmccfdhdiaaDoor.X
