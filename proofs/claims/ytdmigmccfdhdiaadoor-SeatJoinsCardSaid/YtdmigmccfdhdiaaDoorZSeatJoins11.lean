/- Texts that the law's proof needs, joined by a program of this session. -/
import Derived.Test.YtdmigmccfdhdiaaDoorZSeatJoins0
import Derived.Test.YtdmigmccfdhdiaaDoorZSeatJoins1
import Derived.Test.YtdmigmccfdhdiaaDoorZSeatJoins2
import Derived.Test.YtdmigmccfdhdiaaDoorZSeatJoins3
import Derived.Test.YtdmigmccfdhdiaaDoorZSeatJoins4
import Derived.Test.YtdmigmccfdhdiaaDoorZSeatJoins5
import Derived.Test.YtdmigmccfdhdiaaDoorZSeatJoins6
import Derived.Test.YtdmigmccfdhdiaaDoorZSeatJoins7
import Derived.Test.YtdmigmccfdhdiaaDoorZSeatJoins8
import Derived.Test.YtdmigmccfdhdiaaDoorZSeatJoins10
import Derived.Lib.Bytealg
import Derived.Laws.Strings
import Derived.Lib.Split
import Derived.Lib.SplitLaws
namespace Go.Proofs.YtdmigmccfdhdiaaDoor.X
open Go.RowKit Go.Proofs.YtdmigmccfdhdiaaDoorW.PrintWords Go.Proofs.YtdmigmccfdhdiaaDoorW.PrintLast Go.Proofs.YtdmigmccfdhdiaaDoorW.PrintMore
attribute [local go_sem] max2_int min2_int max_two min_two max_three min_three max_four min_four
set_option linter.unusedVariables false
set_option linter.unusedSimpArgs false
attribute [local go_sem high] eqA24
mutual
def monikerlaw21_SeatJoins.j0 : Nat → Bool → Bool → ByteArray → ByteArray → Bool → ByteArray → Option (Bool)
  | 0, _, _, _, _, _, _ => none
  | k + 1, x0, x386000, x386001, x386002, x386003, x386004 => if x386003 = true then (monikerlaw21_SeatJoins.j1 k x0 x386000 x386001 x386002 x386003 x386004) else (monikerlaw21_SeatJoins.j1 k x0 x386000 x386001 x386002 x386003 (⟨#[]⟩ : ByteArray))
def monikerlaw21_SeatJoins.j1 : Nat → Bool → Bool → ByteArray → ByteArray → Bool → ByteArray → Option (Bool)
  | 0, _, _, _, _, _, _ => none
  | k + 1, x0, x386000, x386001, x386002, x386003, x386004 => (monikerref21_Right.f k x0 x386000 x386001 x386002 x386003 x386004).bind fun t387 => ((seat_Right.f k x0 x386000 x386001 x386002 x386003 x386004).bind fun t388 => (if (t388 != t387) = true then (monikerlaw21_SeatJoins.j2 k x0 t387 true x386000 x386001 x386002 x386003 x386004) else ((seat_Join.f x386000 x386001 x386002 x386003 x386004).bind fun t389 => ((monikerref21_Join.f x386000 x386001 x386002 x386003 x386004).bind fun t390 => (monikerlaw21_SeatJoins.j2 k x0 t387 (t389.toList != t390.toList) x386000 x386001 x386002 x386003 x386004)))))
def monikerlaw21_SeatJoins.j2 : Nat → Bool → Bool → Bool → Bool → ByteArray → ByteArray → Bool → ByteArray → Option (Bool)
  | 0, _, _, _, _, _, _, _, _ => none
  | k + 1, x0, x5, x43, x386000, x386001, x386002, x386003, x386004 => if x43 = true then (some false) else (if x5 = true then ((seat_Join.f x386000 x386001 x386002 x386003 x386004).bind fun t391 => ((seat_Parse.f k x0 t391).bind fun bt392 => (if bt392.2.2.2.2.2 = true then (if (bt392.1 == x386000 && (bt392.2.1.toList == x386001.toList && (bt392.2.2.1.toList == x386002.toList && (bt392.2.2.2.1 == x386003 && (bt392.2.2.2.2.1.toList == x386004.toList))))) = true then ((monikerlaw21_awake.f k).bind fun t399 => (some t399)) else (some false)) else (some false)))) else ((monikerlaw21_awake.f k).bind fun t400 => (some t400)))
end
def monikerlaw21_SeatJoins.f (k : Nat) (a0 : Bool) (a1_0 : Bool) (a1_1 : ByteArray) (a1_2 : ByteArray) (a1_3 : Bool) (a1_4 : ByteArray) : Option (Bool) := if (wrap64 ((wrap64 ((a1_1.size : Int) + (a1_2.size : Int))) + (a1_4.size : Int))) > 100 then ((monikerlaw21_awake.f k).bind fun t386 => (some t386)) else (if a1_0 = true then (monikerlaw21_SeatJoins.j0 k a0 a1_0 a1_1 a1_2 a1_3 a1_4) else (monikerlaw21_SeatJoins.j0 k a0 a1_0 (⟨#[]⟩ : ByteArray) a1_2 a1_3 a1_4))
theorem monikerlaw21_SeatJoins.mono_l : ∀ k, (∀ y0 y1 y2 y3 y4 y5, LeO (monikerlaw21_SeatJoins.j0 k y0 y1 y2 y3 y4 y5) (monikerlaw21_SeatJoins.j0 (k + 1) y0 y1 y2 y3 y4 y5)) ∧ (∀ y0 y1 y2 y3 y4 y5, LeO (monikerlaw21_SeatJoins.j1 k y0 y1 y2 y3 y4 y5) (monikerlaw21_SeatJoins.j1 (k + 1) y0 y1 y2 y3 y4 y5)) ∧ (∀ y0 y1 y2 y3 y4 y5 y6 y7, LeO (monikerlaw21_SeatJoins.j2 k y0 y1 y2 y3 y4 y5 y6 y7) (monikerlaw21_SeatJoins.j2 (k + 1) y0 y1 y2 y3 y4 y5 y6 y7))
  | 0 => ⟨fun _ _ _ _ _ _ r h => by simp [monikerlaw21_SeatJoins.j0] at h, fun _ _ _ _ _ _ r h => by simp [monikerlaw21_SeatJoins.j1] at h, fun _ _ _ _ _ _ _ _ r h => by simp [monikerlaw21_SeatJoins.j2] at h⟩
  | k + 1 => by
    obtain ⟨ih0, ih1, ih2⟩ := monikerlaw21_SeatJoins.mono_l k
    have m0 := @monikerlaw21_awake.mono; have m1 := @monikerref21_Right.mono; have m2 := @seat_Parse.mono; have m3 := @seat_Right.mono
    refine ⟨?_, ?_, ?_⟩
    · intro y0 y1 y2 y3 y4 y5
      unfold monikerlaw21_SeatJoins.j0
      exact xmo
    · intro y0 y1 y2 y3 y4 y5
      unfold monikerlaw21_SeatJoins.j1
      exact xmo
    · intro y0 y1 y2 y3 y4 y5 y6 y7
      unfold monikerlaw21_SeatJoins.j2
      exact xmo
theorem monikerlaw21_SeatJoins.mono : ∀ a0 a1 a2 a3 a4 a5 k, LeO (monikerlaw21_SeatJoins.f k a0 a1 a2 a3 a4 a5) (monikerlaw21_SeatJoins.f (k + 1) a0 a1 a2 a3 a4 a5) := by
  intro a0 a1 a2 a3 a4 a5 k
  obtain ⟨ih0, ih1, ih2⟩ := monikerlaw21_SeatJoins.mono_l k
  have m0 := @monikerlaw21_awake.mono; have m1 := @monikerref21_Right.mono; have m2 := @seat_Parse.mono; have m3 := @seat_Right.mono
  unfold monikerlaw21_SeatJoins.f
  exact xmo
def monikerlaw21_SeatJoins.T8 : Bool × List (List Nat × List Nat) := (true, [([], []), ([], []), ([0, 1], [0, 1]), ([], []), ([2, 3], [2, 3]), ([4, 2], [4]), ([5], [5]), ([6, 5, 5], [5, 6]), ([5], [5]), ([8, 7, 5], [5, 8]), ([7, 9, 5], [5, 7, 9]), ([5, 10], [5, 10])])
def monikerlaw21_SeatJoins.B8 : List Nat := [0, 0, 3, 0, 15, 31, 63, 127, 63, 511, 1023, 2047]
theorem monikerlaw21_SeatJoins.tab8 : rtab .any (opsOf Tryd.f4 8) = monikerlaw21_SeatJoins.T8 := by kernel_rfl
theorem monikerlaw21_SeatJoins.bits8 : waitsOk monikerlaw21_SeatJoins.T8.2 monikerlaw21_SeatJoins.B8 = true := by kernel_rfl
set_option maxHeartbeats 8000000 in
set_option maxRecDepth 100000 in
theorem monikerlaw21_SeatJoins.calls (k : Nat) (a0 : Bool) (a1_0 : Bool) (a1_1 : ByteArray) (a1_2 : ByteArray) (a1_3 : Bool) (a1_4 : ByteArray) (r : Bool) (w : World) (hG : GW w) (h : monikerlaw21_SeatJoins.f k a0 a1_0 a1_1 a1_2 a1_3 a1_4 = some r) :
    Calls Tryd.prog 4 #[.bool a0, .agg #[.bool a1_0, .string a1_1, .string a1_2, .bool a1_3, .string a1_4]] w fun e w' => e = .returned (.bool r) ∧ Below w.heap.size w w' := by
 have hu24 := Tryd.underlying24
 have HB := Aside0.mk (Below.refl w.heap.size w)
 have H : (if (wrap64 ((wrap64 ((a1_1.size : Int) + (a1_2.size : Int))) + (a1_4.size : Int))) > 100 then ((monikerlaw21_awake.f k).bind fun t386 => (some t386)) else (if a1_0 = true then (monikerlaw21_SeatJoins.j0 k a0 a1_0 a1_1 a1_2 a1_3 a1_4) else (monikerlaw21_SeatJoins.j0 k a0 a1_0 (⟨#[]⟩ : ByteArray) a1_2 a1_3 a1_4))) = some r := h
 clear h
 by_cases c3 : (wrap64 ((wrap64 ((a1_1.size : Int) + (a1_2.size : Int))) + (a1_4.size : Int))) > 100
 ·
  rw [if_pos c3] at H
  have c3b0 := decide_eq_true c3
  clear c3
  replace H := Option.bind_eq_some_iff.mp H
  obtain ⟨t386, A40, H⟩ := H
  try dsimp only at H
  have A4 := Aside0.mk A40
  clear A40
  obtain rfl := Option.some.inj H
  go_enter Tryd.func4, Tryd.ntmps4
  go_wp2_with (first | ((with_reducible refine gate_dst (N := 3) rfl ?_); refine xev 3 #[.bool a1_0, .string a1_1, .string a1_2, .bool a1_3, .string a1_4] 24 ?_; intro gb385 hg w5 hbox hb; have BK385 := Aside0.mk (hbox); have GW385 := xsz hg; have GE385 := GW385; replace HB := xst hb; clear hb hbox hg; obtain ⟨hcz6_0, hcz6_1, hcz6_2, hcz6_3, hcz6_4⟩ := xc5 BK385; have hfz6_0 := xf BK385 0; have hfz6_1 := xf BK385 1; have hfz6_2 := xf BK385 2; have hfz6_3 := xf BK385 3; have hfz6_4 := xf BK385 4) | ((with_reducible refine gate_callee (f := 5) rfl ?_); refine xgl 20 Tryd.func5 #[] ?_; (with_reducible refine (monikerlaw21_awake.calls k  t386 _ A4.out).mono ?_); rintro e w7 ⟨rfl, hb⟩; refine ⟨_, rfl, ?_⟩; replace BK385 := xbb (g := gb385) (o := .cells #[.bool a1_0, .string a1_1, .string a1_2, .bool a1_3, .string a1_4] 24 (0, 0)) hb; replace HB := xst hb; (try clear hb)))
  go_ret
  exact ⟨xre, xbl⟩
 ·
  rw [if_neg c3] at H
  have c3b0 := decide_eq_false c3
  clear c3
  have HC8 := Aside0.mk H
  clear H
  go_enter Tryd.func4, Tryd.ntmps4
  go_upto_if 23 with (first | ((with_reducible refine gate_dst (N := 3) rfl ?_); refine xev 3 #[.bool a1_0, .string a1_1, .string a1_2, .bool a1_3, .string a1_4] 24 ?_; intro gb385 hg w9 hbox hb; have BK385 := Aside0.mk (hbox); have GW385 := xsz hg; have GE385 := GW385; replace HB := xst hb; clear hb hbox hg; obtain ⟨hcz10_0, hcz10_1, hcz10_2, hcz10_3, hcz10_4⟩ := xc5 BK385; have hfz10_0 := xf BK385 0; have hfz10_1 := xf BK385 1; have hfz10_2 := xf BK385 2; have hfz10_3 := xf BK385 3; have hfz10_4 := xf BK385 4))
  (try simp only [Act.put, List.setIfInBounds_toArray, List.set_cons_zero, List.set_cons_succ])
  go_cut [] (fun wc => ∃ (kq : Nat) (x386001_7 : ByteArray), Aside0 (monikerlaw21_SeatJoins.j0 kq a0 a1_0 x386001_7 a1_2 a1_3 a1_4 = some r) ∧ Aside0 (kq ≤ k) ∧ Aside0 (wc.heap[gb385]? = some (.cells #[.bool a1_0, .string x386001_7, .string a1_2, .bool a1_3, .string a1_4] 24 (0, 0))) ∧ Aside0 (Below w.heap.size w wc))
  case first =>
   have H := HC8.out
   clear HC8
   by_cases c11 : a1_0 = true
   ·
    subst c11
    rw [if_pos rfl] at H
    have H' := Aside0.mk H
    clear H
    go_wp2
    go_meet
    case rel => exact ⟨_, (a1_1), H', ⟨xom⟩, ⟨xbk⟩, ⟨xbl⟩⟩
   ·
    replace c11 := Bool.eq_false_iff.mpr c11
    subst c11
    rw [if_neg (show ¬ (false = true) by decide)] at H
    have H' := Aside0.mk H
    clear H
    obtain ⟨hcz12_0, hcz12_1, hcz12_2, hcz12_3, hcz12_4⟩ := xc5 BK385
    have hfz12_0 := xf BK385 0
    have hfz12_1 := xf BK385 1
    have hfz12_2 := xf BK385 2
    have hfz12_3 := xf BK385 3
    have hfz12_4 := xf BK385 4
    go_wp2
    go_meet
    case rel => exact ⟨_, ((⟨#[]⟩ : ByteArray)), H', ⟨xom⟩, ⟨by (with_reducible repeat (first | refine blk_drewN ?_ _ | refine blk_drew ?_ | refine blk_alloc ?_ _)); refine blk_put (cs := #[.bool false, .string a1_1, .string a1_2, .bool a1_3, .string a1_4]) ?_ 1 _ rfl; (with_reducible repeat (first | refine blk_drewN ?_ _ | refine blk_drew ?_ | refine blk_alloc ?_ _)); exact BK385.out⟩, ⟨xbl⟩⟩
  case rest =>
   clear HC8
   clear c3b0
   obtain ⟨kq, x386001_7, HA, HJ7, BK385, HB⟩ := hcut
   cases kq with
   | zero => exact absurd HA.out (by simp [monikerlaw21_SeatJoins.j0])
   | succ kj7 =>
    have H := HA.out
    clear HA
    simp only [monikerlaw21_SeatJoins.j0] at H
    have HC13 := Aside0.mk H
    clear H
    obtain ⟨hcz14_0, hcz14_1, hcz14_2, hcz14_3, hcz14_4⟩ := xc5 BK385
    have hfz14_0 := xf BK385 0
    have hfz14_1 := xf BK385 1
    have hfz14_2 := xf BK385 2
    have hfz14_3 := xf BK385 3
    have hfz14_4 := xf BK385 4
    go_upto_if 27 with (fail)
    go_cut [] (fun wc => ∃ (kq : Nat) (x386004_12 : ByteArray), Aside0 (monikerlaw21_SeatJoins.j1 kq a0 a1_0 x386001_7 a1_2 a1_3 x386004_12 = some r) ∧ Aside0 (kq ≤ kj7) ∧ Aside0 (wc.heap[gb385]? = some (.cells #[.bool a1_0, .string x386001_7, .string a1_2, .bool a1_3, .string x386004_12] 24 (0, 0))) ∧ Aside0 (Below w.heap.size w wc))
    case first =>
     have H := HC13.out
     clear HC13
     by_cases c15 : a1_3 = true
     ·
      subst c15
      rw [if_pos rfl] at H
      have H' := Aside0.mk H
      clear H
      go_wp2
      go_meet
      case rel => exact ⟨_, (a1_4), H', ⟨by have := HJ7.out; first | omega | exact Nat.le_refl _⟩, ⟨xbk⟩, ⟨xbl⟩⟩
     ·
      replace c15 := Bool.eq_false_iff.mpr c15
      subst c15
      rw [if_neg (show ¬ (false = true) by decide)] at H
      have H' := Aside0.mk H
      clear H
      obtain ⟨hcz16_0, hcz16_1, hcz16_2, hcz16_3, hcz16_4⟩ := xc5 BK385
      have hfz16_0 := xf BK385 0
      have hfz16_1 := xf BK385 1
      have hfz16_2 := xf BK385 2
      have hfz16_3 := xf BK385 3
      have hfz16_4 := xf BK385 4
      go_wp2
      go_meet
      case rel => exact ⟨_, ((⟨#[]⟩ : ByteArray)), H', ⟨by have := HJ7.out; first | omega | exact Nat.le_refl _⟩, ⟨by (with_reducible repeat (first | refine blk_drewN ?_ _ | refine blk_drew ?_ | refine blk_alloc ?_ _)); refine blk_put (cs := #[.bool a1_0, .string x386001_7, .string a1_2, .bool false, .string a1_4]) ?_ 4 _ rfl; (with_reducible repeat (first | refine blk_drewN ?_ _ | refine blk_drew ?_ | refine blk_alloc ?_ _)); exact BK385.out⟩, ⟨xbl⟩⟩
    case rest =>
     clear HC13
     obtain ⟨kq, x386004_12, HA, HJ12, BK385, HB⟩ := hcut
     cases kq with
     | zero => exact absurd HA.out (by simp [monikerlaw21_SeatJoins.j1])
     | succ kj12 =>
      have H := HA.out
      clear HA
      simp only [monikerlaw21_SeatJoins.j1] at H
      replace H := Option.bind_eq_some_iff.mp H
      obtain ⟨t387, A170, H⟩ := H
      try dsimp only at H
      have A17 := Aside0.mk A170
      clear A170
      have HC18 := Aside0.mk H
      clear H
      obtain ⟨hcz19_0, hcz19_1, hcz19_2, hcz19_3, hcz19_4⟩ := xc5 BK385
      have hfz19_0 := xf BK385 0
      have hfz19_1 := xf BK385 1
      have hfz19_2 := xf BK385 2
      have hfz19_3 := xf BK385 3
      have hfz19_4 := xf BK385 4
      go_upto_region 8 with (first | ((with_reducible refine gate_callee (f := 8) rfl ?_); refine xgl 31 Tryd.func8 #[.bool a0, .agg #[.bool a1_0, .string x386001_7, .string a1_2, .bool a1_3, .string x386004_12]] ?_; (with_reducible refine (monikerref21_Right.calls kj12 a0 a1_0 x386001_7 a1_2 a1_3 x386004_12 t387 _ A17.out).mono ?_); rintro e w20 ⟨rfl, hb⟩; refine ⟨_, rfl, ?_⟩; replace BK385 := xbb (g := gb385) (o := .cells #[.bool a1_0, .string x386001_7, .string a1_2, .bool a1_3, .string x386004_12] 24 (0, 0)) hb; replace HB := xst hb; (try clear hb)))
      (try simp only [Act.put, List.setIfInBounds_toArray, List.set_cons_zero, List.set_cons_succ])
      go_cut [43] (fun v43 wc => ∃ (kq : Nat) (x43_17 : Bool), v43 = .bool x43_17 ∧ Aside0 (monikerlaw21_SeatJoins.j2 kq a0 t387 x43_17 a1_0 x386001_7 a1_2 a1_3 x386004_12 = some r) ∧ Aside0 (kq ≤ kj12) ∧ Aside0 (wc.heap[gb385]? = some (.cells #[.bool a1_0, .string x386001_7, .string a1_2, .bool a1_3, .string x386004_12] 24 (0, 0))) ∧ Aside0 (Below w.heap.size w wc))
      case first =>
       have H := HC18.out
       clear HC18
       replace H := Option.bind_eq_some_iff.mp H
       obtain ⟨t388, A210, H⟩ := H
       try dsimp only at H
       have A21 := Aside0.mk A210
       clear A210
       by_cases c22 : (t388 != t387) = true
       ·
        rw [if_pos c22] at H
        have c22b0 : (t388 != t387) = true := c22
        (try (have c22b1 : decide (t388 = t387) = false := by simpa using c22))
        (try (have c22b2 : (t388 == t387) = false := by simpa using c22))
        (try (have c22b3 : ¬ (t388 = t387) := by simpa using c22))
        clear c22
        (first | rw [c22b0] | (simp only [i64_w, i32_w]; rw [c22b0]) | skip)
        have H' := Aside0.mk H
        clear H
        try go_wp2
        have n0_ := Aside0.mk (blk_drew BK385.out)
        have n1_ := Aside0.mk (below_drew1 HB.out)
        clear BK385
        clear HB
        have BK385 := n0_
        have HB := n1_
        clear n0_ n1_
        refine start_ (n := 12) (S := fun w' => w'.cell? ⟨gb385, 0, none⟩ = some (.bool a1_0) ∧ w'.cell? ⟨gb385, 1, none⟩ = some (.string x386001_7) ∧ w'.cell? ⟨gb385, 2, none⟩ = some (.string a1_2) ∧ w'.cell? ⟨gb385, 3, none⟩ = some (.bool a1_3) ∧ w'.cell? ⟨gb385, 4, none⟩ = some (.string x386004_12)) (ds := []) #[false, false, false, false, false, false, false, false, false, false, false, false] (by kernel_rfl) rfl rfl ⟨(blk_cell BK385.out 0).trans rfl, (blk_cell BK385.out 1).trans rfl, (blk_cell BK385.out 2).trans rfl, (blk_cell BK385.out 3).trans rfl, (blk_cell BK385.out 4).trans rfl⟩ (fun hHeld => ?_); refine with_tabW monikerlaw21_SeatJoins.tab8 monikerlaw21_SeatJoins.bits8 (fun HT_ HW_ => ?_)
        generalize w20.drew = w23 at BK385 HB hHeld ⊢
        refine pure_ (i := 0) (N := some 32) (v := ?_) (a' := ?_) #[true, false, false, false, false, false, false, false, false, false, false, false] rfl rfl (any_of HT_.out (by kernel_rfl)) (fun _ _ _ h => h) (Or.inl ⟨by rfl, ?_⟩) ?_ ?_
        rotate_left
        ·
         intro w'
         go_simp
         with_reducible rfl
        rotate_left
        ·
         simp only [Act.put, List.setIfInBounds_toArray, List.set_cons_zero, List.set_cons_succ, i64_w, i32_w]
         rfl
        refine pure_ (i := 3) (N := some 35) (v := ?_) (a' := ?_) #[true, false, false, true, false, false, false, false, false, false, false, false] rfl rfl (any_of HT_.out (by kernel_rfl)) (fun _ _ _ h => h) (Or.inl ⟨by rfl, ?_⟩) ?_ ?_
        rotate_left
        ·
         intro w'
         go_simp
         with_reducible rfl
        rotate_left
        ·
         simp only [Act.put, List.setIfInBounds_toArray, List.set_cons_zero, List.set_cons_succ, i64_w, i32_w]
         rfl
        refine take_ (i := 1) (N := some 33) (v := ?_) (a' := ?_) #[true, true, false, true, false, false, false, false, false, false, false, false] rfl rfl (take_ofW HT_.out HW_.out (by kernel_rfl)) (fun _ _ _ h => h) (Or.inl ⟨by rfl, ?_⟩) hHeld ?_ ?_
        rotate_left
        ·
         rintro w' ⟨s0, s1, s2, s3, s4⟩
         go_simp
         with_reducible rfl
        rotate_left
        ·
         simp only [Act.put, List.setIfInBounds_toArray, List.set_cons_zero, List.set_cons_succ, i64_w, i32_w]
         rfl
        refine one_ (i := 2) (N := some 34) #[true, true, true, true, false, false, false, false, false, false, false, false] rfl rfl (one_of HT_.out (by kernel_rfl)) (by decide) (fun K hK => ?_)
        refine goes_ Tryd.func9 (by kernel_rfl) rfl #[.bool a0, .agg #[.bool a1_0, .string x386001_7, .string a1_2, .bool a1_3, .string x386004_12]] (by rfl) rfl rfl (by (try simp only [List.map_toArray, List.map_cons, List.map_nil]); first | done | rfl | (simp only [List.length_drop, List.length_take]; rfl)) ?_
        with_reducible refine (seat_Right.calls kj12 a0 a1_0 x386001_7 a1_2 a1_3 x386004_12 t388 _ ?side1 A21.out).mono ?_
        (case side1 => first | exact hG | exact GW_to hG xbl)
        rintro e w24 ⟨rfl, hb⟩
        refine ⟨_, rfl, ?_⟩
        have n0_ := xbb (g := gb385) (o := .cells #[.bool a1_0, .string x386001_7, .string a1_2, .bool a1_3, .string x386004_12] 24 (0, 0)) hb
        have n1_ := xst hb
        clear BK385
        clear HB
        have BK385 := n0_
        have HB := n1_
        clear n0_ n1_
        (try clear hb)
        (try clear hb2)
        (try clear hk)
        (try clear hi)
        refine hK.out _ _ ⟨(blk_cell BK385.out 0).trans rfl, (blk_cell BK385.out 1).trans rfl, (blk_cell BK385.out 2).trans rfl, (blk_cell BK385.out 3).trans rfl, (blk_cell BK385.out 4).trans rfl⟩ (fun hHeld => ?_)
        clear hK K
        refine norm_ (a' := ?_) ?_ ?_
        rotate_left
        ·
         show Act.put _ (some 34) _ = _
         simp only [Act.put, List.setIfInBounds_toArray, List.set_cons_zero, List.set_cons_succ, i64_w, i32_w]
         rfl
        refine pure_ (i := 4) (N := some 36) (v := ?_) (a' := ?_) #[true, true, true, true, true, false, false, false, false, false, false, false] rfl rfl (any_of HT_.out (by kernel_rfl)) (fun _ _ _ h => h) (Or.inl ⟨by rfl, ?_⟩) ?_ ?_
        rotate_left
        ·
         intro w'
         go_simp
         with_reducible rfl
        rotate_left
        ·
         simp only [Act.put, List.setIfInBounds_toArray, List.set_cons_zero, List.set_cons_succ, i64_w, i32_w]
         rfl
        refine pure_ (i := 5) (N := some 37) (v := ?_) (a' := ?_) #[true, true, true, true, true, true, false, false, false, false, false, false] rfl rfl (any_of HT_.out (by kernel_rfl)) (fun _ _ _ h => h) (Or.inl ⟨by rfl, ?_⟩) ?_ ?_
        rotate_left
        ·
         intro w'
         go_simp
         with_reducible rfl
        rotate_left
        ·
         simp only [Act.put, List.setIfInBounds_toArray, List.set_cons_zero, List.set_cons_succ, i64_w, i32_w]
         rfl
        refine pure_ (i := 6) (N := some 38) (v := undef) (a' := ?_) #[true, true, true, true, true, true, true, false, false, false, false, false] rfl rfl (any_of HT_.out (by kernel_rfl)) (fun _ _ _ h => h) (Or.inr ⟨by rfl, rfl⟩) ?_ ?_
        rotate_left
        ·
         simp only [Act.put, List.setIfInBounds_toArray, List.set_cons_zero, List.set_cons_succ, i64_w, i32_w]
         rfl
        refine pure_ (i := 7) (N := some 39) (v := undef) (a' := ?_) #[true, true, true, true, true, true, true, true, false, false, false, false] rfl rfl (any_of HT_.out (by kernel_rfl)) (fun _ _ _ h => h) (Or.inr ⟨by rfl, rfl⟩) ?_ ?_
        rotate_left
        ·
         simp only [Act.put, List.setIfInBounds_toArray, List.set_cons_zero, List.set_cons_succ, i64_w, i32_w]
         rfl
        refine pure_ (i := 8) (N := some 40) (v := undef) (a' := ?_) #[true, true, true, true, true, true, true, true, true, false, false, false] rfl rfl (any_of HT_.out (by kernel_rfl)) (fun _ _ _ h => h) (Or.inr ⟨by rfl, rfl⟩) ?_ ?_
        rotate_left
        ·
         simp only [Act.put, List.setIfInBounds_toArray, List.set_cons_zero, List.set_cons_succ, i64_w, i32_w]
         rfl
        refine pure_ (i := 9) (N := some 41) (v := undef) (a' := ?_) #[true, true, true, true, true, true, true, true, true, true, false, false] rfl rfl (any_of HT_.out (by kernel_rfl)) (fun _ _ _ h => h) (Or.inr ⟨by rfl, rfl⟩) ?_ ?_
        rotate_left
        ·
         simp only [Act.put, List.setIfInBounds_toArray, List.set_cons_zero, List.set_cons_succ, i64_w, i32_w]
         rfl
        refine pure_ (i := 10) (N := some 42) (v := undef) (a' := ?_) #[true, true, true, true, true, true, true, true, true, true, true, false] rfl rfl (any_of HT_.out (by kernel_rfl)) (fun _ _ _ h => h) (Or.inr ⟨by rfl, rfl⟩) ?_ ?_
        rotate_left
        ·
         simp only [Act.put, List.setIfInBounds_toArray, List.set_cons_zero, List.set_cons_succ, i64_w, i32_w]
         rfl
        refine pure_ (i := 11) (N := some 43) (v := ?_) (a' := ?_) #[true, true, true, true, true, true, true, true, true, true, true, true] rfl rfl (any_of HT_.out (by kernel_rfl)) (fun _ _ _ h => h) (Or.inl ⟨by rfl, ?_⟩) ?_ ?_
        rotate_left
        ·
         intro w'
         go_simp
         with_reducible rfl
        rotate_left
        ·
         simp only [Act.put, List.setIfInBounds_toArray, List.set_cons_zero, List.set_cons_succ, i64_w, i32_w]
         rfl
        refine done_ (done_of HT_.out (by kernel_rfl)) ?_
        try go_wp2
        go_meet
        case rel => exact ⟨_, (true), xrr, H', ⟨by have := HJ7.out; have := HJ12.out; first | omega | exact Nat.le_refl _⟩, ⟨xbk⟩, ⟨xbl⟩⟩
       ·
        rw [if_neg c22] at H
        have c22b0 : (t388 != t387) = false := by simpa using c22
        (try (have c22b1 : decide (t388 = t387) = true := by simpa using c22))
        (try (have c22b2 : (t388 == t387) = true := by simpa using c22))
        clear c22
        (first | rw [c22b0] | (simp only [i64_w, i32_w]; rw [c22b0]) | skip)
        replace H := Option.bind_eq_some_iff.mp H
        obtain ⟨t389, A250, H⟩ := H
        try dsimp only at H
        have A25 := Aside0.mk A250
        clear A250
        replace H := Option.bind_eq_some_iff.mp H
        obtain ⟨t390, A260, H⟩ := H
        try dsimp only at H
        have A26 := Aside0.mk A260
        clear A260
        have H' := Aside0.mk H
        clear H
        try go_wp2
        have n0_ := Aside0.mk (blk_drew BK385.out)
        have n1_ := Aside0.mk (below_drew1 HB.out)
        clear BK385
        clear HB
        have BK385 := n0_
        have HB := n1_
        clear n0_ n1_
        refine start_ (n := 12) (S := fun w' => w'.cell? ⟨gb385, 0, none⟩ = some (.bool a1_0) ∧ w'.cell? ⟨gb385, 1, none⟩ = some (.string x386001_7) ∧ w'.cell? ⟨gb385, 2, none⟩ = some (.string a1_2) ∧ w'.cell? ⟨gb385, 3, none⟩ = some (.bool a1_3) ∧ w'.cell? ⟨gb385, 4, none⟩ = some (.string x386004_12)) (ds := []) #[false, false, false, false, false, false, false, false, false, false, false, false] (by kernel_rfl) rfl rfl ⟨(blk_cell BK385.out 0).trans rfl, (blk_cell BK385.out 1).trans rfl, (blk_cell BK385.out 2).trans rfl, (blk_cell BK385.out 3).trans rfl, (blk_cell BK385.out 4).trans rfl⟩ (fun hHeld => ?_); refine with_tabW monikerlaw21_SeatJoins.tab8 monikerlaw21_SeatJoins.bits8 (fun HT_ HW_ => ?_)
        generalize w20.drew = w27 at BK385 HB hHeld ⊢
        refine pure_ (i := 0) (N := some 32) (v := ?_) (a' := ?_) #[true, false, false, false, false, false, false, false, false, false, false, false] rfl rfl (any_of HT_.out (by kernel_rfl)) (fun _ _ _ h => h) (Or.inl ⟨by rfl, ?_⟩) ?_ ?_
        rotate_left
        ·
         intro w'
         go_simp
         with_reducible rfl
        rotate_left
        ·
         simp only [Act.put, List.setIfInBounds_toArray, List.set_cons_zero, List.set_cons_succ, i64_w, i32_w]
         rfl
        refine pure_ (i := 3) (N := some 35) (v := ?_) (a' := ?_) #[true, false, false, true, false, false, false, false, false, false, false, false] rfl rfl (any_of HT_.out (by kernel_rfl)) (fun _ _ _ h => h) (Or.inl ⟨by rfl, ?_⟩) ?_ ?_
        rotate_left
        ·
         intro w'
         go_simp
         with_reducible rfl
        rotate_left
        ·
         simp only [Act.put, List.setIfInBounds_toArray, List.set_cons_zero, List.set_cons_succ, i64_w, i32_w]
         rfl
        refine take_ (i := 1) (N := some 33) (v := ?_) (a' := ?_) #[true, true, false, true, false, false, false, false, false, false, false, false] rfl rfl (take_ofW HT_.out HW_.out (by kernel_rfl)) (fun _ _ _ h => h) (Or.inl ⟨by rfl, ?_⟩) hHeld ?_ ?_
        rotate_left
        ·
         rintro w' ⟨s0, s1, s2, s3, s4⟩
         go_simp
         with_reducible rfl
        rotate_left
        ·
         simp only [Act.put, List.setIfInBounds_toArray, List.set_cons_zero, List.set_cons_succ, i64_w, i32_w]
         rfl
        refine one_ (i := 2) (N := some 34) #[true, true, true, true, false, false, false, false, false, false, false, false] rfl rfl (one_of HT_.out (by kernel_rfl)) (by decide) (fun K hK => ?_)
        refine goes_ Tryd.func9 (by kernel_rfl) rfl #[.bool a0, .agg #[.bool a1_0, .string x386001_7, .string a1_2, .bool a1_3, .string x386004_12]] (by rfl) rfl rfl (by (try simp only [List.map_toArray, List.map_cons, List.map_nil]); first | done | rfl | (simp only [List.length_drop, List.length_take]; rfl)) ?_
        with_reducible refine (seat_Right.calls kj12 a0 a1_0 x386001_7 a1_2 a1_3 x386004_12 t388 _ ?side1 A21.out).mono ?_
        (case side1 => first | exact hG | exact GW_to hG xbl)
        rintro e w28 ⟨rfl, hb⟩
        refine ⟨_, rfl, ?_⟩
        have n0_ := xbb (g := gb385) (o := .cells #[.bool a1_0, .string x386001_7, .string a1_2, .bool a1_3, .string x386004_12] 24 (0, 0)) hb
        have n1_ := xst hb
        clear BK385
        clear HB
        have BK385 := n0_
        have HB := n1_
        clear n0_ n1_
        (try clear hb)
        (try clear hb2)
        (try clear hk)
        (try clear hi)
        refine hK.out _ _ ⟨(blk_cell BK385.out 0).trans rfl, (blk_cell BK385.out 1).trans rfl, (blk_cell BK385.out 2).trans rfl, (blk_cell BK385.out 3).trans rfl, (blk_cell BK385.out 4).trans rfl⟩ (fun hHeld => ?_)
        clear hK K
        refine norm_ (a' := ?_) ?_ ?_
        rotate_left
        ·
         show Act.put _ (some 34) _ = _
         simp only [Act.put, List.setIfInBounds_toArray, List.set_cons_zero, List.set_cons_succ, i64_w, i32_w]
         rfl
        refine pure_ (i := 4) (N := some 36) (v := ?_) (a' := ?_) #[true, true, true, true, true, false, false, false, false, false, false, false] rfl rfl (any_of HT_.out (by kernel_rfl)) (fun _ _ _ h => h) (Or.inl ⟨by rfl, ?_⟩) ?_ ?_
        rotate_left
        ·
         intro w'
         go_simp
         with_reducible rfl
        rotate_left
        ·
         simp only [Act.put, List.setIfInBounds_toArray, List.set_cons_zero, List.set_cons_succ, i64_w, i32_w]
         rfl
        refine pure_ (i := 5) (N := some 37) (v := ?_) (a' := ?_) #[true, true, true, true, true, true, false, false, false, false, false, false] rfl rfl (any_of HT_.out (by kernel_rfl)) (fun _ _ _ h => h) (Or.inl ⟨by rfl, ?_⟩) ?_ ?_
        rotate_left
        ·
         intro w'
         go_simp
         with_reducible rfl
        rotate_left
        ·
         simp only [Act.put, List.setIfInBounds_toArray, List.set_cons_zero, List.set_cons_succ, i64_w, i32_w]
         rfl
        refine take_ (i := 6) (N := some 38) (v := ?_) (a' := ?_) #[true, true, true, true, true, true, true, false, false, false, false, false] rfl rfl (take_ofW HT_.out HW_.out (by kernel_rfl)) (fun _ _ _ h => h) (Or.inl ⟨by rfl, ?_⟩) hHeld ?_ ?_
        rotate_left
        ·
         rintro w' ⟨s0, s1, s2, s3, s4⟩
         go_simp
         with_reducible rfl
        rotate_left
        ·
         simp only [Act.put, List.setIfInBounds_toArray, List.set_cons_zero, List.set_cons_succ, i64_w, i32_w]
         rfl
        refine take_ (i := 8) (N := some 40) (v := ?_) (a' := ?_) #[true, true, true, true, true, true, true, false, true, false, false, false] rfl rfl (take_ofW HT_.out HW_.out (by kernel_rfl)) (fun _ _ _ h => h) (Or.inl ⟨by rfl, ?_⟩) hHeld ?_ ?_
        rotate_left
        ·
         rintro w' ⟨s0, s1, s2, s3, s4⟩
         go_simp
         with_reducible rfl
        rotate_left
        ·
         simp only [Act.put, List.setIfInBounds_toArray, List.set_cons_zero, List.set_cons_succ, i64_w, i32_w]
         rfl
        refine one_ (i := 7) (N := some 39) #[true, true, true, true, true, true, true, true, true, false, false, false] rfl rfl (one_of HT_.out (by kernel_rfl)) (by decide) (fun K hK => ?_)
        refine goes_ Tryd.func10 (by kernel_rfl) rfl #[.agg #[.bool a1_0, .string x386001_7, .string a1_2, .bool a1_3, .string x386004_12]] (by rfl) rfl rfl (by (try simp only [List.map_toArray, List.map_cons, List.map_nil]); first | done | rfl | (simp only [List.length_drop, List.length_take]; rfl)) ?_
        with_reducible refine (seat_Join.calls a1_0 x386001_7 a1_2 a1_3 x386004_12 t389 _ A25.out).mono ?_
        rintro e w29 ⟨rfl, hb⟩
        refine ⟨_, rfl, ?_⟩
        have n0_ := xbb (g := gb385) (o := .cells #[.bool a1_0, .string x386001_7, .string a1_2, .bool a1_3, .string x386004_12] 24 (0, 0)) hb
        have n1_ := xst hb
        clear BK385
        clear HB
        have BK385 := n0_
        have HB := n1_
        clear n0_ n1_
        (try clear hb)
        (try clear hb2)
        (try clear hk)
        (try clear hi)
        refine hK.out _ _ ⟨(blk_cell BK385.out 0).trans rfl, (blk_cell BK385.out 1).trans rfl, (blk_cell BK385.out 2).trans rfl, (blk_cell BK385.out 3).trans rfl, (blk_cell BK385.out 4).trans rfl⟩ (fun hHeld => ?_)
        clear hK K
        refine norm_ (a' := ?_) ?_ ?_
        rotate_left
        ·
         show Act.put _ (some 39) _ = _
         simp only [Act.put, List.setIfInBounds_toArray, List.set_cons_zero, List.set_cons_succ, i64_w, i32_w]
         rfl
        refine one_ (i := 9) (N := some 41) #[true, true, true, true, true, true, true, true, true, true, false, false] rfl rfl (one_of HT_.out (by kernel_rfl)) (by decide) (fun K hK => ?_)
        refine goes_ Tryd.func11 (by kernel_rfl) rfl #[.agg #[.bool a1_0, .string x386001_7, .string a1_2, .bool a1_3, .string x386004_12]] (by rfl) rfl rfl (by (try simp only [List.map_toArray, List.map_cons, List.map_nil]); first | done | rfl | (simp only [List.length_drop, List.length_take]; rfl)) ?_
        with_reducible refine (monikerref21_Join.calls a1_0 x386001_7 a1_2 a1_3 x386004_12 t390 _ A26.out).mono ?_
        rintro e w30 ⟨rfl, hb⟩
        refine ⟨_, rfl, ?_⟩
        have n0_ := xbb (g := gb385) (o := .cells #[.bool a1_0, .string x386001_7, .string a1_2, .bool a1_3, .string x386004_12] 24 (0, 0)) hb
        have n1_ := xst hb
        clear BK385
        clear HB
        have BK385 := n0_
        have HB := n1_
        clear n0_ n1_
        (try clear hb)
        (try clear hb2)
        (try clear hk)
        (try clear hi)
        refine hK.out _ _ ⟨(blk_cell BK385.out 0).trans rfl, (blk_cell BK385.out 1).trans rfl, (blk_cell BK385.out 2).trans rfl, (blk_cell BK385.out 3).trans rfl, (blk_cell BK385.out 4).trans rfl⟩ (fun hHeld => ?_)
        clear hK K
        refine norm_ (a' := ?_) ?_ ?_
        rotate_left
        ·
         show Act.put _ (some 41) _ = _
         simp only [Act.put, List.setIfInBounds_toArray, List.set_cons_zero, List.set_cons_succ, i64_w, i32_w]
         rfl
        refine pure_ (i := 10) (N := some 42) (v := ?_) (a' := ?_) #[true, true, true, true, true, true, true, true, true, true, true, false] rfl rfl (any_of HT_.out (by kernel_rfl)) (fun _ _ _ h => h) (Or.inl ⟨by rfl, ?_⟩) ?_ ?_
        rotate_left
        ·
         intro w'
         go_simp
         with_reducible rfl
        rotate_left
        ·
         simp only [Act.put, List.setIfInBounds_toArray, List.set_cons_zero, List.set_cons_succ, i64_w, i32_w]
         rfl
        refine pure_ (i := 11) (N := some 43) (v := ?_) (a' := ?_) #[true, true, true, true, true, true, true, true, true, true, true, true] rfl rfl (any_of HT_.out (by kernel_rfl)) (fun _ _ _ h => h) (Or.inl ⟨by rfl, ?_⟩) ?_ ?_
        rotate_left
        ·
         intro w'
         go_simp
         with_reducible rfl
        rotate_left
        ·
         simp only [Act.put, List.setIfInBounds_toArray, List.set_cons_zero, List.set_cons_succ, i64_w, i32_w]
         rfl
        refine done_ (done_of HT_.out (by kernel_rfl)) ?_
        try go_wp2
        go_meet
        case rel => exact ⟨_, ((t389.toList != t390.toList)), xrr, H', ⟨by have := HJ7.out; have := HJ12.out; first | omega | exact Nat.le_refl _⟩, ⟨xbk⟩, ⟨xbl⟩⟩
      case rest =>
       clear HC18
       obtain ⟨kq, x43_17, rfl, HA, HJ17, BK385, HB⟩ := hcut
       cases kq with
       | zero => exact absurd HA.out (by simp [monikerlaw21_SeatJoins.j2])
       | succ kj17 =>
        have H := HA.out
        clear HA
        simp only [monikerlaw21_SeatJoins.j2] at H
        by_cases c31 : x43_17 = true
        ·
         subst c31
         rw [if_pos rfl] at H
         obtain rfl := Option.some.inj H
         go_wp2
         go_ret
         exact ⟨xre, xbl⟩
        ·
         replace c31 := Bool.eq_false_iff.mpr c31
         subst c31
         rw [if_neg (show ¬ (false = true) by decide)] at H
         by_cases c32 : t387 = true
         ·
          subst c32
          rw [if_pos rfl] at H
          replace H := Option.bind_eq_some_iff.mp H
          obtain ⟨t391, A330, H⟩ := H
          try dsimp only at H
          have A33 := Aside0.mk A330
          clear A330
          replace H := Option.bind_eq_some_iff.mp H
          obtain ⟨⟨t392, t393, t394, t395, t396, t397⟩, A340, H⟩ := H
          try dsimp only at H
          have A34 := Aside0.mk A340
          clear A340
          by_cases c35 : t397 = true
          ·
           subst c35
           rw [if_pos rfl] at H
           by_cases c36 : (t392 == a1_0 && (t393.toList == x386001_7.toList && (t394.toList == a1_2.toList && (t395 == a1_3 && (t396.toList == x386004_12.toList))))) = true
           ·
            rw [if_pos c36] at H
            have c36b0 : (t392 == a1_0 && (t393.toList == x386001_7.toList && (t394.toList == a1_2.toList && (t395 == a1_3 && (t396.toList == x386004_12.toList))))) = true := c36
            (try (have c36b1 : decide (t392 = a1_0 && (t393.toList == x386001_7.toList && (t394.toList == a1_2.toList && (t395 == a1_3 && (t396.toList == x386004_12.toList))))) = true := by simpa using c36))
            (try (have c36b2 : (t392 == a1_0 && (t393.toList == x386001_7.toList && (t394.toList == a1_2.toList && (t395 == a1_3 && (t396.toList == x386004_12.toList))))) = true := by simpa using c36))
            clear c36
            replace H := Option.bind_eq_some_iff.mp H
            obtain ⟨t399, A370, H⟩ := H
            try dsimp only at H
            have A37 := Aside0.mk A370
            clear A370
            obtain rfl := Option.some.inj H
            obtain ⟨hcz38_0, hcz38_1, hcz38_2, hcz38_3, hcz38_4⟩ := xc5 BK385
            have hfz38_0 := xf BK385 0
            have hfz38_1 := xf BK385 1
            have hfz38_2 := xf BK385 2
            have hfz38_3 := xf BK385 3
            have hfz38_4 := xf BK385 4
            go_wp2_with (first | ((with_reducible refine gate_callee (f := 10) rfl ?_); refine xgl 50 Tryd.func10 #[.agg #[.bool a1_0, .string x386001_7, .string a1_2, .bool a1_3, .string x386004_12]] ?_; (with_reducible refine (seat_Join.calls a1_0 x386001_7 a1_2 a1_3 x386004_12 t391 _ A33.out).mono ?_); rintro e w39 ⟨rfl, hb⟩; refine ⟨_, rfl, ?_⟩; replace BK385 := xbb (g := gb385) (o := .cells #[.bool a1_0, .string x386001_7, .string a1_2, .bool a1_3, .string x386004_12] 24 (0, 0)) hb; replace HB := xst hb; (try clear hb)) | ((with_reducible refine gate_callee (f := 6) rfl ?_); refine xgl 51 Tryd.func6 #[.bool a0, .string t391] ?_; (with_reducible refine (seat_Parse.calls kj17 a0 t391 t392 t393 t394 t395 t396 true _ ?side1 A34.out).mono ?_); (case side1 => first | exact hG | exact GW_to hG xbl); rintro e w40 ⟨rfl, hb⟩; refine ⟨_, rfl, ?_⟩; replace BK385 := xbb (g := gb385) (o := .cells #[.bool a1_0, .string x386001_7, .string a1_2, .bool a1_3, .string x386004_12] 24 (0, 0)) hb; replace HB := xst hb; (try clear hb)) | ((with_reducible refine gate_dst (N := 6) rfl ?_); refine xev 6 #[.bool false, .string (⟨#[]⟩ : ByteArray), .string (⟨#[]⟩ : ByteArray), .bool false, .string (⟨#[]⟩ : ByteArray)] 24 ?_; intro gb398 hg w41 hbox hb; have BK398 := Aside0.mk (hbox); have GW398 := xsz hg; have GE398 := GW398; have NB385_398 := xlt (g := gb385) hg; have NB398_385 := xgt (g := gb385) hg; replace BK385 := xbb (g := gb385) (o := .cells #[.bool a1_0, .string x386001_7, .string a1_2, .bool a1_3, .string x386004_12] 24 (0, 0)) hb; replace HB := xst hb; clear hb hbox hg; have hnb42 := NB398_385.out; have hnc42 := NB385_398.out; obtain ⟨hcz43_0, hcz43_1, hcz43_2, hcz43_3, hcz43_4⟩ := xc5 BK398; have hfz43_0 := xf BK398 0; have hfz43_1 := xf BK398 1; have hfz43_2 := xf BK398 2; have hfz43_3 := xf BK398 3; have hfz43_4 := xf BK398 4; obtain ⟨hcz44_0, hcz44_1, hcz44_2, hcz44_3, hcz44_4⟩ := xc5 BK385; have hfz44_0 := xf BK385 0; have hfz44_1 := xf BK385 1; have hfz44_2 := xf BK385 2; have hfz44_3 := xf BK385 3; have hfz44_4 := xf BK385 4) | (go_at_call 5; (with_reducible refine (monikerlaw21_awake.calls kj17  t399 _ A37.out).mono ?_); rintro e w45 ⟨rfl, hb⟩; replace BK385 := xbb (g := gb385) (o := .cells #[.bool a1_0, .string x386001_7, .string a1_2, .bool a1_3, .string x386004_12] 24 (0, 0)) hb; replace BK398 := xbb (g := gb398) (o := .cells #[.bool t392, .string t393, .string t394, .bool t395, .string t396] 24 (0, 0)) hb; replace HB := xst hb; (try clear hb)))
            go_ret
            exact ⟨xre, xbl⟩
           ·
            rw [if_neg c36] at H
            have c36b0 : (t392 == a1_0 && (t393.toList == x386001_7.toList && (t394.toList == a1_2.toList && (t395 == a1_3 && (t396.toList == x386004_12.toList))))) = false := by simpa using c36
            (try (have c36b1 : decide (t392 = a1_0 && (t393.toList == x386001_7.toList && (t394.toList == a1_2.toList && (t395 == a1_3 && (t396.toList == x386004_12.toList))))) = false := by simpa using c36))
            (try (have c36b2 : (t392 == a1_0 && (t393.toList == x386001_7.toList && (t394.toList == a1_2.toList && (t395 == a1_3 && (t396.toList == x386004_12.toList))))) = false := by simpa using c36))
            (try (have c36b3 : ¬ (t392 = a1_0 && (t393.toList == x386001_7.toList && (t394.toList == a1_2.toList && (t395 == a1_3 && (t396.toList == x386004_12.toList))))) := by simpa using c36))
            clear c36
            obtain rfl := Option.some.inj H
            obtain ⟨hcz46_0, hcz46_1, hcz46_2, hcz46_3, hcz46_4⟩ := xc5 BK385
            have hfz46_0 := xf BK385 0
            have hfz46_1 := xf BK385 1
            have hfz46_2 := xf BK385 2
            have hfz46_3 := xf BK385 3
            have hfz46_4 := xf BK385 4
            go_wp2_with (first | ((with_reducible refine gate_callee (f := 10) rfl ?_); refine xgl 50 Tryd.func10 #[.agg #[.bool a1_0, .string x386001_7, .string a1_2, .bool a1_3, .string x386004_12]] ?_; (with_reducible refine (seat_Join.calls a1_0 x386001_7 a1_2 a1_3 x386004_12 t391 _ A33.out).mono ?_); rintro e w47 ⟨rfl, hb⟩; refine ⟨_, rfl, ?_⟩; replace BK385 := xbb (g := gb385) (o := .cells #[.bool a1_0, .string x386001_7, .string a1_2, .bool a1_3, .string x386004_12] 24 (0, 0)) hb; replace HB := xst hb; (try clear hb)) | ((with_reducible refine gate_callee (f := 6) rfl ?_); refine xgl 51 Tryd.func6 #[.bool a0, .string t391] ?_; (with_reducible refine (seat_Parse.calls kj17 a0 t391 t392 t393 t394 t395 t396 true _ ?side1 A34.out).mono ?_); (case side1 => first | exact hG | exact GW_to hG xbl); rintro e w48 ⟨rfl, hb⟩; refine ⟨_, rfl, ?_⟩; replace BK385 := xbb (g := gb385) (o := .cells #[.bool a1_0, .string x386001_7, .string a1_2, .bool a1_3, .string x386004_12] 24 (0, 0)) hb; replace HB := xst hb; (try clear hb)) | ((with_reducible refine gate_dst (N := 6) rfl ?_); refine xev 6 #[.bool false, .string (⟨#[]⟩ : ByteArray), .string (⟨#[]⟩ : ByteArray), .bool false, .string (⟨#[]⟩ : ByteArray)] 24 ?_; intro gb398 hg w49 hbox hb; have BK398 := Aside0.mk (hbox); have GW398 := xsz hg; have GE398 := GW398; have NB385_398 := xlt (g := gb385) hg; have NB398_385 := xgt (g := gb385) hg; replace BK385 := xbb (g := gb385) (o := .cells #[.bool a1_0, .string x386001_7, .string a1_2, .bool a1_3, .string x386004_12] 24 (0, 0)) hb; replace HB := xst hb; clear hb hbox hg; have hnb50 := NB398_385.out; have hnc50 := NB385_398.out; obtain ⟨hcz51_0, hcz51_1, hcz51_2, hcz51_3, hcz51_4⟩ := xc5 BK398; have hfz51_0 := xf BK398 0; have hfz51_1 := xf BK398 1; have hfz51_2 := xf BK398 2; have hfz51_3 := xf BK398 3; have hfz51_4 := xf BK398 4; obtain ⟨hcz52_0, hcz52_1, hcz52_2, hcz52_3, hcz52_4⟩ := xc5 BK385; have hfz52_0 := xf BK385 0; have hfz52_1 := xf BK385 1; have hfz52_2 := xf BK385 2; have hfz52_3 := xf BK385 3; have hfz52_4 := xf BK385 4))
            go_ret
            exact ⟨xre, xbl⟩
          ·
           replace c35 := Bool.eq_false_iff.mpr c35
           subst c35
           rw [if_neg (show ¬ (false = true) by decide)] at H
           obtain rfl := Option.some.inj H
           obtain ⟨hcz53_0, hcz53_1, hcz53_2, hcz53_3, hcz53_4⟩ := xc5 BK385
           have hfz53_0 := xf BK385 0
           have hfz53_1 := xf BK385 1
           have hfz53_2 := xf BK385 2
           have hfz53_3 := xf BK385 3
           have hfz53_4 := xf BK385 4
           go_wp2_with (first | ((with_reducible refine gate_callee (f := 10) rfl ?_); refine xgl 50 Tryd.func10 #[.agg #[.bool a1_0, .string x386001_7, .string a1_2, .bool a1_3, .string x386004_12]] ?_; (with_reducible refine (seat_Join.calls a1_0 x386001_7 a1_2 a1_3 x386004_12 t391 _ A33.out).mono ?_); rintro e w54 ⟨rfl, hb⟩; refine ⟨_, rfl, ?_⟩; replace BK385 := xbb (g := gb385) (o := .cells #[.bool a1_0, .string x386001_7, .string a1_2, .bool a1_3, .string x386004_12] 24 (0, 0)) hb; replace HB := xst hb; (try clear hb)) | ((with_reducible refine gate_callee (f := 6) rfl ?_); refine xgl 51 Tryd.func6 #[.bool a0, .string t391] ?_; (with_reducible refine (seat_Parse.calls kj17 a0 t391 t392 t393 t394 t395 t396 false _ ?side1 A34.out).mono ?_); (case side1 => first | exact hG | exact GW_to hG xbl); rintro e w55 ⟨rfl, hb⟩; refine ⟨_, rfl, ?_⟩; replace BK385 := xbb (g := gb385) (o := .cells #[.bool a1_0, .string x386001_7, .string a1_2, .bool a1_3, .string x386004_12] 24 (0, 0)) hb; replace HB := xst hb; (try clear hb)) | ((with_reducible refine gate_dst (N := 6) rfl ?_); refine xev 6 #[.bool false, .string (⟨#[]⟩ : ByteArray), .string (⟨#[]⟩ : ByteArray), .bool false, .string (⟨#[]⟩ : ByteArray)] 24 ?_; intro gb398 hg w56 hbox hb; have BK398 := Aside0.mk (hbox); have GW398 := xsz hg; have GE398 := GW398; have NB385_398 := xlt (g := gb385) hg; have NB398_385 := xgt (g := gb385) hg; replace BK385 := xbb (g := gb385) (o := .cells #[.bool a1_0, .string x386001_7, .string a1_2, .bool a1_3, .string x386004_12] 24 (0, 0)) hb; replace HB := xst hb; clear hb hbox hg; have hnb57 := NB398_385.out; have hnc57 := NB385_398.out; obtain ⟨hcz58_0, hcz58_1, hcz58_2, hcz58_3, hcz58_4⟩ := xc5 BK398; have hfz58_0 := xf BK398 0; have hfz58_1 := xf BK398 1; have hfz58_2 := xf BK398 2; have hfz58_3 := xf BK398 3; have hfz58_4 := xf BK398 4))
           go_ret
           exact ⟨xre, xbl⟩
         ·
          replace c32 := Bool.eq_false_iff.mpr c32
          subst c32
          rw [if_neg (show ¬ (false = true) by decide)] at H
          replace H := Option.bind_eq_some_iff.mp H
          obtain ⟨t400, A590, H⟩ := H
          try dsimp only at H
          have A59 := Aside0.mk A590
          clear A590
          obtain rfl := Option.some.inj H
          go_wp2_with (first | ((with_reducible refine gate_callee (f := 5) rfl ?_); refine xgl 46 Tryd.func5 #[] ?_; (with_reducible refine (monikerlaw21_awake.calls kj17  t400 _ A59.out).mono ?_); rintro e w60 ⟨rfl, hb⟩; refine ⟨_, rfl, ?_⟩; replace BK385 := xbb (g := gb385) (o := .cells #[.bool a1_0, .string x386001_7, .string a1_2, .bool a1_3, .string x386004_12] 24 (0, 0)) hb; replace HB := xst hb; (try clear hb)))
          go_ret
          exact ⟨xre, xbl⟩
end Go.Proofs.YtdmigmccfdhdiaaDoor.X
namespace Go.Proofs.YtdmigmccfdhdiaaDoor.M
open Go Go.RowKit Go.Proofs.YtdmigmccfdhdiaaDoorW.PrintWords
theorem w64 {x : Int} (h1 : -9223372036854775808 ≤ x) (h2 : x ≤ 9223372036854775807) : wrap64 x = x := by unfold wrap64; omega
theorem toList_data (s : ByteArray) : s.toList = s.data.toList := ByteArray.toList_eq s
theorem bytes_inj {a b : ByteArray} (h : bytesOf a = bytesOf b) : a = b := by
  unfold bytesOf at h
  have : a.data.toList = b.data.toList := by
    apply List.map_inj_right (f := fun b : UInt8 => (b.toNat : Int)) _ |>.1 h
    intro x y hxy
    exact UInt8.toNat_inj.1 (by omega)
  cases a; cases b
  simp only [ByteArray.mk.injEq]
  exact Array.toList_inj.1 this
theorem toList_iff {a b : ByteArray} : a.toList = b.toList ↔ bytesOf a = bytesOf b := by
  rw [toList_data, toList_data]
  exact ⟨fun h => by unfold bytesOf; rw [h], fun h => by rw [bytes_inj h]⟩
theorem bytes_append (a b : ByteArray) : bytesOf (a ++ b) = bytesOf a ++ bytesOf b := by
  unfold bytesOf
  rw [ByteArray.data_append, Array.toList_append, List.map_append]
theorem bytes_extract (a : ByteArray) (i j : Nat) : bytesOf (a.extract i j) = ((bytesOf a).take j).drop i := by
  unfold bytesOf
  rw [ByteArray.data_extract, Array.toList_extract, List.extract_eq_take_drop, List.map_take, List.map_drop, List.drop_take]
theorem bytes_range {s : ByteArray} {x : Int} (h : x ∈ bytesOf s) : 0 ≤ x ∧ x ≤ 255 := by
  unfold bytesOf at h
  obtain ⟨b, _, rfl⟩ := List.mem_map.1 h
  have := b.toNat_lt
  omega
theorem bytes_len (s : ByteArray) : (bytesOf s).length = s.size := bytesOf_length s
theorem bt_getD (s : ByteArray) (i : Nat) : bt s (i : Int) = (bytesOf s).getD i 0 := by
  rw [← rd_bytesOf]; unfold rd; simp
theorem at_drop {s : ByteArray} {i : Nat} {b : Int} {t : List Int} (h : (bytesOf s).drop i = b :: t) : bt s (i : Int) = b ∧ i < s.size ∧ (bytesOf s).drop (i + 1) = t ∧ 0 ≤ b ∧ b ≤ 255 := by
  have hl : i < (bytesOf s).length := by
    have := congrArg List.length h
    rw [List.length_drop, List.length_cons] at this
    omega
  have e := List.drop_eq_getElem_cons hl
  rw [h] at e
  injection e with e1 e2
  have hr := bytes_range (s := s) (x := b) (by rw [e1]; exact List.getElem_mem hl)
  refine ⟨?_, by rw [← bytes_len]; exact hl, e2.symm, hr.1, hr.2⟩
  rw [bt_getD, List.getD_eq_getElem?_getD, List.getElem?_eq_getElem hl, e1]
  rfl
theorem take_next {s : ByteArray} {n : Nat} (h : n < s.size) : (bytesOf s).take (n + 1) = (bytesOf s).take n ++ [bt s (n : Int)] := by
  have hl : n < (bytesOf s).length := by rw [bytes_len]; exact h
  rw [List.take_succ_eq_append_getElem hl, bt_getD, List.getD_eq_getElem?_getD, List.getElem?_eq_getElem hl]
  rfl
theorem bt_rng (s : ByteArray) (i : Int) : 0 ≤ bt s i ∧ bt s i ≤ 255 := bt_range s i
theorem Ev.ret {α : Type} {g : Nat → Option α} {r : α} (h : ∀ k, g k = some r) : Ev g r := ⟨0, fun k _ => h k⟩
theorem Ev.bind' {α β : Type} {g : Nat → Option α} {f : Nat → α → Option β} {a : α} {r : β} (h : Ev g a) (k : Ev (fun n => f n a) r) : Ev (fun n => (g n).bind fun t => f n t) r := Ev.bind h k
theorem Ev.pure_bind {α β : Type} {o : Option α} {f : Nat → α → Option β} {a : α} {r : β} (h : o = some a) (k : Ev (fun n => f n a) r) : Ev (fun n => o.bind fun t => f n t) r := by
  subst h; exact k
theorem Ev.ite_pos {α : Type} {c : Prop} [Decidable c] {g f : Nat → Option α} {r : α} (h : c) (k : Ev g r) : Ev (fun n => if c then g n else f n) r := by
  simp only [if_pos h]; exact k
theorem Ev.ite_neg {α : Type} {c : Prop} [Decidable c] {g f : Nat → Option α} {r : α} (h : ¬ c) (k : Ev f r) : Ev (fun n => if c then g n else f n) r := by
  simp only [if_neg h]; exact k
theorem Ev.ite {α : Type} {c : Prop} [Decidable c] {g f : Nat → Option α} {r : α} (h : c → Ev g r) (k : ¬ c → Ev f r) : Ev (fun n => if c then g n else f n) r := by
  by_cases hc : c
  · exact Ev.ite_pos hc (h hc)
  · exact Ev.ite_neg hc (k hc)
theorem Ev.val {α : Type} {a r : α} (h : a = r) : Ev (fun _ => some a) r := by subst h; exact Ev.now _
def idx (c : Int) : List Int → Int
  | [] => -1
  | b :: t => if b = c then 0 else if idx c t = -1 then -1 else idx c t + 1
theorem idx_ge (c : Int) (l : List Int) : -1 ≤ idx c l := by
  induction l with
  | nil => simp [idx]
  | cons b t ih => unfold idx; split <;> (try split) <;> omega
theorem idx_lt (c : Int) (l : List Int) : idx c l < l.length := by
  induction l with
  | nil => simp [idx]
  | cons b t ih => unfold idx; rw [List.length_cons]; split <;> (try split) <;> omega
theorem idx_append (c : Int) (l m : List Int) : idx c (l ++ m) = if idx c l = -1 then (if idx c m = -1 then -1 else idx c m + l.length) else idx c l := by
  induction l with
  | nil => simp only [List.nil_append, idx, if_true, List.length_nil]; split <;> omega
  | cons b t ih =>
    have := idx_ge c t
    have := idx_ge c m
    rw [List.cons_append]
    by_cases hb : b = c
    · simp [idx, hb]
    · simp only [idx, if_neg hb, ih, List.length_cons]
      by_cases h1 : idx c t = -1
      · by_cases h2 : idx c m = -1
        · simp [h1, h2]
        · simp only [h1, h2, if_true, if_false]
          rw [if_neg (by omega)]; omega
      · simp only [h1, if_false]
        rw [if_neg (by omega)]
theorem idx_none {c : Int} {l : List Int} : idx c l = -1 ↔ c ∉ l := by
  induction l with
  | nil => simp [idx]
  | cons b t ih =>
    have := idx_ge c t
    unfold idx
    by_cases hb : b = c
    · simp [hb]
    · simp only [if_neg hb, List.mem_cons, not_or]
      by_cases h1 : idx c t = -1
      · simp [h1, ih.1 h1, Ne.symm hb]
      · rw [if_neg h1]
        constructor
        · intro h; omega
        · intro h; exact absurd (ih.2 h.2) h1
theorem idx_split {c : Int} {l : List Int} (h : 0 ≤ idx c l) : l = l.take (idx c l).toNat ++ c :: l.drop ((idx c l).toNat + 1) ∧ c ∉ l.take (idx c l).toNat := by
  induction l with
  | nil => simp [idx] at h
  | cons b t ih =>
    unfold idx at h ⊢
    by_cases hb : b = c
    · simp [hb]
    · rw [if_neg hb] at h ⊢
      by_cases h1 : idx c t = -1
      · rw [if_pos h1] at h; omega
      · have hg := idx_ge c t
        rw [if_neg h1]
        obtain ⟨e1, e2⟩ := ih (by omega)
        have e : (idx c t + 1).toNat = (idx c t).toNat + 1 := by omega
        rw [e, List.take_succ_cons, List.drop_succ_cons, List.cons_append]
        refine ⟨by rw [← e1], ?_⟩
        rw [List.mem_cons, not_or]
        exact ⟨Ne.symm hb, e2⟩
def lidx (c : Int) : List Int → Int
  | [] => -1
  | b :: t => if lidx c t = -1 then (if b = c then 0 else -1) else lidx c t + 1
theorem lidx_ge (c : Int) (l : List Int) : -1 ≤ lidx c l := by
  induction l with
  | nil => simp [lidx]
  | cons b t ih => unfold lidx; split <;> (try split) <;> omega
theorem lidx_lt (c : Int) (l : List Int) : lidx c l < l.length := by
  induction l with
  | nil => simp [lidx]
  | cons b t ih => unfold lidx; rw [List.length_cons]; split <;> (try split) <;> omega
theorem lidx_snoc (c : Int) (l : List Int) (b : Int) : lidx c (l ++ [b]) = if b = c then (l.length : Int) else lidx c l := by
  induction l with
  | nil => simp [lidx]
  | cons a t ih =>
    have := lidx_ge c t
    rw [List.cons_append]
    simp only [lidx, ih, List.length_cons]
    by_cases hb : b = c
    · rw [if_pos hb, if_pos hb, if_neg (by omega)]; omega
    · simp only [if_neg hb]
theorem lidx_none {c : Int} {l : List Int} : lidx c l = -1 ↔ c ∉ l := by
  induction l with
  | nil => simp [lidx]
  | cons b t ih =>
    have := lidx_ge c t
    unfold lidx
    rw [List.mem_cons, not_or]
    by_cases h1 : lidx c t = -1
    · rw [if_pos h1]
      by_cases hb : b = c
      · simp [hb]
      · rw [if_neg hb]; simp [ih.1 h1, Ne.symm hb]
    · rw [if_neg h1]
      constructor
      · intro h; omega
      · intro h; exact absurd (ih.2 h.2) h1
theorem indexByte_idx (l : List UInt8) (c : UInt8) : Go.Lib.indexByte l c = idx (c.toNat : Int) (l.map fun b => (b.toNat : Int)) := by
  induction l with
  | nil => rfl
  | cons b t ih =>
    rw [List.map_cons]
    unfold Go.Lib.indexByte idx
    rw [ih]
    by_cases hb : b = c
    · simp [hb]
    · have h1 : (b == c) = false := by simpa using hb
      have h2 : ¬ ((b.toNat : Int) = (c.toNat : Int)) := fun h => hb (UInt8.toNat_inj.1 (by omega))
      rw [h1, if_neg h2]
      simp only [Bool.false_eq_true, if_false, beq_iff_eq]
theorem indexByte_bytes (s : ByteArray) (c : Int) (h0 : 0 ≤ c) (h1 : c ≤ 255) : Go.Lib.indexByte s.data.toList c.toNat.toUInt8 = idx c (bytesOf s) := by
  rw [indexByte_idx]
  have : ((c.toNat.toUInt8.toNat : Nat) : Int) = c := by
    rw [Nat.toUInt8, UInt8.toNat_ofNat']
    omega
  rw [this]; rfl
end Go.Proofs.YtdmigmccfdhdiaaDoor.M
namespace Go.Proofs.YtdmigmccfdhdiaaDoor.M
open Go Go.RowKit Go.Proofs.YtdmigmccfdhdiaaDoorW.PrintWords
theorem byte_all {p : Int → Prop} (h : ∀ n : Fin 256, p ((n.val : Nat) : Int)) {b : Int} (h0 : 0 ≤ b) (h1 : b ≤ 255) : p b := by
  have := h ⟨b.toNat, by omega⟩
  simp only at this
  rwa [Int.toNat_of_nonneg h0] at this
def alpha (b : Int) : Bool := decide (65 ≤ b ∧ b ≤ 90 ∨ 97 ≤ b ∧ b ≤ 122)
def digit (b : Int) : Bool := decide (48 ≤ b ∧ b ≤ 57)
def hexd (b : Int) : Bool := decide (48 ≤ b ∧ b ≤ 57 ∨ 65 ≤ b ∧ b ≤ 70 ∨ 97 ≤ b ∧ b ≤ 102)
def markc (b : Int) : Bool := decide (b = 45 ∨ b = 46 ∨ b = 95 ∨ b = 126)
def subc (b : Int) : Bool := decide (b = 33 ∨ b = 36 ∨ 38 ≤ b ∧ b ≤ 44 ∨ b = 59 ∨ b = 61)
def genc (b : Int) : Bool := decide (b = 58 ∨ b = 47 ∨ b = 63 ∨ b = 35 ∨ b = 91 ∨ b = 93 ∨ b = 64)
def cls (b : Int) : Int := (if alpha b then 1 else 0) + (if digit b then 2 else 0) + (if markc b then 4 else 0) + (if subc b then 8 else 0) + (if genc b then 16 else 0) + (if hexd b then 32 else 0)
def plainc (b : Int) : Bool := alpha b || digit b || markc b || subc b
def isc (b c : Int) : Bool := Go.bits .and .i64 (cls b) c != 0
theorem isc_digit {b : Int} (h0 : 0 ≤ b) (h1 : b ≤ 255) : isc b 2 = digit b :=
  byte_all (p := fun b => isc b 2 = digit b) (by decide +kernel) h0 h1
theorem isc_plain {b : Int} (h0 : 0 ≤ b) (h1 : b ≤ 255) : isc b 15 = plainc b :=
  byte_all (p := fun b => isc b 15 = plainc b) (by decide +kernel) h0 h1
theorem isc_hex {b : Int} (h0 : 0 ≤ b) (h1 : b ≤ 255) : isc b 32 = hexd b :=
  byte_all (p := fun b => isc b 32 = hexd b) (by decide +kernel) h0 h1
theorem isc_zero {b c : Int} : Go.bits .and .i64 (cls b) c = 0 ↔ isc b c = false := by unfold isc; simp
def hv (b : Int) : Int := if 48 ≤ b ∧ b ≤ 57 then b - 48 else if 65 ≤ b ∧ b ≤ 70 then b - 55 else if 97 ≤ b ∧ b ≤ 102 then b - 87 else -1
theorem hv_range (b : Int) : -1 ≤ hv b ∧ hv b ≤ 15 := by unfold hv; (repeat' split) <;> omega
theorem hv_hexd (b : Int) : (0 ≤ hv b) ↔ hexd b = true := by
  unfold hv hexd
  rw [decide_eq_true_iff]
  (repeat' split) <;> omega
theorem hv_neg (b : Int) : (hv b < 0) ↔ hexd b = false := by
  have h1 := hv_hexd b
  rw [← Bool.not_eq_true, ← h1]
  omega
theorem hexd_plain {b : Int} (h : hexd b = true) : plainc b = true := by
  unfold hexd at h
  unfold plainc alpha digit
  rw [decide_eq_true_iff] at h
  simp only [Bool.or_eq_true, decide_eq_true_iff]
  omega
def spanp (p : Int → Bool) : List Int → Nat
  | [] => 0
  | b :: t => if p b then spanp p t + 1 else 0
theorem spanp_le (p : Int → Bool) (l : List Int) : spanp p l ≤ l.length := by
  induction l with
  | nil => simp [spanp]
  | cons b t ih => unfold spanp; rw [List.length_cons]; split <;> omega
theorem spanp_all {p : Int → Bool} {l : List Int} : spanp p l = l.length ↔ ∀ b ∈ l, p b = true := by
  induction l with
  | nil => simp [spanp]
  | cons b t ih =>
    unfold spanp
    cases hb : p b
    · simp [hb]
    · simp [hb, ← ih]
theorem spanp_take {p : Int → Bool} (l : List Int) : ∀ b ∈ l.take (spanp p l), p b = true := by
  induction l with
  | nil => simp [spanp]
  | cons b t ih =>
    unfold spanp
    cases hb : p b
    · simp
    · simp only [if_true, List.take_succ_cons]
      intro c hc
      rcases List.mem_cons.1 hc with rfl | hc
      · exact hb
      · exact ih c hc
end Go.Proofs.YtdmigmccfdhdiaaDoor.M
namespace Go.Proofs.YtdmigmccfdhdiaaDoor.M
open Go Go.RowKit Go.Proofs.YtdmigmccfdhdiaaDoorW.PrintWords
set_option linter.unusedVariables false
def sidx (sub : List Int) : List Int → Int
  | [] => if sub = [] then 0 else -1
  | b :: t => if sub.isPrefixOf (b :: t) then 0 else if sidx sub t = -1 then -1 else sidx sub t + 1
theorem sidx_cons (sub : List Int) (b : Int) (t : List Int) : sidx sub (b :: t) = if sub.isPrefixOf (b :: t) then 0 else if sidx sub t = -1 then -1 else sidx sub t + 1 := rfl
theorem sidx_ge (sub l : List Int) : -1 ≤ sidx sub l := by
  induction l with
  | nil => unfold sidx; split <;> omega
  | cons b t ih => rw [sidx_cons]; split <;> (try split) <;> omega
theorem prefix_map (a l : List UInt8) : (a.map fun b => (b.toNat : Int)).isPrefixOf (l.map fun b => (b.toNat : Int)) = a.isPrefixOf l := by
  induction a generalizing l with
  | nil => rfl
  | cons x t ih =>
    cases l with
    | nil => rfl
    | cons y r =>
      rw [List.map_cons, List.map_cons, List.isPrefixOf_cons_cons, List.isPrefixOf_cons_cons, ih]
      congr 1
      rw [Bool.eq_iff_iff, beq_iff_eq, beq_iff_eq]
      constructor
      · intro h; exact UInt8.toNat_inj.1 (by omega)
      · intro h; rw [h]
theorem index_sidx (l sub : List UInt8) : Go.Lib.index l sub = sidx (sub.map fun b => (b.toNat : Int)) (l.map fun b => (b.toNat : Int)) := by
  induction l with
  | nil =>
    unfold Go.Lib.index
    rw [List.map_nil]
    unfold sidx
    cases sub <;> simp
  | cons b t ih =>
    unfold Go.Lib.index
    have hp := prefix_map sub (b :: t)
    rw [List.map_cons] at hp ⊢
    rw [sidx_cons, hp, ih]
    by_cases h : sub.isPrefixOf (b :: t) = true
    · rw [if_pos h, if_pos h]
    · rw [if_neg h, if_neg h]
      simp only [beq_iff_eq]
theorem indexB_sidx (s sub : ByteArray) : Go.Lib.indexB s sub = sidx (bytesOf sub) (bytesOf s) := index_sidx _ _
theorem sidx_one (c : Int) (l : List Int) : sidx [c] l = idx c l := by
  induction l with
  | nil => unfold sidx idx; simp
  | cons b t ih =>
    rw [sidx_cons, ih]
    have : idx c (b :: t) = if b = c then 0 else if idx c t = -1 then -1 else idx c t + 1 := rfl
    rw [this]
    by_cases h : b = c
    · rw [if_pos h, if_pos (by simp [h])]
    · rw [if_neg h, if_neg (by simp; exact fun x => h x.symm)]
theorem sidx_split {sub l : List Int} (h : 0 ≤ sidx sub l) : (sidx sub l).toNat + sub.length ≤ l.length ∧ (l.drop (sidx sub l).toNat).take sub.length = sub := by
  induction l with
  | nil =>
    unfold sidx at h ⊢
    by_cases hs : sub = []
    · subst hs; simp
    · rw [if_neg hs] at h; omega
  | cons b t ih =>
    rw [sidx_cons] at h ⊢
    by_cases hp : sub.isPrefixOf (b :: t) = true
    · rw [if_pos hp]
      have := List.isPrefixOf_iff_prefix.1 hp
      refine ⟨?_, ?_⟩
      · have := this.length_le; simpa using this
      · simpa using (List.prefix_iff_eq_take.1 this).symm
    · rw [if_neg hp] at h ⊢
      by_cases h1 : sidx sub t = -1
      · rw [if_pos h1] at h; omega
      · have hg := sidx_ge sub t
        rw [if_neg h1]
        have := ih (by omega)
        have e : (sidx sub t + 1).toNat = (sidx sub t).toNat + 1 := by omega
        rw [e, List.drop_succ_cons, List.length_cons]
        exact ⟨by omega, this.2⟩
def splitC (c : Int) : List Int → List (List Int)
  | [] => [[]]
  | b :: t => if b = c then [] :: splitC c t else (b :: (splitC c t).headD []) :: (splitC c t).tail
theorem splitC_cons (c b : Int) (t : List Int) : splitC c (b :: t) = if b = c then [] :: splitC c t else (b :: (splitC c t).headD []) :: (splitC c t).tail := rfl
theorem splitC_ne (c : Int) (l : List Int) : splitC c l ≠ [] := by
  cases l with
  | nil => simp [splitC]
  | cons b t => rw [splitC_cons]; split <;> simp
theorem splitC_head (c : Int) (l : List Int) : splitC c l = (splitC c l).headD [] :: (splitC c l).tail := by
  cases h : splitC c l with
  | nil => exact absurd h (splitC_ne c l)
  | cons a r => rfl
theorem splitC_none {c : Int} {l : List Int} (h : c ∉ l) : splitC c l = [l] := by
  induction l with
  | nil => rfl
  | cons b t ih =>
    rw [List.mem_cons, not_or] at h
    rw [splitC_cons, if_neg (fun x => h.1 x.symm), ih h.2]; rfl
theorem splitC_at {c : Int} {a : List Int} (h : c ∉ a) (r : List Int) : splitC c (a ++ c :: r) = a :: splitC c r := by
  induction a with
  | nil => rw [List.nil_append, splitC_cons, if_pos rfl]
  | cons b t ih =>
    rw [List.mem_cons, not_or] at h
    rw [List.cons_append, splitC_cons, if_neg (fun x => h.1 x.symm), ih h.2]; rfl
theorem splitC_len (c : Int) (l : List Int) : (splitC c l).length ≤ l.length + 1 := by
  induction l with
  | nil => simp [splitC]
  | cons b t ih =>
    rw [splitC_cons]
    split
    · simp; omega
    · simp only [List.length_cons, List.length_tail]; omega
theorem splitC_mem {c : Int} {l : List Int} : ∀ p ∈ splitC c l, c ∉ p ∧ (∀ b ∈ p, b ∈ l) ∧ p.length ≤ l.length := by
  induction l with
  | nil => intro p hp; simp [splitC] at hp; subst hp; simp
  | cons b t ih =>
    intro p hp
    rw [splitC_cons] at hp
    by_cases h : b = c
    · rw [if_pos h] at hp
      rcases List.mem_cons.1 hp with rfl | hp
      · simp
      · obtain ⟨h1, h2, h3⟩ := ih p hp
        exact ⟨h1, fun x hx => List.mem_cons_of_mem _ (h2 x hx), by rw [List.length_cons]; omega⟩
    · rw [if_neg h] at hp
      rcases List.mem_cons.1 hp with rfl | hp
      · obtain ⟨h1, h2, h3⟩ := ih ((splitC c t).headD []) (by rw [splitC_head c t]; simp)
        refine ⟨?_, ?_, by simp only [List.length_cons]; omega⟩
        · rw [List.mem_cons, not_or]; exact ⟨fun x => h x.symm, h1⟩
        · intro x hx
          rcases List.mem_cons.1 hx with rfl | hx
          · exact List.mem_cons_self ..
          · exact List.mem_cons_of_mem _ (h2 x hx)
      · obtain ⟨h1, h2, h3⟩ := ih p (List.mem_of_mem_tail hp)
        exact ⟨h1, fun x hx => List.mem_cons_of_mem _ (h2 x hx), by rw [List.length_cons]; omega⟩
theorem splitB_splitC (c : Int) (sep : ByteArray) (hsep : bytesOf sep = [c]) : ∀ (k : Nat) (s : ByteArray), Go.Lib.countB s sep = k → (Go.Lib.splitB sep 0 k s).map bytesOf = splitC c (bytesOf s) := by
  have h1 : sep.size = 1 := by rw [← bytes_len, hsep]; rfl
  intro k
  induction k with
  | zero =>
    intro s hk
    rcases Go.Lib.indexB_cases s sep with hix | ⟨i, hix, hr⟩
    · rw [Go.Lib.splitB_zero, List.map_cons, List.map_nil]
      rw [indexB_sidx, hsep, sidx_one] at hix
      rw [splitC_none (idx_none.1 hix)]
    · have := Go.Lib.countB_hit s sep i (by omega) hix; omega
  | succ k ih =>
    intro s hk
    rcases Go.Lib.indexB_cases s sep with hix | ⟨i, hix, hr⟩
    · rw [Go.Lib.countB_miss s sep hix] at hk; omega
    · have hc := Go.Lib.countB_hit s sep i (by omega) hix
      rw [Go.Lib.splitB_hit sep 0 k s i hix, List.map_cons, ih _ (by omega)]
      rw [indexB_sidx, hsep, sidx_one] at hix
      obtain ⟨e1, e2⟩ := idx_split (c := c) (l := bytesOf s) (by omega)
      rw [hix, Int.toNat_natCast] at e1 e2
      conv => rhs; rw [e1]
      rw [splitC_at e2, bytes_extract, bytes_extract, h1, List.drop_zero, Nat.add_zero]
      rw [← bytes_len, List.take_length]
end Go.Proofs.YtdmigmccfdhdiaaDoor.M
namespace Go.Proofs.YtdmigmccfdhdiaaDoor.M
open Go Go.RowKit Go.Proofs.YtdmigmccfdhdiaaDoorW.PrintWords
def shp (b : Int) : Int × Int × Int :=
  if b < 128 then (1, 0, 0) else if 194 ≤ b ∧ b ≤ 223 then (2, 128, 191) else if b = 224 then (3, 160, 191) else if b = 237 then (3, 128, 159)
  else if 225 ≤ b ∧ b ≤ 239 then (3, 128, 191) else if b = 240 then (4, 144, 191) else if b = 244 then (4, 128, 143) else if 241 ≤ b ∧ b ≤ 243 then (4, 128, 191) else (0, 0, 0)
def conts : Nat → Int → Int → List Int → Nat
  | 0, _, _, _ => 0
  | _ + 1, _, _, [] => 0
  | n + 1, lo, hi, c :: t => if lo ≤ c ∧ c ≤ hi then conts n 128 191 t + 1 else 0
def accum (r : Int) : List Int → Int
  | [] => r
  | c :: t => accum (r * 64 + (c - 128)) t
def lead (n b : Int) : Int := if n = 1 then b else if n = 2 then b - 192 else if n = 3 then b - 224 else b - 240
def dec : List Int → Int × Int × Bool
  | [] => (0, 0, false)
  | b :: t => if (shp b).1 = 0 then (0, 1, false)
    else if (conts ((shp b).1.toNat - 1) (shp b).2.1 (shp b).2.2 t : Int) + 1 < (shp b).1 then (0, (conts ((shp b).1.toNat - 1) (shp b).2.1 (shp b).2.2 t : Int) + 1, false)
    else (accum (lead (shp b).1 b) (t.take ((shp b).1.toNat - 1)), (shp b).1, true)
theorem dec_cons (b : Int) (t : List Int) : dec (b :: t) = if (shp b).1 = 0 then (0, 1, false)
    else if (conts ((shp b).1.toNat - 1) (shp b).2.1 (shp b).2.2 t : Int) + 1 < (shp b).1 then (0, (conts ((shp b).1.toNat - 1) (shp b).2.1 (shp b).2.2 t : Int) + 1, false)
    else (accum (lead (shp b).1 b) (t.take ((shp b).1.toNat - 1)), (shp b).1, true) := rfl
theorem shp_range (b : Int) : 0 ≤ (shp b).1 ∧ (shp b).1 ≤ 4 := by
  unfold shp
  (repeat' split) <;> simp
theorem shp_bounds {b : Int} (h : 2 ≤ (shp b).1) : 128 ≤ (shp b).2.1 ∧ (shp b).2.2 ≤ 191 := by
  revert h
  unfold shp
  (repeat' split) <;> simp
theorem shp_lead {b : Int} (h0 : 0 ≤ b) (h1 : b ≤ 255) (h : 1 ≤ (shp b).1) : 0 ≤ lead (shp b).1 b ∧ lead (shp b).1 b < 128 := by
  have := byte_all (p := fun b => 1 ≤ (shp b).1 → 0 ≤ lead (shp b).1 b ∧ lead (shp b).1 b < 128) (by decide +kernel) h0 h1
  exact this h
theorem conts_le (n : Nat) (lo hi : Int) (l : List Int) : conts n lo hi l ≤ n ∧ conts n lo hi l ≤ l.length := by
  induction n generalizing lo hi l with
  | zero => simp [conts]
  | succ n ih =>
    cases l with
    | nil => simp [conts]
    | cons c t =>
      unfold conts
      have := ih 128 191 t
      rw [List.length_cons]
      split <;> omega
theorem conts_mem (n : Nat) (lo hi : Int) (h0 : 128 ≤ lo) (h1 : hi ≤ 191) (l : List Int) : ∀ c ∈ l.take (conts n lo hi l), 128 ≤ c ∧ c ≤ 191 := by
  induction n generalizing lo hi l with
  | zero => simp [conts]
  | succ n ih =>
    cases l with
    | nil => simp [conts]
    | cons c t =>
      unfold conts
      split
      · rename_i h
        simp only [List.take_succ_cons]
        intro d hd
        rcases List.mem_cons.1 hd with rfl | hd
        · omega
        · exact ih 128 191 (by omega) (by omega) t d hd
      · simp
theorem conts_one (lo hi : Int) (l : List Int) : conts 0 lo hi l = 0 := by unfold conts; rfl
theorem dec_n (l : List Int) : 0 ≤ (dec l).2.1 ∧ (dec l).2.1 ≤ 4 ∧ (dec l).2.1 ≤ l.length := by
  cases l with
  | nil => simp [dec]
  | cons b t =>
    have h1 := shp_range b
    have h2 := conts_le ((shp b).1.toNat - 1) (shp b).2.1 (shp b).2.2 t
    rw [List.length_cons, dec_cons]
    split
    · simp only; omega
    · split
      · simp only
        omega
      · simp only
        omega
theorem dec_pos {b : Int} {t : List Int} : 1 ≤ (dec (b :: t)).2.1 := by
  have h1 := shp_range b
  rw [dec_cons]
  split
  · simp
  · split <;> simp only <;> omega
theorem dec_ascii {b : Int} (t : List Int) (h : b < 128) : dec (b :: t) = (b, 1, true) := by
  have : shp b = (1, 0, 0) := by unfold shp; rw [if_pos h]
  rw [dec_cons, this]
  simp [conts, lead, accum]
theorem dec_wide {b : Int} {t : List Int} (h : 128 ≤ b) (hb : b ≤ 255) (ok : (dec (b :: t)).2.2 = true) : 2 ≤ (dec (b :: t)).2.1 ∧ ∀ c ∈ (b :: t).take (dec (b :: t)).2.1.toNat, 128 ≤ c := by
  have h1 := shp_range b
  have h2 : (shp b).1 ≠ 1 := byte_all (p := fun b => 128 ≤ b → (shp b).1 ≠ 1) (by decide +kernel) (by omega) hb h
  rw [dec_cons] at ok ⊢
  by_cases e : (shp b).1 = 0
  · rw [if_pos e] at ok; cases ok
  · rw [if_neg e] at ok ⊢
    by_cases e2 : (conts ((shp b).1.toNat - 1) (shp b).2.1 (shp b).2.2 t : Int) + 1 < (shp b).1
    · rw [if_pos e2] at ok; cases ok
    · rw [if_neg e2]
      have h3 := conts_le ((shp b).1.toNat - 1) (shp b).2.1 (shp b).2.2 t
      have h4 := shp_bounds (b := b) (by omega)
      have h5 := conts_mem ((shp b).1.toNat - 1) (shp b).2.1 (shp b).2.2 h4.1 h4.2 t
      have e3 : (shp b).1.toNat = conts ((shp b).1.toNat - 1) (shp b).2.1 (shp b).2.2 t + 1 := by omega
      refine ⟨by simp only; omega, ?_⟩
      simp only
      rw [e3, List.take_succ_cons]
      intro c hc
      rcases List.mem_cons.1 hc with rfl | hc
      · exact h
      · exact (h5 c hc).1
theorem dec_ok_n {l : List Int} (ok : (dec l).2.2 = true) : 1 ≤ (dec l).2.1 := by
  cases l with
  | nil => cases ok
  | cons b t => exact dec_pos
end Go.Proofs.YtdmigmccfdhdiaaDoor.M
namespace Go.Proofs.YtdmigmccfdhdiaaDoor.M
open Go Go.RowKit Go.Proofs.YtdmigmccfdhdiaaDoorW.PrintWords
set_option linter.unusedVariables false
def escH : List Int → Int
  | p :: a :: b :: _ => if p = 37 then (if hv a < 0 ∨ hv b < 0 then -1 else 16 * hv a + hv b) else -1
  | _ => -1
theorem escH_pos {l : List Int} (h : 0 ≤ escH l) : ∃ a b t, l = 37 :: a :: b :: t ∧ hexd a = true ∧ hexd b = true ∧ escH l = 16 * hv a + hv b := by
  unfold escH at h ⊢
  split at h
  · rename_i p a b t
    by_cases hp : p = 37
    · rw [if_pos hp] at h ⊢
      by_cases h2 : hv a < 0 ∨ hv b < 0
      · rw [if_pos h2] at h; omega
      · rw [if_neg h2]
        subst hp
        exact ⟨a, b, t, rfl, (hv_hexd a).1 (by omega), (hv_hexd b).1 (by omega), rfl⟩
    · rw [if_neg hp] at h; omega
  · omega
def place (p : Int) : Bool := decide (1 ≤ p ∧ p ≤ 7)
def extraIn (p b : Int) : Bool :=
  if p = 1 then b == 58 else if p = 3 then b == 58 || b == 64 else if p = 4 then b == 64 else if p = 5 then b == 58 || b == 64 || b == 47
  else if p = 6 ∨ p = 7 then b == 58 || b == 64 || b == 47 || b == 63 else false
def plainAt (p b : Int) : Bool := place p && (plainc b || extraIn p b)
def common (r : Int) : Bool := decide (160 ≤ r ∧ r ≤ 55295 ∨ 63744 ≤ r ∧ r ≤ 64975 ∨ 65008 ≤ r ∧ r ≤ 65519 ∨ 65536 ≤ r ∧ r ≤ 983037 ∧ r % 65536 ≤ 65533 ∧ (r < 917504 ∨ 921600 ≤ r))
def priv (r : Int) : Bool := decide (57344 ≤ r ∧ r ≤ 63743 ∨ 983040 ≤ r ∧ r ≤ 1048573 ∨ 1048576 ≤ r ∧ r ≤ 1114109)
def mayAt (p : Int) (iri : Bool) (r : Int) : Bool := if 0 ≤ r ∧ r < 128 then plainAt p r else (iri && place p && (common r || (decide (p = 6) && priv r)))
def stepAt (p : Int) (iri : Bool) (l : List Int) : Nat :=
  if place p then (if 0 ≤ escH l then 3 else if (dec l).2.2 && mayAt p iri (dec l).1 then (dec l).2.1.toNat else 0) else 0
theorem step_le (p : Int) (iri : Bool) (l : List Int) : stepAt p iri l ≤ l.length := by
  unfold stepAt
  split
  · split
    · rename_i h
      obtain ⟨a, b, t, rfl, _⟩ := escH_pos h
      simp
    · split
      · have := dec_n l; omega
      · omega
  · omega
theorem step_nil (p : Int) (iri : Bool) : stepAt p iri [] = 0 := by
  have := step_le p iri []
  simpa using this
def spanAt (p : Int) (iri : Bool) (l : List Int) : Nat :=
  if h : stepAt p iri l = 0 then 0 else stepAt p iri l + spanAt p iri (l.drop (stepAt p iri l))
termination_by l.length
decreasing_by
  have := step_le p iri l
  rw [List.length_drop]
  omega
theorem span_eq (p : Int) (iri : Bool) (l : List Int) : spanAt p iri l = if stepAt p iri l = 0 then 0 else stepAt p iri l + spanAt p iri (l.drop (stepAt p iri l)) := by
  rw [spanAt]
  split <;> simp_all
theorem span_le (p : Int) (iri : Bool) (l : List Int) : spanAt p iri l ≤ l.length := by
  induction hn : l.length using Nat.strongRecOn generalizing l with
  | _ n ih =>
    rw [span_eq]
    split
    · omega
    · have h1 := step_le p iri l
      have := ih (l.drop (stepAt p iri l)).length (by rw [List.length_drop]; omega) (l.drop (stepAt p iri l)) rfl
      rw [List.length_drop] at this
      omega
theorem span_nil (p : Int) (iri : Bool) : spanAt p iri [] = 0 := by
  have := span_le p iri []
  simpa using this
def allAt (p : Int) (iri : Bool) (l : List Int) : Bool := spanAt p iri l == l.length
def byteAt (p b : Int) : Bool := decide (128 ≤ b) || (b == 37) || plainc b || extraIn p b
theorem hexd_byteAt {p b : Int} (h : hexd b = true) : byteAt p b = true := by
  unfold byteAt
  rw [hexd_plain h]
  simp
theorem step_bytes {p : Int} {iri : Bool} {l : List Int} (hl : ∀ b ∈ l, 0 ≤ b ∧ b ≤ 255) : ∀ b ∈ l.take (stepAt p iri l), byteAt p b = true := by
  unfold stepAt
  split
  · split
    · rename_i h
      obtain ⟨a, b, t, rfl, ha, hb, _⟩ := escH_pos h
      intro c hc
      simp only [List.take_succ_cons, List.take_zero, List.mem_cons, List.mem_nil_iff, or_false] at hc
      rcases hc with rfl | rfl | rfl
      · simp [byteAt]
      · exact hexd_byteAt ha
      · exact hexd_byteAt hb
    · split
      · rename_i h
        rw [Bool.and_eq_true] at h
        cases l with
        | nil => simp
        | cons b t =>
          have hb := hl b (List.mem_cons_self ..)
          by_cases h128 : b < 128
          · rw [dec_ascii t h128] at h ⊢
            simp only [Int.toNat_one, List.take_succ_cons, List.take_zero]
            intro c hc
            rw [List.mem_singleton] at hc
            subst hc
            have h2 := h.2
            unfold mayAt at h2
            rw [if_pos ⟨hb.1, h128⟩] at h2
            unfold plainAt at h2
            unfold byteAt
            simp only [Bool.and_eq_true, Bool.or_eq_true] at h2 ⊢
            rcases h2.2 with h3 | h3
            · exact .inl (.inr h3)
            · exact .inr h3
          · intro c hc
            have := (dec_wide (t := t) (by omega) hb.2 h.1).2 c hc
            unfold byteAt
            simp [this]
      · simp
  · simp
theorem span_bytes {p : Int} {iri : Bool} {l : List Int} (hl : ∀ b ∈ l, 0 ≤ b ∧ b ≤ 255) : ∀ b ∈ l.take (spanAt p iri l), byteAt p b = true := by
  induction hn : l.length using Nat.strongRecOn generalizing l with
  | _ n ih =>
    rw [span_eq]
    split
    · simp
    · have h1 := step_le p iri l
      have h2 := ih (l.drop (stepAt p iri l)).length (by rw [List.length_drop]; omega) (fun b hb => hl b (List.mem_of_mem_drop hb)) rfl
      intro b hb
      rw [List.take_add] at hb
      rcases List.mem_append.1 hb with h | h
      · exact step_bytes hl b h
      · exact h2 b h
theorem allAt_bytes {p : Int} {iri : Bool} {l : List Int} (hl : ∀ b ∈ l, 0 ≤ b ∧ b ≤ 255) (h : allAt p iri l = true) : ∀ b ∈ l, byteAt p b = true := by
  have h2 : spanAt p iri l = l.length := by simpa [allAt] using h
  have := span_bytes (p := p) (iri := iri) hl
  rw [h2, List.take_length] at this
  exact this
end Go.Proofs.YtdmigmccfdhdiaaDoor.M
namespace Go.Proofs.YtdmigmccfdhdiaaDoor.M
open Go Go.RowKit Go.Proofs.YtdmigmccfdhdiaaDoorW.PrintWords
set_option linter.unusedVariables false
def dval (l : List Int) : Int := l.foldl (fun n b => 10 * n + (b - 48)) 0
def d8 (l : List Int) : Int :=
  if l.length = 0 ∨ 3 < l.length ∨ (1 < l.length ∧ l.headD 0 = 48) then -1 else if l.all digit then (if dval l ≤ 255 then dval l else -1) else -1
def digs (n : Int) : List Int := if n < 10 then [48 + n] else if n < 100 then [48 + n / 10, 48 + n % 10] else [48 + n / 100, 48 + n / 10 % 10, 48 + n % 10]
theorem d8_digs {n : Int} (h0 : 0 ≤ n) (h1 : n ≤ 255) : d8 (digs n) = n :=
  byte_all (p := fun n => d8 (digs n) = n) (by decide +kernel) h0 h1
theorem digit_iff {b : Int} : digit b = true ↔ 48 ≤ b ∧ b ≤ 57 := by unfold digit; rw [decide_eq_true_iff]
theorem digs_d8 {l : List Int} (h : 0 ≤ d8 l) : digs (d8 l) = l ∧ d8 l ≤ 255 := by
  unfold d8 at h ⊢
  by_cases h1 : l.length = 0 ∨ 3 < l.length ∨ (1 < l.length ∧ l.headD 0 = 48)
  · rw [if_pos h1] at h; omega
  · rw [if_neg h1] at h ⊢
    by_cases h2 : l.all digit = true
    · rw [if_pos h2] at h ⊢
      by_cases h3 : dval l ≤ 255
      · rw [if_pos h3] at h ⊢
        refine ⟨?_, h3⟩
        match l, h1, h2, h3 with
        | [], h1, _, _ => simp at h1
        | [a], h1, h2, h3 =>
          simp only [List.all_cons, List.all_nil, Bool.and_true, digit_iff] at h2
          simp only [dval, List.foldl_cons, List.foldl_nil] at h3 ⊢
          unfold digs
          rw [if_pos (by omega)]
          congr 1; omega
        | [a, b], h1, h2, h3 =>
          simp only [List.all_cons, List.all_nil, Bool.and_true, Bool.and_eq_true, digit_iff] at h2
          simp only [List.length_cons, List.length_nil, List.headD_cons] at h1
          simp only [dval, List.foldl_cons, List.foldl_nil] at h3 ⊢
          unfold digs
          rw [if_neg (by omega), if_pos (by omega)]
          congr 1
          · omega
          · congr 1; omega
        | [a, b, c], h1, h2, h3 =>
          simp only [List.all_cons, List.all_nil, Bool.and_true, Bool.and_eq_true, digit_iff] at h2
          simp only [List.length_cons, List.length_nil, List.headD_cons] at h1
          simp only [dval, List.foldl_cons, List.foldl_nil] at h3 ⊢
          unfold digs
          rw [if_neg (by omega), if_neg (by omega)]
          congr 1
          · omega
          · congr 1
            · omega
            · congr 1; omega
        | _ :: _ :: _ :: _ :: _, h1, _, _ => simp only [List.length_cons] at h1; omega
      · rw [if_neg h3] at h; omega
    · rw [if_neg h2] at h; omega
theorem d8_iff {n : Int} {l : List Int} (h0 : 0 ≤ n) (h1 : n ≤ 255) : digs n = l ↔ d8 l = n := by
  constructor
  · intro h; rw [← h]; exact d8_digs h0 h1
  · intro h
    have := (digs_d8 (l := l) (by omega)).1
    rw [h] at this; exact this
theorem dval_nonneg {l : List Int} (h : l.all digit = true) : 0 ≤ dval l := by
  have key : ∀ (l : List Int) (n : Int), 0 ≤ n → l.all digit = true → 0 ≤ l.foldl (fun n b => 10 * n + (b - 48)) n := by
    intro l
    induction l with
    | nil => intro n hn _; exact hn
    | cons b t ih =>
      intro n hn h
      rw [List.all_cons, Bool.and_eq_true, digit_iff] at h
      exact ih _ (by show 0 ≤ 10 * n + (b - 48); omega) h.2
  exact key l 0 (by omega) h
theorem d8_range (l : List Int) : -1 ≤ d8 l ∧ d8 l ≤ 255 := by
  by_cases h : 0 ≤ d8 l
  · have := (digs_d8 h).2; omega
  · unfold d8 at h ⊢
    by_cases h1 : l.length = 0 ∨ 3 < l.length ∨ (1 < l.length ∧ l.headD 0 = 48)
    · rw [if_pos h1]; omega
    · rw [if_neg h1] at h ⊢
      by_cases h2 : l.all digit = true
      · rw [if_pos h2] at h ⊢
        by_cases h3 : dval l ≤ 255
        · rw [if_pos h3] at h ⊢
          have key := dval_nonneg h2
          omega
        · rw [if_neg h3]; omega
      · rw [if_neg h2]; omega
theorem d8_digit {l : List Int} (h : 0 ≤ d8 l) : l.all digit = true := by
  unfold d8 at h
  by_cases h1 : l.length = 0 ∨ 3 < l.length ∨ (1 < l.length ∧ l.headD 0 = 48)
  · rw [if_pos h1] at h; omega
  · rw [if_neg h1] at h
    by_cases h2 : l.all digit = true
    · exact h2
    · rw [if_neg h2] at h; omega
def v4 (l : List Int) : Option (Int × Int × Int × Int) :=
  match splitC 46 l with
  | [a, b, c, d] => if 0 ≤ d8 a ∧ 0 ≤ d8 b ∧ 0 ≤ d8 c ∧ 0 ≤ d8 d then some (d8 a, d8 b, d8 c, d8 d) else none
  | _ => none
theorem v4_dot {l : List Int} (h : 46 ∉ l) : v4 l = none := by
  unfold v4
  rw [splitC_none h]
theorem v4_range {l : List Int} {a b c d : Int} (h : v4 l = some (a, b, c, d)) : (0 ≤ a ∧ a ≤ 255) ∧ (0 ≤ b ∧ b ≤ 255) ∧ (0 ≤ c ∧ c ≤ 255) ∧ 0 ≤ d ∧ d ≤ 255 := by
  unfold v4 at h
  split at h
  · rename_i x y z w _
    split at h
    · simp only [Option.some.injEq, Prod.mk.injEq] at h
      obtain ⟨rfl, rfl, rfl, rfl⟩ := h
      have := d8_range x
      have := d8_range y
      have := d8_range z
      have := d8_range w
      omega
    · cases h
  · cases h
def hval (n : Int) : List Int → Int
  | [] => n
  | b :: t => hval (16 * n + hv b) t
def word (l : List Int) : Int := if l.length = 0 ∨ 4 < l.length then -1 else if l.all hexd then hval 0 l else -1
theorem hval_range : ∀ (l : List Int) (n m : Int), l.all hexd = true → 0 ≤ n → n < m → 0 ≤ hval n l ∧ hval n l < m * 16 ^ l.length := by
  intro l
  induction l with
  | nil => intro n m _ h0 h1; simp [hval]; omega
  | cons b t ih =>
    intro n m h h0 h1
    rw [List.all_cons, Bool.and_eq_true, ← hv_hexd] at h
    have hr := hv_range b
    have := ih (16 * n + hv b) (16 * m) h.2 (by omega) (by omega)
    refine ⟨this.1, Int.lt_of_lt_of_le this.2 ?_⟩
    rw [List.length_cons, Int.pow_succ]
    have : 16 * m * 16 ^ t.length = m * (16 ^ t.length * 16) := by
      rw [Int.mul_comm 16 m, Int.mul_assoc, Int.mul_comm 16]
    omega
theorem word_all {l : List Int} (h : 0 ≤ word l) : l.all hexd = true ∧ 1 ≤ l.length ∧ l.length ≤ 4 := by
  unfold word at h
  by_cases h1 : l.length = 0 ∨ 4 < l.length
  · rw [if_pos h1] at h; omega
  · rw [if_neg h1] at h
    by_cases h2 : l.all hexd = true
    · exact ⟨h2, by omega, by omega⟩
    · rw [if_neg h2] at h; omega
def words (fin : Bool) : List (List Int) → Option (List Int)
  | [] => some []
  | p :: r => if r = [] ∧ fin = true ∧ (v4 p).isSome then (v4 p).map fun x => [256 * x.1 + x.2.1, 256 * x.2.2.1 + x.2.2.2]
    else if word p < 0 then none else (words fin r).map fun l => word p :: l
theorem words_cons (fin : Bool) (p : List Int) (r : List (List Int)) : words fin (p :: r) = if r = [] ∧ fin = true ∧ (v4 p).isSome then (v4 p).map fun x => [256 * x.1 + x.2.1, 256 * x.2.2.1 + x.2.2.2]
    else if word p < 0 then none else (words fin r).map fun l => word p :: l := rfl
theorem words_len {fin : Bool} {r : List (List Int)} {l : List Int} (h : words fin r = some l) : l.length ≤ r.length + 1 := by
  induction r generalizing l with
  | nil => simp [words] at h; subst h; simp
  | cons p r ih =>
    rw [words_cons] at h
    split at h
    · obtain ⟨x, _, rfl⟩ := Option.map_eq_some_iff.1 h
      simp
    · split at h
      · cases h
      · obtain ⟨x, hx, rfl⟩ := Option.map_eq_some_iff.1 h
        have := ih hx
        simp only [List.length_cons]; omega
theorem words_nodot {r : List (List Int)} (h : ∀ p ∈ r, (46 : Int) ∉ p) (fin : Bool) : words fin r = words false r := by
  induction r with
  | nil => rfl
  | cons p r ih =>
    have hp := v4_dot (h p (List.mem_cons_self ..))
    rw [words_cons, words_cons, ih (fun q hq => h q (List.mem_cons_of_mem _ hq)), hp]
    simp
theorem words_hex {r : List (List Int)} {l : List Int} (h : words false r = some l) : ∀ p ∈ r, (46 : Int) ∉ p ∧ p.all hexd = true := by
  induction r generalizing l with
  | nil => simp
  | cons p r ih =>
    rw [words_cons, if_neg (by simp)] at h
    split at h
    · cases h
    · rename_i hw
      obtain ⟨x, hx, rfl⟩ := Option.map_eq_some_iff.1 h
      intro q hq
      rcases List.mem_cons.1 hq with rfl | hq
      · have := (word_all (l := q) (by omega)).1
        refine ⟨fun hm => ?_, this⟩
        have := List.all_eq_true.1 this _ hm
        simp [hexd] at this
      · exact ih hx q hq
def rowS (fin : Bool) (l : List Int) : Option (List Int) := if l = [] then some [] else words fin (splitC 58 l)
def v6 (l : List Int) : Option (List Int) :=
  if sidx [58, 58] l < 0 then (rowS true l).bind fun w => if w.length = 8 then some w else none
  else (rowS false (l.take (sidx [58, 58] l).toNat)).bind fun a => (rowS true (l.drop ((sidx [58, 58] l).toNat + 2))).bind fun b =>
    if a.length + b.length ≤ 7 then some (a ++ List.replicate (8 - a.length - b.length) 0 ++ b) else none
def fut : List Int → Bool
  | [] => false
  | v :: t => (v == 118 || v == 86) && decide (0 < spanp hexd t) && decide (2 ≤ (t.drop (spanp hexd t)).length) && ((t.drop (spanp hexd t)).headD 0 == 46) && ((t.drop (spanp hexd t)).tail.all fun b => plainAt 1 b)
def brack (l : List Int) : Bool := decide (2 ≤ l.length) && (l.headD 0 == 91) && (l.getLastD 0 == 93)
def hostK (iri : Bool) (l : List Int) : Int :=
  if brack l then (if (v6 ((l.take (l.length - 1)).drop 1)).isSome || fut ((l.take (l.length - 1)).drop 1) then 3 else 0)
  else if (v4 l).isSome then 1 else if allAt 2 iri l then 2 else 0
end Go.Proofs.YtdmigmccfdhdiaaDoor.M
namespace Go.Proofs.YtdmigmccfdhdiaaDoor.Y
open Go.RowKit Go.Proofs.YtdmigmccfdhdiaaDoor.X Go.Proofs.YtdmigmccfdhdiaaDoor.M Go.Proofs.YtdmigmccfdhdiaaDoorW.PrintWords Go.Proofs.YtdmigmccfdhdiaaDoorW.PrintLast Go.Proofs.YtdmigmccfdhdiaaDoorW.PrintMore
theorem class_f {b : Int} (h0 : 0 ≤ b) (h1 : b ≤ 255) : Ev (fun k => octet_Class.f k b) (cls b) :=
  Ev.of (fun k => octet_Class.mono b k) (k := 12) (byte_all (p := fun b => octet_Class.f 12 b = some (cls b)) (by decide +kernel) h0 h1)
theorem is_f {b : Int} (c : Int) (h0 : 0 ≤ b) (h1 : b ≤ 255) : Ev (fun k => octet_Is.f k b c) (isc b c) := Ev.bind' (class_f h0 h1) (Ev.now _)
theorem value_f {b : Int} (h0 : 0 ≤ b) (h1 : b ≤ 255) : Ev (fun k => octet_Value.f k b) (if hv b < 0 then (0, false) else (hv b, true)) :=
  Ev.of (fun k => octet_Value.mono b k) (k := 14) (byte_all (p := fun b => octet_Value.f 14 b = some (if hv b < 0 then (0, false) else (hv b, true))) (by decide +kernel) h0 h1)
theorem refClass_f {b : Int} (h0 : 0 ≤ b) (h1 : b ≤ 255) : Ev (fun k => monikerref01_Class.f k b) (cls b) :=
  Ev.of (fun k => monikerref01_Class.mono b k) (k := 60) (byte_all (p := fun b => monikerref01_Class.f 60 b = some (cls b)) (by decide +kernel) h0 h1)
theorem refValue_f {b : Int} (h0 : 0 ≤ b) (h1 : b ≤ 255) : Ev (fun k => monikerref01_Value.f k b) (hv b) :=
  Ev.of (fun k => monikerref01_Value.mono b k) (k := 20) (byte_all (p := fun b => monikerref01_Value.f 20 b = some (hv b)) (by decide +kernel) h0 h1)
theorem at_or_end (s : ByteArray) (n : Nat) (h : n ≤ s.size) : (n = s.size ∧ (bytesOf s).drop n = []) ∨ (n < s.size ∧ (bytesOf s).drop n = bt s (n : Int) :: (bytesOf s).drop (n + 1) ∧ 0 ≤ bt s (n : Int) ∧ bt s (n : Int) ≤ 255) := by
  rcases Nat.lt_or_ge n s.size with h1 | h1
  · right
    have hl : n < (bytesOf s).length := by rw [bytes_len]; exact h1
    refine ⟨h1, ?_, (bt_rng s n).1, (bt_rng s n).2⟩
    rw [List.drop_eq_getElem_cons hl, bt_getD, List.getD_eq_getElem?_getD, List.getElem?_eq_getElem hl]
    rfl
  · left
    exact ⟨by omega, List.drop_of_length_le (by rw [bytes_len]; exact h1)⟩
theorem at_begin (s : ByteArray) : (s.size = 0 ∧ bytesOf s = []) ∨ (0 < s.size ∧ bytesOf s = bt s 0 :: (bytesOf s).drop 1 ∧ 0 ≤ bt s 0 ∧ bt s 0 ≤ 255) := by
  have := at_or_end s 0 (by omega)
  rw [List.drop_zero] at this
  rcases this with ⟨h, e⟩ | h
  · exact .inl ⟨h.symm, e⟩
  · exact .inr h
theorem octSpan_l0 (s : ByteArray) (c : Int) (hs : s.size ≤ 140737488351232) : ∀ d n : Nat, n + d = s.size → Ev (fun k => octet_Span.l0 k s c (s.size : Int) (n : Int)) ((n : Int) + spanp (fun b => isc b c) ((bytesOf s).drop n)) := by
  intro d
  induction d with
  | zero =>
    intro n hn
    refine Ev.step (fun k => rfl) ?_
    refine Ev.ite_neg (by omega) ?_
    rw [List.drop_of_length_le (by rw [bytes_len]; omega)]
    have : ((n : Int) + ((spanp (fun b => isc b c) [] : Nat) : Int)) = (s.size : Int) := by simp [spanp]; omega
    rw [this]
    exact Ev.now _
  | succ d ih =>
    intro n hn
    rcases at_or_end s n (by omega) with ⟨h, _⟩ | ⟨h, e, b0, b1⟩
    · omega
    refine Ev.step (fun k => rfl) ?_
    refine Ev.ite_pos (by omega) (Ev.ite_pos (by omega) (Ev.ite_pos (by omega) (Ev.bind' (is_f c b0 b1) ?_)))
    rw [e]
    cases hb : isc (bt s n) c
    · refine Ev.ite_neg (by simp) ?_
      simp only [spanp, hb, Bool.false_eq_true, if_false]
      exact Ev.now _
    · refine Ev.ite_pos rfl ?_
      rw [w64 (by omega) (by omega)]
      have := ih (n + 1) (by omega)
      simp only [spanp, hb, if_true]
      have e2 : ((n : Int) + ((spanp (fun b => isc b c) ((bytesOf s).drop (n + 1)) + 1 : Nat) : Int)) = ((n + 1 : Nat) : Int) + (spanp (fun b => isc b c) ((bytesOf s).drop (n + 1)) : Int) := by omega
      rw [e2]
      exact this
theorem octSpan_f (s : ByteArray) (c : Int) (hs : s.size ≤ 140737488351232) : Ev (fun k => octet_Span.f k s c) (spanp (fun b => isc b c) (bytesOf s) : Int) := by
  have := octSpan_l0 s c hs s.size 0 (by omega)
  unfold octet_Span.f
  simpa using this
theorem refSpan_l0 (s : ByteArray) (c : Int) (hs : s.size ≤ 140737488351232) : ∀ d n : Nat, n + d = s.size → Ev (fun k => monikerref01_Span.l0 k s c (n : Int)) ((n : Int) + spanp (fun b => isc b c) ((bytesOf s).drop n)) := by
  intro d
  induction d with
  | zero =>
    intro n hn
    refine Ev.step (fun k => rfl) ?_
    refine Ev.ite_neg (by omega) ?_
    rw [List.drop_of_length_le (by rw [bytes_len]; omega)]
    have : ((n : Int) + ((spanp (fun b => isc b c) [] : Nat) : Int)) = (n : Int) := by simp [spanp]
    rw [this]
    exact Ev.now _
  | succ d ih =>
    intro n hn
    rcases at_or_end s n (by omega) with ⟨h, _⟩ | ⟨h, e, b0, b1⟩
    · omega
    refine Ev.step (fun k => rfl) ?_
    refine Ev.ite_pos (by omega) (Ev.ite_pos (by omega) (Ev.bind' (refClass_f b0 b1) ?_))
    rw [e]
    cases hb : isc (bt s n) c
    · refine Ev.ite_pos (isc_zero.2 hb) ?_
      simp only [spanp, hb, Bool.false_eq_true, if_false]
      exact Ev.now _
    · refine Ev.ite_neg (fun h => by rw [isc_zero.1 h] at hb; cases hb) ?_
      rw [w64 (by omega) (by omega)]
      have := ih (n + 1) (by omega)
      simp only [spanp, hb, if_true]
      have e2 : ((n : Int) + ((spanp (fun b => isc b c) ((bytesOf s).drop (n + 1)) + 1 : Nat) : Int)) = ((n + 1 : Nat) : Int) + (spanp (fun b => isc b c) ((bytesOf s).drop (n + 1)) : Int) := by omega
      rw [e2]
      exact this
theorem refSpan_f (s : ByteArray) (c : Int) (hs : s.size ≤ 140737488351232) : Ev (fun k => monikerref01_Span.f k s c) (spanp (fun b => isc b c) (bytesOf s) : Int) := by
  have := refSpan_l0 s c hs s.size 0 (by omega)
  unfold monikerref01_Span.f
  simpa using this
theorem in_l0 (c : Int) (s : ByteArray) (hs : s.size ≤ 140737488351232) : ∀ d n : Nat, n + d = s.size → Ev (fun k => monikerref01_In.l0 k c s (n : Int)) (((bytesOf s).drop n).contains c) := by
  intro d
  induction d with
  | zero =>
    intro n hn
    refine Ev.step (fun k => rfl) (Ev.ite_neg (by omega) ?_)
    rw [List.drop_of_length_le (by rw [bytes_len]; omega)]
    exact Ev.now _
  | succ d ih =>
    intro n hn
    rcases at_or_end s n (by omega) with ⟨h, _⟩ | ⟨h, e, b0, b1⟩
    · omega
    refine Ev.step (fun k => rfl) (Ev.ite_pos (by omega) (Ev.ite_pos (by omega) ?_))
    rw [e, List.contains_cons]
    by_cases hb : bt s n = c
    · refine Ev.ite_pos hb ?_
      rw [hb]
      simp only [beq_self_eq_true, Bool.true_or]
      exact Ev.now _
    · refine Ev.ite_neg hb ?_
      rw [w64 (by omega) (by omega)]
      have : (c == bt s n) = false := by simpa using fun h => hb h.symm
      rw [this, Bool.false_or]
      exact ih (n + 1) (by omega)
theorem in_f (c : Int) (s : ByteArray) (hs : s.size ≤ 140737488351232) : Ev (fun k => monikerref01_In.f k c s) ((bytesOf s).contains c) := in_l0 c s hs s.size 0 (by omega)
end Go.Proofs.YtdmigmccfdhdiaaDoor.Y
namespace Go.Proofs.YtdmigmccfdhdiaaDoor.Y
open Go.RowKit Go.Proofs.YtdmigmccfdhdiaaDoor.X Go.Proofs.YtdmigmccfdhdiaaDoor.M Go.Proofs.YtdmigmccfdhdiaaDoorW.PrintWords Go.Proofs.YtdmigmccfdhdiaaDoorW.PrintLast Go.Proofs.YtdmigmccfdhdiaaDoorW.PrintMore
set_option linter.unusedVariables false
theorem split_f (s sep : ByteArray) (c : Int) (hsep : bytesOf sep = [c]) (hs : s.size < 4294967281) : ∃ R : List ByteArray, strings_Split.f s sep = some R ∧ R.map bytesOf = splitC c (bytesOf s) := by
  have h1 : sep.size = 1 := by rw [← bytes_len, hsep]; rfl
  refine ⟨_, ?_, splitB_splitC c sep hsep _ s rfl⟩
  unfold strings_Split.f
  rw [if_pos ⟨hs, by omega⟩]
theorem strCut_f (s sep : ByteArray) (hs : s.size < 4294967281) (h1 : sep.size ≤ 1000) : strings_Cut.f s sep = some (if sidx (bytesOf sep) (bytesOf s) < 0 then (s, (⟨#[]⟩ : ByteArray), false)
    else (s.extract 0 (sidx (bytesOf sep) (bytesOf s)).toNat, s.extract ((sidx (bytesOf sep) (bytesOf s)).toNat + sep.size) s.size, true)) := by
  unfold strings_Cut.f stringslite_Cut.f stringslite_Index.f
  rw [if_pos hs]
  have e : Go.Lib.index s.data.toList sep.data.toList = sidx (bytesOf sep) (bytesOf s) := index_sidx _ _
  rw [e]
  simp only [Option.bind_some]
  by_cases h : sidx (bytesOf sep) (bytesOf s) < 0
  · rw [if_neg (by omega), if_pos h]; rfl
  · have hsp := sidx_split (sub := bytesOf sep) (l := bytesOf s) (by omega)
    rw [bytes_len, bytes_len] at hsp
    rw [if_pos (by omega), if_pos (by omega), if_pos (by omega), w64 (by omega) (by omega), if_pos (by omega), if_pos (by omega), if_neg h]
    simp only [Option.bind_some]
    have : (sidx (bytesOf sep) (bytesOf s) + (sep.size : Int)).toNat = (sidx (bytesOf sep) (bytesOf s)).toNat + sep.size := by omega
    rw [this]
theorem getLast_rdOf (pre : List ByteArray) (x : ByteArray) : rdOf ByteArray.empty (pre ++ [x]) (((pre ++ [x]).length : Int) - 1) = x := by
  unfold rdOf
  rw [List.length_append, List.length_singleton]
  have : (((pre.length + 1 : Nat) : Int) - 1).toNat = pre.length := by omega
  rw [this]
  simp
theorem parts_l0 (s : ByteArray) (c : Int) (hs : s.size ≤ 1000000) : ∀ d i : Nat, i + d = s.size → ∀ (pre : List ByteArray) (x : ByteArray), pre.length ≤ i → x.size ≤ i →
    ∃ R, Ev (fun k => monikerref19_Parts.l0 k s c (pre ++ [x]) (i : Int)) R ∧ R.map bytesOf = pre.map bytesOf ++ (bytesOf x ++ (splitC c ((bytesOf s).drop i)).headD []) :: (splitC c ((bytesOf s).drop i)).tail := by
  intro d
  induction d with
  | zero =>
    intro i hi pre x hp hx
    refine ⟨pre ++ [x], ?_, ?_⟩
    · refine Ev.step (fun k => by rw [monikerref19_Parts.l0]) ?_
      exact Ev.ite_neg (by omega) (Ev.now _)
    · rw [List.drop_of_length_le (by rw [bytes_len]; omega)]
      simp [splitC]
  | succ d ih =>
    intro i hi pre x hp hx
    rcases at_or_end s i (by omega) with ⟨h, _⟩ | ⟨h, e, b0, b1⟩
    · omega
    rw [e, splitC_cons]
    by_cases hb : bt s (i : Int) = c
    · obtain ⟨R, h1, h2⟩ := ih (i + 1) (by omega) (pre ++ [x]) (⟨#[]⟩ : ByteArray) (by rw [List.length_append]; simp; omega) (by show 0 ≤ _; omega)
      refine ⟨R, ?_, ?_⟩
      · refine Ev.step (fun k => by rw [monikerref19_Parts.l0]) ?_
        refine Ev.ite_pos (by omega) (Ev.ite_pos (by omega) (Ev.ite_pos hb (Ev.ite_pos (by rw [List.length_append]; simp; omega) ?_)))
        rw [w64 (by omega) (by omega)]
        exact h1
      · rw [h2, if_pos hb]
        have : bytesOf (⟨#[]⟩ : ByteArray) = [] := rfl
        rw [this, List.map_append]
        simp only [List.map_cons, List.map_nil, List.nil_append, List.headD_cons, List.tail_cons, List.append_nil, List.append_assoc, List.singleton_append]
        rw [← splitC_head]
    · have hx1 : (s.extract i (i + 1)).size = 1 := by rw [← bytes_len, bytes_extract, List.length_drop, List.length_take, bytes_len]; omega
      have hsz : (x ++ s.extract i (i + 1)).size = x.size + 1 := by
        rw [ByteArray.size_append, hx1]
      obtain ⟨R, h1, h2⟩ := ih (i + 1) (by omega) pre (x ++ s.extract i (i + 1)) (by omega) (by omega)
      refine ⟨R, ?_, ?_⟩
      · refine Ev.step (fun k => by rw [monikerref19_Parts.l0]) ?_
        have hl : (pre ++ [x]).length = pre.length + 1 := by simp
        rw [w64 (x := ((pre ++ [x]).length : Int) - 1) (by omega) (by omega), w64 (x := (i : Int) + 1) (by omega) (by omega), getLast_rdOf]
        have e1 : ((i : Int) + 1).toNat = i + 1 := by omega
        have e2 : (((pre ++ [x]).length : Int) - 1).toNat = pre.length := by omega
        rw [e1, e2, Int.toNat_natCast, hx1]
        refine Ev.ite_pos (by omega) (Ev.ite_pos (by omega) (Ev.ite_neg hb (Ev.ite_pos (by omega) (Ev.ite_pos (by omega) (Ev.ite_pos (by omega) (Ev.ite_pos (by omega) (Ev.ite_pos (by omega) ?_)))))))
        have e3 : (pre ++ [x]).set pre.length (x ++ s.extract i (i + 1)) = pre ++ [x ++ s.extract i (i + 1)] := by simp
        rw [e3]
        exact h1
      · rw [h2, if_neg hb, bytes_append, bytes_extract]
        have : ((bytesOf s).take (i + 1)).drop i = [bt s (i : Int)] := by
          rw [List.drop_take, e, show i + 1 - i = 1 by omega, List.take_succ_cons, List.take_zero]
        rw [this]
        simp
theorem parts_f (s : ByteArray) (c : Int) (hs : s.size ≤ 1000000) : ∃ R, Ev (fun k => monikerref19_Parts.f k s c) R ∧ R.map bytesOf = splitC c (bytesOf s) := by
  obtain ⟨R, h1, h2⟩ := parts_l0 s c hs s.size 0 (by omega) [] (⟨#[]⟩ : ByteArray) (by simp) (by show 0 ≤ _; omega)
  refine ⟨R, h1, ?_⟩
  rw [h2, List.drop_zero]
  have : bytesOf (⟨#[]⟩ : ByteArray) = [] := rfl
  rw [this]
  simp only [List.map_nil, List.nil_append]
  rw [← splitC_head]
theorem rdOf_map {R : List ByteArray} {L : List (List Int)} (h : R.map bytesOf = L) (i : Nat) : bytesOf (rdOf ByteArray.empty R (i : Int)) = L.getD i [] := by
  subst h
  unfold rdOf
  rw [Int.toNat_natCast, List.getD_eq_getElem?_getD, List.getD_eq_getElem?_getD, List.getElem?_map]
  cases R[i]? with
  | none => rfl
  | some x => rfl
end Go.Proofs.YtdmigmccfdhdiaaDoor.Y
