/- Texts that the law's proof needs, joined by a program of this session. -/
import Derived.Test.YtdmigmccfdhdiaaDoorZSeatOne0
import Derived.Test.YtdmigmccfdhdiaaDoorZSeatOne1
import Derived.Test.YtdmigmccfdhdiaaDoorZSeatOne3
import Derived.Test.YtdmigmccfdhdiaaDoorZSeatOne8
import Derived.Test.YtdmigmccfdhdiaaDoorZSeatOne15
import Derived.Lib.Bytealg
import Derived.Laws.Strings
import Derived.Lib.Split
import Derived.Lib.SplitLaws
namespace Go.Proofs.YtdmigmccfdhdiaaDoor.X
open Go.RowKit Go.Proofs.YtdmigmccfdhdiaaDoorW.PrintWords Go.Proofs.YtdmigmccfdhdiaaDoorW.PrintLast Go.Proofs.YtdmigmccfdhdiaaDoorW.PrintMore
attribute [local go_sem] max2_int min2_int max_two min_two max_three min_three max_four min_four
set_option linter.unusedVariables false
set_option linter.unusedSimpArgs false
attribute [local go_sem high] eqA24
def monikerlaw21_SeatOne.f (k : Nat) (a0 : Bool) (a1 : ByteArray) : Option (Bool) := if (a1.size : Int) > 60 then ((monikerlaw21_awake.f k).bind fun t369 => (some t369)) else ((seat_Parse.f k a0 a1).bind fun bt370 => ((monikerref21_All.f k a0 a1).bind fun t377 => (if (t377.length : Int) = 0 then (if bt370.2.2.2.2.2 = true then (some false) else (if (!bt370.1 && (bt370.2.1.toList == ([] : List UInt8) && (bt370.2.2.1.toList == ([] : List UInt8) && (!bt370.2.2.2.1 && (bt370.2.2.2.2.1.toList == ([] : List UInt8)))))) = true then ((monikerlaw21_awake.f k).bind fun t380 => (some t380)) else (some false))) else (if (t377.length : Int) = 1 then (if bt370.2.2.2.2.2 = true then (if 0 < (t377.length : Int) then (if (bt370.1 == ((rd_T24 t377 0).f0) && (bt370.2.1.toList == (((rd_T24 t377 0).f1).toList) && (bt370.2.2.1.toList == (((rd_T24 t377 0).f2).toList) && (bt370.2.2.2.1 == ((rd_T24 t377 0).f3) && (bt370.2.2.2.2.1.toList == (((rd_T24 t377 0).f4).toList)))))) = true then ((monikerlaw21_awake.f k).bind fun t382 => (some t382)) else (some false)) else (none)) else (some false)) else (some false)))))
theorem monikerlaw21_SeatOne.mono : ∀ a0 a1 k, LeO (monikerlaw21_SeatOne.f k a0 a1) (monikerlaw21_SeatOne.f (k + 1) a0 a1) := by
  intro a0 a1 k
  have m0 := @monikerlaw21_awake.mono; have m1 := @monikerref21_All.mono; have m2 := @seat_Parse.mono
  unfold monikerlaw21_SeatOne.f
  exact xmo
def monikerlaw21_SeatOne.T7 : Bool × List (List Nat × List Nat) := (true, [([], []), ([0], [0]), ([1], [1]), ([2], [2]), ([3], [3]), ([3, 4], [3, 4]), ([5, 3], [5]), ([6], [6]), ([6], [6]), ([8, 6], [6, 8]), ([9, 6], [6, 9]), ([7, 10, 6], [6, 7, 10]), ([6, 11], [6, 11]), ([12, 6], [12]), ([13, 13], [13]), ([13, 14], [13, 14]), ([15, 14, 0, 1, 2, 3, 4, 5, 6, 7, 8, 9, 10, 11, 12, 13, 14, 15], [15])])
def monikerlaw21_SeatOne.B7 : List Nat := [0, 1, 3, 7, 15, 31, 63, 127, 127, 383, 895, 2047, 4095, 8191, 16383, 32767, 65535]
theorem monikerlaw21_SeatOne.tab7 : rtab .any (opsOf Tryd.f3 7) = monikerlaw21_SeatOne.T7 := by kernel_rfl
theorem monikerlaw21_SeatOne.bits7 : waitsOk monikerlaw21_SeatOne.T7.2 monikerlaw21_SeatOne.B7 = true := by kernel_rfl
set_option maxHeartbeats 8000000 in
set_option maxRecDepth 100000 in
theorem monikerlaw21_SeatOne.calls (k : Nat) (a0 : Bool) (a1 : ByteArray) (r : Bool) (w : World) (hG : GW w) (h : monikerlaw21_SeatOne.f k a0 a1 = some r) :
    Calls Tryd.prog 3 #[.bool a0, .string a1] w fun e w' => e = .returned (.bool r) ∧ Below w.heap.size w w' := by
 have hu24 := Tryd.underlying24
 have HB := Aside0.mk (Below.refl w.heap.size w)
 have H : (if (a1.size : Int) > 60 then ((monikerlaw21_awake.f k).bind fun t369 => (some t369)) else ((seat_Parse.f k a0 a1).bind fun bt370 => ((monikerref21_All.f k a0 a1).bind fun t377 => (if (t377.length : Int) = 0 then (if bt370.2.2.2.2.2 = true then (some false) else (if (!bt370.1 && (bt370.2.1.toList == ([] : List UInt8) && (bt370.2.2.1.toList == ([] : List UInt8) && (!bt370.2.2.2.1 && (bt370.2.2.2.2.1.toList == ([] : List UInt8)))))) = true then ((monikerlaw21_awake.f k).bind fun t380 => (some t380)) else (some false))) else (if (t377.length : Int) = 1 then (if bt370.2.2.2.2.2 = true then (if 0 < (t377.length : Int) then (if (bt370.1 == ((rd_T24 t377 0).f0) && (bt370.2.1.toList == (((rd_T24 t377 0).f1).toList) && (bt370.2.2.1.toList == (((rd_T24 t377 0).f2).toList) && (bt370.2.2.2.1 == ((rd_T24 t377 0).f3) && (bt370.2.2.2.2.1.toList == (((rd_T24 t377 0).f4).toList)))))) = true then ((monikerlaw21_awake.f k).bind fun t382 => (some t382)) else (some false)) else (none)) else (some false)) else (some false)))))) = some r := h
 clear h
 by_cases c3 : (a1.size : Int) > 60
 ·
  rw [if_pos c3] at H
  have c3b0 := decide_eq_true c3
  have c3b1 : decide (60 < a1.size) = true := decide_eq_true (by omega)
  clear c3
  replace H := Option.bind_eq_some_iff.mp H
  obtain ⟨t369, A40, H⟩ := H
  try dsimp only at H
  have A4 := Aside0.mk A40
  clear A40
  obtain rfl := Option.some.inj H
  go_enter Tryd.func3, Tryd.ntmps3
  go_wp2_with (first | ((with_reducible refine gate_callee (f := 5) rfl ?_); refine xgl 11 Tryd.func5 #[] ?_; (with_reducible refine (monikerlaw21_awake.calls k  t369 _ A4.out).mono ?_); rintro e w5 ⟨rfl, hb⟩; refine ⟨_, rfl, ?_⟩; replace HB := xst hb; (try clear hb)))
  go_ret
  exact ⟨xre, xbl⟩
 ·
  rw [if_neg c3] at H
  have c3b0 := decide_eq_false c3
  have c3b1 : decide (60 < a1.size) = false := decide_eq_false (by omega)
  clear c3
  replace H := Option.bind_eq_some_iff.mp H
  obtain ⟨⟨t370, t371, t372, t373, t374, t375⟩, A60, H⟩ := H
  try dsimp only at H
  have A6 := Aside0.mk A60
  clear A60
  replace H := Option.bind_eq_some_iff.mp H
  obtain ⟨t377, A70, H⟩ := H
  try dsimp only at H
  have A7 := Aside0.mk A70
  clear A70
  by_cases c8 : (t377.length : Int) = 0
  ·
   rw [if_pos c8] at H
   have c8b0 : ((t377.length : Int) == 0) = true := beq_iff_eq.mpr c8
   have c8b1 : ((t377.length : Int) != 0) = false := bne_eq_false_iff_eq.mpr c8
   clear c8
   by_cases c9 : t375 = true
   ·
    subst c9
    rw [if_pos rfl] at H
    obtain rfl := Option.some.inj H
    go_enter Tryd.func3, Tryd.ntmps3
    go_wp2_with (first | ((with_reducible refine gate_callee (f := 6) rfl ?_); refine xgl 15 Tryd.func6 #[.bool a0, .string a1] ?_; (with_reducible refine (seat_Parse.calls k a0 a1 t370 t371 t372 t373 t374 true _ ?side1 A6.out).mono ?_); (case side1 => first | exact hG | exact GW_to hG xbl); rintro e w10 ⟨rfl, hb⟩; refine ⟨_, rfl, ?_⟩; replace HB := xst hb; (try clear hb)) | ((with_reducible refine gate_dst (N := 5) rfl ?_); refine xev 5 #[.bool false, .string (⟨#[]⟩ : ByteArray), .string (⟨#[]⟩ : ByteArray), .bool false, .string (⟨#[]⟩ : ByteArray)] 24 ?_; intro gb376 hg w11 hbox hb; have BK376 := Aside0.mk (hbox); have GW376 := xsz hg; have GE376 := GW376; replace HB := xst hb; clear hb hbox hg; obtain ⟨hcz12_0, hcz12_1, hcz12_2, hcz12_3, hcz12_4⟩ := xc5 BK376; have hfz12_0 := xf BK376 0; have hfz12_1 := xf BK376 1; have hfz12_2 := xf BK376 2; have hfz12_3 := xf BK376 3; have hfz12_4 := xf BK376 4) | ((with_reducible refine gate_callee (f := 7) rfl ?_); refine xgl 20 Tryd.func7 #[.bool a0, .string a1] ?_; (with_reducible refine (monikerref21_All.calls k a0 a1 t377 _ A7.out).mono ?_); rintro e w13 ⟨v378, rfl, ho0, hb⟩; refine ⟨_, rfl, ?_⟩; have HO379 := Aside0.mk (Kd.R_lower (Kd.R_newB ho0 (g := gb376) (o := .cells #[.bool t370, .string t371, .string t372, .bool t373, .string t374] 24 (0, 0)) xbk) (below_size xbl)); replace BK376 := xbb (g := gb376) (o := .cells #[.bool t370, .string t371, .string t372, .bool t373, .string t374] 24 (0, 0)) hb; replace HB := xst hb; (try clear hb); (try clear ho0); obtain ⟨Ao14, co14, eo14⟩ := Kd.R_slice HO379.out; subst eo14))
    go_ret
    exact ⟨xre, xbl⟩
   ·
    replace c9 := Bool.eq_false_iff.mpr c9
    subst c9
    rw [if_neg (show ¬ (false = true) by decide)] at H
    by_cases c15 : (!t370 && (t371.toList == ([] : List UInt8) && (t372.toList == ([] : List UInt8) && (!t373 && (t374.toList == ([] : List UInt8)))))) = true
    ·
     rw [if_pos c15] at H
     have c15b0 : (!t370 && (t371.toList == ([] : List UInt8) && (t372.toList == ([] : List UInt8) && (!t373 && (t374.toList == ([] : List UInt8)))))) = true := c15
     try (have c15b0e := c15b0; simp only [xp_empty] at c15b0e)
     clear c15
     replace H := Option.bind_eq_some_iff.mp H
     obtain ⟨t380, A160, H⟩ := H
     try dsimp only at H
     have A16 := Aside0.mk A160
     clear A160
     obtain rfl := Option.some.inj H
     go_enter Tryd.func3, Tryd.ntmps3
     go_wp2_with (first | ((with_reducible refine gate_callee (f := 6) rfl ?_); refine xgl 15 Tryd.func6 #[.bool a0, .string a1] ?_; (with_reducible refine (seat_Parse.calls k a0 a1 t370 t371 t372 t373 t374 false _ ?side1 A6.out).mono ?_); (case side1 => first | exact hG | exact GW_to hG xbl); rintro e w17 ⟨rfl, hb⟩; refine ⟨_, rfl, ?_⟩; replace HB := xst hb; (try clear hb)) | ((with_reducible refine gate_dst (N := 5) rfl ?_); refine xev 5 #[.bool false, .string (⟨#[]⟩ : ByteArray), .string (⟨#[]⟩ : ByteArray), .bool false, .string (⟨#[]⟩ : ByteArray)] 24 ?_; intro gb376 hg w18 hbox hb; have BK376 := Aside0.mk (hbox); have GW376 := xsz hg; have GE376 := GW376; replace HB := xst hb; clear hb hbox hg; obtain ⟨hcz19_0, hcz19_1, hcz19_2, hcz19_3, hcz19_4⟩ := xc5 BK376; have hfz19_0 := xf BK376 0; have hfz19_1 := xf BK376 1; have hfz19_2 := xf BK376 2; have hfz19_3 := xf BK376 3; have hfz19_4 := xf BK376 4) | ((with_reducible refine gate_callee (f := 7) rfl ?_); refine xgl 20 Tryd.func7 #[.bool a0, .string a1] ?_; (with_reducible refine (monikerref21_All.calls k a0 a1 t377 _ A7.out).mono ?_); rintro e w20 ⟨v378, rfl, ho0, hb⟩; refine ⟨_, rfl, ?_⟩; have HO379 := Aside0.mk (Kd.R_lower (Kd.R_newB ho0 (g := gb376) (o := .cells #[.bool t370, .string t371, .string t372, .bool t373, .string t374] 24 (0, 0)) xbk) (below_size xbl)); replace BK376 := xbb (g := gb376) (o := .cells #[.bool t370, .string t371, .string t372, .bool t373, .string t374] 24 (0, 0)) hb; replace HB := xst hb; (try clear hb); (try clear ho0); obtain ⟨Ao21, co21, eo21⟩ := Kd.R_slice HO379.out; subst eo21; obtain ⟨hcz22_0, hcz22_1, hcz22_2, hcz22_3, hcz22_4⟩ := xc5 BK376; have hfz22_0 := xf BK376 0; have hfz22_1 := xf BK376 1; have hfz22_2 := xf BK376 2; have hfz22_3 := xf BK376 3; have hfz22_4 := xf BK376 4) | (go_at_call 5; (with_reducible refine (monikerlaw21_awake.calls k  t380 _ A16.out).mono ?_); rintro e w23 ⟨rfl, hb⟩; replace HO379 := Aside0.mk (Kd.R_below (xkd HO379) hb); replace BK376 := xbb (g := gb376) (o := .cells #[.bool t370, .string t371, .string t372, .bool t373, .string t374] 24 (0, 0)) hb; replace HB := xst hb; (try clear hb)))
     go_ret
     exact ⟨xre, xbl⟩
    ·
     rw [if_neg c15] at H
     have c15b0 : (!t370 && (t371.toList == ([] : List UInt8) && (t372.toList == ([] : List UInt8) && (!t373 && (t374.toList == ([] : List UInt8)))))) = false := by simpa using c15
     try (have c15b0e := c15b0; simp only [xp_empty] at c15b0e)
     clear c15
     obtain rfl := Option.some.inj H
     go_enter Tryd.func3, Tryd.ntmps3
     go_wp2_with (first | ((with_reducible refine gate_callee (f := 6) rfl ?_); refine xgl 15 Tryd.func6 #[.bool a0, .string a1] ?_; (with_reducible refine (seat_Parse.calls k a0 a1 t370 t371 t372 t373 t374 false _ ?side1 A6.out).mono ?_); (case side1 => first | exact hG | exact GW_to hG xbl); rintro e w24 ⟨rfl, hb⟩; refine ⟨_, rfl, ?_⟩; replace HB := xst hb; (try clear hb)) | ((with_reducible refine gate_dst (N := 5) rfl ?_); refine xev 5 #[.bool false, .string (⟨#[]⟩ : ByteArray), .string (⟨#[]⟩ : ByteArray), .bool false, .string (⟨#[]⟩ : ByteArray)] 24 ?_; intro gb376 hg w25 hbox hb; have BK376 := Aside0.mk (hbox); have GW376 := xsz hg; have GE376 := GW376; replace HB := xst hb; clear hb hbox hg; obtain ⟨hcz26_0, hcz26_1, hcz26_2, hcz26_3, hcz26_4⟩ := xc5 BK376; have hfz26_0 := xf BK376 0; have hfz26_1 := xf BK376 1; have hfz26_2 := xf BK376 2; have hfz26_3 := xf BK376 3; have hfz26_4 := xf BK376 4) | ((with_reducible refine gate_callee (f := 7) rfl ?_); refine xgl 20 Tryd.func7 #[.bool a0, .string a1] ?_; (with_reducible refine (monikerref21_All.calls k a0 a1 t377 _ A7.out).mono ?_); rintro e w27 ⟨v378, rfl, ho0, hb⟩; refine ⟨_, rfl, ?_⟩; have HO379 := Aside0.mk (Kd.R_lower (Kd.R_newB ho0 (g := gb376) (o := .cells #[.bool t370, .string t371, .string t372, .bool t373, .string t374] 24 (0, 0)) xbk) (below_size xbl)); replace BK376 := xbb (g := gb376) (o := .cells #[.bool t370, .string t371, .string t372, .bool t373, .string t374] 24 (0, 0)) hb; replace HB := xst hb; (try clear hb); (try clear ho0); obtain ⟨Ao28, co28, eo28⟩ := Kd.R_slice HO379.out; subst eo28; obtain ⟨hcz29_0, hcz29_1, hcz29_2, hcz29_3, hcz29_4⟩ := xc5 BK376; have hfz29_0 := xf BK376 0; have hfz29_1 := xf BK376 1; have hfz29_2 := xf BK376 2; have hfz29_3 := xf BK376 3; have hfz29_4 := xf BK376 4))
     go_ret
     exact ⟨xre, xbl⟩
  ·
   rw [if_neg c8] at H
   have c8b0 : ((t377.length : Int) == 0) = false := beq_eq_false_iff_ne.mpr c8
   have c8b1 : ((t377.length : Int) != 0) = true := bne_iff_ne.mpr c8
   have c8b2 : ¬ (t377 = []) := fun h_ => c8 (by rw [h_]; rfl)
   by_cases c30 : (t377.length : Int) = 1
   ·
    rw [if_pos c30] at H
    have c30b0 : ((t377.length : Int) == 1) = true := beq_iff_eq.mpr c30
    have c30b1 : ((t377.length : Int) != 1) = false := bne_eq_false_iff_eq.mpr c30
    clear c30
    by_cases c31 : t375 = true
    ·
     subst c31
     rw [if_pos rfl] at H
     by_cases c32 : 0 < (t377.length : Int)
     ·
      rw [if_pos c32] at H
      have c32b0 := decide_eq_true c32
      have c32b1 : decide (0 < t377.length) = true := decide_eq_true (by omega)
      clear c32
      by_cases c33 : (t370 == ((rd_T24 t377 0).f0) && (t371.toList == (((rd_T24 t377 0).f1).toList) && (t372.toList == (((rd_T24 t377 0).f2).toList) && (t373 == ((rd_T24 t377 0).f3) && (t374.toList == (((rd_T24 t377 0).f4).toList)))))) = true
      ·
       rw [if_pos c33] at H
       have c33b0 : (t370 == ((rd_T24 t377 0).f0) && (t371.toList == (((rd_T24 t377 0).f1).toList) && (t372.toList == (((rd_T24 t377 0).f2).toList) && (t373 == ((rd_T24 t377 0).f3) && (t374.toList == (((rd_T24 t377 0).f4).toList)))))) = true := c33
       (try (have c33b1 : decide (t370 = ((rd_T24 t377 0).f0) && (t371.toList == (((rd_T24 t377 0).f1).toList) && (t372.toList == (((rd_T24 t377 0).f2).toList) && (t373 == ((rd_T24 t377 0).f3) && (t374.toList == (((rd_T24 t377 0).f4).toList)))))) = true := by simpa using c33))
       (try (have c33b2 : (t370 == ((rd_T24 t377 0).f0) && (t371.toList == (((rd_T24 t377 0).f1).toList) && (t372.toList == (((rd_T24 t377 0).f2).toList) && (t373 == ((rd_T24 t377 0).f3) && (t374.toList == (((rd_T24 t377 0).f4).toList)))))) = true := by simpa using c33))
       clear c33
       replace H := Option.bind_eq_some_iff.mp H
       obtain ⟨t382, A340, H⟩ := H
       try dsimp only at H
       have A34 := Aside0.mk A340
       clear A340
       obtain rfl := Option.some.inj H
       go_enter Tryd.func3, Tryd.ntmps3
       try go_wp2_with (first | ((with_reducible refine gate_callee (f := 6) rfl ?_); refine xgl 15 Tryd.func6 #[.bool a0, .string a1] ?_; (with_reducible refine (seat_Parse.calls k a0 a1 t370 t371 t372 t373 t374 true _ ?side1 A6.out).mono ?_); (case side1 => first | exact hG | exact GW_to hG xbl); rintro e w35 ⟨rfl, hb⟩; refine ⟨_, rfl, ?_⟩; replace HB := xst hb; (try clear hb)) | ((with_reducible refine gate_dst (N := 5) rfl ?_); refine xev 5 #[.bool false, .string (⟨#[]⟩ : ByteArray), .string (⟨#[]⟩ : ByteArray), .bool false, .string (⟨#[]⟩ : ByteArray)] 24 ?_; intro gb376 hg w36 hbox hb; have BK376 := Aside0.mk (hbox); have GW376 := xsz hg; have GE376 := GW376; replace HB := xst hb; clear hb hbox hg; obtain ⟨hcz37_0, hcz37_1, hcz37_2, hcz37_3, hcz37_4⟩ := xc5 BK376; have hfz37_0 := xf BK376 0; have hfz37_1 := xf BK376 1; have hfz37_2 := xf BK376 2; have hfz37_3 := xf BK376 3; have hfz37_4 := xf BK376 4) | ((with_reducible refine gate_callee (f := 7) rfl ?_); refine xgl 20 Tryd.func7 #[.bool a0, .string a1] ?_; (with_reducible refine (monikerref21_All.calls k a0 a1 t377 _ A7.out).mono ?_); rintro e w38 ⟨v378, rfl, ho0, hb⟩; refine ⟨_, rfl, ?_⟩; have HO379 := Aside0.mk (Kd.R_lower (Kd.R_newB ho0 (g := gb376) (o := .cells #[.bool t370, .string t371, .string t372, .bool t373, .string t374] 24 (0, 0)) xbk) (below_size xbl)); replace BK376 := xbb (g := gb376) (o := .cells #[.bool t370, .string t371, .string t372, .bool t373, .string t374] 24 (0, 0)) hb; replace HB := xst hb; (try clear hb); (try clear ho0); obtain ⟨Ao39, co39, eo39⟩ := Kd.R_slice HO379.out; subst eo39))
       have n0_ := Aside0.mk (Kd.R_drew HO379.out)
       have n1_ := Aside0.mk (blk_drew BK376.out)
       have n2_ := Aside0.mk (below_drew1 HB.out)
       clear HO379
       clear BK376
       clear HB
       have HO379 := n0_
       have BK376 := n1_
       have HB := n2_
       clear n0_ n1_ n2_
       have p381 : 0 ≤ (0 : Int) := (by omega)
       have q381 : 0 < (t377.length : Int) := xod
       obtain ⟨ad381, e381, hx381_0, hx381_1, hx381_2, hx381_3, hx381_4⟩ := at_T24 (Kd.R_reads' HO379.out).2.2 0 p381 q381
       cases e381
       have qi381 : (0 < t377.length) = True := eq_true (by omega)
       (try rw [show ((0 : Int)).toNat = 0 from rfl] at hx381_0)
       (try rw [show 0 * 5 = 0 from rfl] at hx381_0)
       (try rw [Addr.add_zero'] at hx381_0)
       (try rw [show ((0 : Int)).toNat = 0 from rfl] at hx381_1)
       (try rw [show 0 * 5 = 0 from rfl] at hx381_1)
       (try rw [Addr.add_zero'] at hx381_1)
       (try rw [show ((0 : Int)).toNat = 0 from rfl] at hx381_2)
       (try rw [show 0 * 5 = 0 from rfl] at hx381_2)
       (try rw [Addr.add_zero'] at hx381_2)
       (try rw [show ((0 : Int)).toNat = 0 from rfl] at hx381_3)
       (try rw [show 0 * 5 = 0 from rfl] at hx381_3)
       (try rw [Addr.add_zero'] at hx381_3)
       (try rw [show ((0 : Int)).toNat = 0 from rfl] at hx381_4)
       (try rw [show 0 * 5 = 0 from rfl] at hx381_4)
       (try rw [Addr.add_zero'] at hx381_4)
       replace p381 := eq_true p381
       replace q381 := eq_true q381
       try (have q381x := q381; simp only [ByteArray.size_extract, Nat.min_self] at q381x)
       refine start_ (n := 17) (S := fun w' => w'.cell? ⟨gb376, 0, none⟩ = some (.bool t370) ∧ w'.cell? ⟨gb376, 1, none⟩ = some (.string t371) ∧ w'.cell? ⟨gb376, 2, none⟩ = some (.string t372) ∧ w'.cell? ⟨gb376, 3, none⟩ = some (.bool t373) ∧ w'.cell? ⟨gb376, 4, none⟩ = some (.string t374) ∧ w'.cell? ad381 = some (.bool ((rd_T24 t377 0).f0)) ∧ w'.cell? ⟨ad381.block, ad381.off + 1, none⟩ = some (.string ((rd_T24 t377 0).f1)) ∧ w'.cell? ⟨ad381.block, ad381.off + 2, none⟩ = some (.string ((rd_T24 t377 0).f2)) ∧ w'.cell? ⟨ad381.block, ad381.off + 3, none⟩ = some (.bool ((rd_T24 t377 0).f3)) ∧ w'.cell? ⟨ad381.block, ad381.off + 4, none⟩ = some (.string ((rd_T24 t377 0).f4))) (ds := []) #[false, false, false, false, false, false, false, false, false, false, false, false, false, false, false, false, false] (by kernel_rfl) rfl rfl ⟨(blk_cell BK376.out 0).trans rfl, (blk_cell BK376.out 1).trans rfl, (blk_cell BK376.out 2).trans rfl, (blk_cell BK376.out 3).trans rfl, (blk_cell BK376.out 4).trans rfl, hx381_0, hx381_1, hx381_2, hx381_3, hx381_4⟩ (fun hHeld => ?_); refine with_tabW monikerlaw21_SeatOne.tab7 monikerlaw21_SeatOne.bits7 (fun HT_ HW_ => ?_)
       generalize w38.drew = w40 at HO379 BK376 HB hx381_0 hx381_1 hx381_2 hx381_3 hx381_4 hHeld ⊢
       refine pure_ (i := 0) (N := some 34) (v := ?_) (a' := ?_) #[true, false, false, false, false, false, false, false, false, false, false, false, false, false, false, false, false] rfl rfl (any_of HT_.out (by kernel_rfl)) (fun _ _ _ h => h) (Or.inl ⟨by rfl, ?_⟩) ?_ ?_
       rotate_left
       ·
        intro w'
        go_simp
        with_reducible rfl
       rotate_left
       ·
        simp only [Act.put, List.setIfInBounds_toArray, List.set_cons_zero, List.set_cons_succ, i64_w, i32_w]
        rfl
       refine pure_ (i := 1) (N := some 35) (v := ?_) (a' := ?_) #[true, true, false, false, false, false, false, false, false, false, false, false, false, false, false, false, false] rfl rfl (any_of HT_.out (by kernel_rfl)) (fun _ _ _ h => h) (Or.inl ⟨by rfl, ?_⟩) ?_ ?_
       rotate_left
       ·
        intro w'
        go_simp
        with_reducible rfl
       rotate_left
       ·
        simp only [Act.put, List.setIfInBounds_toArray, List.set_cons_zero, List.set_cons_succ, i64_w, i32_w]
        rfl
       refine pure_ (i := 2) (N := some 36) (v := ?_) (a' := ?_) #[true, true, true, false, false, false, false, false, false, false, false, false, false, false, false, false, false] rfl rfl (any_of HT_.out (by kernel_rfl)) (fun _ _ _ h => h) (Or.inl ⟨by rfl, ?_⟩) ?_ ?_
       rotate_left
       ·
        intro w'
        go_simp
        with_reducible rfl
       rotate_left
       ·
        simp only [Act.put, List.setIfInBounds_toArray, List.set_cons_zero, List.set_cons_succ, i64_w, i32_w]
        rfl
       refine pure_ (i := 3) (N := some 37) (v := ?_) (a' := ?_) #[true, true, true, true, false, false, false, false, false, false, false, false, false, false, false, false, false] rfl rfl (any_of HT_.out (by kernel_rfl)) (fun _ _ _ h => h) (Or.inl ⟨by rfl, ?_⟩) ?_ ?_
       rotate_left
       ·
        intro w'
        go_simp
        with_reducible rfl
       rotate_left
       ·
        simp only [Act.put, List.setIfInBounds_toArray, List.set_cons_zero, List.set_cons_succ, i64_w, i32_w]
        rfl
       refine pure_ (i := 4) (N := some 38) (v := ?_) (a' := ?_) #[true, true, true, true, true, false, false, false, false, false, false, false, false, false, false, false, false] rfl rfl (any_of HT_.out (by kernel_rfl)) (fun _ _ _ h => h) (Or.inl ⟨by rfl, ?_⟩) ?_ ?_
       rotate_left
       ·
        intro w'
        go_simp
        with_reducible rfl
       rotate_left
       ·
        simp only [Act.put, List.setIfInBounds_toArray, List.set_cons_zero, List.set_cons_succ, i64_w, i32_w]
        rfl
       refine pure_ (i := 5) (N := some 39) (v := ?_) (a' := ?_) #[true, true, true, true, true, true, false, false, false, false, false, false, false, false, false, false, false] rfl rfl (any_of HT_.out (by kernel_rfl)) (fun _ _ _ h => h) (Or.inl ⟨by rfl, ?_⟩) ?_ ?_
       rotate_left
       ·
        intro w'
        go_simp
        with_reducible rfl
       rotate_left
       ·
        simp only [Act.put, List.setIfInBounds_toArray, List.set_cons_zero, List.set_cons_succ, i64_w, i32_w]
        rfl
       refine pure_ (i := 6) (N := some 40) (v := ?_) (a' := ?_) #[true, true, true, true, true, true, true, false, false, false, false, false, false, false, false, false, false] rfl rfl (any_of HT_.out (by kernel_rfl)) (fun _ _ _ h => h) (Or.inl ⟨by rfl, ?_⟩) ?_ ?_
       rotate_left
       ·
        intro w'
        go_simp
        with_reducible rfl
       rotate_left
       ·
        simp only [Act.put, List.setIfInBounds_toArray, List.set_cons_zero, List.set_cons_succ, i64_w, i32_w]
        rfl
       refine pure_ (i := 8) (N := some 42) (v := ?_) (a' := ?_) #[true, true, true, true, true, true, true, false, true, false, false, false, false, false, false, false, false] rfl rfl (any_of HT_.out (by kernel_rfl)) (fun _ _ _ h => h) (Or.inl ⟨by rfl, ?_⟩) ?_ ?_
       rotate_left
       ·
        intro w'
        go_simp
        with_reducible rfl
       rotate_left
       ·
        simp only [Act.put, List.setIfInBounds_toArray, List.set_cons_zero, List.set_cons_succ, i64_w, i32_w]
        rfl
       refine pure_ (i := 9) (N := some 43) (v := ?_) (a' := ?_) #[true, true, true, true, true, true, true, false, true, true, false, false, false, false, false, false, false] rfl rfl (any_of HT_.out (by kernel_rfl)) (fun _ _ _ h => h) (Or.inl ⟨by rfl, ?_⟩) ?_ ?_
       rotate_left
       ·
        intro w'
        go_simp
        with_reducible rfl
       rotate_left
       ·
        simp only [Act.put, List.setIfInBounds_toArray, List.set_cons_zero, List.set_cons_succ, i64_w, i32_w]
        rfl
       refine take_ (i := 7) (N := some 41) (v := ?_) (a' := ?_) #[true, true, true, true, true, true, true, true, true, true, false, false, false, false, false, false, false] rfl rfl (take_ofW HT_.out HW_.out (by kernel_rfl)) (fun _ _ _ h => h) (Or.inl ⟨by rfl, ?_⟩) hHeld ?_ ?_
       rotate_left
       ·
        rintro w' ⟨s0, s1, s2, s3, s4, s5, s6, s7, s8, s9⟩
        go_simp
        with_reducible rfl
       rotate_left
       ·
        simp only [Act.put, List.setIfInBounds_toArray, List.set_cons_zero, List.set_cons_succ, i64_w, i32_w]
        rfl
       refine take_ (i := 10) (N := some 44) (v := ?_) (a' := ?_) #[true, true, true, true, true, true, true, true, true, true, true, false, false, false, false, false, false] rfl rfl (take_ofW HT_.out HW_.out (by kernel_rfl)) (fun _ _ _ h => h) (Or.inl ⟨by rfl, ?_⟩) hHeld ?_ ?_
       rotate_left
       ·
        rintro w' ⟨s0, s1, s2, s3, s4, s5, s6, s7, s8, s9⟩
        go_simp
        with_reducible rfl
       rotate_left
       ·
        simp only [Act.put, List.setIfInBounds_toArray, List.set_cons_zero, List.set_cons_succ, i64_w, i32_w]
        rfl
       refine pure_ (i := 11) (N := some 45) (v := ?_) (a' := ?_) #[true, true, true, true, true, true, true, true, true, true, true, true, false, false, false, false, false] rfl rfl (any_of HT_.out (by kernel_rfl)) (fun _ _ _ h => h) (Or.inl ⟨by rfl, ?_⟩) ?_ ?_
       rotate_left
       ·
        intro w'
        go_simp
        with_reducible rfl
       rotate_left
       ·
        simp only [Act.put, List.setIfInBounds_toArray, List.set_cons_zero, List.set_cons_succ, i64_w, i32_w]
        rfl
       refine pure_ (i := 12) (N := some 46) (v := ?_) (a' := ?_) #[true, true, true, true, true, true, true, true, true, true, true, true, true, false, false, false, false] rfl rfl (any_of HT_.out (by kernel_rfl)) (fun _ _ _ h => h) (Or.inl ⟨by rfl, ?_⟩) ?_ ?_
       rotate_left
       ·
        intro w'
        go_simp
        with_reducible rfl
       rotate_left
       ·
        simp only [Act.put, List.setIfInBounds_toArray, List.set_cons_zero, List.set_cons_succ, i64_w, i32_w]
        rfl
       refine pure_ (i := 13) (N := some 47) (v := ?_) (a' := ?_) #[true, true, true, true, true, true, true, true, true, true, true, true, true, true, false, false, false] rfl rfl (any_of HT_.out (by kernel_rfl)) (fun _ _ _ h => h) (Or.inl ⟨by rfl, ?_⟩) ?_ ?_
       rotate_left
       ·
        intro w'
        go_simp
        with_reducible rfl
       rotate_left
       ·
        simp only [Act.put, List.setIfInBounds_toArray, List.set_cons_zero, List.set_cons_succ, i64_w, i32_w]
        rfl
       refine one_ (i := 14) (N := some 48) #[true, true, true, true, true, true, true, true, true, true, true, true, true, true, true, false, false] rfl rfl (one_of HT_.out (by kernel_rfl)) (by decide) (fun K hK => ?_)
       refine goes_ Tryd.func5 (by kernel_rfl) rfl #[] (by rfl) rfl rfl (by (try simp only [List.map_toArray, List.map_cons, List.map_nil]); first | done | rfl | (simp only [List.length_drop, List.length_take]; rfl)) ?_
       with_reducible refine (monikerlaw21_awake.calls k  t382 _ A34.out).mono ?_
       rintro e w41 ⟨rfl, hb⟩
       have HS5_ := (hb.cell (World.block_lt_of_cell? _ _ (hHeld.2.2.2.2.2.1))).trans (hHeld.2.2.2.2.2.1)
       have HS6_ := (hb.cell (World.block_lt_of_cell? _ _ (hHeld.2.2.2.2.2.2.1))).trans (hHeld.2.2.2.2.2.2.1)
       have HS7_ := (hb.cell (World.block_lt_of_cell? _ _ (hHeld.2.2.2.2.2.2.2.1))).trans (hHeld.2.2.2.2.2.2.2.1)
       have HS8_ := (hb.cell (World.block_lt_of_cell? _ _ (hHeld.2.2.2.2.2.2.2.2.1))).trans (hHeld.2.2.2.2.2.2.2.2.1)
       have HS9_ := (hb.cell (World.block_lt_of_cell? _ _ (hHeld.2.2.2.2.2.2.2.2.2))).trans (hHeld.2.2.2.2.2.2.2.2.2)
       refine ⟨_, rfl, ?_⟩
       have n0_ := Aside0.mk (Kd.R_below (xkd HO379) hb)
       have n1_ := xbb (g := gb376) (o := .cells #[.bool t370, .string t371, .string t372, .bool t373, .string t374] 24 (0, 0)) hb
       have n2_ := xst hb
       clear HO379
       clear BK376
       clear HB
       have HO379 := n0_
       have BK376 := n1_
       have HB := n2_
       clear n0_ n1_ n2_
       (try clear hb)
       (try clear hb2)
       (try clear hk)
       (try clear hi)
       refine hK.out _ _ ⟨(blk_cell BK376.out 0).trans rfl, (blk_cell BK376.out 1).trans rfl, (blk_cell BK376.out 2).trans rfl, (blk_cell BK376.out 3).trans rfl, (blk_cell BK376.out 4).trans rfl, HS5_, HS6_, HS7_, HS8_, HS9_⟩ (fun hHeld => ?_)
       clear hK K
       refine norm_ (a' := ?_) ?_ ?_
       rotate_left
       ·
        show Act.put _ (some 48) _ = _
        simp only [Act.put, List.setIfInBounds_toArray, List.set_cons_zero, List.set_cons_succ, i64_w, i32_w]
        rfl
       refine pure_ (i := 15) (N := some 49) (v := ?_) (a' := ?_) #[true, true, true, true, true, true, true, true, true, true, true, true, true, true, true, true, false] rfl rfl (any_of HT_.out (by kernel_rfl)) (fun _ _ _ h => h) (Or.inl ⟨by rfl, ?_⟩) ?_ ?_
       rotate_left
       ·
        intro w'
        go_simp
        with_reducible rfl
       rotate_left
       ·
        simp only [Act.put, List.setIfInBounds_toArray, List.set_cons_zero, List.set_cons_succ, i64_w, i32_w]
        rfl
       refine pure_ (i := 16) (N := some 4) (v := ?_) (a' := ?_) #[true, true, true, true, true, true, true, true, true, true, true, true, true, true, true, true, true] rfl rfl (any_of HT_.out (by kernel_rfl)) (fun _ _ _ h => h) (Or.inl ⟨by rfl, ?_⟩) ?_ ?_
       rotate_left
       ·
        intro w'
        go_simp
        with_reducible rfl
       rotate_left
       ·
        simp only [Act.put, List.setIfInBounds_toArray, List.set_cons_zero, List.set_cons_succ, i64_w, i32_w]
        rfl
       refine done_ (done_of HT_.out (by kernel_rfl)) ?_
       try go_wp2
       go_ret
       exact ⟨xre, xbl⟩
      ·
       rw [if_neg c33] at H
       have c33b0 : (t370 == ((rd_T24 t377 0).f0) && (t371.toList == (((rd_T24 t377 0).f1).toList) && (t372.toList == (((rd_T24 t377 0).f2).toList) && (t373 == ((rd_T24 t377 0).f3) && (t374.toList == (((rd_T24 t377 0).f4).toList)))))) = false := by simpa using c33
       (try (have c33b1 : decide (t370 = ((rd_T24 t377 0).f0) && (t371.toList == (((rd_T24 t377 0).f1).toList) && (t372.toList == (((rd_T24 t377 0).f2).toList) && (t373 == ((rd_T24 t377 0).f3) && (t374.toList == (((rd_T24 t377 0).f4).toList)))))) = false := by simpa using c33))
       (try (have c33b2 : (t370 == ((rd_T24 t377 0).f0) && (t371.toList == (((rd_T24 t377 0).f1).toList) && (t372.toList == (((rd_T24 t377 0).f2).toList) && (t373 == ((rd_T24 t377 0).f3) && (t374.toList == (((rd_T24 t377 0).f4).toList)))))) = false := by simpa using c33))
       (try (have c33b3 : ¬ (t370 = ((rd_T24 t377 0).f0) && (t371.toList == (((rd_T24 t377 0).f1).toList) && (t372.toList == (((rd_T24 t377 0).f2).toList) && (t373 == ((rd_T24 t377 0).f3) && (t374.toList == (((rd_T24 t377 0).f4).toList)))))) := by simpa using c33))
       clear c33
       obtain rfl := Option.some.inj H
       go_enter Tryd.func3, Tryd.ntmps3
       try go_wp2_with (first | ((with_reducible refine gate_callee (f := 6) rfl ?_); refine xgl 15 Tryd.func6 #[.bool a0, .string a1] ?_; (with_reducible refine (seat_Parse.calls k a0 a1 t370 t371 t372 t373 t374 true _ ?side1 A6.out).mono ?_); (case side1 => first | exact hG | exact GW_to hG xbl); rintro e w42 ⟨rfl, hb⟩; refine ⟨_, rfl, ?_⟩; replace HB := xst hb; (try clear hb)) | ((with_reducible refine gate_dst (N := 5) rfl ?_); refine xev 5 #[.bool false, .string (⟨#[]⟩ : ByteArray), .string (⟨#[]⟩ : ByteArray), .bool false, .string (⟨#[]⟩ : ByteArray)] 24 ?_; intro gb376 hg w43 hbox hb; have BK376 := Aside0.mk (hbox); have GW376 := xsz hg; have GE376 := GW376; replace HB := xst hb; clear hb hbox hg; obtain ⟨hcz44_0, hcz44_1, hcz44_2, hcz44_3, hcz44_4⟩ := xc5 BK376; have hfz44_0 := xf BK376 0; have hfz44_1 := xf BK376 1; have hfz44_2 := xf BK376 2; have hfz44_3 := xf BK376 3; have hfz44_4 := xf BK376 4) | ((with_reducible refine gate_callee (f := 7) rfl ?_); refine xgl 20 Tryd.func7 #[.bool a0, .string a1] ?_; (with_reducible refine (monikerref21_All.calls k a0 a1 t377 _ A7.out).mono ?_); rintro e w45 ⟨v378, rfl, ho0, hb⟩; refine ⟨_, rfl, ?_⟩; have HO379 := Aside0.mk (Kd.R_lower (Kd.R_newB ho0 (g := gb376) (o := .cells #[.bool t370, .string t371, .string t372, .bool t373, .string t374] 24 (0, 0)) xbk) (below_size xbl)); replace BK376 := xbb (g := gb376) (o := .cells #[.bool t370, .string t371, .string t372, .bool t373, .string t374] 24 (0, 0)) hb; replace HB := xst hb; (try clear hb); (try clear ho0); obtain ⟨Ao46, co46, eo46⟩ := Kd.R_slice HO379.out; subst eo46))
       have n0_ := Aside0.mk (Kd.R_drew HO379.out)
       have n1_ := Aside0.mk (blk_drew BK376.out)
       have n2_ := Aside0.mk (below_drew1 HB.out)
       clear HO379
       clear BK376
       clear HB
       have HO379 := n0_
       have BK376 := n1_
       have HB := n2_
       clear n0_ n1_ n2_
       have p381 : 0 ≤ (0 : Int) := (by omega)
       have q381 : 0 < (t377.length : Int) := xod
       obtain ⟨ad381, e381, hx381_0, hx381_1, hx381_2, hx381_3, hx381_4⟩ := at_T24 (Kd.R_reads' HO379.out).2.2 0 p381 q381
       cases e381
       have qi381 : (0 < t377.length) = True := eq_true (by omega)
       (try rw [show ((0 : Int)).toNat = 0 from rfl] at hx381_0)
       (try rw [show 0 * 5 = 0 from rfl] at hx381_0)
       (try rw [Addr.add_zero'] at hx381_0)
       (try rw [show ((0 : Int)).toNat = 0 from rfl] at hx381_1)
       (try rw [show 0 * 5 = 0 from rfl] at hx381_1)
       (try rw [Addr.add_zero'] at hx381_1)
       (try rw [show ((0 : Int)).toNat = 0 from rfl] at hx381_2)
       (try rw [show 0 * 5 = 0 from rfl] at hx381_2)
       (try rw [Addr.add_zero'] at hx381_2)
       (try rw [show ((0 : Int)).toNat = 0 from rfl] at hx381_3)
       (try rw [show 0 * 5 = 0 from rfl] at hx381_3)
       (try rw [Addr.add_zero'] at hx381_3)
       (try rw [show ((0 : Int)).toNat = 0 from rfl] at hx381_4)
       (try rw [show 0 * 5 = 0 from rfl] at hx381_4)
       (try rw [Addr.add_zero'] at hx381_4)
       replace p381 := eq_true p381
       replace q381 := eq_true q381
       try (have q381x := q381; simp only [ByteArray.size_extract, Nat.min_self] at q381x)
       refine start_ (n := 17) (S := fun w' => w'.cell? ⟨gb376, 0, none⟩ = some (.bool t370) ∧ w'.cell? ⟨gb376, 1, none⟩ = some (.string t371) ∧ w'.cell? ⟨gb376, 2, none⟩ = some (.string t372) ∧ w'.cell? ⟨gb376, 3, none⟩ = some (.bool t373) ∧ w'.cell? ⟨gb376, 4, none⟩ = some (.string t374) ∧ w'.cell? ad381 = some (.bool ((rd_T24 t377 0).f0)) ∧ w'.cell? ⟨ad381.block, ad381.off + 1, none⟩ = some (.string ((rd_T24 t377 0).f1)) ∧ w'.cell? ⟨ad381.block, ad381.off + 2, none⟩ = some (.string ((rd_T24 t377 0).f2)) ∧ w'.cell? ⟨ad381.block, ad381.off + 3, none⟩ = some (.bool ((rd_T24 t377 0).f3)) ∧ w'.cell? ⟨ad381.block, ad381.off + 4, none⟩ = some (.string ((rd_T24 t377 0).f4))) (ds := []) #[false, false, false, false, false, false, false, false, false, false, false, false, false, false, false, false, false] (by kernel_rfl) rfl rfl ⟨(blk_cell BK376.out 0).trans rfl, (blk_cell BK376.out 1).trans rfl, (blk_cell BK376.out 2).trans rfl, (blk_cell BK376.out 3).trans rfl, (blk_cell BK376.out 4).trans rfl, hx381_0, hx381_1, hx381_2, hx381_3, hx381_4⟩ (fun hHeld => ?_); refine with_tabW monikerlaw21_SeatOne.tab7 monikerlaw21_SeatOne.bits7 (fun HT_ HW_ => ?_)
       generalize w45.drew = w47 at HO379 BK376 HB hx381_0 hx381_1 hx381_2 hx381_3 hx381_4 hHeld ⊢
       refine pure_ (i := 0) (N := some 34) (v := ?_) (a' := ?_) #[true, false, false, false, false, false, false, false, false, false, false, false, false, false, false, false, false] rfl rfl (any_of HT_.out (by kernel_rfl)) (fun _ _ _ h => h) (Or.inl ⟨by rfl, ?_⟩) ?_ ?_
       rotate_left
       ·
        intro w'
        go_simp
        with_reducible rfl
       rotate_left
       ·
        simp only [Act.put, List.setIfInBounds_toArray, List.set_cons_zero, List.set_cons_succ, i64_w, i32_w]
        rfl
       refine pure_ (i := 1) (N := some 35) (v := ?_) (a' := ?_) #[true, true, false, false, false, false, false, false, false, false, false, false, false, false, false, false, false] rfl rfl (any_of HT_.out (by kernel_rfl)) (fun _ _ _ h => h) (Or.inl ⟨by rfl, ?_⟩) ?_ ?_
       rotate_left
       ·
        intro w'
        go_simp
        with_reducible rfl
       rotate_left
       ·
        simp only [Act.put, List.setIfInBounds_toArray, List.set_cons_zero, List.set_cons_succ, i64_w, i32_w]
        rfl
       refine pure_ (i := 2) (N := some 36) (v := ?_) (a' := ?_) #[true, true, true, false, false, false, false, false, false, false, false, false, false, false, false, false, false] rfl rfl (any_of HT_.out (by kernel_rfl)) (fun _ _ _ h => h) (Or.inl ⟨by rfl, ?_⟩) ?_ ?_
       rotate_left
       ·
        intro w'
        go_simp
        with_reducible rfl
       rotate_left
       ·
        simp only [Act.put, List.setIfInBounds_toArray, List.set_cons_zero, List.set_cons_succ, i64_w, i32_w]
        rfl
       refine pure_ (i := 3) (N := some 37) (v := ?_) (a' := ?_) #[true, true, true, true, false, false, false, false, false, false, false, false, false, false, false, false, false] rfl rfl (any_of HT_.out (by kernel_rfl)) (fun _ _ _ h => h) (Or.inl ⟨by rfl, ?_⟩) ?_ ?_
       rotate_left
       ·
        intro w'
        go_simp
        with_reducible rfl
       rotate_left
       ·
        simp only [Act.put, List.setIfInBounds_toArray, List.set_cons_zero, List.set_cons_succ, i64_w, i32_w]
        rfl
       refine pure_ (i := 4) (N := some 38) (v := ?_) (a' := ?_) #[true, true, true, true, true, false, false, false, false, false, false, false, false, false, false, false, false] rfl rfl (any_of HT_.out (by kernel_rfl)) (fun _ _ _ h => h) (Or.inl ⟨by rfl, ?_⟩) ?_ ?_
       rotate_left
       ·
        intro w'
        go_simp
        with_reducible rfl
       rotate_left
       ·
        simp only [Act.put, List.setIfInBounds_toArray, List.set_cons_zero, List.set_cons_succ, i64_w, i32_w]
        rfl
       refine pure_ (i := 5) (N := some 39) (v := ?_) (a' := ?_) #[true, true, true, true, true, true, false, false, false, false, false, false, false, false, false, false, false] rfl rfl (any_of HT_.out (by kernel_rfl)) (fun _ _ _ h => h) (Or.inl ⟨by rfl, ?_⟩) ?_ ?_
       rotate_left
       ·
        intro w'
        go_simp
        with_reducible rfl
       rotate_left
       ·
        simp only [Act.put, List.setIfInBounds_toArray, List.set_cons_zero, List.set_cons_succ, i64_w, i32_w]
        rfl
       refine pure_ (i := 6) (N := some 40) (v := ?_) (a' := ?_) #[true, true, true, true, true, true, true, false, false, false, false, false, false, false, false, false, false] rfl rfl (any_of HT_.out (by kernel_rfl)) (fun _ _ _ h => h) (Or.inl ⟨by rfl, ?_⟩) ?_ ?_
       rotate_left
       ·
        intro w'
        go_simp
        with_reducible rfl
       rotate_left
       ·
        simp only [Act.put, List.setIfInBounds_toArray, List.set_cons_zero, List.set_cons_succ, i64_w, i32_w]
        rfl
       refine pure_ (i := 8) (N := some 42) (v := ?_) (a' := ?_) #[true, true, true, true, true, true, true, false, true, false, false, false, false, false, false, false, false] rfl rfl (any_of HT_.out (by kernel_rfl)) (fun _ _ _ h => h) (Or.inl ⟨by rfl, ?_⟩) ?_ ?_
       rotate_left
       ·
        intro w'
        go_simp
        with_reducible rfl
       rotate_left
       ·
        simp only [Act.put, List.setIfInBounds_toArray, List.set_cons_zero, List.set_cons_succ, i64_w, i32_w]
        rfl
       refine pure_ (i := 9) (N := some 43) (v := ?_) (a' := ?_) #[true, true, true, true, true, true, true, false, true, true, false, false, false, false, false, false, false] rfl rfl (any_of HT_.out (by kernel_rfl)) (fun _ _ _ h => h) (Or.inl ⟨by rfl, ?_⟩) ?_ ?_
       rotate_left
       ·
        intro w'
        go_simp
        with_reducible rfl
       rotate_left
       ·
        simp only [Act.put, List.setIfInBounds_toArray, List.set_cons_zero, List.set_cons_succ, i64_w, i32_w]
        rfl
       refine take_ (i := 7) (N := some 41) (v := ?_) (a' := ?_) #[true, true, true, true, true, true, true, true, true, true, false, false, false, false, false, false, false] rfl rfl (take_ofW HT_.out HW_.out (by kernel_rfl)) (fun _ _ _ h => h) (Or.inl ⟨by rfl, ?_⟩) hHeld ?_ ?_
       rotate_left
       ·
        rintro w' ⟨s0, s1, s2, s3, s4, s5, s6, s7, s8, s9⟩
        go_simp
        with_reducible rfl
       rotate_left
       ·
        simp only [Act.put, List.setIfInBounds_toArray, List.set_cons_zero, List.set_cons_succ, i64_w, i32_w]
        rfl
       refine take_ (i := 10) (N := some 44) (v := ?_) (a' := ?_) #[true, true, true, true, true, true, true, true, true, true, true, false, false, false, false, false, false] rfl rfl (take_ofW HT_.out HW_.out (by kernel_rfl)) (fun _ _ _ h => h) (Or.inl ⟨by rfl, ?_⟩) hHeld ?_ ?_
       rotate_left
       ·
        rintro w' ⟨s0, s1, s2, s3, s4, s5, s6, s7, s8, s9⟩
        go_simp
        with_reducible rfl
       rotate_left
       ·
        simp only [Act.put, List.setIfInBounds_toArray, List.set_cons_zero, List.set_cons_succ, i64_w, i32_w]
        rfl
       refine pure_ (i := 11) (N := some 45) (v := ?_) (a' := ?_) #[true, true, true, true, true, true, true, true, true, true, true, true, false, false, false, false, false] rfl rfl (any_of HT_.out (by kernel_rfl)) (fun _ _ _ h => h) (Or.inl ⟨by rfl, ?_⟩) ?_ ?_
       rotate_left
       ·
        intro w'
        go_simp
        with_reducible rfl
       rotate_left
       ·
        simp only [Act.put, List.setIfInBounds_toArray, List.set_cons_zero, List.set_cons_succ, i64_w, i32_w]
        rfl
       refine pure_ (i := 12) (N := some 46) (v := ?_) (a' := ?_) #[true, true, true, true, true, true, true, true, true, true, true, true, true, false, false, false, false] rfl rfl (any_of HT_.out (by kernel_rfl)) (fun _ _ _ h => h) (Or.inl ⟨by rfl, ?_⟩) ?_ ?_
       rotate_left
       ·
        intro w'
        go_simp
        with_reducible rfl
       rotate_left
       ·
        simp only [Act.put, List.setIfInBounds_toArray, List.set_cons_zero, List.set_cons_succ, i64_w, i32_w]
        rfl
       refine pure_ (i := 13) (N := some 47) (v := ?_) (a' := ?_) #[true, true, true, true, true, true, true, true, true, true, true, true, true, true, false, false, false] rfl rfl (any_of HT_.out (by kernel_rfl)) (fun _ _ _ h => h) (Or.inl ⟨by rfl, ?_⟩) ?_ ?_
       rotate_left
       ·
        intro w'
        go_simp
        with_reducible rfl
       rotate_left
       ·
        simp only [Act.put, List.setIfInBounds_toArray, List.set_cons_zero, List.set_cons_succ, i64_w, i32_w]
        rfl
       refine pure_ (i := 14) (N := some 48) (v := undef) (a' := ?_) #[true, true, true, true, true, true, true, true, true, true, true, true, true, true, true, false, false] rfl rfl (any_of HT_.out (by kernel_rfl)) (fun _ _ _ h => h) (Or.inr ⟨by rfl, rfl⟩) ?_ ?_
       rotate_left
       ·
        simp only [Act.put, List.setIfInBounds_toArray, List.set_cons_zero, List.set_cons_succ, i64_w, i32_w]
        rfl
       refine pure_ (i := 15) (N := some 49) (v := ?_) (a' := ?_) #[true, true, true, true, true, true, true, true, true, true, true, true, true, true, true, true, false] rfl rfl (any_of HT_.out (by kernel_rfl)) (fun _ _ _ h => h) (Or.inl ⟨by rfl, ?_⟩) ?_ ?_
       rotate_left
       ·
        intro w'
        go_simp
        with_reducible rfl
       rotate_left
       ·
        simp only [Act.put, List.setIfInBounds_toArray, List.set_cons_zero, List.set_cons_succ, i64_w, i32_w]
        rfl
       refine pure_ (i := 16) (N := some 4) (v := ?_) (a' := ?_) #[true, true, true, true, true, true, true, true, true, true, true, true, true, true, true, true, true] rfl rfl (any_of HT_.out (by kernel_rfl)) (fun _ _ _ h => h) (Or.inl ⟨by rfl, ?_⟩) ?_ ?_
       rotate_left
       ·
        intro w'
        go_simp
        with_reducible rfl
       rotate_left
       ·
        simp only [Act.put, List.setIfInBounds_toArray, List.set_cons_zero, List.set_cons_succ, i64_w, i32_w]
        rfl
       refine done_ (done_of HT_.out (by kernel_rfl)) ?_
       try go_wp2
       go_ret
       exact ⟨xre, xbl⟩
     ·
      rw [if_neg c32] at H
      exact absurd H (by simp)
    ·
     replace c31 := Bool.eq_false_iff.mpr c31
     subst c31
     rw [if_neg (show ¬ (false = true) by decide)] at H
     obtain rfl := Option.some.inj H
     go_enter Tryd.func3, Tryd.ntmps3
     try go_wp2_with (first | ((with_reducible refine gate_callee (f := 6) rfl ?_); refine xgl 15 Tryd.func6 #[.bool a0, .string a1] ?_; (with_reducible refine (seat_Parse.calls k a0 a1 t370 t371 t372 t373 t374 false _ ?side1 A6.out).mono ?_); (case side1 => first | exact hG | exact GW_to hG xbl); rintro e w48 ⟨rfl, hb⟩; refine ⟨_, rfl, ?_⟩; replace HB := xst hb; (try clear hb)) | ((with_reducible refine gate_dst (N := 5) rfl ?_); refine xev 5 #[.bool false, .string (⟨#[]⟩ : ByteArray), .string (⟨#[]⟩ : ByteArray), .bool false, .string (⟨#[]⟩ : ByteArray)] 24 ?_; intro gb376 hg w49 hbox hb; have BK376 := Aside0.mk (hbox); have GW376 := xsz hg; have GE376 := GW376; replace HB := xst hb; clear hb hbox hg; obtain ⟨hcz50_0, hcz50_1, hcz50_2, hcz50_3, hcz50_4⟩ := xc5 BK376; have hfz50_0 := xf BK376 0; have hfz50_1 := xf BK376 1; have hfz50_2 := xf BK376 2; have hfz50_3 := xf BK376 3; have hfz50_4 := xf BK376 4) | ((with_reducible refine gate_callee (f := 7) rfl ?_); refine xgl 20 Tryd.func7 #[.bool a0, .string a1] ?_; (with_reducible refine (monikerref21_All.calls k a0 a1 t377 _ A7.out).mono ?_); rintro e w51 ⟨v378, rfl, ho0, hb⟩; refine ⟨_, rfl, ?_⟩; have HO379 := Aside0.mk (Kd.R_lower (Kd.R_newB ho0 (g := gb376) (o := .cells #[.bool t370, .string t371, .string t372, .bool t373, .string t374] 24 (0, 0)) xbk) (below_size xbl)); replace BK376 := xbb (g := gb376) (o := .cells #[.bool t370, .string t371, .string t372, .bool t373, .string t374] 24 (0, 0)) hb; replace HB := xst hb; (try clear hb); (try clear ho0); obtain ⟨Ao52, co52, eo52⟩ := Kd.R_slice HO379.out; subst eo52))
     have n0_ := Aside0.mk (Kd.R_drew HO379.out)
     have n1_ := Aside0.mk (blk_drew BK376.out)
     have n2_ := Aside0.mk (below_drew1 HB.out)
     clear HO379
     clear BK376
     clear HB
     have HO379 := n0_
     have BK376 := n1_
     have HB := n2_
     clear n0_ n1_ n2_
     refine start_ (n := 17) (S := fun w' => True) (ds := []) #[false, false, false, false, false, false, false, false, false, false, false, false, false, false, false, false, false] (by kernel_rfl) rfl rfl trivial (fun hHeld => ?_); refine with_tabW monikerlaw21_SeatOne.tab7 monikerlaw21_SeatOne.bits7 (fun HT_ HW_ => ?_)
     generalize w51.drew = w53 at HO379 BK376 HB hHeld ⊢
     refine pure_ (i := 0) (N := some 34) (v := ?_) (a' := ?_) #[true, false, false, false, false, false, false, false, false, false, false, false, false, false, false, false, false] rfl rfl (any_of HT_.out (by kernel_rfl)) (fun _ _ _ h => h) (Or.inl ⟨by rfl, ?_⟩) ?_ ?_
     rotate_left
     ·
      intro w'
      go_simp
      with_reducible rfl
     rotate_left
     ·
      simp only [Act.put, List.setIfInBounds_toArray, List.set_cons_zero, List.set_cons_succ, i64_w, i32_w]
      rfl
     refine pure_ (i := 1) (N := some 35) (v := ?_) (a' := ?_) #[true, true, false, false, false, false, false, false, false, false, false, false, false, false, false, false, false] rfl rfl (any_of HT_.out (by kernel_rfl)) (fun _ _ _ h => h) (Or.inl ⟨by rfl, ?_⟩) ?_ ?_
     rotate_left
     ·
      intro w'
      go_simp
      with_reducible rfl
     rotate_left
     ·
      simp only [Act.put, List.setIfInBounds_toArray, List.set_cons_zero, List.set_cons_succ, i64_w, i32_w]
      rfl
     refine pure_ (i := 2) (N := some 36) (v := ?_) (a' := ?_) #[true, true, true, false, false, false, false, false, false, false, false, false, false, false, false, false, false] rfl rfl (any_of HT_.out (by kernel_rfl)) (fun _ _ _ h => h) (Or.inl ⟨by rfl, ?_⟩) ?_ ?_
     rotate_left
     ·
      intro w'
      go_simp
      with_reducible rfl
     rotate_left
     ·
      simp only [Act.put, List.setIfInBounds_toArray, List.set_cons_zero, List.set_cons_succ, i64_w, i32_w]
      rfl
     refine pure_ (i := 3) (N := some 37) (v := ?_) (a' := ?_) #[true, true, true, true, false, false, false, false, false, false, false, false, false, false, false, false, false] rfl rfl (any_of HT_.out (by kernel_rfl)) (fun _ _ _ h => h) (Or.inl ⟨by rfl, ?_⟩) ?_ ?_
     rotate_left
     ·
      intro w'
      go_simp
      with_reducible rfl
     rotate_left
     ·
      simp only [Act.put, List.setIfInBounds_toArray, List.set_cons_zero, List.set_cons_succ, i64_w, i32_w]
      rfl
     refine pure_ (i := 4) (N := some 38) (v := ?_) (a' := ?_) #[true, true, true, true, true, false, false, false, false, false, false, false, false, false, false, false, false] rfl rfl (any_of HT_.out (by kernel_rfl)) (fun _ _ _ h => h) (Or.inl ⟨by rfl, ?_⟩) ?_ ?_
     rotate_left
     ·
      intro w'
      go_simp
      with_reducible rfl
     rotate_left
     ·
      simp only [Act.put, List.setIfInBounds_toArray, List.set_cons_zero, List.set_cons_succ, i64_w, i32_w]
      rfl
     refine pure_ (i := 5) (N := some 39) (v := ?_) (a' := ?_) #[true, true, true, true, true, true, false, false, false, false, false, false, false, false, false, false, false] rfl rfl (any_of HT_.out (by kernel_rfl)) (fun _ _ _ h => h) (Or.inl ⟨by rfl, ?_⟩) ?_ ?_
     rotate_left
     ·
      intro w'
      go_simp
      with_reducible rfl
     rotate_left
     ·
      simp only [Act.put, List.setIfInBounds_toArray, List.set_cons_zero, List.set_cons_succ, i64_w, i32_w]
      rfl
     refine pure_ (i := 6) (N := some 40) (v := ?_) (a' := ?_) #[true, true, true, true, true, true, true, false, false, false, false, false, false, false, false, false, false] rfl rfl (any_of HT_.out (by kernel_rfl)) (fun _ _ _ h => h) (Or.inl ⟨by rfl, ?_⟩) ?_ ?_
     rotate_left
     ·
      intro w'
      go_simp
      with_reducible rfl
     rotate_left
     ·
      simp only [Act.put, List.setIfInBounds_toArray, List.set_cons_zero, List.set_cons_succ, i64_w, i32_w]
      rfl
     refine pure_ (i := 7) (N := some 41) (v := undef) (a' := ?_) #[true, true, true, true, true, true, true, true, false, false, false, false, false, false, false, false, false] rfl rfl (any_of HT_.out (by kernel_rfl)) (fun _ _ _ h => h) (Or.inr ⟨by rfl, rfl⟩) ?_ ?_
     rotate_left
     ·
      simp only [Act.put, List.setIfInBounds_toArray, List.set_cons_zero, List.set_cons_succ, i64_w, i32_w]
      rfl
     refine pure_ (i := 8) (N := some 42) (v := undef) (a' := ?_) #[true, true, true, true, true, true, true, true, true, false, false, false, false, false, false, false, false] rfl rfl (any_of HT_.out (by kernel_rfl)) (fun _ _ _ h => h) (Or.inr ⟨by rfl, rfl⟩) ?_ ?_
     rotate_left
     ·
      simp only [Act.put, List.setIfInBounds_toArray, List.set_cons_zero, List.set_cons_succ, i64_w, i32_w]
      rfl
     refine pure_ (i := 9) (N := some 43) (v := undef) (a' := ?_) #[true, true, true, true, true, true, true, true, true, true, false, false, false, false, false, false, false] rfl rfl (any_of HT_.out (by kernel_rfl)) (fun _ _ _ h => h) (Or.inr ⟨by rfl, rfl⟩) ?_ ?_
     rotate_left
     ·
      simp only [Act.put, List.setIfInBounds_toArray, List.set_cons_zero, List.set_cons_succ, i64_w, i32_w]
      rfl
     refine pure_ (i := 10) (N := some 44) (v := undef) (a' := ?_) #[true, true, true, true, true, true, true, true, true, true, true, false, false, false, false, false, false] rfl rfl (any_of HT_.out (by kernel_rfl)) (fun _ _ _ h => h) (Or.inr ⟨by rfl, rfl⟩) ?_ ?_
     rotate_left
     ·
      simp only [Act.put, List.setIfInBounds_toArray, List.set_cons_zero, List.set_cons_succ, i64_w, i32_w]
      rfl
     refine pure_ (i := 11) (N := some 45) (v := undef) (a' := ?_) #[true, true, true, true, true, true, true, true, true, true, true, true, false, false, false, false, false] rfl rfl (any_of HT_.out (by kernel_rfl)) (fun _ _ _ h => h) (Or.inr ⟨by rfl, rfl⟩) ?_ ?_
     rotate_left
     ·
      simp only [Act.put, List.setIfInBounds_toArray, List.set_cons_zero, List.set_cons_succ, i64_w, i32_w]
      rfl
     refine pure_ (i := 12) (N := some 46) (v := ?_) (a' := ?_) #[true, true, true, true, true, true, true, true, true, true, true, true, true, false, false, false, false] rfl rfl (any_of HT_.out (by kernel_rfl)) (fun _ _ _ h => h) (Or.inl ⟨by rfl, ?_⟩) ?_ ?_
     rotate_left
     ·
      intro w'
      go_simp
      with_reducible rfl
     rotate_left
     ·
      simp only [Act.put, List.setIfInBounds_toArray, List.set_cons_zero, List.set_cons_succ, i64_w, i32_w]
      rfl
     refine pure_ (i := 13) (N := some 47) (v := ?_) (a' := ?_) #[true, true, true, true, true, true, true, true, true, true, true, true, true, true, false, false, false] rfl rfl (any_of HT_.out (by kernel_rfl)) (fun _ _ _ h => h) (Or.inl ⟨by rfl, ?_⟩) ?_ ?_
     rotate_left
     ·
      intro w'
      go_simp
      with_reducible rfl
     rotate_left
     ·
      simp only [Act.put, List.setIfInBounds_toArray, List.set_cons_zero, List.set_cons_succ, i64_w, i32_w]
      rfl
     refine pure_ (i := 14) (N := some 48) (v := undef) (a' := ?_) #[true, true, true, true, true, true, true, true, true, true, true, true, true, true, true, false, false] rfl rfl (any_of HT_.out (by kernel_rfl)) (fun _ _ _ h => h) (Or.inr ⟨by rfl, rfl⟩) ?_ ?_
     rotate_left
     ·
      simp only [Act.put, List.setIfInBounds_toArray, List.set_cons_zero, List.set_cons_succ, i64_w, i32_w]
      rfl
     refine pure_ (i := 15) (N := some 49) (v := ?_) (a' := ?_) #[true, true, true, true, true, true, true, true, true, true, true, true, true, true, true, true, false] rfl rfl (any_of HT_.out (by kernel_rfl)) (fun _ _ _ h => h) (Or.inl ⟨by rfl, ?_⟩) ?_ ?_
     rotate_left
     ·
      intro w'
      go_simp
      with_reducible rfl
     rotate_left
     ·
      simp only [Act.put, List.setIfInBounds_toArray, List.set_cons_zero, List.set_cons_succ, i64_w, i32_w]
      rfl
     refine pure_ (i := 16) (N := some 4) (v := ?_) (a' := ?_) #[true, true, true, true, true, true, true, true, true, true, true, true, true, true, true, true, true] rfl rfl (any_of HT_.out (by kernel_rfl)) (fun _ _ _ h => h) (Or.inl ⟨by rfl, ?_⟩) ?_ ?_
     rotate_left
     ·
      intro w'
      go_simp
      with_reducible rfl
     rotate_left
     ·
      simp only [Act.put, List.setIfInBounds_toArray, List.set_cons_zero, List.set_cons_succ, i64_w, i32_w]
      rfl
     refine done_ (done_of HT_.out (by kernel_rfl)) ?_
     try go_wp2
     go_ret
     exact ⟨xre, xbl⟩
   ·
    rw [if_neg c30] at H
    have c30b0 : ((t377.length : Int) == 1) = false := beq_eq_false_iff_ne.mpr c30
    have c30b1 : ((t377.length : Int) != 1) = true := bne_iff_ne.mpr c30
    obtain rfl := Option.some.inj H
    go_enter Tryd.func3, Tryd.ntmps3
    try go_wp2_with (first | ((with_reducible refine gate_callee (f := 6) rfl ?_); refine xgl 15 Tryd.func6 #[.bool a0, .string a1] ?_; (with_reducible refine (seat_Parse.calls k a0 a1 t370 t371 t372 t373 t374 t375 _ ?side1 A6.out).mono ?_); (case side1 => first | exact hG | exact GW_to hG xbl); rintro e w54 ⟨rfl, hb⟩; refine ⟨_, rfl, ?_⟩; replace HB := xst hb; (try clear hb)) | ((with_reducible refine gate_dst (N := 5) rfl ?_); refine xev 5 #[.bool false, .string (⟨#[]⟩ : ByteArray), .string (⟨#[]⟩ : ByteArray), .bool false, .string (⟨#[]⟩ : ByteArray)] 24 ?_; intro gb376 hg w55 hbox hb; have BK376 := Aside0.mk (hbox); have GW376 := xsz hg; have GE376 := GW376; replace HB := xst hb; clear hb hbox hg; obtain ⟨hcz56_0, hcz56_1, hcz56_2, hcz56_3, hcz56_4⟩ := xc5 BK376; have hfz56_0 := xf BK376 0; have hfz56_1 := xf BK376 1; have hfz56_2 := xf BK376 2; have hfz56_3 := xf BK376 3; have hfz56_4 := xf BK376 4) | ((with_reducible refine gate_callee (f := 7) rfl ?_); refine xgl 20 Tryd.func7 #[.bool a0, .string a1] ?_; (with_reducible refine (monikerref21_All.calls k a0 a1 t377 _ A7.out).mono ?_); rintro e w57 ⟨v378, rfl, ho0, hb⟩; refine ⟨_, rfl, ?_⟩; have HO379 := Aside0.mk (Kd.R_lower (Kd.R_newB ho0 (g := gb376) (o := .cells #[.bool t370, .string t371, .string t372, .bool t373, .string t374] 24 (0, 0)) xbk) (below_size xbl)); replace BK376 := xbb (g := gb376) (o := .cells #[.bool t370, .string t371, .string t372, .bool t373, .string t374] 24 (0, 0)) hb; replace HB := xst hb; (try clear hb); (try clear ho0); obtain ⟨Ao58, co58, eo58⟩ := Kd.R_slice HO379.out; subst eo58))
    have n0_ := Aside0.mk (Kd.R_drew HO379.out)
    have n1_ := Aside0.mk (blk_drew BK376.out)
    have n2_ := Aside0.mk (below_drew1 HB.out)
    clear HO379
    clear BK376
    clear HB
    have HO379 := n0_
    have BK376 := n1_
    have HB := n2_
    clear n0_ n1_ n2_
    refine start_ (n := 17) (S := fun w' => True) (ds := []) #[false, false, false, false, false, false, false, false, false, false, false, false, false, false, false, false, false] (by kernel_rfl) rfl rfl trivial (fun hHeld => ?_); refine with_tabW monikerlaw21_SeatOne.tab7 monikerlaw21_SeatOne.bits7 (fun HT_ HW_ => ?_)
    generalize w57.drew = w59 at HO379 BK376 HB hHeld ⊢
    refine pure_ (i := 0) (N := some 34) (v := ?_) (a' := ?_) #[true, false, false, false, false, false, false, false, false, false, false, false, false, false, false, false, false] rfl rfl (any_of HT_.out (by kernel_rfl)) (fun _ _ _ h => h) (Or.inl ⟨by rfl, ?_⟩) ?_ ?_
    rotate_left
    ·
     intro w'
     go_simp
     with_reducible rfl
    rotate_left
    ·
     simp only [Act.put, List.setIfInBounds_toArray, List.set_cons_zero, List.set_cons_succ, i64_w, i32_w]
     rfl
    refine pure_ (i := 1) (N := some 35) (v := ?_) (a' := ?_) #[true, true, false, false, false, false, false, false, false, false, false, false, false, false, false, false, false] rfl rfl (any_of HT_.out (by kernel_rfl)) (fun _ _ _ h => h) (Or.inl ⟨by rfl, ?_⟩) ?_ ?_
    rotate_left
    ·
     intro w'
     go_simp
     with_reducible rfl
    rotate_left
    ·
     simp only [Act.put, List.setIfInBounds_toArray, List.set_cons_zero, List.set_cons_succ, i64_w, i32_w]
     rfl
    refine pure_ (i := 2) (N := some 36) (v := ?_) (a' := ?_) #[true, true, true, false, false, false, false, false, false, false, false, false, false, false, false, false, false] rfl rfl (any_of HT_.out (by kernel_rfl)) (fun _ _ _ h => h) (Or.inl ⟨by rfl, ?_⟩) ?_ ?_
    rotate_left
    ·
     intro w'
     go_simp
     with_reducible rfl
    rotate_left
    ·
     simp only [Act.put, List.setIfInBounds_toArray, List.set_cons_zero, List.set_cons_succ, i64_w, i32_w]
     rfl
    refine pure_ (i := 3) (N := some 37) (v := ?_) (a' := ?_) #[true, true, true, true, false, false, false, false, false, false, false, false, false, false, false, false, false] rfl rfl (any_of HT_.out (by kernel_rfl)) (fun _ _ _ h => h) (Or.inl ⟨by rfl, ?_⟩) ?_ ?_
    rotate_left
    ·
     intro w'
     go_simp
     with_reducible rfl
    rotate_left
    ·
     simp only [Act.put, List.setIfInBounds_toArray, List.set_cons_zero, List.set_cons_succ, i64_w, i32_w]
     rfl
    refine pure_ (i := 4) (N := some 38) (v := undef) (a' := ?_) #[true, true, true, true, true, false, false, false, false, false, false, false, false, false, false, false, false] rfl rfl (any_of HT_.out (by kernel_rfl)) (fun _ _ _ h => h) (Or.inr ⟨by rfl, rfl⟩) ?_ ?_
    rotate_left
    ·
     simp only [Act.put, List.setIfInBounds_toArray, List.set_cons_zero, List.set_cons_succ, i64_w, i32_w]
     rfl
    refine pure_ (i := 5) (N := some 39) (v := ?_) (a' := ?_) #[true, true, true, true, true, true, false, false, false, false, false, false, false, false, false, false, false] rfl rfl (any_of HT_.out (by kernel_rfl)) (fun _ _ _ h => h) (Or.inl ⟨by rfl, ?_⟩) ?_ ?_
    rotate_left
    ·
     intro w'
     go_simp
     with_reducible rfl
    rotate_left
    ·
     simp only [Act.put, List.setIfInBounds_toArray, List.set_cons_zero, List.set_cons_succ, i64_w, i32_w]
     rfl
    refine pure_ (i := 6) (N := some 40) (v := ?_) (a' := ?_) #[true, true, true, true, true, true, true, false, false, false, false, false, false, false, false, false, false] rfl rfl (any_of HT_.out (by kernel_rfl)) (fun _ _ _ h => h) (Or.inl ⟨by rfl, ?_⟩) ?_ ?_
    rotate_left
    ·
     intro w'
     go_simp
     with_reducible rfl
    rotate_left
    ·
     simp only [Act.put, List.setIfInBounds_toArray, List.set_cons_zero, List.set_cons_succ, i64_w, i32_w]
     rfl
    refine pure_ (i := 7) (N := some 41) (v := undef) (a' := ?_) #[true, true, true, true, true, true, true, true, false, false, false, false, false, false, false, false, false] rfl rfl (any_of HT_.out (by kernel_rfl)) (fun _ _ _ h => h) (Or.inr ⟨by rfl, rfl⟩) ?_ ?_
    rotate_left
    ·
     simp only [Act.put, List.setIfInBounds_toArray, List.set_cons_zero, List.set_cons_succ, i64_w, i32_w]
     rfl
    refine pure_ (i := 8) (N := some 42) (v := undef) (a' := ?_) #[true, true, true, true, true, true, true, true, true, false, false, false, false, false, false, false, false] rfl rfl (any_of HT_.out (by kernel_rfl)) (fun _ _ _ h => h) (Or.inr ⟨by rfl, rfl⟩) ?_ ?_
    rotate_left
    ·
     simp only [Act.put, List.setIfInBounds_toArray, List.set_cons_zero, List.set_cons_succ, i64_w, i32_w]
     rfl
    refine pure_ (i := 9) (N := some 43) (v := undef) (a' := ?_) #[true, true, true, true, true, true, true, true, true, true, false, false, false, false, false, false, false] rfl rfl (any_of HT_.out (by kernel_rfl)) (fun _ _ _ h => h) (Or.inr ⟨by rfl, rfl⟩) ?_ ?_
    rotate_left
    ·
     simp only [Act.put, List.setIfInBounds_toArray, List.set_cons_zero, List.set_cons_succ, i64_w, i32_w]
     rfl
    refine pure_ (i := 10) (N := some 44) (v := undef) (a' := ?_) #[true, true, true, true, true, true, true, true, true, true, true, false, false, false, false, false, false] rfl rfl (any_of HT_.out (by kernel_rfl)) (fun _ _ _ h => h) (Or.inr ⟨by rfl, rfl⟩) ?_ ?_
    rotate_left
    ·
     simp only [Act.put, List.setIfInBounds_toArray, List.set_cons_zero, List.set_cons_succ, i64_w, i32_w]
     rfl
    refine pure_ (i := 11) (N := some 45) (v := undef) (a' := ?_) #[true, true, true, true, true, true, true, true, true, true, true, true, false, false, false, false, false] rfl rfl (any_of HT_.out (by kernel_rfl)) (fun _ _ _ h => h) (Or.inr ⟨by rfl, rfl⟩) ?_ ?_
    rotate_left
    ·
     simp only [Act.put, List.setIfInBounds_toArray, List.set_cons_zero, List.set_cons_succ, i64_w, i32_w]
     rfl
    refine pure_ (i := 12) (N := some 46) (v := ?_) (a' := ?_) #[true, true, true, true, true, true, true, true, true, true, true, true, true, false, false, false, false] rfl rfl (any_of HT_.out (by kernel_rfl)) (fun _ _ _ h => h) (Or.inl ⟨by rfl, ?_⟩) ?_ ?_
    rotate_left
    ·
     intro w'
     go_simp
     with_reducible rfl
    rotate_left
    ·
     simp only [Act.put, List.setIfInBounds_toArray, List.set_cons_zero, List.set_cons_succ, i64_w, i32_w]
     rfl
    refine pure_ (i := 13) (N := some 47) (v := ?_) (a' := ?_) #[true, true, true, true, true, true, true, true, true, true, true, true, true, true, false, false, false] rfl rfl (any_of HT_.out (by kernel_rfl)) (fun _ _ _ h => h) (Or.inl ⟨by rfl, ?_⟩) ?_ ?_
    rotate_left
    ·
     intro w'
     go_simp
     with_reducible rfl
    rotate_left
    ·
     simp only [Act.put, List.setIfInBounds_toArray, List.set_cons_zero, List.set_cons_succ, i64_w, i32_w]
     rfl
    refine pure_ (i := 14) (N := some 48) (v := undef) (a' := ?_) #[true, true, true, true, true, true, true, true, true, true, true, true, true, true, true, false, false] rfl rfl (any_of HT_.out (by kernel_rfl)) (fun _ _ _ h => h) (Or.inr ⟨by rfl, rfl⟩) ?_ ?_
    rotate_left
    ·
     simp only [Act.put, List.setIfInBounds_toArray, List.set_cons_zero, List.set_cons_succ, i64_w, i32_w]
     rfl
    refine pure_ (i := 15) (N := some 49) (v := ?_) (a' := ?_) #[true, true, true, true, true, true, true, true, true, true, true, true, true, true, true, true, false] rfl rfl (any_of HT_.out (by kernel_rfl)) (fun _ _ _ h => h) (Or.inl ⟨by rfl, ?_⟩) ?_ ?_
    rotate_left
    ·
     intro w'
     go_simp
     with_reducible rfl
    rotate_left
    ·
     simp only [Act.put, List.setIfInBounds_toArray, List.set_cons_zero, List.set_cons_succ, i64_w, i32_w]
     rfl
    refine pure_ (i := 16) (N := some 4) (v := ?_) (a' := ?_) #[true, true, true, true, true, true, true, true, true, true, true, true, true, true, true, true, true] rfl rfl (any_of HT_.out (by kernel_rfl)) (fun _ _ _ h => h) (Or.inl ⟨by rfl, ?_⟩) ?_ ?_
    rotate_left
    ·
     intro w'
     go_simp
     with_reducible rfl
    rotate_left
    ·
     simp only [Act.put, List.setIfInBounds_toArray, List.set_cons_zero, List.set_cons_succ, i64_w, i32_w]
     rfl
    refine done_ (done_of HT_.out (by kernel_rfl)) ?_
    try go_wp2
    go_ret
    exact ⟨xre, xbl⟩
def monikerlaw21_SeatOne.Pure : Prop := ∀ (a0 : Bool) (a1 : ByteArray), a1.size ≤ 140737488351232 → ∃ k, monikerlaw21_SeatOne.f k a0 a1 = some true
end Go.Proofs.YtdmigmccfdhdiaaDoor.X
namespace Go.Proofs.YtdmigmccfdhdiaaDoor.M
open Go Go.RowKit Go.Proofs.YtdmigmccfdhdiaaDoorW.PrintWords
theorem w64 {x : Int} (h1 : -9223372036854775808 ≤ x) (h2 : x ≤ 9223372036854775807) : wrap64 x = x := by unfold wrap64; omega
theorem toList_data (s : ByteArray) : s.toList = s.data.toList := ByteArray.toList_eq s
theorem bytes_inj {a b : ByteArray} (h : bytesOf a = bytesOf b) : a = b := by
  unfold bytesOf at h
  have : a.data.toList = b.data.toList := by
    apply List.map_inj_right (f := fun b : UInt8 => (b.toNat : Int)) _ |>.1 h
    intro x y hxy
    exact UInt8.toNat_inj.1 (by omega)
  cases a; cases b
  simp only [ByteArray.mk.injEq]
  exact Array.toList_inj.1 this
theorem toList_iff {a b : ByteArray} : a.toList = b.toList ↔ bytesOf a = bytesOf b := by
  rw [toList_data, toList_data]
  exact ⟨fun h => by unfold bytesOf; rw [h], fun h => by rw [bytes_inj h]⟩
theorem bytes_append (a b : ByteArray) : bytesOf (a ++ b) = bytesOf a ++ bytesOf b := by
  unfold bytesOf
  rw [ByteArray.data_append, Array.toList_append, List.map_append]
theorem bytes_extract (a : ByteArray) (i j : Nat) : bytesOf (a.extract i j) = ((bytesOf a).take j).drop i := by
  unfold bytesOf
  rw [ByteArray.data_extract, Array.toList_extract, List.extract_eq_take_drop, List.map_take, List.map_drop, List.drop_take]
theorem bytes_range {s : ByteArray} {x : Int} (h : x ∈ bytesOf s) : 0 ≤ x ∧ x ≤ 255 := by
  unfold bytesOf at h
  obtain ⟨b, _, rfl⟩ := List.mem_map.1 h
  have := b.toNat_lt
  omega
theorem bytes_len (s : ByteArray) : (bytesOf s).length = s.size := bytesOf_length s
theorem bt_getD (s : ByteArray) (i : Nat) : bt s (i : Int) = (bytesOf s).getD i 0 := by
  rw [← rd_bytesOf]; unfold rd; simp
theorem at_drop {s : ByteArray} {i : Nat} {b : Int} {t : List Int} (h : (bytesOf s).drop i = b :: t) : bt s (i : Int) = b ∧ i < s.size ∧ (bytesOf s).drop (i + 1) = t ∧ 0 ≤ b ∧ b ≤ 255 := by
  have hl : i < (bytesOf s).length := by
    have := congrArg List.length h
    rw [List.length_drop, List.length_cons] at this
    omega
  have e := List.drop_eq_getElem_cons hl
  rw [h] at e
  injection e with e1 e2
  have hr := bytes_range (s := s) (x := b) (by rw [e1]; exact List.getElem_mem hl)
  refine ⟨?_, by rw [← bytes_len]; exact hl, e2.symm, hr.1, hr.2⟩
  rw [bt_getD, List.getD_eq_getElem?_getD, List.getElem?_eq_getElem hl, e1]
  rfl
theorem take_next {s : ByteArray} {n : Nat} (h : n < s.size) : (bytesOf s).take (n + 1) = (bytesOf s).take n ++ [bt s (n : Int)] := by
  have hl : n < (bytesOf s).length := by rw [bytes_len]; exact h
  rw [List.take_succ_eq_append_getElem hl, bt_getD, List.getD_eq_getElem?_getD, List.getElem?_eq_getElem hl]
  rfl
theorem bt_rng (s : ByteArray) (i : Int) : 0 ≤ bt s i ∧ bt s i ≤ 255 := bt_range s i
theorem Ev.ret {α : Type} {g : Nat → Option α} {r : α} (h : ∀ k, g k = some r) : Ev g r := ⟨0, fun k _ => h k⟩
theorem Ev.bind' {α β : Type} {g : Nat → Option α} {f : Nat → α → Option β} {a : α} {r : β} (h : Ev g a) (k : Ev (fun n => f n a) r) : Ev (fun n => (g n).bind fun t => f n t) r := Ev.bind h k
theorem Ev.pure_bind {α β : Type} {o : Option α} {f : Nat → α → Option β} {a : α} {r : β} (h : o = some a) (k : Ev (fun n => f n a) r) : Ev (fun n => o.bind fun t => f n t) r := by
  subst h; exact k
theorem Ev.ite_pos {α : Type} {c : Prop} [Decidable c] {g f : Nat → Option α} {r : α} (h : c) (k : Ev g r) : Ev (fun n => if c then g n else f n) r := by
  simp only [if_pos h]; exact k
theorem Ev.ite_neg {α : Type} {c : Prop} [Decidable c] {g f : Nat → Option α} {r : α} (h : ¬ c) (k : Ev f r) : Ev (fun n => if c then g n else f n) r := by
  simp only [if_neg h]; exact k
theorem Ev.ite {α : Type} {c : Prop} [Decidable c] {g f : Nat → Option α} {r : α} (h : c → Ev g r) (k : ¬ c → Ev f r) : Ev (fun n => if c then g n else f n) r := by
  by_cases hc : c
  · exact Ev.ite_pos hc (h hc)
  · exact Ev.ite_neg hc (k hc)
theorem Ev.val {α : Type} {a r : α} (h : a = r) : Ev (fun _ => some a) r := by subst h; exact Ev.now _
def idx (c : Int) : List Int → Int
  | [] => -1
  | b :: t => if b = c then 0 else if idx c t = -1 then -1 else idx c t + 1
theorem idx_ge (c : Int) (l : List Int) : -1 ≤ idx c l := by
  induction l with
  | nil => simp [idx]
  | cons b t ih => unfold idx; split <;> (try split) <;> omega
theorem idx_lt (c : Int) (l : List Int) : idx c l < l.length := by
  induction l with
  | nil => simp [idx]
  | cons b t ih => unfold idx; rw [List.length_cons]; split <;> (try split) <;> omega
theorem idx_append (c : Int) (l m : List Int) : idx c (l ++ m) = if idx c l = -1 then (if idx c m = -1 then -1 else idx c m + l.length) else idx c l := by
  induction l with
  | nil => simp only [List.nil_append, idx, if_true, List.length_nil]; split <;> omega
  | cons b t ih =>
    have := idx_ge c t
    have := idx_ge c m
    rw [List.cons_append]
    by_cases hb : b = c
    · simp [idx, hb]
    · simp only [idx, if_neg hb, ih, List.length_cons]
      by_cases h1 : idx c t = -1
      · by_cases h2 : idx c m = -1
        · simp [h1, h2]
        · simp only [h1, h2, if_true, if_false]
          rw [if_neg (by omega)]; omega
      · simp only [h1, if_false]
        rw [if_neg (by omega)]
theorem idx_none {c : Int} {l : List Int} : idx c l = -1 ↔ c ∉ l := by
  induction l with
  | nil => simp [idx]
  | cons b t ih =>
    have := idx_ge c t
    unfold idx
    by_cases hb : b = c
    · simp [hb]
    · simp only [if_neg hb, List.mem_cons, not_or]
      by_cases h1 : idx c t = -1
      · simp [h1, ih.1 h1, Ne.symm hb]
      · rw [if_neg h1]
        constructor
        · intro h; omega
        · intro h; exact absurd (ih.2 h.2) h1
theorem idx_split {c : Int} {l : List Int} (h : 0 ≤ idx c l) : l = l.take (idx c l).toNat ++ c :: l.drop ((idx c l).toNat + 1) ∧ c ∉ l.take (idx c l).toNat := by
  induction l with
  | nil => simp [idx] at h
  | cons b t ih =>
    unfold idx at h ⊢
    by_cases hb : b = c
    · simp [hb]
    · rw [if_neg hb] at h ⊢
      by_cases h1 : idx c t = -1
      · rw [if_pos h1] at h; omega
      · have hg := idx_ge c t
        rw [if_neg h1]
        obtain ⟨e1, e2⟩ := ih (by omega)
        have e : (idx c t + 1).toNat = (idx c t).toNat + 1 := by omega
        rw [e, List.take_succ_cons, List.drop_succ_cons, List.cons_append]
        refine ⟨by rw [← e1], ?_⟩
        rw [List.mem_cons, not_or]
        exact ⟨Ne.symm hb, e2⟩
def lidx (c : Int) : List Int → Int
  | [] => -1
  | b :: t => if lidx c t = -1 then (if b = c then 0 else -1) else lidx c t + 1
theorem lidx_ge (c : Int) (l : List Int) : -1 ≤ lidx c l := by
  induction l with
  | nil => simp [lidx]
  | cons b t ih => unfold lidx; split <;> (try split) <;> omega
theorem lidx_lt (c : Int) (l : List Int) : lidx c l < l.length := by
  induction l with
  | nil => simp [lidx]
  | cons b t ih => unfold lidx; rw [List.length_cons]; split <;> (try split) <;> omega
theorem lidx_snoc (c : Int) (l : List Int) (b : Int) : lidx c (l ++ [b]) = if b = c then (l.length : Int) else lidx c l := by
  induction l with
  | nil => simp [lidx]
  | cons a t ih =>
    have := lidx_ge c t
    rw [List.cons_append]
    simp only [lidx, ih, List.length_cons]
    by_cases hb : b = c
    · rw [if_pos hb, if_pos hb, if_neg (by omega)]; omega
    · simp only [if_neg hb]
theorem lidx_none {c : Int} {l : List Int} : lidx c l = -1 ↔ c ∉ l := by
  induction l with
  | nil => simp [lidx]
  | cons b t ih =>
    have := lidx_ge c t
    unfold lidx
    rw [List.mem_cons, not_or]
    by_cases h1 : lidx c t = -1
    · rw [if_pos h1]
      by_cases hb : b = c
      · simp [hb]
      · rw [if_neg hb]; simp [ih.1 h1, Ne.symm hb]
    · rw [if_neg h1]
      constructor
      · intro h; omega
      · intro h; exact absurd (ih.2 h.2) h1
theorem lidx_split {c : Int} {l : List Int} (h : 0 ≤ lidx c l) : l = l.take (lidx c l).toNat ++ c :: l.drop ((lidx c l).toNat + 1) ∧ c ∉ l.drop ((lidx c l).toNat + 1) := by
  induction l with
  | nil => simp [lidx] at h
  | cons b t ih =>
    have hg := lidx_ge c t
    unfold lidx at h ⊢
    by_cases h1 : lidx c t = -1
    · rw [if_pos h1] at h ⊢
      by_cases hb : b = c
      · rw [if_pos hb]; simp [hb, lidx_none.1 h1]
      · rw [if_neg hb] at h; omega
    · rw [if_neg h1] at h ⊢
      obtain ⟨e1, e2⟩ := ih (by omega)
      have e : (lidx c t + 1).toNat = (lidx c t).toNat + 1 := by omega
      rw [e, List.take_succ_cons, List.drop_succ_cons, List.cons_append]
      exact ⟨by rw [← e1], e2⟩
theorem indexByte_idx (l : List UInt8) (c : UInt8) : Go.Lib.indexByte l c = idx (c.toNat : Int) (l.map fun b => (b.toNat : Int)) := by
  induction l with
  | nil => rfl
  | cons b t ih =>
    rw [List.map_cons]
    unfold Go.Lib.indexByte idx
    rw [ih]
    by_cases hb : b = c
    · simp [hb]
    · have h1 : (b == c) = false := by simpa using hb
      have h2 : ¬ ((b.toNat : Int) = (c.toNat : Int)) := fun h => hb (UInt8.toNat_inj.1 (by omega))
      rw [h1, if_neg h2]
      simp only [Bool.false_eq_true, if_false, beq_iff_eq]
theorem indexByte_bytes (s : ByteArray) (c : Int) (h0 : 0 ≤ c) (h1 : c ≤ 255) : Go.Lib.indexByte s.data.toList c.toNat.toUInt8 = idx c (bytesOf s) := by
  rw [indexByte_idx]
  have : ((c.toNat.toUInt8.toNat : Nat) : Int) = c := by
    rw [Nat.toUInt8, UInt8.toNat_ofNat']
    omega
  rw [this]; rfl
end Go.Proofs.YtdmigmccfdhdiaaDoor.M
namespace Go.Proofs.YtdmigmccfdhdiaaDoor.M
open Go Go.RowKit Go.Proofs.YtdmigmccfdhdiaaDoorW.PrintWords
theorem byte_all {p : Int → Prop} (h : ∀ n : Fin 256, p ((n.val : Nat) : Int)) {b : Int} (h0 : 0 ≤ b) (h1 : b ≤ 255) : p b := by
  have := h ⟨b.toNat, by omega⟩
  simp only at this
  rwa [Int.toNat_of_nonneg h0] at this
def alpha (b : Int) : Bool := decide (65 ≤ b ∧ b ≤ 90 ∨ 97 ≤ b ∧ b ≤ 122)
def digit (b : Int) : Bool := decide (48 ≤ b ∧ b ≤ 57)
def hexd (b : Int) : Bool := decide (48 ≤ b ∧ b ≤ 57 ∨ 65 ≤ b ∧ b ≤ 70 ∨ 97 ≤ b ∧ b ≤ 102)
def markc (b : Int) : Bool := decide (b = 45 ∨ b = 46 ∨ b = 95 ∨ b = 126)
def subc (b : Int) : Bool := decide (b = 33 ∨ b = 36 ∨ 38 ≤ b ∧ b ≤ 44 ∨ b = 59 ∨ b = 61)
def genc (b : Int) : Bool := decide (b = 58 ∨ b = 47 ∨ b = 63 ∨ b = 35 ∨ b = 91 ∨ b = 93 ∨ b = 64)
def cls (b : Int) : Int := (if alpha b then 1 else 0) + (if digit b then 2 else 0) + (if markc b then 4 else 0) + (if subc b then 8 else 0) + (if genc b then 16 else 0) + (if hexd b then 32 else 0)
def plainc (b : Int) : Bool := alpha b || digit b || markc b || subc b
def isc (b c : Int) : Bool := Go.bits .and .i64 (cls b) c != 0
theorem isc_digit {b : Int} (h0 : 0 ≤ b) (h1 : b ≤ 255) : isc b 2 = digit b :=
  byte_all (p := fun b => isc b 2 = digit b) (by decide +kernel) h0 h1
theorem isc_plain {b : Int} (h0 : 0 ≤ b) (h1 : b ≤ 255) : isc b 15 = plainc b :=
  byte_all (p := fun b => isc b 15 = plainc b) (by decide +kernel) h0 h1
theorem isc_hex {b : Int} (h0 : 0 ≤ b) (h1 : b ≤ 255) : isc b 32 = hexd b :=
  byte_all (p := fun b => isc b 32 = hexd b) (by decide +kernel) h0 h1
theorem isc_zero {b c : Int} : Go.bits .and .i64 (cls b) c = 0 ↔ isc b c = false := by unfold isc; simp
def hv (b : Int) : Int := if 48 ≤ b ∧ b ≤ 57 then b - 48 else if 65 ≤ b ∧ b ≤ 70 then b - 55 else if 97 ≤ b ∧ b ≤ 102 then b - 87 else -1
theorem hv_range (b : Int) : -1 ≤ hv b ∧ hv b ≤ 15 := by unfold hv; (repeat' split) <;> omega
theorem hv_hexd (b : Int) : (0 ≤ hv b) ↔ hexd b = true := by
  unfold hv hexd
  rw [decide_eq_true_iff]
  (repeat' split) <;> omega
theorem hv_neg (b : Int) : (hv b < 0) ↔ hexd b = false := by
  have h1 := hv_hexd b
  rw [← Bool.not_eq_true, ← h1]
  omega
theorem hexd_plain {b : Int} (h : hexd b = true) : plainc b = true := by
  unfold hexd at h
  unfold plainc alpha digit
  rw [decide_eq_true_iff] at h
  simp only [Bool.or_eq_true, decide_eq_true_iff]
  omega
def spanp (p : Int → Bool) : List Int → Nat
  | [] => 0
  | b :: t => if p b then spanp p t + 1 else 0
theorem spanp_le (p : Int → Bool) (l : List Int) : spanp p l ≤ l.length := by
  induction l with
  | nil => simp [spanp]
  | cons b t ih => unfold spanp; rw [List.length_cons]; split <;> omega
theorem spanp_all {p : Int → Bool} {l : List Int} : spanp p l = l.length ↔ ∀ b ∈ l, p b = true := by
  induction l with
  | nil => simp [spanp]
  | cons b t ih =>
    unfold spanp
    cases hb : p b
    · simp [hb]
    · simp [hb, ← ih]
theorem spanp_take {p : Int → Bool} (l : List Int) : ∀ b ∈ l.take (spanp p l), p b = true := by
  induction l with
  | nil => simp [spanp]
  | cons b t ih =>
    unfold spanp
    cases hb : p b
    · simp
    · simp only [if_true, List.take_succ_cons]
      intro c hc
      rcases List.mem_cons.1 hc with rfl | hc
      · exact hb
      · exact ih c hc
end Go.Proofs.YtdmigmccfdhdiaaDoor.M
namespace Go.Proofs.YtdmigmccfdhdiaaDoor.M
open Go Go.RowKit Go.Proofs.YtdmigmccfdhdiaaDoorW.PrintWords
set_option linter.unusedVariables false
def sidx (sub : List Int) : List Int → Int
  | [] => if sub = [] then 0 else -1
  | b :: t => if sub.isPrefixOf (b :: t) then 0 else if sidx sub t = -1 then -1 else sidx sub t + 1
theorem sidx_cons (sub : List Int) (b : Int) (t : List Int) : sidx sub (b :: t) = if sub.isPrefixOf (b :: t) then 0 else if sidx sub t = -1 then -1 else sidx sub t + 1 := rfl
theorem sidx_ge (sub l : List Int) : -1 ≤ sidx sub l := by
  induction l with
  | nil => unfold sidx; split <;> omega
  | cons b t ih => rw [sidx_cons]; split <;> (try split) <;> omega
theorem prefix_map (a l : List UInt8) : (a.map fun b => (b.toNat : Int)).isPrefixOf (l.map fun b => (b.toNat : Int)) = a.isPrefixOf l := by
  induction a generalizing l with
  | nil => rfl
  | cons x t ih =>
    cases l with
    | nil => rfl
    | cons y r =>
      rw [List.map_cons, List.map_cons, List.isPrefixOf_cons_cons, List.isPrefixOf_cons_cons, ih]
      congr 1
      rw [Bool.eq_iff_iff, beq_iff_eq, beq_iff_eq]
      constructor
      · intro h; exact UInt8.toNat_inj.1 (by omega)
      · intro h; rw [h]
theorem index_sidx (l sub : List UInt8) : Go.Lib.index l sub = sidx (sub.map fun b => (b.toNat : Int)) (l.map fun b => (b.toNat : Int)) := by
  induction l with
  | nil =>
    unfold Go.Lib.index
    rw [List.map_nil]
    unfold sidx
    cases sub <;> simp
  | cons b t ih =>
    unfold Go.Lib.index
    have hp := prefix_map sub (b :: t)
    rw [List.map_cons] at hp ⊢
    rw [sidx_cons, hp, ih]
    by_cases h : sub.isPrefixOf (b :: t) = true
    · rw [if_pos h, if_pos h]
    · rw [if_neg h, if_neg h]
      simp only [beq_iff_eq]
theorem indexB_sidx (s sub : ByteArray) : Go.Lib.indexB s sub = sidx (bytesOf sub) (bytesOf s) := index_sidx _ _
theorem sidx_one (c : Int) (l : List Int) : sidx [c] l = idx c l := by
  induction l with
  | nil => unfold sidx idx; simp
  | cons b t ih =>
    rw [sidx_cons, ih]
    have : idx c (b :: t) = if b = c then 0 else if idx c t = -1 then -1 else idx c t + 1 := rfl
    rw [this]
    by_cases h : b = c
    · rw [if_pos h, if_pos (by simp [h])]
    · rw [if_neg h, if_neg (by simp; exact fun x => h x.symm)]
theorem sidx_split {sub l : List Int} (h : 0 ≤ sidx sub l) : (sidx sub l).toNat + sub.length ≤ l.length ∧ (l.drop (sidx sub l).toNat).take sub.length = sub := by
  induction l with
  | nil =>
    unfold sidx at h ⊢
    by_cases hs : sub = []
    · subst hs; simp
    · rw [if_neg hs] at h; omega
  | cons b t ih =>
    rw [sidx_cons] at h ⊢
    by_cases hp : sub.isPrefixOf (b :: t) = true
    · rw [if_pos hp]
      have := List.isPrefixOf_iff_prefix.1 hp
      refine ⟨?_, ?_⟩
      · have := this.length_le; simpa using this
      · simpa using (List.prefix_iff_eq_take.1 this).symm
    · rw [if_neg hp] at h ⊢
      by_cases h1 : sidx sub t = -1
      · rw [if_pos h1] at h; omega
      · have hg := sidx_ge sub t
        rw [if_neg h1]
        have := ih (by omega)
        have e : (sidx sub t + 1).toNat = (sidx sub t).toNat + 1 := by omega
        rw [e, List.drop_succ_cons, List.length_cons]
        exact ⟨by omega, this.2⟩
def splitC (c : Int) : List Int → List (List Int)
  | [] => [[]]
  | b :: t => if b = c then [] :: splitC c t else (b :: (splitC c t).headD []) :: (splitC c t).tail
theorem splitC_cons (c b : Int) (t : List Int) : splitC c (b :: t) = if b = c then [] :: splitC c t else (b :: (splitC c t).headD []) :: (splitC c t).tail := rfl
theorem splitC_ne (c : Int) (l : List Int) : splitC c l ≠ [] := by
  cases l with
  | nil => simp [splitC]
  | cons b t => rw [splitC_cons]; split <;> simp
theorem splitC_head (c : Int) (l : List Int) : splitC c l = (splitC c l).headD [] :: (splitC c l).tail := by
  cases h : splitC c l with
  | nil => exact absurd h (splitC_ne c l)
  | cons a r => rfl
theorem splitC_none {c : Int} {l : List Int} (h : c ∉ l) : splitC c l = [l] := by
  induction l with
  | nil => rfl
  | cons b t ih =>
    rw [List.mem_cons, not_or] at h
    rw [splitC_cons, if_neg (fun x => h.1 x.symm), ih h.2]; rfl
theorem splitC_at {c : Int} {a : List Int} (h : c ∉ a) (r : List Int) : splitC c (a ++ c :: r) = a :: splitC c r := by
  induction a with
  | nil => rw [List.nil_append, splitC_cons, if_pos rfl]
  | cons b t ih =>
    rw [List.mem_cons, not_or] at h
    rw [List.cons_append, splitC_cons, if_neg (fun x => h.1 x.symm), ih h.2]; rfl
theorem splitC_len (c : Int) (l : List Int) : (splitC c l).length ≤ l.length + 1 := by
  induction l with
  | nil => simp [splitC]
  | cons b t ih =>
    rw [splitC_cons]
    split
    · simp; omega
    · simp only [List.length_cons, List.length_tail]; omega
theorem splitC_mem {c : Int} {l : List Int} : ∀ p ∈ splitC c l, c ∉ p ∧ (∀ b ∈ p, b ∈ l) ∧ p.length ≤ l.length := by
  induction l with
  | nil => intro p hp; simp [splitC] at hp; subst hp; simp
  | cons b t ih =>
    intro p hp
    rw [splitC_cons] at hp
    by_cases h : b = c
    · rw [if_pos h] at hp
      rcases List.mem_cons.1 hp with rfl | hp
      · simp
      · obtain ⟨h1, h2, h3⟩ := ih p hp
        exact ⟨h1, fun x hx => List.mem_cons_of_mem _ (h2 x hx), by rw [List.length_cons]; omega⟩
    · rw [if_neg h] at hp
      rcases List.mem_cons.1 hp with rfl | hp
      · obtain ⟨h1, h2, h3⟩ := ih ((splitC c t).headD []) (by rw [splitC_head c t]; simp)
        refine ⟨?_, ?_, by simp only [List.length_cons]; omega⟩
        · rw [List.mem_cons, not_or]; exact ⟨fun x => h x.symm, h1⟩
        · intro x hx
          rcases List.mem_cons.1 hx with rfl | hx
          · exact List.mem_cons_self ..
          · exact List.mem_cons_of_mem _ (h2 x hx)
      · obtain ⟨h1, h2, h3⟩ := ih p (List.mem_of_mem_tail hp)
        exact ⟨h1, fun x hx => List.mem_cons_of_mem _ (h2 x hx), by rw [List.length_cons]; omega⟩
theorem splitB_splitC (c : Int) (sep : ByteArray) (hsep : bytesOf sep = [c]) : ∀ (k : Nat) (s : ByteArray), Go.Lib.countB s sep = k → (Go.Lib.splitB sep 0 k s).map bytesOf = splitC c (bytesOf s) := by
  have h1 : sep.size = 1 := by rw [← bytes_len, hsep]; rfl
  intro k
  induction k with
  | zero =>
    intro s hk
    rcases Go.Lib.indexB_cases s sep with hix | ⟨i, hix, hr⟩
    · rw [Go.Lib.splitB_zero, List.map_cons, List.map_nil]
      rw [indexB_sidx, hsep, sidx_one] at hix
      rw [splitC_none (idx_none.1 hix)]
    · have := Go.Lib.countB_hit s sep i (by omega) hix; omega
  | succ k ih =>
    intro s hk
    rcases Go.Lib.indexB_cases s sep with hix | ⟨i, hix, hr⟩
    · rw [Go.Lib.countB_miss s sep hix] at hk; omega
    · have hc := Go.Lib.countB_hit s sep i (by omega) hix
      rw [Go.Lib.splitB_hit sep 0 k s i hix, List.map_cons, ih _ (by omega)]
      rw [indexB_sidx, hsep, sidx_one] at hix
      obtain ⟨e1, e2⟩ := idx_split (c := c) (l := bytesOf s) (by omega)
      rw [hix, Int.toNat_natCast] at e1 e2
      conv => rhs; rw [e1]
      rw [splitC_at e2, bytes_extract, bytes_extract, h1, List.drop_zero, Nat.add_zero]
      rw [← bytes_len, List.take_length]
end Go.Proofs.YtdmigmccfdhdiaaDoor.M
namespace Go.Proofs.YtdmigmccfdhdiaaDoor.M
open Go Go.RowKit Go.Proofs.YtdmigmccfdhdiaaDoorW.PrintWords
def shp (b : Int) : Int × Int × Int :=
  if b < 128 then (1, 0, 0) else if 194 ≤ b ∧ b ≤ 223 then (2, 128, 191) else if b = 224 then (3, 160, 191) else if b = 237 then (3, 128, 159)
  else if 225 ≤ b ∧ b ≤ 239 then (3, 128, 191) else if b = 240 then (4, 144, 191) else if b = 244 then (4, 128, 143) else if 241 ≤ b ∧ b ≤ 243 then (4, 128, 191) else (0, 0, 0)
def conts : Nat → Int → Int → List Int → Nat
  | 0, _, _, _ => 0
  | _ + 1, _, _, [] => 0
  | n + 1, lo, hi, c :: t => if lo ≤ c ∧ c ≤ hi then conts n 128 191 t + 1 else 0
def accum (r : Int) : List Int → Int
  | [] => r
  | c :: t => accum (r * 64 + (c - 128)) t
def lead (n b : Int) : Int := if n = 1 then b else if n = 2 then b - 192 else if n = 3 then b - 224 else b - 240
def dec : List Int → Int × Int × Bool
  | [] => (0, 0, false)
  | b :: t => if (shp b).1 = 0 then (0, 1, false)
    else if (conts ((shp b).1.toNat - 1) (shp b).2.1 (shp b).2.2 t : Int) + 1 < (shp b).1 then (0, (conts ((shp b).1.toNat - 1) (shp b).2.1 (shp b).2.2 t : Int) + 1, false)
    else (accum (lead (shp b).1 b) (t.take ((shp b).1.toNat - 1)), (shp b).1, true)
theorem dec_cons (b : Int) (t : List Int) : dec (b :: t) = if (shp b).1 = 0 then (0, 1, false)
    else if (conts ((shp b).1.toNat - 1) (shp b).2.1 (shp b).2.2 t : Int) + 1 < (shp b).1 then (0, (conts ((shp b).1.toNat - 1) (shp b).2.1 (shp b).2.2 t : Int) + 1, false)
    else (accum (lead (shp b).1 b) (t.take ((shp b).1.toNat - 1)), (shp b).1, true) := rfl
theorem shp_range (b : Int) : 0 ≤ (shp b).1 ∧ (shp b).1 ≤ 4 := by
  unfold shp
  (repeat' split) <;> simp
theorem shp_bounds {b : Int} (h : 2 ≤ (shp b).1) : 128 ≤ (shp b).2.1 ∧ (shp b).2.2 ≤ 191 := by
  revert h
  unfold shp
  (repeat' split) <;> simp
theorem shp_lead {b : Int} (h0 : 0 ≤ b) (h1 : b ≤ 255) (h : 1 ≤ (shp b).1) : 0 ≤ lead (shp b).1 b ∧ lead (shp b).1 b < 128 := by
  have := byte_all (p := fun b => 1 ≤ (shp b).1 → 0 ≤ lead (shp b).1 b ∧ lead (shp b).1 b < 128) (by decide +kernel) h0 h1
  exact this h
theorem conts_le (n : Nat) (lo hi : Int) (l : List Int) : conts n lo hi l ≤ n ∧ conts n lo hi l ≤ l.length := by
  induction n generalizing lo hi l with
  | zero => simp [conts]
  | succ n ih =>
    cases l with
    | nil => simp [conts]
    | cons c t =>
      unfold conts
      have := ih 128 191 t
      rw [List.length_cons]
      split <;> omega
theorem conts_mem (n : Nat) (lo hi : Int) (h0 : 128 ≤ lo) (h1 : hi ≤ 191) (l : List Int) : ∀ c ∈ l.take (conts n lo hi l), 128 ≤ c ∧ c ≤ 191 := by
  induction n generalizing lo hi l with
  | zero => simp [conts]
  | succ n ih =>
    cases l with
    | nil => simp [conts]
    | cons c t =>
      unfold conts
      split
      · rename_i h
        simp only [List.take_succ_cons]
        intro d hd
        rcases List.mem_cons.1 hd with rfl | hd
        · omega
        · exact ih 128 191 (by omega) (by omega) t d hd
      · simp
theorem conts_one (lo hi : Int) (l : List Int) : conts 0 lo hi l = 0 := by unfold conts; rfl
theorem dec_n (l : List Int) : 0 ≤ (dec l).2.1 ∧ (dec l).2.1 ≤ 4 ∧ (dec l).2.1 ≤ l.length := by
  cases l with
  | nil => simp [dec]
  | cons b t =>
    have h1 := shp_range b
    have h2 := conts_le ((shp b).1.toNat - 1) (shp b).2.1 (shp b).2.2 t
    rw [List.length_cons, dec_cons]
    split
    · simp only; omega
    · split
      · simp only
        omega
      · simp only
        omega
theorem dec_pos {b : Int} {t : List Int} : 1 ≤ (dec (b :: t)).2.1 := by
  have h1 := shp_range b
  rw [dec_cons]
  split
  · simp
  · split <;> simp only <;> omega
theorem dec_ascii {b : Int} (t : List Int) (h : b < 128) : dec (b :: t) = (b, 1, true) := by
  have : shp b = (1, 0, 0) := by unfold shp; rw [if_pos h]
  rw [dec_cons, this]
  simp [conts, lead, accum]
theorem dec_wide {b : Int} {t : List Int} (h : 128 ≤ b) (hb : b ≤ 255) (ok : (dec (b :: t)).2.2 = true) : 2 ≤ (dec (b :: t)).2.1 ∧ ∀ c ∈ (b :: t).take (dec (b :: t)).2.1.toNat, 128 ≤ c := by
  have h1 := shp_range b
  have h2 : (shp b).1 ≠ 1 := byte_all (p := fun b => 128 ≤ b → (shp b).1 ≠ 1) (by decide +kernel) (by omega) hb h
  rw [dec_cons] at ok ⊢
  by_cases e : (shp b).1 = 0
  · rw [if_pos e] at ok; cases ok
  · rw [if_neg e] at ok ⊢
    by_cases e2 : (conts ((shp b).1.toNat - 1) (shp b).2.1 (shp b).2.2 t : Int) + 1 < (shp b).1
    · rw [if_pos e2] at ok; cases ok
    · rw [if_neg e2]
      have h3 := conts_le ((shp b).1.toNat - 1) (shp b).2.1 (shp b).2.2 t
      have h4 := shp_bounds (b := b) (by omega)
      have h5 := conts_mem ((shp b).1.toNat - 1) (shp b).2.1 (shp b).2.2 h4.1 h4.2 t
      have e3 : (shp b).1.toNat = conts ((shp b).1.toNat - 1) (shp b).2.1 (shp b).2.2 t + 1 := by omega
      refine ⟨by simp only; omega, ?_⟩
      simp only
      rw [e3, List.take_succ_cons]
      intro c hc
      rcases List.mem_cons.1 hc with rfl | hc
      · exact h
      · exact (h5 c hc).1
theorem dec_ok_n {l : List Int} (ok : (dec l).2.2 = true) : 1 ≤ (dec l).2.1 := by
  cases l with
  | nil => cases ok
  | cons b t => exact dec_pos
end Go.Proofs.YtdmigmccfdhdiaaDoor.M
