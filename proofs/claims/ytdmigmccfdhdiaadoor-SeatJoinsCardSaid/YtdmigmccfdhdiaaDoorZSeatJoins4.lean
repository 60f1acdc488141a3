/- Texts that the law's proof needs, joined by a program of this session. -/
import Derived.Test.YtdmigmccfdhdiaaDoorZSeatJoins1
import Derived.Test.YtdmigmccfdhdiaaDoorZSeatJoins2
import Derived.Test.YtdmigmccfdhdiaaDoorZSeatJoins3
namespace Go.Proofs.YtdmigmccfdhdiaaDoor.X
open Go.RowKit Go.Proofs.YtdmigmccfdhdiaaDoorW.PrintWords Go.Proofs.YtdmigmccfdhdiaaDoorW.PrintLast Go.Proofs.YtdmigmccfdhdiaaDoorW.PrintMore
attribute [local go_sem] max2_int min2_int max_two min_two max_three min_three max_four min_four
set_option linter.unusedVariables false
set_option linter.unusedSimpArgs false
mutual
def lexis_May.j0 : Nat → Int → Bool → Int → Bool → Option (Bool)
  | 0, _, _, _, _ => none
  | k + 1, x0, x1, x2, x14 => if x14 = true then ((lexis_Plain.f k x0 ((x2) % 256)).bind fun t149 => (some t149)) else ((lexis_extra.f x0).bind fun bt150 => (if bt150.2 = true then (lexis_May.j1 k x0 x2 (!x1)) else (lexis_May.j1 k x0 x2 true)))
def lexis_May.j1 : Nat → Int → Int → Bool → Option (Bool)
  | 0, _, _, _ => none
  | k + 1, x0, x2, x29 => if x29 = true then (some false) else ((lexis_Common.f k x2).bind fun t152 => (if t152 = true then (some true) else (if x0 = 6 then ((lexis_Private.f x2).bind fun t153 => (some t153)) else (some false))))
end
def lexis_May.f (k : Nat) (a0 : Int) (a1 : Bool) (a2 : Int) : Option (Bool) := if a2 ≥ 0 then (lexis_May.j0 k a0 a1 a2 (decide (a2 < 128))) else (lexis_May.j0 k a0 a1 a2 false)
theorem lexis_May.mono_l : ∀ k, (∀ y0 y1 y2 y3, LeO (lexis_May.j0 k y0 y1 y2 y3) (lexis_May.j0 (k + 1) y0 y1 y2 y3)) ∧ (∀ y0 y1 y2, LeO (lexis_May.j1 k y0 y1 y2) (lexis_May.j1 (k + 1) y0 y1 y2))
  | 0 => ⟨fun _ _ _ _ r h => by simp [lexis_May.j0] at h, fun _ _ _ r h => by simp [lexis_May.j1] at h⟩
  | k + 1 => by
    obtain ⟨ih0, ih1⟩ := lexis_May.mono_l k
    have m0 := @lexis_Common.mono; have m1 := @lexis_Plain.mono
    refine ⟨?_, ?_⟩
    · intro y0 y1 y2 y3
      unfold lexis_May.j0
      exact xmo
    · intro y0 y1 y2
      unfold lexis_May.j1
      exact xmo
theorem lexis_May.mono : ∀ a0 a1 a2 k, LeO (lexis_May.f k a0 a1 a2) (lexis_May.f (k + 1) a0 a1 a2) := by
  intro a0 a1 a2 k
  obtain ⟨ih0, ih1⟩ := lexis_May.mono_l k
  have m0 := @lexis_Common.mono; have m1 := @lexis_Plain.mono
  unfold lexis_May.f
  exact xmo
set_option maxHeartbeats 8000000 in
set_option maxRecDepth 100000 in
theorem lexis_May.calls (k : Nat) (a0 : Int) (a1 : Bool) (a2 : Int) (r : Bool) (w : World) (h : lexis_May.f k a0 a1 a2 = some r) :
    Calls Tryd.prog 45 #[.int .i64 a0, .bool a1, .int .i32 a2] w fun e w' => e = .returned (.bool r) ∧ Below w.heap.size w w' := by
 have HB := Aside0.mk (Below.refl w.heap.size w)
 have H : (if a2 ≥ 0 then (lexis_May.j0 k a0 a1 a2 (decide (a2 < 128))) else (lexis_May.j0 k a0 a1 a2 false)) = some r := h
 clear h
 have HC4 := Aside0.mk H
 clear H
 go_enter Tryd.func45, Tryd.ntmps45
 go_upto_region 1 with (fail)
 go_cut [14] (fun v14 wc => ∃ (kq : Nat) (x14_3 : Bool), v14 = .bool x14_3 ∧ Aside0 (lexis_May.j0 kq a0 a1 a2 x14_3 = some r) ∧ Aside0 (kq ≤ k) ∧ Aside0 (Below w.heap.size w wc))
 case first =>
  have H := HC4.out
  clear HC4
  by_cases c5 : a2 ≥ 0
  ·
   rw [if_pos c5] at H
   have c5b0 := decide_eq_true c5
   clear c5
   (first | rw [c5b0] | (simp only [i64_w, i32_w]; rw [c5b0]) | skip)
   have H' := Aside0.mk H
   clear H
   go_wp2
   go_meet
   case rel => exact ⟨_, (decide (a2 < 128)), xrr, H', ⟨xom⟩, ⟨xbl⟩⟩
  ·
   rw [if_neg c5] at H
   have c5b0 := decide_eq_false c5
   clear c5
   (first | rw [c5b0] | (simp only [i64_w, i32_w]; rw [c5b0]) | skip)
   have H' := Aside0.mk H
   clear H
   go_wp2
   go_meet
   case rel => exact ⟨_, (false), xrr, H', ⟨xom⟩, ⟨xbl⟩⟩
 case rest =>
  clear HC4
  obtain ⟨kq, x14_3, rfl, HA, HJ3, HB⟩ := hcut
  cases kq with
  | zero => exact absurd HA.out (by simp [lexis_May.j0])
  | succ kj3 =>
   have H := HA.out
   clear HA
   simp only [lexis_May.j0] at H
   by_cases c6 : x14_3 = true
   ·
    subst c6
    rw [if_pos rfl] at H
    replace H := Option.bind_eq_some_iff.mp H
    obtain ⟨t149, A70, H⟩ := H
    try dsimp only at H
    have A7 := Aside0.mk A70
    clear A70
    obtain rfl := Option.some.inj H
    go_wp2_with (first | ((with_reducible refine gate_callee (f := 48) rfl ?_); refine xgl 18 Tryd.func48 #[.int .i64 a0, .int .u8 ((a2) % 256)] ?_; (with_reducible refine (lexis_Plain.calls kj3 a0 ((a2) % 256) t149 _ A7.out).mono ?_); rintro e w8 ⟨rfl, hb⟩; refine ⟨_, rfl, ?_⟩; replace HB := xst hb; (try clear hb)))
    go_ret
    exact ⟨xre, xbl⟩
   ·
    replace c6 := Bool.eq_false_iff.mpr c6
    subst c6
    rw [if_neg (show ¬ (false = true) by decide)] at H
    replace H := Option.bind_eq_some_iff.mp H
    obtain ⟨⟨t150, t151⟩, A90, H⟩ := H
    try dsimp only at H
    have A9 := Aside0.mk A90
    clear A90
    have HC10 := Aside0.mk H
    clear H
    go_upto_region 4 with (first | ((with_reducible refine gate_callee (f := 42) rfl ?_); refine xgl 21 Tryd.func42 #[.int .i64 a0] ?_; (with_reducible refine (lexis_extra.calls a0 t150 t151 _ A9.out).mono ?_); rintro e w' ⟨rfl, ⟨nd, rfl⟩⟩; refine ⟨_, rfl, ?_⟩))
    (try simp only [Act.put, List.setIfInBounds_toArray, List.set_cons_zero, List.set_cons_succ])
    go_cut [29] (fun v29 wc => ∃ (kq : Nat) (x29_9 : Bool), v29 = .bool x29_9 ∧ Aside0 (lexis_May.j1 kq a0 a2 x29_9 = some r) ∧ Aside0 (kq ≤ kj3) ∧ Aside0 (Below w.heap.size w wc))
    case first =>
     have H := HC10.out
     clear HC10
     by_cases c11 : t151 = true
     ·
      subst c11
      rw [if_pos rfl] at H
      have H' := Aside0.mk H
      clear H
      go_wp2
      go_meet
      case rel => exact ⟨_, (!a1), xrr, H', ⟨by have := HJ3.out; first | omega | exact Nat.le_refl _⟩, ⟨xbl⟩⟩
     ·
      replace c11 := Bool.eq_false_iff.mpr c11
      subst c11
      rw [if_neg (show ¬ (false = true) by decide)] at H
      have H' := Aside0.mk H
      clear H
      go_wp2
      go_meet
      case rel => exact ⟨_, (true), xrr, H', ⟨by have := HJ3.out; first | omega | exact Nat.le_refl _⟩, ⟨xbl⟩⟩
    case rest =>
     clear HC10
     obtain ⟨kq, x29_9, rfl, HA, HJ9, HB⟩ := hcut
     cases kq with
     | zero => exact absurd HA.out (by simp [lexis_May.j1])
     | succ kj9 =>
      have H := HA.out
      clear HA
      simp only [lexis_May.j1] at H
      by_cases c12 : x29_9 = true
      ·
       subst c12
       rw [if_pos rfl] at H
       obtain rfl := Option.some.inj H
       go_wp2
       go_ret
       exact ⟨xre, xbl⟩
      ·
       replace c12 := Bool.eq_false_iff.mpr c12
       subst c12
       rw [if_neg (show ¬ (false = true) by decide)] at H
       replace H := Option.bind_eq_some_iff.mp H
       obtain ⟨t152, A130, H⟩ := H
       try dsimp only at H
       have A13 := Aside0.mk A130
       clear A130
       by_cases c14 : t152 = true
       ·
        subst c14
        rw [if_pos rfl] at H
        obtain rfl := Option.some.inj H
        go_wp2_with (first | ((with_reducible refine gate_callee (f := 63) rfl ?_); refine xgl 31 Tryd.func63 #[.int .i32 a2] ?_; (with_reducible refine (lexis_Common.calls kj9 a2 true _ A13.out).mono ?_); rintro e w' ⟨rfl, ⟨nd, rfl⟩⟩; refine ⟨_, rfl, ?_⟩))
        go_ret
        exact ⟨xre, xbl⟩
       ·
        replace c14 := Bool.eq_false_iff.mpr c14
        subst c14
        rw [if_neg (show ¬ (false = true) by decide)] at H
        by_cases c15 : a0 = 6
        ·
         rw [if_pos c15] at H
         have c15b0 : (a0 == 6) = true := beq_iff_eq.mpr c15
         have c15b1 : (a0 != 6) = false := bne_eq_false_iff_eq.mpr c15
         clear c15
         replace H := Option.bind_eq_some_iff.mp H
         obtain ⟨t153, A160, H⟩ := H
         try dsimp only at H
         have A16 := Aside0.mk A160
         clear A160
         obtain rfl := Option.some.inj H
         go_wp2_with (first | ((with_reducible refine gate_callee (f := 63) rfl ?_); refine xgl 31 Tryd.func63 #[.int .i32 a2] ?_; (with_reducible refine (lexis_Common.calls kj9 a2 false _ A13.out).mono ?_); rintro e w' ⟨rfl, ⟨nd, rfl⟩⟩; refine ⟨_, rfl, ?_⟩) | (go_at_call 64; (with_reducible refine (lexis_Private.calls a2 t153 _ A16.out).mono ?_); rintro e w' ⟨rfl, ⟨nd, rfl⟩⟩))
         go_ret
         exact ⟨xre, xbl⟩
        ·
         rw [if_neg c15] at H
         have c15b0 : (a0 == 6) = false := beq_eq_false_iff_ne.mpr c15
         have c15b1 : (a0 != 6) = true := bne_iff_ne.mpr c15
         obtain rfl := Option.some.inj H
         go_wp2_with (first | ((with_reducible refine gate_callee (f := 63) rfl ?_); refine xgl 31 Tryd.func63 #[.int .i32 a2] ?_; (with_reducible refine (lexis_Common.calls kj9 a2 false _ A13.out).mono ?_); rintro e w' ⟨rfl, ⟨nd, rfl⟩⟩; refine ⟨_, rfl, ?_⟩))
         go_ret
         exact ⟨xre, xbl⟩
def lexis_Span.l0 : Nat → Int → Bool → ByteArray → Int → Option (Int)
  | 0, _, _, _, _ => none
  | k + 1, x0, x1, x2, x7 => if x7 < (x2.size : Int) then ((lexis_extra.f x0).bind fun bt154 => (if bt154.2 = true then ((escape_At.f k x2 x7).bind fun bt156 => (if bt156.2 = true then (lexis_Span.l0 k x0 x1 x2 (wrap64 (x7 + 3))) else (if 0 ≤ x7 then (if x7 ≤ (x2.size : Int) then ((utf_Decode.f k (x2.extract (x7 : Int).toNat x2.size)).bind fun bt158 => (if bt158.2.2 = true then ((lexis_May.f k x0 x1 bt158.1).bind fun t161 => (if t161 = true then (lexis_Span.l0 k x0 x1 x2 (wrap64 (x7 + bt158.2.1))) else (some x7))) else (some x7))) else (none)) else (none)))) else (some 0))) else (some x7)
def lexis_Span.f (k : Nat) (a0 : Int) (a1 : Bool) (a2 : ByteArray) : Option (Int) := lexis_Span.l0 k a0 a1 a2 0
theorem lexis_Span.mono_l : ∀ k, (∀ y0 y1 y2 y3, LeO (lexis_Span.l0 k y0 y1 y2 y3) (lexis_Span.l0 (k + 1) y0 y1 y2 y3))
  | 0 => fun _ _ _ _ r h => by simp [lexis_Span.l0] at h
  | k + 1 => by
    have ih0 := lexis_Span.mono_l k
    have m0 := @escape_At.mono; have m1 := @lexis_May.mono; have m2 := @utf_Decode.mono
    · intro y0 y1 y2 y3
      unfold lexis_Span.l0
      exact xmo
theorem lexis_Span.mono : ∀ a0 a1 a2 k, LeO (lexis_Span.f k a0 a1 a2) (lexis_Span.f (k + 1) a0 a1 a2) := by
  intro a0 a1 a2 k
  have ih0 := lexis_Span.mono_l k
  have m0 := @escape_At.mono; have m1 := @lexis_May.mono; have m2 := @utf_Decode.mono
  unfold lexis_Span.f
  exact xmo
set_option maxHeartbeats 8000000 in
set_option maxRecDepth 100000 in
theorem lexis_Span.calls (k : Nat) (a0 : Int) (a1 : Bool) (a2 : ByteArray) (r : Int) (w : World) (h : lexis_Span.f k a0 a1 a2 = some r) :
    Calls Tryd.prog 26 #[.int .i64 a0, .bool a1, .string a2] w fun e w' => e = .returned (.int .i64 r) ∧ Below w.heap.size w w' := by
 have HB := Aside0.mk (Below.refl w.heap.size w)
 have H : (lexis_Span.l0 k a0 a1 a2 0) = some r := h
 clear h
 have H' := Aside0.mk H
 clear H
 go_enter Tryd.func26, Tryd.ntmps26
 go_wp2
 go_loopg [7] k (fun kq v7 w' => ∃ (x7_1 : Int), v7 = .int .i64 x7_1 ∧ Aside0 (lexis_Span.l0 kq a0 a1 a2 x7_1 = some r) ∧ Aside0 (kq ≤ k) ∧ Aside0 (Below w.heap.size w w'))
 case atStart => exact ⟨(0), xrr, H', ⟨Nat.le_refl _⟩, ⟨xbl⟩⟩
 case round =>
  clear H'
  obtain ⟨x7_1, rfl, HA, HK1, HB⟩ := hrel
  cases gk with
  | zero => exact absurd HA.out (by simp [lexis_Span.l0])
  | succ k1 =>
   have H := HA.out
   clear HA
   simp only [lexis_Span.l0] at H
   by_cases c4 : x7_1 < (a2.size : Int)
   ·
    rw [if_pos c4] at H
    have c4b0 := decide_eq_true c4
    clear c4
    replace H := Option.bind_eq_some_iff.mp H
    obtain ⟨⟨t154, t155⟩, A50, H⟩ := H
    try dsimp only at H
    have A5 := Aside0.mk A50
    clear A50
    by_cases c6 : t155 = true
    ·
     subst c6
     rw [if_pos rfl] at H
     replace H := Option.bind_eq_some_iff.mp H
     obtain ⟨⟨t156, t157⟩, A70, H⟩ := H
     try dsimp only at H
     have A7 := Aside0.mk A70
     clear A70
     by_cases c8 : t157 = true
     ·
      subst c8
      rw [if_pos rfl] at H
      have H' := Aside0.mk H
      clear H
      go_wp2_with (first | ((with_reducible refine gate_callee (f := 42) rfl ?_); refine xgl 21 Tryd.func42 #[.int .i64 a0] ?_; (with_reducible refine (lexis_extra.calls a0 t154 true _ A5.out).mono ?_); rintro e w' ⟨rfl, ⟨nd, rfl⟩⟩; refine ⟨_, rfl, ?_⟩) | ((with_reducible refine gate_callee (f := 43) rfl ?_); refine xgl 29 Tryd.func43 #[.string a2, .int .i64 x7_1] ?_; (with_reducible refine (escape_At.calls k1 a2 x7_1 t156 true _ A7.out).mono ?_); rintro e w' ⟨rfl, ⟨nd, rfl⟩⟩; refine ⟨_, rfl, ?_⟩))
      go_roundg k1
      case measure => have := HK1.out; omega
      case rel => exact ⟨(wrap64 (x7_1 + 3)), xrr, H', ⟨by have := HK1.out; omega⟩, ⟨xbl⟩⟩
     ·
      replace c8 := Bool.eq_false_iff.mpr c8
      subst c8
      rw [if_neg (show ¬ (false = true) by decide)] at H
      by_cases c9 : 0 ≤ x7_1
      ·
       rw [if_pos c9] at H
       have c9b0 := eq_true c9
       have c9b1 := decide_eq_true c9
       clear c9
       by_cases c10 : x7_1 ≤ (a2.size : Int)
       ·
        rw [if_pos c10] at H
        have c10b0 := eq_true c10
        have c10b1 := decide_eq_true c10
        clear c10
        obtain ⟨ji11, hji11⟩ : ∃ j_ : ByteArray, (a2.extract (x7_1 : Int).toNat a2.size) = j_ := ⟨_, rfl⟩
        try (have hji11x := hji11; simp only [Int.toNat_natCast, Int.toNat_ofNat] at hji11x)
        first | rw [hji11] at H | simp only [hji11] at H | skip
        (try rw [hji11] at A5)
        (try rw [hji11] at A7)
        replace H := Option.bind_eq_some_iff.mp H
        obtain ⟨⟨t158, t159, t160⟩, A120, H⟩ := H
        try dsimp only at H
        have A12 := Aside0.mk A120
        clear A120
        by_cases c13 : t160 = true
        ·
         subst c13
         rw [if_pos rfl] at H
         replace H := Option.bind_eq_some_iff.mp H
         obtain ⟨t161, A140, H⟩ := H
         try dsimp only at H
         have A14 := Aside0.mk A140
         clear A140
         by_cases c15 : t161 = true
         ·
          subst c15
          rw [if_pos rfl] at H
          have H' := Aside0.mk H
          clear H
          go_wp2_with (first | ((with_reducible refine gate_callee (f := 42) rfl ?_); refine xgl 21 Tryd.func42 #[.int .i64 a0] ?_; (with_reducible refine (lexis_extra.calls a0 t154 true _ A5.out).mono ?_); rintro e w' ⟨rfl, ⟨nd, rfl⟩⟩; refine ⟨_, rfl, ?_⟩) | ((with_reducible refine gate_callee (f := 43) rfl ?_); refine xgl 29 Tryd.func43 #[.string a2, .int .i64 x7_1] ?_; (with_reducible refine (escape_At.calls k1 a2 x7_1 t156 false _ A7.out).mono ?_); rintro e w' ⟨rfl, ⟨nd, rfl⟩⟩; refine ⟨_, rfl, ?_⟩) | ((with_reducible refine gate_callee (f := 44) rfl ?_); refine goesL_ (some 39) rfl rfl Tryd.func44 (by kernel_rfl) rfl #[.string ji11] rfl (by (try simp only [List.map_toArray, List.map_cons, List.map_nil]); first | done | (simp only [hji11]; rfl) | rfl | (simp only [List.length_drop, List.length_take]; rfl)) ?_; (with_reducible refine (utf_Decode.calls k1 ji11 t158 t159 true _ A12.out).mono ?_); rintro e w16 ⟨rfl, hb⟩; refine ⟨_, rfl, ?_⟩; replace HB := xst hb; (try clear hb)) | (go_at_call 45; (with_reducible refine (lexis_May.calls k1 a0 a1 t158 true _ A14.out).mono ?_); rintro e w17 ⟨rfl, hb⟩; replace HB := xst hb; (try clear hb)))
          first | go_roundg k1 | (simp only [← hji11]; go_roundg k1)
          case measure => have := HK1.out; omega
          case rel => exact ⟨(wrap64 (x7_1 + t159)), xrr, H', ⟨by have := HK1.out; omega⟩, ⟨xbl⟩⟩
         ·
          replace c15 := Bool.eq_false_iff.mpr c15
          subst c15
          rw [if_neg (show ¬ (false = true) by decide)] at H
          obtain rfl := Option.some.inj H
          go_wp2_with (first | ((with_reducible refine gate_callee (f := 42) rfl ?_); refine xgl 21 Tryd.func42 #[.int .i64 a0] ?_; (with_reducible refine (lexis_extra.calls a0 t154 true _ A5.out).mono ?_); rintro e w' ⟨rfl, ⟨nd, rfl⟩⟩; refine ⟨_, rfl, ?_⟩) | ((with_reducible refine gate_callee (f := 43) rfl ?_); refine xgl 29 Tryd.func43 #[.string a2, .int .i64 x7_1] ?_; (with_reducible refine (escape_At.calls k1 a2 x7_1 t156 false _ A7.out).mono ?_); rintro e w' ⟨rfl, ⟨nd, rfl⟩⟩; refine ⟨_, rfl, ?_⟩) | ((with_reducible refine gate_callee (f := 44) rfl ?_); refine goesL_ (some 39) rfl rfl Tryd.func44 (by kernel_rfl) rfl #[.string ji11] rfl (by (try simp only [List.map_toArray, List.map_cons, List.map_nil]); first | done | (simp only [hji11]; rfl) | rfl | (simp only [List.length_drop, List.length_take]; rfl)) ?_; (with_reducible refine (utf_Decode.calls k1 ji11 t158 t159 true _ A12.out).mono ?_); rintro e w18 ⟨rfl, hb⟩; refine ⟨_, rfl, ?_⟩; replace HB := xst hb; (try clear hb)) | (go_at_call 45; (with_reducible refine (lexis_May.calls k1 a0 a1 t158 false _ A14.out).mono ?_); rintro e w19 ⟨rfl, hb⟩; replace HB := xst hb; (try clear hb)))
          go_ret
          exact ⟨by first | rfl | (simp [errW_none, errW_some] <;> first | rfl | (simp only [xp_isEmpty, bne, Bool.not_not]; done)) | (simp only [← hji11]; first | rfl | (simp [errW_none, errW_some] <;> rfl)) | (simp [*, errW_none, errW_some] <;> rfl), xbl⟩
        ·
         replace c13 := Bool.eq_false_iff.mpr c13
         subst c13
         rw [if_neg (show ¬ (false = true) by decide)] at H
         obtain rfl := Option.some.inj H
         go_wp2_with (first | ((with_reducible refine gate_callee (f := 42) rfl ?_); refine xgl 21 Tryd.func42 #[.int .i64 a0] ?_; (with_reducible refine (lexis_extra.calls a0 t154 true _ A5.out).mono ?_); rintro e w' ⟨rfl, ⟨nd, rfl⟩⟩; refine ⟨_, rfl, ?_⟩) | ((with_reducible refine gate_callee (f := 43) rfl ?_); refine xgl 29 Tryd.func43 #[.string a2, .int .i64 x7_1] ?_; (with_reducible refine (escape_At.calls k1 a2 x7_1 t156 false _ A7.out).mono ?_); rintro e w' ⟨rfl, ⟨nd, rfl⟩⟩; refine ⟨_, rfl, ?_⟩) | ((with_reducible refine gate_callee (f := 44) rfl ?_); refine goesL_ (some 39) rfl rfl Tryd.func44 (by kernel_rfl) rfl #[.string ji11] rfl (by (try simp only [List.map_toArray, List.map_cons, List.map_nil]); first | done | (simp only [hji11]; rfl) | rfl | (simp only [List.length_drop, List.length_take]; rfl)) ?_; (with_reducible refine (utf_Decode.calls k1 ji11 t158 t159 false _ A12.out).mono ?_); rintro e w20 ⟨rfl, hb⟩; refine ⟨_, rfl, ?_⟩; replace HB := xst hb; (try clear hb)))
         go_ret
         exact ⟨by first | rfl | (simp [errW_none, errW_some] <;> first | rfl | (simp only [xp_isEmpty, bne, Bool.not_not]; done)) | (simp only [← hji11]; first | rfl | (simp [errW_none, errW_some] <;> rfl)) | (simp [*, errW_none, errW_some] <;> rfl), xbl⟩
       ·
        rw [if_neg c10] at H
        exact absurd H (by simp)
      ·
       rw [if_neg c9] at H
       exact absurd H (by simp)
    ·
     replace c6 := Bool.eq_false_iff.mpr c6
     subst c6
     rw [if_neg (show ¬ (false = true) by decide)] at H
     obtain rfl := Option.some.inj H
     go_wp2_with (first | ((with_reducible refine gate_callee (f := 42) rfl ?_); refine xgl 21 Tryd.func42 #[.int .i64 a0] ?_; (with_reducible refine (lexis_extra.calls a0 t154 false _ A5.out).mono ?_); rintro e w' ⟨rfl, ⟨nd, rfl⟩⟩; refine ⟨_, rfl, ?_⟩))
     go_ret
     exact ⟨xre, xbl⟩
   ·
    rw [if_neg c4] at H
    have c4b0 := decide_eq_false c4
    clear c4
    obtain rfl := Option.some.inj H
    go_wp2
    go_ret
    exact ⟨xre, xbl⟩
def lexis_All.f (k : Nat) (a0 : Int) (a1 : Bool) (a2 : ByteArray) : Option (Bool) := (lexis_Span.f k a0 a1 a2).bind fun t162 => (some (t162 == (a2.size : Int)))
theorem lexis_All.mono : ∀ a0 a1 a2 k, LeO (lexis_All.f k a0 a1 a2) (lexis_All.f (k + 1) a0 a1 a2) := by
  intro a0 a1 a2 k
  have m0 := @lexis_Span.mono
  unfold lexis_All.f
  exact xmo
set_option maxHeartbeats 8000000 in
set_option maxRecDepth 100000 in
theorem lexis_All.calls (k : Nat) (a0 : Int) (a1 : Bool) (a2 : ByteArray) (r : Bool) (w : World) (h : lexis_All.f k a0 a1 a2 = some r) :
    Calls Tryd.prog 16 #[.int .i64 a0, .bool a1, .string a2] w fun e w' => e = .returned (.bool r) ∧ Below w.heap.size w w' := by
 have HB := Aside0.mk (Below.refl w.heap.size w)
 have H : ((lexis_Span.f k a0 a1 a2).bind fun t162 => (some (t162 == (a2.size : Int)))) = some r := h
 clear h
 replace H := Option.bind_eq_some_iff.mp H
 obtain ⟨t162, A40, H⟩ := H
 try dsimp only at H
 have A4 := Aside0.mk A40
 clear A40
 obtain rfl := Option.some.inj H
 go_enter Tryd.func16, Tryd.ntmps16
 go_wp2_with (first | ((with_reducible refine gate_callee (f := 26) rfl ?_); refine xgl 10 Tryd.func26 #[.int .i64 a0, .bool a1, .string a2] ?_; (with_reducible refine (lexis_Span.calls k a0 a1 a2 t162 _ A4.out).mono ?_); rintro e w5 ⟨rfl, hb⟩; refine ⟨_, rfl, ?_⟩; replace HB := xst hb; (try clear hb)))
 go_ret
 exact ⟨xre, xbl⟩
def stringslite_Index.f (a0 : ByteArray) (a1 : ByteArray) : Option (Int) := if a0.size < 4294967281 then some (Go.Lib.index a0.data.toList a1.data.toList) else none
theorem stringslite_Index.calls (a0 : ByteArray) (a1 : ByteArray) (r : Int) (w : World) (hG : GW w) (h : stringslite_Index.f a0 a1 = some r) :
    Calls Tryd.prog 73 #[.string a0, .string a1] w fun e w' => e = .returned (.int .i64 r) ∧ Drawn0 w w' := by
  unfold stringslite_Index.f at h
  by_cases hs : a0.size < 4294967281
  · rw [if_pos hs] at h
    obtain rfl := Option.some.inj h
    obtain ⟨m, hm⟩ := hG
    refine (Tryd.stringslite_Index a0 a1 m w hs hm).mono ?_
    rintro e w' ⟨rfl, rfl⟩
    exact ⟨rfl, Drawn0.refl _⟩
  · rw [if_neg hs] at h; cases h
def stringslite_Cut.f (a0 : ByteArray) (a1 : ByteArray) : Option (ByteArray × ByteArray × Bool) := (stringslite_Index.f a0 a1).bind fun t163 => (if t163 ≥ 0 then (if 0 ≤ t163 then (if t163 ≤ (a0.size : Int) then (if 0 ≤ (wrap64 (t163 + (a1.size : Int))) then (if (wrap64 (t163 + (a1.size : Int))) ≤ (a0.size : Int) then (some (a0.extract 0 (t163 : Int).toNat, a0.extract ((wrap64 (t163 + (a1.size : Int))) : Int).toNat a0.size, true)) else (none)) else (none)) else (none)) else (none)) else (some (a0, (⟨#[]⟩ : ByteArray), false)))
set_option maxHeartbeats 8000000 in
set_option maxRecDepth 100000 in
theorem stringslite_Cut.calls (a0 : ByteArray) (a1 : ByteArray) (r1 : ByteArray) (r2 : ByteArray) (r3 : Bool) (w : World) (hG : GW w) (h : stringslite_Cut.f a0 a1 = some (r1, r2, r3)) :
    Calls Tryd.prog 65 #[.string a0, .string a1] w fun e w' => e = .returned (.tuple #[.string r1, .string r2, .bool r3]) ∧ Drawn0 w w' := by
 have H : ((stringslite_Index.f a0 a1).bind fun t163 => (if t163 ≥ 0 then (if 0 ≤ t163 then (if t163 ≤ (a0.size : Int) then (if 0 ≤ (wrap64 (t163 + (a1.size : Int))) then (if (wrap64 (t163 + (a1.size : Int))) ≤ (a0.size : Int) then (some (a0.extract 0 (t163 : Int).toNat, a0.extract ((wrap64 (t163 + (a1.size : Int))) : Int).toNat a0.size, true)) else (none)) else (none)) else (none)) else (none)) else (some (a0, (⟨#[]⟩ : ByteArray), false)))) = some (r1, r2, r3) := h
 clear h
 replace H := Option.bind_eq_some_iff.mp H
 obtain ⟨t163, A30, H⟩ := H
 try dsimp only at H
 have A3 := Aside0.mk A30
 clear A30
 by_cases c4 : t163 ≥ 0
 ·
  rw [if_pos c4] at H
  have c4b0 := decide_eq_true c4
  clear c4
  by_cases c5 : 0 ≤ t163
  ·
   rw [if_pos c5] at H
   have c5b0 := eq_true c5
   have c5b1 := decide_eq_true c5
   clear c5
   by_cases c6 : t163 ≤ (a0.size : Int)
   ·
    rw [if_pos c6] at H
    have c6b0 := eq_true c6
    have c6b1 := decide_eq_true c6
    clear c6
    obtain ⟨ji7, hji7⟩ : ∃ j_ : ByteArray, (a0.extract 0 (t163 : Int).toNat) = j_ := ⟨_, rfl⟩
    try (have hji7x := hji7; simp only [Int.toNat_natCast, Int.toNat_ofNat] at hji7x)
    first | rw [hji7] at H | simp only [hji7] at H | skip
    (try rw [hji7] at A3)
    obtain ⟨ji8, hji8⟩ : ∃ j_ : Int, (wrap64 (t163 + (a1.size : Int))) = j_ := ⟨_, rfl⟩
    first | rw [hji8] at H | simp only [hji8] at H | skip
    (try rw [hji8] at A3)
    have hji8w : (IntKind.i64.wrap (t163 + (a1.size : Int))) = ji8 := (i64_w _).trans hji8
    by_cases c9 : 0 ≤ (ji8)
    ·
     rw [if_pos c9] at H
     have c9b0 := eq_true c9
     have c9b1 := decide_eq_true c9
     clear c9
     by_cases c10 : (ji8) ≤ (a0.size : Int)
     ·
      rw [if_pos c10] at H
      have c10b0 := eq_true c10
      have c10b1 := decide_eq_true c10
      clear c10
      obtain ⟨ji11, hji11⟩ : ∃ j_ : ByteArray, (a0.extract ((ji8) : Int).toNat a0.size) = j_ := ⟨_, rfl⟩
      try (have hji11x := hji11; simp only [Int.toNat_natCast, Int.toNat_ofNat] at hji11x)
      first | rw [hji11] at H | simp only [hji11] at H | skip
      (try rw [hji11] at A3)
      simp only [Option.some.injEq, Prod.mk.injEq] at H
      obtain ⟨rfl, rfl, rfl⟩ := H
      go_enter Tryd.func65, Tryd.ntmps65
      go_wp2_with (first | (go_at_call 73; (with_reducible refine (stringslite_Index.calls a0 a1 t163 _ ?side1 A3.out).mono ?_); (case side1 => first | exact hG | exact GW_dr hG (by repeat (first | exact Drawn0.refl _ | apply Drawn0.step))); rintro e w' ⟨rfl, ⟨nd, rfl⟩⟩; (try first | exact ⟨rfl, _, World.drewN_drewN _ _ _⟩ | exact ⟨rfl, _, Eq.trans (World.drewN_drewN _ _ _) (congrArg (World.drewN _) (Nat.add_assoc _ _ _))⟩)))
      repeat (go_quiet (first | (go_at_call 73; (with_reducible refine (stringslite_Index.calls a0 a1 t163 _ ?side1 A3.out).mono ?_); (case side1 => first | exact hG | exact GW_dr hG (by repeat (first | exact Drawn0.refl _ | apply Drawn0.step))); rintro e w' ⟨rfl, ⟨nd, rfl⟩⟩; (try first | exact ⟨rfl, _, World.drewN_drewN _ _ _⟩ | exact ⟨rfl, _, Eq.trans (World.drewN_drewN _ _ _) (congrArg (World.drewN _) (Nat.add_assoc _ _ _))⟩))); try go_wp2_with (first | (go_at_call 73; (with_reducible refine (stringslite_Index.calls a0 a1 t163 _ ?side1 A3.out).mono ?_); (case side1 => first | exact hG | exact GW_dr hG (by repeat (first | exact Drawn0.refl _ | apply Drawn0.step))); rintro e w' ⟨rfl, ⟨nd, rfl⟩⟩; (try first | exact ⟨rfl, _, World.drewN_drewN _ _ _⟩ | exact ⟨rfl, _, Eq.trans (World.drewN_drewN _ _ _) (congrArg (World.drewN _) (Nat.add_assoc _ _ _))⟩))))
      go_ret3
      exact ⟨by first | rfl | (simp; done) | (simp only [← hji7, ← hji8, ← hji11] <;> (first | rfl | simp)) | (simp [*]; done) | (simp [wrap64]; done), xdr⟩
     ·
      rw [if_neg c10] at H
      exact absurd H (by simp)
    ·
     rw [if_neg c9] at H
     exact absurd H (by simp)
   ·
    rw [if_neg c6] at H
    exact absurd H (by simp)
  ·
   rw [if_neg c5] at H
   exact absurd H (by simp)
 ·
  rw [if_neg c4] at H
  have c4b0 := decide_eq_false c4
  clear c4
  simp only [Option.some.injEq, Prod.mk.injEq] at H
  obtain ⟨rfl, rfl, rfl⟩ := H
  go_enter Tryd.func65, Tryd.ntmps65
  go_wp2_with (first | (go_at_call 73; (with_reducible refine (stringslite_Index.calls a0 a1 t163 _ ?side1 A3.out).mono ?_); (case side1 => first | exact hG | exact GW_dr hG (by repeat (first | exact Drawn0.refl _ | apply Drawn0.step))); rintro e w' ⟨rfl, ⟨nd, rfl⟩⟩; (try first | exact ⟨rfl, _, World.drewN_drewN _ _ _⟩ | exact ⟨rfl, _, Eq.trans (World.drewN_drewN _ _ _) (congrArg (World.drewN _) (Nat.add_assoc _ _ _))⟩)))
  repeat (go_quiet (first | (go_at_call 73; (with_reducible refine (stringslite_Index.calls a0 a1 t163 _ ?side1 A3.out).mono ?_); (case side1 => first | exact hG | exact GW_dr hG (by repeat (first | exact Drawn0.refl _ | apply Drawn0.step))); rintro e w' ⟨rfl, ⟨nd, rfl⟩⟩; (try first | exact ⟨rfl, _, World.drewN_drewN _ _ _⟩ | exact ⟨rfl, _, Eq.trans (World.drewN_drewN _ _ _) (congrArg (World.drewN _) (Nat.add_assoc _ _ _))⟩))); try go_wp2_with (first | (go_at_call 73; (with_reducible refine (stringslite_Index.calls a0 a1 t163 _ ?side1 A3.out).mono ?_); (case side1 => first | exact hG | exact GW_dr hG (by repeat (first | exact Drawn0.refl _ | apply Drawn0.step))); rintro e w' ⟨rfl, ⟨nd, rfl⟩⟩; (try first | exact ⟨rfl, _, World.drewN_drewN _ _ _⟩ | exact ⟨rfl, _, Eq.trans (World.drewN_drewN _ _ _) (congrArg (World.drewN _) (Nat.add_assoc _ _ _))⟩))))
  go_ret3
  exact ⟨xrr, xdr⟩
def strings_Cut.f (a0 : ByteArray) (a1 : ByteArray) : Option (ByteArray × ByteArray × Bool) := (stringslite_Cut.f a0 a1).bind fun bt164 => (some (bt164.1, bt164.2.1, bt164.2.2))
set_option maxHeartbeats 8000000 in
set_option maxRecDepth 100000 in
theorem strings_Cut.calls (a0 : ByteArray) (a1 : ByteArray) (r1 : ByteArray) (r2 : ByteArray) (r3 : Bool) (w : World) (hG : GW w) (h : strings_Cut.f a0 a1 = some (r1, r2, r3)) :
    Calls Tryd.prog 46 #[.string a0, .string a1] w fun e w' => e = .returned (.tuple #[.string r1, .string r2, .bool r3]) ∧ Drawn0 w w' := by
 have H : ((stringslite_Cut.f a0 a1).bind fun bt164 => (some (bt164.1, bt164.2.1, bt164.2.2))) = some (r1, r2, r3) := h
 clear h
 replace H := Option.bind_eq_some_iff.mp H
 obtain ⟨⟨t164, t165, t166⟩, A30, H⟩ := H
 try dsimp only at H
 have A3 := Aside0.mk A30
 clear A30
 simp only [Option.some.injEq, Prod.mk.injEq] at H
 obtain ⟨rfl, rfl, rfl⟩ := H
 go_enter Tryd.func46, Tryd.ntmps46
 go_wp2_with (first | ((with_reducible refine gate_callee (f := 65) rfl ?_); refine xgl 9 Tryd.func65 #[.string a0, .string a1] ?_; (with_reducible refine (stringslite_Cut.calls a0 a1 t164 t165 t166 _ ?side1 A3.out).mono ?_); (case side1 => first | exact hG | exact GW_dr hG (by repeat (first | exact Drawn0.refl _ | apply Drawn0.step))); rintro e w' ⟨rfl, ⟨nd, rfl⟩⟩; refine ⟨_, rfl, ?_⟩))
 go_ret3
 exact ⟨xrr, xdr⟩
def strings_Split.f (a0 : ByteArray) (a1 : ByteArray) : Option (List ByteArray) := if a0.size < 4294967281 ∧ 1 ≤ a1.size then some (Go.Lib.splitB a1 0 (Go.Lib.countB a0 a1) a0) else none
theorem strings_Split.calls (a0 : ByteArray) (a1 : ByteArray) (r : List ByteArray) (w : World) (hG : GW w) (h : strings_Split.f a0 a1 = some r) :
    Calls Tryd.prog 49 #[.string a0, .string a1] w fun e w' => ∃ v0_ : Value, e = .returned (v0_) ∧ Kd.R Kd.string 9 w' w.heap.size (fun _ => True) v0_ r ∧ Below w.heap.size w w' := by
  unfold strings_Split.f at h
  by_cases hs : a0.size < 4294967281 ∧ 1 ≤ a1.size
  · rw [if_pos hs] at h
    obtain rfl := Option.some.inj h
    obtain ⟨m, hm⟩ := hG
    refine (Tryd.strings_Split a0 a1 m w hs.1 hm hs.2).mono ?_
    rintro e w' ⟨rfl, rfl⟩
    have hl := Go.Lib.splitB_all a1 hs.2 0 _ a0 rfl
    have hc := Go.Lib.countB_le a1 hs.2 a0.size a0 (Nat.le_refl _)
    refine ⟨_, rfl, ?_, (Below.refl _ _).alloc (Nat.le_refl _) _⟩
    refine Kd.R_of_own ⟨by simp [encs], .inr ⟨w.heap.size, _, _, by rw [hl], Nat.le_refl _, heap_alloc_new _ _, by rw [hl]; exact Nat.le_refl _, ?_, ?_, ?_⟩⟩ (fun _ _ => trivial)
    · have : maxLen = 9223372036854775807 := rfl
      omega
    · simp [hl]
    · simp only [encs, Nat.mul_one, List.toList_toArray]
      exact List.take_of_length_le (by simp)
  · rw [if_neg hs] at h; cases h
end Go.Proofs.YtdmigmccfdhdiaaDoor.X
namespace Go.Proofs.YtdmigmccfdhdiaaDoor.X
open Go.RowKit Go.Proofs.YtdmigmccfdhdiaaDoorW.PrintWords Go.Proofs.YtdmigmccfdhdiaaDoorW.PrintLast Go.Proofs.YtdmigmccfdhdiaaDoorW.PrintMore
attribute [local go_sem] max2_int min2_int max_two min_two max_three min_three max_four min_four
set_option linter.unusedVariables false
set_option linter.unusedSimpArgs false
mutual
def ip_decimal.j0 : Nat → ByteArray → Bool → Option (Int × Bool)
  | 0, _, _ => none
  | k + 1, x0, x23 => if x23 = true then (some (0, false)) else (ip_decimal.l0 k x0 0 (x0.size : Int) 0)
def ip_decimal.l0 : Nat → ByteArray → Int → Int → Int → Option (Int × Bool)
  | 0, _, _, _, _ => none
  | k + 1, x0, x4, x25, x26 => if x26 < x25 then (if 0 ≤ x26 then (if x26 < (x0.size : Int) then ((octet_Is.f k (bt x0 x26) 2).bind fun t167 => (if t167 = true then (ip_decimal.l0 k x0 (wrap64 ((wrap64 (10 * x4)) + (((bt x0 x26) - 48) % 256))) x25 (wrap64 (x26 + 1))) else (some (0, false)))) else (none)) else (none)) else (some ((x4) % 256, decide (x4 ≤ 255)))
end
def ip_decimal.f (k : Nat) (a0 : ByteArray) : Option (Int × Bool) := if (a0.size : Int) = 0 then (ip_decimal.j0 k a0 true) else (if (a0.size : Int) > 3 then (ip_decimal.j0 k a0 true) else (if (a0.size : Int) > 1 then (if 0 < (a0.size : Int) then (ip_decimal.j0 k a0 ((bt a0 0) == 48)) else (none)) else (ip_decimal.j0 k a0 false)))
theorem ip_decimal.mono_l : ∀ k, (∀ y0 y1, LeO (ip_decimal.j0 k y0 y1) (ip_decimal.j0 (k + 1) y0 y1)) ∧ (∀ y0 y1 y2 y3, LeO (ip_decimal.l0 k y0 y1 y2 y3) (ip_decimal.l0 (k + 1) y0 y1 y2 y3))
  | 0 => ⟨fun _ _ r h => by simp [ip_decimal.j0] at h, fun _ _ _ _ r h => by simp [ip_decimal.l0] at h⟩
  | k + 1 => by
    obtain ⟨ih0, ih1⟩ := ip_decimal.mono_l k
    have m0 := @octet_Is.mono
    refine ⟨?_, ?_⟩
    · intro y0 y1
      unfold ip_decimal.j0
      exact xmo
    · intro y0 y1 y2 y3
      unfold ip_decimal.l0
      exact xmo
theorem ip_decimal.mono : ∀ a0 k, LeO (ip_decimal.f k a0) (ip_decimal.f (k + 1) a0) := by
  intro a0 k
  obtain ⟨ih0, ih1⟩ := ip_decimal.mono_l k
  have m0 := @octet_Is.mono
  unfold ip_decimal.f
  exact xmo
set_option maxHeartbeats 8000000 in
set_option maxRecDepth 100000 in
theorem ip_decimal.calls (k : Nat) (a0 : ByteArray) (r1 : Int) (r2 : Bool) (w : World) (h : ip_decimal.f k a0 = some (r1, r2)) :
    Calls Tryd.prog 50 #[.string a0] w fun e w' => e = .returned (.tuple #[.int .u8 r1, .bool r2]) ∧ Drawn0 w w' := by
 have H : (if (a0.size : Int) = 0 then (ip_decimal.j0 k a0 true) else (if (a0.size : Int) > 3 then (ip_decimal.j0 k a0 true) else (if (a0.size : Int) > 1 then (if 0 < (a0.size : Int) then (ip_decimal.j0 k a0 ((bt a0 0) == 48)) else (none)) else (ip_decimal.j0 k a0 false)))) = some (r1, r2) := h
 clear h
 have HC2 := Aside0.mk H
 clear H
 go_enter Tryd.func50, Tryd.ntmps50
 go_upto_region 1 with (fail)
 go_cut [23] (fun v23 wc => ∃ (kq : Nat) (x23_1 : Bool), v23 = .bool x23_1 ∧ Aside0 (ip_decimal.j0 kq a0 x23_1 = some (r1, r2)) ∧ Aside0 (kq ≤ k) ∧ Drawn0 w wc)
 case first =>
  have H := HC2.out
  clear HC2
  by_cases c3 : (a0.size : Int) = 0
  ·
   rw [if_pos c3] at H
   have c3b0 : ((a0.size : Int) == 0) = true := beq_iff_eq.mpr c3
   have c3b1 : ((a0.size : Int) != 0) = false := bne_eq_false_iff_eq.mpr c3
   clear c3
   (first | rw [c3b0] | (simp only [i64_w, i32_w]; rw [c3b0]) | skip)
   have H' := Aside0.mk H
   clear H
   go_wp2
   go_meet
   case rel => exact ⟨_, (true), xrr, H', ⟨xom⟩, xdr⟩
  ·
   rw [if_neg c3] at H
   have c3b0 : ((a0.size : Int) == 0) = false := beq_eq_false_iff_ne.mpr c3
   have c3b1 : ((a0.size : Int) != 0) = true := bne_iff_ne.mpr c3
   (first | rw [c3b0] | (simp only [i64_w, i32_w]; rw [c3b0]) | skip)
   by_cases c4 : (a0.size : Int) > 3
   ·
    rw [if_pos c4] at H
    have c4b0 := decide_eq_true c4
    have c4b1 : decide (3 < a0.size) = true := decide_eq_true (by omega)
    clear c4
    have H' := Aside0.mk H
    clear H
    go_wp2
    go_meet
    case rel => exact ⟨_, (true), xrr, H', ⟨xom⟩, xdr⟩
   ·
    rw [if_neg c4] at H
    have c4b0 := decide_eq_false c4
    have c4b1 : decide (3 < a0.size) = false := decide_eq_false (by omega)
    clear c4
    by_cases c5 : (a0.size : Int) > 1
    ·
     rw [if_pos c5] at H
     have c5b0 := decide_eq_true c5
     have c5b1 : decide (1 < a0.size) = true := decide_eq_true (by omega)
     clear c5
     by_cases c6 : 0 < (a0.size : Int)
     ·
      rw [if_pos c6] at H
      have c6b0 := decide_eq_true c6
      have c6b1 : decide (0 < a0.size) = true := decide_eq_true (by omega)
      clear c6
      have H' := Aside0.mk H
      clear H
      have p7 : 0 ≤ (0 : Int) := (by omega)
      have q7 : 0 < a0.size := (by have : (0 : Int) < (a0.size : Int) := xod; omega)
      have hx7 : ∀ h : 0 < a0.size, ((a0[0]'h).toNat : Int) = bt a0 0 := bt_at a0 0
      clear p7
      have qi7 : (0 < (a0.size : Int)) = True := eq_true (xod)
      replace q7 := eq_true q7
      try (have q7x := q7; simp only [ByteArray.size_extract, Nat.min_self] at q7x)
      go_wp2
      go_meet
      case rel => exact ⟨_, (((bt a0 0) == 48)), xrr, H', ⟨xom⟩, xdr⟩
     ·
      rw [if_neg c6] at H
      exact absurd H (by simp)
    ·
     rw [if_neg c5] at H
     have c5b0 := decide_eq_false c5
     have c5b1 : decide (1 < a0.size) = false := decide_eq_false (by omega)
     clear c5
     have H' := Aside0.mk H
     clear H
     go_wp2
     go_meet
     case rel => exact ⟨_, (false), xrr, H', ⟨xom⟩, xdr⟩
 case rest =>
  clear HC2
  obtain ⟨kq, x23_1, rfl, HA, HJ1, ⟨mc1, rfl⟩⟩ := hcut
  cases kq with
  | zero => exact absurd HA.out (by simp [ip_decimal.j0])
  | succ kj1 =>
   have H := HA.out
   clear HA
   simp only [ip_decimal.j0] at H
   by_cases c8 : x23_1 = true
   ·
    subst c8
    rw [if_pos rfl] at H
    simp only [Option.some.injEq, Prod.mk.injEq] at H
    obtain ⟨rfl, rfl⟩ := H
    go_wp2
    go_ret2
    exact ⟨xrr, xdr⟩
   ·
    replace c8 := Bool.eq_false_iff.mpr c8
    subst c8
    rw [if_neg (show ¬ (false = true) by decide)] at H
    have H' := Aside0.mk H
    clear H
    go_wp2
    go_loopg [4, 26] kj1 (fun kq v4 v26 w' => ∃ (x4_2 : Int) (x26_2 : Int), v4 = .int .i64 x4_2 ∧ v26 = .int .i64 x26_2 ∧ Aside0 (ip_decimal.l0 kq a0 x4_2 (a0.size : Int) x26_2 = some (r1, r2)) ∧ Aside0 (kq ≤ kj1) ∧ Drawn0 w w')
    case atStart => exact ⟨(0), (0), xrr, xrr, H', ⟨Nat.le_refl _⟩, xdr⟩
    case round =>
     clear H'
     obtain ⟨x4_2, x26_2, rfl, rfl, HA, HK2, ⟨m2, rfl⟩⟩ := hrel
     cases gk with
     | zero => exact absurd HA.out (by simp [ip_decimal.l0])
     | succ k2 =>
      have H := HA.out
      clear HA
      simp only [ip_decimal.l0] at H
      by_cases c9 : x26_2 < (a0.size : Int)
      ·
       rw [if_pos c9] at H
       have c9b0 := decide_eq_true c9
       clear c9
       by_cases c10 : 0 ≤ x26_2
       ·
        rw [if_pos c10] at H
        have c10b0 := decide_eq_true c10
        clear c10
        by_cases c11 : x26_2 < (a0.size : Int)
        ·
         rw [if_pos c11] at H
         have c11b0 := decide_eq_true c11
         clear c11
         replace H := Option.bind_eq_some_iff.mp H
         obtain ⟨t167, A130, H⟩ := H
         try dsimp only at H
         have A13 := Aside0.mk A130
         clear A130
         by_cases c14 : t167 = true
         ·
          subst c14
          rw [if_pos rfl] at H
          have H' := Aside0.mk H
          clear H
          have p12 : 0 ≤ (x26_2 : Int) := xod
          have q12 : x26_2 < (a0.size : Int) := xod
          have hx12 := bt_at a0 x26_2
          replace p12 := eq_true p12
          replace q12 := eq_true q12
          try (have q12x := q12; simp only [ByteArray.size_extract, Nat.min_self] at q12x)
          go_wp2_with (first | ((with_reducible refine gate_callee (f := 30) rfl ?_); refine xgl 32 Tryd.func30 #[.int .u8 (bt a0 x26_2), .int .i64 2] ?_; (with_reducible refine (octet_Is.calls k2 (bt a0 x26_2) 2 true _ A13.out).mono ?_); rintro e w' ⟨rfl, ⟨nd, rfl⟩⟩; refine ⟨_, rfl, ?_⟩; have p15 : 0 ≤ (x26_2 : Int) := xod; have q15 : x26_2 < (a0.size : Int) := xod; have hx15 := bt_at a0 x26_2; replace p15 := eq_true p15; replace q15 := eq_true q15))
          go_roundg k2
          case measure => have := HJ1.out; have := HK2.out; omega
          case rel => exact ⟨(wrap64 ((wrap64 (10 * x4_2)) + (((bt a0 x26_2) - 48) % 256))), (wrap64 (x26_2 + 1)), xrr, xrr, H', ⟨by have := HJ1.out; have := HK2.out; omega⟩, xdr⟩
         ·
          replace c14 := Bool.eq_false_iff.mpr c14
          subst c14
          rw [if_neg (show ¬ (false = true) by decide)] at H
          simp only [Option.some.injEq, Prod.mk.injEq] at H
          obtain ⟨rfl, rfl⟩ := H
          have p12 : 0 ≤ (x26_2 : Int) := xod
          have q12 : x26_2 < (a0.size : Int) := xod
          have hx12 := bt_at a0 x26_2
          replace p12 := eq_true p12
          replace q12 := eq_true q12
          try (have q12x := q12; simp only [ByteArray.size_extract, Nat.min_self] at q12x)
          go_wp2_with (first | ((with_reducible refine gate_callee (f := 30) rfl ?_); refine xgl 32 Tryd.func30 #[.int .u8 (bt a0 x26_2), .int .i64 2] ?_; (with_reducible refine (octet_Is.calls k2 (bt a0 x26_2) 2 false _ A13.out).mono ?_); rintro e w' ⟨rfl, ⟨nd, rfl⟩⟩; refine ⟨_, rfl, ?_⟩))
          go_ret2
          exact ⟨xrr, xdr⟩
        ·
         rw [if_neg c11] at H
         exact absurd H (by simp)
       ·
        rw [if_neg c10] at H
        exact absurd H (by simp)
      ·
       rw [if_neg c9] at H
       have c9b0 := decide_eq_false c9
       clear c9
       simp only [Option.some.injEq, Prod.mk.injEq] at H
       obtain ⟨rfl, rfl⟩ := H
       go_wp2
       go_ret2
       exact ⟨xrr, xdr⟩
def ip_V4.l0 : Nat → List ByteArray → Int → Int → Int → Int → Int → Int → Option (Int × Int × Int × Int × Bool)
  | 0, _, _, _, _, _, _, _ => none
  | k + 1, x16, x17, x18, x170000, x170001, x170002, x170003 => if x18 < x17 then (if 0 ≤ x18 then (if x18 < (x16.length : Int) then ((ip_decimal.f k (rdOf ByteArray.empty x16 x18)).bind fun bt174 => (if bt174.2 = true then (if x18 = 0 then (ip_V4.l0 k x16 x17 (wrap64 (x18 + 1)) bt174.1 x170001 x170002 x170003) else (if x18 = 1 then (ip_V4.l0 k x16 x17 (wrap64 (x18 + 1)) x170000 bt174.1 x170002 x170003) else (if x18 = 2 then (ip_V4.l0 k x16 x17 (wrap64 (x18 + 1)) x170000 x170001 bt174.1 x170003) else (if x18 = 3 then (ip_V4.l0 k x16 x17 (wrap64 (x18 + 1)) x170000 x170001 x170002 bt174.1) else (none))))) else (some (0, 0, 0, 0, false)))) else (none)) else (none)) else (some (x170000, x170001, x170002, x170003, true))
def ip_V4.f (k : Nat) (a0 : ByteArray) : Option (Int × Int × Int × Int × Bool) := (strings_Split.f a0 (⟨#[46]⟩ : ByteArray)).bind fun t170 => (if (t170.length : Int) = 4 then (ip_V4.l0 k t170 (t170.length : Int) 0 0 0 0 0) else (some (0, 0, 0, 0, false)))
theorem ip_V4.mono_l : ∀ k, (∀ y0 y1 y2 y3 y4 y5 y6, LeO (ip_V4.l0 k y0 y1 y2 y3 y4 y5 y6) (ip_V4.l0 (k + 1) y0 y1 y2 y3 y4 y5 y6))
  | 0 => fun _ _ _ _ _ _ _ r h => by simp [ip_V4.l0] at h
  | k + 1 => by
    have ih0 := ip_V4.mono_l k
    have m0 := @ip_decimal.mono
    · intro y0 y1 y2 y3 y4 y5 y6
      unfold ip_V4.l0
      exact xmo
theorem ip_V4.mono : ∀ a0 k, LeO (ip_V4.f k a0) (ip_V4.f (k + 1) a0) := by
  intro a0 k
  have ih0 := ip_V4.mono_l k
  have m0 := @ip_decimal.mono
  unfold ip_V4.f
  exact xmo
set_option maxHeartbeats 8000000 in
set_option maxRecDepth 100000 in
theorem ip_V4.calls (k : Nat) (a0 : ByteArray) (r1 : Int) (r2 : Int) (r3 : Int) (r4 : Int) (r5 : Bool) (w : World) (hG : GW w) (h : ip_V4.f k a0 = some (r1, r2, r3, r4, r5)) :
    Calls Tryd.prog 29 #[.string a0] w fun e w' => e = .returned (.tuple #[.agg #[.int .u8 r1, .int .u8 r2, .int .u8 r3, .int .u8 r4], .bool r5]) ∧ Below w.heap.size w w' := by
 have hu53 := Tryd.underlying53
 have HB := Aside0.mk (Below.refl w.heap.size w)
 have H : ((strings_Split.f a0 (⟨#[46]⟩ : ByteArray)).bind fun t170 => (if (t170.length : Int) = 4 then (ip_V4.l0 k t170 (t170.length : Int) 0 0 0 0 0) else (some (0, 0, 0, 0, false)))) = some (r1, r2, r3, r4, r5) := h
 clear h
 replace H := Option.bind_eq_some_iff.mp H
 obtain ⟨t170, A20, H⟩ := H
 try dsimp only at H
 have A2 := Aside0.mk A20
 clear A20
 by_cases c3 : (t170.length : Int) = 4
 ·
  rw [if_pos c3] at H
  have c3b0 : ((t170.length : Int) == 4) = true := beq_iff_eq.mpr c3
  have c3b1 : ((t170.length : Int) != 4) = false := bne_eq_false_iff_eq.mpr c3
  clear c3
  have H' := Aside0.mk H
  clear H
  go_enter Tryd.func29, Tryd.ntmps29
  go_wp2_with (first | ((with_reducible refine gate_dst (N := 2) rfl ?_); refine xev 2 #[.int .u8 0, .int .u8 0, .int .u8 0, .int .u8 0] 53 ?_; intro gb168 hg w4 hbox hb; have BK168 := Aside0.mk (hbox); have GW168 := xsz hg; have GE168 := GW168; replace HB := xst hb; clear hb hbox hg) | ((with_reducible refine gate_dst (N := 4) rfl ?_); refine xev 4 #[.int .u8 0, .int .u8 0, .int .u8 0, .int .u8 0] 53 ?_; intro gb169 hg w5 hbox hb; have BK169 := Aside0.mk (hbox); have GW169 := xsz hg; have GE169 := GW169; have NB168_169 := xlt (g := gb168) hg; have NB169_168 := xgt (g := gb168) hg; replace BK168 := xbb (g := gb168) (o := .cells #[.int .u8 0, .int .u8 0, .int .u8 0, .int .u8 0] 53 (0, 0)) hb; replace HB := xst hb; clear hb hbox hg) | ((with_reducible refine gate_callee (f := 49) rfl ?_); refine xgl 11 Tryd.func49 #[.string a0, .string (⟨#[46]⟩ : ByteArray)] ?_; (with_reducible refine (strings_Split.calls a0 (⟨#[46]⟩ : ByteArray) t170 _ ?side1 A2.out).mono ?_); (case side1 => first | exact hG | exact GW_to hG xbl); rintro e w6 ⟨v171, rfl, ho0, hb⟩; refine ⟨_, rfl, ?_⟩; have HO172 := Aside0.mk (Kd.R_lower ho0 (below_size xbl)); replace BK168 := xbb (g := gb168) (o := .cells #[.int .u8 0, .int .u8 0, .int .u8 0, .int .u8 0] 53 (0, 0)) hb; replace BK169 := xbb (g := gb169) (o := .cells #[.int .u8 0, .int .u8 0, .int .u8 0, .int .u8 0] 53 (0, 0)) hb; replace HB := xst hb; (try clear hb); (try clear ho0); obtain ⟨Ao7, co7, eo7⟩ := Kd.R_slice HO172.out; subst eo7))
  go_loopg [18] k (fun kq v18 w' => ∃ (x18_1 : Int) (x169000_1 : Int) (x169001_1 : Int) (x169002_1 : Int) (x169003_1 : Int) (x170000_1 : Int) (x170001_1 : Int) (x170002_1 : Int) (x170003_1 : Int), v18 = .int .i64 x18_1 ∧ Aside0 (ip_V4.l0 kq t170 (t170.length : Int) x18_1 x170000_1 x170001_1 x170002_1 x170003_1 = some (r1, r2, r3, r4, r5)) ∧ Aside0 (kq ≤ k) ∧ Aside0 (Kd.R Kd.string 9 w' w.heap.size (fun _ => True) (.slice Ao7 t170.length co7) t170) ∧ Aside0 (w'.heap[gb168]? = some (.cells #[.int .u8 x169000_1, .int .u8 x169001_1, .int .u8 x169002_1, .int .u8 x169003_1] 53 (0, 0))) ∧ Aside0 (w'.heap[gb169]? = some (.cells #[.int .u8 x170000_1, .int .u8 x170001_1, .int .u8 x170002_1, .int .u8 x170003_1] 53 (0, 0))) ∧ Aside0 (Below w.heap.size w w'))
  case atStart => exact ⟨(0), (0), (0), (0), (0), (0), (0), (0), (0), xrr, H', ⟨Nat.le_refl _⟩, ⟨xkd HO172⟩, ⟨xbk⟩, ⟨xbk⟩, ⟨xbl⟩⟩
  case round =>
   clear H'
   clear c3b0 c3b1
   obtain ⟨x18_1, x169000_1, x169001_1, x169002_1, x169003_1, x170000_1, x170001_1, x170002_1, x170003_1, rfl, HA, HK1, HO_16, BK168, BK169, HB⟩ := hrel
   cases gk with
   | zero => exact absurd HA.out (by simp [ip_V4.l0])
   | succ k1 =>
    have H := HA.out
    clear HA
    simp only [ip_V4.l0] at H
    by_cases c8 : x18_1 < (t170.length : Int)
    ·
     rw [if_pos c8] at H
     have c8b0 := decide_eq_true c8
     clear c8
     by_cases c9 : 0 ≤ x18_1
     ·
      rw [if_pos c9] at H
      have c9b0 := decide_eq_true c9
      clear c9
      by_cases c10 : x18_1 < (t170.length : Int)
      ·
       rw [if_pos c10] at H
       have c10b0 := decide_eq_true c10
       clear c10
       replace H := Option.bind_eq_some_iff.mp H
       obtain ⟨⟨t174, t175⟩, A110, H⟩ := H
       try dsimp only at H
       have A11 := Aside0.mk A110
       clear A110
       by_cases c12 : t175 = true
       ·
        subst c12
        rw [if_pos rfl] at H
        by_cases c13 : x18_1 = 0
        ·
         subst c13
         rw [if_pos rfl] at H
         have H' := Aside0.mk H
         clear H
         have p173 : 0 ≤ (0 : Int) := (by omega)
         have q173 : 0 < (t170.length : Int) := xod
         obtain ⟨ad173, e173, hx173_0⟩ := Kd.at_string (Kd.R_reads' HO_16.out).2.2 0 p173 q173
         cases e173
         have qi173 : (0 < t170.length) = True := eq_true (by omega)
         (try rw [show ((0 : Int)).toNat = 0 from rfl] at hx173_0)
         (try rw [Addr.add_zero'] at hx173_0)
         replace p173 := eq_true p173
         replace q173 := eq_true q173
         try (have q173x := q173; simp only [ByteArray.size_extract, Nat.min_self] at q173x)
         go_wp2_with (first | ((with_reducible refine gate_callee (f := 50) rfl ?_); refine xgl 25 Tryd.func50 #[.string (rdOf ByteArray.empty t170 0)] ?_; (with_reducible refine (ip_decimal.calls k1 (rdOf ByteArray.empty t170 0) t174 true _ A11.out).mono ?_); rintro e w' ⟨rfl, ⟨nd, rfl⟩⟩; refine ⟨_, rfl, ?_⟩; (try (rw [drewN_self wr]; generalize hq_ : World.drewN wr _ = wr; have n0_ : Aside0 (Kd.R Kd.string 9 wr w.heap.size (fun _ => True) (.slice (some ad173) t170.length co7) t170) := ⟨by rw [← hq_]; exact (xkd HO_16)⟩; have n1_ : Aside0 (wr.heap[gb168]? = some (.cells #[.int .u8 x169000_1, .int .u8 x169001_1, .int .u8 x169002_1, .int .u8 x169003_1] 53 (0, 0))) := ⟨by rw [← hq_]; exact xbk⟩; have n2_ : Aside0 (wr.heap[gb169]? = some (.cells #[.int .u8 x170000_1, .int .u8 x170001_1, .int .u8 x170002_1, .int .u8 x170003_1] 53 (0, 0))) := ⟨by rw [← hq_]; exact xbk⟩; have n3_ : Aside0 (Below w.heap.size w wr) := ⟨by rw [← hq_]; exact xbl⟩; clear HO_16 BK168 BK169 HB hq_; have HO_16 := n0_; have BK168 := n1_; have BK169 := n2_; have HB := n3_; clear n0_ n1_ n2_ n3_)); have hnb14 := NB169_168.out; have hnc14 := NB168_169.out; obtain ⟨hcz15_0, hcz15_1, hcz15_2, hcz15_3⟩ := xc4 BK169; have hfz15_0 := xf BK169 0; have hfz15_1 := xf BK169 1; have hfz15_2 := xf BK169 2; have hfz15_3 := xf BK169 3))
         go_roundg k1
         case measure => have := HK1.out; omega
         case rel => exact ⟨(wrap64 (0 + 1)), (x169000_1), (x169001_1), (x169002_1), (x169003_1), (t174), (x170001_1), (x170002_1), (x170003_1), xrr, H', ⟨by have := HK1.out; omega⟩, ⟨by (with_reducible repeat (first | apply Kd.R_alloc | apply Kd.R_drewN | apply Kd.R_drew)); exact Kd.R_mono (Kd.R_far (p := ⟨gb169, 0, none⟩) (Kd.R_types HO_16.out BK169.out (by decide)) (fun _ hk => hk.2) (.int .u8 t174)) (fun _ hk => trivial)⟩, ⟨by (with_reducible repeat (first | refine blk_drewN ?_ _ | refine blk_drew ?_ | refine blk_alloc ?_ _)); refine blk_far ?_ NB168_169.out _; (with_reducible repeat (first | refine blk_drewN ?_ _ | refine blk_drew ?_ | refine blk_alloc ?_ _)); exact BK168.out⟩, ⟨by (with_reducible repeat (first | refine blk_drewN ?_ _ | refine blk_drew ?_ | refine blk_alloc ?_ _)); refine blk_put (cs := #[.int .u8 x170000_1, .int .u8 x170001_1, .int .u8 x170002_1, .int .u8 x170003_1]) ?_ 0 _ rfl; (with_reducible repeat (first | refine blk_drewN ?_ _ | refine blk_drew ?_ | refine blk_alloc ?_ _)); exact BK169.out⟩, ⟨xbl⟩⟩
        ·
         rw [if_neg c13] at H
         clear c13
         by_cases c16 : x18_1 = 1
         ·
          subst c16
          rw [if_pos rfl] at H
          have H' := Aside0.mk H
          clear H
          have p173 : 0 ≤ (1 : Int) := (by omega)
          have q173 : 1 < (t170.length : Int) := xod
          obtain ⟨ad173, e173, hx173_0⟩ := Kd.at_string (Kd.R_reads' HO_16.out).2.2 1 p173 q173
          cases e173
          (try simp only [show (1 : Int).toNat = 1 from rfl, Nat.reduceMul, Nat.reduceEqDiff, Go.Addr.add, ↓reduceIte] at hx173_0)
          have qi173 : (1 < t170.length) = True := eq_true (by omega)
          (try rw [show ((1 : Int)).toNat = 1 from rfl] at hx173_0)
          replace p173 := eq_true p173
          replace q173 := eq_true q173
          try (have q173x := q173; simp only [ByteArray.size_extract, Nat.min_self] at q173x)
          go_wp2_with (first | ((with_reducible refine gate_callee (f := 50) rfl ?_); refine xgl 25 Tryd.func50 #[.string (rdOf ByteArray.empty t170 1)] ?_; (with_reducible refine (ip_decimal.calls k1 (rdOf ByteArray.empty t170 1) t174 true _ A11.out).mono ?_); rintro e w' ⟨rfl, ⟨nd, rfl⟩⟩; refine ⟨_, rfl, ?_⟩; (try (rw [drewN_self wr]; generalize hq_ : World.drewN wr _ = wr; have n0_ : Aside0 (Kd.R Kd.string 9 wr w.heap.size (fun _ => True) (.slice (some ad173) t170.length co7) t170) := ⟨by rw [← hq_]; exact (xkd HO_16)⟩; have n1_ : Aside0 (wr.heap[gb168]? = some (.cells #[.int .u8 x169000_1, .int .u8 x169001_1, .int .u8 x169002_1, .int .u8 x169003_1] 53 (0, 0))) := ⟨by rw [← hq_]; exact xbk⟩; have n2_ : Aside0 (wr.heap[gb169]? = some (.cells #[.int .u8 x170000_1, .int .u8 x170001_1, .int .u8 x170002_1, .int .u8 x170003_1] 53 (0, 0))) := ⟨by rw [← hq_]; exact xbk⟩; have n3_ : Aside0 (Below w.heap.size w wr) := ⟨by rw [← hq_]; exact xbl⟩; clear HO_16 BK168 BK169 HB hq_; have HO_16 := n0_; have BK168 := n1_; have BK169 := n2_; have HB := n3_; clear n0_ n1_ n2_ n3_)); have hnb17 := NB169_168.out; have hnc17 := NB168_169.out; obtain ⟨hcz18_0, hcz18_1, hcz18_2, hcz18_3⟩ := xc4 BK169; have hfz18_0 := xf BK169 0; have hfz18_1 := xf BK169 1; have hfz18_2 := xf BK169 2; have hfz18_3 := xf BK169 3))
          go_roundg k1
          case measure => have := HK1.out; omega
          case rel => exact ⟨(wrap64 (1 + 1)), (x169000_1), (x169001_1), (x169002_1), (x169003_1), (x170000_1), (t174), (x170002_1), (x170003_1), xrr, H', ⟨by have := HK1.out; omega⟩, ⟨by (with_reducible repeat (first | apply Kd.R_alloc | apply Kd.R_drewN | apply Kd.R_drew)); exact Kd.R_mono (Kd.R_far (p := ⟨gb169, 1, none⟩) (Kd.R_types HO_16.out BK169.out (by decide)) (fun _ hk => hk.2) (.int .u8 t174)) (fun _ hk => trivial)⟩, ⟨by (with_reducible repeat (first | refine blk_drewN ?_ _ | refine blk_drew ?_ | refine blk_alloc ?_ _)); refine blk_far ?_ NB168_169.out _; (with_reducible repeat (first | refine blk_drewN ?_ _ | refine blk_drew ?_ | refine blk_alloc ?_ _)); exact BK168.out⟩, ⟨by (with_reducible repeat (first | refine blk_drewN ?_ _ | refine blk_drew ?_ | refine blk_alloc ?_ _)); refine blk_put (cs := #[.int .u8 x170000_1, .int .u8 x170001_1, .int .u8 x170002_1, .int .u8 x170003_1]) ?_ 1 _ rfl; (with_reducible repeat (first | refine blk_drewN ?_ _ | refine blk_drew ?_ | refine blk_alloc ?_ _)); exact BK169.out⟩, ⟨xbl⟩⟩
         ·
          rw [if_neg c16] at H
          clear c16
          by_cases c19 : x18_1 = 2
          ·
           subst c19
           rw [if_pos rfl] at H
           have H' := Aside0.mk H
           clear H
           have p173 : 0 ≤ (2 : Int) := (by omega)
           have q173 : 2 < (t170.length : Int) := xod
           obtain ⟨ad173, e173, hx173_0⟩ := Kd.at_string (Kd.R_reads' HO_16.out).2.2 2 p173 q173
           cases e173
           (try simp only [show (2 : Int).toNat = 2 from rfl, Nat.reduceMul, Nat.reduceEqDiff, Go.Addr.add, ↓reduceIte] at hx173_0)
           have qi173 : (2 < t170.length) = True := eq_true (by omega)
           (try rw [show ((2 : Int)).toNat = 2 from rfl] at hx173_0)
           replace p173 := eq_true p173
           replace q173 := eq_true q173
           try (have q173x := q173; simp only [ByteArray.size_extract, Nat.min_self] at q173x)
           go_wp2_with (first | ((with_reducible refine gate_callee (f := 50) rfl ?_); refine xgl 25 Tryd.func50 #[.string (rdOf ByteArray.empty t170 2)] ?_; (with_reducible refine (ip_decimal.calls k1 (rdOf ByteArray.empty t170 2) t174 true _ A11.out).mono ?_); rintro e w' ⟨rfl, ⟨nd, rfl⟩⟩; refine ⟨_, rfl, ?_⟩; (try (rw [drewN_self wr]; generalize hq_ : World.drewN wr _ = wr; have n0_ : Aside0 (Kd.R Kd.string 9 wr w.heap.size (fun _ => True) (.slice (some ad173) t170.length co7) t170) := ⟨by rw [← hq_]; exact (xkd HO_16)⟩; have n1_ : Aside0 (wr.heap[gb168]? = some (.cells #[.int .u8 x169000_1, .int .u8 x169001_1, .int .u8 x169002_1, .int .u8 x169003_1] 53 (0, 0))) := ⟨by rw [← hq_]; exact xbk⟩; have n2_ : Aside0 (wr.heap[gb169]? = some (.cells #[.int .u8 x170000_1, .int .u8 x170001_1, .int .u8 x170002_1, .int .u8 x170003_1] 53 (0, 0))) := ⟨by rw [← hq_]; exact xbk⟩; have n3_ : Aside0 (Below w.heap.size w wr) := ⟨by rw [← hq_]; exact xbl⟩; clear HO_16 BK168 BK169 HB hq_; have HO_16 := n0_; have BK168 := n1_; have BK169 := n2_; have HB := n3_; clear n0_ n1_ n2_ n3_)); have hnb20 := NB169_168.out; have hnc20 := NB168_169.out; obtain ⟨hcz21_0, hcz21_1, hcz21_2, hcz21_3⟩ := xc4 BK169; have hfz21_0 := xf BK169 0; have hfz21_1 := xf BK169 1; have hfz21_2 := xf BK169 2; have hfz21_3 := xf BK169 3))
           go_roundg k1
           case measure => have := HK1.out; omega
           case rel => exact ⟨(wrap64 (2 + 1)), (x169000_1), (x169001_1), (x169002_1), (x169003_1), (x170000_1), (x170001_1), (t174), (x170003_1), xrr, H', ⟨by have := HK1.out; omega⟩, ⟨by (with_reducible repeat (first | apply Kd.R_alloc | apply Kd.R_drewN | apply Kd.R_drew)); exact Kd.R_mono (Kd.R_far (p := ⟨gb169, 2, none⟩) (Kd.R_types HO_16.out BK169.out (by decide)) (fun _ hk => hk.2) (.int .u8 t174)) (fun _ hk => trivial)⟩, ⟨by (with_reducible repeat (first | refine blk_drewN ?_ _ | refine blk_drew ?_ | refine blk_alloc ?_ _)); refine blk_far ?_ NB168_169.out _; (with_reducible repeat (first | refine blk_drewN ?_ _ | refine blk_drew ?_ | refine blk_alloc ?_ _)); exact BK168.out⟩, ⟨by (with_reducible repeat (first | refine blk_drewN ?_ _ | refine blk_drew ?_ | refine blk_alloc ?_ _)); refine blk_put (cs := #[.int .u8 x170000_1, .int .u8 x170001_1, .int .u8 x170002_1, .int .u8 x170003_1]) ?_ 2 _ rfl; (with_reducible repeat (first | refine blk_drewN ?_ _ | refine blk_drew ?_ | refine blk_alloc ?_ _)); exact BK169.out⟩, ⟨xbl⟩⟩
          ·
           rw [if_neg c19] at H
           clear c19
           by_cases c22 : x18_1 = 3
           ·
            subst c22
            rw [if_pos rfl] at H
            have H' := Aside0.mk H
            clear H
            have p173 : 0 ≤ (3 : Int) := (by omega)
            have q173 : 3 < (t170.length : Int) := xod
            obtain ⟨ad173, e173, hx173_0⟩ := Kd.at_string (Kd.R_reads' HO_16.out).2.2 3 p173 q173
            cases e173
            (try simp only [show (3 : Int).toNat = 3 from rfl, Nat.reduceMul, Nat.reduceEqDiff, Go.Addr.add, ↓reduceIte] at hx173_0)
            have qi173 : (3 < t170.length) = True := eq_true (by omega)
            (try rw [show ((3 : Int)).toNat = 3 from rfl] at hx173_0)
            replace p173 := eq_true p173
            replace q173 := eq_true q173
            try (have q173x := q173; simp only [ByteArray.size_extract, Nat.min_self] at q173x)
            go_wp2_with (first | ((with_reducible refine gate_callee (f := 50) rfl ?_); refine xgl 25 Tryd.func50 #[.string (rdOf ByteArray.empty t170 3)] ?_; (with_reducible refine (ip_decimal.calls k1 (rdOf ByteArray.empty t170 3) t174 true _ A11.out).mono ?_); rintro e w' ⟨rfl, ⟨nd, rfl⟩⟩; refine ⟨_, rfl, ?_⟩; (try (rw [drewN_self wr]; generalize hq_ : World.drewN wr _ = wr; have n0_ : Aside0 (Kd.R Kd.string 9 wr w.heap.size (fun _ => True) (.slice (some ad173) t170.length co7) t170) := ⟨by rw [← hq_]; exact (xkd HO_16)⟩; have n1_ : Aside0 (wr.heap[gb168]? = some (.cells #[.int .u8 x169000_1, .int .u8 x169001_1, .int .u8 x169002_1, .int .u8 x169003_1] 53 (0, 0))) := ⟨by rw [← hq_]; exact xbk⟩; have n2_ : Aside0 (wr.heap[gb169]? = some (.cells #[.int .u8 x170000_1, .int .u8 x170001_1, .int .u8 x170002_1, .int .u8 x170003_1] 53 (0, 0))) := ⟨by rw [← hq_]; exact xbk⟩; have n3_ : Aside0 (Below w.heap.size w wr) := ⟨by rw [← hq_]; exact xbl⟩; clear HO_16 BK168 BK169 HB hq_; have HO_16 := n0_; have BK168 := n1_; have BK169 := n2_; have HB := n3_; clear n0_ n1_ n2_ n3_)); have hnb23 := NB169_168.out; have hnc23 := NB168_169.out; obtain ⟨hcz24_0, hcz24_1, hcz24_2, hcz24_3⟩ := xc4 BK169; have hfz24_0 := xf BK169 0; have hfz24_1 := xf BK169 1; have hfz24_2 := xf BK169 2; have hfz24_3 := xf BK169 3))
            go_roundg k1
            case measure => have := HK1.out; omega
            case rel => exact ⟨(wrap64 (3 + 1)), (x169000_1), (x169001_1), (x169002_1), (x169003_1), (x170000_1), (x170001_1), (x170002_1), (t174), xrr, H', ⟨by have := HK1.out; omega⟩, ⟨by (with_reducible repeat (first | apply Kd.R_alloc | apply Kd.R_drewN | apply Kd.R_drew)); exact Kd.R_mono (Kd.R_far (p := ⟨gb169, 3, none⟩) (Kd.R_types HO_16.out BK169.out (by decide)) (fun _ hk => hk.2) (.int .u8 t174)) (fun _ hk => trivial)⟩, ⟨by (with_reducible repeat (first | refine blk_drewN ?_ _ | refine blk_drew ?_ | refine blk_alloc ?_ _)); refine blk_far ?_ NB168_169.out _; (with_reducible repeat (first | refine blk_drewN ?_ _ | refine blk_drew ?_ | refine blk_alloc ?_ _)); exact BK168.out⟩, ⟨by (with_reducible repeat (first | refine blk_drewN ?_ _ | refine blk_drew ?_ | refine blk_alloc ?_ _)); refine blk_put (cs := #[.int .u8 x170000_1, .int .u8 x170001_1, .int .u8 x170002_1, .int .u8 x170003_1]) ?_ 3 _ rfl; (with_reducible repeat (first | refine blk_drewN ?_ _ | refine blk_drew ?_ | refine blk_alloc ?_ _)); exact BK169.out⟩, ⟨xbl⟩⟩
           ·
            rw [if_neg c22] at H
            clear c22
            exact absurd H (by simp)
       ·
        replace c12 := Bool.eq_false_iff.mpr c12
        subst c12
        rw [if_neg (show ¬ (false = true) by decide)] at H
        simp only [Option.some.injEq, Prod.mk.injEq] at H
        obtain ⟨rfl, rfl, rfl, rfl, rfl⟩ := H
        have p173 : 0 ≤ (x18_1 : Int) := xod
        have q173 : x18_1 < (t170.length : Int) := xod
        obtain ⟨ad173, e173, hx173_0⟩ := Kd.at_string (Kd.R_reads' HO_16.out).2.2 x18_1 p173 q173
        cases e173
        replace p173 := eq_true p173
        replace q173 := eq_true q173
        try (have q173x := q173; simp only [ByteArray.size_extract, Nat.min_self] at q173x)
        go_wp2_with (first | ((with_reducible refine gate_callee (f := 50) rfl ?_); refine xgl 25 Tryd.func50 #[.string (rdOf ByteArray.empty t170 x18_1)] ?_; (with_reducible refine (ip_decimal.calls k1 (rdOf ByteArray.empty t170 x18_1) t174 false _ A11.out).mono ?_); rintro e w' ⟨rfl, ⟨nd, rfl⟩⟩; refine ⟨_, rfl, ?_⟩; (try (rw [drewN_self wr]; generalize hq_ : World.drewN wr _ = wr; have n0_ : Aside0 (Kd.R Kd.string 9 wr w.heap.size (fun _ => True) (.slice (some ad173) t170.length co7) t170) := ⟨by rw [← hq_]; exact (xkd HO_16)⟩; have n1_ : Aside0 (wr.heap[gb168]? = some (.cells #[.int .u8 x169000_1, .int .u8 x169001_1, .int .u8 x169002_1, .int .u8 x169003_1] 53 (0, 0))) := ⟨by rw [← hq_]; exact xbk⟩; have n2_ : Aside0 (wr.heap[gb169]? = some (.cells #[.int .u8 x170000_1, .int .u8 x170001_1, .int .u8 x170002_1, .int .u8 x170003_1] 53 (0, 0))) := ⟨by rw [← hq_]; exact xbk⟩; have n3_ : Aside0 (Below w.heap.size w wr) := ⟨by rw [← hq_]; exact xbl⟩; clear HO_16 BK168 BK169 HB hq_; have HO_16 := n0_; have BK168 := n1_; have BK169 := n2_; have HB := n3_; clear n0_ n1_ n2_ n3_)); have hnb25 := NB168_169.out; have hnc25 := NB169_168.out; obtain ⟨hcz26_0, hcz26_1, hcz26_2, hcz26_3⟩ := xc4 BK168; have hfz26_0 := xf BK168 0; have hfz26_1 := xf BK168 1; have hfz26_2 := xf BK168 2; have hfz26_3 := xf BK168 3))
        refine bodyPost_ret (results_ct rfl _ _ gb168 53 #[.int .u8 0, .int .u8 0, .int .u8 0, .int .u8 0] (0, 0) _ rfl xbk Tryd.underlying53 rfl (by kernel_rfl)) rfl ?_
        exact ⟨xre, xbl⟩
      ·
       rw [if_neg c10] at H
       exact absurd H (by simp)
     ·
      rw [if_neg c9] at H
      exact absurd H (by simp)
    ·
     rw [if_neg c8] at H
     have c8b0 := decide_eq_false c8
     clear c8
     simp only [Option.some.injEq, Prod.mk.injEq] at H
     obtain ⟨rfl, rfl, rfl, rfl, rfl⟩ := H
     have hnb27 := NB169_168.out
     have hnc27 := NB168_169.out
     obtain ⟨hcz28_0, hcz28_1, hcz28_2, hcz28_3⟩ := xc4 BK169
     have hfz28_0 := xf BK169 0
     have hfz28_1 := xf BK169 1
     have hfz28_2 := xf BK169 2
     have hfz28_3 := xf BK169 3
     obtain ⟨hcz29_0, hcz29_1, hcz29_2, hcz29_3⟩ := xc4 BK168
     have hfz29_0 := xf BK168 0
     have hfz29_1 := xf BK168 1
     have hfz29_2 := xf BK168 2
     have hfz29_3 := xf BK168 3
     go_wp2
     refine bodyPost_ret (results_ct rfl _ _ gb168 53 #[.int .u8 x170000_1, .int .u8 x170001_1, .int .u8 x170002_1, .int .u8 x170003_1] (0, 0) _ rfl xbk Tryd.underlying53 rfl (by kernel_rfl)) rfl ?_
     exact ⟨xre, xbl⟩
 ·
  rw [if_neg c3] at H
  have c3b0 : ((t170.length : Int) == 4) = false := beq_eq_false_iff_ne.mpr c3
  have c3b1 : ((t170.length : Int) != 4) = true := bne_iff_ne.mpr c3
  simp only [Option.some.injEq, Prod.mk.injEq] at H
  obtain ⟨rfl, rfl, rfl, rfl, rfl⟩ := H
  go_enter Tryd.func29, Tryd.ntmps29
  go_wp2_with (first | ((with_reducible refine gate_dst (N := 2) rfl ?_); refine xev 2 #[.int .u8 0, .int .u8 0, .int .u8 0, .int .u8 0] 53 ?_; intro gb168 hg w30 hbox hb; have BK168 := Aside0.mk (hbox); have GW168 := xsz hg; have GE168 := GW168; replace HB := xst hb; clear hb hbox hg) | ((with_reducible refine gate_dst (N := 4) rfl ?_); refine xev 4 #[.int .u8 0, .int .u8 0, .int .u8 0, .int .u8 0] 53 ?_; intro gb169 hg w31 hbox hb; have BK169 := Aside0.mk (hbox); have GW169 := xsz hg; have GE169 := GW169; have NB168_169 := xlt (g := gb168) hg; have NB169_168 := xgt (g := gb168) hg; replace BK168 := xbb (g := gb168) (o := .cells #[.int .u8 0, .int .u8 0, .int .u8 0, .int .u8 0] 53 (0, 0)) hb; replace HB := xst hb; clear hb hbox hg) | ((with_reducible refine gate_callee (f := 49) rfl ?_); refine xgl 11 Tryd.func49 #[.string a0, .string (⟨#[46]⟩ : ByteArray)] ?_; (with_reducible refine (strings_Split.calls a0 (⟨#[46]⟩ : ByteArray) t170 _ ?side1 A2.out).mono ?_); (case side1 => first | exact hG | exact GW_to hG xbl); rintro e w32 ⟨v171, rfl, ho0, hb⟩; refine ⟨_, rfl, ?_⟩; have HO172 := Aside0.mk (Kd.R_lower ho0 (below_size xbl)); replace BK168 := xbb (g := gb168) (o := .cells #[.int .u8 0, .int .u8 0, .int .u8 0, .int .u8 0] 53 (0, 0)) hb; replace BK169 := xbb (g := gb169) (o := .cells #[.int .u8 0, .int .u8 0, .int .u8 0, .int .u8 0] 53 (0, 0)) hb; replace HB := xst hb; (try clear hb); (try clear ho0); obtain ⟨Ao33, co33, eo33⟩ := Kd.R_slice HO172.out; subst eo33; have hnb34 := NB169_168.out; have hnc34 := NB168_169.out; obtain ⟨hcz35_0, hcz35_1, hcz35_2, hcz35_3⟩ := xc4 BK169; have hfz35_0 := xf BK169 0; have hfz35_1 := xf BK169 1; have hfz35_2 := xf BK169 2; have hfz35_3 := xf BK169 3; obtain ⟨hcz36_0, hcz36_1, hcz36_2, hcz36_3⟩ := xc4 BK168; have hfz36_0 := xf BK168 0; have hfz36_1 := xf BK168 1; have hfz36_2 := xf BK168 2; have hfz36_3 := xf BK168 3))
  refine bodyPost_ret (results_ct rfl _ _ gb168 53 #[.int .u8 0, .int .u8 0, .int .u8 0, .int .u8 0] (0, 0) _ rfl xbk Tryd.underlying53 rfl (by kernel_rfl)) rfl ?_
  exact ⟨xre, xbl⟩
mutual
def ip_word.j0 : Nat → ByteArray → Bool → Option (Int × Bool)
  | 0, _, _ => none
  | k + 1, x0, x15 => if x15 = true then (some (0, false)) else (ip_word.l0 k x0 0 (x0.size : Int) 0)
def ip_word.l0 : Nat → ByteArray → Int → Int → Int → Option (Int × Bool)
  | 0, _, _, _, _ => none
  | k + 1, x0, x4, x17, x18 => if x18 < x17 then (if 0 ≤ x18 then (if x18 < (x0.size : Int) then ((octet_Value.f k (bt x0 x18)).bind fun bt176 => (if bt176.2 = true then (ip_word.l0 k x0 (Go.bits .or .i64 (wrap64 (x4 * 16)) bt176.1) x17 (wrap64 (x18 + 1))) else (some (0, false)))) else (none)) else (none)) else (some (IntKind.u16.wrap (x4), true))
end
def ip_word.f (k : Nat) (a0 : ByteArray) : Option (Int × Bool) := if (a0.size : Int) = 0 then (ip_word.j0 k a0 true) else (ip_word.j0 k a0 (decide ((a0.size : Int) > 4)))
theorem ip_word.mono_l : ∀ k, (∀ y0 y1, LeO (ip_word.j0 k y0 y1) (ip_word.j0 (k + 1) y0 y1)) ∧ (∀ y0 y1 y2 y3, LeO (ip_word.l0 k y0 y1 y2 y3) (ip_word.l0 (k + 1) y0 y1 y2 y3))
  | 0 => ⟨fun _ _ r h => by simp [ip_word.j0] at h, fun _ _ _ _ r h => by simp [ip_word.l0] at h⟩
  | k + 1 => by
    obtain ⟨ih0, ih1⟩ := ip_word.mono_l k
    have m0 := @octet_Value.mono
    refine ⟨?_, ?_⟩
    · intro y0 y1
      unfold ip_word.j0
      exact xmo
    · intro y0 y1 y2 y3
      unfold ip_word.l0
      exact xmo
theorem ip_word.mono : ∀ a0 k, LeO (ip_word.f k a0) (ip_word.f (k + 1) a0) := by
  intro a0 k
  obtain ⟨ih0, ih1⟩ := ip_word.mono_l k
  have m0 := @octet_Value.mono
  unfold ip_word.f
  exact xmo
set_option maxHeartbeats 8000000 in
set_option maxRecDepth 100000 in
theorem ip_word.calls (k : Nat) (a0 : ByteArray) (r1 : Int) (r2 : Bool) (w : World) (h : ip_word.f k a0 = some (r1, r2)) :
    Calls Tryd.prog 66 #[.string a0] w fun e w' => e = .returned (.tuple #[.int .u16 r1, .bool r2]) ∧ Drawn0 w w' := by
 have H : (if (a0.size : Int) = 0 then (ip_word.j0 k a0 true) else (ip_word.j0 k a0 (decide ((a0.size : Int) > 4)))) = some (r1, r2) := h
 clear h
 have HC2 := Aside0.mk H
 clear H
 go_enter Tryd.func66, Tryd.ntmps66
 go_upto_region 1 with (fail)
 go_cut [15] (fun v15 wc => ∃ (kq : Nat) (x15_1 : Bool), v15 = .bool x15_1 ∧ Aside0 (ip_word.j0 kq a0 x15_1 = some (r1, r2)) ∧ Aside0 (kq ≤ k) ∧ Drawn0 w wc)
 case first =>
  have H := HC2.out
  clear HC2
  by_cases c3 : (a0.size : Int) = 0
  ·
   rw [if_pos c3] at H
   have c3b0 : ((a0.size : Int) == 0) = true := beq_iff_eq.mpr c3
   have c3b1 : ((a0.size : Int) != 0) = false := bne_eq_false_iff_eq.mpr c3
   clear c3
   (first | rw [c3b0] | (simp only [i64_w, i32_w]; rw [c3b0]) | skip)
   have H' := Aside0.mk H
   clear H
   go_wp2
   go_meet
   case rel => exact ⟨_, (true), xrr, H', ⟨xom⟩, xdr⟩
  ·
   rw [if_neg c3] at H
   have c3b0 : ((a0.size : Int) == 0) = false := beq_eq_false_iff_ne.mpr c3
   have c3b1 : ((a0.size : Int) != 0) = true := bne_iff_ne.mpr c3
   (first | rw [c3b0] | (simp only [i64_w, i32_w]; rw [c3b0]) | skip)
   have H' := Aside0.mk H
   clear H
   go_wp2
   go_meet
   case rel => exact ⟨_, (decide ((a0.size : Int) > 4)), xrr, H', ⟨xom⟩, xdr⟩
 case rest =>
  clear HC2
  obtain ⟨kq, x15_1, rfl, HA, HJ1, ⟨mc1, rfl⟩⟩ := hcut
  cases kq with
  | zero => exact absurd HA.out (by simp [ip_word.j0])
  | succ kj1 =>
   have H := HA.out
   clear HA
   simp only [ip_word.j0] at H
   by_cases c4 : x15_1 = true
   ·
    subst c4
    rw [if_pos rfl] at H
    simp only [Option.some.injEq, Prod.mk.injEq] at H
    obtain ⟨rfl, rfl⟩ := H
    go_wp2
    go_ret2
    exact ⟨xrr, xdr⟩
   ·
    replace c4 := Bool.eq_false_iff.mpr c4
    subst c4
    rw [if_neg (show ¬ (false = true) by decide)] at H
    have H' := Aside0.mk H
    clear H
    go_wp2
    go_loopg [4, 18] kj1 (fun kq v4 v18 w' => ∃ (x4_2 : Int) (x18_2 : Int), v4 = .int .i64 x4_2 ∧ v18 = .int .i64 x18_2 ∧ Aside0 (ip_word.l0 kq a0 x4_2 (a0.size : Int) x18_2 = some (r1, r2)) ∧ Aside0 (kq ≤ kj1) ∧ Drawn0 w w')
    case atStart => exact ⟨(0), (0), xrr, xrr, H', ⟨Nat.le_refl _⟩, xdr⟩
    case round =>
     clear H'
     obtain ⟨x4_2, x18_2, rfl, rfl, HA, HK2, ⟨m2, rfl⟩⟩ := hrel
     cases gk with
     | zero => exact absurd HA.out (by simp [ip_word.l0])
     | succ k2 =>
      have H := HA.out
      clear HA
      simp only [ip_word.l0] at H
      by_cases c5 : x18_2 < (a0.size : Int)
      ·
       rw [if_pos c5] at H
       have c5b0 := decide_eq_true c5
       clear c5
       by_cases c6 : 0 ≤ x18_2
       ·
        rw [if_pos c6] at H
        have c6b0 := decide_eq_true c6
        clear c6
        by_cases c7 : x18_2 < (a0.size : Int)
        ·
         rw [if_pos c7] at H
         have c7b0 := decide_eq_true c7
         clear c7
         replace H := Option.bind_eq_some_iff.mp H
         obtain ⟨⟨t176, t177⟩, A90, H⟩ := H
         try dsimp only at H
         have A9 := Aside0.mk A90
         clear A90
         by_cases c10 : t177 = true
         ·
          subst c10
          rw [if_pos rfl] at H
          have H' := Aside0.mk H
          clear H
          have p8 : 0 ≤ (x18_2 : Int) := xod
          have q8 : x18_2 < (a0.size : Int) := xod
          have hx8 := bt_at a0 x18_2
          replace p8 := eq_true p8
          replace q8 := eq_true q8
          try (have q8x := q8; simp only [ByteArray.size_extract, Nat.min_self] at q8x)
          go_wp2_with (first | ((with_reducible refine gate_callee (f := 61) rfl ?_); refine xgl 25 Tryd.func61 #[.int .u8 (bt a0 x18_2)] ?_; (with_reducible refine (octet_Value.calls k2 (bt a0 x18_2) t176 true _ A9.out).mono ?_); rintro e w' ⟨rfl, ⟨nd, rfl⟩⟩; refine ⟨_, rfl, ?_⟩))
          go_roundg k2
          case measure => have := HJ1.out; have := HK2.out; omega
          case rel => exact ⟨(Go.bits .or .i64 (wrap64 (x4_2 * 16)) t176), (wrap64 (x18_2 + 1)), xrr, xrr, H', ⟨by have := HJ1.out; have := HK2.out; omega⟩, xdr⟩
         ·
          replace c10 := Bool.eq_false_iff.mpr c10
          subst c10
          rw [if_neg (show ¬ (false = true) by decide)] at H
          simp only [Option.some.injEq, Prod.mk.injEq] at H
          obtain ⟨rfl, rfl⟩ := H
          have p8 : 0 ≤ (x18_2 : Int) := xod
          have q8 : x18_2 < (a0.size : Int) := xod
          have hx8 := bt_at a0 x18_2
          replace p8 := eq_true p8
          replace q8 := eq_true q8
          try (have q8x := q8; simp only [ByteArray.size_extract, Nat.min_self] at q8x)
          go_wp2_with (first | ((with_reducible refine gate_callee (f := 61) rfl ?_); refine xgl 25 Tryd.func61 #[.int .u8 (bt a0 x18_2)] ?_; (with_reducible refine (octet_Value.calls k2 (bt a0 x18_2) t176 false _ A9.out).mono ?_); rintro e w' ⟨rfl, ⟨nd, rfl⟩⟩; refine ⟨_, rfl, ?_⟩))
          go_ret2
          exact ⟨xrr, xdr⟩
        ·
         rw [if_neg c7] at H
         exact absurd H (by simp)
       ·
        rw [if_neg c6] at H
        exact absurd H (by simp)
      ·
       rw [if_neg c5] at H
       have c5b0 := decide_eq_false c5
       clear c5
       simp only [Option.some.injEq, Prod.mk.injEq] at H
       obtain ⟨rfl, rfl⟩ := H
       go_wp2
       go_ret2
       exact ⟨xrr, xdr⟩
end Go.Proofs.YtdmigmccfdhdiaaDoor.X
