/- Texts that the law's proof needs, joined by a program of this session. -/
import Derived.Test.YtpmflpeckoeooaaDoorZSyntaxLong1
import Derived.Test.YtpmflpeckoeooaaDoorZSyntaxLong2
import Derived.Test.YtpmflpeckoeooaaDoorZSyntaxLong4
namespace Go.Proofs.YtpmflpeckoeooaaDoor.X
open Go.RowKit Go.Proofs.YtpmflpeckoeooaaDoorW.PrintWords Go.Proofs.YtpmflpeckoeooaaDoorW.PrintLast Go.Proofs.YtpmflpeckoeooaaDoorW.PrintMore
attribute [local go_sem] xj_then_goto xj_block_goto xj_normal xj_exit xj_ret xj_panic xj_goto max2_int min2_int max_two min_two max_three min_three max_four min_four
set_option linter.unusedVariables false
set_option linter.unusedSimpArgs false
mutual
def lexis_May.j0 : Nat → Int → Bool → Int → Bool → Option (Bool)
  | 0, _, _, _, _ => none
  | k + 1, x0, x1, x2, x14 => if x14 = true then ((lexis_Plain.f k x0 ((x2) % 256)).bind fun t144 => (some t144)) else ((lexis_extra.f x0).bind fun bt145 => (if bt145.2 = true then (lexis_May.j1 k x0 x2 (!x1)) else (lexis_May.j1 k x0 x2 true)))
def lexis_May.j1 : Nat → Int → Int → Bool → Option (Bool)
  | 0, _, _, _ => none
  | k + 1, x0, x2, x29 => if x29 = true then (some false) else ((lexis_Common.f k x2).bind fun t147 => (if t147 = true then (some true) else (if x0 = 6 then ((lexis_Private.f x2).bind fun t148 => (some t148)) else (some false))))
end
def lexis_May.f (k : Nat) (a0 : Int) (a1 : Bool) (a2 : Int) : Option (Bool) := if a2 ≥ 0 then (lexis_May.j0 k a0 a1 a2 (decide (a2 < 128))) else (lexis_May.j0 k a0 a1 a2 false)
theorem lexis_May.mono_l : ∀ k, (∀ y0 y1 y2 y3, LeO (lexis_May.j0 k y0 y1 y2 y3) (lexis_May.j0 (k + 1) y0 y1 y2 y3)) ∧ (∀ y0 y1 y2, LeO (lexis_May.j1 k y0 y1 y2) (lexis_May.j1 (k + 1) y0 y1 y2))
  | 0 => ⟨fun _ _ _ _ r h => by simp [lexis_May.j0] at h, fun _ _ _ r h => by simp [lexis_May.j1] at h⟩
  | k + 1 => by
    obtain ⟨ih0, ih1⟩ := lexis_May.mono_l k
    have m0 := @lexis_Common.mono; have m1 := @lexis_Plain.mono
    refine ⟨?_, ?_⟩
    · intro y0 y1 y2 y3
      unfold lexis_May.j0
      exact xmo
    · intro y0 y1 y2
      unfold lexis_May.j1
      exact xmo
theorem lexis_May.mono : ∀ a0 a1 a2 k, LeO (lexis_May.f k a0 a1 a2) (lexis_May.f (k + 1) a0 a1 a2) := by
  intro a0 a1 a2 k
  obtain ⟨ih0, ih1⟩ := lexis_May.mono_l k
  have m0 := @lexis_Common.mono; have m1 := @lexis_Plain.mono
  unfold lexis_May.f
  exact xmo
set_option maxHeartbeats 8000000 in
set_option maxRecDepth 100000 in
theorem lexis_May.calls (k : Nat) (a0 : Int) (a1 : Bool) (a2 : Int) (r : Bool) (w : World) (h : lexis_May.f k a0 a1 a2 = some r) :
    Calls Tryd.prog 38 #[.int .i64 a0, .bool a1, .int .i32 a2] w fun e w' => e = .returned (.bool r) ∧ Below w.heap.size w w' := by
 have HB := Aside0.mk (Below.refl w.heap.size w)
 have H : (if a2 ≥ 0 then (lexis_May.j0 k a0 a1 a2 (decide (a2 < 128))) else (lexis_May.j0 k a0 a1 a2 false)) = some r := h
 clear h
 have HC4 := Aside0.mk H
 clear H
 go_enter Tryd.func38, Tryd.ntmps38
 go_upto_region 1 with (fail)
 go_cut [14] (fun v14 wc => ∃ (kq : Nat) (x14_3 : Bool), v14 = .bool x14_3 ∧ Aside0 (lexis_May.j0 kq a0 a1 a2 x14_3 = some r) ∧ Aside0 (kq ≤ k) ∧ Aside0 (Below w.heap.size w wc))
 case first =>
  have H := HC4.out
  clear HC4
  by_cases c5 : a2 ≥ 0
  ·
   rw [if_pos c5] at H
   have c5b0 := decide_eq_true c5
   clear c5
   (first | rw [c5b0] | (simp only [i64_w, i32_w]; rw [c5b0]) | (rw [c5b2]; (try simp only [Bool.not_false, Bool.not_true])) | (rw [c5b3]; (try simp only [Bool.not_false, Bool.not_true])) | skip)
   have H' := Aside0.mk H
   clear H
   go_wp2
   go_meet
   case rel => exact ⟨_, (decide (a2 < 128)), xrr, H', ⟨xom⟩, ⟨xbl⟩⟩
  ·
   rw [if_neg c5] at H
   have c5b0 := decide_eq_false c5
   clear c5
   (first | rw [c5b0] | (simp only [i64_w, i32_w]; rw [c5b0]) | (rw [c5b2]; (try simp only [Bool.not_false, Bool.not_true])) | (rw [c5b3]; (try simp only [Bool.not_false, Bool.not_true])) | skip)
   have H' := Aside0.mk H
   clear H
   go_wp2
   go_meet
   case rel => exact ⟨_, (false), xrr, H', ⟨xom⟩, ⟨xbl⟩⟩
 case rest =>
  clear HC4
  obtain ⟨kq, x14_3, rfl, HA, HJ3, HB⟩ := hcut
  cases kq with
  | zero => exact absurd HA.out (by simp [lexis_May.j0])
  | succ kj3 =>
   have H := HA.out
   clear HA
   simp only [lexis_May.j0] at H
   by_cases c6 : x14_3 = true
   ·
    subst c6
    rw [if_pos rfl] at H
    replace H := Option.bind_eq_some_iff.mp H
    obtain ⟨t144, A70, H⟩ := H
    try dsimp only at H
    have A7 := Aside0.mk A70
    clear A70
    obtain rfl := Option.some.inj H
    go_wp2_with (first | ((with_reducible refine gate_callee (f := 46) rfl ?_); refine xgl 18 Tryd.func46 #[.int .i64 a0, .int .u8 ((a2) % 256)] ?_; (with_reducible refine (lexis_Plain.calls kj3 a0 ((a2) % 256) t144 _ A7.out).mono ?_); rintro e w8 ⟨rfl, hb⟩; refine ⟨_, rfl, ?_⟩; replace HB := xst hb; (try clear hb)))
    go_ret
    exact ⟨xre, xbl⟩
   ·
    replace c6 := Bool.eq_false_iff.mpr c6
    subst c6
    rw [if_neg (show ¬ (false = true) by decide)] at H
    replace H := Option.bind_eq_some_iff.mp H
    obtain ⟨⟨t145, t146⟩, A90, H⟩ := H
    try dsimp only at H
    have A9 := Aside0.mk A90
    clear A90
    have HC10 := Aside0.mk H
    clear H
    go_upto_region 4 with (first | ((with_reducible refine gate_callee (f := 36) rfl ?_); refine xgl 21 Tryd.func36 #[.int .i64 a0] ?_; (with_reducible refine (lexis_extra.calls a0 t145 t146 _ A9.out).mono ?_); rintro e w' ⟨rfl, ⟨nd, rfl⟩⟩; refine ⟨_, rfl, ?_⟩))
    (try simp only [Act.put, List.setIfInBounds_toArray, List.set_cons_zero, List.set_cons_succ])
    go_cut [29] (fun v29 wc => ∃ (kq : Nat) (x29_9 : Bool), v29 = .bool x29_9 ∧ Aside0 (lexis_May.j1 kq a0 a2 x29_9 = some r) ∧ Aside0 (kq ≤ kj3) ∧ Aside0 (Below w.heap.size w wc))
    case first =>
     have H := HC10.out
     clear HC10
     by_cases c11 : t146 = true
     ·
      subst c11
      rw [if_pos rfl] at H
      have H' := Aside0.mk H
      clear H
      go_wp2
      go_meet
      case rel => exact ⟨_, (!a1), xrr, H', ⟨by have := HJ3.out; first | omega | exact Nat.le_refl _⟩, ⟨xbl⟩⟩
     ·
      replace c11 := Bool.eq_false_iff.mpr c11
      subst c11
      rw [if_neg (show ¬ (false = true) by decide)] at H
      have H' := Aside0.mk H
      clear H
      go_wp2
      go_meet
      case rel => exact ⟨_, (true), xrr, H', ⟨by have := HJ3.out; first | omega | exact Nat.le_refl _⟩, ⟨xbl⟩⟩
    case rest =>
     clear HC10
     obtain ⟨kq, x29_9, rfl, HA, HJ9, HB⟩ := hcut
     cases kq with
     | zero => exact absurd HA.out (by simp [lexis_May.j1])
     | succ kj9 =>
      have H := HA.out
      clear HA
      simp only [lexis_May.j1] at H
      by_cases c12 : x29_9 = true
      ·
       subst c12
       rw [if_pos rfl] at H
       obtain rfl := Option.some.inj H
       go_wp2
       go_ret
       exact ⟨xre, xbl⟩
      ·
       replace c12 := Bool.eq_false_iff.mpr c12
       subst c12
       rw [if_neg (show ¬ (false = true) by decide)] at H
       replace H := Option.bind_eq_some_iff.mp H
       obtain ⟨t147, A130, H⟩ := H
       try dsimp only at H
       have A13 := Aside0.mk A130
       clear A130
       by_cases c14 : t147 = true
       ·
        subst c14
        rw [if_pos rfl] at H
        obtain rfl := Option.some.inj H
        go_wp2_with (first | ((with_reducible refine gate_callee (f := 47) rfl ?_); refine xgl 31 Tryd.func47 #[.int .i32 a2] ?_; (with_reducible refine (lexis_Common.calls kj9 a2 true _ A13.out).mono ?_); rintro e w' ⟨rfl, ⟨nd, rfl⟩⟩; refine ⟨_, rfl, ?_⟩))
        go_ret
        exact ⟨xre, xbl⟩
       ·
        replace c14 := Bool.eq_false_iff.mpr c14
        subst c14
        rw [if_neg (show ¬ (false = true) by decide)] at H
        by_cases c15 : a0 = 6
        ·
         rw [if_pos c15] at H
         have c15b0 : (a0 == 6) = true := beq_iff_eq.mpr c15
         have c15b1 : (a0 != 6) = false := bne_eq_false_iff_eq.mpr c15
         clear c15
         replace H := Option.bind_eq_some_iff.mp H
         obtain ⟨t148, A160, H⟩ := H
         try dsimp only at H
         have A16 := Aside0.mk A160
         clear A160
         obtain rfl := Option.some.inj H
         go_wp2_with (first | ((with_reducible refine gate_callee (f := 47) rfl ?_); refine xgl 31 Tryd.func47 #[.int .i32 a2] ?_; (with_reducible refine (lexis_Common.calls kj9 a2 false _ A13.out).mono ?_); rintro e w' ⟨rfl, ⟨nd, rfl⟩⟩; refine ⟨_, rfl, ?_⟩) | (go_at_call 48; (with_reducible refine (lexis_Private.calls a2 t148 _ A16.out).mono ?_); rintro e w' ⟨rfl, ⟨nd, rfl⟩⟩))
         go_ret
         exact ⟨xre, xbl⟩
        ·
         rw [if_neg c15] at H
         have c15b0 : (a0 == 6) = false := beq_eq_false_iff_ne.mpr c15
         have c15b1 : (a0 != 6) = true := bne_iff_ne.mpr c15
         obtain rfl := Option.some.inj H
         go_wp2_with (first | ((with_reducible refine gate_callee (f := 47) rfl ?_); refine xgl 31 Tryd.func47 #[.int .i32 a2] ?_; (with_reducible refine (lexis_Common.calls kj9 a2 false _ A13.out).mono ?_); rintro e w' ⟨rfl, ⟨nd, rfl⟩⟩; refine ⟨_, rfl, ?_⟩))
         go_ret
         exact ⟨xre, xbl⟩
def lexis_Span.l0 : Nat → Int → Bool → ByteArray → Int → Option (Int)
  | 0, _, _, _, _ => none
  | k + 1, x0, x1, x2, x7 => if x7 < (x2.size : Int) then ((lexis_extra.f x0).bind fun bt149 => (if bt149.2 = true then ((escape_At.f k x2 x7).bind fun bt151 => (if bt151.2 = true then (lexis_Span.l0 k x0 x1 x2 (wrap64 (x7 + 3))) else (if 0 ≤ x7 then (if x7 ≤ (x2.size : Int) then ((utf_Decode.f k (x2.extract (x7 : Int).toNat x2.size)).bind fun bt153 => (if bt153.2.2 = true then ((lexis_May.f k x0 x1 bt153.1).bind fun t156 => (if t156 = true then (lexis_Span.l0 k x0 x1 x2 (wrap64 (x7 + bt153.2.1))) else (some x7))) else (some x7))) else (none)) else (none)))) else (some 0))) else (some x7)
def lexis_Span.f (k : Nat) (a0 : Int) (a1 : Bool) (a2 : ByteArray) : Option (Int) := lexis_Span.l0 k a0 a1 a2 0
theorem lexis_Span.mono_l : ∀ k, (∀ y0 y1 y2 y3, LeO (lexis_Span.l0 k y0 y1 y2 y3) (lexis_Span.l0 (k + 1) y0 y1 y2 y3))
  | 0 => fun _ _ _ _ r h => by simp [lexis_Span.l0] at h
  | k + 1 => by
    have ih0 := lexis_Span.mono_l k
    have m0 := @escape_At.mono; have m1 := @lexis_May.mono; have m2 := @utf_Decode.mono
    · intro y0 y1 y2 y3
      unfold lexis_Span.l0
      exact xmo
theorem lexis_Span.mono : ∀ a0 a1 a2 k, LeO (lexis_Span.f k a0 a1 a2) (lexis_Span.f (k + 1) a0 a1 a2) := by
  intro a0 a1 a2 k
  have ih0 := lexis_Span.mono_l k
  have m0 := @escape_At.mono; have m1 := @lexis_May.mono; have m2 := @utf_Decode.mono
  unfold lexis_Span.f
  exact xmo
set_option maxHeartbeats 8000000 in
set_option maxRecDepth 100000 in
theorem lexis_Span.calls (k : Nat) (a0 : Int) (a1 : Bool) (a2 : ByteArray) (r : Int) (w : World) (h : lexis_Span.f k a0 a1 a2 = some r) :
    Calls Tryd.prog 27 #[.int .i64 a0, .bool a1, .string a2] w fun e w' => e = .returned (.int .i64 r) ∧ Below w.heap.size w w' := by
 have HB := Aside0.mk (Below.refl w.heap.size w)
 have H : (lexis_Span.l0 k a0 a1 a2 0) = some r := h
 clear h
 have H' := Aside0.mk H
 clear H
 go_enter Tryd.func27, Tryd.ntmps27
 go_wp2
 go_loopg [7] k (fun kq v7 w' => ∃ (x7_1 : Int), v7 = .int .i64 x7_1 ∧ Aside0 (lexis_Span.l0 kq a0 a1 a2 x7_1 = some r) ∧ Aside0 (kq ≤ k) ∧ Aside0 (Below w.heap.size w w'))
 case atStart => exact ⟨(0), xrr, H', ⟨Nat.le_refl _⟩, ⟨xbl⟩⟩
 case round =>
  clear H'
  obtain ⟨x7_1, rfl, HA, HK1, HB⟩ := hrel
  cases gk with
  | zero => exact absurd HA.out (by simp [lexis_Span.l0])
  | succ k1 =>
   have H := HA.out
   clear HA
   simp only [lexis_Span.l0] at H
   by_cases c4 : x7_1 < (a2.size : Int)
   ·
    rw [if_pos c4] at H
    have c4b0 := decide_eq_true c4
    clear c4
    replace H := Option.bind_eq_some_iff.mp H
    obtain ⟨⟨t149, t150⟩, A50, H⟩ := H
    try dsimp only at H
    have A5 := Aside0.mk A50
    clear A50
    by_cases c6 : t150 = true
    ·
     subst c6
     rw [if_pos rfl] at H
     replace H := Option.bind_eq_some_iff.mp H
     obtain ⟨⟨t151, t152⟩, A70, H⟩ := H
     try dsimp only at H
     have A7 := Aside0.mk A70
     clear A70
     by_cases c8 : t152 = true
     ·
      subst c8
      rw [if_pos rfl] at H
      have H' := Aside0.mk H
      clear H
      go_wp2_with (first | ((with_reducible refine gate_callee (f := 36) rfl ?_); refine xgl 21 Tryd.func36 #[.int .i64 a0] ?_; (with_reducible refine (lexis_extra.calls a0 t149 true _ A5.out).mono ?_); rintro e w' ⟨rfl, ⟨nd, rfl⟩⟩; refine ⟨_, rfl, ?_⟩) | ((with_reducible refine gate_callee (f := 37) rfl ?_); refine xgl 29 Tryd.func37 #[.string a2, .int .i64 x7_1] ?_; (with_reducible refine (escape_At.calls k1 a2 x7_1 t151 true _ A7.out).mono ?_); rintro e w' ⟨rfl, ⟨nd, rfl⟩⟩; refine ⟨_, rfl, ?_⟩))
      go_roundg k1
      case measure => have := HK1.out; omega
      case rel => exact ⟨(wrap64 (x7_1 + 3)), xrr, H', ⟨by have := HK1.out; omega⟩, ⟨xbl⟩⟩
     ·
      replace c8 := Bool.eq_false_iff.mpr c8
      subst c8
      rw [if_neg (show ¬ (false = true) by decide)] at H
      by_cases c9 : 0 ≤ x7_1
      ·
       rw [if_pos c9] at H
       have c9b0 := eq_true c9
       have c9b1 := decide_eq_true c9
       clear c9
       by_cases c10 : x7_1 ≤ (a2.size : Int)
       ·
        rw [if_pos c10] at H
        have c10b0 := eq_true c10
        have c10b1 := decide_eq_true c10
        clear c10
        obtain ⟨ji11, hji11⟩ : ∃ j_ : ByteArray, (a2.extract (x7_1 : Int).toNat a2.size) = j_ := ⟨_, rfl⟩
        try (have hji11x := hji11; simp only [Int.toNat_natCast] at hji11x)
        first | rw [hji11] at H | simp only [hji11] at H | skip
        (try rw [hji11] at A5)
        (try rw [hji11] at A7)
        replace H := Option.bind_eq_some_iff.mp H
        obtain ⟨⟨t153, t154, t155⟩, A120, H⟩ := H
        try dsimp only at H
        have A12 := Aside0.mk A120
        clear A120
        by_cases c13 : t155 = true
        ·
         subst c13
         rw [if_pos rfl] at H
         replace H := Option.bind_eq_some_iff.mp H
         obtain ⟨t156, A140, H⟩ := H
         try dsimp only at H
         have A14 := Aside0.mk A140
         clear A140
         by_cases c15 : t156 = true
         ·
          subst c15
          rw [if_pos rfl] at H
          have H' := Aside0.mk H
          clear H
          go_wp2_with (first | ((with_reducible refine gate_callee (f := 36) rfl ?_); refine xgl 21 Tryd.func36 #[.int .i64 a0] ?_; (with_reducible refine (lexis_extra.calls a0 t149 true _ A5.out).mono ?_); rintro e w' ⟨rfl, ⟨nd, rfl⟩⟩; refine ⟨_, rfl, ?_⟩) | ((with_reducible refine gate_callee (f := 37) rfl ?_); refine xgl 29 Tryd.func37 #[.string a2, .int .i64 x7_1] ?_; (with_reducible refine (escape_At.calls k1 a2 x7_1 t151 false _ A7.out).mono ?_); rintro e w' ⟨rfl, ⟨nd, rfl⟩⟩; refine ⟨_, rfl, ?_⟩) | ((with_reducible refine gate_callee (f := 16) rfl ?_); refine goesL_ (some 39) rfl rfl Tryd.func16 (by kernel_rfl) rfl #[.string ji11] rfl (by (try simp only [List.map_toArray, List.map_cons, List.map_nil]); first | done | (simp only [hji11]; rfl) | rfl | (simp only [List.length_drop, List.length_take]; rfl)) ?_; (with_reducible refine (utf_Decode.calls k1 ji11 t153 t154 true _ A12.out).mono ?_); rintro e w16 ⟨rfl, hb⟩; refine ⟨_, rfl, ?_⟩; replace HB := xst hb; (try clear hb)) | (go_at_call 38; (with_reducible refine (lexis_May.calls k1 a0 a1 t153 true _ A14.out).mono ?_); rintro e w17 ⟨rfl, hb⟩; replace HB := xst hb; (try clear hb)))
          first | go_roundg k1 | (simp only [← hji11]; go_roundg k1)
          case measure => have := HK1.out; omega
          case rel => exact ⟨(wrap64 (x7_1 + t154)), xrr, H', ⟨by have := HK1.out; omega⟩, ⟨xbl⟩⟩
         ·
          replace c15 := Bool.eq_false_iff.mpr c15
          subst c15
          rw [if_neg (show ¬ (false = true) by decide)] at H
          obtain rfl := Option.some.inj H
          go_wp2_with (first | ((with_reducible refine gate_callee (f := 36) rfl ?_); refine xgl 21 Tryd.func36 #[.int .i64 a0] ?_; (with_reducible refine (lexis_extra.calls a0 t149 true _ A5.out).mono ?_); rintro e w' ⟨rfl, ⟨nd, rfl⟩⟩; refine ⟨_, rfl, ?_⟩) | ((with_reducible refine gate_callee (f := 37) rfl ?_); refine xgl 29 Tryd.func37 #[.string a2, .int .i64 x7_1] ?_; (with_reducible refine (escape_At.calls k1 a2 x7_1 t151 false _ A7.out).mono ?_); rintro e w' ⟨rfl, ⟨nd, rfl⟩⟩; refine ⟨_, rfl, ?_⟩) | ((with_reducible refine gate_callee (f := 16) rfl ?_); refine goesL_ (some 39) rfl rfl Tryd.func16 (by kernel_rfl) rfl #[.string ji11] rfl (by (try simp only [List.map_toArray, List.map_cons, List.map_nil]); first | done | (simp only [hji11]; rfl) | rfl | (simp only [List.length_drop, List.length_take]; rfl)) ?_; (with_reducible refine (utf_Decode.calls k1 ji11 t153 t154 true _ A12.out).mono ?_); rintro e w18 ⟨rfl, hb⟩; refine ⟨_, rfl, ?_⟩; replace HB := xst hb; (try clear hb)) | (go_at_call 38; (with_reducible refine (lexis_May.calls k1 a0 a1 t153 false _ A14.out).mono ?_); rintro e w19 ⟨rfl, hb⟩; replace HB := xst hb; (try clear hb)))
          go_ret
          exact ⟨by first | rfl | (simp [errW_none, errW_some] <;> first | rfl | (simp only [xp_isEmpty, bne, Bool.not_not]; done)) | (simp only [← hji11]; first | rfl | (simp [errW_none, errW_some] <;> rfl)) | (simp [*, errW_none, errW_some] <;> rfl), xbl⟩
        ·
         replace c13 := Bool.eq_false_iff.mpr c13
         subst c13
         rw [if_neg (show ¬ (false = true) by decide)] at H
         obtain rfl := Option.some.inj H
         go_wp2_with (first | ((with_reducible refine gate_callee (f := 36) rfl ?_); refine xgl 21 Tryd.func36 #[.int .i64 a0] ?_; (with_reducible refine (lexis_extra.calls a0 t149 true _ A5.out).mono ?_); rintro e w' ⟨rfl, ⟨nd, rfl⟩⟩; refine ⟨_, rfl, ?_⟩) | ((with_reducible refine gate_callee (f := 37) rfl ?_); refine xgl 29 Tryd.func37 #[.string a2, .int .i64 x7_1] ?_; (with_reducible refine (escape_At.calls k1 a2 x7_1 t151 false _ A7.out).mono ?_); rintro e w' ⟨rfl, ⟨nd, rfl⟩⟩; refine ⟨_, rfl, ?_⟩) | ((with_reducible refine gate_callee (f := 16) rfl ?_); refine goesL_ (some 39) rfl rfl Tryd.func16 (by kernel_rfl) rfl #[.string ji11] rfl (by (try simp only [List.map_toArray, List.map_cons, List.map_nil]); first | done | (simp only [hji11]; rfl) | rfl | (simp only [List.length_drop, List.length_take]; rfl)) ?_; (with_reducible refine (utf_Decode.calls k1 ji11 t153 t154 false _ A12.out).mono ?_); rintro e w20 ⟨rfl, hb⟩; refine ⟨_, rfl, ?_⟩; replace HB := xst hb; (try clear hb)))
         go_ret
         exact ⟨by first | rfl | (simp [errW_none, errW_some] <;> first | rfl | (simp only [xp_isEmpty, bne, Bool.not_not]; done)) | (simp only [← hji11]; first | rfl | (simp [errW_none, errW_some] <;> rfl)) | (simp [*, errW_none, errW_some] <;> rfl), xbl⟩
       ·
        rw [if_neg c10] at H
        exact absurd H (by simp)
      ·
       rw [if_neg c9] at H
       exact absurd H (by simp)
    ·
     replace c6 := Bool.eq_false_iff.mpr c6
     subst c6
     rw [if_neg (show ¬ (false = true) by decide)] at H
     obtain rfl := Option.some.inj H
     go_wp2_with (first | ((with_reducible refine gate_callee (f := 36) rfl ?_); refine xgl 21 Tryd.func36 #[.int .i64 a0] ?_; (with_reducible refine (lexis_extra.calls a0 t149 false _ A5.out).mono ?_); rintro e w' ⟨rfl, ⟨nd, rfl⟩⟩; refine ⟨_, rfl, ?_⟩))
     go_ret
     exact ⟨xre, xbl⟩
   ·
    rw [if_neg c4] at H
    have c4b0 := decide_eq_false c4
    clear c4
    obtain rfl := Option.some.inj H
    go_wp2
    go_ret
    exact ⟨xre, xbl⟩
def lexis_All.f (k : Nat) (a0 : Int) (a1 : Bool) (a2 : ByteArray) : Option (Bool) := (lexis_Span.f k a0 a1 a2).bind fun t157 => (some (t157 == (a2.size : Int)))
theorem lexis_All.mono : ∀ a0 a1 a2 k, LeO (lexis_All.f k a0 a1 a2) (lexis_All.f (k + 1) a0 a1 a2) := by
  intro a0 a1 a2 k
  have m0 := @lexis_Span.mono
  unfold lexis_All.f
  exact xmo
set_option maxHeartbeats 8000000 in
set_option maxRecDepth 100000 in
theorem lexis_All.calls (k : Nat) (a0 : Int) (a1 : Bool) (a2 : ByteArray) (r : Bool) (w : World) (h : lexis_All.f k a0 a1 a2 = some r) :
    Calls Tryd.prog 33 #[.int .i64 a0, .bool a1, .string a2] w fun e w' => e = .returned (.bool r) ∧ Below w.heap.size w w' := by
 have HB := Aside0.mk (Below.refl w.heap.size w)
 have H : ((lexis_Span.f k a0 a1 a2).bind fun t157 => (some (t157 == (a2.size : Int)))) = some r := h
 clear h
 replace H := Option.bind_eq_some_iff.mp H
 obtain ⟨t157, A40, H⟩ := H
 try dsimp only at H
 have A4 := Aside0.mk A40
 clear A40
 obtain rfl := Option.some.inj H
 go_enter Tryd.func33, Tryd.ntmps33
 go_wp2_with (first | ((with_reducible refine gate_callee (f := 27) rfl ?_); refine xgl 10 Tryd.func27 #[.int .i64 a0, .bool a1, .string a2] ?_; (with_reducible refine (lexis_Span.calls k a0 a1 a2 t157 _ A4.out).mono ?_); rintro e w5 ⟨rfl, hb⟩; refine ⟨_, rfl, ?_⟩; replace HB := xst hb; (try clear hb)))
 go_ret
 exact ⟨xre, xbl⟩
def stringslite_Index.f (a0 : ByteArray) (a1 : ByteArray) : Option (Int) := if a0.size < 4294967281 then some (Go.Lib.index a0.data.toList a1.data.toList) else none
theorem stringslite_Index.calls (a0 : ByteArray) (a1 : ByteArray) (r : Int) (w : World) (hG : GW w) (h : stringslite_Index.f a0 a1 = some r) :
    Calls Tryd.prog 59 #[.string a0, .string a1] w fun e w' => e = .returned (.int .i64 r) ∧ Drawn0 w w' := by
  unfold stringslite_Index.f at h
  by_cases hs : a0.size < 4294967281
  · rw [if_pos hs] at h
    obtain rfl := Option.some.inj h
    obtain ⟨m, hm⟩ := hG.maxLen
    refine (Tryd.stringslite_Index a0 a1 m w hs hm).mono ?_
    rintro e w' ⟨rfl, rfl⟩
    exact ⟨rfl, Drawn0.refl _⟩
  · rw [if_neg hs] at h; cases h
def stringslite_Cut.f (a0 : ByteArray) (a1 : ByteArray) : Option (ByteArray × ByteArray × Bool) := (stringslite_Index.f a0 a1).bind fun t158 => (if t158 ≥ 0 then (if 0 ≤ t158 then (if t158 ≤ (a0.size : Int) then (if 0 ≤ (wrap64 (t158 + (a1.size : Int))) then (if (wrap64 (t158 + (a1.size : Int))) ≤ (a0.size : Int) then (some (a0.extract 0 (t158 : Int).toNat, a0.extract ((wrap64 (t158 + (a1.size : Int))) : Int).toNat a0.size, true)) else (none)) else (none)) else (none)) else (none)) else (some (a0, (⟨#[]⟩ : ByteArray), false)))
set_option maxHeartbeats 8000000 in
set_option maxRecDepth 100000 in
theorem stringslite_Cut.calls (a0 : ByteArray) (a1 : ByteArray) (r1 : ByteArray) (r2 : ByteArray) (r3 : Bool) (w : World) (hG : GW w) (h : stringslite_Cut.f a0 a1 = some (r1, r2, r3)) :
    Calls Tryd.prog 56 #[.string a0, .string a1] w fun e w' => e = .returned (.tuple #[.string r1, .string r2, .bool r3]) ∧ Drawn0 w w' := by
 have H : ((stringslite_Index.f a0 a1).bind fun t158 => (if t158 ≥ 0 then (if 0 ≤ t158 then (if t158 ≤ (a0.size : Int) then (if 0 ≤ (wrap64 (t158 + (a1.size : Int))) then (if (wrap64 (t158 + (a1.size : Int))) ≤ (a0.size : Int) then (some (a0.extract 0 (t158 : Int).toNat, a0.extract ((wrap64 (t158 + (a1.size : Int))) : Int).toNat a0.size, true)) else (none)) else (none)) else (none)) else (none)) else (some (a0, (⟨#[]⟩ : ByteArray), false)))) = some (r1, r2, r3) := h
 clear h
 replace H := Option.bind_eq_some_iff.mp H
 obtain ⟨t158, A30, H⟩ := H
 try dsimp only at H
 have A3 := Aside0.mk A30
 clear A30
 by_cases c4 : t158 ≥ 0
 ·
  rw [if_pos c4] at H
  have c4b0 := decide_eq_true c4
  clear c4
  by_cases c5 : 0 ≤ t158
  ·
   rw [if_pos c5] at H
   have c5b0 := eq_true c5
   have c5b1 := decide_eq_true c5
   clear c5
   by_cases c6 : t158 ≤ (a0.size : Int)
   ·
    rw [if_pos c6] at H
    have c6b0 := eq_true c6
    have c6b1 := decide_eq_true c6
    clear c6
    obtain ⟨ji7, hji7⟩ : ∃ j_ : ByteArray, (a0.extract 0 (t158 : Int).toNat) = j_ := ⟨_, rfl⟩
    try (have hji7x := hji7; simp only [Int.toNat_natCast] at hji7x)
    first | rw [hji7] at H | simp only [hji7] at H | skip
    (try rw [hji7] at A3)
    obtain ⟨ji8, hji8⟩ : ∃ j_ : Int, (wrap64 (t158 + (a1.size : Int))) = j_ := ⟨_, rfl⟩
    first | rw [hji8] at H | simp only [hji8] at H | skip
    (try rw [hji8] at A3)
    have hji8w : (IntKind.i64.wrap (t158 + (a1.size : Int))) = ji8 := (i64_w _).trans hji8
    by_cases c9 : 0 ≤ (ji8)
    ·
     rw [if_pos c9] at H
     have c9b0 := eq_true c9
     have c9b1 := decide_eq_true c9
     clear c9
     by_cases c10 : (ji8) ≤ (a0.size : Int)
     ·
      rw [if_pos c10] at H
      have c10b0 := eq_true c10
      have c10b1 := decide_eq_true c10
      clear c10
      obtain ⟨ji11, hji11⟩ : ∃ j_ : ByteArray, (a0.extract ((ji8) : Int).toNat a0.size) = j_ := ⟨_, rfl⟩
      try (have hji11x := hji11; simp only [Int.toNat_natCast] at hji11x)
      first | rw [hji11] at H | simp only [hji11] at H | skip
      (try rw [hji11] at A3)
      simp only [Option.some.injEq, Prod.mk.injEq] at H
      obtain ⟨rfl, rfl, rfl⟩ := H
      go_enter Tryd.func56, Tryd.ntmps56
      go_wp2_with (first | (go_at_call 59; (with_reducible refine (stringslite_Index.calls a0 a1 t158 _ ?side1 A3.out).mono ?_); (case side1 => first | (with_reducible exact hG) | exact GW_dr hG (by repeat (first | exact Drawn0.refl _ | apply Drawn0.step))); rintro e w' ⟨rfl, ⟨nd, rfl⟩⟩; (try first | exact ⟨rfl, _, World.drewN_drewN _ _ _⟩ | exact ⟨rfl, _, Eq.trans (World.drewN_drewN _ _ _) (congrArg (World.drewN _) (Nat.add_assoc _ _ _))⟩)))
      repeat (go_quiet (first | (go_at_call 59; (with_reducible refine (stringslite_Index.calls a0 a1 t158 _ ?side1 A3.out).mono ?_); (case side1 => first | (with_reducible exact hG) | exact GW_dr hG (by repeat (first | exact Drawn0.refl _ | apply Drawn0.step))); rintro e w' ⟨rfl, ⟨nd, rfl⟩⟩; (try first | exact ⟨rfl, _, World.drewN_drewN _ _ _⟩ | exact ⟨rfl, _, Eq.trans (World.drewN_drewN _ _ _) (congrArg (World.drewN _) (Nat.add_assoc _ _ _))⟩))); try go_wp2_with (first | (go_at_call 59; (with_reducible refine (stringslite_Index.calls a0 a1 t158 _ ?side1 A3.out).mono ?_); (case side1 => first | (with_reducible exact hG) | exact GW_dr hG (by repeat (first | exact Drawn0.refl _ | apply Drawn0.step))); rintro e w' ⟨rfl, ⟨nd, rfl⟩⟩; (try first | exact ⟨rfl, _, World.drewN_drewN _ _ _⟩ | exact ⟨rfl, _, Eq.trans (World.drewN_drewN _ _ _) (congrArg (World.drewN _) (Nat.add_assoc _ _ _))⟩))))
      go_ret3
      exact ⟨by first | rfl | (simp; done) | (simp only [← hji7, ← hji8, ← hji11] <;> (first | rfl | simp)) | (simp [*]; done) | (simp [wrap64]; done), xdr⟩
     ·
      rw [if_neg c10] at H
      exact absurd H (by simp)
    ·
     rw [if_neg c9] at H
     exact absurd H (by simp)
   ·
    rw [if_neg c6] at H
    exact absurd H (by simp)
  ·
   rw [if_neg c5] at H
   exact absurd H (by simp)
 ·
  rw [if_neg c4] at H
  have c4b0 := decide_eq_false c4
  clear c4
  simp only [Option.some.injEq, Prod.mk.injEq] at H
  obtain ⟨rfl, rfl, rfl⟩ := H
  go_enter Tryd.func56, Tryd.ntmps56
  go_wp2_with (first | (go_at_call 59; (with_reducible refine (stringslite_Index.calls a0 a1 t158 _ ?side1 A3.out).mono ?_); (case side1 => first | (with_reducible exact hG) | exact GW_dr hG (by repeat (first | exact Drawn0.refl _ | apply Drawn0.step))); rintro e w' ⟨rfl, ⟨nd, rfl⟩⟩; (try first | exact ⟨rfl, _, World.drewN_drewN _ _ _⟩ | exact ⟨rfl, _, Eq.trans (World.drewN_drewN _ _ _) (congrArg (World.drewN _) (Nat.add_assoc _ _ _))⟩)))
  repeat (go_quiet (first | (go_at_call 59; (with_reducible refine (stringslite_Index.calls a0 a1 t158 _ ?side1 A3.out).mono ?_); (case side1 => first | (with_reducible exact hG) | exact GW_dr hG (by repeat (first | exact Drawn0.refl _ | apply Drawn0.step))); rintro e w' ⟨rfl, ⟨nd, rfl⟩⟩; (try first | exact ⟨rfl, _, World.drewN_drewN _ _ _⟩ | exact ⟨rfl, _, Eq.trans (World.drewN_drewN _ _ _) (congrArg (World.drewN _) (Nat.add_assoc _ _ _))⟩))); try go_wp2_with (first | (go_at_call 59; (with_reducible refine (stringslite_Index.calls a0 a1 t158 _ ?side1 A3.out).mono ?_); (case side1 => first | (with_reducible exact hG) | exact GW_dr hG (by repeat (first | exact Drawn0.refl _ | apply Drawn0.step))); rintro e w' ⟨rfl, ⟨nd, rfl⟩⟩; (try first | exact ⟨rfl, _, World.drewN_drewN _ _ _⟩ | exact ⟨rfl, _, Eq.trans (World.drewN_drewN _ _ _) (congrArg (World.drewN _) (Nat.add_assoc _ _ _))⟩))))
  go_ret3
  exact ⟨xrr, xdr⟩
def strings_Cut.f (a0 : ByteArray) (a1 : ByteArray) : Option (ByteArray × ByteArray × Bool) := (stringslite_Cut.f a0 a1).bind fun bt159 => (some (bt159.1, bt159.2.1, bt159.2.2))
set_option maxHeartbeats 8000000 in
set_option maxRecDepth 100000 in
theorem strings_Cut.calls (a0 : ByteArray) (a1 : ByteArray) (r1 : ByteArray) (r2 : ByteArray) (r3 : Bool) (w : World) (hG : GW w) (h : strings_Cut.f a0 a1 = some (r1, r2, r3)) :
    Calls Tryd.prog 50 #[.string a0, .string a1] w fun e w' => e = .returned (.tuple #[.string r1, .string r2, .bool r3]) ∧ Drawn0 w w' := by
 have H : ((stringslite_Cut.f a0 a1).bind fun bt159 => (some (bt159.1, bt159.2.1, bt159.2.2))) = some (r1, r2, r3) := h
 clear h
 replace H := Option.bind_eq_some_iff.mp H
 obtain ⟨⟨t159, t160, t161⟩, A30, H⟩ := H
 try dsimp only at H
 have A3 := Aside0.mk A30
 clear A30
 simp only [Option.some.injEq, Prod.mk.injEq] at H
 obtain ⟨rfl, rfl, rfl⟩ := H
 go_enter Tryd.func50, Tryd.ntmps50
 go_wp2_with (first | ((with_reducible refine gate_callee (f := 56) rfl ?_); refine xgl 9 Tryd.func56 #[.string a0, .string a1] ?_; (with_reducible refine (stringslite_Cut.calls a0 a1 t159 t160 t161 _ ?side1 A3.out).mono ?_); (case side1 => first | (with_reducible exact hG) | exact GW_dr hG (by repeat (first | exact Drawn0.refl _ | apply Drawn0.step))); rintro e w' ⟨rfl, ⟨nd, rfl⟩⟩; refine ⟨_, rfl, ?_⟩))
 go_ret3
 exact ⟨xrr, xdr⟩
def strings_Split.f (a0 : ByteArray) (a1 : ByteArray) : Option (List ByteArray) := if a0.size < 4294967281 ∧ 1 ≤ a1.size then some (Go.Lib.splitB a1 0 (Go.Lib.countB a0 a1) a0) else none
theorem strings_Split.calls (a0 : ByteArray) (a1 : ByteArray) (r : List ByteArray) (w : World) (hG : GW w) (h : strings_Split.f a0 a1 = some r) :
    Calls Tryd.prog 52 #[.string a0, .string a1] w fun e w' => ∃ v0_ : Value, e = .returned (v0_) ∧ Kd.R Kd.string 9 w' w.heap.size (fun _ => True) v0_ r ∧ Below w.heap.size w w' := by
  unfold strings_Split.f at h
  by_cases hs : a0.size < 4294967281 ∧ 1 ≤ a1.size
  · rw [if_pos hs] at h
    obtain rfl := Option.some.inj h
    obtain ⟨m, hm⟩ := hG.maxLen
    refine (Tryd.strings_Split a0 a1 m w hs.1 hm hs.2).mono ?_
    rintro e w' ⟨rfl, rfl⟩
    have hl := Go.Lib.splitB_all a1 hs.2 0 _ a0 rfl
    have hc := Go.Lib.countB_le a1 hs.2 a0.size a0 (Nat.le_refl _)
    refine ⟨_, rfl, ?_, (Below.refl _ _).alloc (Nat.le_refl _) _⟩
    refine Kd.R_of_own ⟨by simp [encs], .inr ⟨w.heap.size, _, _, by rw [hl], Nat.le_refl _, heap_alloc_new _ _, by rw [hl]; exact Nat.le_refl _, ?_, ?_, ?_⟩⟩ (fun _ _ => trivial)
    · have : maxLen = 9223372036854775807 := rfl
      omega
    · simp [hl]
    · simp only [encs, Nat.mul_one, List.toList_toArray]
      exact List.take_of_length_le (by simp)
  · rw [if_neg hs] at h; cases h
mutual
def ip_decimal.j0 : Nat → ByteArray → Bool → Option (Int × Bool)
  | 0, _, _ => none
  | k + 1, x0, x23 => if x23 = true then (some (0, false)) else (ip_decimal.l0 k x0 0 (x0.size : Int) 0)
def ip_decimal.l0 : Nat → ByteArray → Int → Int → Int → Option (Int × Bool)
  | 0, _, _, _, _ => none
  | k + 1, x0, x4, x25, x26 => if x26 < x25 then (if 0 ≤ x26 then (if x26 < (x0.size : Int) then ((octet_Is.f k (bt x0 x26) 2).bind fun t162 => (if t162 = true then (ip_decimal.l0 k x0 (wrap64 ((wrap64 (10 * x4)) + (((bt x0 x26) - 48) % 256))) x25 (wrap64 (x26 + 1))) else (some (0, false)))) else (none)) else (none)) else (some ((x4) % 256, decide (x4 ≤ 255)))
end
def ip_decimal.f (k : Nat) (a0 : ByteArray) : Option (Int × Bool) := if (a0.size : Int) = 0 then (ip_decimal.j0 k a0 true) else (if (a0.size : Int) > 3 then (ip_decimal.j0 k a0 true) else (if (a0.size : Int) > 1 then (if 0 < (a0.size : Int) then (ip_decimal.j0 k a0 ((bt a0 0) == 48)) else (none)) else (ip_decimal.j0 k a0 false)))
theorem ip_decimal.mono_l : ∀ k, (∀ y0 y1, LeO (ip_decimal.j0 k y0 y1) (ip_decimal.j0 (k + 1) y0 y1)) ∧ (∀ y0 y1 y2 y3, LeO (ip_decimal.l0 k y0 y1 y2 y3) (ip_decimal.l0 (k + 1) y0 y1 y2 y3))
  | 0 => ⟨fun _ _ r h => by simp [ip_decimal.j0] at h, fun _ _ _ _ r h => by simp [ip_decimal.l0] at h⟩
  | k + 1 => by
    obtain ⟨ih0, ih1⟩ := ip_decimal.mono_l k
    have m0 := @octet_Is.mono
    refine ⟨?_, ?_⟩
    · intro y0 y1
      unfold ip_decimal.j0
      exact xmo
    · intro y0 y1 y2 y3
      unfold ip_decimal.l0
      exact xmo
theorem ip_decimal.mono : ∀ a0 k, LeO (ip_decimal.f k a0) (ip_decimal.f (k + 1) a0) := by
  intro a0 k
  obtain ⟨ih0, ih1⟩ := ip_decimal.mono_l k
  have m0 := @octet_Is.mono
  unfold ip_decimal.f
  exact xmo
set_option maxHeartbeats 8000000 in
set_option maxRecDepth 100000 in
theorem ip_decimal.calls (k : Nat) (a0 : ByteArray) (r1 : Int) (r2 : Bool) (w : World) (h : ip_decimal.f k a0 = some (r1, r2)) :
    Calls Tryd.prog 53 #[.string a0] w fun e w' => e = .returned (.tuple #[.int .u8 r1, .bool r2]) ∧ Drawn0 w w' := by
 have H : (if (a0.size : Int) = 0 then (ip_decimal.j0 k a0 true) else (if (a0.size : Int) > 3 then (ip_decimal.j0 k a0 true) else (if (a0.size : Int) > 1 then (if 0 < (a0.size : Int) then (ip_decimal.j0 k a0 ((bt a0 0) == 48)) else (none)) else (ip_decimal.j0 k a0 false)))) = some (r1, r2) := h
 clear h
 have HC2 := Aside0.mk H
 clear H
 go_enter Tryd.func53, Tryd.ntmps53
 go_upto_region 1 with (fail)
 go_cut [23] (fun v23 wc => ∃ (kq : Nat) (x23_1 : Bool), v23 = .bool x23_1 ∧ Aside0 (ip_decimal.j0 kq a0 x23_1 = some (r1, r2)) ∧ Aside0 (kq ≤ k) ∧ Drawn0 w wc)
 case first =>
  have H := HC2.out
  clear HC2
  by_cases c3 : (a0.size : Int) = 0
  ·
   rw [if_pos c3] at H
   have c3b0 : ((a0.size : Int) == 0) = true := beq_iff_eq.mpr c3
   have c3b1 : ((a0.size : Int) != 0) = false := bne_eq_false_iff_eq.mpr c3
   clear c3
   (first | rw [c3b0] | (simp only [i64_w, i32_w]; rw [c3b0]) | (rw [c3b2]; (try simp only [Bool.not_false, Bool.not_true])) | (rw [c3b3]; (try simp only [Bool.not_false, Bool.not_true])) | skip)
   have H' := Aside0.mk H
   clear H
   go_wp2
   go_meet
   case rel => exact ⟨_, (true), xrr, H', ⟨xom⟩, xdr⟩
  ·
   rw [if_neg c3] at H
   have c3b0 : ((a0.size : Int) == 0) = false := beq_eq_false_iff_ne.mpr c3
   have c3b1 : ((a0.size : Int) != 0) = true := bne_iff_ne.mpr c3
   (first | rw [c3b0] | (simp only [i64_w, i32_w]; rw [c3b0]) | (rw [c3b2]; (try simp only [Bool.not_false, Bool.not_true])) | (rw [c3b3]; (try simp only [Bool.not_false, Bool.not_true])) | skip)
   by_cases c4 : (a0.size : Int) > 3
   ·
    rw [if_pos c4] at H
    have c4b0 := decide_eq_true c4
    have c4b1 : decide (3 < a0.size) = true := decide_eq_true (by omega)
    clear c4
    have H' := Aside0.mk H
    clear H
    go_wp2
    go_meet
    case rel => exact ⟨_, (true), xrr, H', ⟨xom⟩, xdr⟩
   ·
    rw [if_neg c4] at H
    have c4b0 := decide_eq_false c4
    have c4b1 : decide (3 < a0.size) = false := decide_eq_false (by omega)
    clear c4
    by_cases c5 : (a0.size : Int) > 1
    ·
     rw [if_pos c5] at H
     have c5b0 := decide_eq_true c5
     have c5b1 : decide (1 < a0.size) = true := decide_eq_true (by omega)
     clear c5
     by_cases c6 : 0 < (a0.size : Int)
     ·
      rw [if_pos c6] at H
      have c6b0 := decide_eq_true c6
      have c6b1 : decide (0 < a0.size) = true := decide_eq_true (by omega)
      clear c6
      have H' := Aside0.mk H
      clear H
      have p7 : 0 ≤ (0 : Int) := (by omega)
      have q7 : 0 < a0.size := (by have : (0 : Int) < (a0.size : Int) := xod; omega)
      have hx7 : ∀ h : 0 < a0.size, ((a0[0]'h).toNat : Int) = bt a0 0 := bt_at a0 0
      clear p7
      have qi7 : (0 < (a0.size : Int)) = True := eq_true (xod)
      replace q7 := eq_true q7
      try (have q7x := q7; simp only [ByteArray.size_extract, Nat.min_self] at q7x)
      go_wp2
      go_meet
      case rel => exact ⟨_, (((bt a0 0) == 48)), xrr, H', ⟨xom⟩, xdr⟩
     ·
      rw [if_neg c6] at H
      exact absurd H (by simp)
    ·
     rw [if_neg c5] at H
     have c5b0 := decide_eq_false c5
     have c5b1 : decide (1 < a0.size) = false := decide_eq_false (by omega)
     clear c5
     have H' := Aside0.mk H
     clear H
     go_wp2
     go_meet
     case rel => exact ⟨_, (false), xrr, H', ⟨xom⟩, xdr⟩
 case rest =>
  clear HC2
  obtain ⟨kq, x23_1, rfl, HA, HJ1, ⟨mc1, rfl⟩⟩ := hcut
  cases kq with
  | zero => exact absurd HA.out (by simp [ip_decimal.j0])
  | succ kj1 =>
   have H := HA.out
   clear HA
   simp only [ip_decimal.j0] at H
   by_cases c8 : x23_1 = true
   ·
    subst c8
    rw [if_pos rfl] at H
    simp only [Option.some.injEq, Prod.mk.injEq] at H
    obtain ⟨rfl, rfl⟩ := H
    go_wp2
    go_ret2
    exact ⟨xrr, xdr⟩
   ·
    replace c8 := Bool.eq_false_iff.mpr c8
    subst c8
    rw [if_neg (show ¬ (false = true) by decide)] at H
    have H' := Aside0.mk H
    clear H
    go_wp2
    go_loopg [4, 26] kj1 (fun kq v4 v26 w' => ∃ (x4_2 : Int) (x26_2 : Int), v4 = .int .i64 x4_2 ∧ v26 = .int .i64 x26_2 ∧ Aside0 (ip_decimal.l0 kq a0 x4_2 (a0.size : Int) x26_2 = some (r1, r2)) ∧ Aside0 (kq ≤ kj1) ∧ Drawn0 w w')
    case atStart => exact ⟨(0), (0), xrr, xrr, H', ⟨Nat.le_refl _⟩, xdr⟩
    case round =>
     clear H'
     obtain ⟨x4_2, x26_2, rfl, rfl, HA, HK2, ⟨m2, rfl⟩⟩ := hrel
     cases gk with
     | zero => exact absurd HA.out (by simp [ip_decimal.l0])
     | succ k2 =>
      have H := HA.out
      clear HA
      simp only [ip_decimal.l0] at H
      by_cases c9 : x26_2 < (a0.size : Int)
      ·
       rw [if_pos c9] at H
       have c9b0 := decide_eq_true c9
       clear c9
       by_cases c10 : 0 ≤ x26_2
       ·
        rw [if_pos c10] at H
        have c10b0 := decide_eq_true c10
        clear c10
        by_cases c11 : x26_2 < (a0.size : Int)
        ·
         rw [if_pos c11] at H
         have c11b0 := decide_eq_true c11
         clear c11
         replace H := Option.bind_eq_some_iff.mp H
         obtain ⟨t162, A130, H⟩ := H
         try dsimp only at H
         have A13 := Aside0.mk A130
         clear A130
         by_cases c14 : t162 = true
         ·
          subst c14
          rw [if_pos rfl] at H
          have H' := Aside0.mk H
          clear H
          have p12 : 0 ≤ (x26_2 : Int) := xod
          have q12 : x26_2 < (a0.size : Int) := xod
          have hx12 := bt_at a0 x26_2
          replace p12 := eq_true p12
          replace q12 := eq_true q12
          try (have q12x := q12; simp only [ByteArray.size_extract, Nat.min_self] at q12x)
          go_wp2_with (first | ((with_reducible refine gate_callee (f := 24) rfl ?_); refine xgl 32 Tryd.func24 #[.int .u8 (bt a0 x26_2), .int .i64 2] ?_; (with_reducible refine (octet_Is.calls k2 (bt a0 x26_2) 2 true _ A13.out).mono ?_); rintro e w' ⟨rfl, ⟨nd, rfl⟩⟩; refine ⟨_, rfl, ?_⟩; have p15 : 0 ≤ (x26_2 : Int) := xod; have q15 : x26_2 < (a0.size : Int) := xod; have hx15 := bt_at a0 x26_2; replace p15 := eq_true p15; replace q15 := eq_true q15))
          go_roundg k2
          case measure => have := HJ1.out; have := HK2.out; omega
          case rel => exact ⟨(wrap64 ((wrap64 (10 * x4_2)) + (((bt a0 x26_2) - 48) % 256))), (wrap64 (x26_2 + 1)), xrr, xrr, H', ⟨by have := HJ1.out; have := HK2.out; omega⟩, xdr⟩
         ·
          replace c14 := Bool.eq_false_iff.mpr c14
          subst c14
          rw [if_neg (show ¬ (false = true) by decide)] at H
          simp only [Option.some.injEq, Prod.mk.injEq] at H
          obtain ⟨rfl, rfl⟩ := H
          have p12 : 0 ≤ (x26_2 : Int) := xod
          have q12 : x26_2 < (a0.size : Int) := xod
          have hx12 := bt_at a0 x26_2
          replace p12 := eq_true p12
          replace q12 := eq_true q12
          try (have q12x := q12; simp only [ByteArray.size_extract, Nat.min_self] at q12x)
          go_wp2_with (first | ((with_reducible refine gate_callee (f := 24) rfl ?_); refine xgl 32 Tryd.func24 #[.int .u8 (bt a0 x26_2), .int .i64 2] ?_; (with_reducible refine (octet_Is.calls k2 (bt a0 x26_2) 2 false _ A13.out).mono ?_); rintro e w' ⟨rfl, ⟨nd, rfl⟩⟩; refine ⟨_, rfl, ?_⟩))
          go_ret2
          exact ⟨xrr, xdr⟩
        ·
         rw [if_neg c11] at H
         exact absurd H (by simp)
       ·
        rw [if_neg c10] at H
        exact absurd H (by simp)
      ·
       rw [if_neg c9] at H
       have c9b0 := decide_eq_false c9
       clear c9
       simp only [Option.some.injEq, Prod.mk.injEq] at H
       obtain ⟨rfl, rfl⟩ := H
       go_wp2
       go_ret2
       exact ⟨xrr, xdr⟩
end Go.Proofs.YtpmflpeckoeooaaDoor.X
