/- Texts that the law's proof needs, joined by a program of this session. -/
import Derived.Test.YticohlbfolnmpaaDoorZIpReads1
import Derived.Test.YticohlbfolnmpaaDoorZIpReads8
namespace Go.Proofs.YticohlbfolnmpaaDoor.X
open Go.RowKit Go.Proofs.YticohlbfolnmpaaDoorW.PrintWords Go.Proofs.YticohlbfolnmpaaDoorW.PrintLast Go.Proofs.YticohlbfolnmpaaDoorW.PrintMore
attribute [local go_sem] max2_int min2_int max_two min_two max_three min_three max_four min_four
set_option linter.unusedVariables false
set_option linter.unusedSimpArgs false
mutual
def monikerref01_Class.j0 : Nat → Int → Int → Option (Int)
  | 0, _, _ => none
  | k + 1, x0, x3 => (monikerref01_In.f k x0 (⟨#[48, 49, 50, 51, 52, 53, 54, 55, 56, 57]⟩ : ByteArray)).bind fun t273 => (if t273 = true then (monikerref01_Class.j1 k x0 (wrap64 (x3 + 2))) else (monikerref01_Class.j1 k x0 x3))
def monikerref01_Class.j1 : Nat → Int → Int → Option (Int)
  | 0, _, _ => none
  | k + 1, x0, x3 => (monikerref01_In.f k x0 (⟨#[45, 46, 95, 126]⟩ : ByteArray)).bind fun t274 => (if t274 = true then (monikerref01_Class.j2 k x0 (wrap64 (x3 + 4))) else (monikerref01_Class.j2 k x0 x3))
def monikerref01_Class.j2 : Nat → Int → Int → Option (Int)
  | 0, _, _ => none
  | k + 1, x0, x3 => (monikerref01_In.f k x0 (⟨#[33, 36, 38, 39, 40, 41, 42, 43, 44, 59, 61]⟩ : ByteArray)).bind fun t275 => (if t275 = true then (monikerref01_Class.j3 k x0 (wrap64 (x3 + 8))) else (monikerref01_Class.j3 k x0 x3))
def monikerref01_Class.j3 : Nat → Int → Int → Option (Int)
  | 0, _, _ => none
  | k + 1, x0, x3 => (monikerref01_In.f k x0 (⟨#[58, 47, 63, 35, 91, 93, 64]⟩ : ByteArray)).bind fun t276 => (if t276 = true then ((monikerref01_In.f k x0 (⟨#[48, 49, 50, 51, 52, 53, 54, 55, 56, 57, 65, 66, 67, 68, 69, 70, 97, 98, 99, 100, 101, 102]⟩ : ByteArray)).bind fun t277 => (if t277 = true then (some (wrap64 ((wrap64 (x3 + 16)) + 32))) else (some (wrap64 (x3 + 16))))) else ((monikerref01_In.f k x0 (⟨#[48, 49, 50, 51, 52, 53, 54, 55, 56, 57, 65, 66, 67, 68, 69, 70, 97, 98, 99, 100, 101, 102]⟩ : ByteArray)).bind fun t278 => (if t278 = true then (some (wrap64 (x3 + 32))) else (some x3))))
end
def monikerref01_Class.f (k : Nat) (a0 : Int) : Option (Int) := (monikerref01_In.f k a0 (⟨#[65, 66, 67, 68, 69, 70, 71, 72, 73, 74, 75, 76, 77, 78, 79, 80, 81, 82, 83, 84, 85, 86, 87, 88, 89, 90, 97, 98, 99, 100, 101, 102, 103, 104, 105, 106, 107, 108, 109, 110, 111, 112, 113, 114, 115, 116, 117, 118, 119, 120, 121, 122]⟩ : ByteArray)).bind fun t272 => (if t272 = true then (monikerref01_Class.j0 k a0 (0 + 1)) else (monikerref01_Class.j0 k a0 0))
theorem monikerref01_Class.mono_l : ∀ k, (∀ y0 y1, LeO (monikerref01_Class.j0 k y0 y1) (monikerref01_Class.j0 (k + 1) y0 y1)) ∧ (∀ y0 y1, LeO (monikerref01_Class.j1 k y0 y1) (monikerref01_Class.j1 (k + 1) y0 y1)) ∧ (∀ y0 y1, LeO (monikerref01_Class.j2 k y0 y1) (monikerref01_Class.j2 (k + 1) y0 y1)) ∧ (∀ y0 y1, LeO (monikerref01_Class.j3 k y0 y1) (monikerref01_Class.j3 (k + 1) y0 y1))
  | 0 => ⟨fun _ _ r h => by simp [monikerref01_Class.j0] at h, fun _ _ r h => by simp [monikerref01_Class.j1] at h, fun _ _ r h => by simp [monikerref01_Class.j2] at h, fun _ _ r h => by simp [monikerref01_Class.j3] at h⟩
  | k + 1 => by
    obtain ⟨ih0, ih1, ih2, ih3⟩ := monikerref01_Class.mono_l k
    have m0 := @monikerref01_In.mono
    refine ⟨?_, ?_, ?_, ?_⟩
    · intro y0 y1
      unfold monikerref01_Class.j0
      exact xmo
    · intro y0 y1
      unfold monikerref01_Class.j1
      exact xmo
    · intro y0 y1
      unfold monikerref01_Class.j2
      exact xmo
    · intro y0 y1
      unfold monikerref01_Class.j3
      exact xmo
theorem monikerref01_Class.mono : ∀ a0 k, LeO (monikerref01_Class.f k a0) (monikerref01_Class.f (k + 1) a0) := by
  intro a0 k
  obtain ⟨ih0, ih1, ih2, ih3⟩ := monikerref01_Class.mono_l k
  have m0 := @monikerref01_In.mono
  unfold monikerref01_Class.f
  exact xmo
set_option maxHeartbeats 8000000 in
set_option maxRecDepth 100000 in
theorem monikerref01_Class.calls (k : Nat) (a0 : Int) (r : Int) (w : World) (h : monikerref01_Class.f k a0 = some r) :
    Calls Tryd.prog 30 #[.int .u8 a0] w fun e w' => e = .returned (.int .i64 r) ∧ Drawn0 w w' := by
 have H : ((monikerref01_In.f k a0 (⟨#[65, 66, 67, 68, 69, 70, 71, 72, 73, 74, 75, 76, 77, 78, 79, 80, 81, 82, 83, 84, 85, 86, 87, 88, 89, 90, 97, 98, 99, 100, 101, 102, 103, 104, 105, 106, 107, 108, 109, 110, 111, 112, 113, 114, 115, 116, 117, 118, 119, 120, 121, 122]⟩ : ByteArray)).bind fun t272 => (if t272 = true then (monikerref01_Class.j0 k a0 (0 + 1)) else (monikerref01_Class.j0 k a0 0))) = some r := h
 clear h
 replace H := Option.bind_eq_some_iff.mp H
 obtain ⟨t272, A20, H⟩ := H
 try dsimp only at H
 have A2 := Aside0.mk A20
 clear A20
 have HC3 := Aside0.mk H
 clear H
 go_enter Tryd.func30, Tryd.ntmps30
 go_upto_if 5 with (first | ((with_reducible refine gate_callee (f := 26) rfl ?_); refine xgl 5 Tryd.func26 #[.int .u8 a0, .string (⟨#[65, 66, 67, 68, 69, 70, 71, 72, 73, 74, 75, 76, 77, 78, 79, 80, 81, 82, 83, 84, 85, 86, 87, 88, 89, 90, 97, 98, 99, 100, 101, 102, 103, 104, 105, 106, 107, 108, 109, 110, 111, 112, 113, 114, 115, 116, 117, 118, 119, 120, 121, 122]⟩ : ByteArray)] ?_; (with_reducible refine (monikerref01_In.calls k a0 (⟨#[65, 66, 67, 68, 69, 70, 71, 72, 73, 74, 75, 76, 77, 78, 79, 80, 81, 82, 83, 84, 85, 86, 87, 88, 89, 90, 97, 98, 99, 100, 101, 102, 103, 104, 105, 106, 107, 108, 109, 110, 111, 112, 113, 114, 115, 116, 117, 118, 119, 120, 121, 122]⟩ : ByteArray) t272 _ A2.out).mono ?_); rintro e w' ⟨rfl, ⟨nd, rfl⟩⟩; refine ⟨_, rfl, ?_⟩))
 (try simp only [Act.put, List.setIfInBounds_toArray, List.set_cons_zero, List.set_cons_succ])
 go_cut [3] (fun v3 wc => ∃ (kq : Nat) (x3_2 : Int), v3 = .int .i64 x3_2 ∧ Aside0 (monikerref01_Class.j0 kq a0 x3_2 = some r) ∧ Aside0 (kq ≤ k) ∧ Drawn0 w wc)
 case first =>
  have H := HC3.out
  clear HC3
  by_cases c4 : t272 = true
  ·
   subst c4
   rw [if_pos rfl] at H
   have H' := Aside0.mk H
   clear H
   go_wp2
   go_meet
   case rel => exact ⟨_, (0 + 1), xrr, H', ⟨xom⟩, xdr⟩
  ·
   replace c4 := Bool.eq_false_iff.mpr c4
   subst c4
   rw [if_neg (show ¬ (false = true) by decide)] at H
   have H' := Aside0.mk H
   clear H
   go_wp2
   go_meet
   case rel => exact ⟨_, (0), xrr, H', ⟨xom⟩, xdr⟩
 case rest =>
  clear HC3
  obtain ⟨kq, x3_2, rfl, HA, HJ2, ⟨mc2, rfl⟩⟩ := hcut
  cases kq with
  | zero => exact absurd HA.out (by simp [monikerref01_Class.j0])
  | succ kj2 =>
   have H := HA.out
   clear HA
   simp only [monikerref01_Class.j0] at H
   replace H := Option.bind_eq_some_iff.mp H
   obtain ⟨t273, A50, H⟩ := H
   try dsimp only at H
   have A5 := Aside0.mk A50
   clear A50
   have HC6 := Aside0.mk H
   clear H
   go_upto_if 9 with (first | ((with_reducible refine gate_callee (f := 26) rfl ?_); refine xgl 9 Tryd.func26 #[.int .u8 a0, .string (⟨#[48, 49, 50, 51, 52, 53, 54, 55, 56, 57]⟩ : ByteArray)] ?_; (with_reducible refine (monikerref01_In.calls kj2 a0 (⟨#[48, 49, 50, 51, 52, 53, 54, 55, 56, 57]⟩ : ByteArray) t273 _ A5.out).mono ?_); rintro e w' ⟨rfl, ⟨nd, rfl⟩⟩; refine ⟨_, rfl, ?_⟩))
   (try simp only [Act.put, List.setIfInBounds_toArray, List.set_cons_zero, List.set_cons_succ])
   go_cut [3] (fun v3 wc => ∃ (kq : Nat) (x3_5 : Int), v3 = .int .i64 x3_5 ∧ Aside0 (monikerref01_Class.j1 kq a0 x3_5 = some r) ∧ Aside0 (kq ≤ kj2) ∧ Drawn0 w wc)
   case first =>
    have H := HC6.out
    clear HC6
    by_cases c7 : t273 = true
    ·
     subst c7
     rw [if_pos rfl] at H
     have H' := Aside0.mk H
     clear H
     go_wp2
     go_meet
     case rel => exact ⟨_, (wrap64 (x3_2 + 2)), xrr, H', ⟨by have := HJ2.out; first | omega | exact Nat.le_refl _⟩, xdr⟩
    ·
     replace c7 := Bool.eq_false_iff.mpr c7
     subst c7
     rw [if_neg (show ¬ (false = true) by decide)] at H
     have H' := Aside0.mk H
     clear H
     go_wp2
     go_meet
     case rel => exact ⟨_, (x3_2), xrr, H', ⟨by have := HJ2.out; first | omega | exact Nat.le_refl _⟩, xdr⟩
   case rest =>
    clear HC6
    obtain ⟨kq, x3_5, rfl, HA, HJ5, ⟨mc5, rfl⟩⟩ := hcut
    cases kq with
    | zero => exact absurd HA.out (by simp [monikerref01_Class.j1])
    | succ kj5 =>
     have H := HA.out
     clear HA
     simp only [monikerref01_Class.j1] at H
     replace H := Option.bind_eq_some_iff.mp H
     obtain ⟨t274, A80, H⟩ := H
     try dsimp only at H
     have A8 := Aside0.mk A80
     clear A80
     have HC9 := Aside0.mk H
     clear H
     go_upto_if 13 with (first | ((with_reducible refine gate_callee (f := 26) rfl ?_); refine xgl 13 Tryd.func26 #[.int .u8 a0, .string (⟨#[45, 46, 95, 126]⟩ : ByteArray)] ?_; (with_reducible refine (monikerref01_In.calls kj5 a0 (⟨#[45, 46, 95, 126]⟩ : ByteArray) t274 _ A8.out).mono ?_); rintro e w' ⟨rfl, ⟨nd, rfl⟩⟩; refine ⟨_, rfl, ?_⟩))
     (try simp only [Act.put, List.setIfInBounds_toArray, List.set_cons_zero, List.set_cons_succ])
     go_cut [3] (fun v3 wc => ∃ (kq : Nat) (x3_8 : Int), v3 = .int .i64 x3_8 ∧ Aside0 (monikerref01_Class.j2 kq a0 x3_8 = some r) ∧ Aside0 (kq ≤ kj5) ∧ Drawn0 w wc)
     case first =>
      have H := HC9.out
      clear HC9
      by_cases c10 : t274 = true
      ·
       subst c10
       rw [if_pos rfl] at H
       have H' := Aside0.mk H
       clear H
       go_wp2
       go_meet
       case rel => exact ⟨_, (wrap64 (x3_5 + 4)), xrr, H', ⟨by have := HJ2.out; have := HJ5.out; first | omega | exact Nat.le_refl _⟩, xdr⟩
      ·
       replace c10 := Bool.eq_false_iff.mpr c10
       subst c10
       rw [if_neg (show ¬ (false = true) by decide)] at H
       have H' := Aside0.mk H
       clear H
       go_wp2
       go_meet
       case rel => exact ⟨_, (x3_5), xrr, H', ⟨by have := HJ2.out; have := HJ5.out; first | omega | exact Nat.le_refl _⟩, xdr⟩
     case rest =>
      clear HC9
      obtain ⟨kq, x3_8, rfl, HA, HJ8, ⟨mc8, rfl⟩⟩ := hcut
      cases kq with
      | zero => exact absurd HA.out (by simp [monikerref01_Class.j2])
      | succ kj8 =>
       have H := HA.out
       clear HA
       simp only [monikerref01_Class.j2] at H
       replace H := Option.bind_eq_some_iff.mp H
       obtain ⟨t275, A110, H⟩ := H
       try dsimp only at H
       have A11 := Aside0.mk A110
       clear A110
       have HC12 := Aside0.mk H
       clear H
       go_upto_if 17 with (first | ((with_reducible refine gate_callee (f := 26) rfl ?_); refine xgl 17 Tryd.func26 #[.int .u8 a0, .string (⟨#[33, 36, 38, 39, 40, 41, 42, 43, 44, 59, 61]⟩ : ByteArray)] ?_; (with_reducible refine (monikerref01_In.calls kj8 a0 (⟨#[33, 36, 38, 39, 40, 41, 42, 43, 44, 59, 61]⟩ : ByteArray) t275 _ A11.out).mono ?_); rintro e w' ⟨rfl, ⟨nd, rfl⟩⟩; refine ⟨_, rfl, ?_⟩))
       (try simp only [Act.put, List.setIfInBounds_toArray, List.set_cons_zero, List.set_cons_succ])
       go_cut [3] (fun v3 wc => ∃ (kq : Nat) (x3_11 : Int), v3 = .int .i64 x3_11 ∧ Aside0 (monikerref01_Class.j3 kq a0 x3_11 = some r) ∧ Aside0 (kq ≤ kj8) ∧ Drawn0 w wc)
       case first =>
        have H := HC12.out
        clear HC12
        by_cases c13 : t275 = true
        ·
         subst c13
         rw [if_pos rfl] at H
         have H' := Aside0.mk H
         clear H
         go_wp2
         go_meet
         case rel => exact ⟨_, (wrap64 (x3_8 + 8)), xrr, H', ⟨by have := HJ2.out; have := HJ5.out; have := HJ8.out; first | omega | exact Nat.le_refl _⟩, xdr⟩
        ·
         replace c13 := Bool.eq_false_iff.mpr c13
         subst c13
         rw [if_neg (show ¬ (false = true) by decide)] at H
         have H' := Aside0.mk H
         clear H
         go_wp2
         go_meet
         case rel => exact ⟨_, (x3_8), xrr, H', ⟨by have := HJ2.out; have := HJ5.out; have := HJ8.out; first | omega | exact Nat.le_refl _⟩, xdr⟩
       case rest =>
        clear HC12
        obtain ⟨kq, x3_11, rfl, HA, HJ11, ⟨mc11, rfl⟩⟩ := hcut
        cases kq with
        | zero => exact absurd HA.out (by simp [monikerref01_Class.j3])
        | succ kj11 =>
         have H := HA.out
         clear HA
         simp only [monikerref01_Class.j3] at H
         replace H := Option.bind_eq_some_iff.mp H
         obtain ⟨t276, A140, H⟩ := H
         try dsimp only at H
         have A14 := Aside0.mk A140
         clear A140
         by_cases c15 : t276 = true
         ·
          subst c15
          rw [if_pos rfl] at H
          replace H := Option.bind_eq_some_iff.mp H
          obtain ⟨t277, A160, H⟩ := H
          try dsimp only at H
          have A16 := Aside0.mk A160
          clear A160
          by_cases c17 : t277 = true
          ·
           subst c17
           rw [if_pos rfl] at H
           obtain rfl := Option.some.inj H
           go_wp2_with (first | ((with_reducible refine gate_callee (f := 26) rfl ?_); refine xgl 21 Tryd.func26 #[.int .u8 a0, .string (⟨#[58, 47, 63, 35, 91, 93, 64]⟩ : ByteArray)] ?_; (with_reducible refine (monikerref01_In.calls kj11 a0 (⟨#[58, 47, 63, 35, 91, 93, 64]⟩ : ByteArray) true _ A14.out).mono ?_); rintro e w' ⟨rfl, ⟨nd, rfl⟩⟩; refine ⟨_, rfl, ?_⟩) | ((with_reducible refine gate_callee (f := 26) rfl ?_); refine xgl 25 Tryd.func26 #[.int .u8 a0, .string (⟨#[48, 49, 50, 51, 52, 53, 54, 55, 56, 57, 65, 66, 67, 68, 69, 70, 97, 98, 99, 100, 101, 102]⟩ : ByteArray)] ?_; (with_reducible refine (monikerref01_In.calls kj11 a0 (⟨#[48, 49, 50, 51, 52, 53, 54, 55, 56, 57, 65, 66, 67, 68, 69, 70, 97, 98, 99, 100, 101, 102]⟩ : ByteArray) true _ A16.out).mono ?_); rintro e w' ⟨rfl, ⟨nd, rfl⟩⟩; refine ⟨_, rfl, ?_⟩))
           go_ret
           exact ⟨xrr, xdr⟩
          ·
           replace c17 := Bool.eq_false_iff.mpr c17
           subst c17
           rw [if_neg (show ¬ (false = true) by decide)] at H
           obtain rfl := Option.some.inj H
           go_wp2_with (first | ((with_reducible refine gate_callee (f := 26) rfl ?_); refine xgl 21 Tryd.func26 #[.int .u8 a0, .string (⟨#[58, 47, 63, 35, 91, 93, 64]⟩ : ByteArray)] ?_; (with_reducible refine (monikerref01_In.calls kj11 a0 (⟨#[58, 47, 63, 35, 91, 93, 64]⟩ : ByteArray) true _ A14.out).mono ?_); rintro e w' ⟨rfl, ⟨nd, rfl⟩⟩; refine ⟨_, rfl, ?_⟩) | ((with_reducible refine gate_callee (f := 26) rfl ?_); refine xgl 25 Tryd.func26 #[.int .u8 a0, .string (⟨#[48, 49, 50, 51, 52, 53, 54, 55, 56, 57, 65, 66, 67, 68, 69, 70, 97, 98, 99, 100, 101, 102]⟩ : ByteArray)] ?_; (with_reducible refine (monikerref01_In.calls kj11 a0 (⟨#[48, 49, 50, 51, 52, 53, 54, 55, 56, 57, 65, 66, 67, 68, 69, 70, 97, 98, 99, 100, 101, 102]⟩ : ByteArray) false _ A16.out).mono ?_); rintro e w' ⟨rfl, ⟨nd, rfl⟩⟩; refine ⟨_, rfl, ?_⟩))
           go_ret
           exact ⟨xrr, xdr⟩
         ·
          replace c15 := Bool.eq_false_iff.mpr c15
          subst c15
          rw [if_neg (show ¬ (false = true) by decide)] at H
          replace H := Option.bind_eq_some_iff.mp H
          obtain ⟨t278, A180, H⟩ := H
          try dsimp only at H
          have A18 := Aside0.mk A180
          clear A180
          by_cases c19 : t278 = true
          ·
           subst c19
           rw [if_pos rfl] at H
           obtain rfl := Option.some.inj H
           go_wp2_with (first | ((with_reducible refine gate_callee (f := 26) rfl ?_); refine xgl 21 Tryd.func26 #[.int .u8 a0, .string (⟨#[58, 47, 63, 35, 91, 93, 64]⟩ : ByteArray)] ?_; (with_reducible refine (monikerref01_In.calls kj11 a0 (⟨#[58, 47, 63, 35, 91, 93, 64]⟩ : ByteArray) false _ A14.out).mono ?_); rintro e w' ⟨rfl, ⟨nd, rfl⟩⟩; refine ⟨_, rfl, ?_⟩) | ((with_reducible refine gate_callee (f := 26) rfl ?_); refine xgl 25 Tryd.func26 #[.int .u8 a0, .string (⟨#[48, 49, 50, 51, 52, 53, 54, 55, 56, 57, 65, 66, 67, 68, 69, 70, 97, 98, 99, 100, 101, 102]⟩ : ByteArray)] ?_; (with_reducible refine (monikerref01_In.calls kj11 a0 (⟨#[48, 49, 50, 51, 52, 53, 54, 55, 56, 57, 65, 66, 67, 68, 69, 70, 97, 98, 99, 100, 101, 102]⟩ : ByteArray) true _ A18.out).mono ?_); rintro e w' ⟨rfl, ⟨nd, rfl⟩⟩; refine ⟨_, rfl, ?_⟩))
           go_ret
           exact ⟨xrr, xdr⟩
          ·
           replace c19 := Bool.eq_false_iff.mpr c19
           subst c19
           rw [if_neg (show ¬ (false = true) by decide)] at H
           obtain rfl := Option.some.inj H
           go_wp2_with (first | ((with_reducible refine gate_callee (f := 26) rfl ?_); refine xgl 21 Tryd.func26 #[.int .u8 a0, .string (⟨#[58, 47, 63, 35, 91, 93, 64]⟩ : ByteArray)] ?_; (with_reducible refine (monikerref01_In.calls kj11 a0 (⟨#[58, 47, 63, 35, 91, 93, 64]⟩ : ByteArray) false _ A14.out).mono ?_); rintro e w' ⟨rfl, ⟨nd, rfl⟩⟩; refine ⟨_, rfl, ?_⟩) | ((with_reducible refine gate_callee (f := 26) rfl ?_); refine xgl 25 Tryd.func26 #[.int .u8 a0, .string (⟨#[48, 49, 50, 51, 52, 53, 54, 55, 56, 57, 65, 66, 67, 68, 69, 70, 97, 98, 99, 100, 101, 102]⟩ : ByteArray)] ?_; (with_reducible refine (monikerref01_In.calls kj11 a0 (⟨#[48, 49, 50, 51, 52, 53, 54, 55, 56, 57, 65, 66, 67, 68, 69, 70, 97, 98, 99, 100, 101, 102]⟩ : ByteArray) false _ A18.out).mono ?_); rintro e w' ⟨rfl, ⟨nd, rfl⟩⟩; refine ⟨_, rfl, ?_⟩))
           go_ret
           exact ⟨xrr, xdr⟩
mutual
def monikerref19_Future.j0 : Nat → ByteArray → Bool → Option (Bool)
  | 0, _, _ => none
  | k + 1, x0, x17 => if x17 = true then (some false) else (monikerref19_Future.l0 k x0 1)
def monikerref19_Future.j2 : Nat → ByteArray → Int → Option (Bool)
  | 0, _, _ => none
  | k + 1, x0, x3 => if x3 = 1 then (monikerref19_Future.j3 k x0 x3 true) else (if x3 ≥ (wrap64 ((x0.size : Int) - 1)) then (monikerref19_Future.j3 k x0 x3 true) else (if 0 ≤ x3 then (if x3 < (x0.size : Int) then (monikerref19_Future.j3 k x0 x3 ((bt x0 x3) != 46)) else (none)) else (none)))
def monikerref19_Future.j3 : Nat → ByteArray → Int → Bool → Option (Bool)
  | 0, _, _, _ => none
  | k + 1, x0, x3, x45 => if x45 = true then (some false) else (monikerref19_Future.l1 k x0 (wrap64 (x3 + 1)))
def monikerref19_Future.l1 : Nat → ByteArray → Int → Option (Bool)
  | 0, _, _ => none
  | k + 1, x0, x4 => if x4 < (x0.size : Int) then (if 0 ≤ x4 then ((monikerref01_Class.f k (bt x0 x4)).bind fun t280 => (if (Go.bits .and .i64 t280 15) = 0 then (if (bt x0 x4) = 58 then (monikerref19_Future.l1 k x0 (wrap64 (x4 + 1))) else (some false)) else (monikerref19_Future.l1 k x0 (wrap64 (x4 + 1))))) else (none)) else (some true)
def monikerref19_Future.l0 : Nat → ByteArray → Int → Option (Bool)
  | 0, _, _ => none
  | k + 1, x0, x3 => if x3 < (x0.size : Int) then (if 0 ≤ x3 then ((monikerref01_Value.f k (bt x0 x3)).bind fun t279 => (if t279 ≥ 0 then (monikerref19_Future.l0 k x0 (wrap64 (x3 + 1))) else (monikerref19_Future.j2 k x0 x3))) else (none)) else (monikerref19_Future.j2 k x0 x3)
end
def monikerref19_Future.f (k : Nat) (a0 : ByteArray) : Option (Bool) := if (a0.size : Int) < 4 then (monikerref19_Future.j0 k a0 true) else (if 0 < (a0.size : Int) then (if (bt a0 0) = 118 then (monikerref19_Future.j0 k a0 false) else (monikerref19_Future.j0 k a0 ((bt a0 0) != 86))) else (none))
theorem monikerref19_Future.mono_l : ∀ k, (∀ y0 y1, LeO (monikerref19_Future.j0 k y0 y1) (monikerref19_Future.j0 (k + 1) y0 y1)) ∧ (∀ y0 y1, LeO (monikerref19_Future.j2 k y0 y1) (monikerref19_Future.j2 (k + 1) y0 y1)) ∧ (∀ y0 y1 y2, LeO (monikerref19_Future.j3 k y0 y1 y2) (monikerref19_Future.j3 (k + 1) y0 y1 y2)) ∧ (∀ y0 y1, LeO (monikerref19_Future.l1 k y0 y1) (monikerref19_Future.l1 (k + 1) y0 y1)) ∧ (∀ y0 y1, LeO (monikerref19_Future.l0 k y0 y1) (monikerref19_Future.l0 (k + 1) y0 y1))
  | 0 => ⟨fun _ _ r h => by simp [monikerref19_Future.j0] at h, fun _ _ r h => by simp [monikerref19_Future.j2] at h, fun _ _ _ r h => by simp [monikerref19_Future.j3] at h, fun _ _ r h => by simp [monikerref19_Future.l1] at h, fun _ _ r h => by simp [monikerref19_Future.l0] at h⟩
  | k + 1 => by
    obtain ⟨ih0, ih1, ih2, ih3, ih4⟩ := monikerref19_Future.mono_l k
    have m0 := @monikerref01_Class.mono; have m1 := @monikerref01_Value.mono
    refine ⟨?_, ?_, ?_, ?_, ?_⟩
    · intro y0 y1
      unfold monikerref19_Future.j0
      exact xmo
    · intro y0 y1
      unfold monikerref19_Future.j2
      exact xmo
    · intro y0 y1 y2
      unfold monikerref19_Future.j3
      exact xmo
    · intro y0 y1
      unfold monikerref19_Future.l1
      exact xmo
    · intro y0 y1
      unfold monikerref19_Future.l0
      exact xmo
theorem monikerref19_Future.mono : ∀ a0 k, LeO (monikerref19_Future.f k a0) (monikerref19_Future.f (k + 1) a0) := by
  intro a0 k
  obtain ⟨ih0, ih1, ih2, ih3, ih4⟩ := monikerref19_Future.mono_l k
  have m0 := @monikerref01_Class.mono; have m1 := @monikerref01_Value.mono
  unfold monikerref19_Future.f
  exact xmo
set_option maxHeartbeats 8000000 in
set_option maxRecDepth 100000 in
theorem monikerref19_Future.calls (k : Nat) (a0 : ByteArray) (r : Bool) (w : World) (h : monikerref19_Future.f k a0 = some r) :
    Calls Tryd.prog 13 #[.string a0] w fun e w' => e = .returned (.bool r) ∧ Drawn0 w w' := by
 have H : (if (a0.size : Int) < 4 then (monikerref19_Future.j0 k a0 true) else (if 0 < (a0.size : Int) then (if (bt a0 0) = 118 then (monikerref19_Future.j0 k a0 false) else (monikerref19_Future.j0 k a0 ((bt a0 0) != 86))) else (none))) = some r := h
 clear h
 have HC2 := Aside0.mk H
 clear H
 go_enter Tryd.func13, Tryd.ntmps13
 go_upto_region 1 with (fail)
 go_cut [17] (fun v17 wc => ∃ (kq : Nat) (x17_1 : Bool), v17 = .bool x17_1 ∧ Aside0 (monikerref19_Future.j0 kq a0 x17_1 = some r) ∧ Aside0 (kq ≤ k) ∧ Drawn0 w wc)
 case first =>
  have H := HC2.out
  clear HC2
  by_cases c3 : (a0.size : Int) < 4
  ·
   rw [if_pos c3] at H
   have c3b0 := decide_eq_true c3
   have c3b1 : decide (a0.size < 4) = true := decide_eq_true (by omega)
   clear c3
   (first | rw [c3b0] | (simp only [i64_w, i32_w]; rw [c3b0]) | skip)
   have H' := Aside0.mk H
   clear H
   go_wp2
   go_meet
   case rel => exact ⟨_, (true), xrr, H', ⟨xom⟩, xdr⟩
  ·
   rw [if_neg c3] at H
   have c3b0 := decide_eq_false c3
   have c3b1 : decide (a0.size < 4) = false := decide_eq_false (by omega)
   clear c3
   (first | rw [c3b0] | (simp only [i64_w, i32_w]; rw [c3b0]) | skip)
   by_cases c4 : 0 < (a0.size : Int)
   ·
    rw [if_pos c4] at H
    have c4b0 := decide_eq_true c4
    have c4b1 : decide (0 < a0.size) = true := decide_eq_true (by omega)
    clear c4
    by_cases c6 : (bt a0 0) = 118
    ·
     rw [if_pos c6] at H
     have c6b0 : ((bt a0 0) == 118) = true := beq_iff_eq.mpr c6
     have c6b1 : ((bt a0 0) != 118) = false := bne_eq_false_iff_eq.mpr c6
     clear c6
     have H' := Aside0.mk H
     clear H
     have p5 : 0 ≤ (0 : Int) := (by omega)
     have q5 : 0 < a0.size := (by have : (0 : Int) < (a0.size : Int) := xod; omega)
     have hx5 : ∀ h : 0 < a0.size, ((a0[0]'h).toNat : Int) = bt a0 0 := bt_at a0 0
     clear p5
     have qi5 : (0 < (a0.size : Int)) = True := eq_true (xod)
     replace q5 := eq_true q5
     try (have q5x := q5; simp only [ByteArray.size_extract, Nat.min_self] at q5x)
     go_wp2
     go_meet
     case rel => exact ⟨_, (false), xrr, H', ⟨xom⟩, xdr⟩
    ·
     rw [if_neg c6] at H
     have c6b0 : ((bt a0 0) == 118) = false := beq_eq_false_iff_ne.mpr c6
     have c6b1 : ((bt a0 0) != 118) = true := bne_iff_ne.mpr c6
     have H' := Aside0.mk H
     clear H
     have p5 : 0 ≤ (0 : Int) := (by omega)
     have q5 : 0 < a0.size := (by have : (0 : Int) < (a0.size : Int) := xod; omega)
     have hx5 : ∀ h : 0 < a0.size, ((a0[0]'h).toNat : Int) = bt a0 0 := bt_at a0 0
     clear p5
     have qi5 : (0 < (a0.size : Int)) = True := eq_true (xod)
     replace q5 := eq_true q5
     try (have q5x := q5; simp only [ByteArray.size_extract, Nat.min_self] at q5x)
     have p7 : 0 ≤ (0 : Int) := (by omega)
     have q7 : 0 < a0.size := (by have : (0 : Int) < (a0.size : Int) := xod; omega)
     have hx7 : ∀ h : 0 < a0.size, ((a0[0]'h).toNat : Int) = bt a0 0 := bt_at a0 0
     clear p7
     have qi7 : (0 < (a0.size : Int)) = True := eq_true (xod)
     replace q7 := eq_true q7
     try (have q7x := q7; simp only [ByteArray.size_extract, Nat.min_self] at q7x)
     go_wp2
     go_meet
     case rel => exact ⟨_, (((bt a0 0) != 86)), xrr, H', ⟨xom⟩, xdr⟩
   ·
    rw [if_neg c4] at H
    exact absurd H (by simp)
 case rest =>
  clear HC2
  obtain ⟨kq, x17_1, rfl, HA, HJ1, ⟨mc1, rfl⟩⟩ := hcut
  cases kq with
  | zero => exact absurd HA.out (by simp [monikerref19_Future.j0])
  | succ kj1 =>
   have H := HA.out
   clear HA
   simp only [monikerref19_Future.j0] at H
   by_cases c8 : x17_1 = true
   ·
    subst c8
    rw [if_pos rfl] at H
    obtain rfl := Option.some.inj H
    go_wp2
    go_ret
    exact ⟨xrr, xdr⟩
   ·
    replace c8 := Bool.eq_false_iff.mpr c8
    subst c8
    rw [if_neg (show ¬ (false = true) by decide)] at H
    have HC9 := Aside0.mk H
    clear H
    go_upto_block 0 with (fail)
    go_cut [3] (fun v3 wc => ∃ (kq : Nat) (x3_8 : Int), v3 = .int .i64 x3_8 ∧ Aside0 (monikerref19_Future.j2 kq a0 x3_8 = some r) ∧ Aside0 (kq ≤ kj1) ∧ Drawn0 w wc)
    case first =>
     have H := HC9.out
     clear HC9
     have H' := Aside0.mk H
     clear H
     go_wp2
     go_loopg [3] kj1 (fun kq v3 w' => ∃ (x3_2 : Int), v3 = .int .i64 x3_2 ∧ Aside0 (monikerref19_Future.l0 kq a0 x3_2 = some r) ∧ Aside0 (kq ≤ kj1) ∧ Drawn0 w w')
     case atStart => exact ⟨(1), xrr, H', ⟨Nat.le_refl _⟩, xdr⟩
     case round =>
      clear H'
      obtain ⟨x3_2, rfl, HA, HK2, ⟨m2, rfl⟩⟩ := hrel
      cases gk with
      | zero => exact absurd HA.out (by simp [monikerref19_Future.l0])
      | succ k2 =>
       have H := HA.out
       clear HA
       simp only [monikerref19_Future.l0] at H
       by_cases c10 : x3_2 < (a0.size : Int)
       ·
        rw [if_pos c10] at H
        have c10b0 := decide_eq_true c10
        clear c10
        (first | rw [c10b0] | (simp only [i64_w, i32_w]; rw [c10b0]) | skip)
        by_cases c11 : 0 ≤ x3_2
        ·
         rw [if_pos c11] at H
         have c11b0 := decide_eq_true c11
         clear c11
         replace H := Option.bind_eq_some_iff.mp H
         obtain ⟨t279, A130, H⟩ := H
         try dsimp only at H
         have A13 := Aside0.mk A130
         clear A130
         by_cases c14 : t279 ≥ 0
         ·
          rw [if_pos c14] at H
          have c14b0 := decide_eq_true c14
          clear c14
          have H' := Aside0.mk H
          clear H
          have p12 : 0 ≤ (x3_2 : Int) := xod
          have q12 : x3_2 < (a0.size : Int) := xod
          have hx12 := bt_at a0 x3_2
          replace p12 := eq_true p12
          replace q12 := eq_true q12
          try (have q12x := q12; simp only [ByteArray.size_extract, Nat.min_self] at q12x)
          go_wp2_with (first | (go_at_call 29; (with_reducible refine (monikerref01_Value.calls k2 (bt a0 x3_2) t279 _ A13.out).mono ?_); rintro e w' ⟨rfl, ⟨nd, rfl⟩⟩))
          go_roundg k2
          case measure => have := HJ1.out; have := HK2.out; omega
          case rel => exact ⟨(wrap64 (x3_2 + 1)), xrr, H', ⟨by have := HJ1.out; have := HK2.out; omega⟩, xdr⟩
         ·
          rw [if_neg c14] at H
          have c14b0 := decide_eq_false c14
          clear c14
          have H' := Aside0.mk H
          clear H
          have p12 : 0 ≤ (x3_2 : Int) := xod
          have q12 : x3_2 < (a0.size : Int) := xod
          have hx12 := bt_at a0 x3_2
          replace p12 := eq_true p12
          replace q12 := eq_true q12
          try (have q12x := q12; simp only [ByteArray.size_extract, Nat.min_self] at q12x)
          go_wp2_with (first | (go_at_call 29; (with_reducible refine (monikerref01_Value.calls k2 (bt a0 x3_2) t279 _ A13.out).mono ?_); rintro e w' ⟨rfl, ⟨nd, rfl⟩⟩))
          go_meet
          case rel => exact ⟨_, (x3_2), xrr, H', ⟨by have := HJ1.out; have := HK2.out; first | omega | exact Nat.le_refl _⟩, xdr⟩
        ·
         rw [if_neg c11] at H
         exact absurd H (by simp)
       ·
        rw [if_neg c10] at H
        have c10b0 := decide_eq_false c10
        clear c10
        (first | rw [c10b0] | (simp only [i64_w, i32_w]; rw [c10b0]) | skip)
        have H' := Aside0.mk H
        clear H
        go_wp2
        go_meet
        case rel => exact ⟨_, (x3_2), xrr, H', ⟨by have := HJ1.out; have := HK2.out; first | omega | exact Nat.le_refl _⟩, xdr⟩
    case rest =>
     clear HC9
     obtain ⟨kq, x3_8, rfl, HA, HJ8, ⟨mc8, rfl⟩⟩ := hcut
     cases kq with
     | zero => exact absurd HA.out (by simp [monikerref19_Future.j2])
     | succ kj8 =>
      have H := HA.out
      clear HA
      simp only [monikerref19_Future.j2] at H
      have HC15 := Aside0.mk H
      clear H
      go_upto_region 6 with (fail)
      go_cut [45] (fun v45 wc => ∃ (kq : Nat) (x45_14 : Bool), v45 = .bool x45_14 ∧ Aside0 (monikerref19_Future.j3 kq a0 x3_8 x45_14 = some r) ∧ Aside0 (kq ≤ kj8) ∧ Drawn0 w wc)
      case first =>
       have H := HC15.out
       clear HC15
       by_cases c16 : x3_8 = 1
       ·
        rw [if_pos c16] at H
        have c16b0 : (x3_8 == 1) = true := beq_iff_eq.mpr c16
        have c16b1 : (x3_8 != 1) = false := bne_eq_false_iff_eq.mpr c16
        clear c16
        (first | rw [c16b0] | (simp only [i64_w, i32_w]; rw [c16b0]) | skip)
        have H' := Aside0.mk H
        clear H
        go_wp2
        go_meet
        case rel => exact ⟨_, (true), xrr, H', ⟨by have := HJ1.out; have := HJ8.out; first | omega | exact Nat.le_refl _⟩, xdr⟩
       ·
        rw [if_neg c16] at H
        have c16b0 : (x3_8 == 1) = false := beq_eq_false_iff_ne.mpr c16
        have c16b1 : (x3_8 != 1) = true := bne_iff_ne.mpr c16
        (first | rw [c16b0] | (simp only [i64_w, i32_w]; rw [c16b0]) | skip)
        by_cases c17 : x3_8 ≥ (wrap64 ((a0.size : Int) - 1))
        ·
         rw [if_pos c17] at H
         have c17b0 := decide_eq_true c17
         clear c17
         have H' := Aside0.mk H
         clear H
         go_wp2
         go_meet
         case rel => exact ⟨_, (true), xrr, H', ⟨by have := HJ1.out; have := HJ8.out; first | omega | exact Nat.le_refl _⟩, xdr⟩
        ·
         rw [if_neg c17] at H
         have c17b0 := decide_eq_false c17
         clear c17
         by_cases c18 : 0 ≤ x3_8
         ·
          rw [if_pos c18] at H
          have c18b0 := decide_eq_true c18
          clear c18
          by_cases c19 : x3_8 < (a0.size : Int)
          ·
           rw [if_pos c19] at H
           have c19b0 := decide_eq_true c19
           clear c19
           have H' := Aside0.mk H
           clear H
           have p20 : 0 ≤ (x3_8 : Int) := xod
           have q20 : x3_8 < (a0.size : Int) := xod
           have hx20 := bt_at a0 x3_8
           replace p20 := eq_true p20
           replace q20 := eq_true q20
           try (have q20x := q20; simp only [ByteArray.size_extract, Nat.min_self] at q20x)
           go_wp2
           go_meet
           case rel => exact ⟨_, (((bt a0 x3_8) != 46)), xrr, H', ⟨by have := HJ1.out; have := HJ8.out; first | omega | exact Nat.le_refl _⟩, xdr⟩
          ·
           rw [if_neg c19] at H
           exact absurd H (by simp)
         ·
          rw [if_neg c18] at H
          exact absurd H (by simp)
      case rest =>
       clear HC15
       obtain ⟨kq, x45_14, rfl, HA, HJ14, ⟨mc14, rfl⟩⟩ := hcut
       cases kq with
       | zero => exact absurd HA.out (by simp [monikerref19_Future.j3])
       | succ kj14 =>
        have H := HA.out
        clear HA
        simp only [monikerref19_Future.j3] at H
        by_cases c21 : x45_14 = true
        ·
         subst c21
         rw [if_pos rfl] at H
         obtain rfl := Option.some.inj H
         go_wp2
         go_ret
         exact ⟨xrr, xdr⟩
        ·
         replace c21 := Bool.eq_false_iff.mpr c21
         subst c21
         rw [if_neg (show ¬ (false = true) by decide)] at H
         have H' := Aside0.mk H
         clear H
         go_wp2
         go_loopg [4] kj14 (fun kq v4 w' => ∃ (x4_4 : Int), v4 = .int .i64 x4_4 ∧ Aside0 (monikerref19_Future.l1 kq a0 x4_4 = some r) ∧ Aside0 (kq ≤ kj14) ∧ Drawn0 w w')
         case atStart => exact ⟨(wrap64 (x3_8 + 1)), xrr, H', ⟨Nat.le_refl _⟩, xdr⟩
         case round =>
          clear H'
          obtain ⟨x4_4, rfl, HA, HK4, ⟨m4, rfl⟩⟩ := hrel
          cases gk with
          | zero => exact absurd HA.out (by simp [monikerref19_Future.l1])
          | succ k4 =>
           have H := HA.out
           clear HA
           simp only [monikerref19_Future.l1] at H
           by_cases c22 : x4_4 < (a0.size : Int)
           ·
            rw [if_pos c22] at H
            have c22b0 := decide_eq_true c22
            clear c22
            by_cases c23 : 0 ≤ x4_4
            ·
             rw [if_pos c23] at H
             have c23b0 := decide_eq_true c23
             clear c23
             replace H := Option.bind_eq_some_iff.mp H
             obtain ⟨t280, A250, H⟩ := H
             try dsimp only at H
             have A25 := Aside0.mk A250
             clear A250
             by_cases c26 : (Go.bits .and .i64 t280 15) = 0
             ·
              rw [if_pos c26] at H
              have c26b0 : ((Go.bits .and .i64 t280 15) == 0) = true := beq_iff_eq.mpr c26
              have c26b1 : ((Go.bits .and .i64 t280 15) != 0) = false := bne_eq_false_iff_eq.mpr c26
              clear c26
              by_cases c28 : (bt a0 x4_4) = 58
              ·
               rw [if_pos c28] at H
               have c28b0 : ((bt a0 x4_4) == 58) = true := beq_iff_eq.mpr c28
               have c28b1 : ((bt a0 x4_4) != 58) = false := bne_eq_false_iff_eq.mpr c28
               clear c28
               have H' := Aside0.mk H
               clear H
               have p24 : 0 ≤ (x4_4 : Int) := xod
               have q24 : x4_4 < (a0.size : Int) := xod
               have hx24 := bt_at a0 x4_4
               replace p24 := eq_true p24
               replace q24 := eq_true q24
               try (have q24x := q24; simp only [ByteArray.size_extract, Nat.min_self] at q24x)
               go_wp2_with (first | ((with_reducible refine gate_callee (f := 30) rfl ?_); refine xgl 57 Tryd.func30 #[.int .u8 (bt a0 x4_4)] ?_; (with_reducible refine (monikerref01_Class.calls k4 (bt a0 x4_4) t280 _ A25.out).mono ?_); rintro e w' ⟨rfl, ⟨nd, rfl⟩⟩; refine ⟨_, rfl, ?_⟩; have p27 : 0 ≤ (x4_4 : Int) := xod; have q27 : x4_4 < (a0.size : Int) := xod; have hx27 := bt_at a0 x4_4; replace p27 := eq_true p27; replace q27 := eq_true q27))
               go_roundg k4
               case measure => have := HJ1.out; have := HJ8.out; have := HJ14.out; have := HK4.out; omega
               case rel => exact ⟨(wrap64 (x4_4 + 1)), xrr, H', ⟨by have := HJ1.out; have := HJ8.out; have := HJ14.out; have := HK4.out; omega⟩, xdr⟩
              ·
               rw [if_neg c28] at H
               have c28b0 : ((bt a0 x4_4) == 58) = false := beq_eq_false_iff_ne.mpr c28
               have c28b1 : ((bt a0 x4_4) != 58) = true := bne_iff_ne.mpr c28
               obtain rfl := Option.some.inj H
               have p24 : 0 ≤ (x4_4 : Int) := xod
               have q24 : x4_4 < (a0.size : Int) := xod
               have hx24 := bt_at a0 x4_4
               replace p24 := eq_true p24
               replace q24 := eq_true q24
               try (have q24x := q24; simp only [ByteArray.size_extract, Nat.min_self] at q24x)
               go_wp2_with (first | ((with_reducible refine gate_callee (f := 30) rfl ?_); refine xgl 57 Tryd.func30 #[.int .u8 (bt a0 x4_4)] ?_; (with_reducible refine (monikerref01_Class.calls k4 (bt a0 x4_4) t280 _ A25.out).mono ?_); rintro e w' ⟨rfl, ⟨nd, rfl⟩⟩; refine ⟨_, rfl, ?_⟩; have p27 : 0 ≤ (x4_4 : Int) := xod; have q27 : x4_4 < (a0.size : Int) := xod; have hx27 := bt_at a0 x4_4; replace p27 := eq_true p27; replace q27 := eq_true q27))
               go_ret
               exact ⟨xrr, xdr⟩
             ·
              rw [if_neg c26] at H
              have c26b0 : ((Go.bits .and .i64 t280 15) == 0) = false := beq_eq_false_iff_ne.mpr c26
              have c26b1 : ((Go.bits .and .i64 t280 15) != 0) = true := bne_iff_ne.mpr c26
              have H' := Aside0.mk H
              clear H
              have p24 : 0 ≤ (x4_4 : Int) := xod
              have q24 : x4_4 < (a0.size : Int) := xod
              have hx24 := bt_at a0 x4_4
              replace p24 := eq_true p24
              replace q24 := eq_true q24
              try (have q24x := q24; simp only [ByteArray.size_extract, Nat.min_self] at q24x)
              go_wp2_with (first | ((with_reducible refine gate_callee (f := 30) rfl ?_); refine xgl 57 Tryd.func30 #[.int .u8 (bt a0 x4_4)] ?_; (with_reducible refine (monikerref01_Class.calls k4 (bt a0 x4_4) t280 _ A25.out).mono ?_); rintro e w' ⟨rfl, ⟨nd, rfl⟩⟩; refine ⟨_, rfl, ?_⟩))
              go_roundg k4
              case measure => have := HJ1.out; have := HJ8.out; have := HJ14.out; have := HK4.out; omega
              case rel => exact ⟨(wrap64 (x4_4 + 1)), xrr, H', ⟨by have := HJ1.out; have := HJ8.out; have := HJ14.out; have := HK4.out; omega⟩, xdr⟩
            ·
             rw [if_neg c23] at H
             exact absurd H (by simp)
           ·
            rw [if_neg c22] at H
            have c22b0 := decide_eq_false c22
            clear c22
            obtain rfl := Option.some.inj H
            go_wp2
            go_ret
            exact ⟨xrr, xdr⟩
end Go.Proofs.YticohlbfolnmpaaDoor.X
