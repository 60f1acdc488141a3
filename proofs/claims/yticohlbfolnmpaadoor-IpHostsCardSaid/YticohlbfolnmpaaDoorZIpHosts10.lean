/- Texts that the law's proof needs, joined by a program of this session. -/
import Derived.Test.YticohlbfolnmpaaDoorZIpHosts1
import Derived.Test.YticohlbfolnmpaaDoorZIpHosts8
namespace Go.Proofs.YticohlbfolnmpaaDoor.X
open Go.RowKit Go.Proofs.YticohlbfolnmpaaDoorW.PrintWords Go.Proofs.YticohlbfolnmpaaDoorW.PrintLast Go.Proofs.YticohlbfolnmpaaDoorW.PrintMore
attribute [local go_sem] max2_int min2_int max_two min_two max_three min_three max_four min_four
set_option linter.unusedVariables false
set_option linter.unusedSimpArgs false
mutual
def monikerref01_Class.j0 : Nat → Int → Int → Option (Int)
  | 0, _, _ => none
  | k + 1, x0, x3 => (monikerref01_In.f k x0 (⟨#[48, 49, 50, 51, 52, 53, 54, 55, 56, 57]⟩ : ByteArray)).bind fun t273 => (if t273 = true then (monikerref01_Class.j1 k x0 (wrap64 (x3 + 2))) else (monikerref01_Class.j1 k x0 x3))
def monikerref01_Class.j1 : Nat → Int → Int → Option (Int)
  | 0, _, _ => none
  | k + 1, x0, x3 => (monikerref01_In.f k x0 (⟨#[45, 46, 95, 126]⟩ : ByteArray)).bind fun t274 => (if t274 = true then (monikerref01_Class.j2 k x0 (wrap64 (x3 + 4))) else (monikerref01_Class.j2 k x0 x3))
def monikerref01_Class.j2 : Nat → Int → Int → Option (Int)
  | 0, _, _ => none
  | k + 1, x0, x3 => (monikerref01_In.f k x0 (⟨#[33, 36, 38, 39, 40, 41, 42, 43, 44, 59, 61]⟩ : ByteArray)).bind fun t275 => (if t275 = true then (monikerref01_Class.j3 k x0 (wrap64 (x3 + 8))) else (monikerref01_Class.j3 k x0 x3))
def monikerref01_Class.j3 : Nat → Int → Int → Option (Int)
  | 0, _, _ => none
  | k + 1, x0, x3 => (monikerref01_In.f k x0 (⟨#[58, 47, 63, 35, 91, 93, 64]⟩ : ByteArray)).bind fun t276 => (if t276 = true then ((monikerref01_In.f k x0 (⟨#[48, 49, 50, 51, 52, 53, 54, 55, 56, 57, 65, 66, 67, 68, 69, 70, 97, 98, 99, 100, 101, 102]⟩ : ByteArray)).bind fun t277 => (if t277 = true then (some (wrap64 ((wrap64 (x3 + 16)) + 32))) else (some (wrap64 (x3 + 16))))) else ((monikerref01_In.f k x0 (⟨#[48, 49, 50, 51, 52, 53, 54, 55, 56, 57, 65, 66, 67, 68, 69, 70, 97, 98, 99, 100, 101, 102]⟩ : ByteArray)).bind fun t278 => (if t278 = true then (some (wrap64 (x3 + 32))) else (some x3))))
end
def monikerref01_Class.f (k : Nat) (a0 : Int) : Option (Int) := (monikerref01_In.f k a0 (⟨#[65, 66, 67, 68, 69, 70, 71, 72, 73, 74, 75, 76, 77, 78, 79, 80, 81, 82, 83, 84, 85, 86, 87, 88, 89, 90, 97, 98, 99, 100, 101, 102, 103, 104, 105, 106, 107, 108, 109, 110, 111, 112, 113, 114, 115, 116, 117, 118, 119, 120, 121, 122]⟩ : ByteArray)).bind fun t272 => (if t272 = true then (monikerref01_Class.j0 k a0 (0 + 1)) else (monikerref01_Class.j0 k a0 0))
theorem monikerref01_Class.mono_l : ∀ k, (∀ y0 y1, LeO (monikerref01_Class.j0 k y0 y1) (monikerref01_Class.j0 (k + 1) y0 y1)) ∧ (∀ y0 y1, LeO (monikerref01_Class.j1 k y0 y1) (monikerref01_Class.j1 (k + 1) y0 y1)) ∧ (∀ y0 y1, LeO (monikerref01_Class.j2 k y0 y1) (monikerref01_Class.j2 (k + 1) y0 y1)) ∧ (∀ y0 y1, LeO (monikerref01_Class.j3 k y0 y1) (monikerref01_Class.j3 (k + 1) y0 y1))
  | 0 => ⟨fun _ _ r h => by simp [monikerref01_Class.j0] at h, fun _ _ r h => by simp [monikerref01_Class.j1] at h, fun _ _ r h => by simp [monikerref01_Class.j2] at h, fun _ _ r h => by simp [monikerref01_Class.j3] at h⟩
  | k + 1 => by
    obtain ⟨ih0, ih1, ih2, ih3⟩ := monikerref01_Class.mono_l k
    have m0 := @monikerref01_In.mono
    refine ⟨?_, ?_, ?_, ?_⟩
    · intro y0 y1
      unfold monikerref01_Class.j0
      exact xmo
    · intro y0 y1
      unfold monikerref01_Class.j1
      exact xmo
    · intro y0 y1
      unfold monikerref01_Class.j2
      exact xmo
    · intro y0 y1
      unfold monikerref01_Class.j3
      exact xmo
theorem monikerref01_Class.mono : ∀ a0 k, LeO (monikerref01_Class.f k a0) (monikerref01_Class.f (k + 1) a0) := by
  intro a0 k
  obtain ⟨ih0, ih1, ih2, ih3⟩ := monikerref01_Class.mono_l k
  have m0 := @monikerref01_In.mono
  unfold monikerref01_Class.f
  exact xmo
set_option maxHeartbeats 8000000 in
set_option maxRecDepth 100000 in
theorem monikerref01_Class.calls (k : Nat) (a0 : Int) (r : Int) (w : World) (h : monikerref01_Class.f k a0 = some r) :
    Calls Tryd.prog 30 #[.int .u8 a0] w fun e w' => e = .returned (.int .i64 r) ∧ Drawn0 w w' := by
 have H : ((monikerref01_In.f k a0 (⟨#[65, 66, 67, 68, 69, 70, 71, 72, 73, 74, 75, 76, 77, 78, 79, 80, 81, 82, 83, 84, 85, 86, 87, 88, 89, 90, 97, 98, 99, 100, 101, 102, 103, 104, 105, 106, 107, 108, 109, 110, 111, 112, 113, 114, 115, 116, 117, 118, 119, 120, 121, 122]⟩ : ByteArray)).bind fun t272 => (if t272 = true then (monikerref01_Class.j0 k a0 (0 + 1)) else (monikerref01_Class.j0 k a0 0))) = some r := h
 clear h
 replace H := Option.bind_eq_some_iff.mp H
 obtain ⟨t272, A20, H⟩ := H
 try dsimp only at H
 have A2 := Aside0.mk A20
 clear A20
 have HC3 := Aside0.mk H
 clear H
 go_enter Tryd.func30, Tryd.ntmps30
 go_upto_if 5 with (first | ((with_reducible refine gate_callee (f := 26) rfl ?_); refine xgl 5 Tryd.func26 #[.int .u8 a0, .string (⟨#[65, 66, 67, 68, 69, 70, 71, 72, 73, 74, 75, 76, 77, 78, 79, 80, 81, 82, 83, 84, 85, 86, 87, 88, 89, 90, 97, 98, 99, 100, 101, 102, 103, 104, 105, 106, 107, 108, 109, 110, 111, 112, 113, 114, 115, 116, 117, 118, 119, 120, 121, 122]⟩ : ByteArray)] ?_; (with_reducible refine (monikerref01_In.calls k a0 (⟨#[65, 66, 67, 68, 69, 70, 71, 72, 73, 74, 75, 76, 77, 78, 79, 80, 81, 82, 83, 84, 85, 86, 87, 88, 89, 90, 97, 98, 99, 100, 101, 102, 103, 104, 105, 106, 107, 108, 109, 110, 111, 112, 113, 114, 115, 116, 117, 118, 119, 120, 121, 122]⟩ : ByteArray) t272 _ A2.out).mono ?_); rintro e w' ⟨rfl, ⟨nd, rfl⟩⟩; refine ⟨_, rfl, ?_⟩))
 (try simp only [Act.put, List.setIfInBounds_toArray, List.set_cons_zero, List.set_cons_succ])
 go_cut [3] (fun v3 wc => ∃ (kq : Nat) (x3_2 : Int), v3 = .int .i64 x3_2 ∧ Aside0 (monikerref01_Class.j0 kq a0 x3_2 = some r) ∧ Aside0 (kq ≤ k) ∧ Drawn0 w wc)
 case first =>
  have H := HC3.out
  clear HC3
  by_cases c4 : t272 = true
  ·
   subst c4
   rw [if_pos rfl] at H
   have H' := Aside0.mk H
   clear H
   go_wp2
   go_meet
   case rel => exact ⟨_, (0 + 1), xrr, H', ⟨xom⟩, xdr⟩
  ·
   replace c4 := Bool.eq_false_iff.mpr c4
   subst c4
   rw [if_neg (show ¬ (false = true) by decide)] at H
   have H' := Aside0.mk H
   clear H
   go_wp2
   go_meet
   case rel => exact ⟨_, (0), xrr, H', ⟨xom⟩, xdr⟩
 case rest =>
  clear HC3
  obtain ⟨kq, x3_2, rfl, HA, HJ2, ⟨mc2, rfl⟩⟩ := hcut
  cases kq with
  | zero => exact absurd HA.out (by simp [monikerref01_Class.j0])
  | succ kj2 =>
   have H := HA.out
   clear HA
   simp only [monikerref01_Class.j0] at H
   replace H := Option.bind_eq_some_iff.mp H
   obtain ⟨t273, A50, H⟩ := H
   try dsimp only at H
   have A5 := Aside0.mk A50
   clear A50
   have HC6 := Aside0.mk H
   clear H
   go_upto_if 9 with (first | ((with_reducible refine gate_callee (f := 26) rfl ?_); refine xgl 9 Tryd.func26 #[.int .u8 a0, .string (⟨#[48, 49, 50, 51, 52, 53, 54, 55, 56, 57]⟩ : ByteArray)] ?_; (with_reducible refine (monikerref01_In.calls kj2 a0 (⟨#[48, 49, 50, 51, 52, 53, 54, 55, 56, 57]⟩ : ByteArray) t273 _ A5.out).mono ?_); rintro e w' ⟨rfl, ⟨nd, rfl⟩⟩; refine ⟨_, rfl, ?_⟩))
   (try simp only [Act.put, List.setIfInBounds_toArray, List.set_cons_zero, List.set_cons_succ])
   go_cut [3] (fun v3 wc => ∃ (kq : Nat) (x3_5 : Int), v3 = .int .i64 x3_5 ∧ Aside0 (monikerref01_Class.j1 kq a0 x3_5 = some r) ∧ Aside0 (kq ≤ kj2) ∧ Drawn0 w wc)
   case first =>
    have H := HC6.out
    clear HC6
    by_cases c7 : t273 = true
    ·
     subst c7
     rw [if_pos rfl] at H
     have H' := Aside0.mk H
     clear H
     go_wp2
     go_meet
     case rel => exact ⟨_, (wrap64 (x3_2 + 2)), xrr, H', ⟨by have := HJ2.out; first | omega | exact Nat.le_refl _⟩, xdr⟩
    ·
     replace c7 := Bool.eq_false_iff.mpr c7
     subst c7
     rw [if_neg (show ¬ (false = true) by decide)] at H
     have H' := Aside0.mk H
     clear H
     go_wp2
     go_meet
     case rel => exact ⟨_, (x3_2), xrr, H', ⟨by have := HJ2.out; first | omega | exact Nat.le_refl _⟩, xdr⟩
   case rest =>
    clear HC6
    obtain ⟨kq, x3_5, rfl, HA, HJ5, ⟨mc5, rfl⟩⟩ := hcut
    cases kq with
    | zero => exact absurd HA.out (by simp [monikerref01_Class.j1])
    | succ kj5 =>
     have H := HA.out
     clear HA
     simp only [monikerref01_Class.j1] at H
     replace H := Option.bind_eq_some_iff.mp H
     obtain ⟨t274, A80, H⟩ := H
     try dsimp only at H
     have A8 := Aside0.mk A80
     clear A80
     have HC9 := Aside0.mk H
     clear H
     go_upto_if 13 with (first | ((with_reducible refine gate_callee (f := 26) rfl ?_); refine xgl 13 Tryd.func26 #[.int .u8 a0, .string (⟨#[45, 46, 95, 126]⟩ : ByteArray)] ?_; (with_reducible refine (monikerref01_In.calls kj5 a0 (⟨#[45, 46, 95, 126]⟩ : ByteArray) t274 _ A8.out).mono ?_); rintro e w' ⟨rfl, ⟨nd, rfl⟩⟩; refine ⟨_, rfl, ?_⟩))
     (try simp only [Act.put, List.setIfInBounds_toArray, List.set_cons_zero, List.set_cons_succ])
     go_cut [3] (fun v3 wc => ∃ (kq : Nat) (x3_8 : Int), v3 = .int .i64 x3_8 ∧ Aside0 (monikerref01_Class.j2 kq a0 x3_8 = some r) ∧ Aside0 (kq ≤ kj5) ∧ Drawn0 w wc)
     case first =>
      have H := HC9.out
      clear HC9
      by_cases c10 : t274 = true
      ·
       subst c10
       rw [if_pos rfl] at H
       have H' := Aside0.mk H
       clear H
       go_wp2
       go_meet
       case rel => exact ⟨_, (wrap64 (x3_5 + 4)), xrr, H', ⟨by have := HJ2.out; have := HJ5.out; first | omega | exact Nat.le_refl _⟩, xdr⟩
      ·
       replace c10 := Bool.eq_false_iff.mpr c10
       subst c10
       rw [if_neg (show ¬ (false = true) by decide)] at H
       have H' := Aside0.mk H
       clear H
       go_wp2
       go_meet
       case rel => exact ⟨_, (x3_5), xrr, H', ⟨by have := HJ2.out; have := HJ5.out; first | omega | exact Nat.le_refl _⟩, xdr⟩
     case rest =>
      clear HC9
      obtain ⟨kq, x3_8, rfl, HA, HJ8, ⟨mc8, rfl⟩⟩ := hcut
      cases kq with
      | zero => exact absurd HA.out (by simp [monikerref01_Class.j2])
      | succ kj8 =>
       have H := HA.out
       clear HA
       simp only [monikerref01_Class.j2] at H
       replace H := Option.bind_eq_some_iff.mp H
       obtain ⟨t275, A110, H⟩ := H
       try dsimp only at H
       have A11 := Aside0.mk A110
       clear A110
       have HC12 := Aside0.mk H
       clear H
       go_upto_if 17 with (first | ((with_reducible refine gate_callee (f := 26) rfl ?_); refine xgl 17 Tryd.func26 #[.int .u8 a0, .string (⟨#[33, 36, 38, 39, 40, 41, 42, 43, 44, 59, 61]⟩ : ByteArray)] ?_; (with_reducible refine (monikerref01_In.calls kj8 a0 (⟨#[33, 36, 38, 39, 40, 41, 42, 43, 44, 59, 61]⟩ : ByteArray) t275 _ A11.out).mono ?_); rintro e w' ⟨rfl, ⟨nd, rfl⟩⟩; refine ⟨_, rfl, ?_⟩))
       (try simp only [Act.put, List.setIfInBounds_toArray, List.set_cons_zero, List.set_cons_succ])
       go_cut [3] (fun v3 wc => ∃ (kq : Nat) (x3_11 : Int), v3 = .int .i64 x3_11 ∧ Aside0 (monikerref01_Class.j3 kq a0 x3_11 = some r) ∧ Aside0 (kq ≤ kj8) ∧ Drawn0 w wc)
       case first =>
        have H := HC12.out
        clear HC12
        by_cases c13 : t275 = true
        ·
         subst c13
         rw [if_pos rfl] at H
         have H' := Aside0.mk H
         clear H
         go_wp2
         go_meet
         case rel => exact ⟨_, (wrap64 (x3_8 + 8)), xrr, H', ⟨by have := HJ2.out; have := HJ5.out; have := HJ8.out; first | omega | exact Nat.le_refl _⟩, xdr⟩
        ·
         replace c13 := Bool.eq_false_iff.mpr c13
         subst c13
         rw [if_neg (show ¬ (false = true) by decide)] at H
         have H' := Aside0.mk H
         clear H
         go_wp2
         go_meet
         case rel => exact ⟨_, (x3_8), xrr, H', ⟨by have := HJ2.out; have := HJ5.out; have := HJ8.out; first | omega | exact Nat.le_refl _⟩, xdr⟩
       case rest =>
        clear HC12
        obtain ⟨kq, x3_11, rfl, HA, HJ11, ⟨mc11, rfl⟩⟩ := hcut
        cases kq with
        | zero => exact absurd HA.out (by simp [monikerref01_Class.j3])
        | succ kj11 =>
         have H := HA.out
         clear HA
         simp only [monikerref01_Class.j3] at H
         replace H := Option.bind_eq_some_iff.mp H
         obtain ⟨t276, A140, H⟩ := H
         try dsimp only at H
         have A14 := Aside0.mk A140
         clear A140
         by_cases c15 : t276 = true
         ·
          subst c15
          rw [if_pos rfl] at H
          replace H := Option.bind_eq_some_iff.mp H
          obtain ⟨t277, A160, H⟩ := H
          try dsimp only at H
          have A16 := Aside0.mk A160
          clear A160
          by_cases c17 : t277 = true
          ·
           subst c17
           rw [if_pos rfl] at H
           obtain rfl := Option.some.inj H
           go_wp2_with (first | ((with_reducible refine gate_callee (f := 26) rfl ?_); refine xgl 21 Tryd.func26 #[.int .u8 a0, .string (⟨#[58, 47, 63, 35, 91, 93, 64]⟩ : ByteArray)] ?_; (with_reducible refine (monikerref01_In.calls kj11 a0 (⟨#[58, 47, 63, 35, 91, 93, 64]⟩ : ByteArray) true _ A14.out).mono ?_); rintro e w' ⟨rfl, ⟨nd, rfl⟩⟩; refine ⟨_, rfl, ?_⟩) | ((with_reducible refine gate_callee (f := 26) rfl ?_); refine xgl 25 Tryd.func26 #[.int .u8 a0, .string (⟨#[48, 49, 50, 51, 52, 53, 54, 55, 56, 57, 65, 66, 67, 68, 69, 70, 97, 98, 99, 100, 101, 102]⟩ : ByteArray)] ?_; (with_reducible refine (monikerref01_In.calls kj11 a0 (⟨#[48, 49, 50, 51, 52, 53, 54, 55, 56, 57, 65, 66, 67, 68, 69, 70, 97, 98, 99, 100, 101, 102]⟩ : ByteArray) true _ A16.out).mono ?_); rintro e w' ⟨rfl, ⟨nd, rfl⟩⟩; refine ⟨_, rfl, ?_⟩))
           go_ret
           exact ⟨xrr, xdr⟩
          ·
           replace c17 := Bool.eq_false_iff.mpr c17
           subst c17
           rw [if_neg (show ¬ (false = true) by decide)] at H
           obtain rfl := Option.some.inj H
           go_wp2_with (first | ((with_reducible refine gate_callee (f := 26) rfl ?_); refine xgl 21 Tryd.func26 #[.int .u8 a0, .string (⟨#[58, 47, 63, 35, 91, 93, 64]⟩ : ByteArray)] ?_; (with_reducible refine (monikerref01_In.calls kj11 a0 (⟨#[58, 47, 63, 35, 91, 93, 64]⟩ : ByteArray) true _ A14.out).mono ?_); rintro e w' ⟨rfl, ⟨nd, rfl⟩⟩; refine ⟨_, rfl, ?_⟩) | ((with_reducible refine gate_callee (f := 26) rfl ?_); refine xgl 25 Tryd.func26 #[.int .u8 a0, .string (⟨#[48, 49, 50, 51, 52, 53, 54, 55, 56, 57, 65, 66, 67, 68, 69, 70, 97, 98, 99, 100, 101, 102]⟩ : ByteArray)] ?_; (with_reducible refine (monikerref01_In.calls kj11 a0 (⟨#[48, 49, 50, 51, 52, 53, 54, 55, 56, 57, 65, 66, 67, 68, 69, 70, 97, 98, 99, 100, 101, 102]⟩ : ByteArray) false _ A16.out).mono ?_); rintro e w' ⟨rfl, ⟨nd, rfl⟩⟩; refine ⟨_, rfl, ?_⟩))
           go_ret
           exact ⟨xrr, xdr⟩
         ·
          replace c15 := Bool.eq_false_iff.mpr c15
          subst c15
          rw [if_neg (show ¬ (false = true) by decide)] at H
          replace H := Option.bind_eq_some_iff.mp H
          obtain ⟨t278, A180, H⟩ := H
          try dsimp only at H
          have A18 := Aside0.mk A180
          clear A180
          by_cases c19 : t278 = true
          ·
           subst c19
           rw [if_pos rfl] at H
           obtain rfl := Option.some.inj H
           go_wp2_with (first | ((with_reducible refine gate_callee (f := 26) rfl ?_); refine xgl 21 Tryd.func26 #[.int .u8 a0, .string (⟨#[58, 47, 63, 35, 91, 93, 64]⟩ : ByteArray)] ?_; (with_reducible refine (monikerref01_In.calls kj11 a0 (⟨#[58, 47, 63, 35, 91, 93, 64]⟩ : ByteArray) false _ A14.out).mono ?_); rintro e w' ⟨rfl, ⟨nd, rfl⟩⟩; refine ⟨_, rfl, ?_⟩) | ((with_reducible refine gate_callee (f := 26) rfl ?_); refine xgl 25 Tryd.func26 #[.int .u8 a0, .string (⟨#[48, 49, 50, 51, 52, 53, 54, 55, 56, 57, 65, 66, 67, 68, 69, 70, 97, 98, 99, 100, 101, 102]⟩ : ByteArray)] ?_; (with_reducible refine (monikerref01_In.calls kj11 a0 (⟨#[48, 49, 50, 51, 52, 53, 54, 55, 56, 57, 65, 66, 67, 68, 69, 70, 97, 98, 99, 100, 101, 102]⟩ : ByteArray) true _ A18.out).mono ?_); rintro e w' ⟨rfl, ⟨nd, rfl⟩⟩; refine ⟨_, rfl, ?_⟩))
           go_ret
           exact ⟨xrr, xdr⟩
          ·
           replace c19 := Bool.eq_false_iff.mpr c19
           subst c19
           rw [if_neg (show ¬ (false = true) by decide)] at H
           obtain rfl := Option.some.inj H
           go_wp2_with (first | ((with_reducible refine gate_callee (f := 26) rfl ?_); refine xgl 21 Tryd.func26 #[.int .u8 a0, .string (⟨#[58, 47, 63, 35, 91, 93, 64]⟩ : ByteArray)] ?_; (with_reducible refine (monikerref01_In.calls kj11 a0 (⟨#[58, 47, 63, 35, 91, 93, 64]⟩ : ByteArray) false _ A14.out).mono ?_); rintro e w' ⟨rfl, ⟨nd, rfl⟩⟩; refine ⟨_, rfl, ?_⟩) | ((with_reducible refine gate_callee (f := 26) rfl ?_); refine xgl 25 Tryd.func26 #[.int .u8 a0, .string (⟨#[48, 49, 50, 51, 52, 53, 54, 55, 56, 57, 65, 66, 67, 68, 69, 70, 97, 98, 99, 100, 101, 102]⟩ : ByteArray)] ?_; (with_reducible refine (monikerref01_In.calls kj11 a0 (⟨#[48, 49, 50, 51, 52, 53, 54, 55, 56, 57, 65, 66, 67, 68, 69, 70, 97, 98, 99, 100, 101, 102]⟩ : ByteArray) false _ A18.out).mono ?_); rintro e w' ⟨rfl, ⟨nd, rfl⟩⟩; refine ⟨_, rfl, ?_⟩))
           go_ret
           exact ⟨xrr, xdr⟩
mutual
def monikerref19_Future.j0 : Nat → ByteArray → Bool → Option (Bool)
  | 0, _, _ => none
  | k + 1, x0, x17 => if x17 = true then (some false) else (monikerref19_Future.l0 k x0 1)
def monikerref19_Future.j2 : Nat → ByteArray → Int → Option (Bool)
  | 0, _, _ => none
  | k + 1, x0, x3 => if x3 = 1 then (monikerref19_Future.j3 k x0 x3 true) else (if x3 ≥ (wrap64 ((x0.size : Int) - 1)) then (monikerref19_Future.j3 k x0 x3 true) else (if 0 ≤ x3 then (if x3 < (x0.size : Int) then (monikerref19_Future.j3 k x0 x3 ((bt x0 x3) != 46)) else (none)) else (none)))
def monikerref19_Future.j3 : Nat → ByteArray → Int → Bool → Option (Bool)
  | 0, _, _, _ => none
  | k + 1, x0, x3, x45 => if x45 = true then (some false) else (monikerref19_Future.l1 k x0 (wrap64 (x3 + 1)))
def monikerref19_Future.l1 : Nat → ByteArray → Int → Option (Bool)
  | 0, _, _ => none
  | k + 1, x0, x4 => if x4 < (x0.size : Int) then (if 0 ≤ x4 then ((monikerref01_Class.f k (bt x0 x4)).bind fun t280 => (if (Go.bits .and .i64 t280 15) = 0 then (if (bt x0 x4) = 58 then (monikerref19_Future.l1 k x0 (wrap64 (x4 + 1))) else (some false)) else (monikerref19_Future.l1 k x0 (wrap64 (x4 + 1))))) else (none)) else (some true)
def monikerref19_Future.l0 : Nat → ByteArray → Int → Option (Bool)
  | 0, _, _ => none
  | k + 1, x0, x3 => if x3 < (x0.size : Int) then (if 0 ≤ x3 then ((monikerref01_Value.f k (bt x0 x3)).bind fun t279 => (if t279 ≥ 0 then (monikerref19_Future.l0 k x0 (wrap64 (x3 + 1))) else (monikerref19_Future.j2 k x0 x3))) else (none)) else (monikerref19_Future.j2 k x0 x3)
end
def monikerref19_Future.f (k : Nat) (a0 : ByteArray) : Option (Bool) := if (a0.size : Int) < 4 then (monikerref19_Future.j0 k a0 true) else (if 0 < (a0.size : Int) then (if (bt a0 0) = 118 then (monikerref19_Future.j0 k a0 false) else (monikerref19_Future.j0 k a0 ((bt a0 0) != 86))) else (none))
theorem monikerref19_Future.mono_l : ∀ k, (∀ y0 y1, LeO (monikerref19_Future.j0 k y0 y1) (monikerref19_Future.j0 (k + 1) y0 y1)) ∧ (∀ y0 y1, LeO (monikerref19_Future.j2 k y0 y1) (monikerref19_Future.j2 (k + 1) y0 y1)) ∧ (∀ y0 y1 y2, LeO (monikerref19_Future.j3 k y0 y1 y2) (monikerref19_Future.j3 (k + 1) y0 y1 y2)) ∧ (∀ y0 y1, LeO (monikerref19_Future.l1 k y0 y1) (monikerref19_Future.l1 (k + 1) y0 y1)) ∧ (∀ y0 y1, LeO (monikerref19_Future.l0 k y0 y1) (monikerref19_Future.l0 (k + 1) y0 y1))
  | 0 => ⟨fun _ _ r h => by simp [monikerref19_Future.j0] at h, fun _ _ r h => by simp [monikerref19_Future.j2] at h, fun _ _ _ r h => by simp [monikerref19_Future.j3] at h, fun _ _ r h => by simp [monikerref19_Future.l1] at h, fun _ _ r h => by simp [monikerref19_Future.l0] at h⟩
  | k + 1 => by
    obtain ⟨ih0, ih1, ih2, ih3, ih4⟩ := monikerref19_Future.mono_l k
    have m0 := @monikerref01_Class.mono; have m1 := @monikerref01_Value.mono
    refine ⟨?_, ?_, ?_, ?_, ?_⟩
    · intro y0 y1
      unfold monikerref19_Future.j0
      exact xmo
    · intro y0 y1
      unfold monikerref19_Future.j2
      exact xmo
    · intro y0 y1 y2
      unfold monikerref19_Future.j3
      exact xmo
    · intro y0 y1
      unfold monikerref19_Future.l1
      exact xmo
    · intro y0 y1
      unfold monikerref19_Future.l0
      exact xmo
theorem monikerref19_Future.mono : ∀ a0 k, LeO (monikerref19_Future.f k a0) (monikerref19_Future.f (k + 1) a0) := by
  intro a0 k
  obtain ⟨ih0, ih1, ih2, ih3, ih4⟩ := monikerref19_Future.mono_l k
  have m0 := @monikerref01_Class.mono; have m1 := @monikerref01_Value.mono
  unfold monikerref19_Future.f
  exact xmo
set_option maxHeartbeats 8000000 in
set_option maxRecDepth 100000 in
theorem monikerref19_Future.calls (k : Nat) (a0 : ByteArray) (r : Bool) (w : World) (h : monikerref19_Future.f k a0 = some r) :
    Calls Tryd.prog 13 #[.string a0] w fun e w' => e = .returned (.bool r) ∧ Drawn0 w w' := by
 have H : (if (a0.size : Int) < 4 then (monikerref19_Future.j0 k a0 true) else (if 0 < (a0.size : Int) then (if (bt a0 0) = 118 then (monikerref19_Future.j0 k a0 false) else (monikerref19_Future.j0 k a0 ((bt a0 0) != 86))) else (none))) = some r := h
 clear h
 have HC2 := Aside0.mk H
 clear H
 go_enter Tryd.func13, Tryd.ntmps13
 go_upto_region 1 with (fail)
 go_cut [17] (fun v17 wc => ∃ (kq : Nat) (x17_1 : Bool), v17 = .bool x17_1 ∧ Aside0 (monikerref19_Future.j0 kq a0 x17_1 = some r) ∧ Aside0 (kq ≤ k) ∧ Drawn0 w wc)
 case first =>
  have H := HC2.out
  clear HC2
  by_cases c3 : (a0.size : Int) < 4
  ·
   rw [if_pos c3] at H
   have c3b0 := decide_eq_true c3
   have c3b1 : decide (a0.size < 4) = true := decide_eq_true (by omega)
   clear c3
   (first | rw [c3b0] | (simp only [i64_w, i32_w]; rw [c3b0]) | skip)
   have H' := Aside0.mk H
   clear H
   go_wp2
   go_meet
   case rel => exact ⟨_, (true), xrr, H', ⟨xom⟩, xdr⟩
  ·
   rw [if_neg c3] at H
   have c3b0 := decide_eq_false c3
   have c3b1 : decide (a0.size < 4) = false := decide_eq_false (by omega)
   clear c3
   (first | rw [c3b0] | (simp only [i64_w, i32_w]; rw [c3b0]) | skip)
   by_cases c4 : 0 < (a0.size : Int)
   ·
    rw [if_pos c4] at H
    have c4b0 := decide_eq_true c4
    have c4b1 : decide (0 < a0.size) = true := decide_eq_true (by omega)
    clear c4
    by_cases c6 : (bt a0 0) = 118
    ·
     rw [if_pos c6] at H
     have c6b0 : ((bt a0 0) == 118) = true := beq_iff_eq.mpr c6
     have c6b1 : ((bt a0 0) != 118) = false := bne_eq_false_iff_eq.mpr c6
     clear c6
     have H' := Aside0.mk H
     clear H
     have p5 : 0 ≤ (0 : Int) := (by omega)
     have q5 : 0 < a0.size := (by have : (0 : Int) < (a0.size : Int) := xod; omega)
     have hx5 : ∀ h : 0 < a0.size, ((a0[0]'h).toNat : Int) = bt a0 0 := bt_at a0 0
     clear p5
     have qi5 : (0 < (a0.size : Int)) = True := eq_true (xod)
     replace q5 := eq_true q5
     try (have q5x := q5; simp only [ByteArray.size_extract, Nat.min_self] at q5x)
     go_wp2
     go_meet
     case rel => exact ⟨_, (false), xrr, H', ⟨xom⟩, xdr⟩
    ·
     rw [if_neg c6] at H
     have c6b0 : ((bt a0 0) == 118) = false := beq_eq_false_iff_ne.mpr c6
     have c6b1 : ((bt a0 0) != 118) = true := bne_iff_ne.mpr c6
     have H' := Aside0.mk H
     clear H
     have p5 : 0 ≤ (0 : Int) := (by omega)
     have q5 : 0 < a0.size := (by have : (0 : Int) < (a0.size : Int) := xod; omega)
     have hx5 : ∀ h : 0 < a0.size, ((a0[0]'h).toNat : Int) = bt a0 0 := bt_at a0 0
     clear p5
     have qi5 : (0 < (a0.size : Int)) = True := eq_true (xod)
     replace q5 := eq_true q5
     try (have q5x := q5; simp only [ByteArray.size_extract, Nat.min_self] at q5x)
     have p7 : 0 ≤ (0 : Int) := (by omega)
     have q7 : 0 < a0.size := (by have : (0 : Int) < (a0.size : Int) := xod; omega)
     have hx7 : ∀ h : 0 < a0.size, ((a0[0]'h).toNat : Int) = bt a0 0 := bt_at a0 0
     clear p7
     have qi7 : (0 < (a0.size : Int)) = True := eq_true (xod)
     replace q7 := eq_true q7
     try (have q7x := q7; simp only [ByteArray.size_extract, Nat.min_self] at q7x)
     go_wp2
     go_meet
     case rel => exact ⟨_, (((bt a0 0) != 86)), xrr, H', ⟨xom⟩, xdr⟩
   ·
    rw [if_neg c4] at H
    exact absurd H (by simp)
 case rest =>
  clear HC2
  obtain ⟨kq, x17_1, rfl, HA, HJ1, ⟨mc1, rfl⟩⟩ := hcut
  cases kq with
  | zero => exact absurd HA.out (by simp [monikerref19_Future.j0])
  | succ kj1 =>
   have H := HA.out
   clear HA
   simp only [monikerref19_Future.j0] at H
   by_cases c8 : x17_1 = true
   ·
    subst c8
    rw [if_pos rfl] at H
    obtain rfl := Option.some.inj H
    go_wp2
    go_ret
    exact ⟨xrr, xdr⟩
   ·
    replace c8 := Bool.eq_false_iff.mpr c8
    subst c8
    rw [if_neg (show ¬ (false = true) by decide)] at H
    have HC9 := Aside0.mk H
    clear H
    go_upto_block 0 with (fail)
    go_cut [3] (fun v3 wc => ∃ (kq : Nat) (x3_8 : Int), v3 = .int .i64 x3_8 ∧ Aside0 (monikerref19_Future.j2 kq a0 x3_8 = some r) ∧ Aside0 (kq ≤ kj1) ∧ Drawn0 w wc)
    case first =>
     have H := HC9.out
     clear HC9
     have H' := Aside0.mk H
     clear H
     go_wp2
     go_loopg [3] kj1 (fun kq v3 w' => ∃ (x3_2 : Int), v3 = .int .i64 x3_2 ∧ Aside0 (monikerref19_Future.l0 kq a0 x3_2 = some r) ∧ Aside0 (kq ≤ kj1) ∧ Drawn0 w w')
     case atStart => exact ⟨(1), xrr, H', ⟨Nat.le_refl _⟩, xdr⟩
     case round =>
      clear H'
      obtain ⟨x3_2, rfl, HA, HK2, ⟨m2, rfl⟩⟩ := hrel
      cases gk with
      | zero => exact absurd HA.out (by simp [monikerref19_Future.l0])
      | succ k2 =>
       have H := HA.out
       clear HA
       simp only [monikerref19_Future.l0] at H
       by_cases c10 : x3_2 < (a0.size : Int)
       ·
        rw [if_pos c10] at H
        have c10b0 := decide_eq_true c10
        clear c10
        (first | rw [c10b0] | (simp only [i64_w, i32_w]; rw [c10b0]) | skip)
        by_cases c11 : 0 ≤ x3_2
        ·
         rw [if_pos c11] at H
         have c11b0 := decide_eq_true c11
         clear c11
         replace H := Option.bind_eq_some_iff.mp H
         obtain ⟨t279, A130, H⟩ := H
         try dsimp only at H
         have A13 := Aside0.mk A130
         clear A130
         by_cases c14 : t279 ≥ 0
         ·
          rw [if_pos c14] at H
          have c14b0 := decide_eq_true c14
          clear c14
          have H' := Aside0.mk H
          clear H
          have p12 : 0 ≤ (x3_2 : Int) := xod
          have q12 : x3_2 < (a0.size : Int) := xod
          have hx12 := bt_at a0 x3_2
          replace p12 := eq_true p12
          replace q12 := eq_true q12
          try (have q12x := q12; simp only [ByteArray.size_extract, Nat.min_self] at q12x)
          go_wp2_with (first | (go_at_call 29; (with_reducible refine (monikerref01_Value.calls k2 (bt a0 x3_2) t279 _ A13.out).mono ?_); rintro e w' ⟨rfl, ⟨nd, rfl⟩⟩))
          go_roundg k2
          case measure => have := HJ1.out; have := HK2.out; omega
          case rel => exact ⟨(wrap64 (x3_2 + 1)), xrr, H', ⟨by have := HJ1.out; have := HK2.out; omega⟩, xdr⟩
         ·
          rw [if_neg c14] at H
          have c14b0 := decide_eq_false c14
          clear c14
          have H' := Aside0.mk H
          clear H
          have p12 : 0 ≤ (x3_2 : Int) := xod
          have q12 : x3_2 < (a0.size : Int) := xod
          have hx12 := bt_at a0 x3_2
          replace p12 := eq_true p12
          replace q12 := eq_true q12
          try (have q12x := q12; simp only [ByteArray.size_extract, Nat.min_self] at q12x)
          go_wp2_with (first | (go_at_call 29; (with_reducible refine (monikerref01_Value.calls k2 (bt a0 x3_2) t279 _ A13.out).mono ?_); rintro e w' ⟨rfl, ⟨nd, rfl⟩⟩))
          go_meet
          case rel => exact ⟨_, (x3_2), xrr, H', ⟨by have := HJ1.out; have := HK2.out; first | omega | exact Nat.le_refl _⟩, xdr⟩
        ·
         rw [if_neg c11] at H
         exact absurd H (by simp)
       ·
        rw [if_neg c10] at H
        have c10b0 := decide_eq_false c10
        clear c10
        (first | rw [c10b0] | (simp only [i64_w, i32_w]; rw [c10b0]) | skip)
        have H' := Aside0.mk H
        clear H
        go_wp2
        go_meet
        case rel => exact ⟨_, (x3_2), xrr, H', ⟨by have := HJ1.out; have := HK2.out; first | omega | exact Nat.le_refl _⟩, xdr⟩
    case rest =>
     clear HC9
     obtain ⟨kq, x3_8, rfl, HA, HJ8, ⟨mc8, rfl⟩⟩ := hcut
     cases kq with
     | zero => exact absurd HA.out (by simp [monikerref19_Future.j2])
     | succ kj8 =>
      have H := HA.out
      clear HA
      simp only [monikerref19_Future.j2] at H
      have HC15 := Aside0.mk H
      clear H
      go_upto_region 6 with (fail)
      go_cut [45] (fun v45 wc => ∃ (kq : Nat) (x45_14 : Bool), v45 = .bool x45_14 ∧ Aside0 (monikerref19_Future.j3 kq a0 x3_8 x45_14 = some r) ∧ Aside0 (kq ≤ kj8) ∧ Drawn0 w wc)
      case first =>
       have H := HC15.out
       clear HC15
       by_cases c16 : x3_8 = 1
       ·
        rw [if_pos c16] at H
        have c16b0 : (x3_8 == 1) = true := beq_iff_eq.mpr c16
        have c16b1 : (x3_8 != 1) = false := bne_eq_false_iff_eq.mpr c16
        clear c16
        (first | rw [c16b0] | (simp only [i64_w, i32_w]; rw [c16b0]) | skip)
        have H' := Aside0.mk H
        clear H
        go_wp2
        go_meet
        case rel => exact ⟨_, (true), xrr, H', ⟨by have := HJ1.out; have := HJ8.out; first | omega | exact Nat.le_refl _⟩, xdr⟩
       ·
        rw [if_neg c16] at H
        have c16b0 : (x3_8 == 1) = false := beq_eq_false_iff_ne.mpr c16
        have c16b1 : (x3_8 != 1) = true := bne_iff_ne.mpr c16
        (first | rw [c16b0] | (simp only [i64_w, i32_w]; rw [c16b0]) | skip)
        by_cases c17 : x3_8 ≥ (wrap64 ((a0.size : Int) - 1))
        ·
         rw [if_pos c17] at H
         have c17b0 := decide_eq_true c17
         clear c17
         have H' := Aside0.mk H
         clear H
         go_wp2
         go_meet
         case rel => exact ⟨_, (true), xrr, H', ⟨by have := HJ1.out; have := HJ8.out; first | omega | exact Nat.le_refl _⟩, xdr⟩
        ·
         rw [if_neg c17] at H
         have c17b0 := decide_eq_false c17
         clear c17
         by_cases c18 : 0 ≤ x3_8
         ·
          rw [if_pos c18] at H
          have c18b0 := decide_eq_true c18
          clear c18
          by_cases c19 : x3_8 < (a0.size : Int)
          ·
           rw [if_pos c19] at H
           have c19b0 := decide_eq_true c19
           clear c19
           have H' := Aside0.mk H
           clear H
           have p20 : 0 ≤ (x3_8 : Int) := xod
           have q20 : x3_8 < (a0.size : Int) := xod
           have hx20 := bt_at a0 x3_8
           replace p20 := eq_true p20
           replace q20 := eq_true q20
           try (have q20x := q20; simp only [ByteArray.size_extract, Nat.min_self] at q20x)
           go_wp2
           go_meet
           case rel => exact ⟨_, (((bt a0 x3_8) != 46)), xrr, H', ⟨by have := HJ1.out; have := HJ8.out; first | omega | exact Nat.le_refl _⟩, xdr⟩
          ·
           rw [if_neg c19] at H
           exact absurd H (by simp)
         ·
          rw [if_neg c18] at H
          exact absurd H (by simp)
      case rest =>
       clear HC15
       obtain ⟨kq, x45_14, rfl, HA, HJ14, ⟨mc14, rfl⟩⟩ := hcut
       cases kq with
       | zero => exact absurd HA.out (by simp [monikerref19_Future.j3])
       | succ kj14 =>
        have H := HA.out
        clear HA
        simp only [monikerref19_Future.j3] at H
        by_cases c21 : x45_14 = true
        ·
         subst c21
         rw [if_pos rfl] at H
         obtain rfl := Option.some.inj H
         go_wp2
         go_ret
         exact ⟨xrr, xdr⟩
        ·
         replace c21 := Bool.eq_false_iff.mpr c21
         subst c21
         rw [if_neg (show ¬ (false = true) by decide)] at H
         have H' := Aside0.mk H
         clear H
         go_wp2
         go_loopg [4] kj14 (fun kq v4 w' => ∃ (x4_4 : Int), v4 = .int .i64 x4_4 ∧ Aside0 (monikerref19_Future.l1 kq a0 x4_4 = some r) ∧ Aside0 (kq ≤ kj14) ∧ Drawn0 w w')
         case atStart => exact ⟨(wrap64 (x3_8 + 1)), xrr, H', ⟨Nat.le_refl _⟩, xdr⟩
         case round =>
          clear H'
          obtain ⟨x4_4, rfl, HA, HK4, ⟨m4, rfl⟩⟩ := hrel
          cases gk with
          | zero => exact absurd HA.out (by simp [monikerref19_Future.l1])
          | succ k4 =>
           have H := HA.out
           clear HA
           simp only [monikerref19_Future.l1] at H
           by_cases c22 : x4_4 < (a0.size : Int)
           ·
            rw [if_pos c22] at H
            have c22b0 := decide_eq_true c22
            clear c22
            by_cases c23 : 0 ≤ x4_4
            ·
             rw [if_pos c23] at H
             have c23b0 := decide_eq_true c23
             clear c23
             replace H := Option.bind_eq_some_iff.mp H
             obtain ⟨t280, A250, H⟩ := H
             try dsimp only at H
             have A25 := Aside0.mk A250
             clear A250
             by_cases c26 : (Go.bits .and .i64 t280 15) = 0
             ·
              rw [if_pos c26] at H
              have c26b0 : ((Go.bits .and .i64 t280 15) == 0) = true := beq_iff_eq.mpr c26
              have c26b1 : ((Go.bits .and .i64 t280 15) != 0) = false := bne_eq_false_iff_eq.mpr c26
              clear c26
              by_cases c28 : (bt a0 x4_4) = 58
              ·
               rw [if_pos c28] at H
               have c28b0 : ((bt a0 x4_4) == 58) = true := beq_iff_eq.mpr c28
               have c28b1 : ((bt a0 x4_4) != 58) = false := bne_eq_false_iff_eq.mpr c28
               clear c28
               have H' := Aside0.mk H
               clear H
               have p24 : 0 ≤ (x4_4 : Int) := xod
               have q24 : x4_4 < (a0.size : Int) := xod
               have hx24 := bt_at a0 x4_4
               replace p24 := eq_true p24
               replace q24 := eq_true q24
               try (have q24x := q24; simp only [ByteArray.size_extract, Nat.min_self] at q24x)
               go_wp2_with (first | ((with_reducible refine gate_callee (f := 30) rfl ?_); refine xgl 57 Tryd.func30 #[.int .u8 (bt a0 x4_4)] ?_; (with_reducible refine (monikerref01_Class.calls k4 (bt a0 x4_4) t280 _ A25.out).mono ?_); rintro e w' ⟨rfl, ⟨nd, rfl⟩⟩; refine ⟨_, rfl, ?_⟩; have p27 : 0 ≤ (x4_4 : Int) := xod; have q27 : x4_4 < (a0.size : Int) := xod; have hx27 := bt_at a0 x4_4; replace p27 := eq_true p27; replace q27 := eq_true q27))
               go_roundg k4
               case measure => have := HJ1.out; have := HJ8.out; have := HJ14.out; have := HK4.out; omega
               case rel => exact ⟨(wrap64 (x4_4 + 1)), xrr, H', ⟨by have := HJ1.out; have := HJ8.out; have := HJ14.out; have := HK4.out; omega⟩, xdr⟩
              ·
               rw [if_neg c28] at H
               have c28b0 : ((bt a0 x4_4) == 58) = false := beq_eq_false_iff_ne.mpr c28
               have c28b1 : ((bt a0 x4_4) != 58) = true := bne_iff_ne.mpr c28
               obtain rfl := Option.some.inj H
               have p24 : 0 ≤ (x4_4 : Int) := xod
               have q24 : x4_4 < (a0.size : Int) := xod
               have hx24 := bt_at a0 x4_4
               replace p24 := eq_true p24
               replace q24 := eq_true q24
               try (have q24x := q24; simp only [ByteArray.size_extract, Nat.min_self] at q24x)
               go_wp2_with (first | ((with_reducible refine gate_callee (f := 30) rfl ?_); refine xgl 57 Tryd.func30 #[.int .u8 (bt a0 x4_4)] ?_; (with_reducible refine (monikerref01_Class.calls k4 (bt a0 x4_4) t280 _ A25.out).mono ?_); rintro e w' ⟨rfl, ⟨nd, rfl⟩⟩; refine ⟨_, rfl, ?_⟩; have p27 : 0 ≤ (x4_4 : Int) := xod; have q27 : x4_4 < (a0.size : Int) := xod; have hx27 := bt_at a0 x4_4; replace p27 := eq_true p27; replace q27 := eq_true q27))
               go_ret
               exact ⟨xrr, xdr⟩
             ·
              rw [if_neg c26] at H
              have c26b0 : ((Go.bits .and .i64 t280 15) == 0) = false := beq_eq_false_iff_ne.mpr c26
              have c26b1 : ((Go.bits .and .i64 t280 15) != 0) = true := bne_iff_ne.mpr c26
              have H' := Aside0.mk H
              clear H
              have p24 : 0 ≤ (x4_4 : Int) := xod
              have q24 : x4_4 < (a0.size : Int) := xod
              have hx24 := bt_at a0 x4_4
              replace p24 := eq_true p24
              replace q24 := eq_true q24
              try (have q24x := q24; simp only [ByteArray.size_extract, Nat.min_self] at q24x)
              go_wp2_with (first | ((with_reducible refine gate_callee (f := 30) rfl ?_); refine xgl 57 Tryd.func30 #[.int .u8 (bt a0 x4_4)] ?_; (with_reducible refine (monikerref01_Class.calls k4 (bt a0 x4_4) t280 _ A25.out).mono ?_); rintro e w' ⟨rfl, ⟨nd, rfl⟩⟩; refine ⟨_, rfl, ?_⟩))
              go_roundg k4
              case measure => have := HJ1.out; have := HJ8.out; have := HJ14.out; have := HK4.out; omega
              case rel => exact ⟨(wrap64 (x4_4 + 1)), xrr, H', ⟨by have := HJ1.out; have := HJ8.out; have := HJ14.out; have := HK4.out; omega⟩, xdr⟩
            ·
             rw [if_neg c23] at H
             exact absurd H (by simp)
           ·
            rw [if_neg c22] at H
            have c22b0 := decide_eq_false c22
            clear c22
            obtain rfl := Option.some.inj H
            go_wp2
            go_ret
            exact ⟨xrr, xdr⟩
end Go.Proofs.YticohlbfolnmpaaDoor.X
namespace Go.Proofs.YticohlbfolnmpaaDoor.X
open Go.RowKit Go.Proofs.YticohlbfolnmpaaDoorW.PrintWords Go.Proofs.YticohlbfolnmpaaDoorW.PrintLast Go.Proofs.YticohlbfolnmpaaDoorW.PrintMore
attribute [local go_sem] max2_int min2_int max_two min_two max_three min_three max_four min_four
set_option linter.unusedVariables false
set_option linter.unusedSimpArgs false
def monikerref04_At.j0 : Nat → ByteArray → Int → Bool → Option (Int)
  | 0, _, _, _ => none
  | k + 1, x0, x1, x27 => if x27 = true then (some (-1)) else (if 0 ≤ (wrap64 (x1 + 1)) then (if (wrap64 (x1 + 1)) < (x0.size : Int) then ((monikerref01_Value.f k (bt x0 (wrap64 (x1 + 1)))).bind fun t317 => (if 0 ≤ (wrap64 (x1 + 2)) then (if (wrap64 (x1 + 2)) < (x0.size : Int) then ((monikerref01_Value.f k (bt x0 (wrap64 (x1 + 2)))).bind fun t318 => (if t317 < 0 then (some (-1)) else (if t318 < 0 then (some (-1)) else (some (wrap64 ((wrap64 (16 * t317)) + t318)))))) else (none)) else (none))) else (none)) else (none))
def monikerref04_At.f (k : Nat) (a0 : ByteArray) (a1 : Int) : Option (Int) := if a1 < 0 then (monikerref04_At.j0 k a0 a1 true) else (if a1 ≥ (a0.size : Int) then (monikerref04_At.j0 k a0 a1 true) else (if (wrap64 ((a0.size : Int) - a1)) < 3 then (monikerref04_At.j0 k a0 a1 true) else (if 0 ≤ a1 then (if a1 < (a0.size : Int) then (monikerref04_At.j0 k a0 a1 ((bt a0 a1) != 37)) else (none)) else (none))))
theorem monikerref04_At.mono_l : ∀ k, (∀ y0 y1 y2, LeO (monikerref04_At.j0 k y0 y1 y2) (monikerref04_At.j0 (k + 1) y0 y1 y2))
  | 0 => fun _ _ _ r h => by simp [monikerref04_At.j0] at h
  | k + 1 => by
    have ih0 := monikerref04_At.mono_l k
    have m0 := @monikerref01_Value.mono
    · intro y0 y1 y2
      unfold monikerref04_At.j0
      exact xmo
theorem monikerref04_At.mono : ∀ a0 a1 k, LeO (monikerref04_At.f k a0 a1) (monikerref04_At.f (k + 1) a0 a1) := by
  intro a0 a1 k
  have ih0 := monikerref04_At.mono_l k
  have m0 := @monikerref01_Value.mono
  unfold monikerref04_At.f
  exact xmo
set_option maxHeartbeats 8000000 in
set_option maxRecDepth 100000 in
theorem monikerref04_At.calls (k : Nat) (a0 : ByteArray) (a1 : Int) (r : Int) (w : World) (h : monikerref04_At.f k a0 a1 = some r) :
    Calls Tryd.prog 63 #[.string a0, .int .i64 a1] w fun e w' => e = .returned (.int .i64 r) ∧ Drawn0 w w' := by
 have H : (if a1 < 0 then (monikerref04_At.j0 k a0 a1 true) else (if a1 ≥ (a0.size : Int) then (monikerref04_At.j0 k a0 a1 true) else (if (wrap64 ((a0.size : Int) - a1)) < 3 then (monikerref04_At.j0 k a0 a1 true) else (if 0 ≤ a1 then (if a1 < (a0.size : Int) then (monikerref04_At.j0 k a0 a1 ((bt a0 a1) != 37)) else (none)) else (none))))) = some r := h
 clear h
 have HC3 := Aside0.mk H
 clear H
 go_enter Tryd.func63, Tryd.ntmps63
 go_upto_region 1 with (fail)
 repeat (go_quiet (fail); go_upto_region 1 with (fail))
 go_cut [27] (fun v27 wc => ∃ (kq : Nat) (x27_2 : Bool), v27 = .bool x27_2 ∧ Aside0 (monikerref04_At.j0 kq a0 a1 x27_2 = some r) ∧ Aside0 (kq ≤ k) ∧ Drawn0 w wc)
 case first =>
  have H := HC3.out
  clear HC3
  by_cases c4 : a1 < 0
  ·
   rw [if_pos c4] at H
   have c4b0 := decide_eq_true c4
   clear c4
   (first | rw [c4b0] | (simp only [i64_w, i32_w]; rw [c4b0]) | skip)
   have H' := Aside0.mk H
   clear H
   go_wp2
   repeat (go_quiet (fail); try go_wp2)
   go_meet
   case rel => exact ⟨_, (true), xrr, H', ⟨xom⟩, xdr⟩
  ·
   rw [if_neg c4] at H
   have c4b0 := decide_eq_false c4
   clear c4
   (first | rw [c4b0] | (simp only [i64_w, i32_w]; rw [c4b0]) | skip)
   by_cases c5 : a1 ≥ (a0.size : Int)
   ·
    rw [if_pos c5] at H
    have c5b0 := decide_eq_true c5
    clear c5
    have H' := Aside0.mk H
    clear H
    go_wp2
    repeat (go_quiet (fail); try go_wp2)
    go_meet
    case rel => exact ⟨_, (true), xrr, H', ⟨xom⟩, xdr⟩
   ·
    rw [if_neg c5] at H
    have c5b0 := decide_eq_false c5
    clear c5
    by_cases c6 : (wrap64 ((a0.size : Int) - a1)) < 3
    ·
     rw [if_pos c6] at H
     have c6b0 := decide_eq_true c6
     clear c6
     have H' := Aside0.mk H
     clear H
     go_wp2
     repeat (go_quiet (fail); try go_wp2)
     go_meet
     case rel => exact ⟨_, (true), xrr, H', ⟨xom⟩, xdr⟩
    ·
     rw [if_neg c6] at H
     have c6b0 := decide_eq_false c6
     clear c6
     by_cases c7 : 0 ≤ a1
     ·
      rw [if_pos c7] at H
      have c7b0 := decide_eq_true c7
      clear c7
      by_cases c8 : a1 < (a0.size : Int)
      ·
       rw [if_pos c8] at H
       have c8b0 := decide_eq_true c8
       clear c8
       have H' := Aside0.mk H
       clear H
       have p9 : 0 ≤ (a1 : Int) := xod
       have q9 : a1 < (a0.size : Int) := xod
       have hx9 := bt_at a0 a1
       replace p9 := eq_true p9
       replace q9 := eq_true q9
       try (have q9x := q9; simp only [ByteArray.size_extract, Nat.min_self] at q9x)
       go_wp2
       repeat (go_quiet (fail); try go_wp2)
       go_meet
       case rel => exact ⟨_, (((bt a0 a1) != 37)), xrr, H', ⟨xom⟩, xdr⟩
      ·
       rw [if_neg c8] at H
       exact absurd H (by simp)
     ·
      rw [if_neg c7] at H
      exact absurd H (by simp)
 case rest =>
  clear HC3
  obtain ⟨kq, x27_2, rfl, HA, HJ2, ⟨mc2, rfl⟩⟩ := hcut
  cases kq with
  | zero => exact absurd HA.out (by simp [monikerref04_At.j0])
  | succ kj2 =>
   have H := HA.out
   clear HA
   simp only [monikerref04_At.j0] at H
   by_cases c10 : x27_2 = true
   ·
    subst c10
    rw [if_pos rfl] at H
    obtain rfl := Option.some.inj H
    go_wp2
    repeat (go_quiet (fail); try go_wp2)
    go_ret
    exact ⟨xrr, xdr⟩
   ·
    replace c10 := Bool.eq_false_iff.mpr c10
    subst c10
    rw [if_neg (show ¬ (false = true) by decide)] at H
    obtain ⟨ji11, hji11⟩ : ∃ j_ : Int, (wrap64 (a1 + 1)) = j_ := ⟨_, rfl⟩
    first | rw [hji11] at H | simp only [hji11] at H | skip
    have hji11w : (IntKind.i64.wrap (a1 + 1)) = ji11 := (i64_w _).trans hji11
    by_cases c12 : 0 ≤ (ji11)
    ·
     rw [if_pos c12] at H
     have c12b0 := decide_eq_true c12
     clear c12
     by_cases c13 : (ji11) < (a0.size : Int)
     ·
      rw [if_pos c13] at H
      have c13b0 := decide_eq_true c13
      clear c13
      replace H := Option.bind_eq_some_iff.mp H
      obtain ⟨t317, A150, H⟩ := H
      try dsimp only at H
      have A15 := Aside0.mk A150
      clear A150
      obtain ⟨ji16, hji16⟩ : ∃ j_ : Int, (wrap64 (a1 + 2)) = j_ := ⟨_, rfl⟩
      first | rw [hji16] at H | simp only [hji16] at H | skip
      (try rw [hji16] at A15)
      have hji16w : (IntKind.i64.wrap (a1 + 2)) = ji16 := (i64_w _).trans hji16
      by_cases c17 : 0 ≤ (ji16)
      ·
       rw [if_pos c17] at H
       have c17b0 := decide_eq_true c17
       clear c17
       by_cases c18 : (ji16) < (a0.size : Int)
       ·
        rw [if_pos c18] at H
        have c18b0 := decide_eq_true c18
        clear c18
        replace H := Option.bind_eq_some_iff.mp H
        obtain ⟨t318, A200, H⟩ := H
        try dsimp only at H
        have A20 := Aside0.mk A200
        clear A200
        by_cases c21 : t317 < 0
        ·
         rw [if_pos c21] at H
         have c21b0 := decide_eq_true c21
         clear c21
         obtain rfl := Option.some.inj H
         have p14 : 0 ≤ ((ji11) : Int) := xod
         have q14 : (ji11) < (a0.size : Int) := xod
         have hx14 := bt_at a0 (ji11)
         replace p14 := eq_true p14
         replace q14 := eq_true q14
         try (have q14x := q14; simp only [ByteArray.size_extract, Nat.min_self] at q14x)
         go_wp2_with (first | (go_at_call 29; (with_reducible refine (monikerref01_Value.calls kj2 (bt a0 (ji11)) t317 _ A15.out).mono ?_); rintro e w' ⟨rfl, ⟨nd, rfl⟩⟩; (try first | exact ⟨rfl, _, World.drewN_drewN _ _ _⟩ | exact ⟨rfl, _, Eq.trans (World.drewN_drewN _ _ _) (congrArg (World.drewN _) (Nat.add_assoc _ _ _))⟩); have p19 : 0 ≤ ((ji16) : Int) := xod; have q19 : (ji16) < (a0.size : Int) := xod; have hx19 := bt_at a0 (ji16); replace p19 := eq_true p19; replace q19 := eq_true q19) | (go_at_call 29; (with_reducible refine (monikerref01_Value.calls kj2 (bt a0 (ji16)) t318 _ A20.out).mono ?_); rintro e w' ⟨rfl, ⟨nd, rfl⟩⟩; (try first | exact ⟨rfl, _, World.drewN_drewN _ _ _⟩ | exact ⟨rfl, _, Eq.trans (World.drewN_drewN _ _ _) (congrArg (World.drewN _) (Nat.add_assoc _ _ _))⟩)))
         repeat (go_quiet (first | (go_at_call 29; (with_reducible refine (monikerref01_Value.calls kj2 (bt a0 (ji11)) t317 _ A15.out).mono ?_); rintro e w' ⟨rfl, ⟨nd, rfl⟩⟩; (try first | exact ⟨rfl, _, World.drewN_drewN _ _ _⟩ | exact ⟨rfl, _, Eq.trans (World.drewN_drewN _ _ _) (congrArg (World.drewN _) (Nat.add_assoc _ _ _))⟩); have p19 : 0 ≤ ((ji16) : Int) := xod; have q19 : (ji16) < (a0.size : Int) := xod; have hx19 := bt_at a0 (ji16); replace p19 := eq_true p19; replace q19 := eq_true q19) | (go_at_call 29; (with_reducible refine (monikerref01_Value.calls kj2 (bt a0 (ji16)) t318 _ A20.out).mono ?_); rintro e w' ⟨rfl, ⟨nd, rfl⟩⟩; (try first | exact ⟨rfl, _, World.drewN_drewN _ _ _⟩ | exact ⟨rfl, _, Eq.trans (World.drewN_drewN _ _ _) (congrArg (World.drewN _) (Nat.add_assoc _ _ _))⟩))); try go_wp2_with (first | (go_at_call 29; (with_reducible refine (monikerref01_Value.calls kj2 (bt a0 (ji11)) t317 _ A15.out).mono ?_); rintro e w' ⟨rfl, ⟨nd, rfl⟩⟩; (try first | exact ⟨rfl, _, World.drewN_drewN _ _ _⟩ | exact ⟨rfl, _, Eq.trans (World.drewN_drewN _ _ _) (congrArg (World.drewN _) (Nat.add_assoc _ _ _))⟩); have p19 : 0 ≤ ((ji16) : Int) := xod; have q19 : (ji16) < (a0.size : Int) := xod; have hx19 := bt_at a0 (ji16); replace p19 := eq_true p19; replace q19 := eq_true q19) | (go_at_call 29; (with_reducible refine (monikerref01_Value.calls kj2 (bt a0 (ji16)) t318 _ A20.out).mono ?_); rintro e w' ⟨rfl, ⟨nd, rfl⟩⟩; (try first | exact ⟨rfl, _, World.drewN_drewN _ _ _⟩ | exact ⟨rfl, _, Eq.trans (World.drewN_drewN _ _ _) (congrArg (World.drewN _) (Nat.add_assoc _ _ _))⟩))))
         go_ret
         exact ⟨by first | rfl | (simp; done) | (simp only [← hji11, ← hji16] <;> (first | rfl | simp)) | (simp [*]; done) | (simp [wrap64]; done), xdr⟩
        ·
         rw [if_neg c21] at H
         have c21b0 := decide_eq_false c21
         clear c21
         by_cases c22 : t318 < 0
         ·
          rw [if_pos c22] at H
          have c22b0 := decide_eq_true c22
          clear c22
          obtain rfl := Option.some.inj H
          have p14 : 0 ≤ ((ji11) : Int) := xod
          have q14 : (ji11) < (a0.size : Int) := xod
          have hx14 := bt_at a0 (ji11)
          replace p14 := eq_true p14
          replace q14 := eq_true q14
          try (have q14x := q14; simp only [ByteArray.size_extract, Nat.min_self] at q14x)
          go_wp2_with (first | (go_at_call 29; (with_reducible refine (monikerref01_Value.calls kj2 (bt a0 (ji11)) t317 _ A15.out).mono ?_); rintro e w' ⟨rfl, ⟨nd, rfl⟩⟩; (try first | exact ⟨rfl, _, World.drewN_drewN _ _ _⟩ | exact ⟨rfl, _, Eq.trans (World.drewN_drewN _ _ _) (congrArg (World.drewN _) (Nat.add_assoc _ _ _))⟩); have p19 : 0 ≤ ((ji16) : Int) := xod; have q19 : (ji16) < (a0.size : Int) := xod; have hx19 := bt_at a0 (ji16); replace p19 := eq_true p19; replace q19 := eq_true q19) | (go_at_call 29; (with_reducible refine (monikerref01_Value.calls kj2 (bt a0 (ji16)) t318 _ A20.out).mono ?_); rintro e w' ⟨rfl, ⟨nd, rfl⟩⟩; (try first | exact ⟨rfl, _, World.drewN_drewN _ _ _⟩ | exact ⟨rfl, _, Eq.trans (World.drewN_drewN _ _ _) (congrArg (World.drewN _) (Nat.add_assoc _ _ _))⟩)))
          repeat (go_quiet (first | (go_at_call 29; (with_reducible refine (monikerref01_Value.calls kj2 (bt a0 (ji11)) t317 _ A15.out).mono ?_); rintro e w' ⟨rfl, ⟨nd, rfl⟩⟩; (try first | exact ⟨rfl, _, World.drewN_drewN _ _ _⟩ | exact ⟨rfl, _, Eq.trans (World.drewN_drewN _ _ _) (congrArg (World.drewN _) (Nat.add_assoc _ _ _))⟩); have p19 : 0 ≤ ((ji16) : Int) := xod; have q19 : (ji16) < (a0.size : Int) := xod; have hx19 := bt_at a0 (ji16); replace p19 := eq_true p19; replace q19 := eq_true q19) | (go_at_call 29; (with_reducible refine (monikerref01_Value.calls kj2 (bt a0 (ji16)) t318 _ A20.out).mono ?_); rintro e w' ⟨rfl, ⟨nd, rfl⟩⟩; (try first | exact ⟨rfl, _, World.drewN_drewN _ _ _⟩ | exact ⟨rfl, _, Eq.trans (World.drewN_drewN _ _ _) (congrArg (World.drewN _) (Nat.add_assoc _ _ _))⟩))); try go_wp2_with (first | (go_at_call 29; (with_reducible refine (monikerref01_Value.calls kj2 (bt a0 (ji11)) t317 _ A15.out).mono ?_); rintro e w' ⟨rfl, ⟨nd, rfl⟩⟩; (try first | exact ⟨rfl, _, World.drewN_drewN _ _ _⟩ | exact ⟨rfl, _, Eq.trans (World.drewN_drewN _ _ _) (congrArg (World.drewN _) (Nat.add_assoc _ _ _))⟩); have p19 : 0 ≤ ((ji16) : Int) := xod; have q19 : (ji16) < (a0.size : Int) := xod; have hx19 := bt_at a0 (ji16); replace p19 := eq_true p19; replace q19 := eq_true q19) | (go_at_call 29; (with_reducible refine (monikerref01_Value.calls kj2 (bt a0 (ji16)) t318 _ A20.out).mono ?_); rintro e w' ⟨rfl, ⟨nd, rfl⟩⟩; (try first | exact ⟨rfl, _, World.drewN_drewN _ _ _⟩ | exact ⟨rfl, _, Eq.trans (World.drewN_drewN _ _ _) (congrArg (World.drewN _) (Nat.add_assoc _ _ _))⟩))))
          go_ret
          exact ⟨by first | rfl | (simp; done) | (simp only [← hji11, ← hji16] <;> (first | rfl | simp)) | (simp [*]; done) | (simp [wrap64]; done), xdr⟩
         ·
          rw [if_neg c22] at H
          have c22b0 := decide_eq_false c22
          clear c22
          obtain rfl := Option.some.inj H
          have p14 : 0 ≤ ((ji11) : Int) := xod
          have q14 : (ji11) < (a0.size : Int) := xod
          have hx14 := bt_at a0 (ji11)
          replace p14 := eq_true p14
          replace q14 := eq_true q14
          try (have q14x := q14; simp only [ByteArray.size_extract, Nat.min_self] at q14x)
          go_wp2_with (first | (go_at_call 29; (with_reducible refine (monikerref01_Value.calls kj2 (bt a0 (ji11)) t317 _ A15.out).mono ?_); rintro e w' ⟨rfl, ⟨nd, rfl⟩⟩; (try first | exact ⟨rfl, _, World.drewN_drewN _ _ _⟩ | exact ⟨rfl, _, Eq.trans (World.drewN_drewN _ _ _) (congrArg (World.drewN _) (Nat.add_assoc _ _ _))⟩); have p19 : 0 ≤ ((ji16) : Int) := xod; have q19 : (ji16) < (a0.size : Int) := xod; have hx19 := bt_at a0 (ji16); replace p19 := eq_true p19; replace q19 := eq_true q19) | (go_at_call 29; (with_reducible refine (monikerref01_Value.calls kj2 (bt a0 (ji16)) t318 _ A20.out).mono ?_); rintro e w' ⟨rfl, ⟨nd, rfl⟩⟩; (try first | exact ⟨rfl, _, World.drewN_drewN _ _ _⟩ | exact ⟨rfl, _, Eq.trans (World.drewN_drewN _ _ _) (congrArg (World.drewN _) (Nat.add_assoc _ _ _))⟩)))
          repeat (go_quiet (first | (go_at_call 29; (with_reducible refine (monikerref01_Value.calls kj2 (bt a0 (ji11)) t317 _ A15.out).mono ?_); rintro e w' ⟨rfl, ⟨nd, rfl⟩⟩; (try first | exact ⟨rfl, _, World.drewN_drewN _ _ _⟩ | exact ⟨rfl, _, Eq.trans (World.drewN_drewN _ _ _) (congrArg (World.drewN _) (Nat.add_assoc _ _ _))⟩); have p19 : 0 ≤ ((ji16) : Int) := xod; have q19 : (ji16) < (a0.size : Int) := xod; have hx19 := bt_at a0 (ji16); replace p19 := eq_true p19; replace q19 := eq_true q19) | (go_at_call 29; (with_reducible refine (monikerref01_Value.calls kj2 (bt a0 (ji16)) t318 _ A20.out).mono ?_); rintro e w' ⟨rfl, ⟨nd, rfl⟩⟩; (try first | exact ⟨rfl, _, World.drewN_drewN _ _ _⟩ | exact ⟨rfl, _, Eq.trans (World.drewN_drewN _ _ _) (congrArg (World.drewN _) (Nat.add_assoc _ _ _))⟩))); try go_wp2_with (first | (go_at_call 29; (with_reducible refine (monikerref01_Value.calls kj2 (bt a0 (ji11)) t317 _ A15.out).mono ?_); rintro e w' ⟨rfl, ⟨nd, rfl⟩⟩; (try first | exact ⟨rfl, _, World.drewN_drewN _ _ _⟩ | exact ⟨rfl, _, Eq.trans (World.drewN_drewN _ _ _) (congrArg (World.drewN _) (Nat.add_assoc _ _ _))⟩); have p19 : 0 ≤ ((ji16) : Int) := xod; have q19 : (ji16) < (a0.size : Int) := xod; have hx19 := bt_at a0 (ji16); replace p19 := eq_true p19; replace q19 := eq_true q19) | (go_at_call 29; (with_reducible refine (monikerref01_Value.calls kj2 (bt a0 (ji16)) t318 _ A20.out).mono ?_); rintro e w' ⟨rfl, ⟨nd, rfl⟩⟩; (try first | exact ⟨rfl, _, World.drewN_drewN _ _ _⟩ | exact ⟨rfl, _, Eq.trans (World.drewN_drewN _ _ _) (congrArg (World.drewN _) (Nat.add_assoc _ _ _))⟩))))
          go_ret
          exact ⟨by first | rfl | (simp; done) | (simp only [← hji11, ← hji16] <;> (first | rfl | simp)) | (simp [*]; done) | (simp [wrap64]; done), xdr⟩
       ·
        rw [if_neg c18] at H
        exact absurd H (by simp)
      ·
       rw [if_neg c17] at H
       exact absurd H (by simp)
     ·
      rw [if_neg c13] at H
      exact absurd H (by simp)
    ·
     rw [if_neg c12] at H
     exact absurd H (by simp)
def monikerref02_row_nums : List Int := [0, 127, 0, 0, 1, 194, 223, 128, 191, 2, 224, 224, 160, 191, 3, 225, 236, 128, 191, 3, 237, 237, 128, 159, 3, 238, 239, 128, 191, 3, 240, 240, 144, 191, 4, 241, 243, 128, 191, 4, 244, 244, 128, 143, 4]
def monikerref02_row_cells : Array Value := (monikerref02_row_nums.map (Value.int .i64)).toArray
def monikerref02_row_zeros : Array Value := #[.int .i64 0, .int .i64 0, .int .i64 0, .int .i64 0, .int .i64 0]
def monikerref02_row_at (i j : Nat) : Int := monikerref02_row_nums.getD (i * 5 + j) 0
theorem monikerref02_row_cell {w : World} {g : Nat} (h : w.heap[g]? = some (.cells monikerref02_row_cells 129 (0, 0))) (i j : Nat) (hi : i < 9) (hj : j < 5) : w.cell? ⟨g, i * 5 + j, none⟩ = some (.int .i64 (monikerref02_row_at i j)) := by
  rw [cell_of_row w g _ _ _ _ h]
  unfold monikerref02_row_cells monikerref02_row_at
  have hl : i * 5 + j < monikerref02_row_nums.length := by show i * 5 + j < 45; omega
  simp [List.getElem?_eq_getElem hl, List.getD_eq_getElem?_getD]
theorem monikerref02_row_setRow_other (w : World) (g i : Nat) (cs : Array Value) (h : i ≠ g) : (w.setRow g cs).heap[i]? = w.heap[i]? := by
  simp only [World.setRow, Array.getElem?_modify, if_neg (Ne.symm h)]
theorem monikerref02_row_below {b : Nat} {w w2 : World} (h : Below b w w2) {g : Nat} (hg : b ≤ g) (cs : Array Value) : Below b w (w2.setRow g cs) :=
  h.trans ⟨rfl, rfl, rfl, by simp, fun k hk => monikerref02_row_setRow_other _ _ _ _ (by omega)⟩
theorem monikerref02_row_two (w : World) (a b c : Array Value) (s t : TypeId) :
    let w2 := ((w.alloc (.cells a s)).alloc (.cells b t)).setRow (w.heap.size + 1) c
    w2.heap[w.heap.size]? = some (.cells a s (0, 0)) ∧ w2.heap[w.heap.size + 1]? = some (.cells c t (0, 0)) ∧ Below w.heap.size w w2 := by
  intro w2
  refine ⟨?_, setRow_heap _ _ _ _ _ _ (heap_alloc2_new w _ _), ?_⟩
  · rw [monikerref02_row_setRow_other _ _ _ _ (by omega)]
    exact heap_alloc2_old w _ _
  · exact monikerref02_row_below (((Below.refl _ _).alloc (Nat.le_refl _) _).alloc (by simp) _) (by omega) _
set_option maxHeartbeats 2000000 in
set_option maxRecDepth 100000 in
theorem monikerref02_row_any (i : Nat) (hi : i < 9) (w : World) : Calls Tryd.prog 82 #[.int .i64 i] w fun e w' => e = .returned (.agg #[.int .i64 (monikerref02_row_at i 0), .int .i64 (monikerref02_row_at i 1), .int .i64 (monikerref02_row_at i 2), .int .i64 (monikerref02_row_at i 3), .int .i64 (monikerref02_row_at i 4)]) ∧ Below w.heap.size w w' := by
  have hu5 := Tryd.underlying112
  have hu9 := Tryd.underlying129
  go_enter Tryd.func82, Tryd.ntmps82
  go_wp2_with (refine wpList_store_row rfl 129 (.tmp 3) (.tmp 13) rfl (w.heap.size + 1) monikerref02_row_cells (by as_aux_lemma => rfl) (by as_aux_lemma => rfl) 129 (Array.replicate 45 (.int .i64 0)) (by as_aux_lemma => exact heap_alloc2_new _ _ _) (by as_aux_lemma => kernel_rfl) (by as_aux_lemma => kernel_rfl) (by as_aux_lemma => kernel_rfl) ?_; have h2 := monikerref02_row_two w monikerref02_row_zeros (Array.replicate 45 (.int .i64 0)) monikerref02_row_cells 112 129; generalize hg : World.setRow _ _ _ = w2; have h3 : w2.heap[w.heap.size]? = some (.cells monikerref02_row_zeros 112 (0, 0)) ∧ w2.heap[w.heap.size + 1]? = some (.cells monikerref02_row_cells 129 (0, 0)) ∧ Below w.heap.size w w2 := hg ▸ h2; clear hg h2; obtain ⟨b1, b2, b3⟩ := h3; have hB1 := Aside0.mk b1; have hB2 := Aside0.mk b2; have hB3 := Aside0.mk b3; have c0 : w2.cell? ⟨w.heap.size + 1, i * 5, none⟩ = some (.int .i64 (monikerref02_row_at i 0)) := monikerref02_row_cell b2 i 0 hi (by omega); have c1 := monikerref02_row_cell b2 i 1 hi (by omega); have c2 := monikerref02_row_cell b2 i 2 hi (by omega); have c3 := monikerref02_row_cell b2 i 3 hi (by omega); have c4 := monikerref02_row_cell b2 i 4 hi (by omega); clear b1 b2 b3; have z0 : w2.cell? ⟨w.heap.size, 0, none⟩ = some (.int .i64 0) := (blk_cell hB1.out 0).trans rfl; have z1 : w2.cell? ⟨w.heap.size, 1, none⟩ = some (.int .i64 0) := (blk_cell hB1.out 1).trans rfl; have z2 : w2.cell? ⟨w.heap.size, 2, none⟩ = some (.int .i64 0) := (blk_cell hB1.out 2).trans rfl; have z3 : w2.cell? ⟨w.heap.size, 3, none⟩ = some (.int .i64 0) := (blk_cell hB1.out 3).trans rfl; have z4 : w2.cell? ⟨w.heap.size, 4, none⟩ = some (.int .i64 0) := (blk_cell hB1.out 4).trans rfl; have f0 := xf hB1 0; have f1 := xf hB1 1; have f2 := xf hB1 2; have f3 := xf hB1 3; have f4 := xf hB1 4; generalize hg : w.heap.size = g at *; have hG := Aside0.mk hg; clear hg)
  refine bodyPost_ret (results_cell_row rfl _ _ g 112 #[.int .i64 (monikerref02_row_at i 0), .int .i64 (monikerref02_row_at i 1), .int .i64 (monikerref02_row_at i 2), .int .i64 (monikerref02_row_at i 3), .int .i64 (monikerref02_row_at i 4)] (0, 0) _ rfl (by refine blk_put (cs := #[.int .i64 (monikerref02_row_at i 0), .int .i64 (monikerref02_row_at i 1), .int .i64 (monikerref02_row_at i 2), .int .i64 (monikerref02_row_at i 3), .int .i64 0]) ?_ 4 _ rfl; refine blk_put (cs := #[.int .i64 (monikerref02_row_at i 0), .int .i64 (monikerref02_row_at i 1), .int .i64 (monikerref02_row_at i 2), .int .i64 0, .int .i64 0]) ?_ 3 _ rfl; refine blk_put (cs := #[.int .i64 (monikerref02_row_at i 0), .int .i64 (monikerref02_row_at i 1), .int .i64 0, .int .i64 0, .int .i64 0]) ?_ 2 _ rfl; refine blk_put (cs := #[.int .i64 (monikerref02_row_at i 0), .int .i64 0, .int .i64 0, .int .i64 0, .int .i64 0]) ?_ 1 _ rfl; refine blk_put (cs := #[.int .i64 0, .int .i64 0, .int .i64 0, .int .i64 0, .int .i64 0]) ?_ 0 _ rfl; exact hB1.out) Tryd.underlying112 rfl (by kernel_rfl)) rfl ⟨rfl, ?_⟩
  have hB4 : Below w.heap.size w w2 := by rw [hG.out]; exact hB3.out
  repeat (first | exact hB4 | refine below_set ?_ (Nat.le_of_eq hG.out))
def monikerref02_row.f (a0 : Int) : Option (Int × Int × Int × Int × Int) := if 0 ≤ a0 ∧ a0 < 9 then some (monikerref02_row_at a0.toNat 0, monikerref02_row_at a0.toNat 1, monikerref02_row_at a0.toNat 2, monikerref02_row_at a0.toNat 3, monikerref02_row_at a0.toNat 4) else none
theorem monikerref02_row.calls (a0 : Int) (r1 : Int) (r2 : Int) (r3 : Int) (r4 : Int) (r5 : Int) (w : World) (h : monikerref02_row.f a0 = some (r1, r2, r3, r4, r5)) :
    Calls Tryd.prog 82 #[.int .i64 a0] w fun e w' => e = .returned (.agg #[.int .i64 r1, .int .i64 r2, .int .i64 r3, .int .i64 r4, .int .i64 r5]) ∧ Below w.heap.size w w' := by
  unfold monikerref02_row.f at h
  by_cases hc : 0 ≤ a0 ∧ a0 < 9
  · rw [if_pos hc] at h
    simp only [Option.some.injEq, Prod.mk.injEq] at h
    obtain ⟨rfl, rfl, rfl, rfl, rfl⟩ := h
    have := monikerref02_row_any a0.toNat (by omega) w
    rw [Int.toNat_of_nonneg hc.1] at this
    exact this
  · rw [if_neg hc] at h; cases h
mutual
def monikerref02_fits.l0 : Nat → ByteArray → Int → Int → Int → Int → Int → Int → Option (Int)
  | 0, _, _, _, _, _, _, _ => none
  | k + 1, x0, x5, x320000, x320001, x320002, x320003, x320004 => if x5 < (x0.size : Int) then (monikerref02_fits.j1 k x0 x5 (decide (x5 < x320004)) x320000 x320001 x320002 x320003 x320004) else (monikerref02_fits.j1 k x0 x5 false x320000 x320001 x320002 x320003 x320004)
def monikerref02_fits.j1 : Nat → ByteArray → Int → Bool → Int → Int → Int → Int → Int → Option (Int)
  | 0, _, _, _, _, _, _, _, _ => none
  | k + 1, x0, x5, x17, x320000, x320001, x320002, x320003, x320004 => if x17 = true then (if x5 = 0 then (monikerref02_fits.j2 k x0 x5 x320000 x320001 x320000 x320001 x320002 x320003 x320004) else (monikerref02_fits.j2 k x0 x5 128 191 x320000 x320001 x320002 x320003 x320004)) else (some x5)
def monikerref02_fits.j2 : Nat → ByteArray → Int → Int → Int → Int → Int → Int → Int → Int → Option (Int)
  | 0, _, _, _, _, _, _, _, _, _ => none
  | k + 1, x0, x5, x6, x7, x320000, x320001, x320002, x320003, x320004 => if x5 = 1 then (if 0 ≤ x5 then (if x5 < (x0.size : Int) then (if (wrap64 (bt x0 x5)) < x320002 then (some x5) else (if (wrap64 (bt x0 x5)) > x320003 then (some x5) else (monikerref02_fits.l0 k x0 (wrap64 (x5 + 1)) x320000 x320001 x320002 x320003 x320004))) else (none)) else (none)) else (if 0 ≤ x5 then (if x5 < (x0.size : Int) then (if (wrap64 (bt x0 x5)) < x6 then (some x5) else (if (wrap64 (bt x0 x5)) > x7 then (some x5) else (monikerref02_fits.l0 k x0 (wrap64 (x5 + 1)) x320000 x320001 x320002 x320003 x320004))) else (none)) else (none))
end
def monikerref02_fits.f (k : Nat) (a0 : ByteArray) (a1_0 : Int) (a1_1 : Int) (a1_2 : Int) (a1_3 : Int) (a1_4 : Int) : Option (Int) := monikerref02_fits.l0 k a0 0 a1_0 a1_1 a1_2 a1_3 a1_4
theorem monikerref02_fits.mono_l : ∀ k, (∀ y0 y1 y2 y3 y4 y5 y6, LeO (monikerref02_fits.l0 k y0 y1 y2 y3 y4 y5 y6) (monikerref02_fits.l0 (k + 1) y0 y1 y2 y3 y4 y5 y6)) ∧ (∀ y0 y1 y2 y3 y4 y5 y6 y7, LeO (monikerref02_fits.j1 k y0 y1 y2 y3 y4 y5 y6 y7) (monikerref02_fits.j1 (k + 1) y0 y1 y2 y3 y4 y5 y6 y7)) ∧ (∀ y0 y1 y2 y3 y4 y5 y6 y7 y8, LeO (monikerref02_fits.j2 k y0 y1 y2 y3 y4 y5 y6 y7 y8) (monikerref02_fits.j2 (k + 1) y0 y1 y2 y3 y4 y5 y6 y7 y8))
  | 0 => ⟨fun _ _ _ _ _ _ _ r h => by simp [monikerref02_fits.l0] at h, fun _ _ _ _ _ _ _ _ r h => by simp [monikerref02_fits.j1] at h, fun _ _ _ _ _ _ _ _ _ r h => by simp [monikerref02_fits.j2] at h⟩
  | k + 1 => by
    obtain ⟨ih0, ih1, ih2⟩ := monikerref02_fits.mono_l k
    refine ⟨?_, ?_, ?_⟩
    · intro y0 y1 y2 y3 y4 y5 y6
      unfold monikerref02_fits.l0
      exact xmo
    · intro y0 y1 y2 y3 y4 y5 y6 y7
      unfold monikerref02_fits.j1
      exact xmo
    · intro y0 y1 y2 y3 y4 y5 y6 y7 y8
      unfold monikerref02_fits.j2
      exact xmo
theorem monikerref02_fits.mono : ∀ a0 a1 a2 a3 a4 a5 k, LeO (monikerref02_fits.f k a0 a1 a2 a3 a4 a5) (monikerref02_fits.f (k + 1) a0 a1 a2 a3 a4 a5) := by
  intro a0 a1 a2 a3 a4 a5 k
  obtain ⟨ih0, ih1, ih2⟩ := monikerref02_fits.mono_l k
  unfold monikerref02_fits.f
  exact xmo
set_option maxHeartbeats 8000000 in
set_option maxRecDepth 100000 in
theorem monikerref02_fits.calls (k : Nat) (a0 : ByteArray) (a1_0 : Int) (a1_1 : Int) (a1_2 : Int) (a1_3 : Int) (a1_4 : Int) (r : Int) (w : World) (h : monikerref02_fits.f k a0 a1_0 a1_1 a1_2 a1_3 a1_4 = some r) :
    Calls Tryd.prog 83 #[.string a0, .agg #[.int .i64 a1_0, .int .i64 a1_1, .int .i64 a1_2, .int .i64 a1_3, .int .i64 a1_4]] w fun e w' => e = .returned (.int .i64 r) ∧ Below w.heap.size w w' := by
 have hu112 := Tryd.underlying112
 have HB := Aside0.mk (Below.refl w.heap.size w)
 have H : (monikerref02_fits.l0 k a0 0 a1_0 a1_1 a1_2 a1_3 a1_4) = some r := h
 clear h
 have H' := Aside0.mk H
 clear H
 go_enter Tryd.func83, Tryd.ntmps83
 go_wp2_with (first | ((with_reducible refine gate_dst (N := 3) rfl ?_); refine xev 3 #[.int .i64 a1_0, .int .i64 a1_1, .int .i64 a1_2, .int .i64 a1_3, .int .i64 a1_4] 112 ?_; intro gb319 hg w3 hbox hb; have BK319 := Aside0.mk (hbox); have GW319 := xsz hg; have GE319 := GW319; replace HB := xst hb; clear hb hbox hg))
 go_loopg [5] k (fun kq v5 w' => ∃ (x5_1 : Int), v5 = .int .i64 x5_1 ∧ Aside0 (monikerref02_fits.l0 kq a0 x5_1 a1_0 a1_1 a1_2 a1_3 a1_4 = some r) ∧ Aside0 (kq ≤ k) ∧ Aside0 (w'.heap[gb319]? = some (.cells #[.int .i64 a1_0, .int .i64 a1_1, .int .i64 a1_2, .int .i64 a1_3, .int .i64 a1_4] 112 (0, 0))) ∧ Aside0 (Below w.heap.size w w'))
 case atStart => exact ⟨(0), xrr, H', ⟨Nat.le_refl _⟩, ⟨xbk⟩, ⟨xbl⟩⟩
 case round =>
  clear H'
  obtain ⟨x5_1, rfl, HA, HK1, BK319, HB⟩ := hrel
  cases gk with
  | zero => exact absurd HA.out (by simp [monikerref02_fits.l0])
  | succ k1 =>
   have H := HA.out
   clear HA
   simp only [monikerref02_fits.l0] at H
   have HC4 := Aside0.mk H
   clear H
   go_upto_region 2 with (fail)
   go_cut [17] (fun v17 wc => ∃ (kq : Nat) (x17_3 : Bool), v17 = .bool x17_3 ∧ Aside0 (monikerref02_fits.j1 kq a0 x5_1 x17_3 a1_0 a1_1 a1_2 a1_3 a1_4 = some r) ∧ Aside0 (kq ≤ k1) ∧ Aside0 (wc.heap[gb319]? = some (.cells #[.int .i64 a1_0, .int .i64 a1_1, .int .i64 a1_2, .int .i64 a1_3, .int .i64 a1_4] 112 (0, 0))) ∧ Aside0 (Below w.heap.size w wc))
   case first =>
    have H := HC4.out
    clear HC4
    by_cases c5 : x5_1 < (a0.size : Int)
    ·
     rw [if_pos c5] at H
     have c5b0 := decide_eq_true c5
     clear c5
     (first | rw [c5b0] | (simp only [i64_w, i32_w]; rw [c5b0]) | skip)
     have H' := Aside0.mk H
     clear H
     obtain ⟨hcz6_0, hcz6_1, hcz6_2, hcz6_3, hcz6_4⟩ := xc5 BK319
     have hfz6_0 := xf BK319 0
     have hfz6_1 := xf BK319 1
     have hfz6_2 := xf BK319 2
     have hfz6_3 := xf BK319 3
     have hfz6_4 := xf BK319 4
     go_wp2
     go_meet
     case rel => exact ⟨_, (decide (x5_1 < a1_4)), xrr, H', ⟨by have := HK1.out; first | omega | exact Nat.le_refl _⟩, ⟨xbk⟩, ⟨xbl⟩⟩
    ·
     rw [if_neg c5] at H
     have c5b0 := decide_eq_false c5
     clear c5
     (first | rw [c5b0] | (simp only [i64_w, i32_w]; rw [c5b0]) | skip)
     have H' := Aside0.mk H
     clear H
     go_wp2
     go_meet
     case rel => exact ⟨_, (false), xrr, H', ⟨by have := HK1.out; first | omega | exact Nat.le_refl _⟩, ⟨xbk⟩, ⟨xbl⟩⟩
   case rest =>
    clear HC4
    obtain ⟨kq, x17_3, rfl, HA, HJ3, BK319, HB⟩ := hcut
    cases kq with
    | zero => exact absurd HA.out (by simp [monikerref02_fits.j1])
    | succ kj3 =>
     have H := HA.out
     clear HA
     simp only [monikerref02_fits.j1] at H
     by_cases c7 : x17_3 = true
     ·
      subst c7
      rw [if_pos rfl] at H
      have HC8 := Aside0.mk H
      clear H
      go_upto_if 19 with (fail)
      go_cut [6, 7] (fun v6 v7 wc => ∃ (kq : Nat) (x6_7 : Int) (x7_7 : Int), v6 = .int .i64 x6_7 ∧ v7 = .int .i64 x7_7 ∧ Aside0 (monikerref02_fits.j2 kq a0 x5_1 x6_7 x7_7 a1_0 a1_1 a1_2 a1_3 a1_4 = some r) ∧ Aside0 (kq ≤ kj3) ∧ Aside0 (wc.heap[gb319]? = some (.cells #[.int .i64 a1_0, .int .i64 a1_1, .int .i64 a1_2, .int .i64 a1_3, .int .i64 a1_4] 112 (0, 0))) ∧ Aside0 (Below w.heap.size w wc))
      case first =>
       have H := HC8.out
       clear HC8
       by_cases c9 : x5_1 = 0
       ·
        rw [if_pos c9] at H
        have c9b0 : (x5_1 == 0) = true := beq_iff_eq.mpr c9
        have c9b1 : (x5_1 != 0) = false := bne_eq_false_iff_eq.mpr c9
        clear c9
        (first | rw [c9b0] | (simp only [i64_w, i32_w]; rw [c9b0]) | skip)
        have H' := Aside0.mk H
        clear H
        obtain ⟨hcz10_0, hcz10_1, hcz10_2, hcz10_3, hcz10_4⟩ := xc5 BK319
        have hfz10_0 := xf BK319 0
        have hfz10_1 := xf BK319 1
        have hfz10_2 := xf BK319 2
        have hfz10_3 := xf BK319 3
        have hfz10_4 := xf BK319 4
        go_wp2
        go_meet
        case rel => exact ⟨_, (a1_0), (a1_1), xrr, xrr, H', ⟨by have := HK1.out; have := HJ3.out; first | omega | exact Nat.le_refl _⟩, ⟨xbk⟩, ⟨xbl⟩⟩
       ·
        rw [if_neg c9] at H
        have c9b0 : (x5_1 == 0) = false := beq_eq_false_iff_ne.mpr c9
        have c9b1 : (x5_1 != 0) = true := bne_iff_ne.mpr c9
        (first | rw [c9b0] | (simp only [i64_w, i32_w]; rw [c9b0]) | skip)
        have H' := Aside0.mk H
        clear H
        go_wp2
        go_meet
        case rel => exact ⟨_, (128), (191), xrr, xrr, H', ⟨by have := HK1.out; have := HJ3.out; first | omega | exact Nat.le_refl _⟩, ⟨xbk⟩, ⟨xbl⟩⟩
      case rest =>
       clear HC8
       obtain ⟨kq, x6_7, x7_7, rfl, rfl, HA, HJ7, BK319, HB⟩ := hcut
       cases kq with
       | zero => exact absurd HA.out (by simp [monikerref02_fits.j2])
       | succ kj7 =>
        have H := HA.out
        clear HA
        simp only [monikerref02_fits.j2] at H
        by_cases c11 : x5_1 = 1
        ·
         rw [if_pos c11] at H
         have c11b0 : (x5_1 == 1) = true := beq_iff_eq.mpr c11
         have c11b1 : (x5_1 != 1) = false := bne_eq_false_iff_eq.mpr c11
         clear c11
         by_cases c12 : 0 ≤ x5_1
         ·
          rw [if_pos c12] at H
          have c12b0 := decide_eq_true c12
          clear c12
          by_cases c13 : x5_1 < (a0.size : Int)
          ·
           rw [if_pos c13] at H
           have c13b0 := decide_eq_true c13
           clear c13
           by_cases c15 : (wrap64 (bt a0 x5_1)) < a1_2
           ·
            rw [if_pos c15] at H
            have c15b0 := decide_eq_true c15
            clear c15
            obtain rfl := Option.some.inj H
            obtain ⟨hcz16_0, hcz16_1, hcz16_2, hcz16_3, hcz16_4⟩ := xc5 BK319
            have hfz16_0 := xf BK319 0
            have hfz16_1 := xf BK319 1
            have hfz16_2 := xf BK319 2
            have hfz16_3 := xf BK319 3
            have hfz16_4 := xf BK319 4
            have p14 : 0 ≤ (x5_1 : Int) := xod
            have q14 : x5_1 < (a0.size : Int) := xod
            have hx14 := bt_at a0 x5_1
            replace p14 := eq_true p14
            replace q14 := eq_true q14
            try (have q14x := q14; simp only [ByteArray.size_extract, Nat.min_self] at q14x)
            go_wp2
            go_ret
            exact ⟨xre, xbl⟩
           ·
            rw [if_neg c15] at H
            have c15b0 := decide_eq_false c15
            clear c15
            by_cases c18 : (wrap64 (bt a0 x5_1)) > a1_3
            ·
             rw [if_pos c18] at H
             have c18b0 := decide_eq_true c18
             clear c18
             obtain rfl := Option.some.inj H
             obtain ⟨hcz19_0, hcz19_1, hcz19_2, hcz19_3, hcz19_4⟩ := xc5 BK319
             have hfz19_0 := xf BK319 0
             have hfz19_1 := xf BK319 1
             have hfz19_2 := xf BK319 2
             have hfz19_3 := xf BK319 3
             have hfz19_4 := xf BK319 4
             have p14 : 0 ≤ (x5_1 : Int) := xod
             have q14 : x5_1 < (a0.size : Int) := xod
             have hx14 := bt_at a0 x5_1
             replace p14 := eq_true p14
             replace q14 := eq_true q14
             try (have q14x := q14; simp only [ByteArray.size_extract, Nat.min_self] at q14x)
             have p17 : 0 ≤ (x5_1 : Int) := xod
             have q17 : x5_1 < (a0.size : Int) := xod
             have hx17 := bt_at a0 x5_1
             replace p17 := eq_true p17
             replace q17 := eq_true q17
             try (have q17x := q17; simp only [ByteArray.size_extract, Nat.min_self] at q17x)
             go_wp2
             go_ret
             exact ⟨xre, xbl⟩
            ·
             rw [if_neg c18] at H
             have c18b0 := decide_eq_false c18
             clear c18
             have H' := Aside0.mk H
             clear H
             obtain ⟨hcz20_0, hcz20_1, hcz20_2, hcz20_3, hcz20_4⟩ := xc5 BK319
             have hfz20_0 := xf BK319 0
             have hfz20_1 := xf BK319 1
             have hfz20_2 := xf BK319 2
             have hfz20_3 := xf BK319 3
             have hfz20_4 := xf BK319 4
             have p14 : 0 ≤ (x5_1 : Int) := xod
             have q14 : x5_1 < (a0.size : Int) := xod
             have hx14 := bt_at a0 x5_1
             replace p14 := eq_true p14
             replace q14 := eq_true q14
             try (have q14x := q14; simp only [ByteArray.size_extract, Nat.min_self] at q14x)
             have p17 : 0 ≤ (x5_1 : Int) := xod
             have q17 : x5_1 < (a0.size : Int) := xod
             have hx17 := bt_at a0 x5_1
             replace p17 := eq_true p17
             replace q17 := eq_true q17
             try (have q17x := q17; simp only [ByteArray.size_extract, Nat.min_self] at q17x)
             go_wp2
             go_roundg kj7
             case measure => have := HK1.out; have := HJ3.out; have := HJ7.out; omega
             case rel => exact ⟨(wrap64 (x5_1 + 1)), xrr, H', ⟨by have := HK1.out; have := HJ3.out; have := HJ7.out; omega⟩, ⟨xbk⟩, ⟨xbl⟩⟩
          ·
           rw [if_neg c13] at H
           exact absurd H (by simp)
         ·
          rw [if_neg c12] at H
          exact absurd H (by simp)
        ·
         rw [if_neg c11] at H
         have c11b0 : (x5_1 == 1) = false := beq_eq_false_iff_ne.mpr c11
         have c11b1 : (x5_1 != 1) = true := bne_iff_ne.mpr c11
         by_cases c21 : 0 ≤ x5_1
         ·
          rw [if_pos c21] at H
          have c21b0 := decide_eq_true c21
          clear c21
          by_cases c22 : x5_1 < (a0.size : Int)
          ·
           rw [if_pos c22] at H
           have c22b0 := decide_eq_true c22
           clear c22
           by_cases c24 : (wrap64 (bt a0 x5_1)) < x6_7
           ·
            rw [if_pos c24] at H
            have c24b0 := decide_eq_true c24
            clear c24
            obtain rfl := Option.some.inj H
            have p23 : 0 ≤ (x5_1 : Int) := xod
            have q23 : x5_1 < (a0.size : Int) := xod
            have hx23 := bt_at a0 x5_1
            replace p23 := eq_true p23
            replace q23 := eq_true q23
            try (have q23x := q23; simp only [ByteArray.size_extract, Nat.min_self] at q23x)
            go_wp2
            go_ret
            exact ⟨xre, xbl⟩
           ·
            rw [if_neg c24] at H
            have c24b0 := decide_eq_false c24
            clear c24
            by_cases c26 : (wrap64 (bt a0 x5_1)) > x7_7
            ·
             rw [if_pos c26] at H
             have c26b0 := decide_eq_true c26
             clear c26
             obtain rfl := Option.some.inj H
             have p23 : 0 ≤ (x5_1 : Int) := xod
             have q23 : x5_1 < (a0.size : Int) := xod
             have hx23 := bt_at a0 x5_1
             replace p23 := eq_true p23
             replace q23 := eq_true q23
             try (have q23x := q23; simp only [ByteArray.size_extract, Nat.min_self] at q23x)
             have p25 : 0 ≤ (x5_1 : Int) := xod
             have q25 : x5_1 < (a0.size : Int) := xod
             have hx25 := bt_at a0 x5_1
             replace p25 := eq_true p25
             replace q25 := eq_true q25
             try (have q25x := q25; simp only [ByteArray.size_extract, Nat.min_self] at q25x)
             go_wp2
             go_ret
             exact ⟨xre, xbl⟩
            ·
             rw [if_neg c26] at H
             have c26b0 := decide_eq_false c26
             clear c26
             have H' := Aside0.mk H
             clear H
             have p23 : 0 ≤ (x5_1 : Int) := xod
             have q23 : x5_1 < (a0.size : Int) := xod
             have hx23 := bt_at a0 x5_1
             replace p23 := eq_true p23
             replace q23 := eq_true q23
             try (have q23x := q23; simp only [ByteArray.size_extract, Nat.min_self] at q23x)
             have p25 : 0 ≤ (x5_1 : Int) := xod
             have q25 : x5_1 < (a0.size : Int) := xod
             have hx25 := bt_at a0 x5_1
             replace p25 := eq_true p25
             replace q25 := eq_true q25
             try (have q25x := q25; simp only [ByteArray.size_extract, Nat.min_self] at q25x)
             go_wp2
             go_roundg kj7
             case measure => have := HK1.out; have := HJ3.out; have := HJ7.out; omega
             case rel => exact ⟨(wrap64 (x5_1 + 1)), xrr, H', ⟨by have := HK1.out; have := HJ3.out; have := HJ7.out; omega⟩, ⟨xbk⟩, ⟨xbl⟩⟩
          ·
           rw [if_neg c22] at H
           exact absurd H (by simp)
         ·
          rw [if_neg c21] at H
          exact absurd H (by simp)
     ·
      replace c7 := Bool.eq_false_iff.mpr c7
      subst c7
      rw [if_neg (show ¬ (false = true) by decide)] at H
      obtain rfl := Option.some.inj H
      go_wp2
      go_ret
      exact ⟨xre, xbl⟩
mutual
def monikerref02_value.j0 : Nat → ByteArray → Int → Option (Int)
  | 0, _, _ => none
  | k + 1, x0, x3 => if (x0.size : Int) = 4 then (if 0 < (x0.size : Int) then (monikerref02_value.j1 k x0 (wrap64 ((wrap64 (bt x0 0)) - 240))) else (none)) else (monikerref02_value.j1 k x0 x3)
def monikerref02_value.j1 : Nat → ByteArray → Int → Option (Int)
  | 0, _, _ => none
  | k + 1, x0, x3 => monikerref02_value.l0 k x0 x3 1
def monikerref02_value.l0 : Nat → ByteArray → Int → Int → Option (Int)
  | 0, _, _, _ => none
  | k + 1, x0, x3, x4 => if x4 < (x0.size : Int) then (if 0 ≤ x4 then (monikerref02_value.l0 k x0 (wrap64 ((wrap64 ((wrap64 (x3 * 64)) + (wrap64 (bt x0 x4)))) - 128)) (wrap64 (x4 + 1))) else (none)) else (some x3)
end
def monikerref02_value.f (k : Nat) (a0 : ByteArray) : Option (Int) := if (a0.size : Int) = 1 then (if 0 < (a0.size : Int) then (some (wrap64 (bt a0 0))) else (none)) else (if 0 < (a0.size : Int) then (if (a0.size : Int) = 3 then (monikerref02_value.j0 k a0 (wrap64 ((wrap64 (bt a0 0)) - 224))) else (monikerref02_value.j0 k a0 (wrap64 ((wrap64 (bt a0 0)) - 192)))) else (none))
theorem monikerref02_value.mono_l : ∀ k, (∀ y0 y1, LeO (monikerref02_value.j0 k y0 y1) (monikerref02_value.j0 (k + 1) y0 y1)) ∧ (∀ y0 y1, LeO (monikerref02_value.j1 k y0 y1) (monikerref02_value.j1 (k + 1) y0 y1)) ∧ (∀ y0 y1 y2, LeO (monikerref02_value.l0 k y0 y1 y2) (monikerref02_value.l0 (k + 1) y0 y1 y2))
  | 0 => ⟨fun _ _ r h => by simp [monikerref02_value.j0] at h, fun _ _ r h => by simp [monikerref02_value.j1] at h, fun _ _ _ r h => by simp [monikerref02_value.l0] at h⟩
  | k + 1 => by
    obtain ⟨ih0, ih1, ih2⟩ := monikerref02_value.mono_l k
    refine ⟨?_, ?_, ?_⟩
    · intro y0 y1
      unfold monikerref02_value.j0
      exact xmo
    · intro y0 y1
      unfold monikerref02_value.j1
      exact xmo
    · intro y0 y1 y2
      unfold monikerref02_value.l0
      exact xmo
theorem monikerref02_value.mono : ∀ a0 k, LeO (monikerref02_value.f k a0) (monikerref02_value.f (k + 1) a0) := by
  intro a0 k
  obtain ⟨ih0, ih1, ih2⟩ := monikerref02_value.mono_l k
  unfold monikerref02_value.f
  exact xmo
set_option maxHeartbeats 8000000 in
set_option maxRecDepth 100000 in
theorem monikerref02_value.calls (k : Nat) (a0 : ByteArray) (r : Int) (w : World) (h : monikerref02_value.f k a0 = some r) :
    Calls Tryd.prog 84 #[.string a0] w fun e w' => e = .returned (.int .i64 r) ∧ Drawn0 w w' := by
 have H : (if (a0.size : Int) = 1 then (if 0 < (a0.size : Int) then (some (wrap64 (bt a0 0))) else (none)) else (if 0 < (a0.size : Int) then (if (a0.size : Int) = 3 then (monikerref02_value.j0 k a0 (wrap64 ((wrap64 (bt a0 0)) - 224))) else (monikerref02_value.j0 k a0 (wrap64 ((wrap64 (bt a0 0)) - 192)))) else (none))) = some r := h
 clear h
 by_cases c2 : (a0.size : Int) = 1
 ·
  rw [if_pos c2] at H
  have c2b0 : ((a0.size : Int) == 1) = true := beq_iff_eq.mpr c2
  have c2b1 : ((a0.size : Int) != 1) = false := bne_eq_false_iff_eq.mpr c2
  clear c2
  by_cases c3 : 0 < (a0.size : Int)
  ·
   rw [if_pos c3] at H
   have c3b0 := decide_eq_true c3
   have c3b1 : decide (0 < a0.size) = true := decide_eq_true (by omega)
   clear c3
   obtain rfl := Option.some.inj H
   have p4 : 0 ≤ (0 : Int) := (by omega)
   have q4 : 0 < a0.size := (by have : (0 : Int) < (a0.size : Int) := xod; omega)
   have hx4 : ∀ h : 0 < a0.size, ((a0[0]'h).toNat : Int) = bt a0 0 := bt_at a0 0
   clear p4
   have qi4 : (0 < (a0.size : Int)) = True := eq_true (xod)
   replace q4 := eq_true q4
   try (have q4x := q4; simp only [ByteArray.size_extract, Nat.min_self] at q4x)
   go_enter Tryd.func84, Tryd.ntmps84
   go_wp2
   go_ret
   exact ⟨xrr, xdr⟩
  ·
   rw [if_neg c3] at H
   exact absurd H (by simp)
 ·
  rw [if_neg c2] at H
  have c2b0 : ((a0.size : Int) == 1) = false := beq_eq_false_iff_ne.mpr c2
  have c2b1 : ((a0.size : Int) != 1) = true := bne_iff_ne.mpr c2
  by_cases c5 : 0 < (a0.size : Int)
  ·
   rw [if_pos c5] at H
   have c5b0 := decide_eq_true c5
   have c5b1 : decide (0 < a0.size) = true := decide_eq_true (by omega)
   clear c5
   have HC7 := Aside0.mk H
   clear H
   have p6 : 0 ≤ (0 : Int) := (by omega)
   have q6 : 0 < a0.size := (by have : (0 : Int) < (a0.size : Int) := xod; omega)
   have hx6 : ∀ h : 0 < a0.size, ((a0[0]'h).toNat : Int) = bt a0 0 := bt_at a0 0
   clear p6
   have qi6 : (0 < (a0.size : Int)) = True := eq_true (xod)
   replace q6 := eq_true q6
   try (have q6x := q6; simp only [ByteArray.size_extract, Nat.min_self] at q6x)
   go_enter Tryd.func84, Tryd.ntmps84
   go_upto_if 17 with (fail)
   go_cut [3] (fun v3 wc => ∃ (kq : Nat) (x3_6 : Int), v3 = .int .i64 x3_6 ∧ Aside0 (monikerref02_value.j0 kq a0 x3_6 = some r) ∧ Aside0 (kq ≤ k) ∧ Drawn0 w wc)
   case first =>
    have H := HC7.out
    clear HC7
    by_cases c8 : (a0.size : Int) = 3
    ·
     rw [if_pos c8] at H
     have c8b0 : ((a0.size : Int) == 3) = true := beq_iff_eq.mpr c8
     have c8b1 : ((a0.size : Int) != 3) = false := bne_eq_false_iff_eq.mpr c8
     clear c8
     (first | rw [c8b0] | (simp only [i64_w, i32_w]; rw [c8b0]) | skip)
     have H' := Aside0.mk H
     clear H
     have p9 : 0 ≤ (0 : Int) := (by omega)
     have q9 : 0 < a0.size := (by have : (0 : Int) < (a0.size : Int) := xod; omega)
     have hx9 : ∀ h : 0 < a0.size, ((a0[0]'h).toNat : Int) = bt a0 0 := bt_at a0 0
     clear p9
     have qi9 : (0 < (a0.size : Int)) = True := eq_true (xod)
     replace q9 := eq_true q9
     try (have q9x := q9; simp only [ByteArray.size_extract, Nat.min_self] at q9x)
     go_wp2
     go_meet
     case rel => exact ⟨_, (wrap64 ((wrap64 (bt a0 0)) - 224)), xrr, H', ⟨xom⟩, xdr⟩
    ·
     rw [if_neg c8] at H
     have c8b0 : ((a0.size : Int) == 3) = false := beq_eq_false_iff_ne.mpr c8
     have c8b1 : ((a0.size : Int) != 3) = true := bne_iff_ne.mpr c8
     (first | rw [c8b0] | (simp only [i64_w, i32_w]; rw [c8b0]) | skip)
     have H' := Aside0.mk H
     clear H
     go_wp2
     go_meet
     case rel => exact ⟨_, (wrap64 ((wrap64 (bt a0 0)) - 192)), xrr, H', ⟨xom⟩, xdr⟩
   case rest =>
    clear HC7
    clear c2b0 c2b1 c5b0 c5b1 q6 hx6 qi6
    obtain ⟨kq, x3_6, rfl, HA, HJ6, ⟨mc6, rfl⟩⟩ := hcut
    cases kq with
    | zero => exact absurd HA.out (by simp [monikerref02_value.j0])
    | succ kj6 =>
     have H := HA.out
     clear HA
     simp only [monikerref02_value.j0] at H
     have HC10 := Aside0.mk H
     clear H
     go_upto_if 24 with (fail)
     go_cut [3] (fun v3 wc => ∃ (kq : Nat) (x3_9 : Int), v3 = .int .i64 x3_9 ∧ Aside0 (monikerref02_value.j1 kq a0 x3_9 = some r) ∧ Aside0 (kq ≤ kj6) ∧ Drawn0 w wc)
     case first =>
      have H := HC10.out
      clear HC10
      by_cases c11 : (a0.size : Int) = 4
      ·
       rw [if_pos c11] at H
       have c11b0 : ((a0.size : Int) == 4) = true := beq_iff_eq.mpr c11
       have c11b1 : ((a0.size : Int) != 4) = false := bne_eq_false_iff_eq.mpr c11
       clear c11
       (first | rw [c11b0] | (simp only [i64_w, i32_w]; rw [c11b0]) | skip)
       by_cases c12 : 0 < (a0.size : Int)
       ·
        rw [if_pos c12] at H
        have c12b0 := decide_eq_true c12
        have c12b1 : decide (0 < a0.size) = true := decide_eq_true (by omega)
        clear c12
        have H' := Aside0.mk H
        clear H
        have p13 : 0 ≤ (0 : Int) := (by omega)
        have q13 : 0 < a0.size := (by have : (0 : Int) < (a0.size : Int) := xod; omega)
        have hx13 : ∀ h : 0 < a0.size, ((a0[0]'h).toNat : Int) = bt a0 0 := bt_at a0 0
        clear p13
        have qi13 : (0 < (a0.size : Int)) = True := eq_true (xod)
        replace q13 := eq_true q13
        try (have q13x := q13; simp only [ByteArray.size_extract, Nat.min_self] at q13x)
        go_wp2
        go_meet
        case rel => exact ⟨_, (wrap64 ((wrap64 (bt a0 0)) - 240)), xrr, H', ⟨by have := HJ6.out; first | omega | exact Nat.le_refl _⟩, xdr⟩
       ·
        rw [if_neg c12] at H
        exact absurd H (by simp)
      ·
       rw [if_neg c11] at H
       have c11b0 : ((a0.size : Int) == 4) = false := beq_eq_false_iff_ne.mpr c11
       have c11b1 : ((a0.size : Int) != 4) = true := bne_iff_ne.mpr c11
       (first | rw [c11b0] | (simp only [i64_w, i32_w]; rw [c11b0]) | skip)
       have H' := Aside0.mk H
       clear H
       go_wp2
       go_meet
       case rel => exact ⟨_, (x3_6), xrr, H', ⟨by have := HJ6.out; first | omega | exact Nat.le_refl _⟩, xdr⟩
     case rest =>
      clear HC10
      obtain ⟨kq, x3_9, rfl, HA, HJ9, ⟨mc9, rfl⟩⟩ := hcut
      cases kq with
      | zero => exact absurd HA.out (by simp [monikerref02_value.j1])
      | succ kj9 =>
       have H := HA.out
       clear HA
       simp only [monikerref02_value.j1] at H
       have H' := Aside0.mk H
       clear H
       go_wp2
       go_loopg [3, 4] kj9 (fun kq v3 v4 w' => ∃ (x3_3 : Int) (x4_3 : Int), v3 = .int .i64 x3_3 ∧ v4 = .int .i64 x4_3 ∧ Aside0 (monikerref02_value.l0 kq a0 x3_3 x4_3 = some r) ∧ Aside0 (kq ≤ kj9) ∧ Drawn0 w w')
       case atStart => exact ⟨(x3_9), (1), xrr, xrr, H', ⟨Nat.le_refl _⟩, xdr⟩
       case round =>
        clear H'
        obtain ⟨x3_3, x4_3, rfl, rfl, HA, HK3, ⟨m3, rfl⟩⟩ := hrel
        cases gk with
        | zero => exact absurd HA.out (by simp [monikerref02_value.l0])
        | succ k3 =>
         have H := HA.out
         clear HA
         simp only [monikerref02_value.l0] at H
         by_cases c14 : x4_3 < (a0.size : Int)
         ·
          rw [if_pos c14] at H
          have c14b0 := decide_eq_true c14
          clear c14
          by_cases c15 : 0 ≤ x4_3
          ·
           rw [if_pos c15] at H
           have c15b0 := decide_eq_true c15
           clear c15
           have H' := Aside0.mk H
           clear H
           have p16 : 0 ≤ (x4_3 : Int) := xod
           have q16 : x4_3 < (a0.size : Int) := xod
           have hx16 := bt_at a0 x4_3
           replace p16 := eq_true p16
           replace q16 := eq_true q16
           try (have q16x := q16; simp only [ByteArray.size_extract, Nat.min_self] at q16x)
           go_wp2
           go_roundg k3
           case measure => have := HJ6.out; have := HJ9.out; have := HK3.out; omega
           case rel => exact ⟨(wrap64 ((wrap64 ((wrap64 (x3_3 * 64)) + (wrap64 (bt a0 x4_3)))) - 128)), (wrap64 (x4_3 + 1)), xrr, xrr, H', ⟨by have := HJ6.out; have := HJ9.out; have := HK3.out; omega⟩, xdr⟩
          ·
           rw [if_neg c15] at H
           exact absurd H (by simp)
         ·
          rw [if_neg c14] at H
          have c14b0 := decide_eq_false c14
          clear c14
          obtain rfl := Option.some.inj H
          go_wp2
          go_ret
          exact ⟨xrr, xdr⟩
  ·
   rw [if_neg c5] at H
   exact absurd H (by simp)
end Go.Proofs.YticohlbfolnmpaaDoor.X
