/- Texts that the law's proof needs, joined by a program of this session. -/
import Derived.Test.YtmofhijbheimmaaDoorZSegsTexts1
import Derived.Test.YtmofhijbheimmaaDoorZSegsTexts4
set_option maxHeartbeats 8000000
set_option maxRecDepth 100000
set_option linter.unusedSimpArgs false
set_option linter.unusedVariables false
namespace Go.Proofs.YtmofhijbheimmaaDoor.X
open Go.RowKit Go.Proofs.YtmofhijbheimmaaDoorW.PrintWords Go.Proofs.YtmofhijbheimmaaDoorW.PrintLast Go.Proofs.YtmofhijbheimmaaDoorW.PrintMore
attribute [local go_sem] dg cP eb fs gc eQ ft eI eK fo fp dS dT eJ eL
mutual
def aJ : Nat → Int → Int → Option (Int)
  | 0, _, _ => none
  | k + 1, x0, x3 => (aq k x0 (⟨#[48, 49, 50, 51, 52, 53, 54, 55, 56, 57]⟩ : ByteArray)).bind fun t205 => (if t205 = true then (aX k x0 (wrap64 (x3 + 2))) else (aX k x0 x3))
def aX : Nat → Int → Int → Option (Int)
  | 0, _, _ => none
  | k + 1, x0, x3 => (aq k x0 (⟨#[45, 46, 95, 126]⟩ : ByteArray)).bind fun t206 => (if t206 = true then (aY k x0 (wrap64 (x3 + 4))) else (aY k x0 x3))
def aY : Nat → Int → Int → Option (Int)
  | 0, _, _ => none
  | k + 1, x0, x3 => (aq k x0 (⟨#[33, 36, 38, 39, 40, 41, 42, 43, 44, 59, 61]⟩ : ByteArray)).bind fun t207 => (if t207 = true then (aZ k x0 (wrap64 (x3 + 8))) else (aZ k x0 x3))
def aZ : Nat → Int → Int → Option (Int)
  | 0, _, _ => none
  | k + 1, x0, x3 => (aq k x0 (⟨#[58, 47, 63, 35, 91, 93, 64]⟩ : ByteArray)).bind fun t208 => (if t208 = true then ((aq k x0 (⟨#[48, 49, 50, 51, 52, 53, 54, 55, 56, 57, 65, 66, 67, 68, 69, 70, 97, 98, 99, 100, 101, 102]⟩ : ByteArray)).bind fun t209 => (if t209 = true then (some (wrap64 ((wrap64 (x3 + 16)) + 32))) else (some (wrap64 (x3 + 16))))) else ((aq k x0 (⟨#[48, 49, 50, 51, 52, 53, 54, 55, 56, 57, 65, 66, 67, 68, 69, 70, 97, 98, 99, 100, 101, 102]⟩ : ByteArray)).bind fun t210 => (if t210 = true then (some (wrap64 (x3 + 32))) else (some x3))))
end
def bc (k : Nat) (a0 : Int) : Option (Int) := (aq k a0 (⟨#[65, 66, 67, 68, 69, 70, 71, 72, 73, 74, 75, 76, 77, 78, 79, 80, 81, 82, 83, 84, 85, 86, 87, 88, 89, 90, 97, 98, 99, 100, 101, 102, 103, 104, 105, 106, 107, 108, 109, 110, 111, 112, 113, 114, 115, 116, 117, 118, 119, 120, 121, 122]⟩ : ByteArray)).bind fun t204 => (if t204 = true then (aJ k a0 (0 + 1)) else (aJ k a0 0))
theorem dr : ∀ k, (∀ y0 y1, LeO (aJ k y0 y1) (aJ (k + 1) y0 y1)) ∧ (∀ y0 y1, LeO (aX k y0 y1) (aX (k + 1) y0 y1)) ∧ (∀ y0 y1, LeO (aY k y0 y1) (aY (k + 1) y0 y1)) ∧ (∀ y0 y1, LeO (aZ k y0 y1) (aZ (k + 1) y0 y1))
  | 0 => ⟨fun _ _ r h => by simp [aJ] at h, fun _ _ r h => by simp [aX] at h, fun _ _ r h => by simp [aY] at h, fun _ _ r h => by simp [aZ] at h⟩
  | k + 1 => by
    obtain ⟨ih0, ih1, ih2, ih3⟩ := dr k
    have m0 := @ei
    refine ⟨?_, ?_, ?_, ?_⟩
    · intro y0 y1
      unfold aJ
      exact xmo
    · intro y0 y1
      unfold aX
      exact xmo
    · intro y0 y1
      unfold aY
      exact xmo
    · intro y0 y1
      unfold aZ
      exact xmo
theorem fG : ∀ a0 k, LeO (bc k a0) (bc (k + 1) a0) := by
  intro a0 k
  obtain ⟨ih0, ih1, ih2, ih3⟩ := dr k
  have m0 := @ei
  unfold bc
  exact xmo
theorem b7 (k : Nat) (a0 : Int) (r : Int) (w : World) (h : bc k a0 = some r) :
    Calls Tryd.prog 34 #[.int .u8 a0] w fun e w' => e = .returned (.int .i64 r) ∧ Drawn0 w w' := by
 have H : ((aq k a0 (⟨#[65, 66, 67, 68, 69, 70, 71, 72, 73, 74, 75, 76, 77, 78, 79, 80, 81, 82, 83, 84, 85, 86, 87, 88, 89, 90, 97, 98, 99, 100, 101, 102, 103, 104, 105, 106, 107, 108, 109, 110, 111, 112, 113, 114, 115, 116, 117, 118, 119, 120, 121, 122]⟩ : ByteArray)).bind fun Ae => (if Ae = true then (aJ k a0 (0 + 1)) else (aJ k a0 0))) = some r := h
 clear h
 replace H := Option.bind_eq_some_iff.mp H
 obtain ⟨Ae, A20, H⟩ := H
 try dsimp only at H
 have A2 := Zz.mk A20
 clear A20
 have Aj := Zz.mk H
 clear H
 go_enter Tryd.func34, Tryd.ntmps34
 go_upto_if 5 with (first | ((with_reducible refine ae (f := 52) rfl ?_); refine xgl 5 Tryd.func52 #[.int .u8 a0, .string (⟨#[65, 66, 67, 68, 69, 70, 71, 72, 73, 74, 75, 76, 77, 78, 79, 80, 81, 82, 83, 84, 85, 86, 87, 88, 89, 90, 97, 98, 99, 100, 101, 102, 103, 104, 105, 106, 107, 108, 109, 110, 111, 112, 113, 114, 115, 116, 117, 118, 119, 120, 121, 122]⟩ : ByteArray)] ?_; (with_reducible refine (ay k a0 (⟨#[65, 66, 67, 68, 69, 70, 71, 72, 73, 74, 75, 76, 77, 78, 79, 80, 81, 82, 83, 84, 85, 86, 87, 88, 89, 90, 97, 98, 99, 100, 101, 102, 103, 104, 105, 106, 107, 108, 109, 110, 111, 112, 113, 114, 115, 116, 117, 118, 119, 120, 121, 122]⟩ : ByteArray) Ae _ A2.out).mono ?_); rintro e w' ⟨rfl, ⟨nd, rfl⟩⟩; refine ⟨_, rfl, ?_⟩))
 (try simp only [Act.put, List.setIfInBounds_toArray, List.set_cons_zero, List.set_cons_succ])
 go_cut [3] (fun v3 wc => ∃ (kq : Nat) (Aa : Int), v3 = .int .i64 Aa ∧ Zz (aJ kq a0 Aa = some r) ∧ Zz (kq ≤ k) ∧ Drawn0 w wc)
 case first =>
  have H := Aj.out
  clear Aj
  by_cases c4 : Ae = true
  ·
   subst c4
   rw [if_pos rfl] at H
   have H' := Zz.mk H
   clear H
   go_wp2
   go_meet
   case rel => exact ⟨_, (0 + 1), xrr, H', ⟨xom⟩, xdr⟩
  ·
   replace c4 := Bool.eq_false_iff.mpr c4
   subst c4
   rw [if_neg (show ¬ (false = true) by decide)] at H
   have H' := Zz.mk H
   clear H
   go_wp2
   go_meet
   case rel => exact ⟨_, (0), xrr, H', ⟨xom⟩, xdr⟩
 case rest =>
  clear Aj
  obtain ⟨kq, Aa, rfl, HA, HJ2, ⟨mc2, rfl⟩⟩ := hcut
  cases kq with
  | zero => exact absurd HA.out (by simp [aJ])
  | succ kj2 =>
   have H := HA.out
   clear HA
   simp only [aJ] at H
   replace H := Option.bind_eq_some_iff.mp H
   obtain ⟨Ag, A50, H⟩ := H
   try dsimp only at H
   have A5 := Zz.mk A50
   clear A50
   have Ak := Zz.mk H
   clear H
   go_upto_if 9 with (first | ((with_reducible refine ae (f := 52) rfl ?_); refine xgl 9 Tryd.func52 #[.int .u8 a0, .string (⟨#[48, 49, 50, 51, 52, 53, 54, 55, 56, 57]⟩ : ByteArray)] ?_; (with_reducible refine (ay kj2 a0 (⟨#[48, 49, 50, 51, 52, 53, 54, 55, 56, 57]⟩ : ByteArray) Ag _ A5.out).mono ?_); rintro e w' ⟨rfl, ⟨nd, rfl⟩⟩; refine ⟨_, rfl, ?_⟩))
   (try simp only [Act.put, List.setIfInBounds_toArray, List.set_cons_zero, List.set_cons_succ])
   go_cut [3] (fun v3 wc => ∃ (kq : Nat) (Ab : Int), v3 = .int .i64 Ab ∧ Zz (aX kq a0 Ab = some r) ∧ Zz (kq ≤ kj2) ∧ Drawn0 w wc)
   case first =>
    have H := Ak.out
    clear Ak
    by_cases c7 : Ag = true
    ·
     subst c7
     rw [if_pos rfl] at H
     have H' := Zz.mk H
     clear H
     go_wp2
     go_meet
     case rel => exact ⟨_, (wrap64 (Aa + 2)), xrr, H', ⟨by have := HJ2.out; first | omega | exact Nat.le_refl _⟩, xdr⟩
    ·
     replace c7 := Bool.eq_false_iff.mpr c7
     subst c7
     rw [if_neg (show ¬ (false = true) by decide)] at H
     have H' := Zz.mk H
     clear H
     go_wp2
     go_meet
     case rel => exact ⟨_, (Aa), xrr, H', ⟨by have := HJ2.out; first | omega | exact Nat.le_refl _⟩, xdr⟩
   case rest =>
    clear Ak
    obtain ⟨kq, Ab, rfl, HA, HJ5, ⟨mc5, rfl⟩⟩ := hcut
    cases kq with
    | zero => exact absurd HA.out (by simp [aX])
    | succ kj5 =>
     have H := HA.out
     clear HA
     simp only [aX] at H
     replace H := Option.bind_eq_some_iff.mp H
     obtain ⟨Ah, A80, H⟩ := H
     try dsimp only at H
     have A8 := Zz.mk A80
     clear A80
     have Al := Zz.mk H
     clear H
     go_upto_if 13 with (first | ((with_reducible refine ae (f := 52) rfl ?_); refine xgl 13 Tryd.func52 #[.int .u8 a0, .string (⟨#[45, 46, 95, 126]⟩ : ByteArray)] ?_; (with_reducible refine (ay kj5 a0 (⟨#[45, 46, 95, 126]⟩ : ByteArray) Ah _ A8.out).mono ?_); rintro e w' ⟨rfl, ⟨nd, rfl⟩⟩; refine ⟨_, rfl, ?_⟩))
     (try simp only [Act.put, List.setIfInBounds_toArray, List.set_cons_zero, List.set_cons_succ])
     go_cut [3] (fun v3 wc => ∃ (kq : Nat) (Ac : Int), v3 = .int .i64 Ac ∧ Zz (aY kq a0 Ac = some r) ∧ Zz (kq ≤ kj5) ∧ Drawn0 w wc)
     case first =>
      have H := Al.out
      clear Al
      by_cases c10 : Ah = true
      ·
       subst c10
       rw [if_pos rfl] at H
       have H' := Zz.mk H
       clear H
       go_wp2
       go_meet
       case rel => exact ⟨_, (wrap64 (Ab + 4)), xrr, H', ⟨by have := HJ2.out; have := HJ5.out; first | omega | exact Nat.le_refl _⟩, xdr⟩
      ·
       replace c10 := Bool.eq_false_iff.mpr c10
       subst c10
       rw [if_neg (show ¬ (false = true) by decide)] at H
       have H' := Zz.mk H
       clear H
       go_wp2
       go_meet
       case rel => exact ⟨_, (Ab), xrr, H', ⟨by have := HJ2.out; have := HJ5.out; first | omega | exact Nat.le_refl _⟩, xdr⟩
     case rest =>
      clear Al
      obtain ⟨kq, Ac, rfl, HA, HJ8, ⟨mc8, rfl⟩⟩ := hcut
      cases kq with
      | zero => exact absurd HA.out (by simp [aY])
      | succ kj8 =>
       have H := HA.out
       clear HA
       simp only [aY] at H
       replace H := Option.bind_eq_some_iff.mp H
       obtain ⟨Ai, A110, H⟩ := H
       try dsimp only at H
       have A11 := Zz.mk A110
       clear A110
       have Af := Zz.mk H
       clear H
       go_upto_if 17 with (first | ((with_reducible refine ae (f := 52) rfl ?_); refine xgl 17 Tryd.func52 #[.int .u8 a0, .string (⟨#[33, 36, 38, 39, 40, 41, 42, 43, 44, 59, 61]⟩ : ByteArray)] ?_; (with_reducible refine (ay kj8 a0 (⟨#[33, 36, 38, 39, 40, 41, 42, 43, 44, 59, 61]⟩ : ByteArray) Ai _ A11.out).mono ?_); rintro e w' ⟨rfl, ⟨nd, rfl⟩⟩; refine ⟨_, rfl, ?_⟩))
       (try simp only [Act.put, List.setIfInBounds_toArray, List.set_cons_zero, List.set_cons_succ])
       go_cut [3] (fun v3 wc => ∃ (kq : Nat) (Ad : Int), v3 = .int .i64 Ad ∧ Zz (aZ kq a0 Ad = some r) ∧ Zz (kq ≤ kj8) ∧ Drawn0 w wc)
       case first =>
        have H := Af.out
        clear Af
        by_cases c13 : Ai = true
        ·
         subst c13
         rw [if_pos rfl] at H
         have H' := Zz.mk H
         clear H
         go_wp2
         go_meet
         case rel => exact ⟨_, (wrap64 (Ac + 8)), xrr, H', ⟨by have := HJ2.out; have := HJ5.out; have := HJ8.out; first | omega | exact Nat.le_refl _⟩, xdr⟩
        ·
         replace c13 := Bool.eq_false_iff.mpr c13
         subst c13
         rw [if_neg (show ¬ (false = true) by decide)] at H
         have H' := Zz.mk H
         clear H
         go_wp2
         go_meet
         case rel => exact ⟨_, (Ac), xrr, H', ⟨by have := HJ2.out; have := HJ5.out; have := HJ8.out; first | omega | exact Nat.le_refl _⟩, xdr⟩
       case rest =>
        clear Af
        obtain ⟨kq, Ad, rfl, HA, HJ11, ⟨mc11, rfl⟩⟩ := hcut
        cases kq with
        | zero => exact absurd HA.out (by simp [aZ])
        | succ kj11 =>
         have H := HA.out
         clear HA
         simp only [aZ] at H
         replace H := Option.bind_eq_some_iff.mp H
         obtain ⟨Am, A140, H⟩ := H
         try dsimp only at H
         have A14 := Zz.mk A140
         clear A140
         by_cases c15 : Am = true
         ·
          subst c15
          rw [if_pos rfl] at H
          replace H := Option.bind_eq_some_iff.mp H
          obtain ⟨An, A160, H⟩ := H
          try dsimp only at H
          have A16 := Zz.mk A160
          clear A160
          by_cases c17 : An = true
          ·
           subst c17
           rw [if_pos rfl] at H
           obtain rfl := Option.some.inj H
           go_wp2_with (first | ((with_reducible refine ae (f := 52) rfl ?_); refine xgl 21 Tryd.func52 #[.int .u8 a0, .string (⟨#[58, 47, 63, 35, 91, 93, 64]⟩ : ByteArray)] ?_; (with_reducible refine (ay kj11 a0 (⟨#[58, 47, 63, 35, 91, 93, 64]⟩ : ByteArray) true _ A14.out).mono ?_); rintro e w' ⟨rfl, ⟨nd, rfl⟩⟩; refine ⟨_, rfl, ?_⟩) | ((with_reducible refine ae (f := 52) rfl ?_); refine xgl 25 Tryd.func52 #[.int .u8 a0, .string (⟨#[48, 49, 50, 51, 52, 53, 54, 55, 56, 57, 65, 66, 67, 68, 69, 70, 97, 98, 99, 100, 101, 102]⟩ : ByteArray)] ?_; (with_reducible refine (ay kj11 a0 (⟨#[48, 49, 50, 51, 52, 53, 54, 55, 56, 57, 65, 66, 67, 68, 69, 70, 97, 98, 99, 100, 101, 102]⟩ : ByteArray) true _ A16.out).mono ?_); rintro e w' ⟨rfl, ⟨nd, rfl⟩⟩; refine ⟨_, rfl, ?_⟩))
           go_ret
           exact ⟨xrr, xdr⟩
          ·
           replace c17 := Bool.eq_false_iff.mpr c17
           subst c17
           rw [if_neg (show ¬ (false = true) by decide)] at H
           obtain rfl := Option.some.inj H
           go_wp2_with (first | ((with_reducible refine ae (f := 52) rfl ?_); refine xgl 21 Tryd.func52 #[.int .u8 a0, .string (⟨#[58, 47, 63, 35, 91, 93, 64]⟩ : ByteArray)] ?_; (with_reducible refine (ay kj11 a0 (⟨#[58, 47, 63, 35, 91, 93, 64]⟩ : ByteArray) true _ A14.out).mono ?_); rintro e w' ⟨rfl, ⟨nd, rfl⟩⟩; refine ⟨_, rfl, ?_⟩) | ((with_reducible refine ae (f := 52) rfl ?_); refine xgl 25 Tryd.func52 #[.int .u8 a0, .string (⟨#[48, 49, 50, 51, 52, 53, 54, 55, 56, 57, 65, 66, 67, 68, 69, 70, 97, 98, 99, 100, 101, 102]⟩ : ByteArray)] ?_; (with_reducible refine (ay kj11 a0 (⟨#[48, 49, 50, 51, 52, 53, 54, 55, 56, 57, 65, 66, 67, 68, 69, 70, 97, 98, 99, 100, 101, 102]⟩ : ByteArray) false _ A16.out).mono ?_); rintro e w' ⟨rfl, ⟨nd, rfl⟩⟩; refine ⟨_, rfl, ?_⟩))
           go_ret
           exact ⟨xrr, xdr⟩
         ·
          replace c15 := Bool.eq_false_iff.mpr c15
          subst c15
          rw [if_neg (show ¬ (false = true) by decide)] at H
          replace H := Option.bind_eq_some_iff.mp H
          obtain ⟨Ao, A180, H⟩ := H
          try dsimp only at H
          have A18 := Zz.mk A180
          clear A180
          by_cases c19 : Ao = true
          ·
           subst c19
           rw [if_pos rfl] at H
           obtain rfl := Option.some.inj H
           go_wp2_with (first | ((with_reducible refine ae (f := 52) rfl ?_); refine xgl 21 Tryd.func52 #[.int .u8 a0, .string (⟨#[58, 47, 63, 35, 91, 93, 64]⟩ : ByteArray)] ?_; (with_reducible refine (ay kj11 a0 (⟨#[58, 47, 63, 35, 91, 93, 64]⟩ : ByteArray) false _ A14.out).mono ?_); rintro e w' ⟨rfl, ⟨nd, rfl⟩⟩; refine ⟨_, rfl, ?_⟩) | ((with_reducible refine ae (f := 52) rfl ?_); refine xgl 25 Tryd.func52 #[.int .u8 a0, .string (⟨#[48, 49, 50, 51, 52, 53, 54, 55, 56, 57, 65, 66, 67, 68, 69, 70, 97, 98, 99, 100, 101, 102]⟩ : ByteArray)] ?_; (with_reducible refine (ay kj11 a0 (⟨#[48, 49, 50, 51, 52, 53, 54, 55, 56, 57, 65, 66, 67, 68, 69, 70, 97, 98, 99, 100, 101, 102]⟩ : ByteArray) true _ A18.out).mono ?_); rintro e w' ⟨rfl, ⟨nd, rfl⟩⟩; refine ⟨_, rfl, ?_⟩))
           go_ret
           exact ⟨xrr, xdr⟩
          ·
           replace c19 := Bool.eq_false_iff.mpr c19
           subst c19
           rw [if_neg (show ¬ (false = true) by decide)] at H
           obtain rfl := Option.some.inj H
           go_wp2_with (first | ((with_reducible refine ae (f := 52) rfl ?_); refine xgl 21 Tryd.func52 #[.int .u8 a0, .string (⟨#[58, 47, 63, 35, 91, 93, 64]⟩ : ByteArray)] ?_; (with_reducible refine (ay kj11 a0 (⟨#[58, 47, 63, 35, 91, 93, 64]⟩ : ByteArray) false _ A14.out).mono ?_); rintro e w' ⟨rfl, ⟨nd, rfl⟩⟩; refine ⟨_, rfl, ?_⟩) | ((with_reducible refine ae (f := 52) rfl ?_); refine xgl 25 Tryd.func52 #[.int .u8 a0, .string (⟨#[48, 49, 50, 51, 52, 53, 54, 55, 56, 57, 65, 66, 67, 68, 69, 70, 97, 98, 99, 100, 101, 102]⟩ : ByteArray)] ?_; (with_reducible refine (ay kj11 a0 (⟨#[48, 49, 50, 51, 52, 53, 54, 55, 56, 57, 65, 66, 67, 68, 69, 70, 97, 98, 99, 100, 101, 102]⟩ : ByteArray) false _ A18.out).mono ?_); rintro e w' ⟨rfl, ⟨nd, rfl⟩⟩; refine ⟨_, rfl, ?_⟩))
           go_ret
           exact ⟨xrr, xdr⟩
def dY : Nat → Int → Int → Bool → ByteArray → ByteArray → ByteArray → ByteArray → ByteArray → ByteArray → ByteArray → ByteArray → Option (Bool)
  | 0, _, _, _, _, _, _, _, _, _, _, _ => none
  | k + 1, x0, x1, Ar, Aa, Ab, Ac, Ad, Ae, Af, Ag, Ah => if Ar = true then (some false) else ((bc k x1).bind fun Ai => (if (Go.bits .and .i64 Ai 15) = 0 then (if 0 ≤ x0 then (if x0 = 0 then ((aq k x1 Aa).bind fun Aj => (some Aj)) else (if x0 = 1 then ((aq k x1 Ab).bind fun Ak => (some Ak)) else (if x0 = 2 then ((aq k x1 Ac).bind fun Al => (some Al)) else (if x0 = 3 then ((aq k x1 Ad).bind fun Am => (some Am)) else (if x0 = 4 then ((aq k x1 Ae).bind fun An => (some An)) else (if x0 = 5 then ((aq k x1 Af).bind fun Ao => (some Ao)) else (if x0 = 6 then ((aq k x1 Ag).bind fun Ap => (some Ap)) else (if x0 = 7 then ((aq k x1 Ah).bind fun Aq => (some Aq)) else (none))))))))) else (none)) else (some true)))
def gm (k : Nat) (a0 : Int) (a1 : Int) : Option (Bool) := if a0 < 1 then (dY k a0 a1 true (⟨#[]⟩ : ByteArray) (⟨#[58]⟩ : ByteArray) (⟨#[]⟩ : ByteArray) (⟨#[58, 64]⟩ : ByteArray) (⟨#[64]⟩ : ByteArray) (⟨#[58, 64, 47]⟩ : ByteArray) (⟨#[58, 64, 47, 63]⟩ : ByteArray) (⟨#[58, 64, 47, 63]⟩ : ByteArray)) else (dY k a0 a1 (decide (a0 > 7)) (⟨#[]⟩ : ByteArray) (⟨#[58]⟩ : ByteArray) (⟨#[]⟩ : ByteArray) (⟨#[58, 64]⟩ : ByteArray) (⟨#[64]⟩ : ByteArray) (⟨#[58, 64, 47]⟩ : ByteArray) (⟨#[58, 64, 47, 63]⟩ : ByteArray) (⟨#[58, 64, 47, 63]⟩ : ByteArray))
mutual
def aC : Nat → Int → Bool → Option (Bool)
  | 0, _, _ => none
  | k + 1, x0, x25 => if x25 = true then (some true) else (cY k x0 1)
def cY : Nat → Int → Int → Option (Bool)
  | 0, _, _ => none
  | k + 1, x0, x3 => if x3 ≤ 13 then (if x0 ≥ (wrap64 (x3 * 65536)) then (if x0 ≤ (wrap64 ((wrap64 (x3 * 65536)) + 65533)) then (some true) else (cY k x0 (wrap64 (x3 + 1)))) else (cY k x0 (wrap64 (x3 + 1)))) else (if x0 ≥ 921600 then (some (decide (x0 ≤ 983037))) else (some false))
end
def f7 (k : Nat) (a0 : Int) : Option (Bool) := if a0 ≥ 160 then (if a0 ≤ 55295 then (aC k a0 true) else (if a0 ≥ 63744 then (if a0 ≤ 64975 then (aC k a0 true) else (if a0 ≥ 65008 then (aC k a0 (decide (a0 ≤ 65519))) else (aC k a0 false))) else (if a0 ≥ 65008 then (aC k a0 (decide (a0 ≤ 65519))) else (aC k a0 false)))) else (if a0 ≥ 63744 then (if a0 ≤ 64975 then (aC k a0 true) else (if a0 ≥ 65008 then (aC k a0 (decide (a0 ≤ 65519))) else (aC k a0 false))) else (if a0 ≥ 65008 then (aC k a0 (decide (a0 ≤ 65519))) else (aC k a0 false)))
def dc : Nat → ByteArray → Int → List ByteArray → Int → Option (List ByteArray)
  | 0, _, _, _, _ => none
  | k + 1, x0, x1, x5, x6 => if x6 < (x0.size : Int) then (if 0 ≤ x6 then (if (bt x0 x6) = x1 then (if x5.length < 8796093022208 then (dc k x0 x1 (x5 ++ [(⟨#[]⟩ : ByteArray)]) (wrap64 (x6 + 1))) else (none)) else (if 0 ≤ (wrap64 ((x5.length : Int) - 1)) then (if (wrap64 ((x5.length : Int) - 1)) < (x5.length : Int) then (if x6 ≤ (wrap64 (x6 + 1)) then (if (wrap64 (x6 + 1)) ≤ (x0.size : Int) then (if (al ByteArray.empty x5 (wrap64 ((x5.length : Int) - 1))).size + (x0.extract (x6 : Int).toNat ((wrap64 (x6 + 1)) : Int).toNat).size ≤ 9223372036854775807 then (dc k x0 x1 (x5.set ((wrap64 ((x5.length : Int) - 1)) : Int).toNat ((al ByteArray.empty x5 (wrap64 ((x5.length : Int) - 1))) ++ (x0.extract (x6 : Int).toNat ((wrap64 (x6 + 1)) : Int).toNat))) (wrap64 (x6 + 1))) else (none)) else (none)) else (none)) else (none)) else (none))) else (none)) else (some x5)
def gn (k : Nat) (a0 : ByteArray) (a1 : Int) : Option (List ByteArray) := dc k a0 a1 (([(⟨#[]⟩ : ByteArray)] : List ByteArray)) 0
def cu (a0 : Int) : Option (ByteArray) := if 0 ≤ ((Int.tdiv a0 16) % 256) then (if ((Int.tdiv a0 16) % 256) ≤ ((((Int.tdiv a0 16) % 256) + 1) % 256) then (if ((((Int.tdiv a0 16) % 256) + 1) % 256) ≤ 16 then (if 1 + ((⟨#[48, 49, 50, 51, 52, 53, 54, 55, 56, 57, 65, 66, 67, 68, 69, 70]⟩ : ByteArray).extract (((Int.tdiv a0 16) % 256) : Int).toNat (((((Int.tdiv a0 16) % 256) + 1) % 256) : Int).toNat).size ≤ 9223372036854775807 then (if 0 ≤ (Int.tmod a0 16) then (if (Int.tmod a0 16) ≤ (((Int.tmod a0 16) + 1) % 256) then (if (((Int.tmod a0 16) + 1) % 256) ≤ 16 then (if ((⟨#[37]⟩ : ByteArray) ++ ((⟨#[48, 49, 50, 51, 52, 53, 54, 55, 56, 57, 65, 66, 67, 68, 69, 70]⟩ : ByteArray).extract (((Int.tdiv a0 16) % 256) : Int).toNat (((((Int.tdiv a0 16) % 256) + 1) % 256) : Int).toNat)).size + ((⟨#[48, 49, 50, 51, 52, 53, 54, 55, 56, 57, 65, 66, 67, 68, 69, 70]⟩ : ByteArray).extract ((Int.tmod a0 16) : Int).toNat ((((Int.tmod a0 16) + 1) % 256) : Int).toNat).size ≤ 9223372036854775807 then (some (((⟨#[37]⟩ : ByteArray) ++ ((⟨#[48, 49, 50, 51, 52, 53, 54, 55, 56, 57, 65, 66, 67, 68, 69, 70]⟩ : ByteArray).extract (((Int.tdiv a0 16) % 256) : Int).toNat (((((Int.tdiv a0 16) % 256) + 1) % 256) : Int).toNat)) ++ ((⟨#[48, 49, 50, 51, 52, 53, 54, 55, 56, 57, 65, 66, 67, 68, 69, 70]⟩ : ByteArray).extract ((Int.tmod a0 16) : Int).toNat ((((Int.tmod a0 16) + 1) % 256) : Int).toNat))) else (none)) else (none)) else (none)) else (none)) else (none)) else (none)) else (none)) else (none)
theorem f6 (a0 : Int) (r : ByteArray) (w : World) (h : cu a0 = some r) :
    Calls Tryd.prog 35 #[.int .u8 a0] w fun e w' => e = .returned (.string r) ∧ Drawn0 w w' := by
 have H : (if 0 ≤ ((Int.tdiv a0 16) % 256) then (if ((Int.tdiv a0 16) % 256) ≤ ((((Int.tdiv a0 16) % 256) + 1) % 256) then (if ((((Int.tdiv a0 16) % 256) + 1) % 256) ≤ 16 then (if 1 + ((⟨#[48, 49, 50, 51, 52, 53, 54, 55, 56, 57, 65, 66, 67, 68, 69, 70]⟩ : ByteArray).extract (((Int.tdiv a0 16) % 256) : Int).toNat (((((Int.tdiv a0 16) % 256) + 1) % 256) : Int).toNat).size ≤ 9223372036854775807 then (if 0 ≤ (Int.tmod a0 16) then (if (Int.tmod a0 16) ≤ (((Int.tmod a0 16) + 1) % 256) then (if (((Int.tmod a0 16) + 1) % 256) ≤ 16 then (if ((⟨#[37]⟩ : ByteArray) ++ ((⟨#[48, 49, 50, 51, 52, 53, 54, 55, 56, 57, 65, 66, 67, 68, 69, 70]⟩ : ByteArray).extract (((Int.tdiv a0 16) % 256) : Int).toNat (((((Int.tdiv a0 16) % 256) + 1) % 256) : Int).toNat)).size + ((⟨#[48, 49, 50, 51, 52, 53, 54, 55, 56, 57, 65, 66, 67, 68, 69, 70]⟩ : ByteArray).extract ((Int.tmod a0 16) : Int).toNat ((((Int.tmod a0 16) + 1) % 256) : Int).toNat).size ≤ 9223372036854775807 then (some (((⟨#[37]⟩ : ByteArray) ++ ((⟨#[48, 49, 50, 51, 52, 53, 54, 55, 56, 57, 65, 66, 67, 68, 69, 70]⟩ : ByteArray).extract (((Int.tdiv a0 16) % 256) : Int).toNat (((((Int.tdiv a0 16) % 256) + 1) % 256) : Int).toNat)) ++ ((⟨#[48, 49, 50, 51, 52, 53, 54, 55, 56, 57, 65, 66, 67, 68, 69, 70]⟩ : ByteArray).extract ((Int.tmod a0 16) : Int).toNat ((((Int.tmod a0 16) + 1) % 256) : Int).toNat))) else (none)) else (none)) else (none)) else (none)) else (none)) else (none)) else (none)) else (none)) = some r := h
 clear h
 obtain ⟨Aj, Ac⟩ : ∃ j_ : Int, ((Int.tdiv a0 16) % 256) = j_ := ⟨_, rfl⟩
 first | rw [Ac] at H | simp only [Ac] at H | skip
 try (have Ap : (IntKind.u8.wrap (Int.tdiv a0 16)) = Aj := Ac)
 by_cases c3 : 0 ≤ (Aj)
 ·
  rw [if_pos c3] at H
  have AB := eq_true c3
  have AC := decide_eq_true c3
  clear c3
  obtain ⟨An, Ad⟩ : ∃ j_ : Int, (((Aj) + 1) % 256) = j_ := ⟨_, rfl⟩
  first | rw [Ad] at H | simp only [Ad] at H | skip
  try (have Aq : (IntKind.u8.wrap ((Aj) + 1)) = An := Ad)
  by_cases c5 : (Aj) ≤ (An)
  ·
   rw [if_pos c5] at H
   have AD := eq_true c5
   have AE := decide_eq_true c5
   clear c5
   by_cases c6 : (An) ≤ 16
   ·
    rw [if_pos c6] at H
    have AF := eq_true c6
    have AG := decide_eq_true c6
    clear c6
    obtain ⟨Ak, Ae⟩ : ∃ j_ : ByteArray, ((⟨#[48, 49, 50, 51, 52, 53, 54, 55, 56, 57, 65, 66, 67, 68, 69, 70]⟩ : ByteArray).extract ((Aj) : Int).toNat ((An) : Int).toNat) = j_ := ⟨_, rfl⟩
    try (have Al := Ae; simp only [Int.toNat_natCast] at Al)
    first | rw [Ae] at H | simp only [Ae] at H | skip
    by_cases c8 : 1 + (Ak).size ≤ 9223372036854775807
    ·
     rw [if_pos c8] at H
     have AH := eq_true c8
     have AI := decide_eq_true c8
     try have AJ : (9223372036854775807 < 1 + (Ak).size) = False := eq_false (Nat.not_lt.2 c8)
     obtain ⟨Am, Ag⟩ : ∃ j_ : Int, (Int.tmod a0 16) = j_ := ⟨_, rfl⟩
     first | rw [Ag] at H | simp only [Ag] at H | skip
     by_cases c10 : 0 ≤ (Am)
     ·
      rw [if_pos c10] at H
      have Ar := eq_true c10
      have As := decide_eq_true c10
      clear c10
      obtain ⟨Af, Aa⟩ : ∃ j_ : Int, (((Am) + 1) % 256) = j_ := ⟨_, rfl⟩
      first | rw [Aa] at H | simp only [Aa] at H | skip
      try (have Ao : (IntKind.u8.wrap ((Am) + 1)) = Af := Aa)
      by_cases c12 : (Am) ≤ (Af)
      ·
       rw [if_pos c12] at H
       have At := eq_true c12
       have Au := decide_eq_true c12
       clear c12
       by_cases c13 : (Af) ≤ 16
       ·
        rw [if_pos c13] at H
        have Av := eq_true c13
        have Aw := decide_eq_true c13
        clear c13
        obtain ⟨Ah, Ab⟩ : ∃ j_ : ByteArray, ((⟨#[48, 49, 50, 51, 52, 53, 54, 55, 56, 57, 65, 66, 67, 68, 69, 70]⟩ : ByteArray).extract ((Am) : Int).toNat ((Af) : Int).toNat) = j_ := ⟨_, rfl⟩
        try (have Ai := Ab; simp only [Int.toNat_natCast] at Ai)
        first | rw [Ab] at H | simp only [Ab] at H | skip
        by_cases c15 : ((⟨#[37]⟩ : ByteArray) ++ (Ak)).size + (Ah).size ≤ 9223372036854775807
        ·
         rw [if_pos c15] at H
         have Ax := eq_true c15
         have Ay := decide_eq_true c15
         try have Az : (9223372036854775807 < ((⟨#[37]⟩ : ByteArray) ++ (Ak)).size + (Ah).size) = False := eq_false (Nat.not_lt.2 c15)
         try have AA : (9223372036854775807 < 1 + (Ak).size + (Ah).size) = False := eq_false (Nat.not_lt.2 (by have h_ := c15; simp only [ByteArray.size_append] at h_; exact h_))
         obtain rfl := Option.some.inj H
         go_enter Tryd.func35, Tryd.ntmps35
         go_wp2
         repeat (go_quiet (fail); try go_wp2)
         go_ret
         exact ⟨by first | rfl | (simp; done) | (simp only [← Ac, ← Ad, ← Ae, ← Ag, ← Aa, ← Ab] <;> (first | rfl | simp)) | (simp [*]; done) | (simp [wrap64]; done), xdr⟩
        ·
         rw [if_neg c15] at H
         exact absurd H (by simp)
       ·
        rw [if_neg c13] at H
        exact absurd H (by simp)
      ·
       rw [if_neg c12] at H
       exact absurd H (by simp)
     ·
      rw [if_neg c10] at H
      exact absurd H (by simp)
    ·
     rw [if_neg c8] at H
     exact absurd H (by simp)
   ·
    rw [if_neg c6] at H
    exact absurd H (by simp)
  ·
   rw [if_neg c5] at H
   exact absurd H (by simp)
 ·
  rw [if_neg c3] at H
  exact absurd H (by simp)
mutual
def b8 : Nat → ByteArray → Int → Bool → Bool → ByteArray → Int → Option (ByteArray)
  | 0, _, _, _, _, _, _ => none
  | k + 1, x0, x1, x2, x3, x9, Aa => if Aa < (x0.size : Int) then ((fb k x0 Aa).bind fun Ab => (if Ab < 0 then (if 0 ≤ Aa then (if Aa ≤ (wrap64 (Aa + 1)) then (if (wrap64 (Aa + 1)) ≤ (x0.size : Int) then (if x9.size + (x0.extract (Aa : Int).toNat ((wrap64 (Aa + 1)) : Int).toNat).size ≤ 9223372036854775807 then (b8 k x0 x1 x2 x3 (x9 ++ (x0.extract (Aa : Int).toNat ((wrap64 (Aa + 1)) : Int).toNat)) (wrap64 (Aa + 1))) else (none)) else (none)) else (none)) else (none)) else (if x2 = true then (eo k x0 x1 x2 x3 x9 Aa Ab true) else ((bc k ((Ab) % 256)).bind fun Ac => (eo k x0 x1 x2 x3 x9 Aa Ab ((Go.bits .and .i64 Ac x1) != 0)))))) else (some x9)
def eo : Nat → ByteArray → Int → Bool → Bool → ByteArray → Int → Int → Bool → Option (ByteArray)
  | 0, _, _, _, _, _, _, _, _ => none
  | k + 1, x0, x1, x2, x3, x9, Aa, Ad, Ae => if Ae = true then ((some (([(Ad) % 256] : List Int) : List Int)).bind fun Ab => (if x9.size + (strOfNums Ab).size ≤ 9223372036854775807 then (b8 k x0 x1 x2 x3 (x9 ++ (strOfNums Ab)) (wrap64 (Aa + 3))) else (none))) else (if x3 = true then ((cu ((Ad) % 256)).bind fun Ac => (if x9.size + Ac.size ≤ 9223372036854775807 then (b8 k x0 x1 x2 x3 (x9 ++ Ac) (wrap64 (Aa + 3))) else (none))) else (if 0 ≤ Aa then (if Aa ≤ (wrap64 (Aa + 3)) then (if (wrap64 (Aa + 3)) ≤ (x0.size : Int) then (if x9.size + (x0.extract (Aa : Int).toNat ((wrap64 (Aa + 3)) : Int).toNat).size ≤ 9223372036854775807 then (b8 k x0 x1 x2 x3 (x9 ++ (x0.extract (Aa : Int).toNat ((wrap64 (Aa + 3)) : Int).toNat)) (wrap64 (Aa + 3))) else (none)) else (none)) else (none)) else (none)))
end
def gD (k : Nat) (a0 : ByteArray) (a1 : Int) (a2 : Bool) (a3 : Bool) : Option (ByteArray) := b8 k a0 a1 a2 a3 (⟨#[]⟩ : ByteArray) 0
mutual
def dZ : Nat → ByteArray → Bool → List ByteArray → Option (Bool × List ByteArray)
  | 0, _, _, _ => none
  | k + 1, x0, Aa, Ab => (gn k x0 47).bind fun Ac => (d4 k Ac 0 Aa Ab)
def d4 : Nat → List ByteArray → Int → Bool → List ByteArray → Option (Bool × List ByteArray)
  | 0, _, _, _, _ => none
  | k + 1, x4, x5, Ab, Aa => if x5 < (x4.length : Int) then (if 0 ≤ x5 then ((gD k (al ByteArray.empty x4 x5) 0 true false).bind fun Ac => (if Aa.length < 8796093022208 then (d4 k x4 (wrap64 (x5 + 1)) Ab (Aa ++ [Ac])) else (none))) else (none)) else (some (Ab, Aa))
end
def gp (k : Nat) (a0 : ByteArray) : Option (Bool × List ByteArray) := (some (([] : List ByteArray) : List ByteArray)).bind fun y247 => (if a0.toList = ([] : List UInt8) then (some (false, y247)) else (if 0 < (a0.size : Int) then (if (bt a0 0) = 47 then (if 1 ≤ (a0.size : Int) then (dZ k (a0.extract 1 a0.size) true y247) else (none)) else (dZ k a0 false y247)) else (none)))
def er : Nat → List ByteArray → List ByteArray → Int → Option (Bool)
  | 0, _, _, _ => none
  | k + 1, x0, x1, x5 => if x5 < (x0.length : Int) then (if 0 ≤ x5 then (if x5 < (x1.length : Int) then (if (al ByteArray.empty x0 x5).toList = (al ByteArray.empty x1 x5).toList then (er k x0 x1 (wrap64 (x5 + 1))) else (some false)) else (none)) else (none)) else (some true)
def gF (k : Nat) (l0 : List ByteArray) (l1 : List ByteArray) : Option (Bool) := if (l0.length : Int) = (l1.length : Int) then (er k l0 l1 0) else (some false)
def bH (a0_0 : Bool) (l0_1 : List ByteArray) : Option (Bool) := if a0_0 = true then (some (decide ((l0_1.length : Int) > 0))) else (if (l0_1.length : Int) = 0 then (some true) else (if 0 < (l0_1.length : Int) then (some ((al ByteArray.empty l0_1 0).toList != ([] : List UInt8))) else (none)))
theorem d7 (Ad : Bool) (A0_1 : Option Addr) (c0_1 : Nat) (l0_1 : List ByteArray) (r : Bool) (w : World) (hr0_1 : Kd.C Kd.string w A0_1 l0_1.length l0_1) (hc0_1 : l0_1.length ≤ c0_1) (h : bH Ad l0_1 = some r) :
    Calls Tryd.prog 13 #[.agg #[.bool Ad, .slice A0_1 l0_1.length c0_1]] w fun e w' => e = .returned (.bool r) ∧ Below w.heap.size w w' := by
 have hu25 := Tryd.underlying25
 have HR0_1 := Zz.mk hr0_1
 have HC0_1 := Zz.mk hc0_1
 clear hr0_1 hc0_1
 have HB := Zz.mk (Below.refl w.heap.size w)
 have H : (if Ad = true then (some (decide ((l0_1.length : Int) > 0))) else (if (l0_1.length : Int) = 0 then (some true) else (if 0 < (l0_1.length : Int) then (some ((al ByteArray.empty l0_1 0).toList != ([] : List UInt8))) else (none)))) = some r := h
 clear h
 by_cases c2 : Ad = true
 ·
  subst c2
  rw [if_pos rfl] at H
  obtain rfl := Option.some.inj H
  go_enter Tryd.func13, Tryd.ntmps13
  go_wp2_with (first | ((with_reducible refine ak (N := 1) rfl ?_); refine xev 1 #[.bool true, .slice A0_1 l0_1.length c0_1] 25 ?_; intro Ae hg w3 hbox hb; have Aa := Zz.mk (hbox); have Ac := xsz hg; have Af := Ac; replace HB := xst hb; clear hb hbox hg; obtain ⟨hcz4_0, hcz4_1⟩ := xc2 Aa; have hfz4_0 := xf Aa 0; have hfz4_1 := xf Aa 1))
  go_ret
  exact ⟨xre, xbl⟩
 ·
  replace c2 := Bool.eq_false_iff.mpr c2
  subst c2
  rw [if_neg (show ¬ (false = true) by decide)] at H
  by_cases c5 : (l0_1.length : Int) = 0
  ·
   rw [if_pos c5] at H
   have Ag : ((l0_1.length : Int) == 0) = true := beq_iff_eq.mpr c5
   have Ah : ((l0_1.length : Int) != 0) = false := bne_eq_false_iff_eq.mpr c5
   clear c5
   obtain rfl := Option.some.inj H
   go_enter Tryd.func13, Tryd.ntmps13
   go_wp2_with (first | ((with_reducible refine ak (N := 1) rfl ?_); refine xev 1 #[.bool false, .slice A0_1 l0_1.length c0_1] 25 ?_; intro Ae hg w6 hbox hb; have Aa := Zz.mk (hbox); have Ac := xsz hg; have Af := Ac; replace HB := xst hb; clear hb hbox hg; obtain ⟨hcz7_0, hcz7_1⟩ := xc2 Aa; have hfz7_0 := xf Aa 0; have hfz7_1 := xf Aa 1))
   go_ret
   exact ⟨xre, xbl⟩
  ·
   rw [if_neg c5] at H
   have Ag : ((l0_1.length : Int) == 0) = false := beq_eq_false_iff_ne.mpr c5
   have Ah : ((l0_1.length : Int) != 0) = true := bne_iff_ne.mpr c5
   have Ak : ¬ (l0_1 = []) := fun h_ => c5 (by rw [h_]; rfl)
   by_cases c8 : 0 < (l0_1.length : Int)
   ·
    rw [if_pos c8] at H
    have Al := decide_eq_true c8
    have Am : decide (0 < l0_1.length) = true := decide_eq_true (by omega)
    clear c8
    obtain rfl := Option.some.inj H
    go_enter Tryd.func13, Tryd.ntmps13
    go_wp2_with (first | ((with_reducible refine ak (N := 1) rfl ?_); refine xev 1 #[.bool false, .slice A0_1 l0_1.length c0_1] 25 ?_; intro Ae hg w9 hbox hb; have Aa := Zz.mk (hbox); have Ac := xsz hg; have Af := Ac; replace HB := xst hb; clear hb hbox hg; obtain ⟨hcz10_0, hcz10_1⟩ := xc2 Aa; have hfz10_0 := xf Aa 0; have hfz10_1 := xf Aa 1; have p262 : 0 ≤ (0 : Int) := (by omega); have q262 : 0 < (l0_1.length : Int) := xod; obtain ⟨Ai, e262, Ab⟩ := Kd.at_string HR0_1.out 0 p262 q262; cases e262; have Aj : (0 < l0_1.length) = True := eq_true (by omega); (try rw [show ((0 : Int)).toNat = 0 from rfl] at Ab); (try rw [Addr.add_zero'] at Ab); replace Ab := (HB.out.cell (World.block_lt_of_cell? w _ Ab)).trans Ab; replace p262 := eq_true p262; replace q262 := eq_true q262))
    go_ret
    exact ⟨xre, xbl⟩
   ·
    rw [if_neg c8] at H
    exact absurd H (by simp)
def ax : Nat → List ByteArray → List ByteArray → Int → Int → Option (Bool)
  | 0, _, _, _, _ => none
  | k + 1, x0, x1, x12, x13 => if x13 < x12 then (if 0 ≤ x13 then (if x13 < (x0.length : Int) then (if x13 < (x1.length : Int) then (if (al ByteArray.empty x0 x13).toList = (al ByteArray.empty x1 x13).toList then (ax k x0 x1 x12 (wrap64 (x13 + 1))) else (some false)) else (none)) else (none)) else (none)) else (some true)
def bv (k : Nat) (l0 : List ByteArray) (l1 : List ByteArray) : Option (Bool) := if (l0.length : Int) = (l1.length : Int) then (ax k l0 l1 (l0.length : Int) 0) else (some false)
theorem dP (k : Nat) (A0 : Option Addr) (c0 : Nat) (l0 : List ByteArray) (A1 : Option Addr) (c1 : Nat) (l1 : List ByteArray) (r : Bool) (w : World) (hr0 : Kd.C Kd.string w A0 l0.length l0) (hc0 : l0.length ≤ c0) (hr1 : Kd.C Kd.string w A1 l1.length l1) (hc1 : l1.length ≤ c1) (h : bv k l0 l1 = some r) :
    Calls Tryd.prog 33 #[.slice A0 l0.length c0, .slice A1 l1.length c1] w fun e w' => e = .returned (.bool r) ∧ Drawn0 w w' := by
 have HR0 := Zz.mk hr0
 have Aq := Zz.mk hc0
 clear hr0 hc0
 have HR1 := Zz.mk hr1
 have Ar := Zz.mk hc1
 clear hr1 hc1
 have H : (if (l0.length : Int) = (l1.length : Int) then (ax k l0 l1 (l0.length : Int) 0) else (some false)) = some r := h
 clear h
 by_cases c3 : (l0.length : Int) = (l1.length : Int)
 ·
  rw [if_pos c3] at H
  have Af : ((l0.length : Int) == (l1.length : Int)) = true := beq_iff_eq.mpr c3
  have Ag : ((l0.length : Int) != (l1.length : Int)) = false := bne_eq_false_iff_eq.mpr c3
  have Ah : (l0.length == l1.length) = true := by first | simpa using c3 | (simp at c3 ⊢; omega)
  clear c3
  have H' := Zz.mk H
  clear H
  go_enter Tryd.func33, Tryd.ntmps33
  go_wp2
  repeat (go_quiet (fail); try go_wp2)
  go_loopg [13] k (fun kq v13 w' => ∃ (Aa : Int), v13 = .int .i64 Aa ∧ Zz (ax kq l0 l1 (l0.length : Int) Aa = some r) ∧ Zz (kq ≤ k) ∧ Drawn0 w w')
  case atStart => exact ⟨(0), xrr, H', ⟨Nat.le_refl _⟩, xdr⟩
  case round =>
   clear H'
   clear Af Ag Ah
   obtain ⟨Aa, rfl, HA, HK1, ⟨m1, rfl⟩⟩ := hrel
   cases gk with
   | zero => exact absurd HA.out (by simp [ax])
   | succ k1 =>
    have H := HA.out
    clear HA
    simp only [ax] at H
    by_cases c4 : Aa < (l0.length : Int)
    ·
     rw [if_pos c4] at H
     have Ak := decide_eq_true c4
     clear c4
     by_cases c5 : 0 ≤ Aa
     ·
      rw [if_pos c5] at H
      have An := decide_eq_true c5
      clear c5
      by_cases c6 : Aa < (l0.length : Int)
      ·
       rw [if_pos c6] at H
       have Ao := decide_eq_true c6
       clear c6
       by_cases c7 : Aa < (l1.length : Int)
       ·
        rw [if_pos c7] at H
        have Ap := decide_eq_true c7
        clear c7
        by_cases c8 : (al ByteArray.empty l0 Aa).toList = (al ByteArray.empty l1 Aa).toList
        ·
         rw [if_pos c8] at H
         have Al : ((al ByteArray.empty l0 Aa).toList == (al ByteArray.empty l1 Aa).toList) = true := beq_iff_eq.mpr c8
         have Am : ((al ByteArray.empty l0 Aa).toList != (al ByteArray.empty l1 Aa).toList) = false := bne_eq_false_iff_eq.mpr c8
         clear c8
         have H' := Zz.mk H
         clear H
         have p263 : 0 ≤ (Aa : Int) := xod
         have q263 : Aa < (l0.length : Int) := xod
         obtain ⟨Ai, e263, Ad⟩ := Kd.at_string HR0.out Aa p263 q263
         cases e263
         replace p263 := eq_true p263
         replace q263 := eq_true q263
         try (have Ab := q263; simp only [ByteArray.size_extract, Nat.min_self] at Ab)
         have p264 : 0 ≤ (Aa : Int) := xod
         have q264 : Aa < (l1.length : Int) := xod
         obtain ⟨Aj, e264, Ae⟩ := Kd.at_string HR1.out Aa p264 q264
         cases e264
         replace p264 := eq_true p264
         replace q264 := eq_true q264
         try (have Ac := q264; simp only [ByteArray.size_extract, Nat.min_self] at Ac)
         go_wp2
         repeat (go_quiet (fail); try go_wp2)
         go_roundg k1
         case measure => have := HK1.out; omega
         case rel => exact ⟨(wrap64 (Aa + 1)), xrr, H', ⟨by have := HK1.out; omega⟩, xdr⟩
        ·
         rw [if_neg c8] at H
         have Al : ((al ByteArray.empty l0 Aa).toList == (al ByteArray.empty l1 Aa).toList) = false := beq_eq_false_iff_ne.mpr c8
         have Am : ((al ByteArray.empty l0 Aa).toList != (al ByteArray.empty l1 Aa).toList) = true := bne_iff_ne.mpr c8
         obtain rfl := Option.some.inj H
         have p263 : 0 ≤ (Aa : Int) := xod
         have q263 : Aa < (l0.length : Int) := xod
         obtain ⟨Ai, e263, Ad⟩ := Kd.at_string HR0.out Aa p263 q263
         cases e263
         replace p263 := eq_true p263
         replace q263 := eq_true q263
         try (have Ab := q263; simp only [ByteArray.size_extract, Nat.min_self] at Ab)
         have p264 : 0 ≤ (Aa : Int) := xod
         have q264 : Aa < (l1.length : Int) := xod
         obtain ⟨Aj, e264, Ae⟩ := Kd.at_string HR1.out Aa p264 q264
         cases e264
         replace p264 := eq_true p264
         replace q264 := eq_true q264
         try (have Ac := q264; simp only [ByteArray.size_extract, Nat.min_self] at Ac)
         go_wp2
         repeat (go_quiet (fail); try go_wp2)
         go_ret
         exact ⟨xrr, xdr⟩
       ·
        rw [if_neg c7] at H
        exact absurd H (by simp)
      ·
       rw [if_neg c6] at H
       exact absurd H (by simp)
     ·
      rw [if_neg c5] at H
      exact absurd H (by simp)
    ·
     rw [if_neg c4] at H
     have Ak := decide_eq_false c4
     clear c4
     obtain rfl := Option.some.inj H
     go_wp2
     repeat (go_quiet (fail); try go_wp2)
     go_ret
     exact ⟨xrr, xdr⟩
 ·
  rw [if_neg c3] at H
  have Af : ((l0.length : Int) == (l1.length : Int)) = false := beq_eq_false_iff_ne.mpr c3
  have Ag : ((l0.length : Int) != (l1.length : Int)) = true := bne_iff_ne.mpr c3
  have Ah : (l0.length == l1.length) = false := by first | simpa using c3 | (simp at c3 ⊢; omega)
  obtain rfl := Option.some.inj H
  go_enter Tryd.func33, Tryd.ntmps33
  go_wp2
  repeat (go_quiet (fail); try go_wp2)
  go_ret
  exact ⟨xrr, xdr⟩
def cb (k : Nat) (a0_0 : Bool) (l0_1 : List ByteArray) (a1_0 : Bool) (l1_1 : List ByteArray) : Option (Bool) := if (a0_0 == a1_0) = true then ((bv k l0_1 l1_1).bind fun t267 => (some t267)) else (some false)
theorem f9 (k : Nat) (Aa : Bool) (A0_1 : Option Addr) (c0_1 : Nat) (l0_1 : List ByteArray) (Ac : Bool) (A1_1 : Option Addr) (c1_1 : Nat) (l1_1 : List ByteArray) (r : Bool) (w : World) (hr0_1 : Kd.C Kd.string w A0_1 l0_1.length l0_1) (hc0_1 : l0_1.length ≤ c0_1) (hr1_1 : Kd.C Kd.string w A1_1 l1_1.length l1_1) (hc1_1 : l1_1.length ≤ c1_1) (h : cb k Aa l0_1 Ac l1_1 = some r) :
    Calls Tryd.prog 14 #[.agg #[.bool Aa, .slice A0_1 l0_1.length c0_1], .agg #[.bool Ac, .slice A1_1 l1_1.length c1_1]] w fun e w' => e = .returned (.bool r) ∧ Below w.heap.size w w' := by
 have hu25 := Tryd.underlying25
 have HR0_1 := Zz.mk hr0_1
 have HC0_1 := Zz.mk hc0_1
 clear hr0_1 hc0_1
 have HR1_1 := Zz.mk hr1_1
 have HC1_1 := Zz.mk hc1_1
 clear hr1_1 hc1_1
 have HB := Zz.mk (Below.refl w.heap.size w)
 have H : (if (Aa == Ac) = true then ((bv k l0_1 l1_1).bind fun Aj => (some Aj)) else (some false)) = some r := h
 clear h
 by_cases c3 : (Aa == Ac) = true
 ·
  rw [if_pos c3] at H
  have An : (Aa == Ac) = true := c3
  (try (have Ao : decide (Aa = Ac) = true := by simpa using c3))
  (try (have Ap : (Aa == Ac) = true := by simpa using c3))
  clear c3
  replace H := Option.bind_eq_some_iff.mp H
  obtain ⟨Aj, A40, H⟩ := H
  try dsimp only at H
  have A4 := Zz.mk A40
  clear A40
  obtain rfl := Option.some.inj H
  go_enter Tryd.func14, Tryd.ntmps14
  go_wp2_with (first | ((with_reducible refine ak (N := 2) rfl ?_); refine xev 2 #[.bool Aa, .slice A0_1 l0_1.length c0_1] 25 ?_; intro Af hg w5 hbox hb; have Ab := Zz.mk (hbox); have Ah := xsz hg; have Ak := Ah; replace HB := xst hb; clear hb hbox hg) | ((with_reducible refine ak (N := 3) rfl ?_); refine xev 3 #[.bool Ac, .slice A1_1 l1_1.length c1_1] 25 ?_; intro Al hg w6 hbox hb; have Ag := Zz.mk (hbox); have Ai := xsz hg; have Am := Ai; have Ad := xlt (g := Af) hg; have Ae := xgt (g := Af) hg; replace Ab := xbb (g := Af) (o := .cells #[.bool Aa, .slice A0_1 l0_1.length c0_1] 25 (0, 0)) hb; replace HB := xst hb; clear hb hbox hg; have As := Ad.out; have At := Ae.out; obtain ⟨hcz8_0, hcz8_1⟩ := xc2 Ab; have hfz8_0 := xf Ab 0; have hfz8_1 := xf Ab 1; obtain ⟨hcz9_0, hcz9_1⟩ := xc2 Ag; have hfz9_0 := xf Ag 0; have hfz9_1 := xf Ag 1) | (go_at_call 33; (with_reducible refine (dP k _ _ l0_1 _ _ l1_1 Aj _ ?side1 ?side2 ?side3 ?side4 A4.out).mono ?_); (case side1 => repeat (first | exact (Kd.C_below HR0_1.out HB.out) | (with_reducible refine Kd.C_alloc ?_ _) | (with_reducible refine Kd.C_drewN ?_ _) | (with_reducible refine Kd.C_drew ?_))); (case side2 => exact HC0_1.out); (case side3 => repeat (first | exact (Kd.C_below HR1_1.out HB.out) | (with_reducible refine Kd.C_alloc ?_ _) | (with_reducible refine Kd.C_drewN ?_ _) | (with_reducible refine Kd.C_drew ?_))); (case side4 => exact HC1_1.out); rintro e w' ⟨rfl, ⟨nd, rfl⟩⟩))
  go_ret
  exact ⟨xre, xbl⟩
 ·
  rw [if_neg c3] at H
  have An : (Aa == Ac) = false := by simpa using c3
  (try (have Ao : decide (Aa = Ac) = false := by simpa using c3))
  (try (have Ap : (Aa == Ac) = false := by simpa using c3))
  (try (have Au : ¬ (Aa = Ac) := by simpa using c3))
  clear c3
  obtain rfl := Option.some.inj H
  go_enter Tryd.func14, Tryd.ntmps14
  go_wp2_with (first | ((with_reducible refine ak (N := 2) rfl ?_); refine xev 2 #[.bool Aa, .slice A0_1 l0_1.length c0_1] 25 ?_; intro Af hg w10 hbox hb; have Ab := Zz.mk (hbox); have Ah := xsz hg; have Ak := Ah; replace HB := xst hb; clear hb hbox hg) | ((with_reducible refine ak (N := 3) rfl ?_); refine xev 3 #[.bool Ac, .slice A1_1 l1_1.length c1_1] 25 ?_; intro Al hg w11 hbox hb; have Ag := Zz.mk (hbox); have Ai := xsz hg; have Am := Ai; have Ad := xlt (g := Af) hg; have Ae := xgt (g := Af) hg; replace Ab := xbb (g := Af) (o := .cells #[.bool Aa, .slice A0_1 l0_1.length c0_1] 25 (0, 0)) hb; replace HB := xst hb; clear hb hbox hg; have Aq := Ad.out; have Ar := Ae.out; obtain ⟨hcz13_0, hcz13_1⟩ := xc2 Ab; have hfz13_0 := xf Ab 0; have hfz13_1 := xf Ab 1; obtain ⟨hcz14_0, hcz14_1⟩ := xc2 Ag; have hfz14_0 := xf Ag 0; have hfz14_1 := xf Ag 1))
  go_ret
  exact ⟨xre, xbl⟩
def fT (a0 : Int) : Option (Bool) := if a0 ≥ 57344 then (if a0 ≤ 63743 then (some true) else (if a0 ≥ 983040 then (if a0 ≤ 1048573 then (some true) else (if a0 ≥ 1048576 then (some (decide (a0 ≤ 1114109))) else (some false))) else (if a0 ≥ 1048576 then (some (decide (a0 ≤ 1114109))) else (some false)))) else (if a0 ≥ 983040 then (if a0 ≤ 1048573 then (some true) else (if a0 ≥ 1048576 then (some (decide (a0 ≤ 1114109))) else (some false))) else (if a0 ≥ 1048576 then (some (decide (a0 ≤ 1114109))) else (some false)))
mutual
def ez : Nat → Int → Bool → Int → Bool → Option (Bool)
  | 0, _, _, _, _ => none
  | k + 1, x0, x1, x2, x12 => if x12 = true then ((gm k x0 ((x2) % 256)).bind fun t221 => (some t221)) else (if x1 = true then (if x0 < 1 then (dn k x0 x2 true) else (dn k x0 x2 (decide (x0 > 7)))) else (dn k x0 x2 true))
def dn : Nat → Int → Int → Bool → Option (Bool)
  | 0, _, _, _ => none
  | k + 1, x0, x2, x26 => if x26 = true then (some false) else ((f7 k x2).bind fun t222 => (if t222 = true then (some true) else (if x0 = 6 then ((fT x2).bind fun t223 => (some t223)) else (some false))))
end
def gR (k : Nat) (a0 : Int) (a1 : Bool) (a2 : Int) : Option (Bool) := if a2 ≥ 0 then (ez k a0 a1 a2 (decide (a2 < 128))) else (ez k a0 a1 a2 false)
def eq : Nat → Int → Bool → ByteArray → Int → Bool → Option (Int)
  | 0, _, _, _, _, _ => none
  | k + 1, x0, x1, x2, x3, Ad => if Ad = true then (some 0) else ((fb k x2 x3).bind fun Ab => (if Ab ≥ 0 then (some 3) else (if 0 ≤ x3 then (if x3 ≤ (x2.size : Int) then ((f5 k (x2.extract (x3 : Int).toNat x2.size)).bind fun Aa => (if Aa.2.2 = true then ((gR k x0 x1 Aa.1).bind fun Ac => (if Ac = true then (some Aa.2.1) else (some 0))) else (some 0))) else (none)) else (none))))
def eA (k : Nat) (a0 : Int) (a1 : Bool) (a2 : ByteArray) (a3 : Int) : Option (Int) := if a0 < 1 then (eq k a0 a1 a2 a3 true) else (eq k a0 a1 a2 a3 (decide (a0 > 7)))
def ep : Nat → Int → Bool → ByteArray → Int → Option (Int)
  | 0, _, _, _, _ => none
  | k + 1, x0, x1, x2, x7 => if x7 < (x2.size : Int) then ((eA k x0 x1 x2 x7).bind fun t230 => (if t230 > 0 then ((eA k x0 x1 x2 x7).bind fun t231 => (ep k x0 x1 x2 (wrap64 (x7 + t231)))) else (some x7))) else (some x7)
def gE (k : Nat) (a0 : Int) (a1 : Bool) (a2 : ByteArray) : Option (Int) := ep k a0 a1 a2 0
def fx (k : Nat) (a0 : ByteArray) : Option (Bool) := if (a0.size : Int) > 200 then ((aE k).bind fun Ad => (some Ad)) else ((bF k a0).bind fun Aa => ((gE k 5 true a0).bind fun Ae => (if Ae = (a0.size : Int) then ((gp k a0).bind fun Ac => ((bn k Aa.1 Aa.2.1).bind fun Af => ((bF k Af).bind fun Ab => (if Aa.2.2 = 0 then (if (Aa.1 == Ac.1) = true then ((gF k Aa.2.1 Ac.2).bind fun Ag => (if Ag = true then ((bH Aa.1 Aa.2.1).bind fun Ah => (if Ah = true then (if Ab.2.2 = 0 then ((cb k Ab.1 Ab.2.1 Aa.1 Aa.2.1).bind fun Ai => (if Ai = true then ((aE k).bind fun Aj => (some Aj)) else (none))) else (none)) else (none))) else (none))) else (none)) else (none))))) else (if Aa.2.2 = 4 then (if (Aa.2.1.length : Int) = 0 then (if Aa.1 = true then (none) else ((aE k).bind fun Ak => (some Ak))) else (none)) else (none)))))
def i7 : Prop := ∀ (a0 : ByteArray), a0.size ≤ 140737488351232 → ∃ k, fx k a0 = some true
def aR : Nat → Int → Int → Bool → List ByteArray → Option (Bool)
  | 0, _, _, _, _ => none
  | k + 1, x3, x4, Ab, Aa => if x4 < (Aa.length : Int) then (if x4 ≤ 20 then (if 0 ≤ x4 then (aR k (wrap64 (x3 + (1 + (mn ((al ByteArray.empty Aa x4).size : Int) 300)))) (wrap64 (x4 + 1)) Ab Aa) else (none)) else (if x3 > 200 then (some true) else (some (decide ((Aa.length : Int) > 20))))) else (if x3 > 200 then (some true) else (some (decide ((Aa.length : Int) > 20))))
def cK (k : Nat) (a0_0 : Bool) (l0_1 : List ByteArray) : Option (Bool) := aR k 0 0 a0_0 l0_1
theorem dC (k : Nat) (Ad : Bool) (A0_1 : Option Addr) (c0_1 : Nat) (l0_1 : List ByteArray) (r : Bool) (w : World) (hr0_1 : Kd.C Kd.string w A0_1 l0_1.length l0_1) (hc0_1 : l0_1.length ≤ c0_1) (h : cK k Ad l0_1 = some r) :
    Calls Tryd.prog 15 #[.agg #[.bool Ad, .slice A0_1 l0_1.length c0_1]] w fun e w' => e = .returned (.bool r) ∧ Below w.heap.size w w' := by
 have hu25 := Tryd.underlying25
 have HR0_1 := Zz.mk hr0_1
 have HC0_1 := Zz.mk hc0_1
 clear hr0_1 hc0_1
 have HB := Zz.mk (Below.refl w.heap.size w)
 have H : (aR k 0 0 Ad l0_1) = some r := h
 clear h
 have H' := Zz.mk H
 clear H
 go_enter Tryd.func15, Tryd.ntmps15
 go_wp2_with (first | ((with_reducible refine ak (N := 1) rfl ?_); (try (refine cQ (by rfl) ?_; dsimp only)); refine xev 1 #[.bool Ad, .slice A0_1 l0_1.length c0_1] 25 ?_; intro Ag hg w2 hbox hb; have Aa := Zz.mk (hbox); have Ah := xsz hg; have An := Ah; replace HB := xst hb; clear hb hbox hg))
 go_loopg [3, 4] k (fun kq v3 v4 w' => ∃ (Ae : Int) (Ab : Int), v3 = .int .i64 Ae ∧ v4 = .int .i64 Ab ∧ Zz (aR kq Ae Ab Ad l0_1 = some r) ∧ Zz (kq ≤ k) ∧ Zz (w'.heap[Ag]? = some (.cells #[.bool Ad, (.slice A0_1 l0_1.length c0_1)] 25 (0, 0))) ∧ Zz (Below w.heap.size w w'))
 case atStart => exact ⟨(0), (0), xrr, xrr, H', ⟨Nat.le_refl _⟩, ⟨xbk⟩, ⟨xbl⟩⟩
 case round =>
  clear H'
  obtain ⟨Ae, Ab, rfl, rfl, HA, HK1, Aa, HB⟩ := hrel
  cases gk with
  | zero => exact absurd HA.out (by simp [aR])
  | succ k1 =>
   have H := HA.out
   clear HA
   simp only [aR] at H
   by_cases c3 : Ab < (l0_1.length : Int)
   ·
    rw [if_pos c3] at H
    have Ak := decide_eq_true c3
    clear c3
    by_cases c4 : Ab ≤ 20
    ·
     rw [if_pos c4] at H
     have Al := decide_eq_true c4
     clear c4
     by_cases c5 : 0 ≤ Ab
     ·
      rw [if_pos c5] at H
      have Aq := decide_eq_true c5
      clear c5
      obtain ⟨Ao, Af⟩ : ∃ j_ : Int, (mn ((al ByteArray.empty l0_1 Ab).size : Int) 300) = j_ := ⟨_, rfl⟩
      first | rw [Af] at H | simp only [Af] at H | skip
      have hji6_ : (if 300 < ((al ByteArray.empty l0_1 Ab).size : Int) then 300 else ((al ByteArray.empty l0_1 Ab).size : Int)) = Ao := Af
      have H' := Zz.mk H
      clear H
      obtain ⟨hcz7_0, hcz7_1⟩ := xc2 Aa
      have hfz7_0 := xf Aa 0
      have hfz7_1 := xf Aa 1
      have p294 : 0 ≤ (Ab : Int) := xod
      have q294 : Ab < (l0_1.length : Int) := xod
      obtain ⟨Ap, e294, Ac⟩ := Kd.at_string HR0_1.out Ab p294 q294
      cases e294
      replace Ac := (HB.out.cell (World.block_lt_of_cell? w _ Ac)).trans Ac
      replace p294 := eq_true p294
      replace q294 := eq_true q294
      try (have Ai := q294; simp only [ByteArray.size_extract, Nat.min_self] at Ai)
      go_wp2
      first | go_roundg k1 | (simp only [← Af]; go_roundg k1)
      case measure => have := HK1.out; omega
      case rel => exact ⟨(wrap64 (Ae + (1 + (Ao)))), (wrap64 (Ab + 1)), (by first | rfl | (simp; done) | (simp only [← Af] <;> (first | rfl | simp)) | (simp [*]; done) | (simp [wrap64]; done)), xrr, H', ⟨by have := HK1.out; omega⟩, ⟨xbk⟩, ⟨xbl⟩⟩
     ·
      rw [if_neg c5] at H
      exact absurd H (by simp)
    ·
     rw [if_neg c4] at H
     have Al := decide_eq_false c4
     clear c4
     by_cases c8 : Ae > 200
     ·
      rw [if_pos c8] at H
      have Am := decide_eq_true c8
      clear c8
      obtain rfl := Option.some.inj H
      obtain ⟨hcz9_0, hcz9_1⟩ := xc2 Aa
      have hfz9_0 := xf Aa 0
      have hfz9_1 := xf Aa 1
      go_wp2
      go_ret
      exact ⟨xre, xbl⟩
     ·
      rw [if_neg c8] at H
      have Am := decide_eq_false c8
      clear c8
      obtain rfl := Option.some.inj H
      obtain ⟨hcz10_0, hcz10_1⟩ := xc2 Aa
      have hfz10_0 := xf Aa 0
      have hfz10_1 := xf Aa 1
      go_wp2
      go_ret
      exact ⟨xre, xbl⟩
   ·
    rw [if_neg c3] at H
    have Ak := decide_eq_false c3
    clear c3
    by_cases c11 : Ae > 200
    ·
     rw [if_pos c11] at H
     have Aj := decide_eq_true c11
     clear c11
     obtain rfl := Option.some.inj H
     obtain ⟨hcz12_0, hcz12_1⟩ := xc2 Aa
     have hfz12_0 := xf Aa 0
     have hfz12_1 := xf Aa 1
     go_wp2
     go_ret
     exact ⟨xre, xbl⟩
    ·
     rw [if_neg c11] at H
     have Aj := decide_eq_false c11
     clear c11
     obtain rfl := Option.some.inj H
     obtain ⟨hcz13_0, hcz13_1⟩ := xc2 Aa
     have hfz13_0 := xf Aa 0
     have hfz13_1 := xf Aa 1
     go_wp2
     go_ret
     exact ⟨xre, xbl⟩
mutual
def bd : Nat → ByteArray → Bool → List ByteArray → Option (ByteArray)
  | 0, _, _, _ => none
  | k + 1, x3, x296000, x296001 => aT k x3 0 x296000 x296001
def aT : Nat → ByteArray → Int → Bool → List ByteArray → Option (ByteArray)
  | 0, _, _, _, _ => none
  | k + 1, x3, x4, Ab, Aa => if x4 < (Aa.length : Int) then (if x4 > 0 then (if x3.size + 1 ≤ 9223372036854775807 then (bz k (x3 ++ (⟨#[47]⟩ : ByteArray)) x4 Ab Aa) else (none)) else (bz k x3 x4 Ab Aa)) else (some x3)
def bz : Nat → ByteArray → Int → Bool → List ByteArray → Option (ByteArray)
  | 0, _, _, _, _ => none
  | k + 1, x3, x4, x296000, x296001 => aG k x3 x4 0 x296000 x296001
def aG : Nat → ByteArray → Int → Int → Bool → List ByteArray → Option (ByteArray)
  | 0, _, _, _, _, _ => none
  | k + 1, x3, x4, x5, Ab, Aa => if 0 ≤ x4 then (if x4 < (Aa.length : Int) then (if x5 < ((al ByteArray.empty Aa x4).size : Int) then (if 0 ≤ x5 then ((bc k (bt (al ByteArray.empty Aa x4) x5)).bind fun Ad => (if (Go.bits .and .i64 Ad 15) = 0 then (if (bt (al ByteArray.empty Aa x4) x5) = 58 then (if x5 ≤ (wrap64 (x5 + 1)) then (if (wrap64 (x5 + 1)) ≤ ((al ByteArray.empty Aa x4).size : Int) then (if x3.size + ((al ByteArray.empty Aa x4).extract (x5 : Int).toNat ((wrap64 (x5 + 1)) : Int).toNat).size ≤ 9223372036854775807 then (aG k (x3 ++ ((al ByteArray.empty Aa x4).extract (x5 : Int).toNat ((wrap64 (x5 + 1)) : Int).toNat)) x4 (wrap64 (x5 + 1)) Ab Aa) else (none)) else (none)) else (none)) else (if (bt (al ByteArray.empty Aa x4) x5) = 64 then (if x5 ≤ (wrap64 (x5 + 1)) then (if (wrap64 (x5 + 1)) ≤ ((al ByteArray.empty Aa x4).size : Int) then (if x3.size + ((al ByteArray.empty Aa x4).extract (x5 : Int).toNat ((wrap64 (x5 + 1)) : Int).toNat).size ≤ 9223372036854775807 then (aG k (x3 ++ ((al ByteArray.empty Aa x4).extract (x5 : Int).toNat ((wrap64 (x5 + 1)) : Int).toNat)) x4 (wrap64 (x5 + 1)) Ab Aa) else (none)) else (none)) else (none)) else ((cu (bt (al ByteArray.empty Aa x4) x5)).bind fun Ac => (if x3.size + Ac.size ≤ 9223372036854775807 then (aG k (x3 ++ Ac) x4 (wrap64 (x5 + 1)) Ab Aa) else (none))))) else (if x5 ≤ (wrap64 (x5 + 1)) then (if (wrap64 (x5 + 1)) ≤ ((al ByteArray.empty Aa x4).size : Int) then (if x3.size + ((al ByteArray.empty Aa x4).extract (x5 : Int).toNat ((wrap64 (x5 + 1)) : Int).toNat).size ≤ 9223372036854775807 then (aG k (x3 ++ ((al ByteArray.empty Aa x4).extract (x5 : Int).toNat ((wrap64 (x5 + 1)) : Int).toNat)) x4 (wrap64 (x5 + 1)) Ab Aa) else (none)) else (none)) else (none)))) else (none)) else (aT k x3 (wrap64 (x4 + 1)) Ab Aa)) else (none)) else (none)
end
def ci (k : Nat) (a0_0 : Bool) (l0_1 : List ByteArray) : Option (ByteArray) := if a0_0 = true then (bd k (⟨#[47]⟩ : ByteArray) a0_0 l0_1) else (bd k (⟨#[]⟩ : ByteArray) a0_0 l0_1)
theorem fH (k : Nat) (Ah : Bool) (A0_1 : Option Addr) (c0_1 : Nat) (l0_1 : List ByteArray) (r : ByteArray) (w : World) (hr0_1 : Kd.C Kd.string w A0_1 l0_1.length l0_1) (hc0_1 : l0_1.length ≤ c0_1) (h : ci k Ah l0_1 = some r) :
    Calls Tryd.prog 16 #[.agg #[.bool Ah, .slice A0_1 l0_1.length c0_1]] w fun e w' => e = .returned (.string r) ∧ Below w.heap.size w w' := by
 have hu31 := Tryd.underlying31
 have HR0_1 := Zz.mk hr0_1
 have HC0_1 := Zz.mk hc0_1
 clear hr0_1 hc0_1
 have HB := Zz.mk (Below.refl w.heap.size w)
 have H : (if Ah = true then (bd k (⟨#[47]⟩ : ByteArray) Ah l0_1) else (bd k (⟨#[]⟩ : ByteArray) Ah l0_1)) = some r := h
 clear h
 have AX := Zz.mk H
 clear H
 go_enter Tryd.func16, Tryd.ntmps16
 go_upto_if 8 with (first | ((with_reducible refine ak (N := 1) rfl ?_); refine xev 1 #[.bool Ah, .slice A0_1 l0_1.length c0_1] 31 ?_; intro Ax hg w3 hbox hb; have Ad := Zz.mk (hbox); have AL := xsz hg; have A4 := AL; replace HB := xst hb; clear hb hbox hg; obtain ⟨hcz4_0, hcz4_1⟩ := xc2 Ad; have hfz4_0 := xf Ad 0; have hfz4_1 := xf Ad 1))
 (try simp only [Act.put, List.setIfInBounds_toArray, List.set_cons_zero, List.set_cons_succ])
 go_cut [3] (fun v3 wc => ∃ (kq : Nat) (AC : ByteArray), v3 = .string AC ∧ Zz (bd kq AC Ah l0_1 = some r) ∧ Zz (kq ≤ k) ∧ Zz (wc.heap[Ax]? = some (.cells #[.bool Ah, (.slice A0_1 l0_1.length c0_1)] 31 (0, 0))) ∧ Zz (Below w.heap.size w wc))
 case first =>
  have H := AX.out
  clear AX
  by_cases c5 : Ah = true
  ·
   subst c5
   rw [if_pos rfl] at H
   have H' := Zz.mk H
   clear H
   go_wp2
   go_meet
   case rel => exact ⟨_, ((⟨#[47]⟩ : ByteArray)), xrr, H', ⟨xom⟩, ⟨xbk⟩, ⟨xbl⟩⟩
  ·
   replace c5 := Bool.eq_false_iff.mpr c5
   subst c5
   rw [if_neg (show ¬ (false = true) by decide)] at H
   have H' := Zz.mk H
   clear H
   go_wp2
   go_meet
   case rel => exact ⟨_, ((⟨#[]⟩ : ByteArray)), xrr, H', ⟨xom⟩, ⟨xbk⟩, ⟨xbl⟩⟩
 case rest =>
  clear AX
  obtain ⟨kq, AC, rfl, HA, HJ1, Ad, HB⟩ := hcut
  cases kq with
  | zero => exact absurd HA.out (by simp [bd])
  | succ kj1 =>
   have H := HA.out
   clear HA
   simp only [bd] at H
   have H' := Zz.mk H
   clear H
   go_wp2
   go_loopg [3, 4] kj1 (fun kq v3 v4 w' => ∃ (Av : ByteArray) (Aa : Int), v3 = .string Av ∧ v4 = .int .i64 Aa ∧ Zz (aT kq Av Aa Ah l0_1 = some r) ∧ Zz (kq ≤ kj1) ∧ Zz (w'.heap[Ax]? = some (.cells #[.bool Ah, (.slice A0_1 l0_1.length c0_1)] 31 (0, 0))) ∧ Zz (Below w.heap.size w w'))
   case atStart => exact ⟨(AC), (0), xrr, xrr, H', ⟨Nat.le_refl _⟩, ⟨xbk⟩, ⟨xbl⟩⟩
   case round =>
    clear H'
    obtain ⟨Av, Aa, rfl, rfl, HA, HK2, Ad, HB⟩ := hrel
    cases gk with
    | zero => exact absurd HA.out (by simp [aT])
    | succ k2 =>
     have H := HA.out
     clear HA
     simp only [aT] at H
     by_cases c6 : Aa < (l0_1.length : Int)
     ·
      rw [if_pos c6] at H
      have AM := decide_eq_true c6
      clear c6
      have AY := Zz.mk H
      clear H
      obtain ⟨hcz8_0, hcz8_1⟩ := xc2 Ad
      have hfz8_0 := xf Ad 0
      have hfz8_1 := xf Ad 1
      go_upto_if 17 with (fail)
      go_cut [3] (fun v3 wc => ∃ (kq : Nat) (AD : ByteArray), v3 = .string AD ∧ Zz (bz kq AD Aa Ah l0_1 = some r) ∧ Zz (kq ≤ k2) ∧ Zz (wc.heap[Ax]? = some (.cells #[.bool Ah, (.slice A0_1 l0_1.length c0_1)] 31 (0, 0))) ∧ Zz (Below w.heap.size w wc))
      case first =>
       have H := AY.out
       clear AY
       by_cases c9 : Aa > 0
       ·
        rw [if_pos c9] at H
        have Ay := decide_eq_true c9
        clear c9
        (first | rw [Ay] | (simp only [an, au]; rw [Ay]) | (rw [AZ]; (try simp only [Bool.not_false, Bool.not_true])) | (rw [A0]; (try simp only [Bool.not_false, Bool.not_true])) | skip)
        by_cases c10 : Av.size + 1 ≤ 9223372036854775807
        ·
         rw [if_pos c10] at H
         have A5 := eq_true c10
         have A6 := decide_eq_true c10
         try have A7 : (9223372036854775807 < Av.size + 1) = False := eq_false (Nat.not_lt.2 c10)
         have H' := Zz.mk H
         clear H
         go_wp2
         go_meet
         case rel => exact ⟨_, (Av ++ (⟨#[47]⟩ : ByteArray)), xrr, H', ⟨by have := HJ1.out; have := HK2.out; first | omega | exact Nat.le_refl _⟩, ⟨xbk⟩, ⟨xbl⟩⟩
        ·
         rw [if_neg c10] at H
         exact absurd H (by simp)
       ·
        rw [if_neg c9] at H
        have Ay := decide_eq_false c9
        clear c9
        (first | rw [Ay] | (simp only [an, au]; rw [Ay]) | (rw [AZ]; (try simp only [Bool.not_false, Bool.not_true])) | (rw [A0]; (try simp only [Bool.not_false, Bool.not_true])) | skip)
        have H' := Zz.mk H
        clear H
        go_wp2
        go_meet
        case rel => exact ⟨_, (Av), xrr, H', ⟨by have := HJ1.out; have := HK2.out; first | omega | exact Nat.le_refl _⟩, ⟨xbk⟩, ⟨xbl⟩⟩
      case rest =>
       clear AY
       clear AM
       obtain ⟨kq, AD, rfl, HA, HJ6, Ad, HB⟩ := hcut
       cases kq with
       | zero => exact absurd HA.out (by simp [bz])
       | succ kj6 =>
        have H := HA.out
        clear HA
        simp only [bz] at H
        have H' := Zz.mk H
        clear H
        go_wp2
        go_loopg [3, 5] kj6 (fun kq v3 v5 w' => ∃ (Ag : ByteArray) (Ab : Int), v3 = .string Ag ∧ v5 = .int .i64 Ab ∧ Zz (aG kq Ag Aa Ab Ah l0_1 = some r) ∧ Zz (kq ≤ kj6) ∧ Zz (w'.heap[Ax]? = some (.cells #[.bool Ah, (.slice A0_1 l0_1.length c0_1)] 31 (0, 0))) ∧ Zz (Below w.heap.size w w'))
        case atStart => exact ⟨(AD), (0), xrr, xrr, H', ⟨Nat.le_refl _⟩, ⟨xbk⟩, ⟨xbl⟩⟩
        case round =>
         clear H'
         obtain ⟨Ag, Ab, rfl, rfl, HA, HK4, Ad, HB⟩ := hrel
         cases gk with
         | zero => exact absurd HA.out (by simp [aG])
         | succ k4 =>
          have H := HA.out
          clear HA
          simp only [aG] at H
          by_cases c11 : 0 ≤ Aa
          ·
           rw [if_pos c11] at H
           have A8 := decide_eq_true c11
           clear c11
           by_cases c12 : Aa < (l0_1.length : Int)
           ·
            rw [if_pos c12] at H
            have A9 := decide_eq_true c12
            clear c12
            by_cases c13 : Ab < ((al ByteArray.empty l0_1 Aa).size : Int)
            ·
             rw [if_pos c13] at H
             have AN := decide_eq_true c13
             clear c13
             by_cases c14 : 0 ≤ Ab
             ·
              rw [if_pos c14] at H
              have Ba := decide_eq_true c14
              clear c14
              replace H := Option.bind_eq_some_iff.mp H
              obtain ⟨Ar, A160, H⟩ := H
              try dsimp only at H
              have A16 := Zz.mk A160
              clear A160
              by_cases c17 : (Go.bits .and .i64 Ar 15) = 0
              ·
               rw [if_pos c17] at H
               have AO : ((Go.bits .and .i64 Ar 15) == 0) = true := beq_iff_eq.mpr c17
               have AP : ((Go.bits .and .i64 Ar 15) != 0) = false := bne_eq_false_iff_eq.mpr c17
               clear c17
               by_cases c18 : (bt (al ByteArray.empty l0_1 Aa) Ab) = 58
               ·
                rw [if_pos c18] at H
                have AQ : ((bt (al ByteArray.empty l0_1 Aa) Ab) == 58) = true := beq_iff_eq.mpr c18
                have AR : ((bt (al ByteArray.empty l0_1 Aa) Ab) != 58) = false := bne_eq_false_iff_eq.mpr c18
                clear c18
                have Bb := eq_true (xod : 0 ≤ Ab)
                obtain ⟨Az, Al⟩ : ∃ j_ : Int, (wrap64 (Ab + 1)) = j_ := ⟨_, rfl⟩
                first | rw [Al] at H | simp only [Al] at H | skip
                (try rw [Al] at A16)
                have A1 : (IntKind.i64.wrap (Ab + 1)) = Az := (an _).trans Al
                by_cases c21 : Ab ≤ (Az)
                ·
                 rw [if_pos c21] at H
                 have Bc := eq_true c21
                 have Bd := decide_eq_true c21
                 clear c21
                 by_cases c22 : (Az) ≤ ((al ByteArray.empty l0_1 Aa).size : Int)
                 ·
                  rw [if_pos c22] at H
                  have Be := eq_true c22
                  have Bf := decide_eq_true c22
                  clear c22
                  obtain ⟨AF, Am⟩ : ∃ j_ : ByteArray, ((al ByteArray.empty l0_1 Aa).extract (Ab : Int).toNat ((Az) : Int).toNat) = j_ := ⟨_, rfl⟩
                  try (have AG := Am; simp only [Int.toNat_natCast] at AG)
                  first | rw [Am] at H | simp only [Am] at H | skip
                  (try rw [Am] at A16)
                  by_cases c24 : Ag.size + (AF).size ≤ 9223372036854775807
                  ·
                   rw [if_pos c24] at H
                   have Bg := eq_true c24
                   have Bh := decide_eq_true c24
                   try have Bi : (9223372036854775807 < Ag.size + (AF).size) = False := eq_false (Nat.not_lt.2 c24)
                   have H' := Zz.mk H
                   clear H
                   obtain ⟨hcz25_0, hcz25_1⟩ := xc2 Ad
                   have hfz25_0 := xf Ad 0
                   have hfz25_1 := xf Ad 1
                   have p296 : 0 ≤ (Aa : Int) := xod
                   have q296 : Aa < (l0_1.length : Int) := xod
                   obtain ⟨Af, e296, Ac⟩ := Kd.at_string HR0_1.out Aa p296 q296
                   cases e296
                   replace Ac := (HB.out.cell (World.block_lt_of_cell? w _ Ac)).trans Ac
                   replace p296 := eq_true p296
                   replace q296 := eq_true q296
                   try (have Ai := q296; simp only [ByteArray.size_extract, Nat.min_self] at Ai)
                   have p297 : 0 ≤ (Aa : Int) := xod
                   have q297 : Aa < (l0_1.length : Int) := xod
                   obtain ⟨Aj, e297, Ae⟩ := Kd.at_string HR0_1.out Aa p297 q297
                   obtain rfl : Af = Aj := (by injection e297)
                   replace Ae := (HB.out.cell (World.block_lt_of_cell? w _ Ae)).trans Ae
                   replace p297 := eq_true p297
                   replace q297 := eq_true q297
                   try (have Ak := q297; simp only [ByteArray.size_extract, Nat.min_self] at Ak)
                   have p15 : 0 ≤ (Ab : Int) := xod
                   have q15 : Ab < ((al ByteArray.empty l0_1 Aa).size : Int) := xod
                   have hx15 := aD (al ByteArray.empty l0_1 Aa) Ab
                   replace p15 := eq_true p15
                   replace q15 := eq_true q15
                   try (have Aw := q15; simp only [ByteArray.size_extract, Nat.min_self] at Aw)
                   go_wp2_with (first | ((with_reducible refine ae (f := 34) rfl ?_); refine xgl 38 Tryd.func34 #[.int .u8 (bt (al ByteArray.empty l0_1 Aa) Ab)] ?_; (with_reducible refine (b7 k4 (bt (al ByteArray.empty l0_1 Aa) Ab) Ar _ A16.out).mono ?_); rintro e w' ⟨rfl, ⟨nd, rfl⟩⟩; refine ⟨_, rfl, ?_⟩; have p299 : 0 ≤ (Aa : Int) := xod; have q299 : Aa < (l0_1.length : Int) := xod; obtain ⟨AS, e299, As⟩ := Kd.at_string HR0_1.out Aa p299 q299; obtain rfl : Af = AS := (by injection e299); replace As := (HB.out.cell (World.block_lt_of_cell? w _ As)).trans As; replace p299 := eq_true p299; replace q299 := eq_true q299))
                   first | go_roundg k4 | (simp only [← Al, ← Am]; go_roundg k4)
                   case measure => have := HJ1.out; have := HK2.out; have := HJ6.out; have := HK4.out; omega
                   case rel => exact ⟨(Ag ++ (AF)), (Az), (by first | rfl | (simp; done) | (simp only [← Am] <;> (first | rfl | simp)) | (simp [*]; done) | (simp [wrap64]; done)), (by first | rfl | (simp; done) | (simp only [← Al] <;> (first | rfl | simp)) | (simp [*]; done) | (simp [wrap64]; done)), H', ⟨by have := HJ1.out; have := HK2.out; have := HJ6.out; have := HK4.out; omega⟩, ⟨xbk⟩, ⟨xbl⟩⟩
                  ·
                   rw [if_neg c24] at H
                   exact absurd H (by simp)
                 ·
                  rw [if_neg c22] at H
                  exact absurd H (by simp)
                ·
                 rw [if_neg c21] at H
                 exact absurd H (by simp)
               ·
                rw [if_neg c18] at H
                have AQ : ((bt (al ByteArray.empty l0_1 Aa) Ab) == 58) = false := beq_eq_false_iff_ne.mpr c18
                have AR : ((bt (al ByteArray.empty l0_1 Aa) Ab) != 58) = true := bne_iff_ne.mpr c18
                by_cases c26 : (bt (al ByteArray.empty l0_1 Aa) Ab) = 64
                ·
                 rw [if_pos c26] at H
                 have AT : ((bt (al ByteArray.empty l0_1 Aa) Ab) == 64) = true := beq_iff_eq.mpr c26
                 have AU : ((bt (al ByteArray.empty l0_1 Aa) Ab) != 64) = false := bne_eq_false_iff_eq.mpr c26
                 clear c26
                 have Bj := eq_true (xod : 0 ≤ Ab)
                 obtain ⟨AA, An⟩ : ∃ j_ : Int, (wrap64 (Ab + 1)) = j_ := ⟨_, rfl⟩
                 first | rw [An] at H | simp only [An] at H | skip
                 (try rw [An] at A16)
                 have A2 : (IntKind.i64.wrap (Ab + 1)) = AA := (an _).trans An
                 by_cases c29 : Ab ≤ (AA)
                 ·
                  rw [if_pos c29] at H
                  have Bk := eq_true c29
                  have Bl := decide_eq_true c29
                  clear c29
                  by_cases c30 : (AA) ≤ ((al ByteArray.empty l0_1 Aa).size : Int)
                  ·
                   rw [if_pos c30] at H
                   have Bm := eq_true c30
                   have Bn := decide_eq_true c30
                   clear c30
                   obtain ⟨AH, Ao⟩ : ∃ j_ : ByteArray, ((al ByteArray.empty l0_1 Aa).extract (Ab : Int).toNat ((AA) : Int).toNat) = j_ := ⟨_, rfl⟩
                   try (have AI := Ao; simp only [Int.toNat_natCast] at AI)
                   first | rw [Ao] at H | simp only [Ao] at H | skip
                   (try rw [Ao] at A16)
                   by_cases c32 : Ag.size + (AH).size ≤ 9223372036854775807
                   ·
                    rw [if_pos c32] at H
                    have Bo := eq_true c32
                    have Bp := decide_eq_true c32
                    try have Bq : (9223372036854775807 < Ag.size + (AH).size) = False := eq_false (Nat.not_lt.2 c32)
                    have H' := Zz.mk H
                    clear H
                    obtain ⟨hcz33_0, hcz33_1⟩ := xc2 Ad
                    have hfz33_0 := xf Ad 0
                    have hfz33_1 := xf Ad 1
                    have p296 : 0 ≤ (Aa : Int) := xod
                    have q296 : Aa < (l0_1.length : Int) := xod
                    obtain ⟨Af, e296, Ac⟩ := Kd.at_string HR0_1.out Aa p296 q296
                    cases e296
                    replace Ac := (HB.out.cell (World.block_lt_of_cell? w _ Ac)).trans Ac
                    replace p296 := eq_true p296
                    replace q296 := eq_true q296
                    try (have Ai := q296; simp only [ByteArray.size_extract, Nat.min_self] at Ai)
                    have p297 : 0 ≤ (Aa : Int) := xod
                    have q297 : Aa < (l0_1.length : Int) := xod
                    obtain ⟨Aj, e297, Ae⟩ := Kd.at_string HR0_1.out Aa p297 q297
                    obtain rfl : Af = Aj := (by injection e297)
                    replace Ae := (HB.out.cell (World.block_lt_of_cell? w _ Ae)).trans Ae
                    replace p297 := eq_true p297
                    replace q297 := eq_true q297
                    try (have Ak := q297; simp only [ByteArray.size_extract, Nat.min_self] at Ak)
                    have p15 : 0 ≤ (Ab : Int) := xod
                    have q15 : Ab < ((al ByteArray.empty l0_1 Aa).size : Int) := xod
                    have hx15 := aD (al ByteArray.empty l0_1 Aa) Ab
                    replace p15 := eq_true p15
                    replace q15 := eq_true q15
                    try (have Aw := q15; simp only [ByteArray.size_extract, Nat.min_self] at Aw)
                    go_wp2_with (first | ((with_reducible refine ae (f := 34) rfl ?_); refine xgl 38 Tryd.func34 #[.int .u8 (bt (al ByteArray.empty l0_1 Aa) Ab)] ?_; (with_reducible refine (b7 k4 (bt (al ByteArray.empty l0_1 Aa) Ab) Ar _ A16.out).mono ?_); rintro e w' ⟨rfl, ⟨nd, rfl⟩⟩; refine ⟨_, rfl, ?_⟩; have p300 : 0 ≤ (Aa : Int) := xod; have q300 : Aa < (l0_1.length : Int) := xod; obtain ⟨AV, e300, At⟩ := Kd.at_string HR0_1.out Aa p300 q300; obtain rfl : Af = AV := (by injection e300); replace At := (HB.out.cell (World.block_lt_of_cell? w _ At)).trans At; replace p300 := eq_true p300; replace q300 := eq_true q300))
                    first | go_roundg k4 | (simp only [← An, ← Ao]; go_roundg k4)
                    case measure => have := HJ1.out; have := HK2.out; have := HJ6.out; have := HK4.out; omega
                    case rel => exact ⟨(Ag ++ (AH)), (AA), (by first | rfl | (simp; done) | (simp only [← Ao] <;> (first | rfl | simp)) | (simp [*]; done) | (simp [wrap64]; done)), (by first | rfl | (simp; done) | (simp only [← An] <;> (first | rfl | simp)) | (simp [*]; done) | (simp [wrap64]; done)), H', ⟨by have := HJ1.out; have := HK2.out; have := HJ6.out; have := HK4.out; omega⟩, ⟨xbk⟩, ⟨xbl⟩⟩
                   ·
                    rw [if_neg c32] at H
                    exact absurd H (by simp)
                  ·
                   rw [if_neg c30] at H
                   exact absurd H (by simp)
                 ·
                  rw [if_neg c29] at H
                  exact absurd H (by simp)
                ·
                 rw [if_neg c26] at H
                 have AT : ((bt (al ByteArray.empty l0_1 Aa) Ab) == 64) = false := beq_eq_false_iff_ne.mpr c26
                 have AU : ((bt (al ByteArray.empty l0_1 Aa) Ab) != 64) = true := bne_iff_ne.mpr c26
                 replace H := Option.bind_eq_some_iff.mp H
                 obtain ⟨AE, A340, H⟩ := H
                 try dsimp only at H
                 have A34 := Zz.mk A340
                 clear A340
                 by_cases c35 : Ag.size + AE.size ≤ 9223372036854775807
                 ·
                  rw [if_pos c35] at H
                  have Br := eq_true c35
                  have Bs := decide_eq_true c35
                  try have Bt : (9223372036854775807 < Ag.size + AE.size) = False := eq_false (Nat.not_lt.2 c35)
                  have H' := Zz.mk H
                  clear H
                  obtain ⟨hcz36_0, hcz36_1⟩ := xc2 Ad
                  have hfz36_0 := xf Ad 0
                  have hfz36_1 := xf Ad 1
                  have p296 : 0 ≤ (Aa : Int) := xod
                  have q296 : Aa < (l0_1.length : Int) := xod
                  obtain ⟨Af, e296, Ac⟩ := Kd.at_string HR0_1.out Aa p296 q296
                  cases e296
                  replace Ac := (HB.out.cell (World.block_lt_of_cell? w _ Ac)).trans Ac
                  replace p296 := eq_true p296
                  replace q296 := eq_true q296
                  try (have Ai := q296; simp only [ByteArray.size_extract, Nat.min_self] at Ai)
                  have p297 : 0 ≤ (Aa : Int) := xod
                  have q297 : Aa < (l0_1.length : Int) := xod
                  obtain ⟨Aj, e297, Ae⟩ := Kd.at_string HR0_1.out Aa p297 q297
                  obtain rfl : Af = Aj := (by injection e297)
                  replace Ae := (HB.out.cell (World.block_lt_of_cell? w _ Ae)).trans Ae
                  replace p297 := eq_true p297
                  replace q297 := eq_true q297
                  try (have Ak := q297; simp only [ByteArray.size_extract, Nat.min_self] at Ak)
                  have p15 : 0 ≤ (Ab : Int) := xod
                  have q15 : Ab < ((al ByteArray.empty l0_1 Aa).size : Int) := xod
                  have hx15 := aD (al ByteArray.empty l0_1 Aa) Ab
                  replace p15 := eq_true p15
                  replace q15 := eq_true q15
                  try (have Aw := q15; simp only [ByteArray.size_extract, Nat.min_self] at Aw)
                  go_wp2_with (first | ((with_reducible refine ae (f := 34) rfl ?_); refine xgl 38 Tryd.func34 #[.int .u8 (bt (al ByteArray.empty l0_1 Aa) Ab)] ?_; (with_reducible refine (b7 k4 (bt (al ByteArray.empty l0_1 Aa) Ab) Ar _ A16.out).mono ?_); rintro e w' ⟨rfl, ⟨nd, rfl⟩⟩; refine ⟨_, rfl, ?_⟩) | ((with_reducible refine ae (f := 35) rfl ?_); refine xgl 62 Tryd.func35 #[.int .u8 (bt (al ByteArray.empty l0_1 Aa) Ab)] ?_; (with_reducible refine (f6 (bt (al ByteArray.empty l0_1 Aa) Ab) AE _ A34.out).mono ?_); rintro e w' ⟨rfl, ⟨nd, rfl⟩⟩; refine ⟨_, rfl, ?_⟩))
                  go_roundg k4
                  case measure => have := HJ1.out; have := HK2.out; have := HJ6.out; have := HK4.out; omega
                  case rel => exact ⟨(Ag ++ AE), (wrap64 (Ab + 1)), xrr, xrr, H', ⟨by have := HJ1.out; have := HK2.out; have := HJ6.out; have := HK4.out; omega⟩, ⟨xbk⟩, ⟨xbl⟩⟩
                 ·
                  rw [if_neg c35] at H
                  exact absurd H (by simp)
              ·
               rw [if_neg c17] at H
               have AO : ((Go.bits .and .i64 Ar 15) == 0) = false := beq_eq_false_iff_ne.mpr c17
               have AP : ((Go.bits .and .i64 Ar 15) != 0) = true := bne_iff_ne.mpr c17
               have Bu := eq_true (xod : 0 ≤ Ab)
               obtain ⟨AB, Ap⟩ : ∃ j_ : Int, (wrap64 (Ab + 1)) = j_ := ⟨_, rfl⟩
               first | rw [Ap] at H | simp only [Ap] at H | skip
               (try rw [Ap] at A16)
               have A3 : (IntKind.i64.wrap (Ab + 1)) = AB := (an _).trans Ap
               by_cases c39 : Ab ≤ (AB)
               ·
                rw [if_pos c39] at H
                have Bv := eq_true c39
                have Bw := decide_eq_true c39
                clear c39
                by_cases c40 : (AB) ≤ ((al ByteArray.empty l0_1 Aa).size : Int)
                ·
                 rw [if_pos c40] at H
                 have Bx := eq_true c40
                 have By := decide_eq_true c40
                 clear c40
                 obtain ⟨AJ, Aq⟩ : ∃ j_ : ByteArray, ((al ByteArray.empty l0_1 Aa).extract (Ab : Int).toNat ((AB) : Int).toNat) = j_ := ⟨_, rfl⟩
                 try (have AK := Aq; simp only [Int.toNat_natCast] at AK)
                 first | rw [Aq] at H | simp only [Aq] at H | skip
                 (try rw [Aq] at A16)
                 by_cases c42 : Ag.size + (AJ).size ≤ 9223372036854775807
                 ·
                  rw [if_pos c42] at H
                  have Bz := eq_true c42
                  have BA := decide_eq_true c42
                  try have BB : (9223372036854775807 < Ag.size + (AJ).size) = False := eq_false (Nat.not_lt.2 c42)
                  have H' := Zz.mk H
                  clear H
                  obtain ⟨hcz43_0, hcz43_1⟩ := xc2 Ad
                  have hfz43_0 := xf Ad 0
                  have hfz43_1 := xf Ad 1
                  have p296 : 0 ≤ (Aa : Int) := xod
                  have q296 : Aa < (l0_1.length : Int) := xod
                  obtain ⟨Af, e296, Ac⟩ := Kd.at_string HR0_1.out Aa p296 q296
                  cases e296
                  replace Ac := (HB.out.cell (World.block_lt_of_cell? w _ Ac)).trans Ac
                  replace p296 := eq_true p296
                  replace q296 := eq_true q296
                  try (have Ai := q296; simp only [ByteArray.size_extract, Nat.min_self] at Ai)
                  have p297 : 0 ≤ (Aa : Int) := xod
                  have q297 : Aa < (l0_1.length : Int) := xod
                  obtain ⟨Aj, e297, Ae⟩ := Kd.at_string HR0_1.out Aa p297 q297
                  obtain rfl : Af = Aj := (by injection e297)
                  replace Ae := (HB.out.cell (World.block_lt_of_cell? w _ Ae)).trans Ae
                  replace p297 := eq_true p297
                  replace q297 := eq_true q297
                  try (have Ak := q297; simp only [ByteArray.size_extract, Nat.min_self] at Ak)
                  have p15 : 0 ≤ (Ab : Int) := xod
                  have q15 : Ab < ((al ByteArray.empty l0_1 Aa).size : Int) := xod
                  have hx15 := aD (al ByteArray.empty l0_1 Aa) Ab
                  replace p15 := eq_true p15
                  replace q15 := eq_true q15
                  try (have Aw := q15; simp only [ByteArray.size_extract, Nat.min_self] at Aw)
                  go_wp2_with (first | ((with_reducible refine ae (f := 34) rfl ?_); refine xgl 38 Tryd.func34 #[.int .u8 (bt (al ByteArray.empty l0_1 Aa) Ab)] ?_; (with_reducible refine (b7 k4 (bt (al ByteArray.empty l0_1 Aa) Ab) Ar _ A16.out).mono ?_); rintro e w' ⟨rfl, ⟨nd, rfl⟩⟩; refine ⟨_, rfl, ?_⟩; have p302 : 0 ≤ (Aa : Int) := xod; have q302 : Aa < (l0_1.length : Int) := xod; obtain ⟨AW, e302, Au⟩ := Kd.at_string HR0_1.out Aa p302 q302; obtain rfl : Af = AW := (by injection e302); replace Au := (HB.out.cell (World.block_lt_of_cell? w _ Au)).trans Au; replace p302 := eq_true p302; replace q302 := eq_true q302))
                  first | go_roundg k4 | (simp only [← Ap, ← Aq]; go_roundg k4)
                  case measure => have := HJ1.out; have := HK2.out; have := HJ6.out; have := HK4.out; omega
                  case rel => exact ⟨(Ag ++ (AJ)), (AB), (by first | rfl | (simp; done) | (simp only [← Aq] <;> (first | rfl | simp)) | (simp [*]; done) | (simp [wrap64]; done)), (by first | rfl | (simp; done) | (simp only [← Ap] <;> (first | rfl | simp)) | (simp [*]; done) | (simp [wrap64]; done)), H', ⟨by have := HJ1.out; have := HK2.out; have := HJ6.out; have := HK4.out; omega⟩, ⟨xbk⟩, ⟨xbl⟩⟩
                 ·
                  rw [if_neg c42] at H
                  exact absurd H (by simp)
                ·
                 rw [if_neg c40] at H
                 exact absurd H (by simp)
               ·
                rw [if_neg c39] at H
                exact absurd H (by simp)
             ·
              rw [if_neg c14] at H
              exact absurd H (by simp)
            ·
             rw [if_neg c13] at H
             have AN := decide_eq_false c13
             clear c13
             have H' := Zz.mk H
             clear H
             obtain ⟨hcz44_0, hcz44_1⟩ := xc2 Ad
             have hfz44_0 := xf Ad 0
             have hfz44_1 := xf Ad 1
             have p296 : 0 ≤ (Aa : Int) := xod
             have q296 : Aa < (l0_1.length : Int) := xod
             obtain ⟨Af, e296, Ac⟩ := Kd.at_string HR0_1.out Aa p296 q296
             cases e296
             replace Ac := (HB.out.cell (World.block_lt_of_cell? w _ Ac)).trans Ac
             replace p296 := eq_true p296
             replace q296 := eq_true q296
             try (have Ai := q296; simp only [ByteArray.size_extract, Nat.min_self] at Ai)
             go_wp2
             go_roundg k4
             case measure => have := HJ1.out; have := HK2.out; have := HJ6.out; have := HK4.out; omega
             case rel => exact ⟨(Ag), (wrap64 (Aa + 1)), xrr, xrr, H', ⟨by have := HJ1.out; have := HK2.out; have := HJ6.out; have := HK4.out; omega⟩, ⟨xbk⟩, ⟨xbl⟩⟩
           ·
            rw [if_neg c12] at H
            exact absurd H (by simp)
          ·
           rw [if_neg c11] at H
           exact absurd H (by simp)
     ·
      rw [if_neg c6] at H
      have AM := decide_eq_false c6
      clear c6
      obtain rfl := Option.some.inj H
      obtain ⟨hcz45_0, hcz45_1⟩ := xc2 Ad
      have hfz45_0 := xf Ad 0
      have hfz45_1 := xf Ad 1
      go_wp2
      go_ret
      exact ⟨xre, xbl⟩
def b6 (a0_0 : Bool) (l0_1 : List ByteArray) : Option Bool := some a0_0
set_option maxHeartbeats 2000000 in
theorem dy (a0_0 : Bool) (A0_1 : Option Addr) (c0_1 : Nat) (l0_1 : List ByteArray) (r : Bool) (w : World) (hr0_1 : Kd.C Kd.string w A0_1 l0_1.length l0_1) (hc0_1 : l0_1.length ≤ c0_1) (h : b6 a0_0 l0_1 = some r) :
    Calls Tryd.prog 17 #[.agg #[.bool a0_0, .slice A0_1 l0_1.length c0_1]] w fun e w' => e = .returned (.agg #[.bool r, .slice A0_1 l0_1.length c0_1]) ∧ Below w.heap.size w w' := by
  obtain rfl := Option.some.inj h
  go_enter Tryd.func17, Tryd.ntmps17
  go_wp2
  refine bodyPost_ret (v := .agg #[.bool a0_0, .slice A0_1 l0_1.length c0_1]) (by simp [results, Tryd.f17, go_sem]) rfl ⟨rfl, ?_⟩
  have b1 := (Below.refl w.heap.size w).alloc (Nat.le_refl _) (.cells #[.bool a0_0, .slice A0_1 l0_1.length c0_1] 25)
  exact b1.alloc b1.size _
end Go.Proofs.YtmofhijbheimmaaDoor.X
