/- Texts that the law's proof needs, joined by a program of this session. -/
import Derived.Test.YtmofhijbheimmaaDoorZSegsParse1
import Derived.Test.YtmofhijbheimmaaDoorZSegsParse5
set_option maxHeartbeats 8000000
set_option maxRecDepth 100000
set_option linter.unusedSimpArgs false
set_option linter.unusedVariables false
namespace Go.Proofs.YtmofhijbheimmaaDoor.X
open Go.RowKit Go.Proofs.YtmofhijbheimmaaDoorW.PrintWords Go.Proofs.YtmofhijbheimmaaDoorW.PrintLast Go.Proofs.YtmofhijbheimmaaDoorW.PrintMore
attribute [local go_sem] cX cN dY e5 fF es e6 el ep eT eU dU dV eo eq
mutual
def aZ : Nat → Int → Int → Option (Int)
  | 0, _, _ => none
  | k + 1, x0, x3 => (aC k x0 (⟨#[48, 49, 50, 51, 52, 53, 54, 55, 56, 57]⟩ : ByteArray)).bind fun t205 => (if t205 = true then (bi k x0 (wrap64 (x3 + 2))) else (bi k x0 x3))
def bi : Nat → Int → Int → Option (Int)
  | 0, _, _ => none
  | k + 1, x0, x3 => (aC k x0 (⟨#[45, 46, 95, 126]⟩ : ByteArray)).bind fun t206 => (if t206 = true then (bj k x0 (wrap64 (x3 + 4))) else (bj k x0 x3))
def bj : Nat → Int → Int → Option (Int)
  | 0, _, _ => none
  | k + 1, x0, x3 => (aC k x0 (⟨#[33, 36, 38, 39, 40, 41, 42, 43, 44, 59, 61]⟩ : ByteArray)).bind fun t207 => (if t207 = true then (bl k x0 (wrap64 (x3 + 8))) else (bl k x0 x3))
def bl : Nat → Int → Int → Option (Int)
  | 0, _, _ => none
  | k + 1, x0, x3 => (aC k x0 (⟨#[58, 47, 63, 35, 91, 93, 64]⟩ : ByteArray)).bind fun t208 => (if t208 = true then ((aC k x0 (⟨#[48, 49, 50, 51, 52, 53, 54, 55, 56, 57, 65, 66, 67, 68, 69, 70, 97, 98, 99, 100, 101, 102]⟩ : ByteArray)).bind fun t209 => (if t209 = true then (some (wrap64 ((wrap64 (x3 + 16)) + 32))) else (some (wrap64 (x3 + 16))))) else ((aC k x0 (⟨#[48, 49, 50, 51, 52, 53, 54, 55, 56, 57, 65, 66, 67, 68, 69, 70, 97, 98, 99, 100, 101, 102]⟩ : ByteArray)).bind fun t210 => (if t210 = true then (some (wrap64 (x3 + 32))) else (some x3))))
end
def bX (k : Nat) (a0 : Int) : Option (Int) := (aC k a0 (⟨#[65, 66, 67, 68, 69, 70, 71, 72, 73, 74, 75, 76, 77, 78, 79, 80, 81, 82, 83, 84, 85, 86, 87, 88, 89, 90, 97, 98, 99, 100, 101, 102, 103, 104, 105, 106, 107, 108, 109, 110, 111, 112, 113, 114, 115, 116, 117, 118, 119, 120, 121, 122]⟩ : ByteArray)).bind fun t204 => (if t204 = true then (aZ k a0 (0 + 1)) else (aZ k a0 0))
theorem ee : ∀ k, (∀ y0 y1, LeO (aZ k y0 y1) (aZ (k + 1) y0 y1)) ∧ (∀ y0 y1, LeO (bi k y0 y1) (bi (k + 1) y0 y1)) ∧ (∀ y0 y1, LeO (bj k y0 y1) (bj (k + 1) y0 y1)) ∧ (∀ y0 y1, LeO (bl k y0 y1) (bl (k + 1) y0 y1))
  | 0 => ⟨fun _ _ r h => by simp [aZ] at h, fun _ _ r h => by simp [bi] at h, fun _ _ r h => by simp [bj] at h, fun _ _ r h => by simp [bl] at h⟩
  | k + 1 => by
    obtain ⟨ih0, ih1, ih2, ih3⟩ := ee k
    have m0 := @di
    refine ⟨?_, ?_, ?_, ?_⟩
    · intro y0 y1
      unfold aZ
      exact xmo
    · intro y0 y1
      unfold bi
      exact xmo
    · intro y0 y1
      unfold bj
      exact xmo
    · intro y0 y1
      unfold bl
      exact xmo
theorem ez : ∀ a0 k, LeO (bX k a0) (bX (k + 1) a0) := by
  intro a0 k
  obtain ⟨ih0, ih1, ih2, ih3⟩ := ee k
  have m0 := @di
  unfold bX
  exact xmo
theorem aT (k : Nat) (a0 : Int) (r : Int) (w : World) (h : bX k a0 = some r) :
    Calls Tryd.prog 34 #[.int .u8 a0] w fun e w' => e = .returned (.int .i64 r) ∧ Drawn0 w w' := by
 have H : ((aC k a0 (⟨#[65, 66, 67, 68, 69, 70, 71, 72, 73, 74, 75, 76, 77, 78, 79, 80, 81, 82, 83, 84, 85, 86, 87, 88, 89, 90, 97, 98, 99, 100, 101, 102, 103, 104, 105, 106, 107, 108, 109, 110, 111, 112, 113, 114, 115, 116, 117, 118, 119, 120, 121, 122]⟩ : ByteArray)).bind fun Ae => (if Ae = true then (aZ k a0 (0 + 1)) else (aZ k a0 0))) = some r := h
 clear h
 replace H := Option.bind_eq_some_iff.mp H
 obtain ⟨Ae, A20, H⟩ := H
 try dsimp only at H
 have A2 := Zz.mk A20
 clear A20
 have Aj := Zz.mk H
 clear H
 go_enter Tryd.func34, Tryd.ntmps34
 go_upto_if 5 with (first | ((with_reducible refine ae (f := 52) rfl ?_); refine xgl 5 Tryd.func52 #[.int .u8 a0, .string (⟨#[65, 66, 67, 68, 69, 70, 71, 72, 73, 74, 75, 76, 77, 78, 79, 80, 81, 82, 83, 84, 85, 86, 87, 88, 89, 90, 97, 98, 99, 100, 101, 102, 103, 104, 105, 106, 107, 108, 109, 110, 111, 112, 113, 114, 115, 116, 117, 118, 119, 120, 121, 122]⟩ : ByteArray)] ?_; (with_reducible refine (aq k a0 (⟨#[65, 66, 67, 68, 69, 70, 71, 72, 73, 74, 75, 76, 77, 78, 79, 80, 81, 82, 83, 84, 85, 86, 87, 88, 89, 90, 97, 98, 99, 100, 101, 102, 103, 104, 105, 106, 107, 108, 109, 110, 111, 112, 113, 114, 115, 116, 117, 118, 119, 120, 121, 122]⟩ : ByteArray) Ae _ A2.out).mono ?_); rintro e w' ⟨rfl, ⟨nd, rfl⟩⟩; refine ⟨_, rfl, ?_⟩))
 (try simp only [Act.put, List.setIfInBounds_toArray, List.set_cons_zero, List.set_cons_succ])
 go_cut [3] (fun v3 wc => ∃ (kq : Nat) (Aa : Int), v3 = .int .i64 Aa ∧ Zz (aZ kq a0 Aa = some r) ∧ Zz (kq ≤ k) ∧ Drawn0 w wc)
 case first =>
  have H := Aj.out
  clear Aj
  by_cases c4 : Ae = true
  ·
   subst c4
   rw [if_pos rfl] at H
   have H' := Zz.mk H
   clear H
   go_wp2
   go_meet
   case rel => exact ⟨_, (0 + 1), xrr, H', ⟨xom⟩, xdr⟩
  ·
   replace c4 := Bool.eq_false_iff.mpr c4
   subst c4
   rw [if_neg (show ¬ (false = true) by decide)] at H
   have H' := Zz.mk H
   clear H
   go_wp2
   go_meet
   case rel => exact ⟨_, (0), xrr, H', ⟨xom⟩, xdr⟩
 case rest =>
  clear Aj
  obtain ⟨kq, Aa, rfl, HA, HJ2, ⟨mc2, rfl⟩⟩ := hcut
  cases kq with
  | zero => exact absurd HA.out (by simp [aZ])
  | succ kj2 =>
   have H := HA.out
   clear HA
   simp only [aZ] at H
   replace H := Option.bind_eq_some_iff.mp H
   obtain ⟨Ag, A50, H⟩ := H
   try dsimp only at H
   have A5 := Zz.mk A50
   clear A50
   have Ak := Zz.mk H
   clear H
   go_upto_if 9 with (first | ((with_reducible refine ae (f := 52) rfl ?_); refine xgl 9 Tryd.func52 #[.int .u8 a0, .string (⟨#[48, 49, 50, 51, 52, 53, 54, 55, 56, 57]⟩ : ByteArray)] ?_; (with_reducible refine (aq kj2 a0 (⟨#[48, 49, 50, 51, 52, 53, 54, 55, 56, 57]⟩ : ByteArray) Ag _ A5.out).mono ?_); rintro e w' ⟨rfl, ⟨nd, rfl⟩⟩; refine ⟨_, rfl, ?_⟩))
   (try simp only [Act.put, List.setIfInBounds_toArray, List.set_cons_zero, List.set_cons_succ])
   go_cut [3] (fun v3 wc => ∃ (kq : Nat) (Ab : Int), v3 = .int .i64 Ab ∧ Zz (bi kq a0 Ab = some r) ∧ Zz (kq ≤ kj2) ∧ Drawn0 w wc)
   case first =>
    have H := Ak.out
    clear Ak
    by_cases c7 : Ag = true
    ·
     subst c7
     rw [if_pos rfl] at H
     have H' := Zz.mk H
     clear H
     go_wp2
     go_meet
     case rel => exact ⟨_, (wrap64 (Aa + 2)), xrr, H', ⟨by have := HJ2.out; first | omega | exact Nat.le_refl _⟩, xdr⟩
    ·
     replace c7 := Bool.eq_false_iff.mpr c7
     subst c7
     rw [if_neg (show ¬ (false = true) by decide)] at H
     have H' := Zz.mk H
     clear H
     go_wp2
     go_meet
     case rel => exact ⟨_, (Aa), xrr, H', ⟨by have := HJ2.out; first | omega | exact Nat.le_refl _⟩, xdr⟩
   case rest =>
    clear Ak
    obtain ⟨kq, Ab, rfl, HA, HJ5, ⟨mc5, rfl⟩⟩ := hcut
    cases kq with
    | zero => exact absurd HA.out (by simp [bi])
    | succ kj5 =>
     have H := HA.out
     clear HA
     simp only [bi] at H
     replace H := Option.bind_eq_some_iff.mp H
     obtain ⟨Ah, A80, H⟩ := H
     try dsimp only at H
     have A8 := Zz.mk A80
     clear A80
     have Al := Zz.mk H
     clear H
     go_upto_if 13 with (first | ((with_reducible refine ae (f := 52) rfl ?_); refine xgl 13 Tryd.func52 #[.int .u8 a0, .string (⟨#[45, 46, 95, 126]⟩ : ByteArray)] ?_; (with_reducible refine (aq kj5 a0 (⟨#[45, 46, 95, 126]⟩ : ByteArray) Ah _ A8.out).mono ?_); rintro e w' ⟨rfl, ⟨nd, rfl⟩⟩; refine ⟨_, rfl, ?_⟩))
     (try simp only [Act.put, List.setIfInBounds_toArray, List.set_cons_zero, List.set_cons_succ])
     go_cut [3] (fun v3 wc => ∃ (kq : Nat) (Ac : Int), v3 = .int .i64 Ac ∧ Zz (bj kq a0 Ac = some r) ∧ Zz (kq ≤ kj5) ∧ Drawn0 w wc)
     case first =>
      have H := Al.out
      clear Al
      by_cases c10 : Ah = true
      ·
       subst c10
       rw [if_pos rfl] at H
       have H' := Zz.mk H
       clear H
       go_wp2
       go_meet
       case rel => exact ⟨_, (wrap64 (Ab + 4)), xrr, H', ⟨by have := HJ2.out; have := HJ5.out; first | omega | exact Nat.le_refl _⟩, xdr⟩
      ·
       replace c10 := Bool.eq_false_iff.mpr c10
       subst c10
       rw [if_neg (show ¬ (false = true) by decide)] at H
       have H' := Zz.mk H
       clear H
       go_wp2
       go_meet
       case rel => exact ⟨_, (Ab), xrr, H', ⟨by have := HJ2.out; have := HJ5.out; first | omega | exact Nat.le_refl _⟩, xdr⟩
     case rest =>
      clear Al
      obtain ⟨kq, Ac, rfl, HA, HJ8, ⟨mc8, rfl⟩⟩ := hcut
      cases kq with
      | zero => exact absurd HA.out (by simp [bj])
      | succ kj8 =>
       have H := HA.out
       clear HA
       simp only [bj] at H
       replace H := Option.bind_eq_some_iff.mp H
       obtain ⟨Ai, A110, H⟩ := H
       try dsimp only at H
       have A11 := Zz.mk A110
       clear A110
       have Af := Zz.mk H
       clear H
       go_upto_if 17 with (first | ((with_reducible refine ae (f := 52) rfl ?_); refine xgl 17 Tryd.func52 #[.int .u8 a0, .string (⟨#[33, 36, 38, 39, 40, 41, 42, 43, 44, 59, 61]⟩ : ByteArray)] ?_; (with_reducible refine (aq kj8 a0 (⟨#[33, 36, 38, 39, 40, 41, 42, 43, 44, 59, 61]⟩ : ByteArray) Ai _ A11.out).mono ?_); rintro e w' ⟨rfl, ⟨nd, rfl⟩⟩; refine ⟨_, rfl, ?_⟩))
       (try simp only [Act.put, List.setIfInBounds_toArray, List.set_cons_zero, List.set_cons_succ])
       go_cut [3] (fun v3 wc => ∃ (kq : Nat) (Ad : Int), v3 = .int .i64 Ad ∧ Zz (bl kq a0 Ad = some r) ∧ Zz (kq ≤ kj8) ∧ Drawn0 w wc)
       case first =>
        have H := Af.out
        clear Af
        by_cases c13 : Ai = true
        ·
         subst c13
         rw [if_pos rfl] at H
         have H' := Zz.mk H
         clear H
         go_wp2
         go_meet
         case rel => exact ⟨_, (wrap64 (Ac + 8)), xrr, H', ⟨by have := HJ2.out; have := HJ5.out; have := HJ8.out; first | omega | exact Nat.le_refl _⟩, xdr⟩
        ·
         replace c13 := Bool.eq_false_iff.mpr c13
         subst c13
         rw [if_neg (show ¬ (false = true) by decide)] at H
         have H' := Zz.mk H
         clear H
         go_wp2
         go_meet
         case rel => exact ⟨_, (Ac), xrr, H', ⟨by have := HJ2.out; have := HJ5.out; have := HJ8.out; first | omega | exact Nat.le_refl _⟩, xdr⟩
       case rest =>
        clear Af
        obtain ⟨kq, Ad, rfl, HA, HJ11, ⟨mc11, rfl⟩⟩ := hcut
        cases kq with
        | zero => exact absurd HA.out (by simp [bl])
        | succ kj11 =>
         have H := HA.out
         clear HA
         simp only [bl] at H
         replace H := Option.bind_eq_some_iff.mp H
         obtain ⟨Am, A140, H⟩ := H
         try dsimp only at H
         have A14 := Zz.mk A140
         clear A140
         by_cases c15 : Am = true
         ·
          subst c15
          rw [if_pos rfl] at H
          replace H := Option.bind_eq_some_iff.mp H
          obtain ⟨An, A160, H⟩ := H
          try dsimp only at H
          have A16 := Zz.mk A160
          clear A160
          by_cases c17 : An = true
          ·
           subst c17
           rw [if_pos rfl] at H
           obtain rfl := Option.some.inj H
           go_wp2_with (first | ((with_reducible refine ae (f := 52) rfl ?_); refine xgl 21 Tryd.func52 #[.int .u8 a0, .string (⟨#[58, 47, 63, 35, 91, 93, 64]⟩ : ByteArray)] ?_; (with_reducible refine (aq kj11 a0 (⟨#[58, 47, 63, 35, 91, 93, 64]⟩ : ByteArray) true _ A14.out).mono ?_); rintro e w' ⟨rfl, ⟨nd, rfl⟩⟩; refine ⟨_, rfl, ?_⟩) | ((with_reducible refine ae (f := 52) rfl ?_); refine xgl 25 Tryd.func52 #[.int .u8 a0, .string (⟨#[48, 49, 50, 51, 52, 53, 54, 55, 56, 57, 65, 66, 67, 68, 69, 70, 97, 98, 99, 100, 101, 102]⟩ : ByteArray)] ?_; (with_reducible refine (aq kj11 a0 (⟨#[48, 49, 50, 51, 52, 53, 54, 55, 56, 57, 65, 66, 67, 68, 69, 70, 97, 98, 99, 100, 101, 102]⟩ : ByteArray) true _ A16.out).mono ?_); rintro e w' ⟨rfl, ⟨nd, rfl⟩⟩; refine ⟨_, rfl, ?_⟩))
           go_ret
           exact ⟨xrr, xdr⟩
          ·
           replace c17 := Bool.eq_false_iff.mpr c17
           subst c17
           rw [if_neg (show ¬ (false = true) by decide)] at H
           obtain rfl := Option.some.inj H
           go_wp2_with (first | ((with_reducible refine ae (f := 52) rfl ?_); refine xgl 21 Tryd.func52 #[.int .u8 a0, .string (⟨#[58, 47, 63, 35, 91, 93, 64]⟩ : ByteArray)] ?_; (with_reducible refine (aq kj11 a0 (⟨#[58, 47, 63, 35, 91, 93, 64]⟩ : ByteArray) true _ A14.out).mono ?_); rintro e w' ⟨rfl, ⟨nd, rfl⟩⟩; refine ⟨_, rfl, ?_⟩) | ((with_reducible refine ae (f := 52) rfl ?_); refine xgl 25 Tryd.func52 #[.int .u8 a0, .string (⟨#[48, 49, 50, 51, 52, 53, 54, 55, 56, 57, 65, 66, 67, 68, 69, 70, 97, 98, 99, 100, 101, 102]⟩ : ByteArray)] ?_; (with_reducible refine (aq kj11 a0 (⟨#[48, 49, 50, 51, 52, 53, 54, 55, 56, 57, 65, 66, 67, 68, 69, 70, 97, 98, 99, 100, 101, 102]⟩ : ByteArray) false _ A16.out).mono ?_); rintro e w' ⟨rfl, ⟨nd, rfl⟩⟩; refine ⟨_, rfl, ?_⟩))
           go_ret
           exact ⟨xrr, xdr⟩
         ·
          replace c15 := Bool.eq_false_iff.mpr c15
          subst c15
          rw [if_neg (show ¬ (false = true) by decide)] at H
          replace H := Option.bind_eq_some_iff.mp H
          obtain ⟨Ao, A180, H⟩ := H
          try dsimp only at H
          have A18 := Zz.mk A180
          clear A180
          by_cases c19 : Ao = true
          ·
           subst c19
           rw [if_pos rfl] at H
           obtain rfl := Option.some.inj H
           go_wp2_with (first | ((with_reducible refine ae (f := 52) rfl ?_); refine xgl 21 Tryd.func52 #[.int .u8 a0, .string (⟨#[58, 47, 63, 35, 91, 93, 64]⟩ : ByteArray)] ?_; (with_reducible refine (aq kj11 a0 (⟨#[58, 47, 63, 35, 91, 93, 64]⟩ : ByteArray) false _ A14.out).mono ?_); rintro e w' ⟨rfl, ⟨nd, rfl⟩⟩; refine ⟨_, rfl, ?_⟩) | ((with_reducible refine ae (f := 52) rfl ?_); refine xgl 25 Tryd.func52 #[.int .u8 a0, .string (⟨#[48, 49, 50, 51, 52, 53, 54, 55, 56, 57, 65, 66, 67, 68, 69, 70, 97, 98, 99, 100, 101, 102]⟩ : ByteArray)] ?_; (with_reducible refine (aq kj11 a0 (⟨#[48, 49, 50, 51, 52, 53, 54, 55, 56, 57, 65, 66, 67, 68, 69, 70, 97, 98, 99, 100, 101, 102]⟩ : ByteArray) true _ A18.out).mono ?_); rintro e w' ⟨rfl, ⟨nd, rfl⟩⟩; refine ⟨_, rfl, ?_⟩))
           go_ret
           exact ⟨xrr, xdr⟩
          ·
           replace c19 := Bool.eq_false_iff.mpr c19
           subst c19
           rw [if_neg (show ¬ (false = true) by decide)] at H
           obtain rfl := Option.some.inj H
           go_wp2_with (first | ((with_reducible refine ae (f := 52) rfl ?_); refine xgl 21 Tryd.func52 #[.int .u8 a0, .string (⟨#[58, 47, 63, 35, 91, 93, 64]⟩ : ByteArray)] ?_; (with_reducible refine (aq kj11 a0 (⟨#[58, 47, 63, 35, 91, 93, 64]⟩ : ByteArray) false _ A14.out).mono ?_); rintro e w' ⟨rfl, ⟨nd, rfl⟩⟩; refine ⟨_, rfl, ?_⟩) | ((with_reducible refine ae (f := 52) rfl ?_); refine xgl 25 Tryd.func52 #[.int .u8 a0, .string (⟨#[48, 49, 50, 51, 52, 53, 54, 55, 56, 57, 65, 66, 67, 68, 69, 70, 97, 98, 99, 100, 101, 102]⟩ : ByteArray)] ?_; (with_reducible refine (aq kj11 a0 (⟨#[48, 49, 50, 51, 52, 53, 54, 55, 56, 57, 65, 66, 67, 68, 69, 70, 97, 98, 99, 100, 101, 102]⟩ : ByteArray) false _ A18.out).mono ?_); rintro e w' ⟨rfl, ⟨nd, rfl⟩⟩; refine ⟨_, rfl, ?_⟩))
           go_ret
           exact ⟨xrr, xdr⟩
def aI : Nat → Int → Int → Bool → ByteArray → ByteArray → ByteArray → ByteArray → ByteArray → ByteArray → ByteArray → ByteArray → Option (Bool)
  | 0, _, _, _, _, _, _, _, _, _, _, _ => none
  | k + 1, x0, x1, Ar, Aa, Ab, Ac, Ad, Ae, Af, Ag, Ah => if Ar = true then (some false) else ((bX k x1).bind fun Ai => (if (Go.bits .and .i64 Ai 15) = 0 then (if 0 ≤ x0 then (if x0 = 0 then ((aC k x1 Aa).bind fun Aj => (some Aj)) else (if x0 = 1 then ((aC k x1 Ab).bind fun Ak => (some Ak)) else (if x0 = 2 then ((aC k x1 Ac).bind fun Al => (some Al)) else (if x0 = 3 then ((aC k x1 Ad).bind fun Am => (some Am)) else (if x0 = 4 then ((aC k x1 Ae).bind fun An => (some An)) else (if x0 = 5 then ((aC k x1 Af).bind fun Ao => (some Ao)) else (if x0 = 6 then ((aC k x1 Ag).bind fun Ap => (some Ap)) else (if x0 = 7 then ((aC k x1 Ah).bind fun Aq => (some Aq)) else (none))))))))) else (none)) else (some true)))
def bs (k : Nat) (a0 : Int) (a1 : Int) : Option (Bool) := if a0 < 1 then (aI k a0 a1 true (⟨#[]⟩ : ByteArray) (⟨#[58]⟩ : ByteArray) (⟨#[]⟩ : ByteArray) (⟨#[58, 64]⟩ : ByteArray) (⟨#[64]⟩ : ByteArray) (⟨#[58, 64, 47]⟩ : ByteArray) (⟨#[58, 64, 47, 63]⟩ : ByteArray) (⟨#[58, 64, 47, 63]⟩ : ByteArray)) else (aI k a0 a1 (decide (a0 > 7)) (⟨#[]⟩ : ByteArray) (⟨#[58]⟩ : ByteArray) (⟨#[]⟩ : ByteArray) (⟨#[58, 64]⟩ : ByteArray) (⟨#[64]⟩ : ByteArray) (⟨#[58, 64, 47]⟩ : ByteArray) (⟨#[58, 64, 47, 63]⟩ : ByteArray) (⟨#[58, 64, 47, 63]⟩ : ByteArray))
theorem eg : ∀ k, (∀ y0 y1 y2 y3 y4 y5 y6 y7 y8 y9 y10, LeO (aI k y0 y1 y2 y3 y4 y5 y6 y7 y8 y9 y10) (aI (k + 1) y0 y1 y2 y3 y4 y5 y6 y7 y8 y9 y10))
  | 0 => fun _ _ _ _ _ _ _ _ _ _ _ r h => by simp [aI] at h
  | k + 1 => by
    have ih0 := eg k
    have m0 := @ez; have m1 := @di
    · intro y0 y1 y2 y3 y4 y5 y6 y7 y8 y9 y10
      unfold aI
      exact xmo
theorem gu : ∀ a0 a1 k, LeO (bs k a0 a1) (bs (k + 1) a0 a1) := by
  intro a0 a1 k
  have ih0 := eg k
  have m0 := @ez; have m1 := @di
  unfold bs
  exact xmo
theorem gc (k : Nat) (a0 : Int) (a1 : Int) (r : Bool) (w : World) (h : bs k a0 a1 = some r) :
    Calls Tryd.prog 68 #[.int .i64 a0, .int .u8 a1] w fun e w' => e = .returned (.bool r) ∧ Below w.heap.size w w' := by
 have hu109 := Tryd.underlying109
 have HB := Zz.mk (Below.refl w.heap.size w)
 have H : (if a0 < 1 then (aI k a0 a1 true (⟨#[]⟩ : ByteArray) (⟨#[58]⟩ : ByteArray) (⟨#[]⟩ : ByteArray) (⟨#[58, 64]⟩ : ByteArray) (⟨#[64]⟩ : ByteArray) (⟨#[58, 64, 47]⟩ : ByteArray) (⟨#[58, 64, 47, 63]⟩ : ByteArray) (⟨#[58, 64, 47, 63]⟩ : ByteArray)) else (aI k a0 a1 (decide (a0 > 7)) (⟨#[]⟩ : ByteArray) (⟨#[58]⟩ : ByteArray) (⟨#[]⟩ : ByteArray) (⟨#[58, 64]⟩ : ByteArray) (⟨#[64]⟩ : ByteArray) (⟨#[58, 64, 47]⟩ : ByteArray) (⟨#[58, 64, 47, 63]⟩ : ByteArray) (⟨#[58, 64, 47, 63]⟩ : ByteArray))) = some r := h
 clear h
 have Ag := Zz.mk H
 clear H
 go_enter Tryd.func68, Tryd.ntmps68
 go_upto_region 2 with (first | ((with_reducible refine an (N := 5) rfl ?_); refine xev 5 #[.string (⟨#[]⟩ : ByteArray), .string (⟨#[]⟩ : ByteArray), .string (⟨#[]⟩ : ByteArray), .string (⟨#[]⟩ : ByteArray), .string (⟨#[]⟩ : ByteArray), .string (⟨#[]⟩ : ByteArray), .string (⟨#[]⟩ : ByteArray), .string (⟨#[]⟩ : ByteArray)] 109 ?_; intro Ae hg w4 hbox hb; have Aa := Zz.mk (hbox); have Af := xsz hg; have At := Af; replace HB := xst hb; clear hb hbox hg; obtain ⟨hcz5_0, hcz5_1, hcz5_2, hcz5_3, hcz5_4, hcz5_5, hcz5_6, hcz5_7⟩ := xc8 Aa; have hfz5_0 := xf Aa 0; have hfz5_1 := xf Aa 1; have hfz5_2 := xf Aa 2; have hfz5_3 := xf Aa 3; have hfz5_4 := xf Aa 4; have hfz5_5 := xf Aa 5; have hfz5_6 := xf Aa 6; have hfz5_7 := xf Aa 7))
 (try simp only [Act.put, List.setIfInBounds_toArray, List.set_cons_zero, List.set_cons_succ])
 go_cut [12] (fun v12 wc => ∃ (kq : Nat) (Ac : Bool), v12 = .bool Ac ∧ Zz (aI kq a0 a1 Ac (⟨#[]⟩ : ByteArray) (⟨#[58]⟩ : ByteArray) (⟨#[]⟩ : ByteArray) (⟨#[58, 64]⟩ : ByteArray) (⟨#[64]⟩ : ByteArray) (⟨#[58, 64, 47]⟩ : ByteArray) (⟨#[58, 64, 47, 63]⟩ : ByteArray) (⟨#[58, 64, 47, 63]⟩ : ByteArray) = some r) ∧ Zz (kq ≤ k) ∧ Zz (wc.heap[Ae]? = some (.cells #[.string (⟨#[]⟩ : ByteArray), .string (⟨#[58]⟩ : ByteArray), .string (⟨#[]⟩ : ByteArray), .string (⟨#[58, 64]⟩ : ByteArray), .string (⟨#[64]⟩ : ByteArray), .string (⟨#[58, 64, 47]⟩ : ByteArray), .string (⟨#[58, 64, 47, 63]⟩ : ByteArray), .string (⟨#[58, 64, 47, 63]⟩ : ByteArray)] 109 (0, 0))) ∧ Zz (Below w.heap.size w wc))
 case first =>
  have H := Ag.out
  clear Ag
  by_cases c6 : a0 < 1
  ·
   rw [if_pos c6] at H
   have Ad := decide_eq_true c6
   clear c6
   (first | rw [Ad] | (simp only [ap, aw]; rw [Ad]) | (rw [Ah]; (try simp only [Bool.not_false, Bool.not_true])) | (rw [Ai]; (try simp only [Bool.not_false, Bool.not_true])) | skip)
   have H' := Zz.mk H
   clear H
   go_wp2
   go_meet
   case rel => exact ⟨_, (true), xrr, H', ⟨xom⟩, ⟨by (with_reducible repeat (first | refine ai ?_ _ | refine ak ?_ | refine ah ?_ _)); refine aj (cs := #[.string (⟨#[]⟩ : ByteArray), .string (⟨#[58]⟩ : ByteArray), .string (⟨#[]⟩ : ByteArray), .string (⟨#[58, 64]⟩ : ByteArray), .string (⟨#[64]⟩ : ByteArray), .string (⟨#[58, 64, 47]⟩ : ByteArray), .string (⟨#[58, 64, 47, 63]⟩ : ByteArray), .string (⟨#[]⟩ : ByteArray)]) ?_ 7 _ rfl; (with_reducible repeat (first | refine ai ?_ _ | refine ak ?_ | refine ah ?_ _)); refine aj (cs := #[.string (⟨#[]⟩ : ByteArray), .string (⟨#[58]⟩ : ByteArray), .string (⟨#[]⟩ : ByteArray), .string (⟨#[58, 64]⟩ : ByteArray), .string (⟨#[64]⟩ : ByteArray), .string (⟨#[58, 64, 47]⟩ : ByteArray), .string (⟨#[]⟩ : ByteArray), .string (⟨#[]⟩ : ByteArray)]) ?_ 6 _ rfl; (with_reducible repeat (first | refine ai ?_ _ | refine ak ?_ | refine ah ?_ _)); refine aj (cs := #[.string (⟨#[]⟩ : ByteArray), .string (⟨#[58]⟩ : ByteArray), .string (⟨#[]⟩ : ByteArray), .string (⟨#[58, 64]⟩ : ByteArray), .string (⟨#[64]⟩ : ByteArray), .string (⟨#[]⟩ : ByteArray), .string (⟨#[]⟩ : ByteArray), .string (⟨#[]⟩ : ByteArray)]) ?_ 5 _ rfl; (with_reducible repeat (first | refine ai ?_ _ | refine ak ?_ | refine ah ?_ _)); refine aj (cs := #[.string (⟨#[]⟩ : ByteArray), .string (⟨#[58]⟩ : ByteArray), .string (⟨#[]⟩ : ByteArray), .string (⟨#[58, 64]⟩ : ByteArray), .string (⟨#[]⟩ : ByteArray), .string (⟨#[]⟩ : ByteArray), .string (⟨#[]⟩ : ByteArray), .string (⟨#[]⟩ : ByteArray)]) ?_ 4 _ rfl; (with_reducible repeat (first | refine ai ?_ _ | refine ak ?_ | refine ah ?_ _)); refine aj (cs := #[.string (⟨#[]⟩ : ByteArray), .string (⟨#[58]⟩ : ByteArray), .string (⟨#[]⟩ : ByteArray), .string (⟨#[]⟩ : ByteArray), .string (⟨#[]⟩ : ByteArray), .string (⟨#[]⟩ : ByteArray), .string (⟨#[]⟩ : ByteArray), .string (⟨#[]⟩ : ByteArray)]) ?_ 3 _ rfl; (with_reducible repeat (first | refine ai ?_ _ | refine ak ?_ | refine ah ?_ _)); refine aj (cs := #[.string (⟨#[]⟩ : ByteArray), .string (⟨#[58]⟩ : ByteArray), .string (⟨#[]⟩ : ByteArray), .string (⟨#[]⟩ : ByteArray), .string (⟨#[]⟩ : ByteArray), .string (⟨#[]⟩ : ByteArray), .string (⟨#[]⟩ : ByteArray), .string (⟨#[]⟩ : ByteArray)]) ?_ 2 _ rfl; (with_reducible repeat (first | refine ai ?_ _ | refine ak ?_ | refine ah ?_ _)); refine aj (cs := #[.string (⟨#[]⟩ : ByteArray), .string (⟨#[]⟩ : ByteArray), .string (⟨#[]⟩ : ByteArray), .string (⟨#[]⟩ : ByteArray), .string (⟨#[]⟩ : ByteArray), .string (⟨#[]⟩ : ByteArray), .string (⟨#[]⟩ : ByteArray), .string (⟨#[]⟩ : ByteArray)]) ?_ 1 _ rfl; (with_reducible repeat (first | refine ai ?_ _ | refine ak ?_ | refine ah ?_ _)); refine aj (cs := #[.string (⟨#[]⟩ : ByteArray), .string (⟨#[]⟩ : ByteArray), .string (⟨#[]⟩ : ByteArray), .string (⟨#[]⟩ : ByteArray), .string (⟨#[]⟩ : ByteArray), .string (⟨#[]⟩ : ByteArray), .string (⟨#[]⟩ : ByteArray), .string (⟨#[]⟩ : ByteArray)]) ?_ 0 _ rfl; (with_reducible repeat (first | refine ai ?_ _ | refine ak ?_ | refine ah ?_ _)); exact Aa.out⟩, ⟨xbl⟩⟩
  ·
   rw [if_neg c6] at H
   have Ad := decide_eq_false c6
   clear c6
   (first | rw [Ad] | (simp only [ap, aw]; rw [Ad]) | (rw [Ah]; (try simp only [Bool.not_false, Bool.not_true])) | (rw [Ai]; (try simp only [Bool.not_false, Bool.not_true])) | skip)
   have H' := Zz.mk H
   clear H
   go_wp2
   go_meet
   case rel => exact ⟨_, (decide (a0 > 7)), xrr, H', ⟨xom⟩, ⟨by (with_reducible repeat (first | refine ai ?_ _ | refine ak ?_ | refine ah ?_ _)); refine aj (cs := #[.string (⟨#[]⟩ : ByteArray), .string (⟨#[58]⟩ : ByteArray), .string (⟨#[]⟩ : ByteArray), .string (⟨#[58, 64]⟩ : ByteArray), .string (⟨#[64]⟩ : ByteArray), .string (⟨#[58, 64, 47]⟩ : ByteArray), .string (⟨#[58, 64, 47, 63]⟩ : ByteArray), .string (⟨#[]⟩ : ByteArray)]) ?_ 7 _ rfl; (with_reducible repeat (first | refine ai ?_ _ | refine ak ?_ | refine ah ?_ _)); refine aj (cs := #[.string (⟨#[]⟩ : ByteArray), .string (⟨#[58]⟩ : ByteArray), .string (⟨#[]⟩ : ByteArray), .string (⟨#[58, 64]⟩ : ByteArray), .string (⟨#[64]⟩ : ByteArray), .string (⟨#[58, 64, 47]⟩ : ByteArray), .string (⟨#[]⟩ : ByteArray), .string (⟨#[]⟩ : ByteArray)]) ?_ 6 _ rfl; (with_reducible repeat (first | refine ai ?_ _ | refine ak ?_ | refine ah ?_ _)); refine aj (cs := #[.string (⟨#[]⟩ : ByteArray), .string (⟨#[58]⟩ : ByteArray), .string (⟨#[]⟩ : ByteArray), .string (⟨#[58, 64]⟩ : ByteArray), .string (⟨#[64]⟩ : ByteArray), .string (⟨#[]⟩ : ByteArray), .string (⟨#[]⟩ : ByteArray), .string (⟨#[]⟩ : ByteArray)]) ?_ 5 _ rfl; (with_reducible repeat (first | refine ai ?_ _ | refine ak ?_ | refine ah ?_ _)); refine aj (cs := #[.string (⟨#[]⟩ : ByteArray), .string (⟨#[58]⟩ : ByteArray), .string (⟨#[]⟩ : ByteArray), .string (⟨#[58, 64]⟩ : ByteArray), .string (⟨#[]⟩ : ByteArray), .string (⟨#[]⟩ : ByteArray), .string (⟨#[]⟩ : ByteArray), .string (⟨#[]⟩ : ByteArray)]) ?_ 4 _ rfl; (with_reducible repeat (first | refine ai ?_ _ | refine ak ?_ | refine ah ?_ _)); refine aj (cs := #[.string (⟨#[]⟩ : ByteArray), .string (⟨#[58]⟩ : ByteArray), .string (⟨#[]⟩ : ByteArray), .string (⟨#[]⟩ : ByteArray), .string (⟨#[]⟩ : ByteArray), .string (⟨#[]⟩ : ByteArray), .string (⟨#[]⟩ : ByteArray), .string (⟨#[]⟩ : ByteArray)]) ?_ 3 _ rfl; (with_reducible repeat (first | refine ai ?_ _ | refine ak ?_ | refine ah ?_ _)); refine aj (cs := #[.string (⟨#[]⟩ : ByteArray), .string (⟨#[58]⟩ : ByteArray), .string (⟨#[]⟩ : ByteArray), .string (⟨#[]⟩ : ByteArray), .string (⟨#[]⟩ : ByteArray), .string (⟨#[]⟩ : ByteArray), .string (⟨#[]⟩ : ByteArray), .string (⟨#[]⟩ : ByteArray)]) ?_ 2 _ rfl; (with_reducible repeat (first | refine ai ?_ _ | refine ak ?_ | refine ah ?_ _)); refine aj (cs := #[.string (⟨#[]⟩ : ByteArray), .string (⟨#[]⟩ : ByteArray), .string (⟨#[]⟩ : ByteArray), .string (⟨#[]⟩ : ByteArray), .string (⟨#[]⟩ : ByteArray), .string (⟨#[]⟩ : ByteArray), .string (⟨#[]⟩ : ByteArray), .string (⟨#[]⟩ : ByteArray)]) ?_ 1 _ rfl; (with_reducible repeat (first | refine ai ?_ _ | refine ak ?_ | refine ah ?_ _)); refine aj (cs := #[.string (⟨#[]⟩ : ByteArray), .string (⟨#[]⟩ : ByteArray), .string (⟨#[]⟩ : ByteArray), .string (⟨#[]⟩ : ByteArray), .string (⟨#[]⟩ : ByteArray), .string (⟨#[]⟩ : ByteArray), .string (⟨#[]⟩ : ByteArray), .string (⟨#[]⟩ : ByteArray)]) ?_ 0 _ rfl; (with_reducible repeat (first | refine ai ?_ _ | refine ak ?_ | refine ah ?_ _)); exact Aa.out⟩, ⟨xbl⟩⟩
 case rest =>
  clear Ag
  obtain ⟨kq, Ac, rfl, HA, HJ2, Aa, HB⟩ := hcut
  cases kq with
  | zero => exact absurd HA.out (by simp [aI])
  | succ kj2 =>
   have H := HA.out
   clear HA
   simp only [aI] at H
   by_cases c7 : Ac = true
   ·
    subst c7
    rw [if_pos rfl] at H
    obtain rfl := Option.some.inj H
    go_wp2
    go_ret
    exact ⟨xre, xbl⟩
   ·
    replace c7 := Bool.eq_false_iff.mpr c7
    subst c7
    rw [if_neg (show ¬ (false = true) by decide)] at H
    replace H := Option.bind_eq_some_iff.mp H
    obtain ⟨Ab, A80, H⟩ := H
    try dsimp only at H
    have A8 := Zz.mk A80
    clear A80
    by_cases c9 : (Go.bits .and .i64 Ab 15) = 0
    ·
     rw [if_pos c9] at H
     have Aj : ((Go.bits .and .i64 Ab 15) == 0) = true := beq_iff_eq.mpr c9
     have Ak : ((Go.bits .and .i64 Ab 15) != 0) = false := bne_eq_false_iff_eq.mpr c9
     clear c9
     by_cases c10 : 0 ≤ a0
     ·
      rw [if_pos c10] at H
      have Au := decide_eq_true c10
      clear c10
      by_cases c11 : a0 = 0
      ·
       subst c11
       rw [if_pos rfl] at H
       replace H := Option.bind_eq_some_iff.mp H
       obtain ⟨Al, A120, H⟩ := H
       try dsimp only at H
       have A12 := Zz.mk A120
       clear A120
       obtain rfl := Option.some.inj H
       go_wp2_with (first | ((with_reducible refine ae (f := 34) rfl ?_); refine xgl 14 Tryd.func34 #[.int .u8 a1] ?_; (with_reducible refine (aT kj2 a1 Ab _ A8.out).mono ?_); rintro e w' ⟨rfl, ⟨nd, rfl⟩⟩; refine ⟨_, rfl, ?_⟩; obtain ⟨hcz13_0, hcz13_1, hcz13_2, hcz13_3, hcz13_4, hcz13_5, hcz13_6, hcz13_7⟩ := xc8 Aa; have hfz13_0 := xf Aa 0; have hfz13_1 := xf Aa 1; have hfz13_2 := xf Aa 2; have hfz13_3 := xf Aa 3; have hfz13_4 := xf Aa 4; have hfz13_5 := xf Aa 5; have hfz13_6 := xf Aa 6; have hfz13_7 := xf Aa 7) | (go_at_call 52; (with_reducible refine (aq kj2 a1 (⟨#[]⟩ : ByteArray) Al _ A12.out).mono ?_); rintro e w' ⟨rfl, ⟨nd, rfl⟩⟩))
       go_ret
       exact ⟨xre, xbl⟩
      ·
       rw [if_neg c11] at H
       clear c11
       by_cases c14 : a0 = 1
       ·
        subst c14
        rw [if_pos rfl] at H
        replace H := Option.bind_eq_some_iff.mp H
        obtain ⟨Am, A150, H⟩ := H
        try dsimp only at H
        have A15 := Zz.mk A150
        clear A150
        obtain rfl := Option.some.inj H
        go_wp2_with (first | ((with_reducible refine ae (f := 34) rfl ?_); refine xgl 14 Tryd.func34 #[.int .u8 a1] ?_; (with_reducible refine (aT kj2 a1 Ab _ A8.out).mono ?_); rintro e w' ⟨rfl, ⟨nd, rfl⟩⟩; refine ⟨_, rfl, ?_⟩; obtain ⟨hcz16_0, hcz16_1, hcz16_2, hcz16_3, hcz16_4, hcz16_5, hcz16_6, hcz16_7⟩ := xc8 Aa; have hfz16_0 := xf Aa 0; have hfz16_1 := xf Aa 1; have hfz16_2 := xf Aa 2; have hfz16_3 := xf Aa 3; have hfz16_4 := xf Aa 4; have hfz16_5 := xf Aa 5; have hfz16_6 := xf Aa 6; have hfz16_7 := xf Aa 7) | (go_at_call 52; (with_reducible refine (aq kj2 a1 (⟨#[58]⟩ : ByteArray) Am _ A15.out).mono ?_); rintro e w' ⟨rfl, ⟨nd, rfl⟩⟩))
        go_ret
        exact ⟨xre, xbl⟩
       ·
        rw [if_neg c14] at H
        clear c14
        by_cases c17 : a0 = 2
        ·
         subst c17
         rw [if_pos rfl] at H
         replace H := Option.bind_eq_some_iff.mp H
         obtain ⟨An, A180, H⟩ := H
         try dsimp only at H
         have A18 := Zz.mk A180
         clear A180
         obtain rfl := Option.some.inj H
         go_wp2_with (first | ((with_reducible refine ae (f := 34) rfl ?_); refine xgl 14 Tryd.func34 #[.int .u8 a1] ?_; (with_reducible refine (aT kj2 a1 Ab _ A8.out).mono ?_); rintro e w' ⟨rfl, ⟨nd, rfl⟩⟩; refine ⟨_, rfl, ?_⟩; obtain ⟨hcz19_0, hcz19_1, hcz19_2, hcz19_3, hcz19_4, hcz19_5, hcz19_6, hcz19_7⟩ := xc8 Aa; have hfz19_0 := xf Aa 0; have hfz19_1 := xf Aa 1; have hfz19_2 := xf Aa 2; have hfz19_3 := xf Aa 3; have hfz19_4 := xf Aa 4; have hfz19_5 := xf Aa 5; have hfz19_6 := xf Aa 6; have hfz19_7 := xf Aa 7) | (go_at_call 52; (with_reducible refine (aq kj2 a1 (⟨#[]⟩ : ByteArray) An _ A18.out).mono ?_); rintro e w' ⟨rfl, ⟨nd, rfl⟩⟩))
         go_ret
         exact ⟨xre, xbl⟩
        ·
         rw [if_neg c17] at H
         clear c17
         by_cases c20 : a0 = 3
         ·
          subst c20
          rw [if_pos rfl] at H
          replace H := Option.bind_eq_some_iff.mp H
          obtain ⟨Ao, A210, H⟩ := H
          try dsimp only at H
          have A21 := Zz.mk A210
          clear A210
          obtain rfl := Option.some.inj H
          go_wp2_with (first | ((with_reducible refine ae (f := 34) rfl ?_); refine xgl 14 Tryd.func34 #[.int .u8 a1] ?_; (with_reducible refine (aT kj2 a1 Ab _ A8.out).mono ?_); rintro e w' ⟨rfl, ⟨nd, rfl⟩⟩; refine ⟨_, rfl, ?_⟩; obtain ⟨hcz22_0, hcz22_1, hcz22_2, hcz22_3, hcz22_4, hcz22_5, hcz22_6, hcz22_7⟩ := xc8 Aa; have hfz22_0 := xf Aa 0; have hfz22_1 := xf Aa 1; have hfz22_2 := xf Aa 2; have hfz22_3 := xf Aa 3; have hfz22_4 := xf Aa 4; have hfz22_5 := xf Aa 5; have hfz22_6 := xf Aa 6; have hfz22_7 := xf Aa 7) | (go_at_call 52; (with_reducible refine (aq kj2 a1 (⟨#[58, 64]⟩ : ByteArray) Ao _ A21.out).mono ?_); rintro e w' ⟨rfl, ⟨nd, rfl⟩⟩))
          go_ret
          exact ⟨xre, xbl⟩
         ·
          rw [if_neg c20] at H
          clear c20
          by_cases c23 : a0 = 4
          ·
           subst c23
           rw [if_pos rfl] at H
           replace H := Option.bind_eq_some_iff.mp H
           obtain ⟨Ap, A240, H⟩ := H
           try dsimp only at H
           have A24 := Zz.mk A240
           clear A240
           obtain rfl := Option.some.inj H
           go_wp2_with (first | ((with_reducible refine ae (f := 34) rfl ?_); refine xgl 14 Tryd.func34 #[.int .u8 a1] ?_; (with_reducible refine (aT kj2 a1 Ab _ A8.out).mono ?_); rintro e w' ⟨rfl, ⟨nd, rfl⟩⟩; refine ⟨_, rfl, ?_⟩; obtain ⟨hcz25_0, hcz25_1, hcz25_2, hcz25_3, hcz25_4, hcz25_5, hcz25_6, hcz25_7⟩ := xc8 Aa; have hfz25_0 := xf Aa 0; have hfz25_1 := xf Aa 1; have hfz25_2 := xf Aa 2; have hfz25_3 := xf Aa 3; have hfz25_4 := xf Aa 4; have hfz25_5 := xf Aa 5; have hfz25_6 := xf Aa 6; have hfz25_7 := xf Aa 7) | (go_at_call 52; (with_reducible refine (aq kj2 a1 (⟨#[64]⟩ : ByteArray) Ap _ A24.out).mono ?_); rintro e w' ⟨rfl, ⟨nd, rfl⟩⟩))
           go_ret
           exact ⟨xre, xbl⟩
          ·
           rw [if_neg c23] at H
           clear c23
           by_cases c26 : a0 = 5
           ·
            subst c26
            rw [if_pos rfl] at H
            replace H := Option.bind_eq_some_iff.mp H
            obtain ⟨Aq, A270, H⟩ := H
            try dsimp only at H
            have A27 := Zz.mk A270
            clear A270
            obtain rfl := Option.some.inj H
            go_wp2_with (first | ((with_reducible refine ae (f := 34) rfl ?_); refine xgl 14 Tryd.func34 #[.int .u8 a1] ?_; (with_reducible refine (aT kj2 a1 Ab _ A8.out).mono ?_); rintro e w' ⟨rfl, ⟨nd, rfl⟩⟩; refine ⟨_, rfl, ?_⟩; obtain ⟨hcz28_0, hcz28_1, hcz28_2, hcz28_3, hcz28_4, hcz28_5, hcz28_6, hcz28_7⟩ := xc8 Aa; have hfz28_0 := xf Aa 0; have hfz28_1 := xf Aa 1; have hfz28_2 := xf Aa 2; have hfz28_3 := xf Aa 3; have hfz28_4 := xf Aa 4; have hfz28_5 := xf Aa 5; have hfz28_6 := xf Aa 6; have hfz28_7 := xf Aa 7) | (go_at_call 52; (with_reducible refine (aq kj2 a1 (⟨#[58, 64, 47]⟩ : ByteArray) Aq _ A27.out).mono ?_); rintro e w' ⟨rfl, ⟨nd, rfl⟩⟩))
            go_ret
            exact ⟨xre, xbl⟩
           ·
            rw [if_neg c26] at H
            clear c26
            by_cases c29 : a0 = 6
            ·
             subst c29
             rw [if_pos rfl] at H
             replace H := Option.bind_eq_some_iff.mp H
             obtain ⟨Ar, A300, H⟩ := H
             try dsimp only at H
             have A30 := Zz.mk A300
             clear A300
             obtain rfl := Option.some.inj H
             go_wp2_with (first | ((with_reducible refine ae (f := 34) rfl ?_); refine xgl 14 Tryd.func34 #[.int .u8 a1] ?_; (with_reducible refine (aT kj2 a1 Ab _ A8.out).mono ?_); rintro e w' ⟨rfl, ⟨nd, rfl⟩⟩; refine ⟨_, rfl, ?_⟩; obtain ⟨hcz31_0, hcz31_1, hcz31_2, hcz31_3, hcz31_4, hcz31_5, hcz31_6, hcz31_7⟩ := xc8 Aa; have hfz31_0 := xf Aa 0; have hfz31_1 := xf Aa 1; have hfz31_2 := xf Aa 2; have hfz31_3 := xf Aa 3; have hfz31_4 := xf Aa 4; have hfz31_5 := xf Aa 5; have hfz31_6 := xf Aa 6; have hfz31_7 := xf Aa 7) | (go_at_call 52; (with_reducible refine (aq kj2 a1 (⟨#[58, 64, 47, 63]⟩ : ByteArray) Ar _ A30.out).mono ?_); rintro e w' ⟨rfl, ⟨nd, rfl⟩⟩))
             go_ret
             exact ⟨xre, xbl⟩
            ·
             rw [if_neg c29] at H
             clear c29
             by_cases c32 : a0 = 7
             ·
              subst c32
              rw [if_pos rfl] at H
              replace H := Option.bind_eq_some_iff.mp H
              obtain ⟨As, A330, H⟩ := H
              try dsimp only at H
              have A33 := Zz.mk A330
              clear A330
              obtain rfl := Option.some.inj H
              go_wp2_with (first | ((with_reducible refine ae (f := 34) rfl ?_); refine xgl 14 Tryd.func34 #[.int .u8 a1] ?_; (with_reducible refine (aT kj2 a1 Ab _ A8.out).mono ?_); rintro e w' ⟨rfl, ⟨nd, rfl⟩⟩; refine ⟨_, rfl, ?_⟩; obtain ⟨hcz34_0, hcz34_1, hcz34_2, hcz34_3, hcz34_4, hcz34_5, hcz34_6, hcz34_7⟩ := xc8 Aa; have hfz34_0 := xf Aa 0; have hfz34_1 := xf Aa 1; have hfz34_2 := xf Aa 2; have hfz34_3 := xf Aa 3; have hfz34_4 := xf Aa 4; have hfz34_5 := xf Aa 5; have hfz34_6 := xf Aa 6; have hfz34_7 := xf Aa 7) | (go_at_call 52; (with_reducible refine (aq kj2 a1 (⟨#[58, 64, 47, 63]⟩ : ByteArray) As _ A33.out).mono ?_); rintro e w' ⟨rfl, ⟨nd, rfl⟩⟩))
              go_ret
              exact ⟨xre, xbl⟩
             ·
              rw [if_neg c32] at H
              clear c32
              exact absurd H (by simp)
     ·
      rw [if_neg c10] at H
      exact absurd H (by simp)
    ·
     rw [if_neg c9] at H
     have Aj : ((Go.bits .and .i64 Ab 15) == 0) = false := beq_eq_false_iff_ne.mpr c9
     have Ak : ((Go.bits .and .i64 Ab 15) != 0) = true := bne_iff_ne.mpr c9
     obtain rfl := Option.some.inj H
     go_wp2_with (first | ((with_reducible refine ae (f := 34) rfl ?_); refine xgl 14 Tryd.func34 #[.int .u8 a1] ?_; (with_reducible refine (aT kj2 a1 Ab _ A8.out).mono ?_); rintro e w' ⟨rfl, ⟨nd, rfl⟩⟩; refine ⟨_, rfl, ?_⟩))
     go_ret
     exact ⟨xre, xbl⟩
mutual
def al : Nat → Int → Bool → Option (Bool)
  | 0, _, _ => none
  | k + 1, x0, x25 => if x25 = true then (some true) else (ba k x0 1)
def ba : Nat → Int → Int → Option (Bool)
  | 0, _, _ => none
  | k + 1, x0, x3 => if x3 ≤ 13 then (if x0 ≥ (wrap64 (x3 * 65536)) then (if x0 ≤ (wrap64 ((wrap64 (x3 * 65536)) + 65533)) then (some true) else (ba k x0 (wrap64 (x3 + 1)))) else (ba k x0 (wrap64 (x3 + 1)))) else (if x0 ≥ 921600 then (some (decide (x0 ≤ 983037))) else (some false))
end
def db (k : Nat) (a0 : Int) : Option (Bool) := if a0 ≥ 160 then (if a0 ≤ 55295 then (al k a0 true) else (if a0 ≥ 63744 then (if a0 ≤ 64975 then (al k a0 true) else (if a0 ≥ 65008 then (al k a0 (decide (a0 ≤ 65519))) else (al k a0 false))) else (if a0 ≥ 65008 then (al k a0 (decide (a0 ≤ 65519))) else (al k a0 false)))) else (if a0 ≥ 63744 then (if a0 ≤ 64975 then (al k a0 true) else (if a0 ≥ 65008 then (al k a0 (decide (a0 ≤ 65519))) else (al k a0 false))) else (if a0 ≥ 65008 then (al k a0 (decide (a0 ≤ 65519))) else (al k a0 false)))
theorem dk (k : Nat) (a0 : Int) (r : Bool) (w : World) (h : db k a0 = some r) :
    Calls Tryd.prog 69 #[.int .i64 a0] w fun e w' => e = .returned (.bool r) ∧ Drawn0 w w' := by
 have H : (if a0 ≥ 160 then (if a0 ≤ 55295 then (al k a0 true) else (if a0 ≥ 63744 then (if a0 ≤ 64975 then (al k a0 true) else (if a0 ≥ 65008 then (al k a0 (decide (a0 ≤ 65519))) else (al k a0 false))) else (if a0 ≥ 65008 then (al k a0 (decide (a0 ≤ 65519))) else (al k a0 false)))) else (if a0 ≥ 63744 then (if a0 ≤ 64975 then (al k a0 true) else (if a0 ≥ 65008 then (al k a0 (decide (a0 ≤ 65519))) else (al k a0 false))) else (if a0 ≥ 65008 then (al k a0 (decide (a0 ≤ 65519))) else (al k a0 false)))) = some r := h
 clear h
 have Ak := Zz.mk H
 clear H
 go_enter Tryd.func69, Tryd.ntmps69
 go_upto_region 1 with (fail)
 go_cut [25] (fun v25 wc => ∃ (kq : Nat) (Ab : Bool), v25 = .bool Ab ∧ Zz (al kq a0 Ab = some r) ∧ Zz (kq ≤ k) ∧ Drawn0 w wc)
 case first =>
  have H := Ak.out
  clear Ak
  by_cases c3 : a0 ≥ 160
  ·
   rw [if_pos c3] at H
   have Ac := decide_eq_true c3
   clear c3
   (first | rw [Ac] | (simp only [ap, aw]; rw [Ac]) | (rw [Al]; (try simp only [Bool.not_false, Bool.not_true])) | (rw [Am]; (try simp only [Bool.not_false, Bool.not_true])) | skip)
   by_cases c4 : a0 ≤ 55295
   ·
    rw [if_pos c4] at H
    have An := decide_eq_true c4
    clear c4
    have H' := Zz.mk H
    clear H
    go_wp2
    go_meet
    case rel => exact ⟨_, (true), xrr, H', ⟨xom⟩, xdr⟩
   ·
    rw [if_neg c4] at H
    have An := decide_eq_false c4
    clear c4
    by_cases c5 : a0 ≥ 63744
    ·
     rw [if_pos c5] at H
     have Ao := decide_eq_true c5
     clear c5
     by_cases c6 : a0 ≤ 64975
     ·
      rw [if_pos c6] at H
      have Ap := decide_eq_true c6
      clear c6
      have H' := Zz.mk H
      clear H
      go_wp2
      go_meet
      case rel => exact ⟨_, (true), xrr, H', ⟨xom⟩, xdr⟩
     ·
      rw [if_neg c6] at H
      have Ap := decide_eq_false c6
      clear c6
      by_cases c7 : a0 ≥ 65008
      ·
       rw [if_pos c7] at H
       have Aq := decide_eq_true c7
       clear c7
       have H' := Zz.mk H
       clear H
       go_wp2
       go_meet
       case rel => exact ⟨_, (decide (a0 ≤ 65519)), xrr, H', ⟨xom⟩, xdr⟩
      ·
       rw [if_neg c7] at H
       have Aq := decide_eq_false c7
       clear c7
       have H' := Zz.mk H
       clear H
       go_wp2
       go_meet
       case rel => exact ⟨_, (false), xrr, H', ⟨xom⟩, xdr⟩
    ·
     rw [if_neg c5] at H
     have Ao := decide_eq_false c5
     clear c5
     by_cases c8 : a0 ≥ 65008
     ·
      rw [if_pos c8] at H
      have Ar := decide_eq_true c8
      clear c8
      have H' := Zz.mk H
      clear H
      go_wp2
      go_meet
      case rel => exact ⟨_, (decide (a0 ≤ 65519)), xrr, H', ⟨xom⟩, xdr⟩
     ·
      rw [if_neg c8] at H
      have Ar := decide_eq_false c8
      clear c8
      have H' := Zz.mk H
      clear H
      go_wp2
      go_meet
      case rel => exact ⟨_, (false), xrr, H', ⟨xom⟩, xdr⟩
  ·
   rw [if_neg c3] at H
   have Ac := decide_eq_false c3
   clear c3
   (first | rw [Ac] | (simp only [ap, aw]; rw [Ac]) | (rw [Al]; (try simp only [Bool.not_false, Bool.not_true])) | (rw [Am]; (try simp only [Bool.not_false, Bool.not_true])) | skip)
   by_cases c9 : a0 ≥ 63744
   ·
    rw [if_pos c9] at H
    have As := decide_eq_true c9
    clear c9
    by_cases c10 : a0 ≤ 64975
    ·
     rw [if_pos c10] at H
     have Ad := decide_eq_true c10
     clear c10
     have H' := Zz.mk H
     clear H
     go_wp2
     go_meet
     case rel => exact ⟨_, (true), xrr, H', ⟨xom⟩, xdr⟩
    ·
     rw [if_neg c10] at H
     have Ad := decide_eq_false c10
     clear c10
     by_cases c11 : a0 ≥ 65008
     ·
      rw [if_pos c11] at H
      have Ae := decide_eq_true c11
      clear c11
      have H' := Zz.mk H
      clear H
      go_wp2
      go_meet
      case rel => exact ⟨_, (decide (a0 ≤ 65519)), xrr, H', ⟨xom⟩, xdr⟩
     ·
      rw [if_neg c11] at H
      have Ae := decide_eq_false c11
      clear c11
      have H' := Zz.mk H
      clear H
      go_wp2
      go_meet
      case rel => exact ⟨_, (false), xrr, H', ⟨xom⟩, xdr⟩
   ·
    rw [if_neg c9] at H
    have As := decide_eq_false c9
    clear c9
    by_cases c12 : a0 ≥ 65008
    ·
     rw [if_pos c12] at H
     have Af := decide_eq_true c12
     clear c12
     have H' := Zz.mk H
     clear H
     go_wp2
     go_meet
     case rel => exact ⟨_, (decide (a0 ≤ 65519)), xrr, H', ⟨xom⟩, xdr⟩
    ·
     rw [if_neg c12] at H
     have Af := decide_eq_false c12
     clear c12
     have H' := Zz.mk H
     clear H
     go_wp2
     go_meet
     case rel => exact ⟨_, (false), xrr, H', ⟨xom⟩, xdr⟩
 case rest =>
  clear Ak
  obtain ⟨kq, Ab, rfl, HA, HJ1, ⟨mc1, rfl⟩⟩ := hcut
  cases kq with
  | zero => exact absurd HA.out (by simp [al])
  | succ kj1 =>
   have H := HA.out
   clear HA
   simp only [al] at H
   by_cases c13 : Ab = true
   ·
    subst c13
    rw [if_pos rfl] at H
    obtain rfl := Option.some.inj H
    go_wp2
    go_ret
    exact ⟨xrr, xdr⟩
   ·
    replace c13 := Bool.eq_false_iff.mpr c13
    subst c13
    rw [if_neg (show ¬ (false = true) by decide)] at H
    have H' := Zz.mk H
    clear H
    go_wp2
    go_loopg [3] kj1 (fun kq v3 w' => ∃ (Aa : Int), v3 = .int .i64 Aa ∧ Zz (ba kq a0 Aa = some r) ∧ Zz (kq ≤ kj1) ∧ Drawn0 w w')
    case atStart => exact ⟨(1), xrr, H', ⟨Nat.le_refl _⟩, xdr⟩
    case round =>
     clear H'
     obtain ⟨Aa, rfl, HA, HK2, ⟨m2, rfl⟩⟩ := hrel
     cases gk with
     | zero => exact absurd HA.out (by simp [ba])
     | succ k2 =>
      have H := HA.out
      clear HA
      simp only [ba] at H
      by_cases c14 : Aa ≤ 13
      ·
       rw [if_pos c14] at H
       have Ag := decide_eq_true c14
       clear c14
       by_cases c15 : a0 ≥ (wrap64 (Aa * 65536))
       ·
        rw [if_pos c15] at H
        have Ah := decide_eq_true c15
        clear c15
        by_cases c16 : a0 ≤ (wrap64 ((wrap64 (Aa * 65536)) + 65533))
        ·
         rw [if_pos c16] at H
         have Ai := decide_eq_true c16
         clear c16
         obtain rfl := Option.some.inj H
         go_wp2
         go_ret
         exact ⟨xrr, xdr⟩
        ·
         rw [if_neg c16] at H
         have Ai := decide_eq_false c16
         clear c16
         have H' := Zz.mk H
         clear H
         go_wp2
         go_roundg k2
         case measure => have := HJ1.out; have := HK2.out; omega
         case rel => exact ⟨(wrap64 (Aa + 1)), xrr, H', ⟨by have := HJ1.out; have := HK2.out; omega⟩, xdr⟩
       ·
        rw [if_neg c15] at H
        have Ah := decide_eq_false c15
        clear c15
        have H' := Zz.mk H
        clear H
        go_wp2
        go_roundg k2
        case measure => have := HJ1.out; have := HK2.out; omega
        case rel => exact ⟨(wrap64 (Aa + 1)), xrr, H', ⟨by have := HJ1.out; have := HK2.out; omega⟩, xdr⟩
      ·
       rw [if_neg c14] at H
       have Ag := decide_eq_false c14
       clear c14
       by_cases c17 : a0 ≥ 921600
       ·
        rw [if_pos c17] at H
        have Aj := decide_eq_true c17
        clear c17
        obtain rfl := Option.some.inj H
        go_wp2
        go_ret
        exact ⟨xrr, xdr⟩
       ·
        rw [if_neg c17] at H
        have Aj := decide_eq_false c17
        clear c17
        obtain rfl := Option.some.inj H
        go_wp2
        go_ret
        exact ⟨xrr, xdr⟩
def cS (a0 : Int) : Option (Bool) := if a0 ≥ 57344 then (if a0 ≤ 63743 then (some true) else (if a0 ≥ 983040 then (if a0 ≤ 1048573 then (some true) else (if a0 ≥ 1048576 then (some (decide (a0 ≤ 1114109))) else (some false))) else (if a0 ≥ 1048576 then (some (decide (a0 ≤ 1114109))) else (some false)))) else (if a0 ≥ 983040 then (if a0 ≤ 1048573 then (some true) else (if a0 ≥ 1048576 then (some (decide (a0 ≤ 1114109))) else (some false))) else (if a0 ≥ 1048576 then (some (decide (a0 ≤ 1114109))) else (some false)))
theorem fG (a0 : Int) (r : Bool) (w : World) (h : cS a0 = some r) :
    Calls Tryd.prog 70 #[.int .i64 a0] w fun e w' => e = .returned (.bool r) ∧ Drawn0 w w' := by
 have H : (if a0 ≥ 57344 then (if a0 ≤ 63743 then (some true) else (if a0 ≥ 983040 then (if a0 ≤ 1048573 then (some true) else (if a0 ≥ 1048576 then (some (decide (a0 ≤ 1114109))) else (some false))) else (if a0 ≥ 1048576 then (some (decide (a0 ≤ 1114109))) else (some false)))) else (if a0 ≥ 983040 then (if a0 ≤ 1048573 then (some true) else (if a0 ≥ 1048576 then (some (decide (a0 ≤ 1114109))) else (some false))) else (if a0 ≥ 1048576 then (some (decide (a0 ≤ 1114109))) else (some false)))) = some r := h
 clear h
 by_cases c2 : a0 ≥ 57344
 ·
  rw [if_pos c2] at H
  have Ac := decide_eq_true c2
  clear c2
  by_cases c3 : a0 ≤ 63743
  ·
   rw [if_pos c3] at H
   have Ad := decide_eq_true c3
   clear c3
   obtain rfl := Option.some.inj H
   go_enter Tryd.func70, Tryd.ntmps70
   go_wp2
   go_ret
   exact ⟨xrr, xdr⟩
  ·
   rw [if_neg c3] at H
   have Ad := decide_eq_false c3
   clear c3
   by_cases c4 : a0 ≥ 983040
   ·
    rw [if_pos c4] at H
    have Ae := decide_eq_true c4
    clear c4
    by_cases c5 : a0 ≤ 1048573
    ·
     rw [if_pos c5] at H
     have Af := decide_eq_true c5
     clear c5
     obtain rfl := Option.some.inj H
     go_enter Tryd.func70, Tryd.ntmps70
     go_wp2
     go_ret
     exact ⟨xrr, xdr⟩
    ·
     rw [if_neg c5] at H
     have Af := decide_eq_false c5
     clear c5
     by_cases c6 : a0 ≥ 1048576
     ·
      rw [if_pos c6] at H
      have Ag := decide_eq_true c6
      clear c6
      obtain rfl := Option.some.inj H
      go_enter Tryd.func70, Tryd.ntmps70
      go_wp2
      go_ret
      exact ⟨xrr, xdr⟩
     ·
      rw [if_neg c6] at H
      have Ag := decide_eq_false c6
      clear c6
      obtain rfl := Option.some.inj H
      go_enter Tryd.func70, Tryd.ntmps70
      go_wp2
      go_ret
      exact ⟨xrr, xdr⟩
   ·
    rw [if_neg c4] at H
    have Ae := decide_eq_false c4
    clear c4
    by_cases c7 : a0 ≥ 1048576
    ·
     rw [if_pos c7] at H
     have Ah := decide_eq_true c7
     clear c7
     obtain rfl := Option.some.inj H
     go_enter Tryd.func70, Tryd.ntmps70
     go_wp2
     go_ret
     exact ⟨xrr, xdr⟩
    ·
     rw [if_neg c7] at H
     have Ah := decide_eq_false c7
     clear c7
     obtain rfl := Option.some.inj H
     go_enter Tryd.func70, Tryd.ntmps70
     go_wp2
     go_ret
     exact ⟨xrr, xdr⟩
 ·
  rw [if_neg c2] at H
  have Ac := decide_eq_false c2
  clear c2
  by_cases c8 : a0 ≥ 983040
  ·
   rw [if_pos c8] at H
   have Ai := decide_eq_true c8
   clear c8
   by_cases c9 : a0 ≤ 1048573
   ·
    rw [if_pos c9] at H
    have Aj := decide_eq_true c9
    clear c9
    obtain rfl := Option.some.inj H
    go_enter Tryd.func70, Tryd.ntmps70
    go_wp2
    go_ret
    exact ⟨xrr, xdr⟩
   ·
    rw [if_neg c9] at H
    have Aj := decide_eq_false c9
    clear c9
    by_cases c10 : a0 ≥ 1048576
    ·
     rw [if_pos c10] at H
     have Aa := decide_eq_true c10
     clear c10
     obtain rfl := Option.some.inj H
     go_enter Tryd.func70, Tryd.ntmps70
     go_wp2
     go_ret
     exact ⟨xrr, xdr⟩
    ·
     rw [if_neg c10] at H
     have Aa := decide_eq_false c10
     clear c10
     obtain rfl := Option.some.inj H
     go_enter Tryd.func70, Tryd.ntmps70
     go_wp2
     go_ret
     exact ⟨xrr, xdr⟩
  ·
   rw [if_neg c8] at H
   have Ai := decide_eq_false c8
   clear c8
   by_cases c11 : a0 ≥ 1048576
   ·
    rw [if_pos c11] at H
    have Ab := decide_eq_true c11
    clear c11
    obtain rfl := Option.some.inj H
    go_enter Tryd.func70, Tryd.ntmps70
    go_wp2
    go_ret
    exact ⟨xrr, xdr⟩
   ·
    rw [if_neg c11] at H
    have Ab := decide_eq_false c11
    clear c11
    obtain rfl := Option.some.inj H
    go_enter Tryd.func70, Tryd.ntmps70
    go_wp2
    go_ret
    exact ⟨xrr, xdr⟩
mutual
def bN : Nat → Int → Bool → Int → Bool → Option (Bool)
  | 0, _, _, _, _ => none
  | k + 1, x0, x1, x2, x12 => if x12 = true then ((bs k x0 ((x2) % 256)).bind fun t221 => (some t221)) else (if x1 = true then (if x0 < 1 then (bA k x0 x2 true) else (bA k x0 x2 (decide (x0 > 7)))) else (bA k x0 x2 true))
def bA : Nat → Int → Int → Bool → Option (Bool)
  | 0, _, _, _ => none
  | k + 1, x0, x2, x26 => if x26 = true then (some false) else ((db k x2).bind fun t222 => (if t222 = true then (some true) else (if x0 = 6 then ((cS x2).bind fun t223 => (some t223)) else (some false))))
end
def dJ (k : Nat) (a0 : Int) (a1 : Bool) (a2 : Int) : Option (Bool) := if a2 ≥ 0 then (bN k a0 a1 a2 (decide (a2 < 128))) else (bN k a0 a1 a2 false)
theorem eH (k : Nat) (a0 : Int) (a1 : Bool) (a2 : Int) (r : Bool) (w : World) (h : dJ k a0 a1 a2 = some r) :
    Calls Tryd.prog 46 #[.int .i64 a0, .bool a1, .int .i64 a2] w fun e w' => e = .returned (.bool r) ∧ Below w.heap.size w w' := by
 have HB := Zz.mk (Below.refl w.heap.size w)
 have H : (if a2 ≥ 0 then (bN k a0 a1 a2 (decide (a2 < 128))) else (bN k a0 a1 a2 false)) = some r := h
 clear h
 have Ai := Zz.mk H
 clear H
 go_enter Tryd.func46, Tryd.ntmps46
 go_upto_region 1 with (fail)
 go_cut [12] (fun v12 wc => ∃ (kq : Nat) (Ab : Bool), v12 = .bool Ab ∧ Zz (bN kq a0 a1 a2 Ab = some r) ∧ Zz (kq ≤ k) ∧ Zz (Below w.heap.size w wc))
 case first =>
  have H := Ai.out
  clear Ai
  by_cases c5 : a2 ≥ 0
  ·
   rw [if_pos c5] at H
   have Ad := decide_eq_true c5
   clear c5
   (first | rw [Ad] | (simp only [ap, aw]; rw [Ad]) | (rw [Aj]; (try simp only [Bool.not_false, Bool.not_true])) | (rw [Ak]; (try simp only [Bool.not_false, Bool.not_true])) | skip)
   have H' := Zz.mk H
   clear H
   go_wp2
   go_meet
   case rel => exact ⟨_, (decide (a2 < 128)), xrr, H', ⟨xom⟩, ⟨xbl⟩⟩
  ·
   rw [if_neg c5] at H
   have Ad := decide_eq_false c5
   clear c5
   (first | rw [Ad] | (simp only [ap, aw]; rw [Ad]) | (rw [Aj]; (try simp only [Bool.not_false, Bool.not_true])) | (rw [Ak]; (try simp only [Bool.not_false, Bool.not_true])) | skip)
   have H' := Zz.mk H
   clear H
   go_wp2
   go_meet
   case rel => exact ⟨_, (false), xrr, H', ⟨xom⟩, ⟨xbl⟩⟩
 case rest =>
  clear Ai
  obtain ⟨kq, Ab, rfl, HA, HJ3, HB⟩ := hcut
  cases kq with
  | zero => exact absurd HA.out (by simp [bN])
  | succ kj3 =>
   have H := HA.out
   clear HA
   simp only [bN] at H
   by_cases c6 : Ab = true
   ·
    subst c6
    rw [if_pos rfl] at H
    replace H := Option.bind_eq_some_iff.mp H
    obtain ⟨Al, A70, H⟩ := H
    try dsimp only at H
    have A7 := Zz.mk A70
    clear A70
    obtain rfl := Option.some.inj H
    go_wp2_with (first | ((with_reducible refine ae (f := 68) rfl ?_); refine xgl 16 Tryd.func68 #[.int .i64 a0, .int .u8 ((a2) % 256)] ?_; (with_reducible refine (gc kj3 a0 ((a2) % 256) Al _ A7.out).mono ?_); rintro e w8 ⟨rfl, hb⟩; refine ⟨_, rfl, ?_⟩; replace HB := xst hb; (try clear hb)))
    go_ret
    exact ⟨xre, xbl⟩
   ·
    replace c6 := Bool.eq_false_iff.mpr c6
    subst c6
    rw [if_neg (show ¬ (false = true) by decide)] at H
    have Am := Zz.mk H
    clear H
    go_upto_region 3 with (fail)
    go_cut [26] (fun v26 wc => ∃ (kq : Nat) (Ac : Bool), v26 = .bool Ac ∧ Zz (bA kq a0 a2 Ac = some r) ∧ Zz (kq ≤ kj3) ∧ Zz (Below w.heap.size w wc))
    case first =>
     have H := Am.out
     clear Am
     by_cases c10 : a1 = true
     ·
      subst c10
      rw [if_pos rfl] at H
      by_cases c11 : a0 < 1
      ·
       rw [if_pos c11] at H
       have Aa := decide_eq_true c11
       clear c11
       (first | rw [Aa] | (simp only [ap, aw]; rw [Aa]) | (rw [Ae]; (try simp only [Bool.not_false, Bool.not_true])) | (rw [Af]; (try simp only [Bool.not_false, Bool.not_true])) | skip)
       have H' := Zz.mk H
       clear H
       go_wp2
       go_meet
       case rel => exact ⟨_, (true), xrr, H', ⟨by have := HJ3.out; first | omega | exact Nat.le_refl _⟩, ⟨xbl⟩⟩
      ·
       rw [if_neg c11] at H
       have Aa := decide_eq_false c11
       clear c11
       (first | rw [Aa] | (simp only [ap, aw]; rw [Aa]) | (rw [Ae]; (try simp only [Bool.not_false, Bool.not_true])) | (rw [Af]; (try simp only [Bool.not_false, Bool.not_true])) | skip)
       have H' := Zz.mk H
       clear H
       go_wp2
       go_meet
       case rel => exact ⟨_, (decide (a0 > 7)), xrr, H', ⟨by have := HJ3.out; first | omega | exact Nat.le_refl _⟩, ⟨xbl⟩⟩
     ·
      replace c10 := Bool.eq_false_iff.mpr c10
      subst c10
      rw [if_neg (show ¬ (false = true) by decide)] at H
      have H' := Zz.mk H
      clear H
      go_wp2
      go_meet
      case rel => exact ⟨_, (true), xrr, H', ⟨by have := HJ3.out; first | omega | exact Nat.le_refl _⟩, ⟨xbl⟩⟩
    case rest =>
     clear Am
     obtain ⟨kq, Ac, rfl, HA, HJ8, HB⟩ := hcut
     cases kq with
     | zero => exact absurd HA.out (by simp [bA])
     | succ kj8 =>
      have H := HA.out
      clear HA
      simp only [bA] at H
      by_cases c12 : Ac = true
      ·
       subst c12
       rw [if_pos rfl] at H
       obtain rfl := Option.some.inj H
       go_wp2
       go_ret
       exact ⟨xre, xbl⟩
      ·
       replace c12 := Bool.eq_false_iff.mpr c12
       subst c12
       rw [if_neg (show ¬ (false = true) by decide)] at H
       replace H := Option.bind_eq_some_iff.mp H
       obtain ⟨An, A130, H⟩ := H
       try dsimp only at H
       have A13 := Zz.mk A130
       clear A130
       by_cases c14 : An = true
       ·
        subst c14
        rw [if_pos rfl] at H
        obtain rfl := Option.some.inj H
        go_wp2_with (first | ((with_reducible refine ae (f := 69) rfl ?_); refine xgl 28 Tryd.func69 #[.int .i64 a2] ?_; (with_reducible refine (dk kj8 a2 true _ A13.out).mono ?_); rintro e w' ⟨rfl, ⟨nd, rfl⟩⟩; refine ⟨_, rfl, ?_⟩))
        go_ret
        exact ⟨xre, xbl⟩
       ·
        replace c14 := Bool.eq_false_iff.mpr c14
        subst c14
        rw [if_neg (show ¬ (false = true) by decide)] at H
        by_cases c15 : a0 = 6
        ·
         rw [if_pos c15] at H
         have Ag : (a0 == 6) = true := beq_iff_eq.mpr c15
         have Ah : (a0 != 6) = false := bne_eq_false_iff_eq.mpr c15
         clear c15
         replace H := Option.bind_eq_some_iff.mp H
         obtain ⟨Ao, A160, H⟩ := H
         try dsimp only at H
         have A16 := Zz.mk A160
         clear A160
         obtain rfl := Option.some.inj H
         go_wp2_with (first | ((with_reducible refine ae (f := 69) rfl ?_); refine xgl 28 Tryd.func69 #[.int .i64 a2] ?_; (with_reducible refine (dk kj8 a2 false _ A13.out).mono ?_); rintro e w' ⟨rfl, ⟨nd, rfl⟩⟩; refine ⟨_, rfl, ?_⟩) | (go_at_call 70; (with_reducible refine (fG a2 Ao _ A16.out).mono ?_); rintro e w' ⟨rfl, ⟨nd, rfl⟩⟩))
         go_ret
         exact ⟨xre, xbl⟩
        ·
         rw [if_neg c15] at H
         have Ag : (a0 == 6) = false := beq_eq_false_iff_ne.mpr c15
         have Ah : (a0 != 6) = true := bne_iff_ne.mpr c15
         obtain rfl := Option.some.inj H
         go_wp2_with (first | ((with_reducible refine ae (f := 69) rfl ?_); refine xgl 28 Tryd.func69 #[.int .i64 a2] ?_; (with_reducible refine (dk kj8 a2 false _ A13.out).mono ?_); rintro e w' ⟨rfl, ⟨nd, rfl⟩⟩; refine ⟨_, rfl, ?_⟩))
         go_ret
         exact ⟨xre, xbl⟩
def bg : Nat → Int → Bool → ByteArray → Int → Bool → Option (Int)
  | 0, _, _, _, _, _ => none
  | k + 1, x0, x1, x2, x3, Ad => if Ad = true then (some 0) else ((df k x2 x3).bind fun Ab => (if Ab ≥ 0 then (some 3) else (if 0 ≤ x3 then (if x3 ≤ (x2.size : Int) then ((da k (x2.extract (x3 : Int).toNat x2.size)).bind fun Aa => (if Aa.2.2 = true then ((dJ k x0 x1 Aa.1).bind fun Ac => (if Ac = true then (some Aa.2.1) else (some 0))) else (some 0))) else (none)) else (none))))
def cP (k : Nat) (a0 : Int) (a1 : Bool) (a2 : ByteArray) (a3 : Int) : Option (Int) := if a0 < 1 then (bg k a0 a1 a2 a3 true) else (bg k a0 a1 a2 a3 (decide (a0 > 7)))
theorem dE (k : Nat) (a0 : Int) (a1 : Bool) (a2 : ByteArray) (a3 : Int) (r : Int) (w : World) (h : cP k a0 a1 a2 a3 = some r) :
    Calls Tryd.prog 28 #[.int .i64 a0, .bool a1, .string a2, .int .i64 a3] w fun e w' => e = .returned (.int .i64 r) ∧ Below w.heap.size w w' := by
 have hu64 := Tryd.underlying64
 have HB := Zz.mk (Below.refl w.heap.size w)
 have H : (if a0 < 1 then (bg k a0 a1 a2 a3 true) else (bg k a0 a1 a2 a3 (decide (a0 > 7)))) = some r := h
 clear h
 have Am := Zz.mk H
 clear H
 go_enter Tryd.func28, Tryd.ntmps28
 go_upto_region 1 with (fail)
 go_cut [15] (fun v15 wc => ∃ (kq : Nat) (Ae : Bool), v15 = .bool Ae ∧ Zz (bg kq a0 a1 a2 a3 Ae = some r) ∧ Zz (kq ≤ k) ∧ Zz (Below w.heap.size w wc))
 case first =>
  have H := Am.out
  clear Am
  by_cases c6 : a0 < 1
  ·
   rw [if_pos c6] at H
   have Ah := decide_eq_true c6
   clear c6
   (first | rw [Ah] | (simp only [ap, aw]; rw [Ah]) | (rw [An]; (try simp only [Bool.not_false, Bool.not_true])) | (rw [Ao]; (try simp only [Bool.not_false, Bool.not_true])) | skip)
   have H' := Zz.mk H
   clear H
   go_wp2
   go_meet
   case rel => exact ⟨_, (true), xrr, H', ⟨xom⟩, ⟨xbl⟩⟩
  ·
   rw [if_neg c6] at H
   have Ah := decide_eq_false c6
   clear c6
   (first | rw [Ah] | (simp only [ap, aw]; rw [Ah]) | (rw [An]; (try simp only [Bool.not_false, Bool.not_true])) | (rw [Ao]; (try simp only [Bool.not_false, Bool.not_true])) | skip)
   have H' := Zz.mk H
   clear H
   go_wp2
   go_meet
   case rel => exact ⟨_, (decide (a0 > 7)), xrr, H', ⟨xom⟩, ⟨xbl⟩⟩
 case rest =>
  clear Am
  obtain ⟨kq, Ae, rfl, HA, HJ4, HB⟩ := hcut
  cases kq with
  | zero => exact absurd HA.out (by simp [bg])
  | succ kj4 =>
   have H := HA.out
   clear HA
   simp only [bg] at H
   by_cases c7 : Ae = true
   ·
    subst c7
    rw [if_pos rfl] at H
    obtain rfl := Option.some.inj H
    go_wp2
    go_ret
    exact ⟨xre, xbl⟩
   ·
    replace c7 := Bool.eq_false_iff.mpr c7
    subst c7
    rw [if_neg (show ¬ (false = true) by decide)] at H
    replace H := Option.bind_eq_some_iff.mp H
    obtain ⟨Ai, A80, H⟩ := H
    try dsimp only at H
    have A8 := Zz.mk A80
    clear A80
    by_cases c9 : Ai ≥ 0
    ·
     rw [if_pos c9] at H
     have Ap := decide_eq_true c9
     clear c9
     obtain rfl := Option.some.inj H
     go_wp2_with (first | ((with_reducible refine ae (f := 44) rfl ?_); refine xgl 18 Tryd.func44 #[.string a2, .int .i64 a3] ?_; (with_reducible refine (ce kj4 a2 a3 Ai _ A8.out).mono ?_); rintro e w' ⟨rfl, ⟨nd, rfl⟩⟩; refine ⟨_, rfl, ?_⟩))
     go_ret
     exact ⟨xre, xbl⟩
    ·
     rw [if_neg c9] at H
     have Ap := decide_eq_false c9
     clear c9
     by_cases c10 : 0 ≤ a3
     ·
      rw [if_pos c10] at H
      have As := eq_true c10
      have At := decide_eq_true c10
      clear c10
      by_cases c11 : a3 ≤ (a2.size : Int)
      ·
       rw [if_pos c11] at H
       have Au := eq_true c11
       have Av := decide_eq_true c11
       clear c11
       obtain ⟨Ag, Ab⟩ : ∃ j_ : ByteArray, (a2.extract (a3 : Int).toNat a2.size) = j_ := ⟨_, rfl⟩
       try (have Al := Ab; simp only [Int.toNat_natCast] at Al)
       first | rw [Ab] at H | simp only [Ab] at H | skip
       (try rw [Ab] at A8)
       replace H := Option.bind_eq_some_iff.mp H
       obtain ⟨⟨Ad, Aj, Aq⟩, A130, H⟩ := H
       try dsimp only at H
       have A13 := Zz.mk A130
       clear A130
       by_cases c14 : Aq = true
       ·
        subst c14
        rw [if_pos rfl] at H
        replace H := Option.bind_eq_some_iff.mp H
        obtain ⟨Ar, A150, H⟩ := H
        try dsimp only at H
        have A15 := Zz.mk A150
        clear A150
        by_cases c16 : Ar = true
        ·
         subst c16
         rw [if_pos rfl] at H
         obtain rfl := Option.some.inj H
         go_wp2_with (first | ((with_reducible refine ae (f := 44) rfl ?_); refine xgl 18 Tryd.func44 #[.string a2, .int .i64 a3] ?_; (with_reducible refine (ce kj4 a2 a3 Ai _ A8.out).mono ?_); rintro e w' ⟨rfl, ⟨nd, rfl⟩⟩; refine ⟨_, rfl, ?_⟩; (try (rw [fO wc]; generalize hq_ : World.drewN wc _ = wc; have n0_ : Zz (Below w.heap.size w wc) := ⟨by rw [← hq_]; exact xbl⟩; clear HB hq_; have HB := n0_; clear n0_))) | ((with_reducible refine ae (f := 45) rfl ?_); refine dI (some 23) rfl rfl Tryd.func45 (by kernel_rfl) rfl #[.string Ag] rfl (by (try simp only [List.map_toArray, List.map_cons, List.map_nil]); first | done | (simp only [Ab]; rfl) | rfl | (simp only [List.length_drop, List.length_take]; rfl)) ?_; (with_reducible refine (dj kj4 Ag Ad Aj true _ A13.out).mono ?_); rintro e w17 ⟨rfl, hb⟩; refine ⟨_, rfl, ?_⟩; replace HB := xst hb; (try clear hb)) | ((with_reducible refine an (N := 9) rfl ?_); refine xev 9 #[.int .i64 0, .int .i64 0, .bool false] 64 ?_; intro Af hg w18 hbox hb; have Aa := Zz.mk (hbox); have Ac := xsz hg; have Ak := Ac; replace HB := xst hb; clear hb hbox hg; obtain ⟨hcz19_0, hcz19_1, hcz19_2⟩ := xc3 Aa; have hfz19_0 := xf Aa 0; have hfz19_1 := xf Aa 1; have hfz19_2 := xf Aa 2) | (go_at_call 46; (with_reducible refine (eH kj4 a0 a1 Ad true _ A15.out).mono ?_); rintro e w20 ⟨rfl, hb⟩; replace Aa := xbb (g := Af) (o := .cells #[.int .i64 Ad, .int .i64 Aj, .bool true] 64 (0, 0)) hb; replace HB := xst hb; (try clear hb); obtain ⟨hcz21_0, hcz21_1, hcz21_2⟩ := xc3 Aa; have hfz21_0 := xf Aa 0; have hfz21_1 := xf Aa 1; have hfz21_2 := xf Aa 2))
         go_ret
         exact ⟨by first | rfl | (simp [au, av] <;> first | rfl | (simp only [bK, bne, Bool.not_not]; done)) | (simp only [← Ab]; first | rfl | (simp [au, av] <;> rfl)) | (simp [*, au, av] <;> rfl), xbl⟩
        ·
         replace c16 := Bool.eq_false_iff.mpr c16
         subst c16
         rw [if_neg (show ¬ (false = true) by decide)] at H
         obtain rfl := Option.some.inj H
         go_wp2_with (first | ((with_reducible refine ae (f := 44) rfl ?_); refine xgl 18 Tryd.func44 #[.string a2, .int .i64 a3] ?_; (with_reducible refine (ce kj4 a2 a3 Ai _ A8.out).mono ?_); rintro e w' ⟨rfl, ⟨nd, rfl⟩⟩; refine ⟨_, rfl, ?_⟩; (try (rw [fO wc]; generalize hq_ : World.drewN wc _ = wc; have n0_ : Zz (Below w.heap.size w wc) := ⟨by rw [← hq_]; exact xbl⟩; clear HB hq_; have HB := n0_; clear n0_))) | ((with_reducible refine ae (f := 45) rfl ?_); refine dI (some 23) rfl rfl Tryd.func45 (by kernel_rfl) rfl #[.string Ag] rfl (by (try simp only [List.map_toArray, List.map_cons, List.map_nil]); first | done | (simp only [Ab]; rfl) | rfl | (simp only [List.length_drop, List.length_take]; rfl)) ?_; (with_reducible refine (dj kj4 Ag Ad Aj true _ A13.out).mono ?_); rintro e w22 ⟨rfl, hb⟩; refine ⟨_, rfl, ?_⟩; replace HB := xst hb; (try clear hb)) | ((with_reducible refine an (N := 9) rfl ?_); refine xev 9 #[.int .i64 0, .int .i64 0, .bool false] 64 ?_; intro Af hg w23 hbox hb; have Aa := Zz.mk (hbox); have Ac := xsz hg; have Ak := Ac; replace HB := xst hb; clear hb hbox hg; obtain ⟨hcz24_0, hcz24_1, hcz24_2⟩ := xc3 Aa; have hfz24_0 := xf Aa 0; have hfz24_1 := xf Aa 1; have hfz24_2 := xf Aa 2) | (go_at_call 46; (with_reducible refine (eH kj4 a0 a1 Ad false _ A15.out).mono ?_); rintro e w25 ⟨rfl, hb⟩; replace Aa := xbb (g := Af) (o := .cells #[.int .i64 Ad, .int .i64 Aj, .bool true] 64 (0, 0)) hb; replace HB := xst hb; (try clear hb)))
         go_ret
         exact ⟨by first | rfl | (simp [au, av] <;> first | rfl | (simp only [bK, bne, Bool.not_not]; done)) | (simp only [← Ab]; first | rfl | (simp [au, av] <;> rfl)) | (simp [*, au, av] <;> rfl), xbl⟩
       ·
        replace c14 := Bool.eq_false_iff.mpr c14
        subst c14
        rw [if_neg (show ¬ (false = true) by decide)] at H
        obtain rfl := Option.some.inj H
        go_wp2_with (first | ((with_reducible refine ae (f := 44) rfl ?_); refine xgl 18 Tryd.func44 #[.string a2, .int .i64 a3] ?_; (with_reducible refine (ce kj4 a2 a3 Ai _ A8.out).mono ?_); rintro e w' ⟨rfl, ⟨nd, rfl⟩⟩; refine ⟨_, rfl, ?_⟩; (try (rw [fO wc]; generalize hq_ : World.drewN wc _ = wc; have n0_ : Zz (Below w.heap.size w wc) := ⟨by rw [← hq_]; exact xbl⟩; clear HB hq_; have HB := n0_; clear n0_))) | ((with_reducible refine ae (f := 45) rfl ?_); refine dI (some 23) rfl rfl Tryd.func45 (by kernel_rfl) rfl #[.string Ag] rfl (by (try simp only [List.map_toArray, List.map_cons, List.map_nil]); first | done | (simp only [Ab]; rfl) | rfl | (simp only [List.length_drop, List.length_take]; rfl)) ?_; (with_reducible refine (dj kj4 Ag Ad Aj false _ A13.out).mono ?_); rintro e w26 ⟨rfl, hb⟩; refine ⟨_, rfl, ?_⟩; replace HB := xst hb; (try clear hb)) | ((with_reducible refine an (N := 9) rfl ?_); refine xev 9 #[.int .i64 0, .int .i64 0, .bool false] 64 ?_; intro Af hg w27 hbox hb; have Aa := Zz.mk (hbox); have Ac := xsz hg; have Ak := Ac; replace HB := xst hb; clear hb hbox hg; obtain ⟨hcz28_0, hcz28_1, hcz28_2⟩ := xc3 Aa; have hfz28_0 := xf Aa 0; have hfz28_1 := xf Aa 1; have hfz28_2 := xf Aa 2))
        go_ret
        exact ⟨by first | rfl | (simp [au, av] <;> first | rfl | (simp only [bK, bne, Bool.not_not]; done)) | (simp only [← Ab]; first | rfl | (simp [au, av] <;> rfl)) | (simp [*, au, av] <;> rfl), xbl⟩
      ·
       rw [if_neg c11] at H
       exact absurd H (by simp)
     ·
      rw [if_neg c10] at H
      exact absurd H (by simp)
def bH : Nat → Int → Bool → ByteArray → Int → Option (Int)
  | 0, _, _, _, _ => none
  | k + 1, x0, x1, x2, x7 => if x7 < (x2.size : Int) then ((cP k x0 x1 x2 x7).bind fun t230 => (if t230 > 0 then ((cP k x0 x1 x2 x7).bind fun t231 => (bH k x0 x1 x2 (wrap64 (x7 + t231)))) else (some x7))) else (some x7)
def cO (k : Nat) (a0 : Int) (a1 : Bool) (a2 : ByteArray) : Option (Int) := bH k a0 a1 a2 0
theorem eB (k : Nat) (a0 : Int) (a1 : Bool) (a2 : ByteArray) (r : Int) (w : World) (h : cO k a0 a1 a2 = some r) :
    Calls Tryd.prog 9 #[.int .i64 a0, .bool a1, .string a2] w fun e w' => e = .returned (.int .i64 r) ∧ Below w.heap.size w w' := by
 have HB := Zz.mk (Below.refl w.heap.size w)
 have H : (bH k a0 a1 a2 0) = some r := h
 clear h
 have H' := Zz.mk H
 clear H
 go_enter Tryd.func9, Tryd.ntmps9
 go_wp2
 go_loopg [7] k (fun kq v7 w' => ∃ (Aa : Int), v7 = .int .i64 Aa ∧ Zz (bH kq a0 a1 a2 Aa = some r) ∧ Zz (kq ≤ k) ∧ Zz (Below w.heap.size w w'))
 case atStart => exact ⟨(0), xrr, H', ⟨Nat.le_refl _⟩, ⟨xbl⟩⟩
 case round =>
  clear H'
  obtain ⟨Aa, rfl, HA, HK1, HB⟩ := hrel
  cases gk with
  | zero => exact absurd HA.out (by simp [bH])
  | succ k1 =>
   have H := HA.out
   clear HA
   simp only [bH] at H
   by_cases c4 : Aa < (a2.size : Int)
   ·
    rw [if_pos c4] at H
    have Ad := decide_eq_true c4
    clear c4
    replace H := Option.bind_eq_some_iff.mp H
    obtain ⟨Ab, A50, H⟩ := H
    try dsimp only at H
    have A5 := Zz.mk A50
    clear A50
    by_cases c6 : Ab > 0
    ·
     rw [if_pos c6] at H
     have Ae := decide_eq_true c6
     clear c6
     replace H := Option.bind_eq_some_iff.mp H
     obtain ⟨Ac, A70, H⟩ := H
     try dsimp only at H
     have A7 := Zz.mk A70
     clear A70
     have H' := Zz.mk H
     clear H
     go_wp2_with (first | (go_at_call 28; (with_reducible refine (dE k1 a0 a1 a2 Aa Ab _ A5.out).mono ?_); rintro e w8 ⟨rfl, hb⟩; replace HB := xst hb; (try clear hb)) | ((with_reducible refine ae (f := 28) rfl ?_); refine xgl 25 Tryd.func28 #[.int .i64 a0, .bool a1, .string a2, .int .i64 Aa] ?_; (with_reducible refine (dE k1 a0 a1 a2 Aa Ac _ A7.out).mono ?_); rintro e w9 ⟨rfl, hb⟩; refine ⟨_, rfl, ?_⟩; replace HB := xst hb; (try clear hb)))
     go_roundg k1
     case measure => have := HK1.out; omega
     case rel => exact ⟨(wrap64 (Aa + Ac)), xrr, H', ⟨by have := HK1.out; omega⟩, ⟨xbl⟩⟩
    ·
     rw [if_neg c6] at H
     have Ae := decide_eq_false c6
     clear c6
     obtain rfl := Option.some.inj H
     go_wp2_with (first | (go_at_call 28; (with_reducible refine (dE k1 a0 a1 a2 Aa Ab _ A5.out).mono ?_); rintro e w10 ⟨rfl, hb⟩; replace HB := xst hb; (try clear hb)))
     go_ret
     exact ⟨xre, xbl⟩
   ·
    rw [if_neg c4] at H
    have Ad := decide_eq_false c4
    clear c4
    obtain rfl := Option.some.inj H
    go_wp2
    go_ret
    exact ⟨xre, xbl⟩
end Go.Proofs.YtmofhijbheimmaaDoor.X
