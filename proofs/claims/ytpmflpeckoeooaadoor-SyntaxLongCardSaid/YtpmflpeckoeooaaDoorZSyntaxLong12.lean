/- Texts that the law's proof needs, joined by a program of this session. -/
import Derived.Test.YtpmflpeckoeooaaDoorZSyntaxLong0
import Derived.Test.YtpmflpeckoeooaaDoorZSyntaxLong1
import Derived.Test.YtpmflpeckoeooaaDoorZSyntaxLong2
import Derived.Test.YtpmflpeckoeooaaDoorZSyntaxLong4
import Derived.Test.YtpmflpeckoeooaaDoorZSyntaxLong7
import Derived.Test.YtpmflpeckoeooaaDoorZSyntaxLong11
import Derived.Lib.Bytealg
import Derived.Laws.Strings
import Derived.Laws.BitsLemmas
namespace Go.Proofs.YtpmflpeckoeooaaDoor.X
open Go.RowKit Go.Proofs.YtpmflpeckoeooaaDoorW.PrintWords Go.Proofs.YtpmflpeckoeooaaDoorW.PrintLast Go.Proofs.YtpmflpeckoeooaaDoorW.PrintMore
attribute [local go_sem] xj_then_goto xj_block_goto xj_normal xj_exit xj_ret xj_panic xj_goto max2_int min2_int max_two min_two max_three min_three max_four min_four
set_option linter.unusedVariables false
set_option linter.unusedSimpArgs false
attribute [local go_sem high] eqA24
def monikerlaw22_awake.f (k : Nat)  : Option (Bool) := (syntax_Kinds.f k (⟨#[97, 58, 98]⟩ : ByteArray)).bind fun t519 => (if t519 = 62 then ((syntax_Kinds.f k (⟨#[98]⟩ : ByteArray)).bind fun t520 => (if t520 = 36 then ((syntax_Kinds.f k (⟨#[47, 47, 91, 58, 58, 49, 93, 47, 120, 63, 121, 35, 122]⟩ : ByteArray)).bind fun t521 => (if t521 = 36 then ((syntax_Accepts.f k 3 (⟨#[97, 58, 98, 35, 99]⟩ : ByteArray)).bind fun t522 => (if t522 = true then (some false) else ((syntax_Kinds.f k (⟨#[49, 58, 120]⟩ : ByteArray)).bind fun t523 => (some (t523 == 0))))) else (some false))) else (some false))) else (some false))
theorem monikerlaw22_awake.mono : ∀ k, LeO (monikerlaw22_awake.f k ) (monikerlaw22_awake.f (k + 1) ) := by
  intro  k
  have m0 := @syntax_Accepts.mono; have m1 := @syntax_Kinds.mono
  unfold monikerlaw22_awake.f
  exact xmo
set_option maxHeartbeats 8000000 in
set_option maxRecDepth 100000 in
theorem monikerlaw22_awake.calls (k : Nat)  (r : Bool) (w : World) (hG : GW w) (h : monikerlaw22_awake.f k  = some r) :
    Calls Tryd.prog 5 #[] w fun e w' => e = .returned (.bool r) ∧ Below w.heap.size w w' := by
 have HB := Aside0.mk (Below.refl w.heap.size w)
 have H : ((syntax_Kinds.f k (⟨#[97, 58, 98]⟩ : ByteArray)).bind fun t519 => (if t519 = 62 then ((syntax_Kinds.f k (⟨#[98]⟩ : ByteArray)).bind fun t520 => (if t520 = 36 then ((syntax_Kinds.f k (⟨#[47, 47, 91, 58, 58, 49, 93, 47, 120, 63, 121, 35, 122]⟩ : ByteArray)).bind fun t521 => (if t521 = 36 then ((syntax_Accepts.f k 3 (⟨#[97, 58, 98, 35, 99]⟩ : ByteArray)).bind fun t522 => (if t522 = true then (some false) else ((syntax_Kinds.f k (⟨#[49, 58, 120]⟩ : ByteArray)).bind fun t523 => (some (t523 == 0))))) else (some false))) else (some false))) else (some false))) = some r := h
 clear h
 replace H := Option.bind_eq_some_iff.mp H
 obtain ⟨t519, A10, H⟩ := H
 try dsimp only at H
 have A1 := Aside0.mk A10
 clear A10
 by_cases c2 : t519 = 62
 ·
  rw [if_pos c2] at H
  have c2b0 : (t519 == 62) = true := beq_iff_eq.mpr c2
  have c2b1 : (t519 != 62) = false := bne_eq_false_iff_eq.mpr c2
  clear c2
  replace H := Option.bind_eq_some_iff.mp H
  obtain ⟨t520, A30, H⟩ := H
  try dsimp only at H
  have A3 := Aside0.mk A30
  clear A30
  by_cases c4 : t520 = 36
  ·
   rw [if_pos c4] at H
   have c4b0 : (t520 == 36) = true := beq_iff_eq.mpr c4
   have c4b1 : (t520 != 36) = false := bne_eq_false_iff_eq.mpr c4
   clear c4
   replace H := Option.bind_eq_some_iff.mp H
   obtain ⟨t521, A50, H⟩ := H
   try dsimp only at H
   have A5 := Aside0.mk A50
   clear A50
   by_cases c6 : t521 = 36
   ·
    rw [if_pos c6] at H
    have c6b0 : (t521 == 36) = true := beq_iff_eq.mpr c6
    have c6b1 : (t521 != 36) = false := bne_eq_false_iff_eq.mpr c6
    clear c6
    replace H := Option.bind_eq_some_iff.mp H
    obtain ⟨t522, A70, H⟩ := H
    try dsimp only at H
    have A7 := Aside0.mk A70
    clear A70
    by_cases c8 : t522 = true
    ·
     subst c8
     rw [if_pos rfl] at H
     obtain rfl := Option.some.inj H
     go_enter Tryd.func5, Tryd.ntmps5
     go_wp2_with (first | ((with_reducible refine gate_callee (f := 9) rfl ?_); refine xgl 1 Tryd.func9 #[.string (⟨#[97, 58, 98]⟩ : ByteArray)] ?_; (with_reducible refine (syntax_Kinds.calls k (⟨#[97, 58, 98]⟩ : ByteArray) t519 _ ?side1 A1.out).mono ?_); (case side1 => first | (with_reducible exact hG) | exact GW_to hG xbl); rintro e w9 ⟨rfl, hb⟩; refine ⟨_, rfl, ?_⟩; replace HB := xst hb; (try clear hb)) | (go_at_call 9; (with_reducible refine (syntax_Kinds.calls k (⟨#[98]⟩ : ByteArray) t520 _ ?side1 A3.out).mono ?_); (case side1 => first | (with_reducible exact hG) | exact GW_to hG xbl); rintro e w10 ⟨rfl, hb⟩; replace HB := xst hb; (try clear hb)) | (go_at_call 9; (with_reducible refine (syntax_Kinds.calls k (⟨#[47, 47, 91, 58, 58, 49, 93, 47, 120, 63, 121, 35, 122]⟩ : ByteArray) t521 _ ?side1 A5.out).mono ?_); (case side1 => first | (with_reducible exact hG) | exact GW_to hG xbl); rintro e w11 ⟨rfl, hb⟩; replace HB := xst hb; (try clear hb)) | (go_at_call 10; (with_reducible refine (syntax_Accepts.calls k 3 (⟨#[97, 58, 98, 35, 99]⟩ : ByteArray) true _ ?side1 A7.out).mono ?_); (case side1 => first | (with_reducible exact hG) | exact GW_to hG xbl); rintro e w12 ⟨rfl, hb⟩; replace HB := xst hb; (try clear hb)))
     go_ret
     exact ⟨xre, xbl⟩
    ·
     replace c8 := Bool.eq_false_iff.mpr c8
     subst c8
     rw [if_neg (show ¬ (false = true) by decide)] at H
     replace H := Option.bind_eq_some_iff.mp H
     obtain ⟨t523, A130, H⟩ := H
     try dsimp only at H
     have A13 := Aside0.mk A130
     clear A130
     obtain rfl := Option.some.inj H
     go_enter Tryd.func5, Tryd.ntmps5
     go_wp2_with (first | ((with_reducible refine gate_callee (f := 9) rfl ?_); refine xgl 1 Tryd.func9 #[.string (⟨#[97, 58, 98]⟩ : ByteArray)] ?_; (with_reducible refine (syntax_Kinds.calls k (⟨#[97, 58, 98]⟩ : ByteArray) t519 _ ?side1 A1.out).mono ?_); (case side1 => first | (with_reducible exact hG) | exact GW_to hG xbl); rintro e w14 ⟨rfl, hb⟩; refine ⟨_, rfl, ?_⟩; replace HB := xst hb; (try clear hb)) | (go_at_call 9; (with_reducible refine (syntax_Kinds.calls k (⟨#[98]⟩ : ByteArray) t520 _ ?side1 A3.out).mono ?_); (case side1 => first | (with_reducible exact hG) | exact GW_to hG xbl); rintro e w15 ⟨rfl, hb⟩; replace HB := xst hb; (try clear hb)) | (go_at_call 9; (with_reducible refine (syntax_Kinds.calls k (⟨#[47, 47, 91, 58, 58, 49, 93, 47, 120, 63, 121, 35, 122]⟩ : ByteArray) t521 _ ?side1 A5.out).mono ?_); (case side1 => first | (with_reducible exact hG) | exact GW_to hG xbl); rintro e w16 ⟨rfl, hb⟩; replace HB := xst hb; (try clear hb)) | (go_at_call 10; (with_reducible refine (syntax_Accepts.calls k 3 (⟨#[97, 58, 98, 35, 99]⟩ : ByteArray) false _ ?side1 A7.out).mono ?_); (case side1 => first | (with_reducible exact hG) | exact GW_to hG xbl); rintro e w17 ⟨rfl, hb⟩; replace HB := xst hb; (try clear hb)) | (go_at_call 9; (with_reducible refine (syntax_Kinds.calls k (⟨#[49, 58, 120]⟩ : ByteArray) t523 _ ?side1 A13.out).mono ?_); (case side1 => first | (with_reducible exact hG) | exact GW_to hG xbl); rintro e w18 ⟨rfl, hb⟩; replace HB := xst hb; (try clear hb)))
     go_ret
     exact ⟨xre, xbl⟩
   ·
    rw [if_neg c6] at H
    have c6b0 : (t521 == 36) = false := beq_eq_false_iff_ne.mpr c6
    have c6b1 : (t521 != 36) = true := bne_iff_ne.mpr c6
    obtain rfl := Option.some.inj H
    go_enter Tryd.func5, Tryd.ntmps5
    go_wp2_with (first | ((with_reducible refine gate_callee (f := 9) rfl ?_); refine xgl 1 Tryd.func9 #[.string (⟨#[97, 58, 98]⟩ : ByteArray)] ?_; (with_reducible refine (syntax_Kinds.calls k (⟨#[97, 58, 98]⟩ : ByteArray) t519 _ ?side1 A1.out).mono ?_); (case side1 => first | (with_reducible exact hG) | exact GW_to hG xbl); rintro e w19 ⟨rfl, hb⟩; refine ⟨_, rfl, ?_⟩; replace HB := xst hb; (try clear hb)) | (go_at_call 9; (with_reducible refine (syntax_Kinds.calls k (⟨#[98]⟩ : ByteArray) t520 _ ?side1 A3.out).mono ?_); (case side1 => first | (with_reducible exact hG) | exact GW_to hG xbl); rintro e w20 ⟨rfl, hb⟩; replace HB := xst hb; (try clear hb)) | (go_at_call 9; (with_reducible refine (syntax_Kinds.calls k (⟨#[47, 47, 91, 58, 58, 49, 93, 47, 120, 63, 121, 35, 122]⟩ : ByteArray) t521 _ ?side1 A5.out).mono ?_); (case side1 => first | (with_reducible exact hG) | exact GW_to hG xbl); rintro e w21 ⟨rfl, hb⟩; replace HB := xst hb; (try clear hb)))
    go_ret
    exact ⟨xre, xbl⟩
  ·
   rw [if_neg c4] at H
   have c4b0 : (t520 == 36) = false := beq_eq_false_iff_ne.mpr c4
   have c4b1 : (t520 != 36) = true := bne_iff_ne.mpr c4
   obtain rfl := Option.some.inj H
   go_enter Tryd.func5, Tryd.ntmps5
   go_wp2_with (first | ((with_reducible refine gate_callee (f := 9) rfl ?_); refine xgl 1 Tryd.func9 #[.string (⟨#[97, 58, 98]⟩ : ByteArray)] ?_; (with_reducible refine (syntax_Kinds.calls k (⟨#[97, 58, 98]⟩ : ByteArray) t519 _ ?side1 A1.out).mono ?_); (case side1 => first | (with_reducible exact hG) | exact GW_to hG xbl); rintro e w22 ⟨rfl, hb⟩; refine ⟨_, rfl, ?_⟩; replace HB := xst hb; (try clear hb)) | (go_at_call 9; (with_reducible refine (syntax_Kinds.calls k (⟨#[98]⟩ : ByteArray) t520 _ ?side1 A3.out).mono ?_); (case side1 => first | (with_reducible exact hG) | exact GW_to hG xbl); rintro e w23 ⟨rfl, hb⟩; replace HB := xst hb; (try clear hb)))
   go_ret
   exact ⟨xre, xbl⟩
 ·
  rw [if_neg c2] at H
  have c2b0 : (t519 == 62) = false := beq_eq_false_iff_ne.mpr c2
  have c2b1 : (t519 != 62) = true := bne_iff_ne.mpr c2
  obtain rfl := Option.some.inj H
  go_enter Tryd.func5, Tryd.ntmps5
  go_wp2_with (first | ((with_reducible refine gate_callee (f := 9) rfl ?_); refine xgl 1 Tryd.func9 #[.string (⟨#[97, 58, 98]⟩ : ByteArray)] ?_; (with_reducible refine (syntax_Kinds.calls k (⟨#[97, 58, 98]⟩ : ByteArray) t519 _ ?side1 A1.out).mono ?_); (case side1 => first | (with_reducible exact hG) | exact GW_to hG xbl); rintro e w24 ⟨rfl, hb⟩; refine ⟨_, rfl, ?_⟩; replace HB := xst hb; (try clear hb)))
  go_ret
  exact ⟨xre, xbl⟩
mutual
def monikerlaw22_SyntaxLong.l0 : Nat → Int → Bool → Int → List Int → Int → Int → Option (Bool)
  | 0, _, _, _, _, _, _ => none
  | k + 1, x1, x2, x7, x8, x19, x20 => if x20 < x19 then (if 0 ≤ x20 then (if x20 < (x8.length : Int) then (monikerlaw22_SyntaxLong.l0 k x1 x2 x7 (x8.set (x20 : Int).toNat 97) x19 (wrap64 (x20 + 1))) else (none)) else (none)) else (if 1 < (x8.length : Int) then ((some (x8.set (1 : Int).toNat 58 : List Int)).bind fun y528 => (if x2 = true then (if 0 ≤ (wrap64 (x7 - 1)) then (if (wrap64 (x7 - 1)) < (x8.length : Int) then (monikerlaw22_SyntaxLong.j1 k x1 x2 x7 (y528.set ((wrap64 (x7 - 1)) : Int).toNat 255)) else (none)) else (none)) else (monikerlaw22_SyntaxLong.j1 k x1 x2 x7 y528))) else (none))
def monikerlaw22_SyntaxLong.j1 : Nat → Int → Bool → Int → List Int → Option (Bool)
  | 0, _, _, _, _ => none
  | k + 1, x1, x2, x7, x8 => (syntax_Parse.f k (wrap64 (1 + (Int.tmod (wrap64 (x1)) 5))) (strOfNums x8)).bind fun bt530 => (if x7 > 65535 then (if bt530.2.2.2.2.2.2.2.2 = 2 then (if (bt530.1.toList == ([] : List UInt8) && (!bt530.2.1 && (bt530.2.2.1.toList == ([] : List UInt8) && (bt530.2.2.2.1.toList == ([] : List UInt8) && (!bt530.2.2.2.2.1 && (bt530.2.2.2.2.2.1.toList == ([] : List UInt8) && (!bt530.2.2.2.2.2.2.1 && (bt530.2.2.2.2.2.2.2.1.toList == ([] : List UInt8))))))))) = true then ((monikerlaw22_awake.f k).bind fun t540 => (some t540)) else (some false)) else (some false)) else (if x2 = true then (monikerlaw22_SyntaxLong.j2 k x2 x7 bt530.2.2.2.2.2.2.2.2 (decide ((Int.tmod (wrap64 (x1)) 5) ≥ 3)) bt530.1 bt530.2.1 bt530.2.2.1 bt530.2.2.2.1 bt530.2.2.2.2.1 bt530.2.2.2.2.2.1 bt530.2.2.2.2.2.2.1 bt530.2.2.2.2.2.2.2.1) else (monikerlaw22_SyntaxLong.j2 k x2 x7 bt530.2.2.2.2.2.2.2.2 false bt530.1 bt530.2.1 bt530.2.2.1 bt530.2.2.2.1 bt530.2.2.2.2.1 bt530.2.2.2.2.2.1 bt530.2.2.2.2.2.2.1 bt530.2.2.2.2.2.2.2.1)))
def monikerlaw22_SyntaxLong.j2 : Nat → Bool → Int → Int → Bool → ByteArray → Bool → ByteArray → ByteArray → Bool → ByteArray → Bool → ByteArray → Option (Bool)
  | 0, _, _, _, _, _, _, _, _, _, _, _, _ => none
  | k + 1, x2, x7, x11, x57, x540000, x540001, x540002, x540003, x540004, x540005, x540006, x540007 => if x57 = true then (if x11 = 3 then ((monikerlaw22_awake.f k).bind fun t541 => (some t541)) else (some false)) else (if x2 = true then (if x11 = 4 then ((monikerlaw22_awake.f k).bind fun t542 => (some t542)) else (some false)) else (if x11 = 0 then (if x540000.toList = ([97] : List UInt8) then (if (x540003.size : Int) = (wrap64 (x7 - 2)) then ((monikerlaw22_awake.f k).bind fun t543 => (some t543)) else (some false)) else (some false)) else (some false)))
end
def monikerlaw22_SyntaxLong.f (k : Nat) (a0 : Int) (a1 : Int) (a2 : Bool) : Option (Bool) := if 0 ≤ (wrap64 (65530 + (Int.tmod (wrap64 (a0)) 10))) then (if (wrap64 (65530 + (Int.tmod (wrap64 (a0)) 10)) : Int).toNat ≤ 281474976710656 then ((some (List.replicate (wrap64 (65530 + (Int.tmod (wrap64 (a0)) 10)) : Int).toNat 0 : List Int)).bind fun y524 => (monikerlaw22_SyntaxLong.l0 k a1 a2 (wrap64 (65530 + (Int.tmod (wrap64 (a0)) 10))) y524 (y524.length : Int) 0)) else (none)) else (none)
theorem monikerlaw22_SyntaxLong.mono_l : ∀ k, (∀ y0 y1 y2 y3 y4 y5, LeO (monikerlaw22_SyntaxLong.l0 k y0 y1 y2 y3 y4 y5) (monikerlaw22_SyntaxLong.l0 (k + 1) y0 y1 y2 y3 y4 y5)) ∧ (∀ y0 y1 y2 y3, LeO (monikerlaw22_SyntaxLong.j1 k y0 y1 y2 y3) (monikerlaw22_SyntaxLong.j1 (k + 1) y0 y1 y2 y3)) ∧ (∀ y0 y1 y2 y3 y4 y5 y6 y7 y8 y9 y10 y11, LeO (monikerlaw22_SyntaxLong.j2 k y0 y1 y2 y3 y4 y5 y6 y7 y8 y9 y10 y11) (monikerlaw22_SyntaxLong.j2 (k + 1) y0 y1 y2 y3 y4 y5 y6 y7 y8 y9 y10 y11))
  | 0 => ⟨fun _ _ _ _ _ _ r h => by simp [monikerlaw22_SyntaxLong.l0] at h, fun _ _ _ _ r h => by simp [monikerlaw22_SyntaxLong.j1] at h, fun _ _ _ _ _ _ _ _ _ _ _ _ r h => by simp [monikerlaw22_SyntaxLong.j2] at h⟩
  | k + 1 => by
    obtain ⟨ih0, ih1, ih2⟩ := monikerlaw22_SyntaxLong.mono_l k
    have m0 := @monikerlaw22_awake.mono; have m1 := @syntax_Parse.mono
    refine ⟨?_, ?_, ?_⟩
    · intro y0 y1 y2 y3 y4 y5
      unfold monikerlaw22_SyntaxLong.l0
      exact xmo
    · intro y0 y1 y2 y3
      unfold monikerlaw22_SyntaxLong.j1
      exact xmo
    · intro y0 y1 y2 y3 y4 y5 y6 y7 y8 y9 y10 y11
      unfold monikerlaw22_SyntaxLong.j2
      exact xmo
theorem monikerlaw22_SyntaxLong.mono : ∀ a0 a1 a2 k, LeO (monikerlaw22_SyntaxLong.f k a0 a1 a2) (monikerlaw22_SyntaxLong.f (k + 1) a0 a1 a2) := by
  intro a0 a1 a2 k
  obtain ⟨ih0, ih1, ih2⟩ := monikerlaw22_SyntaxLong.mono_l k
  have m0 := @monikerlaw22_awake.mono; have m1 := @syntax_Parse.mono
  unfold monikerlaw22_SyntaxLong.f
  exact xmo
set_option maxHeartbeats 8000000 in
set_option maxRecDepth 100000 in
theorem monikerlaw22_SyntaxLong.calls (k : Nat) (a0 : Int) (a1 : Int) (a2 : Bool) (r : Bool) (w : World) (hG : GW w) (h : monikerlaw22_SyntaxLong.f k a0 a1 a2 = some r) :
    Calls Tryd.prog 3 #[.int .u8 a0, .int .u8 a1, .bool a2] w fun e w' => e = .returned (.bool r) ∧ Below w.heap.size w w' := by
 have hu24 := Tryd.underlying24
 have HB := Aside0.mk (Below.refl w.heap.size w)
 have H : (if 0 ≤ (wrap64 (65530 + (Int.tmod (wrap64 (a0)) 10))) then (if (wrap64 (65530 + (Int.tmod (wrap64 (a0)) 10)) : Int).toNat ≤ 281474976710656 then ((some (List.replicate (wrap64 (65530 + (Int.tmod (wrap64 (a0)) 10)) : Int).toNat 0 : List Int)).bind fun y524 => (monikerlaw22_SyntaxLong.l0 k a1 a2 (wrap64 (65530 + (Int.tmod (wrap64 (a0)) 10))) y524 (y524.length : Int) 0)) else (none)) else (none)) = some r := h
 clear h
 obtain ⟨ji4, hji4⟩ : ∃ j_ : Int, (wrap64 (65530 + (Int.tmod (wrap64 (a0)) 10))) = j_ := ⟨_, rfl⟩
 first | rw [hji4] at H | simp only [hji4] at H | skip
 have hji4w : (IntKind.i64.wrap (65530 + (Int.tmod (wrap64 (a0)) 10))) = ji4 := (i64_w _).trans hji4
 by_cases c5 : 0 ≤ (ji4)
 ·
  rw [if_pos c5] at H
  have c5b0 := eq_true c5
  have c5b1 := decide_eq_true c5
  clear c5
  by_cases c6 : (ji4 : Int).toNat ≤ 281474976710656
  ·
   rw [if_pos c6] at H
   have c6b0 := eq_true c6
   have c6b1 := decide_eq_true c6
   clear c6
   obtain ⟨y524, hy524⟩ : ∃ y_ : List Int, y_ = (List.replicate (ji4 : Int).toNat 0) := ⟨_, rfl⟩
   replace H : (monikerlaw22_SyntaxLong.l0 k a1 a2 ji4 y524 (y524.length : Int) 0) = some r := by first | (rw [hy524]; with_reducible exact H) | (have H2_ := (Option.bind_some _ _).symm.trans H; rw [hy524]; with_reducible exact H2_) | (have H2_ := (Option.bind_some _ _).symm.trans H; with_reducible exact H2_) | with_reducible exact H | (rw [hy524]; exact H) | exact H
   have Ny524 := Aside0.mk hy524
   clear hy524
   have H' := Aside0.mk H
   clear H
   go_enter Tryd.func3, Tryd.ntmps3
   go_wp2_with (first | ((with_reducible refine gate_dst (N := 17) rfl ?_); (try (refine gate_guard (by rfl) ?_; dsimp only)); refine Kd.R_make (Kd.int .u8) _ 5 rfl (N := 17) rfl 22 _ _ rfl ji4 rfl rfl Tryd.underlying22 (.int .u8 0) 1 info5 rfl (by decide) (by omega) 0 (ok := fun _ => True) (okp := fun _ => True) rfl (fun _ hk => hk) trivial (xod) (Nat.le_trans (Nat.mul_le_mul_right _ (xod : ji4.toNat ≤ 281474976710656)) (by omega)) (Below.refl _ _) (Nat.le_refl _) ?_; intro v525 w7 ho8 hb hg_ hnew_; clear hg_ hnew_; (first | rw [← Ny524.out] at ho8 | (simp only [Int.reduceToNat] at ho8; rw [← Ny524.out] at ho8)); have HO526 := Aside0.mk (Kd.R_lower ho8 (below_size xbl)); replace HB := xst hb; clear hb ho8; obtain ⟨Ao9, co9, eo9⟩ := Kd.R_slice HO526.out; subst eo9))
   go_loopg [20] k (fun kq v20 w' => ∃ (x8_1 : List Int) (x20_1 : Int), v20 = .int .i64 x20_1 ∧ Aside0 (monikerlaw22_SyntaxLong.l0 kq a1 a2 ji4 x8_1 (y524.length : Int) x20_1 = some r) ∧ Aside0 (kq ≤ k) ∧ Aside0 (Kd.R (Kd.int .u8) 5 w' w.heap.size (fun _ => True) (.slice Ao9 y524.length co9) x8_1) ∧ Aside0 (Below w.heap.size w w'))
   case atStart => exact ⟨(y524), (0), xrr, H', ⟨Nat.le_refl _⟩, ⟨xkd HO526⟩, ⟨xbl⟩⟩
   case round =>
    clear H'
    clear c5b0 c5b1 c6b0 c6b1
    obtain ⟨x8_1, x20_1, rfl, HA, HK1, HO_8, HB⟩ := hrel
    have hl8_1 := (Kd.R_reads' HO_8.out).1
    rw [hl8_1] at HO_8
    (try simp only [hl8_1])
    cases gk with
    | zero => exact absurd HA.out (by simp [monikerlaw22_SyntaxLong.l0])
    | succ k1 =>
     have H := HA.out
     clear HA
     simp only [monikerlaw22_SyntaxLong.l0] at H
     by_cases c10 : x20_1 < (y524.length : Int)
     ·
      rw [if_pos c10] at H
      have c10b0 := decide_eq_true c10
      clear c10
      by_cases c11 : 0 ≤ x20_1
      ·
       rw [if_pos c11] at H
       have c11b0 := decide_eq_true c11
       clear c11
       by_cases c12 : x20_1 < (x8_1.length : Int)
       ·
        rw [if_pos c12] at H
        have c12b0 := decide_eq_true c12
        clear c12
        obtain ⟨y527, hy527⟩ : ∃ y_ : List Int, y_ = (x8_1.set (x20_1 : Int).toNat 97) := ⟨_, rfl⟩
        replace H : (monikerlaw22_SyntaxLong.l0 k1 a1 a2 ji4 y527 (y524.length : Int) (wrap64 (x20_1 + 1))) = some r := by first | (rw [hy527]; with_reducible exact H) | (have H2_ := (Option.bind_some _ _).symm.trans H; rw [hy527]; with_reducible exact H2_) | (have H2_ := (Option.bind_some _ _).symm.trans H; with_reducible exact H2_) | with_reducible exact H | (rw [hy527]; exact H) | exact H
        have Ny527 := Aside0.mk hy527
        clear hy527
        have H' := Aside0.mk H
        clear H
        have p13 : 0 ≤ (x20_1 : Int) := xod
        have q13 : (x20_1 : Int) < ((x8_1.length : Int) : Int) := xod
        obtain ⟨go13, co13, eo13, gb13, gl13, cl13, HG13⟩ := Kd.R_form HO_8.out (by omega)
        (first | cases eo13 | (injection eo13 with ea_ en_ ec_; (first | subst ea_ | (injection ea_ with ea_; subst ea_)); subst ec_; clear en_))
        have GB13 := Aside0.mk gb13
        have GG13 := Aside0.mk HG13
        clear gb13 gl13 HG13
        obtain ⟨hx13_0, hf13_0⟩ := Kd.R_celln 0 HO_8.out (x20_1 : Int) p13 q13
        replace p13 := eq_true p13
        replace q13 := eq_true q13
        try (have q13x := q13; simp only [ByteArray.size_extract, Nat.min_self] at q13x)
        have HP14 := Kd.R_putg HO_8.out (x20_1 : Int) 97
        go_wp2_with (first | ((with_reducible refine gate_store (t := 5) (p := 25) rfl ?_); refine store_event (t := 5) (p := 25) (v := ?vo_w15) (w1 := (wr.setCell ⟨go13, (x20_1 : Int).toNat, none⟩ (.int .u8 97))) ?hg ?ho ?hn ?hr ?_; (case ho => rfl); (case hg => rfl); (case hn => rfl); (case hr => first | (go_simp; done) | (go_simp; rfl)); intro w15 hw; have hg : wr.grownBy w15 (some go13) := (by rw [hw]; exact HP14.2); have hp_ : Kd.R (Kd.int .u8) 5 w15 w.heap.size (fun _ => True) (.slice (some ⟨go13, 0, none⟩) x8_1.length co9) y527 := (by rw [hw, Ny527.out]; exact HP14.1); clear HP14; replace HO_8 := Aside0.mk (hp_); replace HB := Aside0.mk ((by rw [hw]; exact below_set (HB.out) GB13.out : Below w.heap.size w w15)); clear hg hw hp_))
        (try simp only [← hl8_1])
        go_roundg k1
        case measure => have := HK1.out; omega
        case rel => exact ⟨(y527), (wrap64 (x20_1 + 1)), xrr, H', ⟨by have := HK1.out; omega⟩, ⟨by (try simp only [hl8_1]); (with_reducible repeat (first | apply Kd.R_alloc | apply Kd.R_drewN | apply Kd.R_drew)); exact HO_8.out⟩, ⟨xbl⟩⟩
       ·
        rw [if_neg c12] at H
        exact absurd H (by simp)
      ·
       rw [if_neg c11] at H
       exact absurd H (by simp)
     ·
      rw [if_neg c10] at H
      have c10b0 := decide_eq_false c10
      (try simp only [hl8_1] at c10b0)
      clear c10
      by_cases c16 : 1 < (x8_1.length : Int)
      ·
       rw [if_pos c16] at H
       have c16b0 := decide_eq_true c16
       have c16b1 : decide (1 < x8_1.length) = true := decide_eq_true (by omega)
       clear c16
       obtain ⟨y528, hy528⟩ : ∃ y_ : List Int, y_ = (x8_1.set (1 : Int).toNat 58) := ⟨_, rfl⟩
       replace H : (if a2 = true then (if 0 ≤ (wrap64 (ji4 - 1)) then (if (wrap64 (ji4 - 1)) < (x8_1.length : Int) then (monikerlaw22_SyntaxLong.j1 k1 a1 a2 ji4 (y528.set ((wrap64 (ji4 - 1)) : Int).toNat 255)) else (none)) else (none)) else (monikerlaw22_SyntaxLong.j1 k1 a1 a2 ji4 y528)) = some r := by first | (rw [hy528]; with_reducible exact H) | (have H2_ := (Option.bind_some _ _).symm.trans H; rw [hy528]; with_reducible exact H2_) | (have H2_ := (Option.bind_some _ _).symm.trans H; with_reducible exact H2_) | with_reducible exact H | (rw [hy528]; exact H) | exact H
       have Ny528 := Aside0.mk hy528
       clear hy528
       have HC18 := Aside0.mk H
       clear H
       have p17 : 0 ≤ (1 : Int) := (by omega)
       have q17 : (1 : Int) < ((x8_1.length : Int) : Int) := xod
       have qi17 : (1 < x8_1.length) = True := eq_true (by omega)
       obtain ⟨go17, co17, eo17, gb17, gl17, cl17, HG17⟩ := Kd.R_form HO_8.out (by omega)
       (first | cases eo17 | (injection eo17 with ea_ en_ ec_; (first | subst ea_ | (injection ea_ with ea_; subst ea_)); subst ec_; clear en_))
       have GB17 := Aside0.mk gb17
       have GG17 := Aside0.mk HG17
       clear gb17 gl17 HG17
       obtain ⟨hx17_0, hf17_0⟩ := Kd.R_celln 0 HO_8.out (1 : Int) p17 q17
       (try rw [show ((1 : Int)).toNat = 1 from rfl] at hx17_0)
       (try simp only [Nat.reduceMul, Nat.zero_mul, Nat.zero_add, Nat.reduceAdd] at hx17_0)
       (try rw [show ((1 : Int)).toNat = 1 from rfl] at hf17_0)
       (try simp only [Nat.reduceMul, Nat.zero_mul, Nat.zero_add, Nat.reduceAdd] at hf17_0)
       replace p17 := eq_true p17
       replace q17 := eq_true q17
       try (have q17x := q17; simp only [ByteArray.size_extract, Nat.min_self] at q17x)
       have HP19 := Kd.R_putg HO_8.out (1 : Int) 58
       go_upto_if 29 with (first | ((with_reducible refine gate_store (t := 5) (p := 28) rfl ?_); refine store_event (t := 5) (p := 28) (v := ?vo_w20) (w1 := (wr.setCell ⟨go17, (1 : Int).toNat, none⟩ (.int .u8 58))) ?hg ?ho ?hn ?hr ?_; (case ho => rfl); (case hg => rfl); (case hn => rfl); (case hr => first | (go_simp; done) | (go_simp; rfl)); intro w20 hw; have hg : wr.grownBy w20 (some go17) := (by rw [hw]; exact HP19.2); have hp_ : Kd.R (Kd.int .u8) 5 w20 w.heap.size (fun _ => True) (.slice (some ⟨go17, 0, none⟩) x8_1.length co9) y528 := (by rw [hw, Ny528.out]; exact HP19.1); clear HP19; replace HO_8 := Aside0.mk (hp_); replace HB := Aside0.mk ((by rw [hw]; exact below_set (HB.out) GB17.out : Below w.heap.size w w20)); clear hg hw hp_))
       (try simp only [Act.put, List.setIfInBounds_toArray, List.set_cons_zero, List.set_cons_succ])
       go_cut [] (fun wc => ∃ (kq : Nat) (x8_17 : List Int), Aside0 (monikerlaw22_SyntaxLong.j1 kq a1 a2 ji4 x8_17 = some r) ∧ Aside0 (kq ≤ k1) ∧ Aside0 (Kd.R (Kd.int .u8) 5 wc w.heap.size (fun _ => True) (.slice (some ⟨go17, 0, none⟩) x8_1.length co9) x8_17) ∧ Aside0 (Below w.heap.size w wc))
       case first =>
        have H := HC18.out
        clear HC18
        by_cases c21 : a2 = true
        ·
         subst c21
         rw [if_pos rfl] at H
         obtain ⟨ji22, hji22⟩ : ∃ j_ : Int, (wrap64 (ji4 - 1)) = j_ := ⟨_, rfl⟩
         first | rw [hji22] at H | simp only [hji22] at H | skip
         have hji22w : (IntKind.i64.wrap (ji4 - 1)) = ji22 := (i64_w _).trans hji22
         by_cases c23 : 0 ≤ (ji22)
         ·
          rw [if_pos c23] at H
          have c23b0 := decide_eq_true c23
          clear c23
          (first | rw [c23b0] | (simp only [i64_w, i32_w]; rw [c23b0]) | (rw [c23b2]; (try simp only [Bool.not_false, Bool.not_true])) | (rw [c23b3]; (try simp only [Bool.not_false, Bool.not_true])) | skip)
          by_cases c24 : (ji22) < (x8_1.length : Int)
          ·
           rw [if_pos c24] at H
           have c24b0 := decide_eq_true c24
           clear c24
           obtain ⟨y529, hy529⟩ : ∃ y_ : List Int, y_ = (y528.set ((ji22) : Int).toNat 255) := ⟨_, rfl⟩
           replace H : (monikerlaw22_SyntaxLong.j1 k1 a1 true ji4 y529) = some r := by first | (rw [hy529]; with_reducible exact H) | (have H2_ := (Option.bind_some _ _).symm.trans H; rw [hy529]; with_reducible exact H2_) | (have H2_ := (Option.bind_some _ _).symm.trans H; with_reducible exact H2_) | with_reducible exact H | (rw [hy529]; exact H) | exact H
           have Ny529 := Aside0.mk hy529
           clear hy529
           have H' := Aside0.mk H
           clear H
           have p25 : 0 ≤ ((ji22) : Int) := xod
           have q25 : ((ji22) : Int) < ((x8_1.length : Int) : Int) := xod
           obtain ⟨hx25_0, hf25_0⟩ := Kd.R_celln 0 HO_8.out ((ji22) : Int) p25 q25
           replace p25 := eq_true p25
           replace q25 := eq_true q25
           try (have q25x := q25; simp only [ByteArray.size_extract, Nat.min_self] at q25x)
           have HP26 := Kd.R_putg HO_8.out ((ji22) : Int) 255
           go_wp2_with (first | ((with_reducible refine gate_store (t := 5) (p := 33) rfl ?_); refine store_event (t := 5) (p := 33) (v := ?vo_w27) (w1 := (w20.setCell ⟨go17, ((ji22) : Int).toNat, none⟩ (.int .u8 255))) ?hg ?ho ?hn ?hr ?_; (case ho => rfl); (case hg => rfl); (case hn => rfl); (case hr => first | (go_simp; done) | (go_simp; rfl)); intro w27 hw; have hg : w20.grownBy w27 (some go17) := (by rw [hw]; exact HP26.2); have hp_ : Kd.R (Kd.int .u8) 5 w27 w.heap.size (fun _ => True) (.slice (some ⟨go17, 0, none⟩) x8_1.length co9) y529 := (by rw [hw, Ny529.out]; exact HP26.1); clear HP26; replace HO_8 := Aside0.mk (hp_); replace HB := Aside0.mk ((by rw [hw]; exact below_set (HB.out) GB17.out : Below w.heap.size w w27)); clear hg hw hp_))
           go_meet
           case rel => exact ⟨_, (y529), H', ⟨by have := HK1.out; first | omega | exact Nat.le_refl _⟩, ⟨by (try simp only [hl8_1]); (with_reducible repeat (first | apply Kd.R_alloc | apply Kd.R_drewN | apply Kd.R_drew)); exact HO_8.out⟩, ⟨xbl⟩⟩
          ·
           rw [if_neg c24] at H
           exact absurd H (by simp)
         ·
          rw [if_neg c23] at H
          exact absurd H (by simp)
        ·
         replace c21 := Bool.eq_false_iff.mpr c21
         subst c21
         rw [if_neg (show ¬ (false = true) by decide)] at H
         have H' := Aside0.mk H
         clear H
         go_wp2
         go_meet
         case rel => exact ⟨_, (y528), H', ⟨by have := HK1.out; first | omega | exact Nat.le_refl _⟩, ⟨by (try simp only [hl8_1]); (with_reducible repeat (first | apply Kd.R_alloc | apply Kd.R_drewN | apply Kd.R_drew)); exact HO_8.out⟩, ⟨xbl⟩⟩
       case rest =>
        clear HC18
        clear c10b0 c16b0 c16b1 p17 q17 qi17
        try clear hf13
        try clear hf17
        try clear hf25
        try clear hx13_0
        try clear hx17_0
        try clear hx25_0
        obtain ⟨kq, x8_17, HA, HJ17, HO_8, HB⟩ := hcut
        have hl8_17 := (Kd.R_reads' HO_8.out).1
        rw [hl8_17] at HO_8
        (try simp only [hl8_17])
        cases kq with
        | zero => exact absurd HA.out (by simp [monikerlaw22_SyntaxLong.j1])
        | succ kj17 =>
         have H := HA.out
         clear HA
         simp only [monikerlaw22_SyntaxLong.j1] at H
         replace H := Option.bind_eq_some_iff.mp H
         obtain ⟨⟨t530, t531, t532, t533, t534, t535, t536, t537, t538⟩, A280, H⟩ := H
         try dsimp only at H
         have A28 := Aside0.mk A280
         clear A280
         by_cases c29 : ji4 > 65535
         ·
          rw [if_pos c29] at H
          have c29b0 := decide_eq_true c29
          clear c29
          by_cases c30 : t538 = 2
          ·
           rw [if_pos c30] at H
           have c30b0 : (t538 == 2) = true := beq_iff_eq.mpr c30
           have c30b1 : (t538 != 2) = false := bne_eq_false_iff_eq.mpr c30
           clear c30
           by_cases c31 : (t530.toList == ([] : List UInt8) && (!t531 && (t532.toList == ([] : List UInt8) && (t533.toList == ([] : List UInt8) && (!t534 && (t535.toList == ([] : List UInt8) && (!t536 && (t537.toList == ([] : List UInt8))))))))) = true
           ·
            rw [if_pos c31] at H
            have c31b0 : (t530.toList == ([] : List UInt8) && (!t531 && (t532.toList == ([] : List UInt8) && (t533.toList == ([] : List UInt8) && (!t534 && (t535.toList == ([] : List UInt8) && (!t536 && (t537.toList == ([] : List UInt8))))))))) = true := c31
            try (have c31b0e := c31b0; simp only [xp_empty] at c31b0e)
            (try (have c31b1 : decide (t530.toList = ([] : List UInt8) && (!t531 && (t532.toList == ([] : List UInt8) && (t533.toList == ([] : List UInt8) && (!t534 && (t535.toList == ([] : List UInt8) && (!t536 && (t537.toList == ([] : List UInt8))))))))) = true := by simpa using c31))
            (try (have c31b2 : (t530.toList == ([] : List UInt8) && (!t531 && (t532.toList == ([] : List UInt8) && (t533.toList == ([] : List UInt8) && (!t534 && (t535.toList == ([] : List UInt8) && (!t536 && (t537.toList == ([] : List UInt8))))))))) = true := by simpa using c31))
            clear c31
            replace H := Option.bind_eq_some_iff.mp H
            obtain ⟨t540, A320, H⟩ := H
            try dsimp only at H
            have A32 := Aside0.mk A320
            clear A320
            obtain rfl := Option.some.inj H
            have hcv33 := own_string (P := Tryd.prog) Tryd.underlying22 Tryd.underlying5 Tryd.underlying9 (Kd.own_of_R HO_8.out)
            go_wp2_with (first | ((with_reducible refine gate_callee (f := 4) rfl ?_); refine xgl 41 Tryd.func4 #[.int .i64 (wrap64 (1 + (Int.tmod (wrap64 (a1)) 5))), .string (strOfNums x8_17)] ?_; (with_reducible refine (syntax_Parse.calls kj17 (wrap64 (1 + (Int.tmod (wrap64 (a1)) 5))) (strOfNums x8_17) t530 t531 t532 t533 t534 t535 t536 t537 t538 _ ?side1 A28.out).mono ?_); (case side1 => first | (with_reducible exact hG) | exact GW_to hG xbl); rintro e w34 ⟨rfl, hb⟩; refine ⟨_, rfl, ?_⟩; replace HO_8 := Aside0.mk (Kd.R_below (xkd HO_8) hb); replace HB := xst hb; (try clear hb)) | ((with_reducible refine gate_dst (N := 10) rfl ?_); (try (refine gate_guard (by rfl) ?_; dsimp only)); refine xev 10 #[.string (⟨#[]⟩ : ByteArray), .bool false, .string (⟨#[]⟩ : ByteArray), .string (⟨#[]⟩ : ByteArray), .bool false, .string (⟨#[]⟩ : ByteArray), .bool false, .string (⟨#[]⟩ : ByteArray)] 24 ?_; intro gb539 hg w35 hbox hb; have BK539 := Aside0.mk (hbox); have GW539 := xsz hg; have GE539 := GW539; replace HO_8 := Aside0.mk (Kd.R_below (xkd HO_8) hb); replace HB := xst hb; clear hb hbox hg; obtain ⟨hcz36_0, hcz36_1, hcz36_2, hcz36_3, hcz36_4, hcz36_5, hcz36_6, hcz36_7⟩ := xc8 BK539; have hfz36_0 := xf BK539 0; have hfz36_1 := xf BK539 1; have hfz36_2 := xf BK539 2; have hfz36_3 := xf BK539 3; have hfz36_4 := xf BK539 4; have hfz36_5 := xf BK539 5; have hfz36_6 := xf BK539 6; have hfz36_7 := xf BK539 7) | (go_at_call 5; (with_reducible refine (monikerlaw22_awake.calls kj17  t540 _ ?side1 A32.out).mono ?_); (case side1 => first | (with_reducible exact hG) | exact GW_to hG xbl); rintro e w37 ⟨rfl, hb⟩; replace HO_8 := Aside0.mk (Kd.R_below (by (with_reducible repeat (first | apply Kd.R_alloc | apply Kd.R_drewN | apply Kd.R_drew)); exact (Kd.R_mono (Kd.R_far (p := ⟨gb539, 7, none⟩) (Kd.R_far (p := ⟨gb539, 6, none⟩) (Kd.R_far (p := ⟨gb539, 5, none⟩) (Kd.R_far (p := ⟨gb539, 4, none⟩) (Kd.R_far (p := ⟨gb539, 3, none⟩) (Kd.R_far (p := ⟨gb539, 2, none⟩) (Kd.R_far (p := ⟨gb539, 1, none⟩) (Kd.R_far (p := ⟨gb539, 0, none⟩) (Kd.R_types HO_8.out BK539.out (by decide)) (fun _ hk => hk.2) (.string t530)) (fun _ hk => hk.2) (.bool t531)) (fun _ hk => hk.2) (.string t532)) (fun _ hk => hk.2) (.string t533)) (fun _ hk => hk.2) (.bool t534)) (fun _ hk => hk.2) (.string t535)) (fun _ hk => hk.2) (.bool t536)) (fun _ hk => hk.2) (.string t537)) (fun _ h_ => h_.1))) hb); replace BK539 := xbb (g := gb539) (o := .cells #[.string t530, .bool t531, .string t532, .string t533, .bool t534, .string t535, .bool t536, .string t537] 24 (0, 0)) hb; replace HB := xst hb; (try clear hb)))
            go_ret
            exact ⟨by first | rfl | (simp [errW_none, errW_some] <;> first | rfl | (simp only [xp_isEmpty, bne, Bool.not_not]; done)) | (simp only [← hji4]; first | rfl | (simp [errW_none, errW_some] <;> rfl)) | (simp [*, errW_none, errW_some] <;> rfl), xbl⟩
           ·
            rw [if_neg c31] at H
            have c31b0 : (t530.toList == ([] : List UInt8) && (!t531 && (t532.toList == ([] : List UInt8) && (t533.toList == ([] : List UInt8) && (!t534 && (t535.toList == ([] : List UInt8) && (!t536 && (t537.toList == ([] : List UInt8))))))))) = false := by simpa using c31
            try (have c31b0e := c31b0; simp only [xp_empty] at c31b0e)
            (try (have c31b1 : decide (t530.toList = ([] : List UInt8) && (!t531 && (t532.toList == ([] : List UInt8) && (t533.toList == ([] : List UInt8) && (!t534 && (t535.toList == ([] : List UInt8) && (!t536 && (t537.toList == ([] : List UInt8))))))))) = false := by simpa using c31))
            (try (have c31b2 : (t530.toList == ([] : List UInt8) && (!t531 && (t532.toList == ([] : List UInt8) && (t533.toList == ([] : List UInt8) && (!t534 && (t535.toList == ([] : List UInt8) && (!t536 && (t537.toList == ([] : List UInt8))))))))) = false := by simpa using c31))
            (try (have c31b3 : ¬ (t530.toList = ([] : List UInt8) && (!t531 && (t532.toList == ([] : List UInt8) && (t533.toList == ([] : List UInt8) && (!t534 && (t535.toList == ([] : List UInt8) && (!t536 && (t537.toList == ([] : List UInt8))))))))) := by simpa using c31))
            clear c31
            obtain rfl := Option.some.inj H
            have hcv38 := own_string (P := Tryd.prog) Tryd.underlying22 Tryd.underlying5 Tryd.underlying9 (Kd.own_of_R HO_8.out)
            go_wp2_with (first | ((with_reducible refine gate_callee (f := 4) rfl ?_); refine xgl 41 Tryd.func4 #[.int .i64 (wrap64 (1 + (Int.tmod (wrap64 (a1)) 5))), .string (strOfNums x8_17)] ?_; (with_reducible refine (syntax_Parse.calls kj17 (wrap64 (1 + (Int.tmod (wrap64 (a1)) 5))) (strOfNums x8_17) t530 t531 t532 t533 t534 t535 t536 t537 t538 _ ?side1 A28.out).mono ?_); (case side1 => first | (with_reducible exact hG) | exact GW_to hG xbl); rintro e w39 ⟨rfl, hb⟩; refine ⟨_, rfl, ?_⟩; replace HO_8 := Aside0.mk (Kd.R_below (xkd HO_8) hb); replace HB := xst hb; (try clear hb)) | ((with_reducible refine gate_dst (N := 10) rfl ?_); (try (refine gate_guard (by rfl) ?_; dsimp only)); refine xev 10 #[.string (⟨#[]⟩ : ByteArray), .bool false, .string (⟨#[]⟩ : ByteArray), .string (⟨#[]⟩ : ByteArray), .bool false, .string (⟨#[]⟩ : ByteArray), .bool false, .string (⟨#[]⟩ : ByteArray)] 24 ?_; intro gb539 hg w40 hbox hb; have BK539 := Aside0.mk (hbox); have GW539 := xsz hg; have GE539 := GW539; replace HO_8 := Aside0.mk (Kd.R_below (xkd HO_8) hb); replace HB := xst hb; clear hb hbox hg; obtain ⟨hcz41_0, hcz41_1, hcz41_2, hcz41_3, hcz41_4, hcz41_5, hcz41_6, hcz41_7⟩ := xc8 BK539; have hfz41_0 := xf BK539 0; have hfz41_1 := xf BK539 1; have hfz41_2 := xf BK539 2; have hfz41_3 := xf BK539 3; have hfz41_4 := xf BK539 4; have hfz41_5 := xf BK539 5; have hfz41_6 := xf BK539 6; have hfz41_7 := xf BK539 7))
            go_ret
            exact ⟨by first | rfl | (simp [errW_none, errW_some] <;> first | rfl | (simp only [xp_isEmpty, bne, Bool.not_not]; done)) | (simp only [← hji4]; first | rfl | (simp [errW_none, errW_some] <;> rfl)) | (simp [*, errW_none, errW_some] <;> rfl), xbl⟩
          ·
           rw [if_neg c30] at H
           have c30b0 : (t538 == 2) = false := beq_eq_false_iff_ne.mpr c30
           have c30b1 : (t538 != 2) = true := bne_iff_ne.mpr c30
           obtain rfl := Option.some.inj H
           have hcv42 := own_string (P := Tryd.prog) Tryd.underlying22 Tryd.underlying5 Tryd.underlying9 (Kd.own_of_R HO_8.out)
           go_wp2_with (first | ((with_reducible refine gate_callee (f := 4) rfl ?_); refine xgl 41 Tryd.func4 #[.int .i64 (wrap64 (1 + (Int.tmod (wrap64 (a1)) 5))), .string (strOfNums x8_17)] ?_; (with_reducible refine (syntax_Parse.calls kj17 (wrap64 (1 + (Int.tmod (wrap64 (a1)) 5))) (strOfNums x8_17) t530 t531 t532 t533 t534 t535 t536 t537 t538 _ ?side1 A28.out).mono ?_); (case side1 => first | (with_reducible exact hG) | exact GW_to hG xbl); rintro e w43 ⟨rfl, hb⟩; refine ⟨_, rfl, ?_⟩; replace HO_8 := Aside0.mk (Kd.R_below (xkd HO_8) hb); replace HB := xst hb; (try clear hb)) | ((with_reducible refine gate_dst (N := 10) rfl ?_); (try (refine gate_guard (by rfl) ?_; dsimp only)); refine xev 10 #[.string (⟨#[]⟩ : ByteArray), .bool false, .string (⟨#[]⟩ : ByteArray), .string (⟨#[]⟩ : ByteArray), .bool false, .string (⟨#[]⟩ : ByteArray), .bool false, .string (⟨#[]⟩ : ByteArray)] 24 ?_; intro gb539 hg w44 hbox hb; have BK539 := Aside0.mk (hbox); have GW539 := xsz hg; have GE539 := GW539; replace HO_8 := Aside0.mk (Kd.R_below (xkd HO_8) hb); replace HB := xst hb; clear hb hbox hg; obtain ⟨hcz45_0, hcz45_1, hcz45_2, hcz45_3, hcz45_4, hcz45_5, hcz45_6, hcz45_7⟩ := xc8 BK539; have hfz45_0 := xf BK539 0; have hfz45_1 := xf BK539 1; have hfz45_2 := xf BK539 2; have hfz45_3 := xf BK539 3; have hfz45_4 := xf BK539 4; have hfz45_5 := xf BK539 5; have hfz45_6 := xf BK539 6; have hfz45_7 := xf BK539 7))
           go_ret
           exact ⟨by first | rfl | (simp [errW_none, errW_some] <;> first | rfl | (simp only [xp_isEmpty, bne, Bool.not_not]; done)) | (simp only [← hji4]; first | rfl | (simp [errW_none, errW_some] <;> rfl)) | (simp [*, errW_none, errW_some] <;> rfl), xbl⟩
         ·
          rw [if_neg c29] at H
          have c29b0 := decide_eq_false c29
          clear c29
          have HC46 := Aside0.mk H
          clear H
          have hcv47 := own_string (P := Tryd.prog) Tryd.underlying22 Tryd.underlying5 Tryd.underlying9 (Kd.own_of_R HO_8.out)
          go_upto_region 14 with (first | ((with_reducible refine gate_callee (f := 4) rfl ?_); refine xgl 41 Tryd.func4 #[.int .i64 (wrap64 (1 + (Int.tmod (wrap64 (a1)) 5))), .string (strOfNums x8_17)] ?_; (with_reducible refine (syntax_Parse.calls kj17 (wrap64 (1 + (Int.tmod (wrap64 (a1)) 5))) (strOfNums x8_17) t530 t531 t532 t533 t534 t535 t536 t537 t538 _ ?side1 A28.out).mono ?_); (case side1 => first | (with_reducible exact hG) | exact GW_to hG xbl); rintro e w48 ⟨rfl, hb⟩; refine ⟨_, rfl, ?_⟩; replace HO_8 := Aside0.mk (Kd.R_below (xkd HO_8) hb); replace HB := xst hb; (try clear hb)) | ((with_reducible refine gate_dst (N := 10) rfl ?_); (try (refine gate_guard (by rfl) ?_; dsimp only)); refine xev 10 #[.string (⟨#[]⟩ : ByteArray), .bool false, .string (⟨#[]⟩ : ByteArray), .string (⟨#[]⟩ : ByteArray), .bool false, .string (⟨#[]⟩ : ByteArray), .bool false, .string (⟨#[]⟩ : ByteArray)] 24 ?_; intro gb539 hg w49 hbox hb; have BK539 := Aside0.mk (hbox); have GW539 := xsz hg; have GE539 := GW539; replace HO_8 := Aside0.mk (Kd.R_below (xkd HO_8) hb); replace HB := xst hb; clear hb hbox hg; obtain ⟨hcz50_0, hcz50_1, hcz50_2, hcz50_3, hcz50_4, hcz50_5, hcz50_6, hcz50_7⟩ := xc8 BK539; have hfz50_0 := xf BK539 0; have hfz50_1 := xf BK539 1; have hfz50_2 := xf BK539 2; have hfz50_3 := xf BK539 3; have hfz50_4 := xf BK539 4; have hfz50_5 := xf BK539 5; have hfz50_6 := xf BK539 6; have hfz50_7 := xf BK539 7))
          (try simp only [Act.put, List.setIfInBounds_toArray, List.set_cons_zero, List.set_cons_succ])
          go_cut [57] (fun v57 wc => ∃ (kq : Nat) (x57_45 : Bool), v57 = .bool x57_45 ∧ Aside0 (monikerlaw22_SyntaxLong.j2 kq a2 ji4 t538 x57_45 t530 t531 t532 t533 t534 t535 t536 t537 = some r) ∧ Aside0 (kq ≤ kj17) ∧ Aside0 (wc.heap[gb539]? = some (.cells #[.string t530, .bool t531, .string t532, .string t533, .bool t534, .string t535, .bool t536, .string t537] 24 (0, 0))) ∧ Aside0 (Below w.heap.size w wc))
          case first =>
           have H := HC46.out
           clear HC46
           by_cases c51 : a2 = true
           ·
            subst c51
            rw [if_pos rfl] at H
            have H' := Aside0.mk H
            clear H
            go_wp2
            go_meet
            case rel => exact ⟨_, (decide ((Int.tmod (wrap64 (a1)) 5) ≥ 3)), xrr, H', ⟨by have := HK1.out; have := HJ17.out; first | omega | exact Nat.le_refl _⟩, ⟨by (try simp only [hl8_1]); (try simp only [hl8_17]); (with_reducible repeat (first | refine blk_drewN ?_ _ | refine blk_drew ?_ | refine blk_alloc ?_ _)); refine blk_put (cs := #[.string t530, .bool t531, .string t532, .string t533, .bool t534, .string t535, .bool t536, .string (⟨#[]⟩ : ByteArray)]) ?_ 7 _ rfl; (with_reducible repeat (first | refine blk_drewN ?_ _ | refine blk_drew ?_ | refine blk_alloc ?_ _)); refine blk_put (cs := #[.string t530, .bool t531, .string t532, .string t533, .bool t534, .string t535, .bool false, .string (⟨#[]⟩ : ByteArray)]) ?_ 6 _ rfl; (with_reducible repeat (first | refine blk_drewN ?_ _ | refine blk_drew ?_ | refine blk_alloc ?_ _)); refine blk_put (cs := #[.string t530, .bool t531, .string t532, .string t533, .bool t534, .string (⟨#[]⟩ : ByteArray), .bool false, .string (⟨#[]⟩ : ByteArray)]) ?_ 5 _ rfl; (with_reducible repeat (first | refine blk_drewN ?_ _ | refine blk_drew ?_ | refine blk_alloc ?_ _)); refine blk_put (cs := #[.string t530, .bool t531, .string t532, .string t533, .bool false, .string (⟨#[]⟩ : ByteArray), .bool false, .string (⟨#[]⟩ : ByteArray)]) ?_ 4 _ rfl; (with_reducible repeat (first | refine blk_drewN ?_ _ | refine blk_drew ?_ | refine blk_alloc ?_ _)); refine blk_put (cs := #[.string t530, .bool t531, .string t532, .string (⟨#[]⟩ : ByteArray), .bool false, .string (⟨#[]⟩ : ByteArray), .bool false, .string (⟨#[]⟩ : ByteArray)]) ?_ 3 _ rfl; (with_reducible repeat (first | refine blk_drewN ?_ _ | refine blk_drew ?_ | refine blk_alloc ?_ _)); refine blk_put (cs := #[.string t530, .bool t531, .string (⟨#[]⟩ : ByteArray), .string (⟨#[]⟩ : ByteArray), .bool false, .string (⟨#[]⟩ : ByteArray), .bool false, .string (⟨#[]⟩ : ByteArray)]) ?_ 2 _ rfl; (with_reducible repeat (first | refine blk_drewN ?_ _ | refine blk_drew ?_ | refine blk_alloc ?_ _)); refine blk_put (cs := #[.string t530, .bool false, .string (⟨#[]⟩ : ByteArray), .string (⟨#[]⟩ : ByteArray), .bool false, .string (⟨#[]⟩ : ByteArray), .bool false, .string (⟨#[]⟩ : ByteArray)]) ?_ 1 _ rfl; (with_reducible repeat (first | refine blk_drewN ?_ _ | refine blk_drew ?_ | refine blk_alloc ?_ _)); refine blk_put (cs := #[.string (⟨#[]⟩ : ByteArray), .bool false, .string (⟨#[]⟩ : ByteArray), .string (⟨#[]⟩ : ByteArray), .bool false, .string (⟨#[]⟩ : ByteArray), .bool false, .string (⟨#[]⟩ : ByteArray)]) ?_ 0 _ rfl; (with_reducible repeat (first | refine blk_drewN ?_ _ | refine blk_drew ?_ | refine blk_alloc ?_ _)); exact BK539.out⟩, ⟨xbl⟩⟩
           ·
            replace c51 := Bool.eq_false_iff.mpr c51
            subst c51
            rw [if_neg (show ¬ (false = true) by decide)] at H
            have H' := Aside0.mk H
            clear H
            go_wp2
            go_meet
            case rel => exact ⟨_, (false), xrr, H', ⟨by have := HK1.out; have := HJ17.out; first | omega | exact Nat.le_refl _⟩, ⟨by (try simp only [hl8_1]); (try simp only [hl8_17]); (with_reducible repeat (first | refine blk_drewN ?_ _ | refine blk_drew ?_ | refine blk_alloc ?_ _)); refine blk_put (cs := #[.string t530, .bool t531, .string t532, .string t533, .bool t534, .string t535, .bool t536, .string (⟨#[]⟩ : ByteArray)]) ?_ 7 _ rfl; (with_reducible repeat (first | refine blk_drewN ?_ _ | refine blk_drew ?_ | refine blk_alloc ?_ _)); refine blk_put (cs := #[.string t530, .bool t531, .string t532, .string t533, .bool t534, .string t535, .bool false, .string (⟨#[]⟩ : ByteArray)]) ?_ 6 _ rfl; (with_reducible repeat (first | refine blk_drewN ?_ _ | refine blk_drew ?_ | refine blk_alloc ?_ _)); refine blk_put (cs := #[.string t530, .bool t531, .string t532, .string t533, .bool t534, .string (⟨#[]⟩ : ByteArray), .bool false, .string (⟨#[]⟩ : ByteArray)]) ?_ 5 _ rfl; (with_reducible repeat (first | refine blk_drewN ?_ _ | refine blk_drew ?_ | refine blk_alloc ?_ _)); refine blk_put (cs := #[.string t530, .bool t531, .string t532, .string t533, .bool false, .string (⟨#[]⟩ : ByteArray), .bool false, .string (⟨#[]⟩ : ByteArray)]) ?_ 4 _ rfl; (with_reducible repeat (first | refine blk_drewN ?_ _ | refine blk_drew ?_ | refine blk_alloc ?_ _)); refine blk_put (cs := #[.string t530, .bool t531, .string t532, .string (⟨#[]⟩ : ByteArray), .bool false, .string (⟨#[]⟩ : ByteArray), .bool false, .string (⟨#[]⟩ : ByteArray)]) ?_ 3 _ rfl; (with_reducible repeat (first | refine blk_drewN ?_ _ | refine blk_drew ?_ | refine blk_alloc ?_ _)); refine blk_put (cs := #[.string t530, .bool t531, .string (⟨#[]⟩ : ByteArray), .string (⟨#[]⟩ : ByteArray), .bool false, .string (⟨#[]⟩ : ByteArray), .bool false, .string (⟨#[]⟩ : ByteArray)]) ?_ 2 _ rfl; (with_reducible repeat (first | refine blk_drewN ?_ _ | refine blk_drew ?_ | refine blk_alloc ?_ _)); refine blk_put (cs := #[.string t530, .bool false, .string (⟨#[]⟩ : ByteArray), .string (⟨#[]⟩ : ByteArray), .bool false, .string (⟨#[]⟩ : ByteArray), .bool false, .string (⟨#[]⟩ : ByteArray)]) ?_ 1 _ rfl; (with_reducible repeat (first | refine blk_drewN ?_ _ | refine blk_drew ?_ | refine blk_alloc ?_ _)); refine blk_put (cs := #[.string (⟨#[]⟩ : ByteArray), .bool false, .string (⟨#[]⟩ : ByteArray), .string (⟨#[]⟩ : ByteArray), .bool false, .string (⟨#[]⟩ : ByteArray), .bool false, .string (⟨#[]⟩ : ByteArray)]) ?_ 0 _ rfl; (with_reducible repeat (first | refine blk_drewN ?_ _ | refine blk_drew ?_ | refine blk_alloc ?_ _)); exact BK539.out⟩, ⟨xbl⟩⟩
          case rest =>
           clear HC46
           clear c29b0
           try clear hcv3
           try clear hcv4
           try clear hf13
           try clear hf17
           try clear hf25
           try clear hcv33
           try clear hcv38
           try clear hcv42
           try clear hcv47
           try clear hx13_0
           try clear hx17_0
           try clear hx25_0
           obtain ⟨kq, x57_45, rfl, HA, HJ45, BK539, HB⟩ := hcut
           cases kq with
           | zero => exact absurd HA.out (by simp [monikerlaw22_SyntaxLong.j2])
           | succ kj45 =>
            have H := HA.out
            clear HA
            simp only [monikerlaw22_SyntaxLong.j2] at H
            by_cases c52 : x57_45 = true
            ·
             subst c52
             rw [if_pos rfl] at H
             by_cases c53 : t538 = 3
             ·
              rw [if_pos c53] at H
              have c53b0 : (t538 == 3) = true := beq_iff_eq.mpr c53
              have c53b1 : (t538 != 3) = false := bne_eq_false_iff_eq.mpr c53
              clear c53
              replace H := Option.bind_eq_some_iff.mp H
              obtain ⟨t541, A540, H⟩ := H
              try dsimp only at H
              have A54 := Aside0.mk A540
              clear A540
              obtain rfl := Option.some.inj H
              go_wp2_with (first | (go_at_call 5; (with_reducible refine (monikerlaw22_awake.calls kj45  t541 _ ?side1 A54.out).mono ?_); (case side1 => first | (with_reducible exact hG) | exact GW_to hG xbl); rintro e w55 ⟨rfl, hb⟩; replace BK539 := xbb (g := gb539) (o := .cells #[.string t530, .bool t531, .string t532, .string t533, .bool t534, .string t535, .bool t536, .string t537] 24 (0, 0)) hb; replace HB := xst hb; (try clear hb)))
              go_ret
              exact ⟨by first | rfl | (simp [errW_none, errW_some] <;> first | rfl | (simp only [xp_isEmpty, bne, Bool.not_not]; done)) | (simp only [← hji4]; first | rfl | (simp [errW_none, errW_some] <;> rfl)) | (simp [*, errW_none, errW_some] <;> rfl), xbl⟩
             ·
              rw [if_neg c53] at H
              have c53b0 : (t538 == 3) = false := beq_eq_false_iff_ne.mpr c53
              have c53b1 : (t538 != 3) = true := bne_iff_ne.mpr c53
              obtain rfl := Option.some.inj H
              go_wp2
              go_ret
              exact ⟨by first | rfl | (simp [errW_none, errW_some] <;> first | rfl | (simp only [xp_isEmpty, bne, Bool.not_not]; done)) | (simp only [← hji4]; first | rfl | (simp [errW_none, errW_some] <;> rfl)) | (simp [*, errW_none, errW_some] <;> rfl), xbl⟩
            ·
             replace c52 := Bool.eq_false_iff.mpr c52
             subst c52
             rw [if_neg (show ¬ (false = true) by decide)] at H
             by_cases c56 : a2 = true
             ·
              subst c56
              rw [if_pos rfl] at H
              by_cases c57 : t538 = 4
              ·
               rw [if_pos c57] at H
               have c57b0 : (t538 == 4) = true := beq_iff_eq.mpr c57
               have c57b1 : (t538 != 4) = false := bne_eq_false_iff_eq.mpr c57
               clear c57
               replace H := Option.bind_eq_some_iff.mp H
               obtain ⟨t542, A580, H⟩ := H
               try dsimp only at H
               have A58 := Aside0.mk A580
               clear A580
               obtain rfl := Option.some.inj H
               go_wp2_with (first | (go_at_call 5; (with_reducible refine (monikerlaw22_awake.calls kj45  t542 _ ?side1 A58.out).mono ?_); (case side1 => first | (with_reducible exact hG) | exact GW_to hG xbl); rintro e w59 ⟨rfl, hb⟩; replace BK539 := xbb (g := gb539) (o := .cells #[.string t530, .bool t531, .string t532, .string t533, .bool t534, .string t535, .bool t536, .string t537] 24 (0, 0)) hb; replace HB := xst hb; (try clear hb)))
               go_ret
               exact ⟨by first | rfl | (simp [errW_none, errW_some] <;> first | rfl | (simp only [xp_isEmpty, bne, Bool.not_not]; done)) | (simp only [← hji4]; first | rfl | (simp [errW_none, errW_some] <;> rfl)) | (simp [*, errW_none, errW_some] <;> rfl), xbl⟩
              ·
               rw [if_neg c57] at H
               have c57b0 : (t538 == 4) = false := beq_eq_false_iff_ne.mpr c57
               have c57b1 : (t538 != 4) = true := bne_iff_ne.mpr c57
               obtain rfl := Option.some.inj H
               go_wp2
               go_ret
               exact ⟨by first | rfl | (simp [errW_none, errW_some] <;> first | rfl | (simp only [xp_isEmpty, bne, Bool.not_not]; done)) | (simp only [← hji4]; first | rfl | (simp [errW_none, errW_some] <;> rfl)) | (simp [*, errW_none, errW_some] <;> rfl), xbl⟩
             ·
              replace c56 := Bool.eq_false_iff.mpr c56
              subst c56
              rw [if_neg (show ¬ (false = true) by decide)] at H
              by_cases c60 : t538 = 0
              ·
               rw [if_pos c60] at H
               have c60b0 : (t538 == 0) = true := beq_iff_eq.mpr c60
               have c60b1 : (t538 != 0) = false := bne_eq_false_iff_eq.mpr c60
               clear c60
               by_cases c61 : t530.toList = ([97] : List UInt8)
               ·
                rw [if_pos c61] at H
                have c61b0 : (t530.toList == ([97] : List UInt8)) = true := beq_iff_eq.mpr c61
                have c61b1 : (t530.toList != ([97] : List UInt8)) = false := bne_eq_false_iff_eq.mpr c61
                clear c61
                by_cases c62 : (t533.size : Int) = (wrap64 (ji4 - 2))
                ·
                 rw [if_pos c62] at H
                 have c62b0 : ((t533.size : Int) == (wrap64 (ji4 - 2))) = true := beq_iff_eq.mpr c62
                 have c62b1 : ((t533.size : Int) != (wrap64 (ji4 - 2))) = false := bne_eq_false_iff_eq.mpr c62
                 clear c62
                 replace H := Option.bind_eq_some_iff.mp H
                 obtain ⟨t543, A630, H⟩ := H
                 try dsimp only at H
                 have A63 := Aside0.mk A630
                 clear A630
                 obtain rfl := Option.some.inj H
                 obtain ⟨hcz64_0, hcz64_1, hcz64_2, hcz64_3, hcz64_4, hcz64_5, hcz64_6, hcz64_7⟩ := xc8 BK539
                 have hfz64_0 := xf BK539 0
                 have hfz64_1 := xf BK539 1
                 have hfz64_2 := xf BK539 2
                 have hfz64_3 := xf BK539 3
                 have hfz64_4 := xf BK539 4
                 have hfz64_5 := xf BK539 5
                 have hfz64_6 := xf BK539 6
                 have hfz64_7 := xf BK539 7
                 go_wp2_with (first | (go_at_call 5; (with_reducible refine (monikerlaw22_awake.calls kj45  t543 _ ?side1 A63.out).mono ?_); (case side1 => first | (with_reducible exact hG) | exact GW_to hG xbl); rintro e w65 ⟨rfl, hb⟩; replace BK539 := xbb (g := gb539) (o := .cells #[.string t530, .bool t531, .string t532, .string t533, .bool t534, .string t535, .bool t536, .string t537] 24 (0, 0)) hb; replace HB := xst hb; (try clear hb)))
                 go_ret
                 exact ⟨by first | rfl | (simp [errW_none, errW_some] <;> first | rfl | (simp only [xp_isEmpty, bne, Bool.not_not]; done)) | (simp only [← hji4]; first | rfl | (simp [errW_none, errW_some] <;> rfl)) | (simp [*, errW_none, errW_some] <;> rfl), xbl⟩
                ·
                 rw [if_neg c62] at H
                 have c62b0 : ((t533.size : Int) == (wrap64 (ji4 - 2))) = false := beq_eq_false_iff_ne.mpr c62
                 have c62b1 : ((t533.size : Int) != (wrap64 (ji4 - 2))) = true := bne_iff_ne.mpr c62
                 obtain rfl := Option.some.inj H
                 obtain ⟨hcz66_0, hcz66_1, hcz66_2, hcz66_3, hcz66_4, hcz66_5, hcz66_6, hcz66_7⟩ := xc8 BK539
                 have hfz66_0 := xf BK539 0
                 have hfz66_1 := xf BK539 1
                 have hfz66_2 := xf BK539 2
                 have hfz66_3 := xf BK539 3
                 have hfz66_4 := xf BK539 4
                 have hfz66_5 := xf BK539 5
                 have hfz66_6 := xf BK539 6
                 have hfz66_7 := xf BK539 7
                 go_wp2
                 go_ret
                 exact ⟨by first | rfl | (simp [errW_none, errW_some] <;> first | rfl | (simp only [xp_isEmpty, bne, Bool.not_not]; done)) | (simp only [← hji4]; first | rfl | (simp [errW_none, errW_some] <;> rfl)) | (simp [*, errW_none, errW_some] <;> rfl), xbl⟩
               ·
                rw [if_neg c61] at H
                have c61b0 : (t530.toList == ([97] : List UInt8)) = false := beq_eq_false_iff_ne.mpr c61
                have c61b1 : (t530.toList != ([97] : List UInt8)) = true := bne_iff_ne.mpr c61
                obtain rfl := Option.some.inj H
                obtain ⟨hcz67_0, hcz67_1, hcz67_2, hcz67_3, hcz67_4, hcz67_5, hcz67_6, hcz67_7⟩ := xc8 BK539
                have hfz67_0 := xf BK539 0
                have hfz67_1 := xf BK539 1
                have hfz67_2 := xf BK539 2
                have hfz67_3 := xf BK539 3
                have hfz67_4 := xf BK539 4
                have hfz67_5 := xf BK539 5
                have hfz67_6 := xf BK539 6
                have hfz67_7 := xf BK539 7
                go_wp2
                go_ret
                exact ⟨by first | rfl | (simp [errW_none, errW_some] <;> first | rfl | (simp only [xp_isEmpty, bne, Bool.not_not]; done)) | (simp only [← hji4]; first | rfl | (simp [errW_none, errW_some] <;> rfl)) | (simp [*, errW_none, errW_some] <;> rfl), xbl⟩
              ·
               rw [if_neg c60] at H
               have c60b0 : (t538 == 0) = false := beq_eq_false_iff_ne.mpr c60
               have c60b1 : (t538 != 0) = true := bne_iff_ne.mpr c60
               obtain rfl := Option.some.inj H
               go_wp2
               go_ret
               exact ⟨by first | rfl | (simp [errW_none, errW_some] <;> first | rfl | (simp only [xp_isEmpty, bne, Bool.not_not]; done)) | (simp only [← hji4]; first | rfl | (simp [errW_none, errW_some] <;> rfl)) | (simp [*, errW_none, errW_some] <;> rfl), xbl⟩
      ·
       rw [if_neg c16] at H
       exact absurd H (by simp)
  ·
   rw [if_neg c6] at H
   exact absurd H (by simp)
 ·
  rw [if_neg c5] at H
  exact absurd H (by simp)
def monikerlaw22_SyntaxLong.Pure : Prop := ∀ (a0 : Int) (a1 : Int) (a2 : Bool), (Lit.int .u8 a0).wf = true → (Lit.int .u8 a1).wf = true → ∃ k, monikerlaw22_SyntaxLong.f k a0 a1 a2 = some true
end Go.Proofs.YtpmflpeckoeooaaDoor.X
namespace Go.Proofs.YtpmflpeckoeooaaDoor.M
open Go Go.RowKit Go.Proofs.YtpmflpeckoeooaaDoorW.PrintWords
theorem w64 {x : Int} (h1 : -9223372036854775808 ≤ x) (h2 : x ≤ 9223372036854775807) : wrap64 x = x := by unfold wrap64; omega
theorem toList_data (s : ByteArray) : s.toList = s.data.toList := ByteArray.toList_eq s
theorem bytes_inj {a b : ByteArray} (h : bytesOf a = bytesOf b) : a = b := by
  unfold bytesOf at h
  have : a.data.toList = b.data.toList := by
    apply List.map_inj_right (f := fun b : UInt8 => (b.toNat : Int)) _ |>.1 h
    intro x y hxy
    exact UInt8.toNat_inj.1 (by omega)
  cases a; cases b
  simp only [ByteArray.mk.injEq]
  exact Array.toList_inj.1 this
theorem toList_iff {a b : ByteArray} : a.toList = b.toList ↔ bytesOf a = bytesOf b := by
  rw [toList_data, toList_data]
  exact ⟨fun h => by unfold bytesOf; rw [h], fun h => by rw [bytes_inj h]⟩
theorem bytes_append (a b : ByteArray) : bytesOf (a ++ b) = bytesOf a ++ bytesOf b := by
  unfold bytesOf
  rw [ByteArray.data_append, Array.toList_append, List.map_append]
theorem bytes_extract (a : ByteArray) (i j : Nat) : bytesOf (a.extract i j) = ((bytesOf a).take j).drop i := by
  unfold bytesOf
  rw [ByteArray.data_extract, Array.toList_extract, List.extract_eq_take_drop, List.map_take, List.map_drop, List.drop_take]
theorem bytes_range {s : ByteArray} {x : Int} (h : x ∈ bytesOf s) : 0 ≤ x ∧ x ≤ 255 := by
  unfold bytesOf at h
  obtain ⟨b, _, rfl⟩ := List.mem_map.1 h
  have := b.toNat_lt
  omega
theorem bytes_len (s : ByteArray) : (bytesOf s).length = s.size := bytesOf_length s
theorem bt_getD (s : ByteArray) (i : Nat) : bt s (i : Int) = (bytesOf s).getD i 0 := by
  rw [← rd_bytesOf]; unfold rd; simp
theorem at_drop {s : ByteArray} {i : Nat} {b : Int} {t : List Int} (h : (bytesOf s).drop i = b :: t) : bt s (i : Int) = b ∧ i < s.size ∧ (bytesOf s).drop (i + 1) = t ∧ 0 ≤ b ∧ b ≤ 255 := by
  have hl : i < (bytesOf s).length := by
    have := congrArg List.length h
    rw [List.length_drop, List.length_cons] at this
    omega
  have e := List.drop_eq_getElem_cons hl
  rw [h] at e
  injection e with e1 e2
  have hr := bytes_range (s := s) (x := b) (by rw [e1]; exact List.getElem_mem hl)
  refine ⟨?_, by rw [← bytes_len]; exact hl, e2.symm, hr.1, hr.2⟩
  rw [bt_getD, List.getD_eq_getElem?_getD, List.getElem?_eq_getElem hl, e1]
  rfl
theorem end_drop {s : ByteArray} {i : Nat} (h : (bytesOf s).drop i = []) : s.size ≤ i := by
  have := congrArg List.length h
  rw [List.length_drop, bytes_len] at this
  simp at this
  omega
theorem take_next {s : ByteArray} {n : Nat} (h : n < s.size) : (bytesOf s).take (n + 1) = (bytesOf s).take n ++ [bt s (n : Int)] := by
  have hl : n < (bytesOf s).length := by rw [bytes_len]; exact h
  rw [List.take_succ_eq_append_getElem hl, bt_getD, List.getD_eq_getElem?_getD, List.getElem?_eq_getElem hl]
  rfl
theorem bt_rng (s : ByteArray) (i : Int) : 0 ≤ bt s i ∧ bt s i ≤ 255 := bt_range s i
theorem Ev.ret {α : Type} {g : Nat → Option α} {r : α} (h : ∀ k, g k = some r) : Ev g r := ⟨0, fun k _ => h k⟩
theorem Ev.bind' {α β : Type} {g : Nat → Option α} {f : Nat → α → Option β} {a : α} {r : β} (h : Ev g a) (k : Ev (fun n => f n a) r) : Ev (fun n => (g n).bind fun t => f n t) r := Ev.bind h k
theorem Ev.pure_bind {α β : Type} {o : Option α} {f : Nat → α → Option β} {a : α} {r : β} (h : o = some a) (k : Ev (fun n => f n a) r) : Ev (fun n => o.bind fun t => f n t) r := by
  subst h; exact k
theorem Ev.ite_pos {α : Type} {c : Prop} [Decidable c] {g f : Nat → Option α} {r : α} (h : c) (k : Ev g r) : Ev (fun n => if c then g n else f n) r := by
  simp only [if_pos h]; exact k
theorem Ev.ite_neg {α : Type} {c : Prop} [Decidable c] {g f : Nat → Option α} {r : α} (h : ¬ c) (k : Ev f r) : Ev (fun n => if c then g n else f n) r := by
  simp only [if_neg h]; exact k
theorem Ev.ite {α : Type} {c : Prop} [Decidable c] {g f : Nat → Option α} {r : α} (h : c → Ev g r) (k : ¬ c → Ev f r) : Ev (fun n => if c then g n else f n) r := by
  by_cases hc : c
  · exact Ev.ite_pos hc (h hc)
  · exact Ev.ite_neg hc (k hc)
theorem Ev.val {α : Type} {a r : α} (h : a = r) : Ev (fun _ => some a) r := by subst h; exact Ev.now _
def idx (c : Int) : List Int → Int
  | [] => -1
  | b :: t => if b = c then 0 else if idx c t = -1 then -1 else idx c t + 1
theorem idx_ge (c : Int) (l : List Int) : -1 ≤ idx c l := by
  induction l with
  | nil => simp [idx]
  | cons b t ih => unfold idx; split <;> (try split) <;> omega
theorem idx_lt (c : Int) (l : List Int) : idx c l < l.length := by
  induction l with
  | nil => simp [idx]
  | cons b t ih => unfold idx; rw [List.length_cons]; split <;> (try split) <;> omega
theorem idx_none {c : Int} {l : List Int} : idx c l = -1 ↔ c ∉ l := by
  induction l with
  | nil => simp [idx]
  | cons b t ih =>
    have := idx_ge c t
    unfold idx
    by_cases hb : b = c
    · simp [hb]
    · simp only [if_neg hb, List.mem_cons, not_or]
      by_cases h1 : idx c t = -1
      · simp [h1, ih.1 h1, Ne.symm hb]
      · rw [if_neg h1]
        constructor
        · intro h; omega
        · intro h; exact absurd (ih.2 h.2) h1
theorem idx_split {c : Int} {l : List Int} (h : 0 ≤ idx c l) : l = l.take (idx c l).toNat ++ c :: l.drop ((idx c l).toNat + 1) ∧ c ∉ l.take (idx c l).toNat := by
  induction l with
  | nil => simp [idx] at h
  | cons b t ih =>
    unfold idx at h ⊢
    by_cases hb : b = c
    · simp [hb]
    · rw [if_neg hb] at h ⊢
      by_cases h1 : idx c t = -1
      · rw [if_pos h1] at h; omega
      · have hg := idx_ge c t
        rw [if_neg h1]
        obtain ⟨e1, e2⟩ := ih (by omega)
        have e : (idx c t + 1).toNat = (idx c t).toNat + 1 := by omega
        rw [e, List.take_succ_cons, List.drop_succ_cons, List.cons_append]
        refine ⟨by rw [← e1], ?_⟩
        rw [List.mem_cons, not_or]
        exact ⟨Ne.symm hb, e2⟩
def lidx (c : Int) : List Int → Int
  | [] => -1
  | b :: t => if lidx c t = -1 then (if b = c then 0 else -1) else lidx c t + 1
theorem lidx_ge (c : Int) (l : List Int) : -1 ≤ lidx c l := by
  induction l with
  | nil => simp [lidx]
  | cons b t ih => unfold lidx; split <;> (try split) <;> omega
theorem lidx_lt (c : Int) (l : List Int) : lidx c l < l.length := by
  induction l with
  | nil => simp [lidx]
  | cons b t ih => unfold lidx; rw [List.length_cons]; split <;> (try split) <;> omega
theorem lidx_snoc (c : Int) (l : List Int) (b : Int) : lidx c (l ++ [b]) = if b = c then (l.length : Int) else lidx c l := by
  induction l with
  | nil => simp [lidx]
  | cons a t ih =>
    have := lidx_ge c t
    rw [List.cons_append]
    simp only [lidx, ih, List.length_cons]
    by_cases hb : b = c
    · rw [if_pos hb, if_pos hb, if_neg (by omega)]; omega
    · simp only [if_neg hb]
theorem indexByte_idx (l : List UInt8) (c : UInt8) : Go.Lib.indexByte l c = idx (c.toNat : Int) (l.map fun b => (b.toNat : Int)) := by
  induction l with
  | nil => rfl
  | cons b t ih =>
    rw [List.map_cons]
    unfold Go.Lib.indexByte idx
    rw [ih]
    by_cases hb : b = c
    · simp [hb]
    · have h1 : (b == c) = false := by simpa using hb
      have h2 : ¬ ((b.toNat : Int) = (c.toNat : Int)) := fun h => hb (UInt8.toNat_inj.1 (by omega))
      rw [h1, if_neg h2]
      simp only [Bool.false_eq_true, if_false, beq_iff_eq]
theorem indexByte_bytes (s : ByteArray) (c : Int) (h0 : 0 ≤ c) (h1 : c ≤ 255) : Go.Lib.indexByte s.data.toList c.toNat.toUInt8 = idx c (bytesOf s) := by
  rw [indexByte_idx]
  have : ((c.toNat.toUInt8.toNat : Nat) : Int) = c := by
    rw [Nat.toUInt8, UInt8.toNat_ofNat']
    omega
  rw [this]; rfl
theorem byte_all {p : Int → Prop} (h : ∀ n : Fin 256, p ((n.val : Nat) : Int)) {b : Int} (h0 : 0 ≤ b) (h1 : b ≤ 255) : p b := by
  have := h ⟨b.toNat, by omega⟩
  simp only at this
  rwa [Int.toNat_of_nonneg h0] at this
def alpha (b : Int) : Bool := decide (65 ≤ b ∧ b ≤ 90 ∨ 97 ≤ b ∧ b ≤ 122)
def digit (b : Int) : Bool := decide (48 ≤ b ∧ b ≤ 57)
def hexd (b : Int) : Bool := decide (48 ≤ b ∧ b ≤ 57 ∨ 65 ≤ b ∧ b ≤ 70 ∨ 97 ≤ b ∧ b ≤ 102)
def markc (b : Int) : Bool := decide (b = 45 ∨ b = 46 ∨ b = 95 ∨ b = 126)
def subc (b : Int) : Bool := decide (b = 33 ∨ b = 36 ∨ 38 ≤ b ∧ b ≤ 44 ∨ b = 59 ∨ b = 61)
def genc (b : Int) : Bool := decide (b = 58 ∨ b = 47 ∨ b = 63 ∨ b = 35 ∨ b = 91 ∨ b = 93 ∨ b = 64)
def cls (b : Int) : Int := (if alpha b then 1 else 0) + (if digit b then 2 else 0) + (if markc b then 4 else 0) + (if subc b then 8 else 0) + (if genc b then 16 else 0) + (if hexd b then 32 else 0)
def alnum (b : Int) : Bool := alpha b || digit b
def plainc (b : Int) : Bool := alpha b || digit b || markc b || subc b
def isc (b c : Int) : Bool := Go.bits .and .i64 (cls b) c != 0
theorem isc_alpha {b : Int} (h0 : 0 ≤ b) (h1 : b ≤ 255) : isc b 1 = alpha b :=
  byte_all (p := fun b => isc b 1 = alpha b) (by decide +kernel) h0 h1
theorem isc_digit {b : Int} (h0 : 0 ≤ b) (h1 : b ≤ 255) : isc b 2 = digit b :=
  byte_all (p := fun b => isc b 2 = digit b) (by decide +kernel) h0 h1
theorem isc_alnum {b : Int} (h0 : 0 ≤ b) (h1 : b ≤ 255) : isc b 3 = alnum b :=
  byte_all (p := fun b => isc b 3 = alnum b) (by decide +kernel) h0 h1
theorem isc_hex {b : Int} (h0 : 0 ≤ b) (h1 : b ≤ 255) : isc b 32 = hexd b :=
  byte_all (p := fun b => isc b 32 = hexd b) (by decide +kernel) h0 h1
def hv (b : Int) : Int := if 48 ≤ b ∧ b ≤ 57 then b - 48 else if 65 ≤ b ∧ b ≤ 70 then b - 55 else if 97 ≤ b ∧ b ≤ 102 then b - 87 else -1
theorem hv_range (b : Int) : -1 ≤ hv b ∧ hv b ≤ 15 := by unfold hv; (repeat' split) <;> omega
theorem hv_hexd (b : Int) : (0 ≤ hv b) ↔ hexd b = true := by
  unfold hv hexd
  rw [decide_eq_true_iff]
  (repeat' split) <;> omega
theorem hv_neg (b : Int) : (hv b < 0) ↔ hexd b = false := by
  have h1 := hv_hexd b
  rw [← Bool.not_eq_true, ← h1]
  omega
def fidx (p : Int → Bool) : List Int → Int
  | [] => -1
  | b :: t => if p b then 0 else if fidx p t = -1 then -1 else fidx p t + 1
theorem fidx_cons (p : Int → Bool) (b : Int) (t : List Int) : fidx p (b :: t) = if p b then 0 else if fidx p t = -1 then -1 else fidx p t + 1 := rfl
theorem fidx_ge (p : Int → Bool) (l : List Int) : -1 ≤ fidx p l := by
  induction l with
  | nil => simp [fidx]
  | cons b t ih => unfold fidx; split <;> (try split) <;> omega
def spanp (p : Int → Bool) : List Int → Nat
  | [] => 0
  | b :: t => if p b then spanp p t + 1 else 0
theorem spanp_le (p : Int → Bool) (l : List Int) : spanp p l ≤ l.length := by
  induction l with
  | nil => simp [spanp]
  | cons b t ih => unfold spanp; rw [List.length_cons]; split <;> omega
theorem spanp_all {p : Int → Bool} {l : List Int} : spanp p l = l.length ↔ ∀ b ∈ l, p b = true := by
  induction l with
  | nil => simp [spanp]
  | cons b t ih =>
    unfold spanp
    cases hb : p b
    · simp [hb]
    · simp [hb, ← ih]
theorem spanp_take {p : Int → Bool} (l : List Int) : ∀ b ∈ l.take (spanp p l), p b = true := by
  induction l with
  | nil => simp [spanp]
  | cons b t ih =>
    unfold spanp
    cases hb : p b
    · simp
    · simp only [if_true, List.take_succ_cons]
      intro c hc
      rcases List.mem_cons.1 hc with rfl | hc
      · exact hb
      · exact ih c hc
theorem spanp_next {p : Int → Bool} {l : List Int} {b : Int} {t : List Int} (h : l.drop (spanp p l) = b :: t) : p b = false := by
  induction l with
  | nil => simp [spanp] at h
  | cons c r ih =>
    unfold spanp at h
    cases hc : p c
    · rw [hc] at h
      simp at h
      rw [← h.1]; exact hc
    · rw [hc] at h
      simp only [if_true, List.drop_succ_cons] at h
      exact ih h
def shp (b : Int) : Int × Int × Int :=
  if b < 128 then (1, 0, 0) else if 194 ≤ b ∧ b ≤ 223 then (2, 128, 191) else if b = 224 then (3, 160, 191) else if b = 237 then (3, 128, 159)
  else if 225 ≤ b ∧ b ≤ 239 then (3, 128, 191) else if b = 240 then (4, 144, 191) else if b = 244 then (4, 128, 143) else if 241 ≤ b ∧ b ≤ 243 then (4, 128, 191) else (0, 0, 0)
def conts : Nat → Int → Int → List Int → Nat
  | 0, _, _, _ => 0
  | _ + 1, _, _, [] => 0
  | n + 1, lo, hi, c :: t => if lo ≤ c ∧ c ≤ hi then conts n 128 191 t + 1 else 0
def accum (r : Int) : List Int → Int
  | [] => r
  | c :: t => accum (r * 64 + (c - 128)) t
def lead (n b : Int) : Int := if n = 1 then b else if n = 2 then b - 192 else if n = 3 then b - 224 else b - 240
def dec : List Int → Int × Int × Bool
  | [] => (0, 0, false)
  | b :: t => if (shp b).1 = 0 then (0, 1, false)
    else if (conts ((shp b).1.toNat - 1) (shp b).2.1 (shp b).2.2 t : Int) + 1 < (shp b).1 then (0, (conts ((shp b).1.toNat - 1) (shp b).2.1 (shp b).2.2 t : Int) + 1, false)
    else (accum (lead (shp b).1 b) (t.take ((shp b).1.toNat - 1)), (shp b).1, true)
theorem dec_cons (b : Int) (t : List Int) : dec (b :: t) = if (shp b).1 = 0 then (0, 1, false)
    else if (conts ((shp b).1.toNat - 1) (shp b).2.1 (shp b).2.2 t : Int) + 1 < (shp b).1 then (0, (conts ((shp b).1.toNat - 1) (shp b).2.1 (shp b).2.2 t : Int) + 1, false)
    else (accum (lead (shp b).1 b) (t.take ((shp b).1.toNat - 1)), (shp b).1, true) := rfl
theorem shp_range (b : Int) : 0 ≤ (shp b).1 ∧ (shp b).1 ≤ 4 := by
  unfold shp
  (repeat' split) <;> simp
theorem shp_bounds {b : Int} (h : 2 ≤ (shp b).1) : 128 ≤ (shp b).2.1 ∧ (shp b).2.2 ≤ 191 := by
  revert h
  unfold shp
  (repeat' split) <;> simp
theorem shp_lead {b : Int} (h0 : 0 ≤ b) (h1 : b ≤ 255) (h : 1 ≤ (shp b).1) : 0 ≤ lead (shp b).1 b ∧ lead (shp b).1 b < 128 := by
  have := byte_all (p := fun b => 1 ≤ (shp b).1 → 0 ≤ lead (shp b).1 b ∧ lead (shp b).1 b < 128) (by decide +kernel) h0 h1
  exact this h
theorem conts_le (n : Nat) (lo hi : Int) (l : List Int) : conts n lo hi l ≤ n ∧ conts n lo hi l ≤ l.length := by
  induction n generalizing lo hi l with
  | zero => simp [conts]
  | succ n ih =>
    cases l with
    | nil => simp [conts]
    | cons c t =>
      unfold conts
      have := ih 128 191 t
      rw [List.length_cons]
      split <;> omega
theorem conts_mem (n : Nat) (lo hi : Int) (h0 : 128 ≤ lo) (h1 : hi ≤ 191) (l : List Int) : ∀ c ∈ l.take (conts n lo hi l), 128 ≤ c ∧ c ≤ 191 := by
  induction n generalizing lo hi l with
  | zero => simp [conts]
  | succ n ih =>
    cases l with
    | nil => simp [conts]
    | cons c t =>
      unfold conts
      split
      · rename_i h
        simp only [List.take_succ_cons]
        intro d hd
        rcases List.mem_cons.1 hd with rfl | hd
        · omega
        · exact ih 128 191 (by omega) (by omega) t d hd
      · simp
theorem conts_one (lo hi : Int) (l : List Int) : conts 0 lo hi l = 0 := by unfold conts; rfl
theorem dec_n (l : List Int) : 0 ≤ (dec l).2.1 ∧ (dec l).2.1 ≤ 4 ∧ (dec l).2.1 ≤ l.length := by
  cases l with
  | nil => simp [dec]
  | cons b t =>
    have h1 := shp_range b
    have h2 := conts_le ((shp b).1.toNat - 1) (shp b).2.1 (shp b).2.2 t
    rw [List.length_cons, dec_cons]
    split
    · simp only; omega
    · split
      · simp only
        omega
      · simp only
        omega
theorem dec_pos {b : Int} {t : List Int} : 1 ≤ (dec (b :: t)).2.1 := by
  have h1 := shp_range b
  rw [dec_cons]
  split
  · simp
  · split <;> simp only <;> omega
theorem dec_ascii {b : Int} (t : List Int) (h : b < 128) : dec (b :: t) = (b, 1, true) := by
  have : shp b = (1, 0, 0) := by unfold shp; rw [if_pos h]
  rw [dec_cons, this]
  simp [conts, lead, accum]
theorem dec_ok_n {l : List Int} (ok : (dec l).2.2 = true) : 1 ≤ (dec l).2.1 := by
  cases l with
  | nil => cases ok
  | cons b t => exact dec_pos
end Go.Proofs.YtpmflpeckoeooaaDoor.M
namespace Go.Proofs.YtpmflpeckoeooaaDoor.Y
open Go.RowKit Go.Proofs.YtpmflpeckoeooaaDoor.X Go.Proofs.YtpmflpeckoeooaaDoor.M Go.Proofs.YtpmflpeckoeooaaDoorW.PrintWords Go.Proofs.YtpmflpeckoeooaaDoorW.PrintLast Go.Proofs.YtpmflpeckoeooaaDoorW.PrintMore
theorem class_f {b : Int} (h0 : 0 ≤ b) (h1 : b ≤ 255) : Ev (fun k => octet_Class.f k b) (cls b) :=
  Ev.of (fun k => octet_Class.mono b k) (k := 12) (byte_all (p := fun b => octet_Class.f 12 b = some (cls b)) (by decide +kernel) h0 h1)
theorem is_f {b : Int} (c : Int) (h0 : 0 ≤ b) (h1 : b ≤ 255) : Ev (fun k => octet_Is.f k b c) (isc b c) := Ev.bind' (class_f h0 h1) (Ev.now _)
theorem value_f {b : Int} (h0 : 0 ≤ b) (h1 : b ≤ 255) : Ev (fun k => octet_Value.f k b) (if hv b < 0 then (0, false) else (hv b, true)) :=
  Ev.of (fun k => octet_Value.mono b k) (k := 14) (byte_all (p := fun b => octet_Value.f 14 b = some (if hv b < 0 then (0, false) else (hv b, true))) (by decide +kernel) h0 h1)
theorem at_or_end (s : ByteArray) (n : Nat) (h : n ≤ s.size) : (n = s.size ∧ (bytesOf s).drop n = []) ∨ (n < s.size ∧ (bytesOf s).drop n = bt s (n : Int) :: (bytesOf s).drop (n + 1) ∧ 0 ≤ bt s (n : Int) ∧ bt s (n : Int) ≤ 255) := by
  rcases Nat.lt_or_ge n s.size with h1 | h1
  · right
    have hl : n < (bytesOf s).length := by rw [bytes_len]; exact h1
    refine ⟨h1, ?_, (bt_rng s n).1, (bt_rng s n).2⟩
    rw [List.drop_eq_getElem_cons hl, bt_getD, List.getD_eq_getElem?_getD, List.getElem?_eq_getElem hl]
    rfl
  · left
    exact ⟨by omega, List.drop_of_length_le (by rw [bytes_len]; exact h1)⟩
theorem at_begin (s : ByteArray) : (s.size = 0 ∧ bytesOf s = []) ∨ (0 < s.size ∧ bytesOf s = bt s 0 :: (bytesOf s).drop 1 ∧ 0 ≤ bt s 0 ∧ bt s 0 ≤ 255) := by
  have := at_or_end s 0 (by omega)
  rw [List.drop_zero] at this
  rcases this with ⟨h, e⟩ | h
  · exact .inl ⟨h.symm, e⟩
  · exact .inr h
theorem octSpan_l0 (s : ByteArray) (c : Int) (hs : s.size ≤ 140737488351232) : ∀ d n : Nat, n + d = s.size → Ev (fun k => octet_Span.l0 k s c (s.size : Int) (n : Int)) ((n : Int) + spanp (fun b => isc b c) ((bytesOf s).drop n)) := by
  intro d
  induction d with
  | zero =>
    intro n hn
    refine Ev.step (fun k => rfl) ?_
    refine Ev.ite_neg (by omega) ?_
    rw [List.drop_of_length_le (by rw [bytes_len]; omega)]
    have : ((n : Int) + ((spanp (fun b => isc b c) [] : Nat) : Int)) = (s.size : Int) := by simp [spanp]; omega
    rw [this]
    exact Ev.now _
  | succ d ih =>
    intro n hn
    rcases at_or_end s n (by omega) with ⟨h, _⟩ | ⟨h, e, b0, b1⟩
    · omega
    refine Ev.step (fun k => rfl) ?_
    refine Ev.ite_pos (by omega) (Ev.ite_pos (by omega) (Ev.ite_pos (by omega) (Ev.bind' (is_f c b0 b1) ?_)))
    rw [e]
    cases hb : isc (bt s n) c
    · refine Ev.ite_neg (by simp) ?_
      simp only [spanp, hb, Bool.false_eq_true, if_false]
      exact Ev.now _
    · refine Ev.ite_pos rfl ?_
      rw [w64 (by omega) (by omega)]
      have := ih (n + 1) (by omega)
      simp only [spanp, hb, if_true]
      have e2 : ((n : Int) + ((spanp (fun b => isc b c) ((bytesOf s).drop (n + 1)) + 1 : Nat) : Int)) = ((n + 1 : Nat) : Int) + (spanp (fun b => isc b c) ((bytesOf s).drop (n + 1)) : Int) := by omega
      rw [e2]
      exact this
theorem octSpan_f (s : ByteArray) (c : Int) (hs : s.size ≤ 140737488351232) : Ev (fun k => octet_Span.f k s c) (spanp (fun b => isc b c) (bytesOf s) : Int) := by
  have := octSpan_l0 s c hs s.size 0 (by omega)
  unfold octet_Span.f
  simpa using this
theorem find_l1 (s t : ByteArray) (hs : s.size ≤ 140737488351232) (ht : t.size ≤ 140737488351232) (i : Nat) (hi : i < s.size) (r : Int) (next : Ev (fun k => octet_Find.l0 k s t ((i + 1 : Nat) : Int)) r) : ∀ d n : Nat, n + d = t.size →
    Ev (fun k => octet_Find.l1 k s t (i : Int) (t.size : Int) (n : Int)) (if ((bytesOf t).drop n).contains (bt s i) then (i : Int) else r) := by
  intro d
  induction d with
  | zero =>
    intro n hn
    refine Ev.step (fun k => rfl) (Ev.ite_neg (by omega) ?_)
    rw [List.drop_of_length_le (by rw [bytes_len]; omega), w64 (by omega) (by omega)]
    exact next
  | succ d ih =>
    intro n hn
    rcases at_or_end t n (by omega) with ⟨h, _⟩ | ⟨h, e, b0, b1⟩
    · omega
    refine Ev.step (fun k => rfl) (Ev.ite_pos (by omega) (Ev.ite_pos (by omega) (Ev.ite_pos (by omega) (Ev.ite_pos (by omega) (Ev.ite_pos (by omega) ?_)))))
    rw [e, List.contains_cons]
    by_cases hb : bt s i = bt t n
    · refine Ev.ite_pos hb ?_
      have : (bt s (i : Int) == bt t (n : Int)) = true := by simpa using hb
      rw [this]
      exact Ev.now _
    · refine Ev.ite_neg hb ?_
      rw [w64 (by omega) (by omega)]
      have : (bt s (i : Int) == bt t (n : Int)) = false := by simpa using hb
      rw [this, Bool.false_or]
      exact ih (n + 1) (by omega)
theorem find_l0 (s t : ByteArray) (hs : s.size ≤ 140737488351232) (ht : t.size ≤ 140737488351232) : ∀ d n : Nat, n + d = s.size →
    Ev (fun k => octet_Find.l0 k s t (n : Int)) (let j := fidx (fun b => (bytesOf t).contains b) ((bytesOf s).drop n); if j = -1 then -1 else (n : Int) + j) := by
  intro d
  induction d with
  | zero =>
    intro n hn
    refine Ev.step (fun k => rfl) (Ev.ite_neg (by omega) ?_)
    rw [List.drop_of_length_le (by rw [bytes_len]; omega)]
    exact Ev.now _
  | succ d ih =>
    intro n hn
    rcases at_or_end s n (by omega) with ⟨h, _⟩ | ⟨h, e, b0, b1⟩
    · omega
    refine Ev.step (fun k => rfl) (Ev.ite_pos (by omega) ?_)
    have h1 := find_l1 s t hs ht n h _ (ih (n + 1) (by omega)) t.size 0 (by omega)
    simp only [List.drop_zero] at h1
    rw [e]
    have hg := fidx_ge (fun b => (bytesOf t).contains b) ((bytesOf s).drop (n + 1))
    have key : (if (bytesOf t).contains (bt s (n : Int)) = true then (n : Int) else (let j := fidx (fun b => (bytesOf t).contains b) ((bytesOf s).drop (n + 1)); if j = -1 then -1 else ((n + 1 : Nat) : Int) + j)) = (let j := fidx (fun b => (bytesOf t).contains b) (bt s (n : Int) :: (bytesOf s).drop (n + 1)); if j = -1 then -1 else (n : Int) + j) := by
      generalize hq : (fun b => (bytesOf t).contains b) = q at *
      have hq2 : (bytesOf t).contains (bt s (n : Int)) = q (bt s (n : Int)) := by rw [← hq]
      rw [hq2]
      by_cases hc : q (bt s (n : Int)) = true
      · have hz : fidx q (bt s (n : Int) :: (bytesOf s).drop (n + 1)) = 0 := by rw [fidx_cons, if_pos hc]
        simp only [hz, if_pos hc]
        simp
      · by_cases hj : fidx q ((bytesOf s).drop (n + 1)) = -1
        · have hz : fidx q (bt s (n : Int) :: (bytesOf s).drop (n + 1)) = -1 := by rw [fidx_cons, if_neg hc, if_pos hj]
          simp only [hz, hj, if_neg hc, if_true]
        · have hz : fidx q (bt s (n : Int) :: (bytesOf s).drop (n + 1)) = fidx q ((bytesOf s).drop (n + 1)) + 1 := by
            rw [fidx_cons, if_neg hc, if_neg hj]
          simp only [hz, if_neg hc, if_neg hj]
          rw [if_neg (by omega)]
          omega
    rw [← key]
    exact h1
theorem find_f (s t : ByteArray) (n : Nat) (hn : n ≤ s.size) (hs : s.size ≤ 140737488351232) (ht : t.size ≤ 140737488351232) :
    Ev (fun k => octet_Find.f k s (n : Int) t) (let j := fidx (fun b => (bytesOf t).contains b) ((bytesOf s).drop n); if j = -1 then -1 else (n : Int) + j) := by
  unfold octet_Find.f
  have : mx (n : Int) 0 = (n : Int) := by unfold mx; rw [if_neg (by omega)]
  rw [this]
  exact find_l0 s t hs ht (s.size - n) n (by omega)
end Go.Proofs.YtpmflpeckoeooaaDoor.Y
namespace Go.Proofs.YtpmflpeckoeooaaDoor.Y
open Go.RowKit Go.Proofs.YtpmflpeckoeooaaDoor.X Go.Proofs.YtpmflpeckoeooaaDoor.M Go.Proofs.YtpmflpeckoeooaaDoorW.PrintWords Go.Proofs.YtpmflpeckoeooaaDoorW.PrintLast Go.Proofs.YtpmflpeckoeooaaDoorW.PrintMore
set_option linter.unusedVariables false
theorem shape_f {b : Int} (h0 : 0 ≤ b) (h1 : b ≤ 255) : Ev (fun k => utf_shape.f k b) (shp b) :=
  Ev.of (fun k => utf_shape.mono b k) (k := 6) (byte_all (p := fun b => utf_shape.f 6 b = some (shp b)) (by decide +kernel) h0 h1)
theorem front_l0 (s : ByteArray) (hs : s.size ≤ 140737488351232) (n : Nat) (_ : n ≤ 4) : ∀ d i : Nat, ∀ lo hi : Int, i + d = n → Ev (fun k => utf_front.l0 k s (n : Int) lo hi (i : Int)) ((i : Int) + conts (n - i) lo hi ((bytesOf s).drop i), (n : Int)) := by
  intro d
  induction d with
  | zero =>
    intro i lo hi hi2
    refine Ev.step (fun k => rfl) (Ev.ite_neg (by omega) ?_)
    rw [show n - i = 0 by omega, conts_one]
    simp only [Int.natCast_zero, Int.add_zero]
    exact Ev.now _
  | succ d ih =>
    intro i lo hi hi2
    refine Ev.step (fun k => rfl) (Ev.ite_pos (by omega) ?_)
    rw [show n - i = (n - (i + 1)) + 1 by omega]
    rcases Nat.lt_or_ge i s.size with h | h
    · rcases at_or_end s i (by omega) with ⟨h2, _⟩ | ⟨_, e, b0, b1⟩
      · omega
      refine Ev.ite_pos (by omega) (Ev.ite_pos (by omega) ?_)
      rw [e]
      by_cases h1 : lo ≤ bt s i
      · refine Ev.ite_pos h1 ?_
        by_cases h2 : bt s i ≤ hi
        · refine Ev.ite_pos h2 ?_
          rw [w64 (by omega) (by omega)]
          unfold conts
          rw [if_pos ⟨h1, h2⟩]
          have := ih (i + 1) 128 191 (by omega)
          have e3 : ((i : Int) + ((conts (n - (i + 1)) 128 191 ((bytesOf s).drop (i + 1)) + 1 : Nat) : Int), (n : Int)) = (((i + 1 : Nat) : Int) + (conts (n - (i + 1)) 128 191 ((bytesOf s).drop (i + 1)) : Int), (n : Int)) := by
            congr 1; omega
          rw [e3]
          exact this
        · refine Ev.ite_neg h2 ?_
          unfold conts
          rw [if_neg (fun x => h2 x.2)]
          simp only [Int.natCast_zero, Int.add_zero]
          exact Ev.now _
      · refine Ev.ite_neg h1 ?_
        unfold conts
        rw [if_neg (fun x => h1 x.1)]
        simp only [Int.natCast_zero, Int.add_zero]
        exact Ev.now _
    · refine Ev.ite_neg (by omega) ?_
      rw [List.drop_of_length_le (by rw [bytes_len]; exact h)]
      unfold conts
      simp only [Int.natCast_zero, Int.add_zero]
      exact Ev.now _
def frontS : List Int → Int × Int
  | [] => (0, 0)
  | b :: t => if (shp b).1 = 0 then (1, 0) else ((conts ((shp b).1.toNat - 1) (shp b).2.1 (shp b).2.2 t : Int) + 1, (shp b).1)
theorem frontS_cons (b : Int) (t : List Int) : frontS (b :: t) = if (shp b).1 = 0 then (1, 0) else ((conts ((shp b).1.toNat - 1) (shp b).2.1 (shp b).2.2 t : Int) + 1, (shp b).1) := rfl
theorem front_f (s : ByteArray) (hs : s.size ≤ 140737488351232) : Ev (fun k => utf_front.f k s) (frontS (bytesOf s)) := by
  unfold utf_front.f
  rcases at_begin s with ⟨h, e⟩ | ⟨h, e, b0, b1⟩
  · rw [e]
    exact Ev.ite_pos (by omega) (Ev.now _)
  · rw [e, frontS_cons]
    refine Ev.ite_neg (by omega) (Ev.ite_pos (by omega) (Ev.bind' (shape_f b0 b1) ?_))
    by_cases hz : (shp (bt s 0)).1 = 0
    · rw [if_pos hz]
      exact Ev.ite_pos hz (Ev.now _)
    · rw [if_neg hz]
      refine Ev.ite_neg hz ?_
      have hr := shp_range (bt s 0)
      have := front_l0 s hs (shp (bt s 0)).1.toNat (by omega) ((shp (bt s 0)).1.toNat - 1) 1 (shp (bt s 0)).2.1 (shp (bt s 0)).2.2 (by omega)
      rw [Int.toNat_of_nonneg hr.1] at this
      have e3 : ((conts ((shp (bt s 0)).1.toNat - 1) (shp (bt s 0)).2.1 (shp (bt s 0)).2.2 ((bytesOf s).drop 1) : Int) + 1, (shp (bt s 0)).1) = ((((1 : Nat) : Int) + (conts ((shp (bt s 0)).1.toNat - 1) (shp (bt s 0)).2.1 (shp (bt s 0)).2.2 ((bytesOf s).drop 1) : Int)), (shp (bt s 0)).1) := by
        congr 1; omega
      rw [e3]
      exact this
def bnd : Nat → Int
  | 0 => 33554432
  | 1 => 524288
  | 2 => 8192
  | _ => 128
theorem bnd_step {d : Nat} (hd : d < 3) {r c : Int} (h0 : 0 ≤ r) (h : r < bnd (d + 1)) (c0 : 128 ≤ c) (c1 : c ≤ 191) : 0 ≤ r * 64 + (c - 128) ∧ r * 64 + (c - 128) < bnd d ∧ r * 64 < 2147483648 := by
  rcases d with _ | _ | _ | d
  · simp only [bnd] at *; omega
  · simp only [bnd] at *; omega
  · simp only [bnd] at *; omega
  · omega
theorem take_drop_cons {s : ByteArray} {i n : Nat} (h : i < s.size) (hn : i < n) : ((bytesOf s).take n).drop i = bt s (i : Int) :: ((bytesOf s).take n).drop (i + 1) := by
  rcases at_or_end s i (by omega) with ⟨h2, _⟩ | ⟨_, e, b0, b1⟩
  · omega
  · rw [List.drop_take, List.drop_take, e, show n - i = (n - (i + 1)) + 1 by omega, List.take_succ_cons]
theorem decode_l0 (s : ByteArray) (hs : s.size ≤ 140737488351232) (n : Nat) (hn : n ≤ s.size) : ∀ d i : Nat, ∀ r : Int, i + d = n → d ≤ 3 → 0 ≤ r → r < bnd d → (∀ c ∈ ((bytesOf s).take n).drop i, 128 ≤ c ∧ c ≤ 191) →
    Ev (fun k => utf_Decode.l0 k s r (n : Int) (i : Int)) (accum r (((bytesOf s).take n).drop i), (n : Int), true) := by
  intro d
  induction d with
  | zero =>
    intro i r hi _ _ _ _
    refine Ev.step (fun k => rfl) (Ev.ite_neg (by omega) ?_)
    rw [List.drop_of_length_le (by rw [List.length_take, bytes_len]; omega)]
    exact Ev.now _
  | succ d ih =>
    intro i r hi hd r0 r1 hc
    have e := take_drop_cons (s := s) (i := i) (n := n) (by omega) (by omega)
    rw [e] at hc ⊢
    obtain ⟨c0, c1⟩ := hc _ (List.mem_cons_self ..)
    have hb := bnd_step (by omega) r0 r1 c0 c1
    refine Ev.step (fun k => rfl) (Ev.ite_pos (by omega) (Ev.ite_pos (by omega) (Ev.ite_pos (by omega) ?_)))
    rw [w64 (by omega) (by omega), u8_and63 _ (by omega) (by omega)]
    have e1 : wrap32 (bt s (i : Int) % 64) = bt s (i : Int) % 64 := by unfold wrap32; omega
    have e2 : wrap32 (r * 64) = r * 64 := by unfold wrap32; omega
    rw [e1, e2, i32_or6 _ _ (by omega) (by omega) (by omega) (by omega) (by omega)]
    have e3 : r * 64 + bt s (i : Int) % 64 = r * 64 + (bt s (i : Int) - 128) := by omega
    rw [e3]
    exact ih (i + 1) _ (by omega) (by omega) hb.1 hb.2.1 (fun c h => hc c (List.mem_cons_of_mem _ h))
theorem and_mask {b : Int} (h0 : 0 ≤ b) (h1 : b ≤ 255) : (b < 128 → Go.bits .and .u8 b 127 = b) ∧ Go.bits .and .u8 b 31 = b % 32 ∧ Go.bits .and .u8 b 15 = b % 16 ∧ Go.bits .and .u8 b 7 = b % 8 :=
  ⟨byte_all (p := fun b => b < 128 → Go.bits .and .u8 b 127 = b) (by decide +kernel) h0 h1, u8_and31 _ (by omega) (by omega), u8_and15 _ (by omega) (by omega), u8_and7 _ (by omega) (by omega)⟩
theorem lead_mask {b : Int} (h0 : 0 ≤ b) (h1 : b ≤ 255) : ((shp b).1 = 1 → b < 128 ∧ lead (shp b).1 b = b) ∧ ((shp b).1 = 2 → b % 32 = lead (shp b).1 b) ∧ ((shp b).1 = 3 → b % 16 = lead (shp b).1 b) ∧ ((shp b).1 = 4 → b % 8 = lead (shp b).1 b) :=
  byte_all (p := fun b => ((shp b).1 = 1 → b < 128 ∧ lead (shp b).1 b = b) ∧ ((shp b).1 = 2 → b % 32 = lead (shp b).1 b) ∧ ((shp b).1 = 3 → b % 16 = lead (shp b).1 b) ∧ ((shp b).1 = 4 → b % 8 = lead (shp b).1 b)) (by decide +kernel) h0 h1
theorem decode_f (s : ByteArray) (hs : s.size ≤ 140737488351232) : Ev (fun k => utf_Decode.f k s) (dec (bytesOf s)) := by
  unfold utf_Decode.f
  refine Ev.bind' (front_f s hs) ?_
  rcases at_begin s with ⟨h, e⟩ | ⟨h, e, b0, b1⟩
  · rw [e]
    refine Ev.ite_pos (by simp [frontS]) ?_
    refine Ev.step (fun k => by rw [utf_Decode.j0]) ?_
    exact Ev.ite_pos rfl (Ev.now _)
  · have hr := shp_range (bt s 0)
    rw [e, frontS_cons, dec_cons]
    by_cases hz : (shp (bt s 0)).1 = 0
    · simp only [if_pos hz]
      refine Ev.ite_pos (by simp) ?_
      refine Ev.step (fun k => by rw [utf_Decode.j0]) ?_
      exact Ev.ite_pos rfl (Ev.now _)
    · simp only [if_neg hz]
      have hcl := conts_le ((shp (bt s 0)).1.toNat - 1) (shp (bt s 0)).2.1 (shp (bt s 0)).2.2 ((bytesOf s).drop 1)
      have hcm : 2 ≤ (shp (bt s 0)).1 → ∀ c ∈ ((bytesOf s).drop 1).take (conts ((shp (bt s 0)).1.toNat - 1) (shp (bt s 0)).2.1 (shp (bt s 0)).2.2 ((bytesOf s).drop 1)), 128 ≤ c ∧ c ≤ 191 :=
        fun h2 => conts_mem _ _ _ (shp_bounds h2).1 (shp_bounds h2).2 _
      rw [List.length_drop, bytes_len] at hcl
      revert hcl hcm
      generalize conts ((shp (bt s 0)).1.toNat - 1) (shp (bt s 0)).2.1 (shp (bt s 0)).2.2 ((bytesOf s).drop 1) = m
      intro hcl hcm
      refine Ev.step (fun k => by rw [utf_Decode.j0]) ?_
      by_cases hlt : (m : Int) + 1 < (shp (bt s 0)).1
      · rw [if_pos hlt]
        exact Ev.ite_pos (by simpa using hlt) (Ev.now _)
      · rw [if_neg hlt]
        refine Ev.ite_neg (by simpa using hlt) (Ev.ite_pos (by omega) (Ev.ite_pos (by omega) ?_))
        have hm : m = (shp (bt s 0)).1.toNat - 1 := by omega
        have hl := shp_lead b0 b1 (by omega)
        have hmk := lead_mask b0 b1
        have ham := and_mask b0 b1
        have key : ∀ n : Nat, (n : Int) = (shp (bt s 0)).1 → 1 ≤ n → ∀ r : Int, r = lead (shp (bt s 0)).1 (bt s 0) → Ev (fun k => utf_Decode.l0 k s r (shp (bt s 0)).1 1) (accum (lead (shp (bt s 0)).1 (bt s 0)) (((bytesOf s).drop 1).take ((shp (bt s 0)).1.toNat - 1)), (shp (bt s 0)).1, true) := by
          intro n hn h1n r hrl
          have hbn : r < bnd (n - 1) := by
            rw [hrl]
            rcases n with _ | _ | _ | _ | _ | n
            · omega
            · exact Int.lt_of_lt_of_le hl.2 (by decide)
            · exact Int.lt_of_lt_of_le hl.2 (by decide)
            · exact Int.lt_of_lt_of_le hl.2 (by decide)
            · exact Int.lt_of_lt_of_le hl.2 (by decide)
            · omega
          have := decode_l0 s hs n (by omega) (n - 1) 1 r (by omega) (by omega) (by omega) hbn (by
            intro c hc
            rw [List.drop_take] at hc
            by_cases h2 : 2 ≤ (shp (bt s 0)).1
            · exact hcm h2 c (by rw [hm, ← hn, Int.toNat_natCast]; exact hc)
            · rw [show n - 1 = 0 by omega] at hc
              simp at hc)
          rw [hn, List.drop_take] at this
          rw [← hrl, show (shp (bt s 0)).1.toNat - 1 = n - 1 by omega]
          exact this
        refine Ev.ite_neg hz ?_
        by_cases h1 : (shp (bt s 0)).1 = 1
        · refine Ev.ite_pos h1 ?_
          refine key 1 (by omega) (by omega) _ ?_
          rw [ham.1 (hmk.1 h1).1, (hmk.1 h1).2]
          have := (hmk.1 h1).1
          unfold wrap32; omega
        refine Ev.ite_neg h1 ?_
        by_cases h2 : (shp (bt s 0)).1 = 2
        · refine Ev.ite_pos h2 ?_
          refine key 2 (by omega) (by omega) _ ?_
          rw [ham.2.1, hmk.2.1 h2]
          unfold wrap32; omega
        refine Ev.ite_neg h2 ?_
        by_cases h3 : (shp (bt s 0)).1 = 3
        · refine Ev.ite_pos h3 ?_
          refine key 3 (by omega) (by omega) _ ?_
          rw [ham.2.2.1, hmk.2.2.1 h3]
          unfold wrap32; omega
        have h4 : (shp (bt s 0)).1 = 4 := by omega
        refine Ev.ite_neg h3 (Ev.ite_pos h4 ?_)
        refine key 4 (by omega) (by omega) _ ?_
        rw [ham.2.2.2, hmk.2.2.2 h4]
        unfold wrap32; omega
end Go.Proofs.YtpmflpeckoeooaaDoor.Y
namespace Go.Proofs.YtpmflpeckoeooaaDoor.M
open Go Go.RowKit Go.Proofs.YtpmflpeckoeooaaDoorW.PrintWords
set_option linter.unusedVariables false
def escH : List Int → Int
  | p :: a :: b :: _ => if p = 37 then (if hv a < 0 ∨ hv b < 0 then -1 else 16 * hv a + hv b) else -1
  | _ => -1
theorem escH_pos {l : List Int} (h : 0 ≤ escH l) : ∃ a b t, l = 37 :: a :: b :: t ∧ hexd a = true ∧ hexd b = true ∧ escH l = 16 * hv a + hv b := by
  unfold escH at h ⊢
  split at h
  · rename_i p a b t
    by_cases hp : p = 37
    · rw [if_pos hp] at h ⊢
      by_cases h2 : hv a < 0 ∨ hv b < 0
      · rw [if_pos h2] at h; omega
      · rw [if_neg h2]
        subst hp
        exact ⟨a, b, t, rfl, (hv_hexd a).1 (by omega), (hv_hexd b).1 (by omega), rfl⟩
    · rw [if_neg hp] at h; omega
  · omega
def place (p : Int) : Bool := decide (1 ≤ p ∧ p ≤ 7)
def extraIn (p b : Int) : Bool :=
  if p = 1 then b == 58 else if p = 3 then b == 58 || b == 64 else if p = 4 then b == 64 else if p = 5 then b == 58 || b == 64 || b == 47
  else if p = 6 ∨ p = 7 then b == 58 || b == 64 || b == 47 || b == 63 else false
def plainAt (p b : Int) : Bool := place p && (plainc b || extraIn p b)
def common (r : Int) : Bool := decide (160 ≤ r ∧ r ≤ 55295 ∨ 63744 ≤ r ∧ r ≤ 64975 ∨ 65008 ≤ r ∧ r ≤ 65519 ∨ 65536 ≤ r ∧ r ≤ 983037 ∧ r % 65536 ≤ 65533 ∧ (r < 917504 ∨ 921600 ≤ r))
def priv (r : Int) : Bool := decide (57344 ≤ r ∧ r ≤ 63743 ∨ 983040 ≤ r ∧ r ≤ 1048573 ∨ 1048576 ≤ r ∧ r ≤ 1114109)
def mayAt (p : Int) (iri : Bool) (r : Int) : Bool := if 0 ≤ r ∧ r < 128 then plainAt p r else (iri && place p && (common r || (decide (p = 6) && priv r)))
def stepAt (p : Int) (iri : Bool) (l : List Int) : Nat :=
  if place p then (if 0 ≤ escH l then 3 else if (dec l).2.2 && mayAt p iri (dec l).1 then (dec l).2.1.toNat else 0) else 0
theorem step_le (p : Int) (iri : Bool) (l : List Int) : stepAt p iri l ≤ l.length := by
  unfold stepAt
  split
  · split
    · rename_i h
      obtain ⟨a, b, t, rfl, _⟩ := escH_pos h
      simp
    · split
      · have := dec_n l; omega
      · omega
  · omega
theorem step_nil (p : Int) (iri : Bool) : stepAt p iri [] = 0 := by
  have := step_le p iri []
  simpa using this
def spanAt (p : Int) (iri : Bool) (l : List Int) : Nat :=
  if h : stepAt p iri l = 0 then 0 else stepAt p iri l + spanAt p iri (l.drop (stepAt p iri l))
termination_by l.length
decreasing_by
  have := step_le p iri l
  rw [List.length_drop]
  omega
theorem span_eq (p : Int) (iri : Bool) (l : List Int) : spanAt p iri l = if stepAt p iri l = 0 then 0 else stepAt p iri l + spanAt p iri (l.drop (stepAt p iri l)) := by
  rw [spanAt]
  split <;> simp_all
theorem span_le (p : Int) (iri : Bool) (l : List Int) : spanAt p iri l ≤ l.length := by
  induction hn : l.length using Nat.strongRecOn generalizing l with
  | _ n ih =>
    rw [span_eq]
    split
    · omega
    · have h1 := step_le p iri l
      have := ih (l.drop (stepAt p iri l)).length (by rw [List.length_drop]; omega) (l.drop (stepAt p iri l)) rfl
      rw [List.length_drop] at this
      omega
theorem span_nil (p : Int) (iri : Bool) : spanAt p iri [] = 0 := by
  have := span_le p iri []
  simpa using this
def allAt (p : Int) (iri : Bool) (l : List Int) : Bool := spanAt p iri l == l.length
theorem allAt_nil (p : Int) (iri : Bool) : allAt p iri [] = true := by simp [allAt, span_nil]
end Go.Proofs.YtpmflpeckoeooaaDoor.M
