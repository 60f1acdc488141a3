/- Texts that the law's proof needs, joined by a program of this session. -/
import Derived.Test.YtdmigmccfdhdiaaDoorZSeatJoins1
import Derived.Test.YtdmigmccfdhdiaaDoorZSeatJoins6
import Derived.Test.YtdmigmccfdhdiaaDoorZSeatJoins7
import Derived.Test.YtdmigmccfdhdiaaDoorZSeatJoins8
import Derived.Test.YtdmigmccfdhdiaaDoorZSeatJoins9
namespace Go.Proofs.YtdmigmccfdhdiaaDoor.X
open Go.RowKit Go.Proofs.YtdmigmccfdhdiaaDoorW.PrintWords Go.Proofs.YtdmigmccfdhdiaaDoorW.PrintLast Go.Proofs.YtdmigmccfdhdiaaDoorW.PrintMore
attribute [local go_sem] max2_int min2_int max_two min_two max_three min_three max_four min_four
set_option linter.unusedVariables false
set_option linter.unusedSimpArgs false
mutual
def monikerref19_Future.j0 : Nat → ByteArray → Bool → Option (Bool)
  | 0, _, _ => none
  | k + 1, x0, x17 => if x17 = true then (some false) else (monikerref19_Future.l0 k x0 1)
def monikerref19_Future.j2 : Nat → ByteArray → Int → Option (Bool)
  | 0, _, _ => none
  | k + 1, x0, x3 => if x3 = 1 then (monikerref19_Future.j3 k x0 x3 true) else (if x3 ≥ (wrap64 ((x0.size : Int) - 1)) then (monikerref19_Future.j3 k x0 x3 true) else (if 0 ≤ x3 then (if x3 < (x0.size : Int) then (monikerref19_Future.j3 k x0 x3 ((bt x0 x3) != 46)) else (none)) else (none)))
def monikerref19_Future.j3 : Nat → ByteArray → Int → Bool → Option (Bool)
  | 0, _, _, _ => none
  | k + 1, x0, x3, x45 => if x45 = true then (some false) else (monikerref19_Future.l1 k x0 (wrap64 (x3 + 1)))
def monikerref19_Future.l1 : Nat → ByteArray → Int → Option (Bool)
  | 0, _, _ => none
  | k + 1, x0, x4 => if x4 < (x0.size : Int) then (if 0 ≤ x4 then ((monikerref01_Class.f k (bt x0 x4)).bind fun t333 => (if (Go.bits .and .i64 t333 15) = 0 then (if (bt x0 x4) = 58 then (monikerref19_Future.l1 k x0 (wrap64 (x4 + 1))) else (some false)) else (monikerref19_Future.l1 k x0 (wrap64 (x4 + 1))))) else (none)) else (some true)
def monikerref19_Future.l0 : Nat → ByteArray → Int → Option (Bool)
  | 0, _, _ => none
  | k + 1, x0, x3 => if x3 < (x0.size : Int) then (if 0 ≤ x3 then ((monikerref01_Value.f k (bt x0 x3)).bind fun t332 => (if t332 ≥ 0 then (monikerref19_Future.l0 k x0 (wrap64 (x3 + 1))) else (monikerref19_Future.j2 k x0 x3))) else (none)) else (monikerref19_Future.j2 k x0 x3)
end
def monikerref19_Future.f (k : Nat) (a0 : ByteArray) : Option (Bool) := if (a0.size : Int) < 4 then (monikerref19_Future.j0 k a0 true) else (if 0 < (a0.size : Int) then (if (bt a0 0) = 118 then (monikerref19_Future.j0 k a0 false) else (monikerref19_Future.j0 k a0 ((bt a0 0) != 86))) else (none))
theorem monikerref19_Future.mono_l : ∀ k, (∀ y0 y1, LeO (monikerref19_Future.j0 k y0 y1) (monikerref19_Future.j0 (k + 1) y0 y1)) ∧ (∀ y0 y1, LeO (monikerref19_Future.j2 k y0 y1) (monikerref19_Future.j2 (k + 1) y0 y1)) ∧ (∀ y0 y1 y2, LeO (monikerref19_Future.j3 k y0 y1 y2) (monikerref19_Future.j3 (k + 1) y0 y1 y2)) ∧ (∀ y0 y1, LeO (monikerref19_Future.l1 k y0 y1) (monikerref19_Future.l1 (k + 1) y0 y1)) ∧ (∀ y0 y1, LeO (monikerref19_Future.l0 k y0 y1) (monikerref19_Future.l0 (k + 1) y0 y1))
  | 0 => ⟨fun _ _ r h => by simp [monikerref19_Future.j0] at h, fun _ _ r h => by simp [monikerref19_Future.j2] at h, fun _ _ _ r h => by simp [monikerref19_Future.j3] at h, fun _ _ r h => by simp [monikerref19_Future.l1] at h, fun _ _ r h => by simp [monikerref19_Future.l0] at h⟩
  | k + 1 => by
    obtain ⟨ih0, ih1, ih2, ih3, ih4⟩ := monikerref19_Future.mono_l k
    have m0 := @monikerref01_Class.mono; have m1 := @monikerref01_Value.mono
    refine ⟨?_, ?_, ?_, ?_, ?_⟩
    · intro y0 y1
      unfold monikerref19_Future.j0
      exact xmo
    · intro y0 y1
      unfold monikerref19_Future.j2
      exact xmo
    · intro y0 y1 y2
      unfold monikerref19_Future.j3
      exact xmo
    · intro y0 y1
      unfold monikerref19_Future.l1
      exact xmo
    · intro y0 y1
      unfold monikerref19_Future.l0
      exact xmo
theorem monikerref19_Future.mono : ∀ a0 k, LeO (monikerref19_Future.f k a0) (monikerref19_Future.f (k + 1) a0) := by
  intro a0 k
  obtain ⟨ih0, ih1, ih2, ih3, ih4⟩ := monikerref19_Future.mono_l k
  have m0 := @monikerref01_Class.mono; have m1 := @monikerref01_Value.mono
  unfold monikerref19_Future.f
  exact xmo
set_option maxHeartbeats 8000000 in
set_option maxRecDepth 100000 in
theorem monikerref19_Future.calls (k : Nat) (a0 : ByteArray) (r : Bool) (w : World) (h : monikerref19_Future.f k a0 = some r) :
    Calls Tryd.prog 24 #[.string a0] w fun e w' => e = .returned (.bool r) ∧ Drawn0 w w' := by
 have H : (if (a0.size : Int) < 4 then (monikerref19_Future.j0 k a0 true) else (if 0 < (a0.size : Int) then (if (bt a0 0) = 118 then (monikerref19_Future.j0 k a0 false) else (monikerref19_Future.j0 k a0 ((bt a0 0) != 86))) else (none))) = some r := h
 clear h
 have HC2 := Aside0.mk H
 clear H
 go_enter Tryd.func24, Tryd.ntmps24
 go_upto_region 1 with (fail)
 go_cut [17] (fun v17 wc => ∃ (kq : Nat) (x17_1 : Bool), v17 = .bool x17_1 ∧ Aside0 (monikerref19_Future.j0 kq a0 x17_1 = some r) ∧ Aside0 (kq ≤ k) ∧ Drawn0 w wc)
 case first =>
  have H := HC2.out
  clear HC2
  by_cases c3 : (a0.size : Int) < 4
  ·
   rw [if_pos c3] at H
   have c3b0 := decide_eq_true c3
   have c3b1 : decide (a0.size < 4) = true := decide_eq_true (by omega)
   clear c3
   (first | rw [c3b0] | (simp only [i64_w, i32_w]; rw [c3b0]) | skip)
   have H' := Aside0.mk H
   clear H
   go_wp2
   go_meet
   case rel => exact ⟨_, (true), xrr, H', ⟨xom⟩, xdr⟩
  ·
   rw [if_neg c3] at H
   have c3b0 := decide_eq_false c3
   have c3b1 : decide (a0.size < 4) = false := decide_eq_false (by omega)
   clear c3
   (first | rw [c3b0] | (simp only [i64_w, i32_w]; rw [c3b0]) | skip)
   by_cases c4 : 0 < (a0.size : Int)
   ·
    rw [if_pos c4] at H
    have c4b0 := decide_eq_true c4
    have c4b1 : decide (0 < a0.size) = true := decide_eq_true (by omega)
    clear c4
    by_cases c6 : (bt a0 0) = 118
    ·
     rw [if_pos c6] at H
     have c6b0 : ((bt a0 0) == 118) = true := beq_iff_eq.mpr c6
     have c6b1 : ((bt a0 0) != 118) = false := bne_eq_false_iff_eq.mpr c6
     clear c6
     have H' := Aside0.mk H
     clear H
     have p5 : 0 ≤ (0 : Int) := (by omega)
     have q5 : 0 < a0.size := (by have : (0 : Int) < (a0.size : Int) := xod; omega)
     have hx5 : ∀ h : 0 < a0.size, ((a0[0]'h).toNat : Int) = bt a0 0 := bt_at a0 0
     clear p5
     have qi5 : (0 < (a0.size : Int)) = True := eq_true (xod)
     replace q5 := eq_true q5
     try (have q5x := q5; simp only [ByteArray.size_extract, Nat.min_self] at q5x)
     go_wp2
     go_meet
     case rel => exact ⟨_, (false), xrr, H', ⟨xom⟩, xdr⟩
    ·
     rw [if_neg c6] at H
     have c6b0 : ((bt a0 0) == 118) = false := beq_eq_false_iff_ne.mpr c6
     have c6b1 : ((bt a0 0) != 118) = true := bne_iff_ne.mpr c6
     have H' := Aside0.mk H
     clear H
     have p5 : 0 ≤ (0 : Int) := (by omega)
     have q5 : 0 < a0.size := (by have : (0 : Int) < (a0.size : Int) := xod; omega)
     have hx5 : ∀ h : 0 < a0.size, ((a0[0]'h).toNat : Int) = bt a0 0 := bt_at a0 0
     clear p5
     have qi5 : (0 < (a0.size : Int)) = True := eq_true (xod)
     replace q5 := eq_true q5
     try (have q5x := q5; simp only [ByteArray.size_extract, Nat.min_self] at q5x)
     have p7 : 0 ≤ (0 : Int) := (by omega)
     have q7 : 0 < a0.size := (by have : (0 : Int) < (a0.size : Int) := xod; omega)
     have hx7 : ∀ h : 0 < a0.size, ((a0[0]'h).toNat : Int) = bt a0 0 := bt_at a0 0
     clear p7
     have qi7 : (0 < (a0.size : Int)) = True := eq_true (xod)
     replace q7 := eq_true q7
     try (have q7x := q7; simp only [ByteArray.size_extract, Nat.min_self] at q7x)
     go_wp2
     go_meet
     case rel => exact ⟨_, (((bt a0 0) != 86)), xrr, H', ⟨xom⟩, xdr⟩
   ·
    rw [if_neg c4] at H
    exact absurd H (by simp)
 case rest =>
  clear HC2
  obtain ⟨kq, x17_1, rfl, HA, HJ1, ⟨mc1, rfl⟩⟩ := hcut
  cases kq with
  | zero => exact absurd HA.out (by simp [monikerref19_Future.j0])
  | succ kj1 =>
   have H := HA.out
   clear HA
   simp only [monikerref19_Future.j0] at H
   by_cases c8 : x17_1 = true
   ·
    subst c8
    rw [if_pos rfl] at H
    obtain rfl := Option.some.inj H
    go_wp2
    go_ret
    exact ⟨xrr, xdr⟩
   ·
    replace c8 := Bool.eq_false_iff.mpr c8
    subst c8
    rw [if_neg (show ¬ (false = true) by decide)] at H
    have HC9 := Aside0.mk H
    clear H
    go_upto_block 0 with (fail)
    go_cut [3] (fun v3 wc => ∃ (kq : Nat) (x3_8 : Int), v3 = .int .i64 x3_8 ∧ Aside0 (monikerref19_Future.j2 kq a0 x3_8 = some r) ∧ Aside0 (kq ≤ kj1) ∧ Drawn0 w wc)
    case first =>
     have H := HC9.out
     clear HC9
     have H' := Aside0.mk H
     clear H
     go_wp2
     go_loopg [3] kj1 (fun kq v3 w' => ∃ (x3_2 : Int), v3 = .int .i64 x3_2 ∧ Aside0 (monikerref19_Future.l0 kq a0 x3_2 = some r) ∧ Aside0 (kq ≤ kj1) ∧ Drawn0 w w')
     case atStart => exact ⟨(1), xrr, H', ⟨Nat.le_refl _⟩, xdr⟩
     case round =>
      clear H'
      obtain ⟨x3_2, rfl, HA, HK2, ⟨m2, rfl⟩⟩ := hrel
      cases gk with
      | zero => exact absurd HA.out (by simp [monikerref19_Future.l0])
      | succ k2 =>
       have H := HA.out
       clear HA
       simp only [monikerref19_Future.l0] at H
       by_cases c10 : x3_2 < (a0.size : Int)
       ·
        rw [if_pos c10] at H
        have c10b0 := decide_eq_true c10
        clear c10
        (first | rw [c10b0] | (simp only [i64_w, i32_w]; rw [c10b0]) | skip)
        by_cases c11 : 0 ≤ x3_2
        ·
         rw [if_pos c11] at H
         have c11b0 := decide_eq_true c11
         clear c11
         replace H := Option.bind_eq_some_iff.mp H
         obtain ⟨t332, A130, H⟩ := H
         try dsimp only at H
         have A13 := Aside0.mk A130
         clear A130
         by_cases c14 : t332 ≥ 0
         ·
          rw [if_pos c14] at H
          have c14b0 := decide_eq_true c14
          clear c14
          have H' := Aside0.mk H
          clear H
          have p12 : 0 ≤ (x3_2 : Int) := xod
          have q12 : x3_2 < (a0.size : Int) := xod
          have hx12 := bt_at a0 x3_2
          replace p12 := eq_true p12
          replace q12 := eq_true q12
          try (have q12x := q12; simp only [ByteArray.size_extract, Nat.min_self] at q12x)
          go_wp2_with (first | (go_at_call 39; (with_reducible refine (monikerref01_Value.calls k2 (bt a0 x3_2) t332 _ A13.out).mono ?_); rintro e w' ⟨rfl, ⟨nd, rfl⟩⟩))
          go_roundg k2
          case measure => have := HJ1.out; have := HK2.out; omega
          case rel => exact ⟨(wrap64 (x3_2 + 1)), xrr, H', ⟨by have := HJ1.out; have := HK2.out; omega⟩, xdr⟩
         ·
          rw [if_neg c14] at H
          have c14b0 := decide_eq_false c14
          clear c14
          have H' := Aside0.mk H
          clear H
          have p12 : 0 ≤ (x3_2 : Int) := xod
          have q12 : x3_2 < (a0.size : Int) := xod
          have hx12 := bt_at a0 x3_2
          replace p12 := eq_true p12
          replace q12 := eq_true q12
          try (have q12x := q12; simp only [ByteArray.size_extract, Nat.min_self] at q12x)
          go_wp2_with (first | (go_at_call 39; (with_reducible refine (monikerref01_Value.calls k2 (bt a0 x3_2) t332 _ A13.out).mono ?_); rintro e w' ⟨rfl, ⟨nd, rfl⟩⟩))
          go_meet
          case rel => exact ⟨_, (x3_2), xrr, H', ⟨by have := HJ1.out; have := HK2.out; first | omega | exact Nat.le_refl _⟩, xdr⟩
        ·
         rw [if_neg c11] at H
         exact absurd H (by simp)
       ·
        rw [if_neg c10] at H
        have c10b0 := decide_eq_false c10
        clear c10
        (first | rw [c10b0] | (simp only [i64_w, i32_w]; rw [c10b0]) | skip)
        have H' := Aside0.mk H
        clear H
        go_wp2
        go_meet
        case rel => exact ⟨_, (x3_2), xrr, H', ⟨by have := HJ1.out; have := HK2.out; first | omega | exact Nat.le_refl _⟩, xdr⟩
    case rest =>
     clear HC9
     obtain ⟨kq, x3_8, rfl, HA, HJ8, ⟨mc8, rfl⟩⟩ := hcut
     cases kq with
     | zero => exact absurd HA.out (by simp [monikerref19_Future.j2])
     | succ kj8 =>
      have H := HA.out
      clear HA
      simp only [monikerref19_Future.j2] at H
      have HC15 := Aside0.mk H
      clear H
      go_upto_region 6 with (fail)
      go_cut [45] (fun v45 wc => ∃ (kq : Nat) (x45_14 : Bool), v45 = .bool x45_14 ∧ Aside0 (monikerref19_Future.j3 kq a0 x3_8 x45_14 = some r) ∧ Aside0 (kq ≤ kj8) ∧ Drawn0 w wc)
      case first =>
       have H := HC15.out
       clear HC15
       by_cases c16 : x3_8 = 1
       ·
        rw [if_pos c16] at H
        have c16b0 : (x3_8 == 1) = true := beq_iff_eq.mpr c16
        have c16b1 : (x3_8 != 1) = false := bne_eq_false_iff_eq.mpr c16
        clear c16
        (first | rw [c16b0] | (simp only [i64_w, i32_w]; rw [c16b0]) | skip)
        have H' := Aside0.mk H
        clear H
        go_wp2
        go_meet
        case rel => exact ⟨_, (true), xrr, H', ⟨by have := HJ1.out; have := HJ8.out; first | omega | exact Nat.le_refl _⟩, xdr⟩
       ·
        rw [if_neg c16] at H
        have c16b0 : (x3_8 == 1) = false := beq_eq_false_iff_ne.mpr c16
        have c16b1 : (x3_8 != 1) = true := bne_iff_ne.mpr c16
        (first | rw [c16b0] | (simp only [i64_w, i32_w]; rw [c16b0]) | skip)
        by_cases c17 : x3_8 ≥ (wrap64 ((a0.size : Int) - 1))
        ·
         rw [if_pos c17] at H
         have c17b0 := decide_eq_true c17
         clear c17
         have H' := Aside0.mk H
         clear H
         go_wp2
         go_meet
         case rel => exact ⟨_, (true), xrr, H', ⟨by have := HJ1.out; have := HJ8.out; first | omega | exact Nat.le_refl _⟩, xdr⟩
        ·
         rw [if_neg c17] at H
         have c17b0 := decide_eq_false c17
         clear c17
         by_cases c18 : 0 ≤ x3_8
         ·
          rw [if_pos c18] at H
          have c18b0 := decide_eq_true c18
          clear c18
          by_cases c19 : x3_8 < (a0.size : Int)
          ·
           rw [if_pos c19] at H
           have c19b0 := decide_eq_true c19
           clear c19
           have H' := Aside0.mk H
           clear H
           have p20 : 0 ≤ (x3_8 : Int) := xod
           have q20 : x3_8 < (a0.size : Int) := xod
           have hx20 := bt_at a0 x3_8
           replace p20 := eq_true p20
           replace q20 := eq_true q20
           try (have q20x := q20; simp only [ByteArray.size_extract, Nat.min_self] at q20x)
           go_wp2
           go_meet
           case rel => exact ⟨_, (((bt a0 x3_8) != 46)), xrr, H', ⟨by have := HJ1.out; have := HJ8.out; first | omega | exact Nat.le_refl _⟩, xdr⟩
          ·
           rw [if_neg c19] at H
           exact absurd H (by simp)
         ·
          rw [if_neg c18] at H
          exact absurd H (by simp)
      case rest =>
       clear HC15
       obtain ⟨kq, x45_14, rfl, HA, HJ14, ⟨mc14, rfl⟩⟩ := hcut
       cases kq with
       | zero => exact absurd HA.out (by simp [monikerref19_Future.j3])
       | succ kj14 =>
        have H := HA.out
        clear HA
        simp only [monikerref19_Future.j3] at H
        by_cases c21 : x45_14 = true
        ·
         subst c21
         rw [if_pos rfl] at H
         obtain rfl := Option.some.inj H
         go_wp2
         go_ret
         exact ⟨xrr, xdr⟩
        ·
         replace c21 := Bool.eq_false_iff.mpr c21
         subst c21
         rw [if_neg (show ¬ (false = true) by decide)] at H
         have H' := Aside0.mk H
         clear H
         go_wp2
         go_loopg [4] kj14 (fun kq v4 w' => ∃ (x4_4 : Int), v4 = .int .i64 x4_4 ∧ Aside0 (monikerref19_Future.l1 kq a0 x4_4 = some r) ∧ Aside0 (kq ≤ kj14) ∧ Drawn0 w w')
         case atStart => exact ⟨(wrap64 (x3_8 + 1)), xrr, H', ⟨Nat.le_refl _⟩, xdr⟩
         case round =>
          clear H'
          obtain ⟨x4_4, rfl, HA, HK4, ⟨m4, rfl⟩⟩ := hrel
          cases gk with
          | zero => exact absurd HA.out (by simp [monikerref19_Future.l1])
          | succ k4 =>
           have H := HA.out
           clear HA
           simp only [monikerref19_Future.l1] at H
           by_cases c22 : x4_4 < (a0.size : Int)
           ·
            rw [if_pos c22] at H
            have c22b0 := decide_eq_true c22
            clear c22
            by_cases c23 : 0 ≤ x4_4
            ·
             rw [if_pos c23] at H
             have c23b0 := decide_eq_true c23
             clear c23
             replace H := Option.bind_eq_some_iff.mp H
             obtain ⟨t333, A250, H⟩ := H
             try dsimp only at H
             have A25 := Aside0.mk A250
             clear A250
             by_cases c26 : (Go.bits .and .i64 t333 15) = 0
             ·
              rw [if_pos c26] at H
              have c26b0 : ((Go.bits .and .i64 t333 15) == 0) = true := beq_iff_eq.mpr c26
              have c26b1 : ((Go.bits .and .i64 t333 15) != 0) = false := bne_eq_false_iff_eq.mpr c26
              clear c26
              by_cases c28 : (bt a0 x4_4) = 58
              ·
               rw [if_pos c28] at H
               have c28b0 : ((bt a0 x4_4) == 58) = true := beq_iff_eq.mpr c28
               have c28b1 : ((bt a0 x4_4) != 58) = false := bne_eq_false_iff_eq.mpr c28
               clear c28
               have H' := Aside0.mk H
               clear H
               have p24 : 0 ≤ (x4_4 : Int) := xod
               have q24 : x4_4 < (a0.size : Int) := xod
               have hx24 := bt_at a0 x4_4
               replace p24 := eq_true p24
               replace q24 := eq_true q24
               try (have q24x := q24; simp only [ByteArray.size_extract, Nat.min_self] at q24x)
               go_wp2_with (first | ((with_reducible refine gate_callee (f := 22) rfl ?_); refine xgl 57 Tryd.func22 #[.int .u8 (bt a0 x4_4)] ?_; (with_reducible refine (monikerref01_Class.calls k4 (bt a0 x4_4) t333 _ A25.out).mono ?_); rintro e w' ⟨rfl, ⟨nd, rfl⟩⟩; refine ⟨_, rfl, ?_⟩; have p27 : 0 ≤ (x4_4 : Int) := xod; have q27 : x4_4 < (a0.size : Int) := xod; have hx27 := bt_at a0 x4_4; replace p27 := eq_true p27; replace q27 := eq_true q27))
               go_roundg k4
               case measure => have := HJ1.out; have := HJ8.out; have := HJ14.out; have := HK4.out; omega
               case rel => exact ⟨(wrap64 (x4_4 + 1)), xrr, H', ⟨by have := HJ1.out; have := HJ8.out; have := HJ14.out; have := HK4.out; omega⟩, xdr⟩
              ·
               rw [if_neg c28] at H
               have c28b0 : ((bt a0 x4_4) == 58) = false := beq_eq_false_iff_ne.mpr c28
               have c28b1 : ((bt a0 x4_4) != 58) = true := bne_iff_ne.mpr c28
               obtain rfl := Option.some.inj H
               have p24 : 0 ≤ (x4_4 : Int) := xod
               have q24 : x4_4 < (a0.size : Int) := xod
               have hx24 := bt_at a0 x4_4
               replace p24 := eq_true p24
               replace q24 := eq_true q24
               try (have q24x := q24; simp only [ByteArray.size_extract, Nat.min_self] at q24x)
               go_wp2_with (first | ((with_reducible refine gate_callee (f := 22) rfl ?_); refine xgl 57 Tryd.func22 #[.int .u8 (bt a0 x4_4)] ?_; (with_reducible refine (monikerref01_Class.calls k4 (bt a0 x4_4) t333 _ A25.out).mono ?_); rintro e w' ⟨rfl, ⟨nd, rfl⟩⟩; refine ⟨_, rfl, ?_⟩; have p27 : 0 ≤ (x4_4 : Int) := xod; have q27 : x4_4 < (a0.size : Int) := xod; have hx27 := bt_at a0 x4_4; replace p27 := eq_true p27; replace q27 := eq_true q27))
               go_ret
               exact ⟨xrr, xdr⟩
             ·
              rw [if_neg c26] at H
              have c26b0 : ((Go.bits .and .i64 t333 15) == 0) = false := beq_eq_false_iff_ne.mpr c26
              have c26b1 : ((Go.bits .and .i64 t333 15) != 0) = true := bne_iff_ne.mpr c26
              have H' := Aside0.mk H
              clear H
              have p24 : 0 ≤ (x4_4 : Int) := xod
              have q24 : x4_4 < (a0.size : Int) := xod
              have hx24 := bt_at a0 x4_4
              replace p24 := eq_true p24
              replace q24 := eq_true q24
              try (have q24x := q24; simp only [ByteArray.size_extract, Nat.min_self] at q24x)
              go_wp2_with (first | ((with_reducible refine gate_callee (f := 22) rfl ?_); refine xgl 57 Tryd.func22 #[.int .u8 (bt a0 x4_4)] ?_; (with_reducible refine (monikerref01_Class.calls k4 (bt a0 x4_4) t333 _ A25.out).mono ?_); rintro e w' ⟨rfl, ⟨nd, rfl⟩⟩; refine ⟨_, rfl, ?_⟩))
              go_roundg k4
              case measure => have := HJ1.out; have := HJ8.out; have := HJ14.out; have := HK4.out; omega
              case rel => exact ⟨(wrap64 (x4_4 + 1)), xrr, H', ⟨by have := HJ1.out; have := HJ8.out; have := HJ14.out; have := HK4.out; omega⟩, xdr⟩
            ·
             rw [if_neg c23] at H
             exact absurd H (by simp)
           ·
            rw [if_neg c22] at H
            have c22b0 := decide_eq_false c22
            clear c22
            obtain rfl := Option.some.inj H
            go_wp2
            go_ret
            exact ⟨xrr, xdr⟩
end Go.Proofs.YtdmigmccfdhdiaaDoor.X
namespace Go.Proofs.YtdmigmccfdhdiaaDoor.X
open Go.RowKit Go.Proofs.YtdmigmccfdhdiaaDoorW.PrintWords Go.Proofs.YtdmigmccfdhdiaaDoorW.PrintLast Go.Proofs.YtdmigmccfdhdiaaDoorW.PrintMore
attribute [local go_sem] max2_int min2_int max_two min_two max_three min_three max_four min_four
set_option linter.unusedVariables false
set_option linter.unusedSimpArgs false
def monikerref19_Host.j0 : Nat → Bool → ByteArray → Int → Bool → Option (Int)
  | 0, _, _, _, _ => none
  | k + 1, x0, x1, x5, x25 => if x25 = true then (if 1 ≤ (wrap64 (x5 - 1)) then (if (wrap64 (x5 - 1)) ≤ (x1.size : Int) then ((monikerref19_V6.f k (x1.extract 1 ((wrap64 (x5 - 1)) : Int).toNat)).bind fun bt334 => (if bt334.2.2.2.2.2.2.2.2 = true then (some 3) else ((monikerref19_Future.f k (x1.extract 1 ((wrap64 (x5 - 1)) : Int).toNat)).bind fun t344 => (if t344 = true then (some 3) else (some 0))))) else (none)) else (none)) else ((monikerref19_V4.f k x1).bind fun bt345 => (if bt345.2.2.2.2 = true then (some 1) else ((monikerref18_Span.f k 2 x0 x1).bind fun t351 => (if t351 = x5 then (some 2) else (some 0)))))
def monikerref19_Host.f (k : Nat) (a0 : Bool) (a1 : ByteArray) : Option (Int) := if (a1.size : Int) ≥ 2 then (if 0 < (a1.size : Int) then (if (bt a1 0) = 91 then (if 0 ≤ (wrap64 ((a1.size : Int) - 1)) then (if (wrap64 ((a1.size : Int) - 1)) < (a1.size : Int) then (monikerref19_Host.j0 k a0 a1 (a1.size : Int) ((bt a1 (wrap64 ((a1.size : Int) - 1))) == 93)) else (none)) else (none)) else (monikerref19_Host.j0 k a0 a1 (a1.size : Int) false)) else (none)) else (monikerref19_Host.j0 k a0 a1 (a1.size : Int) false)
theorem monikerref19_Host.mono_l : ∀ k, (∀ y0 y1 y2 y3, LeO (monikerref19_Host.j0 k y0 y1 y2 y3) (monikerref19_Host.j0 (k + 1) y0 y1 y2 y3))
  | 0 => fun _ _ _ _ r h => by simp [monikerref19_Host.j0] at h
  | k + 1 => by
    have ih0 := monikerref19_Host.mono_l k
    have m0 := @monikerref18_Span.mono; have m1 := @monikerref19_Future.mono; have m2 := @monikerref19_V4.mono; have m3 := @monikerref19_V6.mono
    · intro y0 y1 y2 y3
      unfold monikerref19_Host.j0
      exact xmo
theorem monikerref19_Host.mono : ∀ a0 a1 k, LeO (monikerref19_Host.f k a0 a1) (monikerref19_Host.f (k + 1) a0 a1) := by
  intro a0 a1 k
  have ih0 := monikerref19_Host.mono_l k
  have m0 := @monikerref18_Span.mono; have m1 := @monikerref19_Future.mono; have m2 := @monikerref19_V4.mono; have m3 := @monikerref19_V6.mono
  unfold monikerref19_Host.f
  exact xmo
set_option maxHeartbeats 8000000 in
set_option maxRecDepth 100000 in
theorem monikerref19_Host.calls (k : Nat) (a0 : Bool) (a1 : ByteArray) (r : Int) (w : World) (h : monikerref19_Host.f k a0 a1 = some r) :
    Calls Tryd.prog 15 #[.bool a0, .string a1] w fun e w' => e = .returned (.int .i64 r) ∧ Below w.heap.size w w' := by
 have hu42 := Tryd.underlying42
 have hu46 := Tryd.underlying46
 have HB := Aside0.mk (Below.refl w.heap.size w)
 have H : (if (a1.size : Int) ≥ 2 then (if 0 < (a1.size : Int) then (if (bt a1 0) = 91 then (if 0 ≤ (wrap64 ((a1.size : Int) - 1)) then (if (wrap64 ((a1.size : Int) - 1)) < (a1.size : Int) then (monikerref19_Host.j0 k a0 a1 (a1.size : Int) ((bt a1 (wrap64 ((a1.size : Int) - 1))) == 93)) else (none)) else (none)) else (monikerref19_Host.j0 k a0 a1 (a1.size : Int) false)) else (none)) else (monikerref19_Host.j0 k a0 a1 (a1.size : Int) false)) = some r := h
 clear h
 have HC3 := Aside0.mk H
 clear H
 go_enter Tryd.func15, Tryd.ntmps15
 go_upto_region 2 with (fail)
 go_cut [25] (fun v25 wc => ∃ (kq : Nat) (x25_2 : Bool), v25 = .bool x25_2 ∧ Aside0 (monikerref19_Host.j0 kq a0 a1 (a1.size : Int) x25_2 = some r) ∧ Aside0 (kq ≤ k) ∧ Aside0 (Below w.heap.size w wc))
 case first =>
  have H := HC3.out
  clear HC3
  by_cases c4 : (a1.size : Int) ≥ 2
  ·
   rw [if_pos c4] at H
   have c4b0 := decide_eq_true c4
   have c4b1 : decide (2 ≤ a1.size) = true := decide_eq_true (by omega)
   clear c4
   (first | rw [c4b0] | (simp only [i64_w, i32_w]; rw [c4b0]) | skip)
   by_cases c5 : 0 < (a1.size : Int)
   ·
    rw [if_pos c5] at H
    have c5b0 := decide_eq_true c5
    have c5b1 : decide (0 < a1.size) = true := decide_eq_true (by omega)
    clear c5
    by_cases c7 : (bt a1 0) = 91
    ·
     rw [if_pos c7] at H
     have c7b0 : ((bt a1 0) == 91) = true := beq_iff_eq.mpr c7
     have c7b1 : ((bt a1 0) != 91) = false := bne_eq_false_iff_eq.mpr c7
     clear c7
     obtain ⟨ji8, hji8⟩ : ∃ j_ : Int, (wrap64 ((a1.size : Int) - 1)) = j_ := ⟨_, rfl⟩
     first | rw [hji8] at H | simp only [hji8] at H | skip
     have hji8w : (IntKind.i64.wrap ((a1.size : Int) - 1)) = ji8 := (i64_w _).trans hji8
     by_cases c9 : 0 ≤ (ji8)
     ·
      rw [if_pos c9] at H
      have c9b0 := decide_eq_true c9
      clear c9
      by_cases c10 : (ji8) < (a1.size : Int)
      ·
       rw [if_pos c10] at H
       have c10b0 := decide_eq_true c10
       clear c10
       have H' := Aside0.mk H
       clear H
       have p6 : 0 ≤ (0 : Int) := (by omega)
       have q6 : 0 < a1.size := (by have : (0 : Int) < (a1.size : Int) := xod; omega)
       have hx6 : ∀ h : 0 < a1.size, ((a1[0]'h).toNat : Int) = bt a1 0 := bt_at a1 0
       clear p6
       have qi6 : (0 < (a1.size : Int)) = True := eq_true (xod)
       replace q6 := eq_true q6
       try (have q6x := q6; simp only [ByteArray.size_extract, Nat.min_self] at q6x)
       have p11 : 0 ≤ ((ji8) : Int) := xod
       have q11 : (ji8) < (a1.size : Int) := xod
       have hx11 := bt_at a1 (ji8)
       replace p11 := eq_true p11
       replace q11 := eq_true q11
       try (have q11x := q11; simp only [ByteArray.size_extract, Nat.min_self] at q11x)
       go_wp2
       go_meet
       case rel => exact ⟨_, (((bt a1 (ji8)) == 93)), (by first | rfl | (simp; done) | (simp only [← hji8] <;> (first | rfl | simp)) | (simp [*]; done) | (simp [wrap64]; done)), H', ⟨xom⟩, ⟨xbl⟩⟩
      ·
       rw [if_neg c10] at H
       exact absurd H (by simp)
     ·
      rw [if_neg c9] at H
      exact absurd H (by simp)
    ·
     rw [if_neg c7] at H
     have c7b0 : ((bt a1 0) == 91) = false := beq_eq_false_iff_ne.mpr c7
     have c7b1 : ((bt a1 0) != 91) = true := bne_iff_ne.mpr c7
     have H' := Aside0.mk H
     clear H
     have p6 : 0 ≤ (0 : Int) := (by omega)
     have q6 : 0 < a1.size := (by have : (0 : Int) < (a1.size : Int) := xod; omega)
     have hx6 : ∀ h : 0 < a1.size, ((a1[0]'h).toNat : Int) = bt a1 0 := bt_at a1 0
     clear p6
     have qi6 : (0 < (a1.size : Int)) = True := eq_true (xod)
     replace q6 := eq_true q6
     try (have q6x := q6; simp only [ByteArray.size_extract, Nat.min_self] at q6x)
     go_wp2
     go_meet
     case rel => exact ⟨_, (false), xrr, H', ⟨xom⟩, ⟨xbl⟩⟩
   ·
    rw [if_neg c5] at H
    exact absurd H (by simp)
  ·
   rw [if_neg c4] at H
   have c4b0 := decide_eq_false c4
   have c4b1 : decide (2 ≤ a1.size) = false := decide_eq_false (by omega)
   clear c4
   (first | rw [c4b0] | (simp only [i64_w, i32_w]; rw [c4b0]) | skip)
   have H' := Aside0.mk H
   clear H
   go_wp2
   go_meet
   case rel => exact ⟨_, (false), xrr, H', ⟨xom⟩, ⟨xbl⟩⟩
 case rest =>
  clear HC3
  obtain ⟨kq, x25_2, rfl, HA, HJ2, HB⟩ := hcut
  cases kq with
  | zero => exact absurd HA.out (by simp [monikerref19_Host.j0])
  | succ kj2 =>
   have H := HA.out
   clear HA
   simp only [monikerref19_Host.j0] at H
   by_cases c12 : x25_2 = true
   ·
    subst c12
    rw [if_pos rfl] at H
    obtain ⟨ji13, hji13⟩ : ∃ j_ : Int, (wrap64 ((a1.size : Int) - 1)) = j_ := ⟨_, rfl⟩
    first | rw [hji13] at H | simp only [hji13] at H | skip
    have hji13w : (IntKind.i64.wrap ((a1.size : Int) - 1)) = ji13 := (i64_w _).trans hji13
    by_cases c14 : 1 ≤ (ji13)
    ·
     rw [if_pos c14] at H
     have c14b0 := eq_true c14
     have c14b1 := decide_eq_true c14
     clear c14
     by_cases c15 : (ji13) ≤ (a1.size : Int)
     ·
      rw [if_pos c15] at H
      have c15b0 := eq_true c15
      have c15b1 := decide_eq_true c15
      clear c15
      obtain ⟨ji16, hji16⟩ : ∃ j_ : ByteArray, (a1.extract 1 ((ji13) : Int).toNat) = j_ := ⟨_, rfl⟩
      try (have hji16x := hji16; simp only [Int.toNat_natCast, Int.toNat_ofNat] at hji16x)
      first | rw [hji16] at H | simp only [hji16] at H | skip
      replace H := Option.bind_eq_some_iff.mp H
      obtain ⟨⟨t334, t335, t336, t337, t338, t339, t340, t341, t342⟩, A170, H⟩ := H
      try dsimp only at H
      have A17 := Aside0.mk A170
      clear A170
      by_cases c18 : t342 = true
      ·
       subst c18
       rw [if_pos rfl] at H
       obtain rfl := Option.some.inj H
       go_wp2_with (first | ((with_reducible refine gate_callee (f := 23) rfl ?_); refine goesL_ (some 31) rfl rfl Tryd.func23 (by kernel_rfl) rfl #[.string ji16] rfl (by (try simp only [List.map_toArray, List.map_cons, List.map_nil]); first | done | (simp only [hji16]; rfl) | rfl | (simp only [List.length_drop, List.length_take]; rfl)) ?_; (with_reducible refine (monikerref19_V6.calls kj2 ji16 t334 t335 t336 t337 t338 t339 t340 t341 true _ A17.out).mono ?_); rintro e w19 ⟨rfl, hb⟩; refine ⟨_, rfl, ?_⟩; replace HB := xst hb; (try clear hb)) | ((with_reducible refine gate_dst (N := 6) rfl ?_); refine xev 6 #[.int .i64 0, .int .i64 0, .int .i64 0, .int .i64 0, .int .i64 0, .int .i64 0, .int .i64 0, .int .i64 0] 42 ?_; intro gb343 hg w20 hbox hb; have BK343 := Aside0.mk (hbox); have GW343 := xsz hg; have GE343 := GW343; replace HB := xst hb; clear hb hbox hg; obtain ⟨hcz21_0, hcz21_1, hcz21_2, hcz21_3, hcz21_4, hcz21_5, hcz21_6, hcz21_7⟩ := xc8 BK343; have hfz21_0 := xf BK343 0; have hfz21_1 := xf BK343 1; have hfz21_2 := xf BK343 2; have hfz21_3 := xf BK343 3; have hfz21_4 := xf BK343 4; have hfz21_5 := xf BK343 5; have hfz21_6 := xf BK343 6; have hfz21_7 := xf BK343 7))
       go_ret
       exact ⟨by first | rfl | (simp [errW_none, errW_some] <;> first | rfl | (simp only [xp_isEmpty, bne, Bool.not_not]; done)) | (simp only [← hji13, ← hji16]; first | rfl | (simp [errW_none, errW_some] <;> rfl)) | (simp [*, errW_none, errW_some] <;> rfl), xbl⟩
      ·
       replace c18 := Bool.eq_false_iff.mpr c18
       subst c18
       rw [if_neg (show ¬ (false = true) by decide)] at H
       have c22b0 := eq_true (xod : 1 ≤ (ji13))
       have c23b0 := eq_true (xod : (ji13) ≤ (a1.size : Int))
       first | rw [hji16] at H | simp only [hji16] at H | skip
       (try rw [hji16] at A17)
       replace H := Option.bind_eq_some_iff.mp H
       obtain ⟨t344, A240, H⟩ := H
       try dsimp only at H
       have A24 := Aside0.mk A240
       clear A240
       by_cases c25 : t344 = true
       ·
        subst c25
        rw [if_pos rfl] at H
        obtain rfl := Option.some.inj H
        go_wp2_with (first | ((with_reducible refine gate_callee (f := 23) rfl ?_); refine goesL_ (some 31) rfl rfl Tryd.func23 (by kernel_rfl) rfl #[.string ji16] rfl (by (try simp only [List.map_toArray, List.map_cons, List.map_nil]); first | done | (simp only [hji16]; rfl) | rfl | (simp only [List.length_drop, List.length_take]; rfl)) ?_; (with_reducible refine (monikerref19_V6.calls kj2 ji16 t334 t335 t336 t337 t338 t339 t340 t341 false _ A17.out).mono ?_); rintro e w26 ⟨rfl, hb⟩; refine ⟨_, rfl, ?_⟩; replace HB := xst hb; (try clear hb)) | ((with_reducible refine gate_dst (N := 6) rfl ?_); refine xev 6 #[.int .i64 0, .int .i64 0, .int .i64 0, .int .i64 0, .int .i64 0, .int .i64 0, .int .i64 0, .int .i64 0] 42 ?_; intro gb343 hg w27 hbox hb; have BK343 := Aside0.mk (hbox); have GW343 := xsz hg; have GE343 := GW343; replace HB := xst hb; clear hb hbox hg; obtain ⟨hcz28_0, hcz28_1, hcz28_2, hcz28_3, hcz28_4, hcz28_5, hcz28_6, hcz28_7⟩ := xc8 BK343; have hfz28_0 := xf BK343 0; have hfz28_1 := xf BK343 1; have hfz28_2 := xf BK343 2; have hfz28_3 := xf BK343 3; have hfz28_4 := xf BK343 4; have hfz28_5 := xf BK343 5; have hfz28_6 := xf BK343 6; have hfz28_7 := xf BK343 7) | (go_at_call 24; (with_reducible refine (monikerref19_Future.calls kj2 ji16 true _ A24.out).mono ?_); rintro e w' ⟨rfl, ⟨nd, rfl⟩⟩))
        go_ret
        exact ⟨by first | rfl | (simp [errW_none, errW_some] <;> first | rfl | (simp only [xp_isEmpty, bne, Bool.not_not]; done)) | (simp only [← hji13, ← hji16, ← hji16]; first | rfl | (simp [errW_none, errW_some] <;> rfl)) | (simp [*, errW_none, errW_some] <;> rfl), xbl⟩
       ·
        replace c25 := Bool.eq_false_iff.mpr c25
        subst c25
        rw [if_neg (show ¬ (false = true) by decide)] at H
        obtain rfl := Option.some.inj H
        go_wp2_with (first | ((with_reducible refine gate_callee (f := 23) rfl ?_); refine goesL_ (some 31) rfl rfl Tryd.func23 (by kernel_rfl) rfl #[.string ji16] rfl (by (try simp only [List.map_toArray, List.map_cons, List.map_nil]); first | done | (simp only [hji16]; rfl) | rfl | (simp only [List.length_drop, List.length_take]; rfl)) ?_; (with_reducible refine (monikerref19_V6.calls kj2 ji16 t334 t335 t336 t337 t338 t339 t340 t341 false _ A17.out).mono ?_); rintro e w29 ⟨rfl, hb⟩; refine ⟨_, rfl, ?_⟩; replace HB := xst hb; (try clear hb)) | ((with_reducible refine gate_dst (N := 6) rfl ?_); refine xev 6 #[.int .i64 0, .int .i64 0, .int .i64 0, .int .i64 0, .int .i64 0, .int .i64 0, .int .i64 0, .int .i64 0] 42 ?_; intro gb343 hg w30 hbox hb; have BK343 := Aside0.mk (hbox); have GW343 := xsz hg; have GE343 := GW343; replace HB := xst hb; clear hb hbox hg; obtain ⟨hcz31_0, hcz31_1, hcz31_2, hcz31_3, hcz31_4, hcz31_5, hcz31_6, hcz31_7⟩ := xc8 BK343; have hfz31_0 := xf BK343 0; have hfz31_1 := xf BK343 1; have hfz31_2 := xf BK343 2; have hfz31_3 := xf BK343 3; have hfz31_4 := xf BK343 4; have hfz31_5 := xf BK343 5; have hfz31_6 := xf BK343 6; have hfz31_7 := xf BK343 7) | (go_at_call 24; (with_reducible refine (monikerref19_Future.calls kj2 ji16 false _ A24.out).mono ?_); rintro e w' ⟨rfl, ⟨nd, rfl⟩⟩))
        go_ret
        exact ⟨by first | rfl | (simp [errW_none, errW_some] <;> first | rfl | (simp only [xp_isEmpty, bne, Bool.not_not]; done)) | (simp only [← hji13, ← hji16, ← hji16]; first | rfl | (simp [errW_none, errW_some] <;> rfl)) | (simp [*, errW_none, errW_some] <;> rfl), xbl⟩
     ·
      rw [if_neg c15] at H
      exact absurd H (by simp)
    ·
     rw [if_neg c14] at H
     exact absurd H (by simp)
   ·
    replace c12 := Bool.eq_false_iff.mpr c12
    subst c12
    rw [if_neg (show ¬ (false = true) by decide)] at H
    replace H := Option.bind_eq_some_iff.mp H
    obtain ⟨⟨t345, t346, t347, t348, t349⟩, A320, H⟩ := H
    try dsimp only at H
    have A32 := Aside0.mk A320
    clear A320
    by_cases c33 : t349 = true
    ·
     subst c33
     rw [if_pos rfl] at H
     obtain rfl := Option.some.inj H
     go_wp2_with (first | ((with_reducible refine gate_callee (f := 25) rfl ?_); refine xgl 44 Tryd.func25 #[.string a1] ?_; (with_reducible refine (monikerref19_V4.calls kj2 a1 t345 t346 t347 t348 true _ A32.out).mono ?_); rintro e w34 ⟨rfl, hb⟩; refine ⟨_, rfl, ?_⟩; replace HB := xst hb; (try clear hb)) | ((with_reducible refine gate_dst (N := 8) rfl ?_); refine xev 8 #[.int .i64 0, .int .i64 0, .int .i64 0, .int .i64 0] 46 ?_; intro gb350 hg w35 hbox hb; have BK350 := Aside0.mk (hbox); have GW350 := xsz hg; have GE350 := GW350; replace HB := xst hb; clear hb hbox hg; obtain ⟨hcz36_0, hcz36_1, hcz36_2, hcz36_3⟩ := xc4 BK350; have hfz36_0 := xf BK350 0; have hfz36_1 := xf BK350 1; have hfz36_2 := xf BK350 2; have hfz36_3 := xf BK350 3))
     go_ret
     exact ⟨xre, xbl⟩
    ·
     replace c33 := Bool.eq_false_iff.mpr c33
     subst c33
     rw [if_neg (show ¬ (false = true) by decide)] at H
     replace H := Option.bind_eq_some_iff.mp H
     obtain ⟨t351, A370, H⟩ := H
     try dsimp only at H
     have A37 := Aside0.mk A370
     clear A370
     by_cases c38 : t351 = (a1.size : Int)
     ·
      rw [if_pos c38] at H
      have c38b0 : (t351 == (a1.size : Int)) = true := beq_iff_eq.mpr c38
      have c38b1 : (t351 != (a1.size : Int)) = false := bne_eq_false_iff_eq.mpr c38
      clear c38
      obtain rfl := Option.some.inj H
      go_wp2_with (first | ((with_reducible refine gate_callee (f := 25) rfl ?_); refine xgl 44 Tryd.func25 #[.string a1] ?_; (with_reducible refine (monikerref19_V4.calls kj2 a1 t345 t346 t347 t348 false _ A32.out).mono ?_); rintro e w39 ⟨rfl, hb⟩; refine ⟨_, rfl, ?_⟩; replace HB := xst hb; (try clear hb)) | ((with_reducible refine gate_dst (N := 8) rfl ?_); refine xev 8 #[.int .i64 0, .int .i64 0, .int .i64 0, .int .i64 0] 46 ?_; intro gb350 hg w40 hbox hb; have BK350 := Aside0.mk (hbox); have GW350 := xsz hg; have GE350 := GW350; replace HB := xst hb; clear hb hbox hg; obtain ⟨hcz41_0, hcz41_1, hcz41_2, hcz41_3⟩ := xc4 BK350; have hfz41_0 := xf BK350 0; have hfz41_1 := xf BK350 1; have hfz41_2 := xf BK350 2; have hfz41_3 := xf BK350 3) | ((with_reducible refine gate_callee (f := 13) rfl ?_); refine xgl 50 Tryd.func13 #[.int .i64 2, .bool a0, .string a1] ?_; (with_reducible refine (monikerref18_Span.calls kj2 2 a0 a1 t351 _ A37.out).mono ?_); rintro e w42 ⟨rfl, hb⟩; refine ⟨_, rfl, ?_⟩; replace BK350 := xbb (g := gb350) (o := .cells #[.int .i64 t345, .int .i64 t346, .int .i64 t347, .int .i64 t348] 46 (0, 0)) hb; replace HB := xst hb; (try clear hb)))
      go_ret
      exact ⟨xre, xbl⟩
     ·
      rw [if_neg c38] at H
      have c38b0 : (t351 == (a1.size : Int)) = false := beq_eq_false_iff_ne.mpr c38
      have c38b1 : (t351 != (a1.size : Int)) = true := bne_iff_ne.mpr c38
      obtain rfl := Option.some.inj H
      go_wp2_with (first | ((with_reducible refine gate_callee (f := 25) rfl ?_); refine xgl 44 Tryd.func25 #[.string a1] ?_; (with_reducible refine (monikerref19_V4.calls kj2 a1 t345 t346 t347 t348 false _ A32.out).mono ?_); rintro e w43 ⟨rfl, hb⟩; refine ⟨_, rfl, ?_⟩; replace HB := xst hb; (try clear hb)) | ((with_reducible refine gate_dst (N := 8) rfl ?_); refine xev 8 #[.int .i64 0, .int .i64 0, .int .i64 0, .int .i64 0] 46 ?_; intro gb350 hg w44 hbox hb; have BK350 := Aside0.mk (hbox); have GW350 := xsz hg; have GE350 := GW350; replace HB := xst hb; clear hb hbox hg; obtain ⟨hcz45_0, hcz45_1, hcz45_2, hcz45_3⟩ := xc4 BK350; have hfz45_0 := xf BK350 0; have hfz45_1 := xf BK350 1; have hfz45_2 := xf BK350 2; have hfz45_3 := xf BK350 3) | ((with_reducible refine gate_callee (f := 13) rfl ?_); refine xgl 50 Tryd.func13 #[.int .i64 2, .bool a0, .string a1] ?_; (with_reducible refine (monikerref18_Span.calls kj2 2 a0 a1 t351 _ A37.out).mono ?_); rintro e w46 ⟨rfl, hb⟩; refine ⟨_, rfl, ?_⟩; replace BK350 := xbb (g := gb350) (o := .cells #[.int .i64 t345, .int .i64 t346, .int .i64 t347, .int .i64 t348] 46 (0, 0)) hb; replace HB := xst hb; (try clear hb)))
      go_ret
      exact ⟨xre, xbl⟩
end Go.Proofs.YtdmigmccfdhdiaaDoor.X
namespace Go.Proofs.YtdmigmccfdhdiaaDoor.X
open Go.RowKit Go.Proofs.YtdmigmccfdhdiaaDoorW.PrintWords Go.Proofs.YtdmigmccfdhdiaaDoorW.PrintLast Go.Proofs.YtdmigmccfdhdiaaDoorW.PrintMore
attribute [local go_sem] max2_int min2_int max_two min_two max_three min_three max_four min_four
set_option linter.unusedVariables false
set_option linter.unusedSimpArgs false
def monikerref21_Right.j0 : Nat → Bool → Bool → Bool → ByteArray → ByteArray → Bool → ByteArray → Option (Bool)
  | 0, _, _, _, _, _, _, _ => none
  | k + 1, x0, x16, x353000, x353001, x353002, x353003, x353004 => if x16 = true then (some false) else (if x353003 = true then ((monikerref01_Span.f k x353004 2).bind fun t354 => (if t354 = (x353004.size : Int) then ((monikerref19_Host.f k x0 x353002).bind fun t355 => (some (t355 != 0))) else (some false))) else ((monikerref19_Host.f k x0 x353002).bind fun t356 => (some (t356 != 0))))
def monikerref21_Right.f (k : Nat) (a0 : Bool) (a1_0 : Bool) (a1_1 : ByteArray) (a1_2 : ByteArray) (a1_3 : Bool) (a1_4 : ByteArray) : Option (Bool) := if a1_0 = true then ((monikerref18_Span.f k 1 a0 a1_1).bind fun t353 => (monikerref21_Right.j0 k a0 (t353 != (a1_1.size : Int)) a1_0 a1_1 a1_2 a1_3 a1_4)) else (monikerref21_Right.j0 k a0 false a1_0 a1_1 a1_2 a1_3 a1_4)
theorem monikerref21_Right.mono_l : ∀ k, (∀ y0 y1 y2 y3 y4 y5 y6, LeO (monikerref21_Right.j0 k y0 y1 y2 y3 y4 y5 y6) (monikerref21_Right.j0 (k + 1) y0 y1 y2 y3 y4 y5 y6))
  | 0 => fun _ _ _ _ _ _ _ r h => by simp [monikerref21_Right.j0] at h
  | k + 1 => by
    have ih0 := monikerref21_Right.mono_l k
    have m0 := @monikerref01_Span.mono; have m1 := @monikerref18_Span.mono; have m2 := @monikerref19_Host.mono
    · intro y0 y1 y2 y3 y4 y5 y6
      unfold monikerref21_Right.j0
      exact xmo
theorem monikerref21_Right.mono : ∀ a0 a1 a2 a3 a4 a5 k, LeO (monikerref21_Right.f k a0 a1 a2 a3 a4 a5) (monikerref21_Right.f (k + 1) a0 a1 a2 a3 a4 a5) := by
  intro a0 a1 a2 a3 a4 a5 k
  have ih0 := monikerref21_Right.mono_l k
  have m0 := @monikerref01_Span.mono; have m1 := @monikerref18_Span.mono; have m2 := @monikerref19_Host.mono
  unfold monikerref21_Right.f
  exact xmo
def monikerref21_Right.T1 : Bool × List (List Nat × List Nat) := (true, [([], []), ([0], [0]), ([1], [1]), ([2], [2]), ([2], [2]), ([4, 2], [2, 4]), ([3, 5, 2, 2], [2, 3, 5]), ([2], [2]), ([7, 2], [2, 7]), ([8, 2], [2, 8]), ([6, 9, 2], [2, 6, 9]), ([2, 10], [2, 10])])
def monikerref21_Right.B1 : List Nat := [0, 1, 3, 7, 7, 23, 63, 7, 135, 391, 1023, 2047]
theorem monikerref21_Right.tab1 : rtab .any (opsOf Tryd.f8 1) = monikerref21_Right.T1 := by kernel_rfl
theorem monikerref21_Right.bits1 : waitsOk monikerref21_Right.T1.2 monikerref21_Right.B1 = true := by kernel_rfl
def monikerref21_Right.T3 : Bool × List (List Nat × List Nat) := (true, [([], []), ([0], [0]), ([1], [1]), ([2], [2]), ([3, 2], [2, 3]), ([4, 2, 2], [2, 4]), ([2], [2]), ([6, 2], [2, 6]), ([7, 2], [2, 7]), ([5, 8, 2], [2, 5, 8]), ([2, 9], [2, 9])])
def monikerref21_Right.B3 : List Nat := [0, 1, 3, 7, 15, 31, 7, 71, 199, 511, 1023]
theorem monikerref21_Right.tab3 : rtab .any (opsOf Tryd.f8 3) = monikerref21_Right.T3 := by kernel_rfl
theorem monikerref21_Right.bits3 : waitsOk monikerref21_Right.T3.2 monikerref21_Right.B3 = true := by kernel_rfl
set_option maxHeartbeats 8000000 in
set_option maxRecDepth 100000 in
theorem monikerref21_Right.calls (k : Nat) (a0 : Bool) (a1_0 : Bool) (a1_1 : ByteArray) (a1_2 : ByteArray) (a1_3 : Bool) (a1_4 : ByteArray) (r : Bool) (w : World) (h : monikerref21_Right.f k a0 a1_0 a1_1 a1_2 a1_3 a1_4 = some r) :
    Calls Tryd.prog 8 #[.bool a0, .agg #[.bool a1_0, .string a1_1, .string a1_2, .bool a1_3, .string a1_4]] w fun e w' => e = .returned (.bool r) ∧ Below w.heap.size w w' := by
 have hu24 := Tryd.underlying24
 have HB := Aside0.mk (Below.refl w.heap.size w)
 have H : (if a1_0 = true then ((monikerref18_Span.f k 1 a0 a1_1).bind fun t353 => (monikerref21_Right.j0 k a0 (t353 != (a1_1.size : Int)) a1_0 a1_1 a1_2 a1_3 a1_4)) else (monikerref21_Right.j0 k a0 false a1_0 a1_1 a1_2 a1_3 a1_4)) = some r := h
 clear h
 have HC3 := Aside0.mk H
 clear H
 go_enter Tryd.func8, Tryd.ntmps8
 go_upto_region 1 with (first | ((with_reducible refine gate_dst (N := 3) rfl ?_); (try (refine gate_guard (by rfl) ?_; dsimp only)); refine xev 3 #[.bool a1_0, .string a1_1, .string a1_2, .bool a1_3, .string a1_4] 24 ?_; intro gb352 hg w4 hbox hb; have BK352 := Aside0.mk (hbox); have GW352 := xsz hg; have GE352 := GW352; replace HB := xst hb; clear hb hbox hg))
 (try simp only [Act.put, List.setIfInBounds_toArray, List.set_cons_zero, List.set_cons_succ])
 go_cut [16] (fun v16 wc => ∃ (kq : Nat) (x16_2 : Bool), v16 = .bool x16_2 ∧ Aside0 (monikerref21_Right.j0 kq a0 x16_2 a1_0 a1_1 a1_2 a1_3 a1_4 = some r) ∧ Aside0 (kq ≤ k) ∧ Aside0 (wc.heap[gb352]? = some (.cells #[.bool a1_0, .string a1_1, .string a1_2, .bool a1_3, .string a1_4] 24 (0, 0))) ∧ Aside0 (Below w.heap.size w wc))
 case first =>
  have H := HC3.out
  clear HC3
  by_cases c5 : a1_0 = true
  ·
   subst c5
   rw [if_pos rfl] at H
   replace H := Option.bind_eq_some_iff.mp H
   obtain ⟨t353, A60, H⟩ := H
   try dsimp only at H
   have A6 := Aside0.mk A60
   clear A60
   have H' := Aside0.mk H
   clear H
   try go_wp2
   have n0_ := Aside0.mk (blk_drew BK352.out)
   have n1_ := Aside0.mk (below_drew1 HB.out)
   clear BK352
   clear HB
   have BK352 := n0_
   have HB := n1_
   clear n0_ n1_
   refine start_ (n := 12) (S := fun w' => w'.cell? ⟨gb352, 0, none⟩ = some (.bool true) ∧ w'.cell? ⟨gb352, 1, none⟩ = some (.string a1_1) ∧ w'.cell? ⟨gb352, 2, none⟩ = some (.string a1_2) ∧ w'.cell? ⟨gb352, 3, none⟩ = some (.bool a1_3) ∧ w'.cell? ⟨gb352, 4, none⟩ = some (.string a1_4)) (ds := []) #[false, false, false, false, false, false, false, false, false, false, false, false] (by kernel_rfl) rfl rfl ⟨(blk_cell BK352.out 0).trans rfl, (blk_cell BK352.out 1).trans rfl, (blk_cell BK352.out 2).trans rfl, (blk_cell BK352.out 3).trans rfl, (blk_cell BK352.out 4).trans rfl⟩ (fun hHeld => ?_); refine with_tabW monikerref21_Right.tab1 monikerref21_Right.bits1 (fun HT_ HW_ => ?_)
   generalize w4.drew = w7 at BK352 HB hHeld ⊢
   refine pure_ (i := 0) (N := some 5) (v := ?_) (a' := ?_) #[true, false, false, false, false, false, false, false, false, false, false, false] rfl rfl (any_of HT_.out (by kernel_rfl)) (fun _ _ _ h => h) (Or.inl ⟨by rfl, ?_⟩) ?_ ?_
   rotate_left
   ·
    intro w'
    go_simp
    with_reducible rfl
   rotate_left
   ·
    simp only [Act.put, List.setIfInBounds_toArray, List.set_cons_zero, List.set_cons_succ, i64_w, i32_w]
    rfl
   refine take_ (i := 1) (N := some 6) (v := ?_) (a' := ?_) #[true, true, false, false, false, false, false, false, false, false, false, false] rfl rfl (take_ofW HT_.out HW_.out (by kernel_rfl)) (fun _ _ _ h => h) (Or.inl ⟨by rfl, ?_⟩) hHeld ?_ ?_
   rotate_left
   ·
    rintro w' ⟨s0, s1, s2, s3, s4⟩
    go_simp
    with_reducible rfl
   rotate_left
   ·
    simp only [Act.put, List.setIfInBounds_toArray, List.set_cons_zero, List.set_cons_succ, i64_w, i32_w]
    rfl
   refine pure_ (i := 2) (N := some 7) (v := ?_) (a' := ?_) #[true, true, true, false, false, false, false, false, false, false, false, false] rfl rfl (any_of HT_.out (by kernel_rfl)) (fun _ _ _ h => h) (Or.inl ⟨by rfl, ?_⟩) ?_ ?_
   rotate_left
   ·
    intro w'
    go_simp
    with_reducible rfl
   rotate_left
   ·
    simp only [Act.put, List.setIfInBounds_toArray, List.set_cons_zero, List.set_cons_succ, i64_w, i32_w]
    rfl
   refine pure_ (i := 3) (N := some 8) (v := ?_) (a' := ?_) #[true, true, true, true, false, false, false, false, false, false, false, false] rfl rfl (any_of HT_.out (by kernel_rfl)) (fun _ _ _ h => h) (Or.inl ⟨by rfl, ?_⟩) ?_ ?_
   rotate_left
   ·
    intro w'
    go_simp
    with_reducible rfl
   rotate_left
   ·
    simp only [Act.put, List.setIfInBounds_toArray, List.set_cons_zero, List.set_cons_succ, i64_w, i32_w]
    rfl
   refine pure_ (i := 4) (N := some 9) (v := ?_) (a' := ?_) #[true, true, true, true, true, false, false, false, false, false, false, false] rfl rfl (any_of HT_.out (by kernel_rfl)) (fun _ _ _ h => h) (Or.inl ⟨by rfl, ?_⟩) ?_ ?_
   rotate_left
   ·
    intro w'
    go_simp
    with_reducible rfl
   rotate_left
   ·
    simp only [Act.put, List.setIfInBounds_toArray, List.set_cons_zero, List.set_cons_succ, i64_w, i32_w]
    rfl
   refine pure_ (i := 7) (N := some 12) (v := ?_) (a' := ?_) #[true, true, true, true, true, false, false, true, false, false, false, false] rfl rfl (any_of HT_.out (by kernel_rfl)) (fun _ _ _ h => h) (Or.inl ⟨by rfl, ?_⟩) ?_ ?_
   rotate_left
   ·
    intro w'
    go_simp
    with_reducible rfl
   rotate_left
   ·
    simp only [Act.put, List.setIfInBounds_toArray, List.set_cons_zero, List.set_cons_succ, i64_w, i32_w]
    rfl
   refine take_ (i := 5) (N := some 10) (v := ?_) (a' := ?_) #[true, true, true, true, true, true, false, true, false, false, false, false] rfl rfl (take_ofW HT_.out HW_.out (by kernel_rfl)) (fun _ _ _ h => h) (Or.inl ⟨by rfl, ?_⟩) hHeld ?_ ?_
   rotate_left
   ·
    rintro w' ⟨s0, s1, s2, s3, s4⟩
    go_simp
    with_reducible rfl
   rotate_left
   ·
    simp only [Act.put, List.setIfInBounds_toArray, List.set_cons_zero, List.set_cons_succ, i64_w, i32_w]
    rfl
   refine take_ (i := 8) (N := some 13) (v := ?_) (a' := ?_) #[true, true, true, true, true, true, false, true, true, false, false, false] rfl rfl (take_ofW HT_.out HW_.out (by kernel_rfl)) (fun _ _ _ h => h) (Or.inl ⟨by rfl, ?_⟩) hHeld ?_ ?_
   rotate_left
   ·
    rintro w' ⟨s0, s1, s2, s3, s4⟩
    go_simp
    with_reducible rfl
   rotate_left
   ·
    simp only [Act.put, List.setIfInBounds_toArray, List.set_cons_zero, List.set_cons_succ, i64_w, i32_w]
    rfl
   refine pure_ (i := 9) (N := some 14) (v := ?_) (a' := ?_) #[true, true, true, true, true, true, false, true, true, true, false, false] rfl rfl (any_of HT_.out (by kernel_rfl)) (fun _ _ _ h => h) (Or.inl ⟨by rfl, ?_⟩) ?_ ?_
   rotate_left
   ·
    intro w'
    go_simp
    with_reducible rfl
   rotate_left
   ·
    simp only [Act.put, List.setIfInBounds_toArray, List.set_cons_zero, List.set_cons_succ, i64_w, i32_w]
    rfl
   refine one_ (i := 6) (N := some 11) #[true, true, true, true, true, true, true, true, true, true, false, false] rfl rfl (one_of HT_.out (by kernel_rfl)) (by decide) (fun K hK => ?_)
   refine goes_ Tryd.func13 (by kernel_rfl) rfl #[.int .i64 1, .bool a0, .string a1_1] (by rfl) rfl rfl (by (try simp only [List.map_toArray, List.map_cons, List.map_nil]); first | done | rfl | (simp only [List.length_drop, List.length_take]; rfl)) ?_
   with_reducible refine (monikerref18_Span.calls k 1 a0 a1_1 t353 _ A6.out).mono ?_
   rintro e w8 ⟨rfl, hb⟩
   refine ⟨_, rfl, ?_⟩
   have n0_ := xbb (g := gb352) (o := .cells #[.bool true, .string a1_1, .string a1_2, .bool a1_3, .string a1_4] 24 (0, 0)) hb
   have n1_ := xst hb
   clear BK352
   clear HB
   have BK352 := n0_
   have HB := n1_
   clear n0_ n1_
   (try clear hb)
   (try clear hb2)
   (try clear hk)
   (try clear hi)
   refine hK.out _ _ ⟨(blk_cell BK352.out 0).trans rfl, (blk_cell BK352.out 1).trans rfl, (blk_cell BK352.out 2).trans rfl, (blk_cell BK352.out 3).trans rfl, (blk_cell BK352.out 4).trans rfl⟩ (fun hHeld => ?_)
   clear hK K
   refine norm_ (a' := ?_) ?_ ?_
   rotate_left
   ·
    show Act.put _ (some 11) _ = _
    simp only [Act.put, List.setIfInBounds_toArray, List.set_cons_zero, List.set_cons_succ, i64_w, i32_w]
    rfl
   refine pure_ (i := 10) (N := some 15) (v := ?_) (a' := ?_) #[true, true, true, true, true, true, true, true, true, true, true, false] rfl rfl (any_of HT_.out (by kernel_rfl)) (fun _ _ _ h => h) (Or.inl ⟨by rfl, ?_⟩) ?_ ?_
   rotate_left
   ·
    intro w'
    go_simp
    with_reducible rfl
   rotate_left
   ·
    simp only [Act.put, List.setIfInBounds_toArray, List.set_cons_zero, List.set_cons_succ, i64_w, i32_w]
    rfl
   refine pure_ (i := 11) (N := some 16) (v := ?_) (a' := ?_) #[true, true, true, true, true, true, true, true, true, true, true, true] rfl rfl (any_of HT_.out (by kernel_rfl)) (fun _ _ _ h => h) (Or.inl ⟨by rfl, ?_⟩) ?_ ?_
   rotate_left
   ·
    intro w'
    go_simp
    with_reducible rfl
   rotate_left
   ·
    simp only [Act.put, List.setIfInBounds_toArray, List.set_cons_zero, List.set_cons_succ, i64_w, i32_w]
    rfl
   refine done_ (done_of HT_.out (by kernel_rfl)) ?_
   try go_wp2
   go_meet
   case rel => exact ⟨_, ((t353 != (a1_1.size : Int))), xrr, H', ⟨xom⟩, ⟨xbk⟩, ⟨xbl⟩⟩
  ·
   replace c5 := Bool.eq_false_iff.mpr c5
   subst c5
   rw [if_neg (show ¬ (false = true) by decide)] at H
   have H' := Aside0.mk H
   clear H
   try go_wp2
   have n0_ := Aside0.mk (blk_drew BK352.out)
   have n1_ := Aside0.mk (below_drew1 HB.out)
   clear BK352
   clear HB
   have BK352 := n0_
   have HB := n1_
   clear n0_ n1_
   refine start_ (n := 12) (S := fun w' => w'.cell? ⟨gb352, 0, none⟩ = some (.bool false) ∧ w'.cell? ⟨gb352, 1, none⟩ = some (.string a1_1) ∧ w'.cell? ⟨gb352, 2, none⟩ = some (.string a1_2) ∧ w'.cell? ⟨gb352, 3, none⟩ = some (.bool a1_3) ∧ w'.cell? ⟨gb352, 4, none⟩ = some (.string a1_4)) (ds := []) #[false, false, false, false, false, false, false, false, false, false, false, false] (by kernel_rfl) rfl rfl ⟨(blk_cell BK352.out 0).trans rfl, (blk_cell BK352.out 1).trans rfl, (blk_cell BK352.out 2).trans rfl, (blk_cell BK352.out 3).trans rfl, (blk_cell BK352.out 4).trans rfl⟩ (fun hHeld => ?_); refine with_tabW monikerref21_Right.tab1 monikerref21_Right.bits1 (fun HT_ HW_ => ?_)
   generalize w4.drew = w9 at BK352 HB hHeld ⊢
   refine pure_ (i := 0) (N := some 5) (v := ?_) (a' := ?_) #[true, false, false, false, false, false, false, false, false, false, false, false] rfl rfl (any_of HT_.out (by kernel_rfl)) (fun _ _ _ h => h) (Or.inl ⟨by rfl, ?_⟩) ?_ ?_
   rotate_left
   ·
    intro w'
    go_simp
    with_reducible rfl
   rotate_left
   ·
    simp only [Act.put, List.setIfInBounds_toArray, List.set_cons_zero, List.set_cons_succ, i64_w, i32_w]
    rfl
   refine take_ (i := 1) (N := some 6) (v := ?_) (a' := ?_) #[true, true, false, false, false, false, false, false, false, false, false, false] rfl rfl (take_ofW HT_.out HW_.out (by kernel_rfl)) (fun _ _ _ h => h) (Or.inl ⟨by rfl, ?_⟩) hHeld ?_ ?_
   rotate_left
   ·
    rintro w' ⟨s0, s1, s2, s3, s4⟩
    go_simp
    with_reducible rfl
   rotate_left
   ·
    simp only [Act.put, List.setIfInBounds_toArray, List.set_cons_zero, List.set_cons_succ, i64_w, i32_w]
    rfl
   refine pure_ (i := 2) (N := some 7) (v := ?_) (a' := ?_) #[true, true, true, false, false, false, false, false, false, false, false, false] rfl rfl (any_of HT_.out (by kernel_rfl)) (fun _ _ _ h => h) (Or.inl ⟨by rfl, ?_⟩) ?_ ?_
   rotate_left
   ·
    intro w'
    go_simp
    with_reducible rfl
   rotate_left
   ·
    simp only [Act.put, List.setIfInBounds_toArray, List.set_cons_zero, List.set_cons_succ, i64_w, i32_w]
    rfl
   refine pure_ (i := 3) (N := some 8) (v := undef) (a' := ?_) #[true, true, true, true, false, false, false, false, false, false, false, false] rfl rfl (any_of HT_.out (by kernel_rfl)) (fun _ _ _ h => h) (Or.inr ⟨by rfl, rfl⟩) ?_ ?_
   rotate_left
   ·
    simp only [Act.put, List.setIfInBounds_toArray, List.set_cons_zero, List.set_cons_succ, i64_w, i32_w]
    rfl
   refine pure_ (i := 4) (N := some 9) (v := undef) (a' := ?_) #[true, true, true, true, true, false, false, false, false, false, false, false] rfl rfl (any_of HT_.out (by kernel_rfl)) (fun _ _ _ h => h) (Or.inr ⟨by rfl, rfl⟩) ?_ ?_
   rotate_left
   ·
    simp only [Act.put, List.setIfInBounds_toArray, List.set_cons_zero, List.set_cons_succ, i64_w, i32_w]
    rfl
   refine pure_ (i := 5) (N := some 10) (v := undef) (a' := ?_) #[true, true, true, true, true, true, false, false, false, false, false, false] rfl rfl (any_of HT_.out (by kernel_rfl)) (fun _ _ _ h => h) (Or.inr ⟨by rfl, rfl⟩) ?_ ?_
   rotate_left
   ·
    simp only [Act.put, List.setIfInBounds_toArray, List.set_cons_zero, List.set_cons_succ, i64_w, i32_w]
    rfl
   refine pure_ (i := 6) (N := some 11) (v := undef) (a' := ?_) #[true, true, true, true, true, true, true, false, false, false, false, false] rfl rfl (any_of HT_.out (by kernel_rfl)) (fun _ _ _ h => h) (Or.inr ⟨by rfl, rfl⟩) ?_ ?_
   rotate_left
   ·
    simp only [Act.put, List.setIfInBounds_toArray, List.set_cons_zero, List.set_cons_succ, i64_w, i32_w]
    rfl
   refine pure_ (i := 7) (N := some 12) (v := undef) (a' := ?_) #[true, true, true, true, true, true, true, true, false, false, false, false] rfl rfl (any_of HT_.out (by kernel_rfl)) (fun _ _ _ h => h) (Or.inr ⟨by rfl, rfl⟩) ?_ ?_
   rotate_left
   ·
    simp only [Act.put, List.setIfInBounds_toArray, List.set_cons_zero, List.set_cons_succ, i64_w, i32_w]
    rfl
   refine pure_ (i := 8) (N := some 13) (v := undef) (a' := ?_) #[true, true, true, true, true, true, true, true, true, false, false, false] rfl rfl (any_of HT_.out (by kernel_rfl)) (fun _ _ _ h => h) (Or.inr ⟨by rfl, rfl⟩) ?_ ?_
   rotate_left
   ·
    simp only [Act.put, List.setIfInBounds_toArray, List.set_cons_zero, List.set_cons_succ, i64_w, i32_w]
    rfl
   refine pure_ (i := 9) (N := some 14) (v := undef) (a' := ?_) #[true, true, true, true, true, true, true, true, true, true, false, false] rfl rfl (any_of HT_.out (by kernel_rfl)) (fun _ _ _ h => h) (Or.inr ⟨by rfl, rfl⟩) ?_ ?_
   rotate_left
   ·
    simp only [Act.put, List.setIfInBounds_toArray, List.set_cons_zero, List.set_cons_succ, i64_w, i32_w]
    rfl
   refine pure_ (i := 10) (N := some 15) (v := undef) (a' := ?_) #[true, true, true, true, true, true, true, true, true, true, true, false] rfl rfl (any_of HT_.out (by kernel_rfl)) (fun _ _ _ h => h) (Or.inr ⟨by rfl, rfl⟩) ?_ ?_
   rotate_left
   ·
    simp only [Act.put, List.setIfInBounds_toArray, List.set_cons_zero, List.set_cons_succ, i64_w, i32_w]
    rfl
   refine pure_ (i := 11) (N := some 16) (v := ?_) (a' := ?_) #[true, true, true, true, true, true, true, true, true, true, true, true] rfl rfl (any_of HT_.out (by kernel_rfl)) (fun _ _ _ h => h) (Or.inl ⟨by rfl, ?_⟩) ?_ ?_
   rotate_left
   ·
    intro w'
    go_simp
    with_reducible rfl
   rotate_left
   ·
    simp only [Act.put, List.setIfInBounds_toArray, List.set_cons_zero, List.set_cons_succ, i64_w, i32_w]
    rfl
   refine done_ (done_of HT_.out (by kernel_rfl)) ?_
   try go_wp2
   go_meet
   case rel => exact ⟨_, (false), xrr, H', ⟨xom⟩, ⟨xbk⟩, ⟨xbl⟩⟩
 case rest =>
  clear HC3
  obtain ⟨kq, x16_2, rfl, HA, HJ2, BK352, HB⟩ := hcut
  cases kq with
  | zero => exact absurd HA.out (by simp [monikerref21_Right.j0])
  | succ kj2 =>
   have H := HA.out
   clear HA
   simp only [monikerref21_Right.j0] at H
   by_cases c10 : x16_2 = true
   ·
    subst c10
    rw [if_pos rfl] at H
    obtain rfl := Option.some.inj H
    go_wp2
    go_ret
    exact ⟨xre, xbl⟩
   ·
    replace c10 := Bool.eq_false_iff.mpr c10
    subst c10
    rw [if_neg (show ¬ (false = true) by decide)] at H
    by_cases c11 : a1_3 = true
    ·
     subst c11
     rw [if_pos rfl] at H
     replace H := Option.bind_eq_some_iff.mp H
     obtain ⟨t354, A120, H⟩ := H
     try dsimp only at H
     have A12 := Aside0.mk A120
     clear A120
     by_cases c13 : t354 = (a1_4.size : Int)
     ·
      rw [if_pos c13] at H
      have c13b0 : (t354 == (a1_4.size : Int)) = true := beq_iff_eq.mpr c13
      have c13b1 : (t354 != (a1_4.size : Int)) = false := bne_eq_false_iff_eq.mpr c13
      clear c13
      replace H := Option.bind_eq_some_iff.mp H
      obtain ⟨t355, A140, H⟩ := H
      try dsimp only at H
      have A14 := Aside0.mk A140
      clear A140
      obtain rfl := Option.some.inj H
      try go_wp2
      have n0_ := Aside0.mk (blk_drew BK352.out)
      have n1_ := Aside0.mk (below_drew1 HB.out)
      clear BK352
      clear HB
      have BK352 := n0_
      have HB := n1_
      clear n0_ n1_
      refine start_ (n := 11) (S := fun w' => w'.cell? ⟨gb352, 0, none⟩ = some (.bool a1_0) ∧ w'.cell? ⟨gb352, 1, none⟩ = some (.string a1_1) ∧ w'.cell? ⟨gb352, 2, none⟩ = some (.string a1_2) ∧ w'.cell? ⟨gb352, 3, none⟩ = some (.bool true) ∧ w'.cell? ⟨gb352, 4, none⟩ = some (.string a1_4)) (ds := []) #[false, false, false, false, false, false, false, false, false, false, false] (by kernel_rfl) rfl rfl ⟨(blk_cell BK352.out 0).trans rfl, (blk_cell BK352.out 1).trans rfl, (blk_cell BK352.out 2).trans rfl, (blk_cell BK352.out 3).trans rfl, (blk_cell BK352.out 4).trans rfl⟩ (fun hHeld => ?_); refine with_tabW monikerref21_Right.tab3 monikerref21_Right.bits3 (fun HT_ HW_ => ?_)
      generalize wc.drew = w15 at BK352 HB hHeld ⊢
      refine pure_ (i := 0) (N := some 17) (v := ?_) (a' := ?_) #[true, false, false, false, false, false, false, false, false, false, false] rfl rfl (any_of HT_.out (by kernel_rfl)) (fun _ _ _ h => h) (Or.inl ⟨by rfl, ?_⟩) ?_ ?_
      rotate_left
      ·
       intro w'
       go_simp
       with_reducible rfl
      rotate_left
      ·
       simp only [Act.put, List.setIfInBounds_toArray, List.set_cons_zero, List.set_cons_succ, i64_w, i32_w]
       rfl
      refine take_ (i := 1) (N := some 18) (v := ?_) (a' := ?_) #[true, true, false, false, false, false, false, false, false, false, false] rfl rfl (take_ofW HT_.out HW_.out (by kernel_rfl)) (fun _ _ _ h => h) (Or.inl ⟨by rfl, ?_⟩) hHeld ?_ ?_
      rotate_left
      ·
       rintro w' ⟨s0, s1, s2, s3, s4⟩
       go_simp
       with_reducible rfl
      rotate_left
      ·
       simp only [Act.put, List.setIfInBounds_toArray, List.set_cons_zero, List.set_cons_succ, i64_w, i32_w]
       rfl
      refine pure_ (i := 2) (N := some 19) (v := ?_) (a' := ?_) #[true, true, true, false, false, false, false, false, false, false, false] rfl rfl (any_of HT_.out (by kernel_rfl)) (fun _ _ _ h => h) (Or.inl ⟨by rfl, ?_⟩) ?_ ?_
      rotate_left
      ·
       intro w'
       go_simp
       with_reducible rfl
      rotate_left
      ·
       simp only [Act.put, List.setIfInBounds_toArray, List.set_cons_zero, List.set_cons_succ, i64_w, i32_w]
       rfl
      refine pure_ (i := 3) (N := some 20) (v := ?_) (a' := ?_) #[true, true, true, true, false, false, false, false, false, false, false] rfl rfl (any_of HT_.out (by kernel_rfl)) (fun _ _ _ h => h) (Or.inl ⟨by rfl, ?_⟩) ?_ ?_
      rotate_left
      ·
       intro w'
       go_simp
       with_reducible rfl
      rotate_left
      ·
       simp only [Act.put, List.setIfInBounds_toArray, List.set_cons_zero, List.set_cons_succ, i64_w, i32_w]
       rfl
      refine pure_ (i := 6) (N := some 23) (v := ?_) (a' := ?_) #[true, true, true, true, false, false, true, false, false, false, false] rfl rfl (any_of HT_.out (by kernel_rfl)) (fun _ _ _ h => h) (Or.inl ⟨by rfl, ?_⟩) ?_ ?_
      rotate_left
      ·
       intro w'
       go_simp
       with_reducible rfl
      rotate_left
      ·
       simp only [Act.put, List.setIfInBounds_toArray, List.set_cons_zero, List.set_cons_succ, i64_w, i32_w]
       rfl
      refine take_ (i := 4) (N := some 21) (v := ?_) (a' := ?_) #[true, true, true, true, true, false, true, false, false, false, false] rfl rfl (take_ofW HT_.out HW_.out (by kernel_rfl)) (fun _ _ _ h => h) (Or.inl ⟨by rfl, ?_⟩) hHeld ?_ ?_
      rotate_left
      ·
       rintro w' ⟨s0, s1, s2, s3, s4⟩
       go_simp
       with_reducible rfl
      rotate_left
      ·
       simp only [Act.put, List.setIfInBounds_toArray, List.set_cons_zero, List.set_cons_succ, i64_w, i32_w]
       rfl
      refine take_ (i := 7) (N := some 24) (v := ?_) (a' := ?_) #[true, true, true, true, true, false, true, true, false, false, false] rfl rfl (take_ofW HT_.out HW_.out (by kernel_rfl)) (fun _ _ _ h => h) (Or.inl ⟨by rfl, ?_⟩) hHeld ?_ ?_
      rotate_left
      ·
       rintro w' ⟨s0, s1, s2, s3, s4⟩
       go_simp
       with_reducible rfl
      rotate_left
      ·
       simp only [Act.put, List.setIfInBounds_toArray, List.set_cons_zero, List.set_cons_succ, i64_w, i32_w]
       rfl
      refine pure_ (i := 8) (N := some 25) (v := ?_) (a' := ?_) #[true, true, true, true, true, false, true, true, true, false, false] rfl rfl (any_of HT_.out (by kernel_rfl)) (fun _ _ _ h => h) (Or.inl ⟨by rfl, ?_⟩) ?_ ?_
      rotate_left
      ·
       intro w'
       go_simp
       with_reducible rfl
      rotate_left
      ·
       simp only [Act.put, List.setIfInBounds_toArray, List.set_cons_zero, List.set_cons_succ, i64_w, i32_w]
       rfl
      refine one_ (i := 5) (N := some 22) #[true, true, true, true, true, true, true, true, true, false, false] rfl rfl (one_of HT_.out (by kernel_rfl)) (by decide) (fun K hK => ?_)
      refine goes_ Tryd.func14 (by kernel_rfl) rfl #[.string a1_4, .int .i64 2] (by rfl) rfl rfl (by (try simp only [List.map_toArray, List.map_cons, List.map_nil]); first | done | rfl | (simp only [List.length_drop, List.length_take]; rfl)) ?_
      with_reducible refine (monikerref01_Span.calls kj2 a1_4 2 t354 _ A12.out).mono ?_
      rintro e w' ⟨rfl, ⟨nd, rfl⟩⟩
      refine ⟨_, rfl, ?_⟩
      refine hK.out _ _ ⟨(blk_cell BK352.out 0).trans rfl, (blk_cell BK352.out 1).trans rfl, (blk_cell BK352.out 2).trans rfl, (blk_cell BK352.out 3).trans rfl, (blk_cell BK352.out 4).trans rfl⟩ (fun hHeld => ?_)
      clear hK K
      refine norm_ (a' := ?_) ?_ ?_
      rotate_left
      ·
       show Act.put _ (some 22) _ = _
       simp only [Act.put, List.setIfInBounds_toArray, List.set_cons_zero, List.set_cons_succ, i64_w, i32_w]
       rfl
      refine pure_ (i := 9) (N := some 26) (v := ?_) (a' := ?_) #[true, true, true, true, true, true, true, true, true, true, false] rfl rfl (any_of HT_.out (by kernel_rfl)) (fun _ _ _ h => h) (Or.inl ⟨by rfl, ?_⟩) ?_ ?_
      rotate_left
      ·
       intro w'
       go_simp
       with_reducible rfl
      rotate_left
      ·
       simp only [Act.put, List.setIfInBounds_toArray, List.set_cons_zero, List.set_cons_succ, i64_w, i32_w]
       rfl
      refine pure_ (i := 10) (N := some 27) (v := ?_) (a' := ?_) #[true, true, true, true, true, true, true, true, true, true, true] rfl rfl (any_of HT_.out (by kernel_rfl)) (fun _ _ _ h => h) (Or.inl ⟨by rfl, ?_⟩) ?_ ?_
      rotate_left
      ·
       intro w'
       go_simp
       with_reducible rfl
      rotate_left
      ·
       simp only [Act.put, List.setIfInBounds_toArray, List.set_cons_zero, List.set_cons_succ, i64_w, i32_w]
       rfl
      refine done_ (done_of HT_.out (by kernel_rfl)) ?_
      obtain ⟨hcz16_0, hcz16_1, hcz16_2, hcz16_3, hcz16_4⟩ := xc5 BK352
      have hfz16_0 := xf BK352 0
      have hfz16_1 := xf BK352 1
      have hfz16_2 := xf BK352 2
      have hfz16_3 := xf BK352 3
      have hfz16_4 := xf BK352 4
      try go_wp2_with (first | ((with_reducible refine gate_callee (f := 15) rfl ?_); refine xgl 31 Tryd.func15 #[.bool a0, .string a1_2] ?_; (with_reducible refine (monikerref19_Host.calls kj2 a0 a1_2 t355 _ A14.out).mono ?_); rintro e w17 ⟨rfl, hb⟩; refine ⟨_, rfl, ?_⟩; replace BK352 := xbb (g := gb352) (o := .cells #[.bool a1_0, .string a1_1, .string a1_2, .bool true, .string a1_4] 24 (0, 0)) hb; replace HB := xst hb; (try clear hb)))
      go_ret
      exact ⟨xre, xbl⟩
     ·
      rw [if_neg c13] at H
      have c13b0 : (t354 == (a1_4.size : Int)) = false := beq_eq_false_iff_ne.mpr c13
      have c13b1 : (t354 != (a1_4.size : Int)) = true := bne_iff_ne.mpr c13
      obtain rfl := Option.some.inj H
      try go_wp2
      have n0_ := Aside0.mk (blk_drew BK352.out)
      have n1_ := Aside0.mk (below_drew1 HB.out)
      clear BK352
      clear HB
      have BK352 := n0_
      have HB := n1_
      clear n0_ n1_
      refine start_ (n := 11) (S := fun w' => w'.cell? ⟨gb352, 0, none⟩ = some (.bool a1_0) ∧ w'.cell? ⟨gb352, 1, none⟩ = some (.string a1_1) ∧ w'.cell? ⟨gb352, 2, none⟩ = some (.string a1_2) ∧ w'.cell? ⟨gb352, 3, none⟩ = some (.bool true) ∧ w'.cell? ⟨gb352, 4, none⟩ = some (.string a1_4)) (ds := []) #[false, false, false, false, false, false, false, false, false, false, false] (by kernel_rfl) rfl rfl ⟨(blk_cell BK352.out 0).trans rfl, (blk_cell BK352.out 1).trans rfl, (blk_cell BK352.out 2).trans rfl, (blk_cell BK352.out 3).trans rfl, (blk_cell BK352.out 4).trans rfl⟩ (fun hHeld => ?_); refine with_tabW monikerref21_Right.tab3 monikerref21_Right.bits3 (fun HT_ HW_ => ?_)
      generalize wc.drew = w18 at BK352 HB hHeld ⊢
      refine pure_ (i := 0) (N := some 17) (v := ?_) (a' := ?_) #[true, false, false, false, false, false, false, false, false, false, false] rfl rfl (any_of HT_.out (by kernel_rfl)) (fun _ _ _ h => h) (Or.inl ⟨by rfl, ?_⟩) ?_ ?_
      rotate_left
      ·
       intro w'
       go_simp
       with_reducible rfl
      rotate_left
      ·
       simp only [Act.put, List.setIfInBounds_toArray, List.set_cons_zero, List.set_cons_succ, i64_w, i32_w]
       rfl
      refine take_ (i := 1) (N := some 18) (v := ?_) (a' := ?_) #[true, true, false, false, false, false, false, false, false, false, false] rfl rfl (take_ofW HT_.out HW_.out (by kernel_rfl)) (fun _ _ _ h => h) (Or.inl ⟨by rfl, ?_⟩) hHeld ?_ ?_
      rotate_left
      ·
       rintro w' ⟨s0, s1, s2, s3, s4⟩
       go_simp
       with_reducible rfl
      rotate_left
      ·
       simp only [Act.put, List.setIfInBounds_toArray, List.set_cons_zero, List.set_cons_succ, i64_w, i32_w]
       rfl
      refine pure_ (i := 2) (N := some 19) (v := ?_) (a' := ?_) #[true, true, true, false, false, false, false, false, false, false, false] rfl rfl (any_of HT_.out (by kernel_rfl)) (fun _ _ _ h => h) (Or.inl ⟨by rfl, ?_⟩) ?_ ?_
      rotate_left
      ·
       intro w'
       go_simp
       with_reducible rfl
      rotate_left
      ·
       simp only [Act.put, List.setIfInBounds_toArray, List.set_cons_zero, List.set_cons_succ, i64_w, i32_w]
       rfl
      refine pure_ (i := 3) (N := some 20) (v := ?_) (a' := ?_) #[true, true, true, true, false, false, false, false, false, false, false] rfl rfl (any_of HT_.out (by kernel_rfl)) (fun _ _ _ h => h) (Or.inl ⟨by rfl, ?_⟩) ?_ ?_
      rotate_left
      ·
       intro w'
       go_simp
       with_reducible rfl
      rotate_left
      ·
       simp only [Act.put, List.setIfInBounds_toArray, List.set_cons_zero, List.set_cons_succ, i64_w, i32_w]
       rfl
      refine pure_ (i := 6) (N := some 23) (v := ?_) (a' := ?_) #[true, true, true, true, false, false, true, false, false, false, false] rfl rfl (any_of HT_.out (by kernel_rfl)) (fun _ _ _ h => h) (Or.inl ⟨by rfl, ?_⟩) ?_ ?_
      rotate_left
      ·
       intro w'
       go_simp
       with_reducible rfl
      rotate_left
      ·
       simp only [Act.put, List.setIfInBounds_toArray, List.set_cons_zero, List.set_cons_succ, i64_w, i32_w]
       rfl
      refine take_ (i := 4) (N := some 21) (v := ?_) (a' := ?_) #[true, true, true, true, true, false, true, false, false, false, false] rfl rfl (take_ofW HT_.out HW_.out (by kernel_rfl)) (fun _ _ _ h => h) (Or.inl ⟨by rfl, ?_⟩) hHeld ?_ ?_
      rotate_left
      ·
       rintro w' ⟨s0, s1, s2, s3, s4⟩
       go_simp
       with_reducible rfl
      rotate_left
      ·
       simp only [Act.put, List.setIfInBounds_toArray, List.set_cons_zero, List.set_cons_succ, i64_w, i32_w]
       rfl
      refine take_ (i := 7) (N := some 24) (v := ?_) (a' := ?_) #[true, true, true, true, true, false, true, true, false, false, false] rfl rfl (take_ofW HT_.out HW_.out (by kernel_rfl)) (fun _ _ _ h => h) (Or.inl ⟨by rfl, ?_⟩) hHeld ?_ ?_
      rotate_left
      ·
       rintro w' ⟨s0, s1, s2, s3, s4⟩
       go_simp
       with_reducible rfl
      rotate_left
      ·
       simp only [Act.put, List.setIfInBounds_toArray, List.set_cons_zero, List.set_cons_succ, i64_w, i32_w]
       rfl
      refine pure_ (i := 8) (N := some 25) (v := ?_) (a' := ?_) #[true, true, true, true, true, false, true, true, true, false, false] rfl rfl (any_of HT_.out (by kernel_rfl)) (fun _ _ _ h => h) (Or.inl ⟨by rfl, ?_⟩) ?_ ?_
      rotate_left
      ·
       intro w'
       go_simp
       with_reducible rfl
      rotate_left
      ·
       simp only [Act.put, List.setIfInBounds_toArray, List.set_cons_zero, List.set_cons_succ, i64_w, i32_w]
       rfl
      refine one_ (i := 5) (N := some 22) #[true, true, true, true, true, true, true, true, true, false, false] rfl rfl (one_of HT_.out (by kernel_rfl)) (by decide) (fun K hK => ?_)
      refine goes_ Tryd.func14 (by kernel_rfl) rfl #[.string a1_4, .int .i64 2] (by rfl) rfl rfl (by (try simp only [List.map_toArray, List.map_cons, List.map_nil]); first | done | rfl | (simp only [List.length_drop, List.length_take]; rfl)) ?_
      with_reducible refine (monikerref01_Span.calls kj2 a1_4 2 t354 _ A12.out).mono ?_
      rintro e w' ⟨rfl, ⟨nd, rfl⟩⟩
      refine ⟨_, rfl, ?_⟩
      refine hK.out _ _ ⟨(blk_cell BK352.out 0).trans rfl, (blk_cell BK352.out 1).trans rfl, (blk_cell BK352.out 2).trans rfl, (blk_cell BK352.out 3).trans rfl, (blk_cell BK352.out 4).trans rfl⟩ (fun hHeld => ?_)
      clear hK K
      refine norm_ (a' := ?_) ?_ ?_
      rotate_left
      ·
       show Act.put _ (some 22) _ = _
       simp only [Act.put, List.setIfInBounds_toArray, List.set_cons_zero, List.set_cons_succ, i64_w, i32_w]
       rfl
      refine pure_ (i := 9) (N := some 26) (v := ?_) (a' := ?_) #[true, true, true, true, true, true, true, true, true, true, false] rfl rfl (any_of HT_.out (by kernel_rfl)) (fun _ _ _ h => h) (Or.inl ⟨by rfl, ?_⟩) ?_ ?_
      rotate_left
      ·
       intro w'
       go_simp
       with_reducible rfl
      rotate_left
      ·
       simp only [Act.put, List.setIfInBounds_toArray, List.set_cons_zero, List.set_cons_succ, i64_w, i32_w]
       rfl
      refine pure_ (i := 10) (N := some 27) (v := ?_) (a' := ?_) #[true, true, true, true, true, true, true, true, true, true, true] rfl rfl (any_of HT_.out (by kernel_rfl)) (fun _ _ _ h => h) (Or.inl ⟨by rfl, ?_⟩) ?_ ?_
      rotate_left
      ·
       intro w'
       go_simp
       with_reducible rfl
      rotate_left
      ·
       simp only [Act.put, List.setIfInBounds_toArray, List.set_cons_zero, List.set_cons_succ, i64_w, i32_w]
       rfl
      refine done_ (done_of HT_.out (by kernel_rfl)) ?_
      try go_wp2
      go_ret
      exact ⟨xre, xbl⟩
    ·
     replace c11 := Bool.eq_false_iff.mpr c11
     subst c11
     rw [if_neg (show ¬ (false = true) by decide)] at H
     replace H := Option.bind_eq_some_iff.mp H
     obtain ⟨t356, A190, H⟩ := H
     try dsimp only at H
     have A19 := Aside0.mk A190
     clear A190
     obtain rfl := Option.some.inj H
     try go_wp2
     have n0_ := Aside0.mk (blk_drew BK352.out)
     have n1_ := Aside0.mk (below_drew1 HB.out)
     clear BK352
     clear HB
     have BK352 := n0_
     have HB := n1_
     clear n0_ n1_
     refine start_ (n := 11) (S := fun w' => w'.cell? ⟨gb352, 0, none⟩ = some (.bool a1_0) ∧ w'.cell? ⟨gb352, 1, none⟩ = some (.string a1_1) ∧ w'.cell? ⟨gb352, 2, none⟩ = some (.string a1_2) ∧ w'.cell? ⟨gb352, 3, none⟩ = some (.bool false) ∧ w'.cell? ⟨gb352, 4, none⟩ = some (.string a1_4)) (ds := []) #[false, false, false, false, false, false, false, false, false, false, false] (by kernel_rfl) rfl rfl ⟨(blk_cell BK352.out 0).trans rfl, (blk_cell BK352.out 1).trans rfl, (blk_cell BK352.out 2).trans rfl, (blk_cell BK352.out 3).trans rfl, (blk_cell BK352.out 4).trans rfl⟩ (fun hHeld => ?_); refine with_tabW monikerref21_Right.tab3 monikerref21_Right.bits3 (fun HT_ HW_ => ?_)
     generalize wc.drew = w20 at BK352 HB hHeld ⊢
     refine pure_ (i := 0) (N := some 17) (v := ?_) (a' := ?_) #[true, false, false, false, false, false, false, false, false, false, false] rfl rfl (any_of HT_.out (by kernel_rfl)) (fun _ _ _ h => h) (Or.inl ⟨by rfl, ?_⟩) ?_ ?_
     rotate_left
     ·
      intro w'
      go_simp
      with_reducible rfl
     rotate_left
     ·
      simp only [Act.put, List.setIfInBounds_toArray, List.set_cons_zero, List.set_cons_succ, i64_w, i32_w]
      rfl
     refine take_ (i := 1) (N := some 18) (v := ?_) (a' := ?_) #[true, true, false, false, false, false, false, false, false, false, false] rfl rfl (take_ofW HT_.out HW_.out (by kernel_rfl)) (fun _ _ _ h => h) (Or.inl ⟨by rfl, ?_⟩) hHeld ?_ ?_
     rotate_left
     ·
      rintro w' ⟨s0, s1, s2, s3, s4⟩
      go_simp
      with_reducible rfl
     rotate_left
     ·
      simp only [Act.put, List.setIfInBounds_toArray, List.set_cons_zero, List.set_cons_succ, i64_w, i32_w]
      rfl
     refine pure_ (i := 2) (N := some 19) (v := ?_) (a' := ?_) #[true, true, true, false, false, false, false, false, false, false, false] rfl rfl (any_of HT_.out (by kernel_rfl)) (fun _ _ _ h => h) (Or.inl ⟨by rfl, ?_⟩) ?_ ?_
     rotate_left
     ·
      intro w'
      go_simp
      with_reducible rfl
     rotate_left
     ·
      simp only [Act.put, List.setIfInBounds_toArray, List.set_cons_zero, List.set_cons_succ, i64_w, i32_w]
      rfl
     refine pure_ (i := 3) (N := some 20) (v := undef) (a' := ?_) #[true, true, true, true, false, false, false, false, false, false, false] rfl rfl (any_of HT_.out (by kernel_rfl)) (fun _ _ _ h => h) (Or.inr ⟨by rfl, rfl⟩) ?_ ?_
     rotate_left
     ·
      simp only [Act.put, List.setIfInBounds_toArray, List.set_cons_zero, List.set_cons_succ, i64_w, i32_w]
      rfl
     refine pure_ (i := 4) (N := some 21) (v := undef) (a' := ?_) #[true, true, true, true, true, false, false, false, false, false, false] rfl rfl (any_of HT_.out (by kernel_rfl)) (fun _ _ _ h => h) (Or.inr ⟨by rfl, rfl⟩) ?_ ?_
     rotate_left
     ·
      simp only [Act.put, List.setIfInBounds_toArray, List.set_cons_zero, List.set_cons_succ, i64_w, i32_w]
      rfl
     refine pure_ (i := 5) (N := some 22) (v := undef) (a' := ?_) #[true, true, true, true, true, true, false, false, false, false, false] rfl rfl (any_of HT_.out (by kernel_rfl)) (fun _ _ _ h => h) (Or.inr ⟨by rfl, rfl⟩) ?_ ?_
     rotate_left
     ·
      simp only [Act.put, List.setIfInBounds_toArray, List.set_cons_zero, List.set_cons_succ, i64_w, i32_w]
      rfl
     refine pure_ (i := 6) (N := some 23) (v := undef) (a' := ?_) #[true, true, true, true, true, true, true, false, false, false, false] rfl rfl (any_of HT_.out (by kernel_rfl)) (fun _ _ _ h => h) (Or.inr ⟨by rfl, rfl⟩) ?_ ?_
     rotate_left
     ·
      simp only [Act.put, List.setIfInBounds_toArray, List.set_cons_zero, List.set_cons_succ, i64_w, i32_w]
      rfl
     refine pure_ (i := 7) (N := some 24) (v := undef) (a' := ?_) #[true, true, true, true, true, true, true, true, false, false, false] rfl rfl (any_of HT_.out (by kernel_rfl)) (fun _ _ _ h => h) (Or.inr ⟨by rfl, rfl⟩) ?_ ?_
     rotate_left
     ·
      simp only [Act.put, List.setIfInBounds_toArray, List.set_cons_zero, List.set_cons_succ, i64_w, i32_w]
      rfl
     refine pure_ (i := 8) (N := some 25) (v := undef) (a' := ?_) #[true, true, true, true, true, true, true, true, true, false, false] rfl rfl (any_of HT_.out (by kernel_rfl)) (fun _ _ _ h => h) (Or.inr ⟨by rfl, rfl⟩) ?_ ?_
     rotate_left
     ·
      simp only [Act.put, List.setIfInBounds_toArray, List.set_cons_zero, List.set_cons_succ, i64_w, i32_w]
      rfl
     refine pure_ (i := 9) (N := some 26) (v := undef) (a' := ?_) #[true, true, true, true, true, true, true, true, true, true, false] rfl rfl (any_of HT_.out (by kernel_rfl)) (fun _ _ _ h => h) (Or.inr ⟨by rfl, rfl⟩) ?_ ?_
     rotate_left
     ·
      simp only [Act.put, List.setIfInBounds_toArray, List.set_cons_zero, List.set_cons_succ, i64_w, i32_w]
      rfl
     refine pure_ (i := 10) (N := some 27) (v := ?_) (a' := ?_) #[true, true, true, true, true, true, true, true, true, true, true] rfl rfl (any_of HT_.out (by kernel_rfl)) (fun _ _ _ h => h) (Or.inl ⟨by rfl, ?_⟩) ?_ ?_
     rotate_left
     ·
      intro w'
      go_simp
      with_reducible rfl
     rotate_left
     ·
      simp only [Act.put, List.setIfInBounds_toArray, List.set_cons_zero, List.set_cons_succ, i64_w, i32_w]
      rfl
     refine done_ (done_of HT_.out (by kernel_rfl)) ?_
     obtain ⟨hcz21_0, hcz21_1, hcz21_2, hcz21_3, hcz21_4⟩ := xc5 BK352
     have hfz21_0 := xf BK352 0
     have hfz21_1 := xf BK352 1
     have hfz21_2 := xf BK352 2
     have hfz21_3 := xf BK352 3
     have hfz21_4 := xf BK352 4
     try go_wp2_with (first | ((with_reducible refine gate_callee (f := 15) rfl ?_); refine xgl 31 Tryd.func15 #[.bool a0, .string a1_2] ?_; (with_reducible refine (monikerref19_Host.calls kj2 a0 a1_2 t356 _ A19.out).mono ?_); rintro e w22 ⟨rfl, hb⟩; refine ⟨_, rfl, ?_⟩; replace BK352 := xbb (g := gb352) (o := .cells #[.bool a1_0, .string a1_1, .string a1_2, .bool false, .string a1_4] 24 (0, 0)) hb; replace HB := xst hb; (try clear hb)))
     go_ret
     exact ⟨xre, xbl⟩
end Go.Proofs.YtdmigmccfdhdiaaDoor.X
namespace Go.Proofs.YtdmigmccfdhdiaaDoor.X
open Go.RowKit Go.Proofs.YtdmigmccfdhdiaaDoorW.PrintWords Go.Proofs.YtdmigmccfdhdiaaDoorW.PrintLast Go.Proofs.YtdmigmccfdhdiaaDoorW.PrintMore
attribute [local go_sem] max2_int min2_int max_two min_two max_three min_three max_four min_four
set_option linter.unusedVariables false
set_option linter.unusedSimpArgs false
def seat_Join.f (a0_0 : Bool) (a0_1 : ByteArray) (a0_2 : ByteArray) (a0_3 : Bool) (a0_4 : ByteArray) : Option (ByteArray) := if a0_0 = true then (if a0_1.size + 1 ≤ 9223372036854775807 then (if (a0_1 ++ (⟨#[64]⟩ : ByteArray)).size + a0_2.size ≤ 9223372036854775807 then (if a0_3 = true then (if 1 + a0_4.size ≤ 9223372036854775807 then (if ((a0_1 ++ (⟨#[64]⟩ : ByteArray)) ++ a0_2).size + ((⟨#[58]⟩ : ByteArray) ++ a0_4).size ≤ 9223372036854775807 then (some (((a0_1 ++ (⟨#[64]⟩ : ByteArray)) ++ a0_2) ++ ((⟨#[58]⟩ : ByteArray) ++ a0_4))) else (none)) else (none)) else (some ((a0_1 ++ (⟨#[64]⟩ : ByteArray)) ++ a0_2))) else (none)) else (none)) else (if a0_3 = true then (if 1 + a0_4.size ≤ 9223372036854775807 then (if a0_2.size + ((⟨#[58]⟩ : ByteArray) ++ a0_4).size ≤ 9223372036854775807 then (some (a0_2 ++ ((⟨#[58]⟩ : ByteArray) ++ a0_4))) else (none)) else (none)) else (some a0_2))
set_option maxHeartbeats 8000000 in
set_option maxRecDepth 100000 in
theorem seat_Join.calls (a0_0 : Bool) (a0_1 : ByteArray) (a0_2 : ByteArray) (a0_3 : Bool) (a0_4 : ByteArray) (r : ByteArray) (w : World) (h : seat_Join.f a0_0 a0_1 a0_2 a0_3 a0_4 = some r) :
    Calls Tryd.prog 10 #[.agg #[.bool a0_0, .string a0_1, .string a0_2, .bool a0_3, .string a0_4]] w fun e w' => e = .returned (.string r) ∧ Below w.heap.size w w' := by
 have hu24 := Tryd.underlying24
 have HB := Aside0.mk (Below.refl w.heap.size w)
 have H : (if a0_0 = true then (if a0_1.size + 1 ≤ 9223372036854775807 then (if (a0_1 ++ (⟨#[64]⟩ : ByteArray)).size + a0_2.size ≤ 9223372036854775807 then (if a0_3 = true then (if 1 + a0_4.size ≤ 9223372036854775807 then (if ((a0_1 ++ (⟨#[64]⟩ : ByteArray)) ++ a0_2).size + ((⟨#[58]⟩ : ByteArray) ++ a0_4).size ≤ 9223372036854775807 then (some (((a0_1 ++ (⟨#[64]⟩ : ByteArray)) ++ a0_2) ++ ((⟨#[58]⟩ : ByteArray) ++ a0_4))) else (none)) else (none)) else (some ((a0_1 ++ (⟨#[64]⟩ : ByteArray)) ++ a0_2))) else (none)) else (none)) else (if a0_3 = true then (if 1 + a0_4.size ≤ 9223372036854775807 then (if a0_2.size + ((⟨#[58]⟩ : ByteArray) ++ a0_4).size ≤ 9223372036854775807 then (some (a0_2 ++ ((⟨#[58]⟩ : ByteArray) ++ a0_4))) else (none)) else (none)) else (some a0_2))) = some r := h
 clear h
 by_cases c2 : a0_0 = true
 ·
  subst c2
  rw [if_pos rfl] at H
  by_cases c3 : a0_1.size + 1 ≤ 9223372036854775807
  ·
   rw [if_pos c3] at H
   have c3b0 := eq_true c3
   have c3b1 := decide_eq_true c3
   try have c3b2 : (9223372036854775807 < a0_1.size + 1) = False := eq_false (Nat.not_lt.2 c3)
   by_cases c4 : (a0_1 ++ (⟨#[64]⟩ : ByteArray)).size + a0_2.size ≤ 9223372036854775807
   ·
    rw [if_pos c4] at H
    have c4b0 := eq_true c4
    have c4b1 := decide_eq_true c4
    try have c4b2 : (9223372036854775807 < (a0_1 ++ (⟨#[64]⟩ : ByteArray)).size + a0_2.size) = False := eq_false (Nat.not_lt.2 c4)
    by_cases c5 : a0_3 = true
    ·
     subst c5
     rw [if_pos rfl] at H
     by_cases c6 : 1 + a0_4.size ≤ 9223372036854775807
     ·
      rw [if_pos c6] at H
      have c6b0 := eq_true c6
      have c6b1 := decide_eq_true c6
      try have c6b2 : (9223372036854775807 < 1 + a0_4.size) = False := eq_false (Nat.not_lt.2 c6)
      by_cases c7 : ((a0_1 ++ (⟨#[64]⟩ : ByteArray)) ++ a0_2).size + ((⟨#[58]⟩ : ByteArray) ++ a0_4).size ≤ 9223372036854775807
      ·
       rw [if_pos c7] at H
       have c7b0 := eq_true c7
       have c7b1 := decide_eq_true c7
       try have c7b2 : (9223372036854775807 < ((a0_1 ++ (⟨#[64]⟩ : ByteArray)) ++ a0_2).size + ((⟨#[58]⟩ : ByteArray) ++ a0_4).size) = False := eq_false (Nat.not_lt.2 c7)
       obtain rfl := Option.some.inj H
       go_enter Tryd.func10, Tryd.ntmps10
       go_wp2_with (first | ((with_reducible refine gate_dst (N := 1) rfl ?_); refine xev 1 #[.bool true, .string a0_1, .string a0_2, .bool true, .string a0_4] 24 ?_; intro gb383 hg w8 hbox hb; have BK383 := Aside0.mk (hbox); have GW383 := xsz hg; have GE383 := GW383; replace HB := xst hb; clear hb hbox hg; obtain ⟨hcz9_0, hcz9_1, hcz9_2, hcz9_3, hcz9_4⟩ := xc5 BK383; have hfz9_0 := xf BK383 0; have hfz9_1 := xf BK383 1; have hfz9_2 := xf BK383 2; have hfz9_3 := xf BK383 3; have hfz9_4 := xf BK383 4))
       go_ret
       exact ⟨xre, xbl⟩
      ·
       rw [if_neg c7] at H
       exact absurd H (by simp)
     ·
      rw [if_neg c6] at H
      exact absurd H (by simp)
    ·
     replace c5 := Bool.eq_false_iff.mpr c5
     subst c5
     rw [if_neg (show ¬ (false = true) by decide)] at H
     obtain rfl := Option.some.inj H
     go_enter Tryd.func10, Tryd.ntmps10
     go_wp2_with (first | ((with_reducible refine gate_dst (N := 1) rfl ?_); refine xev 1 #[.bool true, .string a0_1, .string a0_2, .bool false, .string a0_4] 24 ?_; intro gb383 hg w10 hbox hb; have BK383 := Aside0.mk (hbox); have GW383 := xsz hg; have GE383 := GW383; replace HB := xst hb; clear hb hbox hg; obtain ⟨hcz11_0, hcz11_1, hcz11_2, hcz11_3, hcz11_4⟩ := xc5 BK383; have hfz11_0 := xf BK383 0; have hfz11_1 := xf BK383 1; have hfz11_2 := xf BK383 2; have hfz11_3 := xf BK383 3; have hfz11_4 := xf BK383 4))
     go_ret
     exact ⟨xre, xbl⟩
   ·
    rw [if_neg c4] at H
    exact absurd H (by simp)
  ·
   rw [if_neg c3] at H
   exact absurd H (by simp)
 ·
  replace c2 := Bool.eq_false_iff.mpr c2
  subst c2
  rw [if_neg (show ¬ (false = true) by decide)] at H
  by_cases c12 : a0_3 = true
  ·
   subst c12
   rw [if_pos rfl] at H
   by_cases c13 : 1 + a0_4.size ≤ 9223372036854775807
   ·
    rw [if_pos c13] at H
    have c13b0 := eq_true c13
    have c13b1 := decide_eq_true c13
    try have c13b2 : (9223372036854775807 < 1 + a0_4.size) = False := eq_false (Nat.not_lt.2 c13)
    by_cases c14 : a0_2.size + ((⟨#[58]⟩ : ByteArray) ++ a0_4).size ≤ 9223372036854775807
    ·
     rw [if_pos c14] at H
     have c14b0 := eq_true c14
     have c14b1 := decide_eq_true c14
     try have c14b2 : (9223372036854775807 < a0_2.size + ((⟨#[58]⟩ : ByteArray) ++ a0_4).size) = False := eq_false (Nat.not_lt.2 c14)
     obtain rfl := Option.some.inj H
     go_enter Tryd.func10, Tryd.ntmps10
     go_wp2_with (first | ((with_reducible refine gate_dst (N := 1) rfl ?_); refine xev 1 #[.bool false, .string a0_1, .string a0_2, .bool true, .string a0_4] 24 ?_; intro gb383 hg w15 hbox hb; have BK383 := Aside0.mk (hbox); have GW383 := xsz hg; have GE383 := GW383; replace HB := xst hb; clear hb hbox hg; obtain ⟨hcz16_0, hcz16_1, hcz16_2, hcz16_3, hcz16_4⟩ := xc5 BK383; have hfz16_0 := xf BK383 0; have hfz16_1 := xf BK383 1; have hfz16_2 := xf BK383 2; have hfz16_3 := xf BK383 3; have hfz16_4 := xf BK383 4))
     go_ret
     exact ⟨xre, xbl⟩
    ·
     rw [if_neg c14] at H
     exact absurd H (by simp)
   ·
    rw [if_neg c13] at H
    exact absurd H (by simp)
  ·
   replace c12 := Bool.eq_false_iff.mpr c12
   subst c12
   rw [if_neg (show ¬ (false = true) by decide)] at H
   obtain rfl := Option.some.inj H
   go_enter Tryd.func10, Tryd.ntmps10
   go_wp2_with (first | ((with_reducible refine gate_dst (N := 1) rfl ?_); refine xev 1 #[.bool false, .string a0_1, .string a0_2, .bool false, .string a0_4] 24 ?_; intro gb383 hg w17 hbox hb; have BK383 := Aside0.mk (hbox); have GW383 := xsz hg; have GE383 := GW383; replace HB := xst hb; clear hb hbox hg; obtain ⟨hcz18_0, hcz18_1, hcz18_2, hcz18_3, hcz18_4⟩ := xc5 BK383; have hfz18_0 := xf BK383 0; have hfz18_1 := xf BK383 1; have hfz18_2 := xf BK383 2; have hfz18_3 := xf BK383 3; have hfz18_4 := xf BK383 4))
   go_ret
   exact ⟨xre, xbl⟩
def monikerref21_Join.f (a0_0 : Bool) (a0_1 : ByteArray) (a0_2 : ByteArray) (a0_3 : Bool) (a0_4 : ByteArray) : Option (ByteArray) := if a0_0 = true then (if a0_1.size + 1 ≤ 9223372036854775807 then (if (a0_1 ++ (⟨#[64]⟩ : ByteArray)).size + a0_2.size ≤ 9223372036854775807 then (if a0_3 = true then (if 1 + a0_4.size ≤ 9223372036854775807 then (if ((a0_1 ++ (⟨#[64]⟩ : ByteArray)) ++ a0_2).size + ((⟨#[58]⟩ : ByteArray) ++ a0_4).size ≤ 9223372036854775807 then (some (((a0_1 ++ (⟨#[64]⟩ : ByteArray)) ++ a0_2) ++ ((⟨#[58]⟩ : ByteArray) ++ a0_4))) else (none)) else (none)) else (some ((a0_1 ++ (⟨#[64]⟩ : ByteArray)) ++ a0_2))) else (none)) else (none)) else (if 0 + a0_2.size ≤ 9223372036854775807 then (if a0_3 = true then (if 1 + a0_4.size ≤ 9223372036854775807 then (if ((⟨#[]⟩ : ByteArray) ++ a0_2).size + ((⟨#[58]⟩ : ByteArray) ++ a0_4).size ≤ 9223372036854775807 then (some (((⟨#[]⟩ : ByteArray) ++ a0_2) ++ ((⟨#[58]⟩ : ByteArray) ++ a0_4))) else (none)) else (none)) else (some ((⟨#[]⟩ : ByteArray) ++ a0_2))) else (none))
set_option maxHeartbeats 8000000 in
set_option maxRecDepth 100000 in
theorem monikerref21_Join.calls (a0_0 : Bool) (a0_1 : ByteArray) (a0_2 : ByteArray) (a0_3 : Bool) (a0_4 : ByteArray) (r : ByteArray) (w : World) (h : monikerref21_Join.f a0_0 a0_1 a0_2 a0_3 a0_4 = some r) :
    Calls Tryd.prog 11 #[.agg #[.bool a0_0, .string a0_1, .string a0_2, .bool a0_3, .string a0_4]] w fun e w' => e = .returned (.string r) ∧ Below w.heap.size w w' := by
 have hu24 := Tryd.underlying24
 have HB := Aside0.mk (Below.refl w.heap.size w)
 have H : (if a0_0 = true then (if a0_1.size + 1 ≤ 9223372036854775807 then (if (a0_1 ++ (⟨#[64]⟩ : ByteArray)).size + a0_2.size ≤ 9223372036854775807 then (if a0_3 = true then (if 1 + a0_4.size ≤ 9223372036854775807 then (if ((a0_1 ++ (⟨#[64]⟩ : ByteArray)) ++ a0_2).size + ((⟨#[58]⟩ : ByteArray) ++ a0_4).size ≤ 9223372036854775807 then (some (((a0_1 ++ (⟨#[64]⟩ : ByteArray)) ++ a0_2) ++ ((⟨#[58]⟩ : ByteArray) ++ a0_4))) else (none)) else (none)) else (some ((a0_1 ++ (⟨#[64]⟩ : ByteArray)) ++ a0_2))) else (none)) else (none)) else (if 0 + a0_2.size ≤ 9223372036854775807 then (if a0_3 = true then (if 1 + a0_4.size ≤ 9223372036854775807 then (if ((⟨#[]⟩ : ByteArray) ++ a0_2).size + ((⟨#[58]⟩ : ByteArray) ++ a0_4).size ≤ 9223372036854775807 then (some (((⟨#[]⟩ : ByteArray) ++ a0_2) ++ ((⟨#[58]⟩ : ByteArray) ++ a0_4))) else (none)) else (none)) else (some ((⟨#[]⟩ : ByteArray) ++ a0_2))) else (none))) = some r := h
 clear h
 by_cases c2 : a0_0 = true
 ·
  subst c2
  rw [if_pos rfl] at H
  by_cases c3 : a0_1.size + 1 ≤ 9223372036854775807
  ·
   rw [if_pos c3] at H
   have c3b0 := eq_true c3
   have c3b1 := decide_eq_true c3
   try have c3b2 : (9223372036854775807 < a0_1.size + 1) = False := eq_false (Nat.not_lt.2 c3)
   by_cases c4 : (a0_1 ++ (⟨#[64]⟩ : ByteArray)).size + a0_2.size ≤ 9223372036854775807
   ·
    rw [if_pos c4] at H
    have c4b0 := eq_true c4
    have c4b1 := decide_eq_true c4
    try have c4b2 : (9223372036854775807 < (a0_1 ++ (⟨#[64]⟩ : ByteArray)).size + a0_2.size) = False := eq_false (Nat.not_lt.2 c4)
    by_cases c5 : a0_3 = true
    ·
     subst c5
     rw [if_pos rfl] at H
     by_cases c6 : 1 + a0_4.size ≤ 9223372036854775807
     ·
      rw [if_pos c6] at H
      have c6b0 := eq_true c6
      have c6b1 := decide_eq_true c6
      try have c6b2 : (9223372036854775807 < 1 + a0_4.size) = False := eq_false (Nat.not_lt.2 c6)
      by_cases c7 : ((a0_1 ++ (⟨#[64]⟩ : ByteArray)) ++ a0_2).size + ((⟨#[58]⟩ : ByteArray) ++ a0_4).size ≤ 9223372036854775807
      ·
       rw [if_pos c7] at H
       have c7b0 := eq_true c7
       have c7b1 := decide_eq_true c7
       try have c7b2 : (9223372036854775807 < ((a0_1 ++ (⟨#[64]⟩ : ByteArray)) ++ a0_2).size + ((⟨#[58]⟩ : ByteArray) ++ a0_4).size) = False := eq_false (Nat.not_lt.2 c7)
       obtain rfl := Option.some.inj H
       go_enter Tryd.func11, Tryd.ntmps11
       go_wp2_with (first | ((with_reducible refine gate_dst (N := 1) rfl ?_); refine xev 1 #[.bool true, .string a0_1, .string a0_2, .bool true, .string a0_4] 24 ?_; intro gb384 hg w8 hbox hb; have BK384 := Aside0.mk (hbox); have GW384 := xsz hg; have GE384 := GW384; replace HB := xst hb; clear hb hbox hg; obtain ⟨hcz9_0, hcz9_1, hcz9_2, hcz9_3, hcz9_4⟩ := xc5 BK384; have hfz9_0 := xf BK384 0; have hfz9_1 := xf BK384 1; have hfz9_2 := xf BK384 2; have hfz9_3 := xf BK384 3; have hfz9_4 := xf BK384 4))
       go_ret
       exact ⟨xre, xbl⟩
      ·
       rw [if_neg c7] at H
       exact absurd H (by simp)
     ·
      rw [if_neg c6] at H
      exact absurd H (by simp)
    ·
     replace c5 := Bool.eq_false_iff.mpr c5
     subst c5
     rw [if_neg (show ¬ (false = true) by decide)] at H
     obtain rfl := Option.some.inj H
     go_enter Tryd.func11, Tryd.ntmps11
     go_wp2_with (first | ((with_reducible refine gate_dst (N := 1) rfl ?_); refine xev 1 #[.bool true, .string a0_1, .string a0_2, .bool false, .string a0_4] 24 ?_; intro gb384 hg w10 hbox hb; have BK384 := Aside0.mk (hbox); have GW384 := xsz hg; have GE384 := GW384; replace HB := xst hb; clear hb hbox hg; obtain ⟨hcz11_0, hcz11_1, hcz11_2, hcz11_3, hcz11_4⟩ := xc5 BK384; have hfz11_0 := xf BK384 0; have hfz11_1 := xf BK384 1; have hfz11_2 := xf BK384 2; have hfz11_3 := xf BK384 3; have hfz11_4 := xf BK384 4))
     go_ret
     exact ⟨xre, xbl⟩
   ·
    rw [if_neg c4] at H
    exact absurd H (by simp)
  ·
   rw [if_neg c3] at H
   exact absurd H (by simp)
 ·
  replace c2 := Bool.eq_false_iff.mpr c2
  subst c2
  rw [if_neg (show ¬ (false = true) by decide)] at H
  by_cases c12 : 0 + a0_2.size ≤ 9223372036854775807
  ·
   rw [if_pos c12] at H
   have c12b0 := eq_true c12
   have c12b1 := decide_eq_true c12
   try have c12b2 : (9223372036854775807 < 0 + a0_2.size) = False := eq_false (Nat.not_lt.2 c12)
   by_cases c13 : a0_3 = true
   ·
    subst c13
    rw [if_pos rfl] at H
    by_cases c14 : 1 + a0_4.size ≤ 9223372036854775807
    ·
     rw [if_pos c14] at H
     have c14b0 := eq_true c14
     have c14b1 := decide_eq_true c14
     try have c14b2 : (9223372036854775807 < 1 + a0_4.size) = False := eq_false (Nat.not_lt.2 c14)
     by_cases c15 : ((⟨#[]⟩ : ByteArray) ++ a0_2).size + ((⟨#[58]⟩ : ByteArray) ++ a0_4).size ≤ 9223372036854775807
     ·
      rw [if_pos c15] at H
      have c15b0 := eq_true c15
      have c15b1 := decide_eq_true c15
      try have c15b2 : (9223372036854775807 < ((⟨#[]⟩ : ByteArray) ++ a0_2).size + ((⟨#[58]⟩ : ByteArray) ++ a0_4).size) = False := eq_false (Nat.not_lt.2 c15)
      obtain rfl := Option.some.inj H
      go_enter Tryd.func11, Tryd.ntmps11
      go_wp2_with (first | ((with_reducible refine gate_dst (N := 1) rfl ?_); refine xev 1 #[.bool false, .string a0_1, .string a0_2, .bool true, .string a0_4] 24 ?_; intro gb384 hg w16 hbox hb; have BK384 := Aside0.mk (hbox); have GW384 := xsz hg; have GE384 := GW384; replace HB := xst hb; clear hb hbox hg; obtain ⟨hcz17_0, hcz17_1, hcz17_2, hcz17_3, hcz17_4⟩ := xc5 BK384; have hfz17_0 := xf BK384 0; have hfz17_1 := xf BK384 1; have hfz17_2 := xf BK384 2; have hfz17_3 := xf BK384 3; have hfz17_4 := xf BK384 4))
      go_ret
      exact ⟨xre, xbl⟩
     ·
      rw [if_neg c15] at H
      exact absurd H (by simp)
    ·
     rw [if_neg c14] at H
     exact absurd H (by simp)
   ·
    replace c13 := Bool.eq_false_iff.mpr c13
    subst c13
    rw [if_neg (show ¬ (false = true) by decide)] at H
    obtain rfl := Option.some.inj H
    go_enter Tryd.func11, Tryd.ntmps11
    go_wp2_with (first | ((with_reducible refine gate_dst (N := 1) rfl ?_); refine xev 1 #[.bool false, .string a0_1, .string a0_2, .bool false, .string a0_4] 24 ?_; intro gb384 hg w18 hbox hb; have BK384 := Aside0.mk (hbox); have GW384 := xsz hg; have GE384 := GW384; replace HB := xst hb; clear hb hbox hg; obtain ⟨hcz19_0, hcz19_1, hcz19_2, hcz19_3, hcz19_4⟩ := xc5 BK384; have hfz19_0 := xf BK384 0; have hfz19_1 := xf BK384 1; have hfz19_2 := xf BK384 2; have hfz19_3 := xf BK384 3; have hfz19_4 := xf BK384 4))
    go_ret
    exact ⟨xre, xbl⟩
  ·
   rw [if_neg c12] at H
   exact absurd H (by simp)
end Go.Proofs.YtdmigmccfdhdiaaDoor.X
