/- Texts that the law's proof needs, joined by a program of this session. -/
import Derived.Test.YticohlbfolnmpaaDoorZIpReads1
namespace Go.Proofs.YticohlbfolnmpaaDoor.X
open Go.RowKit Go.Proofs.YticohlbfolnmpaaDoorW.PrintWords Go.Proofs.YticohlbfolnmpaaDoorW.PrintLast Go.Proofs.YticohlbfolnmpaaDoorW.PrintMore
attribute [local go_sem] max2_int min2_int max_two min_two max_three min_three max_four min_four
set_option linter.unusedVariables false
set_option linter.unusedSimpArgs false
mutual
def ip_decimal.j0 : Nat → ByteArray → Bool → Option (Int × Bool)
  | 0, _, _ => none
  | k + 1, x0, x23 => if x23 = true then (some (0, false)) else (ip_decimal.l0 k x0 0 (x0.size : Int) 0)
def ip_decimal.l0 : Nat → ByteArray → Int → Int → Int → Option (Int × Bool)
  | 0, _, _, _, _ => none
  | k + 1, x0, x4, x25, x26 => if x26 < x25 then (if 0 ≤ x26 then (if x26 < (x0.size : Int) then ((octet_Is.f k (bt x0 x26) 2).bind fun t108 => (if t108 = true then (ip_decimal.l0 k x0 (wrap64 ((wrap64 (10 * x4)) + (((bt x0 x26) - 48) % 256))) x25 (wrap64 (x26 + 1))) else (some (0, false)))) else (none)) else (none)) else (some ((x4) % 256, decide (x4 ≤ 255)))
end
def ip_decimal.f (k : Nat) (a0 : ByteArray) : Option (Int × Bool) := if (a0.size : Int) = 0 then (ip_decimal.j0 k a0 true) else (if (a0.size : Int) > 3 then (ip_decimal.j0 k a0 true) else (if (a0.size : Int) > 1 then (if 0 < (a0.size : Int) then (ip_decimal.j0 k a0 ((bt a0 0) == 48)) else (none)) else (ip_decimal.j0 k a0 false)))
theorem ip_decimal.mono_l : ∀ k, (∀ y0 y1, LeO (ip_decimal.j0 k y0 y1) (ip_decimal.j0 (k + 1) y0 y1)) ∧ (∀ y0 y1 y2 y3, LeO (ip_decimal.l0 k y0 y1 y2 y3) (ip_decimal.l0 (k + 1) y0 y1 y2 y3))
  | 0 => ⟨fun _ _ r h => by simp [ip_decimal.j0] at h, fun _ _ _ _ r h => by simp [ip_decimal.l0] at h⟩
  | k + 1 => by
    obtain ⟨ih0, ih1⟩ := ip_decimal.mono_l k
    have m0 := @octet_Is.mono
    refine ⟨?_, ?_⟩
    · intro y0 y1
      unfold ip_decimal.j0
      exact xmo
    · intro y0 y1 y2 y3
      unfold ip_decimal.l0
      exact xmo
theorem ip_decimal.mono : ∀ a0 k, LeO (ip_decimal.f k a0) (ip_decimal.f (k + 1) a0) := by
  intro a0 k
  obtain ⟨ih0, ih1⟩ := ip_decimal.mono_l k
  have m0 := @octet_Is.mono
  unfold ip_decimal.f
  exact xmo
set_option maxHeartbeats 8000000 in
set_option maxRecDepth 100000 in
theorem ip_decimal.calls (k : Nat) (a0 : ByteArray) (r1 : Int) (r2 : Bool) (w : World) (h : ip_decimal.f k a0 = some (r1, r2)) :
    Calls Tryd.prog 21 #[.string a0] w fun e w' => e = .returned (.tuple #[.int .u8 r1, .bool r2]) ∧ Drawn0 w w' := by
 have H : (if (a0.size : Int) = 0 then (ip_decimal.j0 k a0 true) else (if (a0.size : Int) > 3 then (ip_decimal.j0 k a0 true) else (if (a0.size : Int) > 1 then (if 0 < (a0.size : Int) then (ip_decimal.j0 k a0 ((bt a0 0) == 48)) else (none)) else (ip_decimal.j0 k a0 false)))) = some (r1, r2) := h
 clear h
 have HC2 := Aside0.mk H
 clear H
 go_enter Tryd.func21, Tryd.ntmps21
 go_upto_region 1 with (fail)
 go_cut [23] (fun v23 wc => ∃ (kq : Nat) (x23_1 : Bool), v23 = .bool x23_1 ∧ Aside0 (ip_decimal.j0 kq a0 x23_1 = some (r1, r2)) ∧ Aside0 (kq ≤ k) ∧ Drawn0 w wc)
 case first =>
  have H := HC2.out
  clear HC2
  by_cases c3 : (a0.size : Int) = 0
  ·
   rw [if_pos c3] at H
   have c3b0 : ((a0.size : Int) == 0) = true := beq_iff_eq.mpr c3
   have c3b1 : ((a0.size : Int) != 0) = false := bne_eq_false_iff_eq.mpr c3
   clear c3
   (first | rw [c3b0] | (simp only [i64_w, i32_w]; rw [c3b0]) | skip)
   have H' := Aside0.mk H
   clear H
   go_wp2
   go_meet
   case rel => exact ⟨_, (true), xrr, H', ⟨xom⟩, xdr⟩
  ·
   rw [if_neg c3] at H
   have c3b0 : ((a0.size : Int) == 0) = false := beq_eq_false_iff_ne.mpr c3
   have c3b1 : ((a0.size : Int) != 0) = true := bne_iff_ne.mpr c3
   (first | rw [c3b0] | (simp only [i64_w, i32_w]; rw [c3b0]) | skip)
   by_cases c4 : (a0.size : Int) > 3
   ·
    rw [if_pos c4] at H
    have c4b0 := decide_eq_true c4
    have c4b1 : decide (3 < a0.size) = true := decide_eq_true (by omega)
    clear c4
    have H' := Aside0.mk H
    clear H
    go_wp2
    go_meet
    case rel => exact ⟨_, (true), xrr, H', ⟨xom⟩, xdr⟩
   ·
    rw [if_neg c4] at H
    have c4b0 := decide_eq_false c4
    have c4b1 : decide (3 < a0.size) = false := decide_eq_false (by omega)
    clear c4
    by_cases c5 : (a0.size : Int) > 1
    ·
     rw [if_pos c5] at H
     have c5b0 := decide_eq_true c5
     have c5b1 : decide (1 < a0.size) = true := decide_eq_true (by omega)
     clear c5
     by_cases c6 : 0 < (a0.size : Int)
     ·
      rw [if_pos c6] at H
      have c6b0 := decide_eq_true c6
      have c6b1 : decide (0 < a0.size) = true := decide_eq_true (by omega)
      clear c6
      have H' := Aside0.mk H
      clear H
      have p7 : 0 ≤ (0 : Int) := (by omega)
      have q7 : 0 < a0.size := (by have : (0 : Int) < (a0.size : Int) := xod; omega)
      have hx7 : ∀ h : 0 < a0.size, ((a0[0]'h).toNat : Int) = bt a0 0 := bt_at a0 0
      clear p7
      have qi7 : (0 < (a0.size : Int)) = True := eq_true (xod)
      replace q7 := eq_true q7
      try (have q7x := q7; simp only [ByteArray.size_extract, Nat.min_self] at q7x)
      go_wp2
      go_meet
      case rel => exact ⟨_, (((bt a0 0) == 48)), xrr, H', ⟨xom⟩, xdr⟩
     ·
      rw [if_neg c6] at H
      exact absurd H (by simp)
    ·
     rw [if_neg c5] at H
     have c5b0 := decide_eq_false c5
     have c5b1 : decide (1 < a0.size) = false := decide_eq_false (by omega)
     clear c5
     have H' := Aside0.mk H
     clear H
     go_wp2
     go_meet
     case rel => exact ⟨_, (false), xrr, H', ⟨xom⟩, xdr⟩
 case rest =>
  clear HC2
  obtain ⟨kq, x23_1, rfl, HA, HJ1, ⟨mc1, rfl⟩⟩ := hcut
  cases kq with
  | zero => exact absurd HA.out (by simp [ip_decimal.j0])
  | succ kj1 =>
   have H := HA.out
   clear HA
   simp only [ip_decimal.j0] at H
   by_cases c8 : x23_1 = true
   ·
    subst c8
    rw [if_pos rfl] at H
    simp only [Option.some.injEq, Prod.mk.injEq] at H
    obtain ⟨rfl, rfl⟩ := H
    go_wp2
    go_ret2
    exact ⟨xrr, xdr⟩
   ·
    replace c8 := Bool.eq_false_iff.mpr c8
    subst c8
    rw [if_neg (show ¬ (false = true) by decide)] at H
    have H' := Aside0.mk H
    clear H
    go_wp2
    go_loopg [4, 26] kj1 (fun kq v4 v26 w' => ∃ (x4_2 : Int) (x26_2 : Int), v4 = .int .i64 x4_2 ∧ v26 = .int .i64 x26_2 ∧ Aside0 (ip_decimal.l0 kq a0 x4_2 (a0.size : Int) x26_2 = some (r1, r2)) ∧ Aside0 (kq ≤ kj1) ∧ Drawn0 w w')
    case atStart => exact ⟨(0), (0), xrr, xrr, H', ⟨Nat.le_refl _⟩, xdr⟩
    case round =>
     clear H'
     obtain ⟨x4_2, x26_2, rfl, rfl, HA, HK2, ⟨m2, rfl⟩⟩ := hrel
     cases gk with
     | zero => exact absurd HA.out (by simp [ip_decimal.l0])
     | succ k2 =>
      have H := HA.out
      clear HA
      simp only [ip_decimal.l0] at H
      by_cases c9 : x26_2 < (a0.size : Int)
      ·
       rw [if_pos c9] at H
       have c9b0 := decide_eq_true c9
       clear c9
       by_cases c10 : 0 ≤ x26_2
       ·
        rw [if_pos c10] at H
        have c10b0 := decide_eq_true c10
        clear c10
        by_cases c11 : x26_2 < (a0.size : Int)
        ·
         rw [if_pos c11] at H
         have c11b0 := decide_eq_true c11
         clear c11
         replace H := Option.bind_eq_some_iff.mp H
         obtain ⟨t108, A130, H⟩ := H
         try dsimp only at H
         have A13 := Aside0.mk A130
         clear A130
         by_cases c14 : t108 = true
         ·
          subst c14
          rw [if_pos rfl] at H
          have H' := Aside0.mk H
          clear H
          have p12 : 0 ≤ (x26_2 : Int) := xod
          have q12 : x26_2 < (a0.size : Int) := xod
          have hx12 := bt_at a0 x26_2
          replace p12 := eq_true p12
          replace q12 := eq_true q12
          try (have q12x := q12; simp only [ByteArray.size_extract, Nat.min_self] at q12x)
          go_wp2_with (first | ((with_reducible refine gate_callee (f := 40) rfl ?_); refine xgl 32 Tryd.func40 #[.int .u8 (bt a0 x26_2), .int .i64 2] ?_; (with_reducible refine (octet_Is.calls k2 (bt a0 x26_2) 2 true _ A13.out).mono ?_); rintro e w' ⟨rfl, ⟨nd, rfl⟩⟩; refine ⟨_, rfl, ?_⟩; have p15 : 0 ≤ (x26_2 : Int) := xod; have q15 : x26_2 < (a0.size : Int) := xod; have hx15 := bt_at a0 x26_2; replace p15 := eq_true p15; replace q15 := eq_true q15))
          go_roundg k2
          case measure => have := HJ1.out; have := HK2.out; omega
          case rel => exact ⟨(wrap64 ((wrap64 (10 * x4_2)) + (((bt a0 x26_2) - 48) % 256))), (wrap64 (x26_2 + 1)), xrr, xrr, H', ⟨by have := HJ1.out; have := HK2.out; omega⟩, xdr⟩
         ·
          replace c14 := Bool.eq_false_iff.mpr c14
          subst c14
          rw [if_neg (show ¬ (false = true) by decide)] at H
          simp only [Option.some.injEq, Prod.mk.injEq] at H
          obtain ⟨rfl, rfl⟩ := H
          have p12 : 0 ≤ (x26_2 : Int) := xod
          have q12 : x26_2 < (a0.size : Int) := xod
          have hx12 := bt_at a0 x26_2
          replace p12 := eq_true p12
          replace q12 := eq_true q12
          try (have q12x := q12; simp only [ByteArray.size_extract, Nat.min_self] at q12x)
          go_wp2_with (first | ((with_reducible refine gate_callee (f := 40) rfl ?_); refine xgl 32 Tryd.func40 #[.int .u8 (bt a0 x26_2), .int .i64 2] ?_; (with_reducible refine (octet_Is.calls k2 (bt a0 x26_2) 2 false _ A13.out).mono ?_); rintro e w' ⟨rfl, ⟨nd, rfl⟩⟩; refine ⟨_, rfl, ?_⟩))
          go_ret2
          exact ⟨xrr, xdr⟩
        ·
         rw [if_neg c11] at H
         exact absurd H (by simp)
       ·
        rw [if_neg c10] at H
        exact absurd H (by simp)
      ·
       rw [if_neg c9] at H
       have c9b0 := decide_eq_false c9
       clear c9
       simp only [Option.some.injEq, Prod.mk.injEq] at H
       obtain ⟨rfl, rfl⟩ := H
       go_wp2
       go_ret2
       exact ⟨xrr, xdr⟩
def ip_V4.l0 : Nat → List ByteArray → Int → Int → Int → Int → Int → Int → Option (Int × Int × Int × Int × Bool)
  | 0, _, _, _, _, _, _, _ => none
  | k + 1, x16, x17, x18, x111000, x111001, x111002, x111003 => if x18 < x17 then (if 0 ≤ x18 then (if x18 < (x16.length : Int) then ((ip_decimal.f k (rdOf ByteArray.empty x16 x18)).bind fun bt115 => (if bt115.2 = true then (if x18 = 0 then (ip_V4.l0 k x16 x17 (wrap64 (x18 + 1)) bt115.1 x111001 x111002 x111003) else (if x18 = 1 then (ip_V4.l0 k x16 x17 (wrap64 (x18 + 1)) x111000 bt115.1 x111002 x111003) else (if x18 = 2 then (ip_V4.l0 k x16 x17 (wrap64 (x18 + 1)) x111000 x111001 bt115.1 x111003) else (if x18 = 3 then (ip_V4.l0 k x16 x17 (wrap64 (x18 + 1)) x111000 x111001 x111002 bt115.1) else (none))))) else (some (0, 0, 0, 0, false)))) else (none)) else (none)) else (some (x111000, x111001, x111002, x111003, true))
def ip_V4.f (k : Nat) (a0 : ByteArray) : Option (Int × Int × Int × Int × Bool) := (strings_Split.f a0 (⟨#[46]⟩ : ByteArray)).bind fun t111 => (if (t111.length : Int) = 4 then (ip_V4.l0 k t111 (t111.length : Int) 0 0 0 0 0) else (some (0, 0, 0, 0, false)))
theorem ip_V4.mono_l : ∀ k, (∀ y0 y1 y2 y3 y4 y5 y6, LeO (ip_V4.l0 k y0 y1 y2 y3 y4 y5 y6) (ip_V4.l0 (k + 1) y0 y1 y2 y3 y4 y5 y6))
  | 0 => fun _ _ _ _ _ _ _ r h => by simp [ip_V4.l0] at h
  | k + 1 => by
    have ih0 := ip_V4.mono_l k
    have m0 := @ip_decimal.mono
    · intro y0 y1 y2 y3 y4 y5 y6
      unfold ip_V4.l0
      exact xmo
theorem ip_V4.mono : ∀ a0 k, LeO (ip_V4.f k a0) (ip_V4.f (k + 1) a0) := by
  intro a0 k
  have ih0 := ip_V4.mono_l k
  have m0 := @ip_decimal.mono
  unfold ip_V4.f
  exact xmo
set_option maxHeartbeats 8000000 in
set_option maxRecDepth 100000 in
theorem ip_V4.calls (k : Nat) (a0 : ByteArray) (r1 : Int) (r2 : Int) (r3 : Int) (r4 : Int) (r5 : Bool) (w : World) (hG : GW w) (h : ip_V4.f k a0 = some (r1, r2, r3, r4, r5)) :
    Calls Tryd.prog 8 #[.string a0] w fun e w' => e = .returned (.tuple #[.agg #[.int .u8 r1, .int .u8 r2, .int .u8 r3, .int .u8 r4], .bool r5]) ∧ Below w.heap.size w w' := by
 have hu23 := Tryd.underlying23
 have HB := Aside0.mk (Below.refl w.heap.size w)
 have H : ((strings_Split.f a0 (⟨#[46]⟩ : ByteArray)).bind fun t111 => (if (t111.length : Int) = 4 then (ip_V4.l0 k t111 (t111.length : Int) 0 0 0 0 0) else (some (0, 0, 0, 0, false)))) = some (r1, r2, r3, r4, r5) := h
 clear h
 replace H := Option.bind_eq_some_iff.mp H
 obtain ⟨t111, A20, H⟩ := H
 try dsimp only at H
 have A2 := Aside0.mk A20
 clear A20
 by_cases c3 : (t111.length : Int) = 4
 ·
  rw [if_pos c3] at H
  have c3b0 : ((t111.length : Int) == 4) = true := beq_iff_eq.mpr c3
  have c3b1 : ((t111.length : Int) != 4) = false := bne_eq_false_iff_eq.mpr c3
  clear c3
  have H' := Aside0.mk H
  clear H
  go_enter Tryd.func8, Tryd.ntmps8
  go_wp2_with (first | ((with_reducible refine gate_dst (N := 2) rfl ?_); refine xev 2 #[.int .u8 0, .int .u8 0, .int .u8 0, .int .u8 0] 23 ?_; intro gb109 hg w4 hbox hb; have BK109 := Aside0.mk (hbox); have GW109 := xsz hg; have GE109 := GW109; replace HB := xst hb; clear hb hbox hg) | ((with_reducible refine gate_dst (N := 4) rfl ?_); refine xev 4 #[.int .u8 0, .int .u8 0, .int .u8 0, .int .u8 0] 23 ?_; intro gb110 hg w5 hbox hb; have BK110 := Aside0.mk (hbox); have GW110 := xsz hg; have GE110 := GW110; have NB109_110 := xlt (g := gb109) hg; have NB110_109 := xgt (g := gb109) hg; replace BK109 := xbb (g := gb109) (o := .cells #[.int .u8 0, .int .u8 0, .int .u8 0, .int .u8 0] 23 (0, 0)) hb; replace HB := xst hb; clear hb hbox hg) | ((with_reducible refine gate_callee (f := 20) rfl ?_); refine xgl 11 Tryd.func20 #[.string a0, .string (⟨#[46]⟩ : ByteArray)] ?_; (with_reducible refine (strings_Split.calls a0 (⟨#[46]⟩ : ByteArray) t111 _ ?side1 A2.out).mono ?_); (case side1 => first | (with_reducible exact hG) | exact GW_to hG xbl); rintro e w6 ⟨v112, rfl, ho0, hb⟩; refine ⟨_, rfl, ?_⟩; have HO113 := Aside0.mk (Kd.R_lower ho0 (below_size xbl)); replace BK109 := xbb (g := gb109) (o := .cells #[.int .u8 0, .int .u8 0, .int .u8 0, .int .u8 0] 23 (0, 0)) hb; replace BK110 := xbb (g := gb110) (o := .cells #[.int .u8 0, .int .u8 0, .int .u8 0, .int .u8 0] 23 (0, 0)) hb; replace HB := xst hb; (try clear hb); (try clear ho0); obtain ⟨Ao7, co7, eo7⟩ := Kd.R_slice HO113.out; subst eo7))
  go_loopg [18] k (fun kq v18 w' => ∃ (x18_1 : Int) (x110000_1 : Int) (x110001_1 : Int) (x110002_1 : Int) (x110003_1 : Int) (x111000_1 : Int) (x111001_1 : Int) (x111002_1 : Int) (x111003_1 : Int), v18 = .int .i64 x18_1 ∧ Aside0 (ip_V4.l0 kq t111 (t111.length : Int) x18_1 x111000_1 x111001_1 x111002_1 x111003_1 = some (r1, r2, r3, r4, r5)) ∧ Aside0 (kq ≤ k) ∧ Aside0 (Kd.R Kd.string 9 w' w.heap.size (fun _ => True) (.slice Ao7 t111.length co7) t111) ∧ Aside0 (w'.heap[gb109]? = some (.cells #[.int .u8 x110000_1, .int .u8 x110001_1, .int .u8 x110002_1, .int .u8 x110003_1] 23 (0, 0))) ∧ Aside0 (w'.heap[gb110]? = some (.cells #[.int .u8 x111000_1, .int .u8 x111001_1, .int .u8 x111002_1, .int .u8 x111003_1] 23 (0, 0))) ∧ Aside0 (Below w.heap.size w w'))
  case atStart => exact ⟨(0), (0), (0), (0), (0), (0), (0), (0), (0), xrr, H', ⟨Nat.le_refl _⟩, ⟨xkd HO113⟩, ⟨xbk⟩, ⟨xbk⟩, ⟨xbl⟩⟩
  case round =>
   clear H'
   clear c3b0 c3b1
   obtain ⟨x18_1, x110000_1, x110001_1, x110002_1, x110003_1, x111000_1, x111001_1, x111002_1, x111003_1, rfl, HA, HK1, HO_16, BK109, BK110, HB⟩ := hrel
   cases gk with
   | zero => exact absurd HA.out (by simp [ip_V4.l0])
   | succ k1 =>
    have H := HA.out
    clear HA
    simp only [ip_V4.l0] at H
    by_cases c8 : x18_1 < (t111.length : Int)
    ·
     rw [if_pos c8] at H
     have c8b0 := decide_eq_true c8
     clear c8
     by_cases c9 : 0 ≤ x18_1
     ·
      rw [if_pos c9] at H
      have c9b0 := decide_eq_true c9
      clear c9
      by_cases c10 : x18_1 < (t111.length : Int)
      ·
       rw [if_pos c10] at H
       have c10b0 := decide_eq_true c10
       clear c10
       replace H := Option.bind_eq_some_iff.mp H
       obtain ⟨⟨t115, t116⟩, A110, H⟩ := H
       try dsimp only at H
       have A11 := Aside0.mk A110
       clear A110
       by_cases c12 : t116 = true
       ·
        subst c12
        rw [if_pos rfl] at H
        by_cases c13 : x18_1 = 0
        ·
         subst c13
         rw [if_pos rfl] at H
         have H' := Aside0.mk H
         clear H
         have p114 : 0 ≤ (0 : Int) := (by omega)
         have q114 : 0 < (t111.length : Int) := xod
         obtain ⟨ad114, e114, hx114_0⟩ := Kd.at_string (Kd.R_reads' HO_16.out).2.2 0 p114 q114
         cases e114
         have qi114 : (0 < t111.length) = True := eq_true (by omega)
         (try rw [show ((0 : Int)).toNat = 0 from rfl] at hx114_0)
         (try rw [Addr.add_zero'] at hx114_0)
         replace p114 := eq_true p114
         replace q114 := eq_true q114
         try (have q114x := q114; simp only [ByteArray.size_extract, Nat.min_self] at q114x)
         go_wp2_with (first | ((with_reducible refine gate_callee (f := 21) rfl ?_); refine xgl 25 Tryd.func21 #[.string (rdOf ByteArray.empty t111 0)] ?_; (with_reducible refine (ip_decimal.calls k1 (rdOf ByteArray.empty t111 0) t115 true _ A11.out).mono ?_); rintro e w' ⟨rfl, ⟨nd, rfl⟩⟩; refine ⟨_, rfl, ?_⟩; (try (rw [drewN_self wr]; generalize hq_ : World.drewN wr _ = wr; have n0_ : Aside0 (Kd.R Kd.string 9 wr w.heap.size (fun _ => True) (.slice (some ad114) t111.length co7) t111) := ⟨by rw [← hq_]; exact (xkd HO_16)⟩; have n1_ : Aside0 (wr.heap[gb109]? = some (.cells #[.int .u8 x110000_1, .int .u8 x110001_1, .int .u8 x110002_1, .int .u8 x110003_1] 23 (0, 0))) := ⟨by rw [← hq_]; exact xbk⟩; have n2_ : Aside0 (wr.heap[gb110]? = some (.cells #[.int .u8 x111000_1, .int .u8 x111001_1, .int .u8 x111002_1, .int .u8 x111003_1] 23 (0, 0))) := ⟨by rw [← hq_]; exact xbk⟩; have n3_ : Aside0 (Below w.heap.size w wr) := ⟨by rw [← hq_]; exact xbl⟩; clear HO_16 BK109 BK110 HB hq_; have HO_16 := n0_; have BK109 := n1_; have BK110 := n2_; have HB := n3_; clear n0_ n1_ n2_ n3_)); have hnb14 := NB110_109.out; have hnc14 := NB109_110.out; obtain ⟨hcz15_0, hcz15_1, hcz15_2, hcz15_3⟩ := xc4 BK110; have hfz15_0 := xf BK110 0; have hfz15_1 := xf BK110 1; have hfz15_2 := xf BK110 2; have hfz15_3 := xf BK110 3))
         go_roundg k1
         case measure => have := HK1.out; omega
         case rel => exact ⟨(wrap64 (0 + 1)), (x110000_1), (x110001_1), (x110002_1), (x110003_1), (t115), (x111001_1), (x111002_1), (x111003_1), xrr, H', ⟨by have := HK1.out; omega⟩, ⟨by (with_reducible repeat (first | apply Kd.R_alloc | apply Kd.R_drewN | apply Kd.R_drew)); exact Kd.R_mono (Kd.R_far (p := ⟨gb110, 0, none⟩) (Kd.R_types HO_16.out BK110.out (by decide)) (fun _ hk => hk.2) (.int .u8 t115)) (fun _ hk => trivial)⟩, ⟨by (with_reducible repeat (first | refine blk_drewN ?_ _ | refine blk_drew ?_ | refine blk_alloc ?_ _)); refine blk_far ?_ NB109_110.out _; (with_reducible repeat (first | refine blk_drewN ?_ _ | refine blk_drew ?_ | refine blk_alloc ?_ _)); exact BK109.out⟩, ⟨by (with_reducible repeat (first | refine blk_drewN ?_ _ | refine blk_drew ?_ | refine blk_alloc ?_ _)); refine blk_put (cs := #[.int .u8 x111000_1, .int .u8 x111001_1, .int .u8 x111002_1, .int .u8 x111003_1]) ?_ 0 _ rfl; (with_reducible repeat (first | refine blk_drewN ?_ _ | refine blk_drew ?_ | refine blk_alloc ?_ _)); exact BK110.out⟩, ⟨xbl⟩⟩
        ·
         rw [if_neg c13] at H
         clear c13
         by_cases c16 : x18_1 = 1
         ·
          subst c16
          rw [if_pos rfl] at H
          have H' := Aside0.mk H
          clear H
          have p114 : 0 ≤ (1 : Int) := (by omega)
          have q114 : 1 < (t111.length : Int) := xod
          obtain ⟨ad114, e114, hx114_0⟩ := Kd.at_string (Kd.R_reads' HO_16.out).2.2 1 p114 q114
          cases e114
          (try simp only [show (1 : Int).toNat = 1 from rfl, Nat.reduceMul, Nat.reduceEqDiff, Go.Addr.add, ↓reduceIte] at hx114_0)
          have qi114 : (1 < t111.length) = True := eq_true (by omega)
          (try rw [show ((1 : Int)).toNat = 1 from rfl] at hx114_0)
          replace p114 := eq_true p114
          replace q114 := eq_true q114
          try (have q114x := q114; simp only [ByteArray.size_extract, Nat.min_self] at q114x)
          go_wp2_with (first | ((with_reducible refine gate_callee (f := 21) rfl ?_); refine xgl 25 Tryd.func21 #[.string (rdOf ByteArray.empty t111 1)] ?_; (with_reducible refine (ip_decimal.calls k1 (rdOf ByteArray.empty t111 1) t115 true _ A11.out).mono ?_); rintro e w' ⟨rfl, ⟨nd, rfl⟩⟩; refine ⟨_, rfl, ?_⟩; (try (rw [drewN_self wr]; generalize hq_ : World.drewN wr _ = wr; have n0_ : Aside0 (Kd.R Kd.string 9 wr w.heap.size (fun _ => True) (.slice (some ad114) t111.length co7) t111) := ⟨by rw [← hq_]; exact (xkd HO_16)⟩; have n1_ : Aside0 (wr.heap[gb109]? = some (.cells #[.int .u8 x110000_1, .int .u8 x110001_1, .int .u8 x110002_1, .int .u8 x110003_1] 23 (0, 0))) := ⟨by rw [← hq_]; exact xbk⟩; have n2_ : Aside0 (wr.heap[gb110]? = some (.cells #[.int .u8 x111000_1, .int .u8 x111001_1, .int .u8 x111002_1, .int .u8 x111003_1] 23 (0, 0))) := ⟨by rw [← hq_]; exact xbk⟩; have n3_ : Aside0 (Below w.heap.size w wr) := ⟨by rw [← hq_]; exact xbl⟩; clear HO_16 BK109 BK110 HB hq_; have HO_16 := n0_; have BK109 := n1_; have BK110 := n2_; have HB := n3_; clear n0_ n1_ n2_ n3_)); have hnb17 := NB110_109.out; have hnc17 := NB109_110.out; obtain ⟨hcz18_0, hcz18_1, hcz18_2, hcz18_3⟩ := xc4 BK110; have hfz18_0 := xf BK110 0; have hfz18_1 := xf BK110 1; have hfz18_2 := xf BK110 2; have hfz18_3 := xf BK110 3))
          go_roundg k1
          case measure => have := HK1.out; omega
          case rel => exact ⟨(wrap64 (1 + 1)), (x110000_1), (x110001_1), (x110002_1), (x110003_1), (x111000_1), (t115), (x111002_1), (x111003_1), xrr, H', ⟨by have := HK1.out; omega⟩, ⟨by (with_reducible repeat (first | apply Kd.R_alloc | apply Kd.R_drewN | apply Kd.R_drew)); exact Kd.R_mono (Kd.R_far (p := ⟨gb110, 1, none⟩) (Kd.R_types HO_16.out BK110.out (by decide)) (fun _ hk => hk.2) (.int .u8 t115)) (fun _ hk => trivial)⟩, ⟨by (with_reducible repeat (first | refine blk_drewN ?_ _ | refine blk_drew ?_ | refine blk_alloc ?_ _)); refine blk_far ?_ NB109_110.out _; (with_reducible repeat (first | refine blk_drewN ?_ _ | refine blk_drew ?_ | refine blk_alloc ?_ _)); exact BK109.out⟩, ⟨by (with_reducible repeat (first | refine blk_drewN ?_ _ | refine blk_drew ?_ | refine blk_alloc ?_ _)); refine blk_put (cs := #[.int .u8 x111000_1, .int .u8 x111001_1, .int .u8 x111002_1, .int .u8 x111003_1]) ?_ 1 _ rfl; (with_reducible repeat (first | refine blk_drewN ?_ _ | refine blk_drew ?_ | refine blk_alloc ?_ _)); exact BK110.out⟩, ⟨xbl⟩⟩
         ·
          rw [if_neg c16] at H
          clear c16
          by_cases c19 : x18_1 = 2
          ·
           subst c19
           rw [if_pos rfl] at H
           have H' := Aside0.mk H
           clear H
           have p114 : 0 ≤ (2 : Int) := (by omega)
           have q114 : 2 < (t111.length : Int) := xod
           obtain ⟨ad114, e114, hx114_0⟩ := Kd.at_string (Kd.R_reads' HO_16.out).2.2 2 p114 q114
           cases e114
           (try simp only [show (2 : Int).toNat = 2 from rfl, Nat.reduceMul, Nat.reduceEqDiff, Go.Addr.add, ↓reduceIte] at hx114_0)
           have qi114 : (2 < t111.length) = True := eq_true (by omega)
           (try rw [show ((2 : Int)).toNat = 2 from rfl] at hx114_0)
           replace p114 := eq_true p114
           replace q114 := eq_true q114
           try (have q114x := q114; simp only [ByteArray.size_extract, Nat.min_self] at q114x)
           go_wp2_with (first | ((with_reducible refine gate_callee (f := 21) rfl ?_); refine xgl 25 Tryd.func21 #[.string (rdOf ByteArray.empty t111 2)] ?_; (with_reducible refine (ip_decimal.calls k1 (rdOf ByteArray.empty t111 2) t115 true _ A11.out).mono ?_); rintro e w' ⟨rfl, ⟨nd, rfl⟩⟩; refine ⟨_, rfl, ?_⟩; (try (rw [drewN_self wr]; generalize hq_ : World.drewN wr _ = wr; have n0_ : Aside0 (Kd.R Kd.string 9 wr w.heap.size (fun _ => True) (.slice (some ad114) t111.length co7) t111) := ⟨by rw [← hq_]; exact (xkd HO_16)⟩; have n1_ : Aside0 (wr.heap[gb109]? = some (.cells #[.int .u8 x110000_1, .int .u8 x110001_1, .int .u8 x110002_1, .int .u8 x110003_1] 23 (0, 0))) := ⟨by rw [← hq_]; exact xbk⟩; have n2_ : Aside0 (wr.heap[gb110]? = some (.cells #[.int .u8 x111000_1, .int .u8 x111001_1, .int .u8 x111002_1, .int .u8 x111003_1] 23 (0, 0))) := ⟨by rw [← hq_]; exact xbk⟩; have n3_ : Aside0 (Below w.heap.size w wr) := ⟨by rw [← hq_]; exact xbl⟩; clear HO_16 BK109 BK110 HB hq_; have HO_16 := n0_; have BK109 := n1_; have BK110 := n2_; have HB := n3_; clear n0_ n1_ n2_ n3_)); have hnb20 := NB110_109.out; have hnc20 := NB109_110.out; obtain ⟨hcz21_0, hcz21_1, hcz21_2, hcz21_3⟩ := xc4 BK110; have hfz21_0 := xf BK110 0; have hfz21_1 := xf BK110 1; have hfz21_2 := xf BK110 2; have hfz21_3 := xf BK110 3))
           go_roundg k1
           case measure => have := HK1.out; omega
           case rel => exact ⟨(wrap64 (2 + 1)), (x110000_1), (x110001_1), (x110002_1), (x110003_1), (x111000_1), (x111001_1), (t115), (x111003_1), xrr, H', ⟨by have := HK1.out; omega⟩, ⟨by (with_reducible repeat (first | apply Kd.R_alloc | apply Kd.R_drewN | apply Kd.R_drew)); exact Kd.R_mono (Kd.R_far (p := ⟨gb110, 2, none⟩) (Kd.R_types HO_16.out BK110.out (by decide)) (fun _ hk => hk.2) (.int .u8 t115)) (fun _ hk => trivial)⟩, ⟨by (with_reducible repeat (first | refine blk_drewN ?_ _ | refine blk_drew ?_ | refine blk_alloc ?_ _)); refine blk_far ?_ NB109_110.out _; (with_reducible repeat (first | refine blk_drewN ?_ _ | refine blk_drew ?_ | refine blk_alloc ?_ _)); exact BK109.out⟩, ⟨by (with_reducible repeat (first | refine blk_drewN ?_ _ | refine blk_drew ?_ | refine blk_alloc ?_ _)); refine blk_put (cs := #[.int .u8 x111000_1, .int .u8 x111001_1, .int .u8 x111002_1, .int .u8 x111003_1]) ?_ 2 _ rfl; (with_reducible repeat (first | refine blk_drewN ?_ _ | refine blk_drew ?_ | refine blk_alloc ?_ _)); exact BK110.out⟩, ⟨xbl⟩⟩
          ·
           rw [if_neg c19] at H
           clear c19
           by_cases c22 : x18_1 = 3
           ·
            subst c22
            rw [if_pos rfl] at H
            have H' := Aside0.mk H
            clear H
            have p114 : 0 ≤ (3 : Int) := (by omega)
            have q114 : 3 < (t111.length : Int) := xod
            obtain ⟨ad114, e114, hx114_0⟩ := Kd.at_string (Kd.R_reads' HO_16.out).2.2 3 p114 q114
            cases e114
            (try simp only [show (3 : Int).toNat = 3 from rfl, Nat.reduceMul, Nat.reduceEqDiff, Go.Addr.add, ↓reduceIte] at hx114_0)
            have qi114 : (3 < t111.length) = True := eq_true (by omega)
            (try rw [show ((3 : Int)).toNat = 3 from rfl] at hx114_0)
            replace p114 := eq_true p114
            replace q114 := eq_true q114
            try (have q114x := q114; simp only [ByteArray.size_extract, Nat.min_self] at q114x)
            go_wp2_with (first | ((with_reducible refine gate_callee (f := 21) rfl ?_); refine xgl 25 Tryd.func21 #[.string (rdOf ByteArray.empty t111 3)] ?_; (with_reducible refine (ip_decimal.calls k1 (rdOf ByteArray.empty t111 3) t115 true _ A11.out).mono ?_); rintro e w' ⟨rfl, ⟨nd, rfl⟩⟩; refine ⟨_, rfl, ?_⟩; (try (rw [drewN_self wr]; generalize hq_ : World.drewN wr _ = wr; have n0_ : Aside0 (Kd.R Kd.string 9 wr w.heap.size (fun _ => True) (.slice (some ad114) t111.length co7) t111) := ⟨by rw [← hq_]; exact (xkd HO_16)⟩; have n1_ : Aside0 (wr.heap[gb109]? = some (.cells #[.int .u8 x110000_1, .int .u8 x110001_1, .int .u8 x110002_1, .int .u8 x110003_1] 23 (0, 0))) := ⟨by rw [← hq_]; exact xbk⟩; have n2_ : Aside0 (wr.heap[gb110]? = some (.cells #[.int .u8 x111000_1, .int .u8 x111001_1, .int .u8 x111002_1, .int .u8 x111003_1] 23 (0, 0))) := ⟨by rw [← hq_]; exact xbk⟩; have n3_ : Aside0 (Below w.heap.size w wr) := ⟨by rw [← hq_]; exact xbl⟩; clear HO_16 BK109 BK110 HB hq_; have HO_16 := n0_; have BK109 := n1_; have BK110 := n2_; have HB := n3_; clear n0_ n1_ n2_ n3_)); have hnb23 := NB110_109.out; have hnc23 := NB109_110.out; obtain ⟨hcz24_0, hcz24_1, hcz24_2, hcz24_3⟩ := xc4 BK110; have hfz24_0 := xf BK110 0; have hfz24_1 := xf BK110 1; have hfz24_2 := xf BK110 2; have hfz24_3 := xf BK110 3))
            go_roundg k1
            case measure => have := HK1.out; omega
            case rel => exact ⟨(wrap64 (3 + 1)), (x110000_1), (x110001_1), (x110002_1), (x110003_1), (x111000_1), (x111001_1), (x111002_1), (t115), xrr, H', ⟨by have := HK1.out; omega⟩, ⟨by (with_reducible repeat (first | apply Kd.R_alloc | apply Kd.R_drewN | apply Kd.R_drew)); exact Kd.R_mono (Kd.R_far (p := ⟨gb110, 3, none⟩) (Kd.R_types HO_16.out BK110.out (by decide)) (fun _ hk => hk.2) (.int .u8 t115)) (fun _ hk => trivial)⟩, ⟨by (with_reducible repeat (first | refine blk_drewN ?_ _ | refine blk_drew ?_ | refine blk_alloc ?_ _)); refine blk_far ?_ NB109_110.out _; (with_reducible repeat (first | refine blk_drewN ?_ _ | refine blk_drew ?_ | refine blk_alloc ?_ _)); exact BK109.out⟩, ⟨by (with_reducible repeat (first | refine blk_drewN ?_ _ | refine blk_drew ?_ | refine blk_alloc ?_ _)); refine blk_put (cs := #[.int .u8 x111000_1, .int .u8 x111001_1, .int .u8 x111002_1, .int .u8 x111003_1]) ?_ 3 _ rfl; (with_reducible repeat (first | refine blk_drewN ?_ _ | refine blk_drew ?_ | refine blk_alloc ?_ _)); exact BK110.out⟩, ⟨xbl⟩⟩
           ·
            rw [if_neg c22] at H
            clear c22
            exact absurd H (by simp)
       ·
        replace c12 := Bool.eq_false_iff.mpr c12
        subst c12
        rw [if_neg (show ¬ (false = true) by decide)] at H
        simp only [Option.some.injEq, Prod.mk.injEq] at H
        obtain ⟨rfl, rfl, rfl, rfl, rfl⟩ := H
        have p114 : 0 ≤ (x18_1 : Int) := xod
        have q114 : x18_1 < (t111.length : Int) := xod
        obtain ⟨ad114, e114, hx114_0⟩ := Kd.at_string (Kd.R_reads' HO_16.out).2.2 x18_1 p114 q114
        cases e114
        replace p114 := eq_true p114
        replace q114 := eq_true q114
        try (have q114x := q114; simp only [ByteArray.size_extract, Nat.min_self] at q114x)
        go_wp2_with (first | ((with_reducible refine gate_callee (f := 21) rfl ?_); refine xgl 25 Tryd.func21 #[.string (rdOf ByteArray.empty t111 x18_1)] ?_; (with_reducible refine (ip_decimal.calls k1 (rdOf ByteArray.empty t111 x18_1) t115 false _ A11.out).mono ?_); rintro e w' ⟨rfl, ⟨nd, rfl⟩⟩; refine ⟨_, rfl, ?_⟩; (try (rw [drewN_self wr]; generalize hq_ : World.drewN wr _ = wr; have n0_ : Aside0 (Kd.R Kd.string 9 wr w.heap.size (fun _ => True) (.slice (some ad114) t111.length co7) t111) := ⟨by rw [← hq_]; exact (xkd HO_16)⟩; have n1_ : Aside0 (wr.heap[gb109]? = some (.cells #[.int .u8 x110000_1, .int .u8 x110001_1, .int .u8 x110002_1, .int .u8 x110003_1] 23 (0, 0))) := ⟨by rw [← hq_]; exact xbk⟩; have n2_ : Aside0 (wr.heap[gb110]? = some (.cells #[.int .u8 x111000_1, .int .u8 x111001_1, .int .u8 x111002_1, .int .u8 x111003_1] 23 (0, 0))) := ⟨by rw [← hq_]; exact xbk⟩; have n3_ : Aside0 (Below w.heap.size w wr) := ⟨by rw [← hq_]; exact xbl⟩; clear HO_16 BK109 BK110 HB hq_; have HO_16 := n0_; have BK109 := n1_; have BK110 := n2_; have HB := n3_; clear n0_ n1_ n2_ n3_)); have hnb25 := NB109_110.out; have hnc25 := NB110_109.out; obtain ⟨hcz26_0, hcz26_1, hcz26_2, hcz26_3⟩ := xc4 BK109; have hfz26_0 := xf BK109 0; have hfz26_1 := xf BK109 1; have hfz26_2 := xf BK109 2; have hfz26_3 := xf BK109 3))
        refine bodyPost_ret (results_ct rfl _ _ gb109 23 #[.int .u8 0, .int .u8 0, .int .u8 0, .int .u8 0] (0, 0) _ rfl xbk Tryd.underlying23 rfl (by kernel_rfl)) rfl ?_
        exact ⟨xre, xbl⟩
      ·
       rw [if_neg c10] at H
       exact absurd H (by simp)
     ·
      rw [if_neg c9] at H
      exact absurd H (by simp)
    ·
     rw [if_neg c8] at H
     have c8b0 := decide_eq_false c8
     clear c8
     simp only [Option.some.injEq, Prod.mk.injEq] at H
     obtain ⟨rfl, rfl, rfl, rfl, rfl⟩ := H
     have hnb27 := NB110_109.out
     have hnc27 := NB109_110.out
     obtain ⟨hcz28_0, hcz28_1, hcz28_2, hcz28_3⟩ := xc4 BK110
     have hfz28_0 := xf BK110 0
     have hfz28_1 := xf BK110 1
     have hfz28_2 := xf BK110 2
     have hfz28_3 := xf BK110 3
     obtain ⟨hcz29_0, hcz29_1, hcz29_2, hcz29_3⟩ := xc4 BK109
     have hfz29_0 := xf BK109 0
     have hfz29_1 := xf BK109 1
     have hfz29_2 := xf BK109 2
     have hfz29_3 := xf BK109 3
     go_wp2
     refine bodyPost_ret (results_ct rfl _ _ gb109 23 #[.int .u8 x111000_1, .int .u8 x111001_1, .int .u8 x111002_1, .int .u8 x111003_1] (0, 0) _ rfl xbk Tryd.underlying23 rfl (by kernel_rfl)) rfl ?_
     exact ⟨xre, xbl⟩
 ·
  rw [if_neg c3] at H
  have c3b0 : ((t111.length : Int) == 4) = false := beq_eq_false_iff_ne.mpr c3
  have c3b1 : ((t111.length : Int) != 4) = true := bne_iff_ne.mpr c3
  simp only [Option.some.injEq, Prod.mk.injEq] at H
  obtain ⟨rfl, rfl, rfl, rfl, rfl⟩ := H
  go_enter Tryd.func8, Tryd.ntmps8
  go_wp2_with (first | ((with_reducible refine gate_dst (N := 2) rfl ?_); refine xev 2 #[.int .u8 0, .int .u8 0, .int .u8 0, .int .u8 0] 23 ?_; intro gb109 hg w30 hbox hb; have BK109 := Aside0.mk (hbox); have GW109 := xsz hg; have GE109 := GW109; replace HB := xst hb; clear hb hbox hg) | ((with_reducible refine gate_dst (N := 4) rfl ?_); refine xev 4 #[.int .u8 0, .int .u8 0, .int .u8 0, .int .u8 0] 23 ?_; intro gb110 hg w31 hbox hb; have BK110 := Aside0.mk (hbox); have GW110 := xsz hg; have GE110 := GW110; have NB109_110 := xlt (g := gb109) hg; have NB110_109 := xgt (g := gb109) hg; replace BK109 := xbb (g := gb109) (o := .cells #[.int .u8 0, .int .u8 0, .int .u8 0, .int .u8 0] 23 (0, 0)) hb; replace HB := xst hb; clear hb hbox hg) | ((with_reducible refine gate_callee (f := 20) rfl ?_); refine xgl 11 Tryd.func20 #[.string a0, .string (⟨#[46]⟩ : ByteArray)] ?_; (with_reducible refine (strings_Split.calls a0 (⟨#[46]⟩ : ByteArray) t111 _ ?side1 A2.out).mono ?_); (case side1 => first | (with_reducible exact hG) | exact GW_to hG xbl); rintro e w32 ⟨v112, rfl, ho0, hb⟩; refine ⟨_, rfl, ?_⟩; have HO113 := Aside0.mk (Kd.R_lower ho0 (below_size xbl)); replace BK109 := xbb (g := gb109) (o := .cells #[.int .u8 0, .int .u8 0, .int .u8 0, .int .u8 0] 23 (0, 0)) hb; replace BK110 := xbb (g := gb110) (o := .cells #[.int .u8 0, .int .u8 0, .int .u8 0, .int .u8 0] 23 (0, 0)) hb; replace HB := xst hb; (try clear hb); (try clear ho0); obtain ⟨Ao33, co33, eo33⟩ := Kd.R_slice HO113.out; subst eo33; have hnb34 := NB110_109.out; have hnc34 := NB109_110.out; obtain ⟨hcz35_0, hcz35_1, hcz35_2, hcz35_3⟩ := xc4 BK110; have hfz35_0 := xf BK110 0; have hfz35_1 := xf BK110 1; have hfz35_2 := xf BK110 2; have hfz35_3 := xf BK110 3; obtain ⟨hcz36_0, hcz36_1, hcz36_2, hcz36_3⟩ := xc4 BK109; have hfz36_0 := xf BK109 0; have hfz36_1 := xf BK109 1; have hfz36_2 := xf BK109 2; have hfz36_3 := xf BK109 3))
  refine bodyPost_ret (results_ct rfl _ _ gb109 23 #[.int .u8 0, .int .u8 0, .int .u8 0, .int .u8 0] (0, 0) _ rfl xbk Tryd.underlying23 rfl (by kernel_rfl)) rfl ?_
  exact ⟨xre, xbl⟩
def octet_low.f (a0 : Int) : Option (Int) := if a0 ≥ 65 then (if a0 ≤ 90 then (some (Go.bits .or .u8 a0 32)) else (some a0)) else (some a0)
set_option maxHeartbeats 8000000 in
set_option maxRecDepth 100000 in
theorem octet_low.calls (a0 : Int) (r : Int) (w : World) (h : octet_low.f a0 = some r) :
    Calls Tryd.prog 78 #[.int .u8 a0] w fun e w' => e = .returned (.int .u8 r) ∧ Drawn0 w w' := by
 have H : (if a0 ≥ 65 then (if a0 ≤ 90 then (some (Go.bits .or .u8 a0 32)) else (some a0)) else (some a0)) = some r := h
 clear h
 by_cases c2 : a0 ≥ 65
 ·
  rw [if_pos c2] at H
  have c2b0 := decide_eq_true c2
  clear c2
  by_cases c3 : a0 ≤ 90
  ·
   rw [if_pos c3] at H
   have c3b0 := decide_eq_true c3
   clear c3
   obtain rfl := Option.some.inj H
   go_enter Tryd.func78, Tryd.ntmps78
   go_wp2
   go_ret
   exact ⟨xrr, xdr⟩
  ·
   rw [if_neg c3] at H
   have c3b0 := decide_eq_false c3
   clear c3
   obtain rfl := Option.some.inj H
   go_enter Tryd.func78, Tryd.ntmps78
   go_wp2
   go_ret
   exact ⟨xrr, xdr⟩
 ·
  rw [if_neg c2] at H
  have c2b0 := decide_eq_false c2
  clear c2
  obtain rfl := Option.some.inj H
  go_enter Tryd.func78, Tryd.ntmps78
  go_wp2
  go_ret
  exact ⟨xrr, xdr⟩
def octet_Value.j0 : Nat → Int → Bool → Option (Int × Bool)
  | 0, _, _ => none
  | k + 1, x0, x4 => if x4 = true then (some ((x0 - 48) % 256, true)) else ((octet_Is.f k x0 32).bind fun t117 => (if t117 = true then ((octet_low.f x0).bind fun t118 => (some (((t118 - 97) % 256) + 10, true))) else (some (0, false))))
def octet_Value.f (k : Nat) (a0 : Int) : Option (Int × Bool) := if a0 ≥ 48 then (octet_Value.j0 k a0 (decide (a0 ≤ 57))) else (octet_Value.j0 k a0 false)
theorem octet_Value.mono_l : ∀ k, (∀ y0 y1, LeO (octet_Value.j0 k y0 y1) (octet_Value.j0 (k + 1) y0 y1))
  | 0 => fun _ _ r h => by simp [octet_Value.j0] at h
  | k + 1 => by
    have ih0 := octet_Value.mono_l k
    have m0 := @octet_Is.mono
    · intro y0 y1
      unfold octet_Value.j0
      exact xmo
theorem octet_Value.mono : ∀ a0 k, LeO (octet_Value.f k a0) (octet_Value.f (k + 1) a0) := by
  intro a0 k
  have ih0 := octet_Value.mono_l k
  have m0 := @octet_Is.mono
  unfold octet_Value.f
  exact xmo
set_option maxHeartbeats 8000000 in
set_option maxRecDepth 100000 in
theorem octet_Value.calls (k : Nat) (a0 : Int) (r1 : Int) (r2 : Bool) (w : World) (h : octet_Value.f k a0 = some (r1, r2)) :
    Calls Tryd.prog 59 #[.int .u8 a0] w fun e w' => e = .returned (.tuple #[.int .i64 r1, .bool r2]) ∧ Drawn0 w w' := by
 have H : (if a0 ≥ 48 then (octet_Value.j0 k a0 (decide (a0 ≤ 57))) else (octet_Value.j0 k a0 false)) = some (r1, r2) := h
 clear h
 have HC2 := Aside0.mk H
 clear H
 go_enter Tryd.func59, Tryd.ntmps59
 go_upto_region 1 with (fail)
 go_cut [4] (fun v4 wc => ∃ (kq : Nat) (x4_1 : Bool), v4 = .bool x4_1 ∧ Aside0 (octet_Value.j0 kq a0 x4_1 = some (r1, r2)) ∧ Aside0 (kq ≤ k) ∧ Drawn0 w wc)
 case first =>
  have H := HC2.out
  clear HC2
  by_cases c3 : a0 ≥ 48
  ·
   rw [if_pos c3] at H
   have c3b0 := decide_eq_true c3
   clear c3
   (first | rw [c3b0] | (simp only [i64_w, i32_w]; rw [c3b0]) | skip)
   have H' := Aside0.mk H
   clear H
   go_wp2
   go_meet
   case rel => exact ⟨_, (decide (a0 ≤ 57)), xrr, H', ⟨xom⟩, xdr⟩
  ·
   rw [if_neg c3] at H
   have c3b0 := decide_eq_false c3
   clear c3
   (first | rw [c3b0] | (simp only [i64_w, i32_w]; rw [c3b0]) | skip)
   have H' := Aside0.mk H
   clear H
   go_wp2
   go_meet
   case rel => exact ⟨_, (false), xrr, H', ⟨xom⟩, xdr⟩
 case rest =>
  clear HC2
  obtain ⟨kq, x4_1, rfl, HA, HJ1, ⟨mc1, rfl⟩⟩ := hcut
  cases kq with
  | zero => exact absurd HA.out (by simp [octet_Value.j0])
  | succ kj1 =>
   have H := HA.out
   clear HA
   simp only [octet_Value.j0] at H
   by_cases c4 : x4_1 = true
   ·
    subst c4
    rw [if_pos rfl] at H
    simp only [Option.some.injEq, Prod.mk.injEq] at H
    obtain ⟨rfl, rfl⟩ := H
    go_wp2
    go_ret2
    exact ⟨xrr, xdr⟩
   ·
    replace c4 := Bool.eq_false_iff.mpr c4
    subst c4
    rw [if_neg (show ¬ (false = true) by decide)] at H
    replace H := Option.bind_eq_some_iff.mp H
    obtain ⟨t117, A50, H⟩ := H
    try dsimp only at H
    have A5 := Aside0.mk A50
    clear A50
    by_cases c6 : t117 = true
    ·
     subst c6
     rw [if_pos rfl] at H
     replace H := Option.bind_eq_some_iff.mp H
     obtain ⟨t118, A70, H⟩ := H
     try dsimp only at H
     have A7 := Aside0.mk A70
     clear A70
     simp only [Option.some.injEq, Prod.mk.injEq] at H
     obtain ⟨rfl, rfl⟩ := H
     go_wp2_with (first | ((with_reducible refine gate_callee (f := 40) rfl ?_); refine xgl 16 Tryd.func40 #[.int .u8 a0, .int .i64 32] ?_; (with_reducible refine (octet_Is.calls kj1 a0 32 true _ A5.out).mono ?_); rintro e w' ⟨rfl, ⟨nd, rfl⟩⟩; refine ⟨_, rfl, ?_⟩) | ((with_reducible refine gate_callee (f := 78) rfl ?_); refine xgl 18 Tryd.func78 #[.int .u8 a0] ?_; (with_reducible refine (octet_low.calls a0 t118 _ A7.out).mono ?_); rintro e w' ⟨rfl, ⟨nd, rfl⟩⟩; refine ⟨_, rfl, ?_⟩))
     go_ret2
     exact ⟨xrr, xdr⟩
    ·
     replace c6 := Bool.eq_false_iff.mpr c6
     subst c6
     rw [if_neg (show ¬ (false = true) by decide)] at H
     simp only [Option.some.injEq, Prod.mk.injEq] at H
     obtain ⟨rfl, rfl⟩ := H
     go_wp2_with (first | ((with_reducible refine gate_callee (f := 40) rfl ?_); refine xgl 16 Tryd.func40 #[.int .u8 a0, .int .i64 32] ?_; (with_reducible refine (octet_Is.calls kj1 a0 32 false _ A5.out).mono ?_); rintro e w' ⟨rfl, ⟨nd, rfl⟩⟩; refine ⟨_, rfl, ?_⟩))
     go_ret2
     exact ⟨xrr, xdr⟩
mutual
def ip_word.j0 : Nat → ByteArray → Bool → Option (Int × Bool)
  | 0, _, _ => none
  | k + 1, x0, x15 => if x15 = true then (some (0, false)) else (ip_word.l0 k x0 0 (x0.size : Int) 0)
def ip_word.l0 : Nat → ByteArray → Int → Int → Int → Option (Int × Bool)
  | 0, _, _, _, _ => none
  | k + 1, x0, x4, x17, x18 => if x18 < x17 then (if 0 ≤ x18 then (if x18 < (x0.size : Int) then ((octet_Value.f k (bt x0 x18)).bind fun bt119 => (if bt119.2 = true then (ip_word.l0 k x0 (Go.bits .or .i64 (wrap64 (x4 * 16)) bt119.1) x17 (wrap64 (x18 + 1))) else (some (0, false)))) else (none)) else (none)) else (some (IntKind.u16.wrap (x4), true))
end
def ip_word.f (k : Nat) (a0 : ByteArray) : Option (Int × Bool) := if (a0.size : Int) = 0 then (ip_word.j0 k a0 true) else (ip_word.j0 k a0 (decide ((a0.size : Int) > 4)))
theorem ip_word.mono_l : ∀ k, (∀ y0 y1, LeO (ip_word.j0 k y0 y1) (ip_word.j0 (k + 1) y0 y1)) ∧ (∀ y0 y1 y2 y3, LeO (ip_word.l0 k y0 y1 y2 y3) (ip_word.l0 (k + 1) y0 y1 y2 y3))
  | 0 => ⟨fun _ _ r h => by simp [ip_word.j0] at h, fun _ _ _ _ r h => by simp [ip_word.l0] at h⟩
  | k + 1 => by
    obtain ⟨ih0, ih1⟩ := ip_word.mono_l k
    have m0 := @octet_Value.mono
    refine ⟨?_, ?_⟩
    · intro y0 y1
      unfold ip_word.j0
      exact xmo
    · intro y0 y1 y2 y3
      unfold ip_word.l0
      exact xmo
theorem ip_word.mono : ∀ a0 k, LeO (ip_word.f k a0) (ip_word.f (k + 1) a0) := by
  intro a0 k
  obtain ⟨ih0, ih1⟩ := ip_word.mono_l k
  have m0 := @octet_Value.mono
  unfold ip_word.f
  exact xmo
set_option maxHeartbeats 8000000 in
set_option maxRecDepth 100000 in
theorem ip_word.calls (k : Nat) (a0 : ByteArray) (r1 : Int) (r2 : Bool) (w : World) (h : ip_word.f k a0 = some (r1, r2)) :
    Calls Tryd.prog 42 #[.string a0] w fun e w' => e = .returned (.tuple #[.int .u16 r1, .bool r2]) ∧ Drawn0 w w' := by
 have H : (if (a0.size : Int) = 0 then (ip_word.j0 k a0 true) else (ip_word.j0 k a0 (decide ((a0.size : Int) > 4)))) = some (r1, r2) := h
 clear h
 have HC2 := Aside0.mk H
 clear H
 go_enter Tryd.func42, Tryd.ntmps42
 go_upto_region 1 with (fail)
 go_cut [15] (fun v15 wc => ∃ (kq : Nat) (x15_1 : Bool), v15 = .bool x15_1 ∧ Aside0 (ip_word.j0 kq a0 x15_1 = some (r1, r2)) ∧ Aside0 (kq ≤ k) ∧ Drawn0 w wc)
 case first =>
  have H := HC2.out
  clear HC2
  by_cases c3 : (a0.size : Int) = 0
  ·
   rw [if_pos c3] at H
   have c3b0 : ((a0.size : Int) == 0) = true := beq_iff_eq.mpr c3
   have c3b1 : ((a0.size : Int) != 0) = false := bne_eq_false_iff_eq.mpr c3
   clear c3
   (first | rw [c3b0] | (simp only [i64_w, i32_w]; rw [c3b0]) | skip)
   have H' := Aside0.mk H
   clear H
   go_wp2
   go_meet
   case rel => exact ⟨_, (true), xrr, H', ⟨xom⟩, xdr⟩
  ·
   rw [if_neg c3] at H
   have c3b0 : ((a0.size : Int) == 0) = false := beq_eq_false_iff_ne.mpr c3
   have c3b1 : ((a0.size : Int) != 0) = true := bne_iff_ne.mpr c3
   (first | rw [c3b0] | (simp only [i64_w, i32_w]; rw [c3b0]) | skip)
   have H' := Aside0.mk H
   clear H
   go_wp2
   go_meet
   case rel => exact ⟨_, (decide ((a0.size : Int) > 4)), xrr, H', ⟨xom⟩, xdr⟩
 case rest =>
  clear HC2
  obtain ⟨kq, x15_1, rfl, HA, HJ1, ⟨mc1, rfl⟩⟩ := hcut
  cases kq with
  | zero => exact absurd HA.out (by simp [ip_word.j0])
  | succ kj1 =>
   have H := HA.out
   clear HA
   simp only [ip_word.j0] at H
   by_cases c4 : x15_1 = true
   ·
    subst c4
    rw [if_pos rfl] at H
    simp only [Option.some.injEq, Prod.mk.injEq] at H
    obtain ⟨rfl, rfl⟩ := H
    go_wp2
    go_ret2
    exact ⟨xrr, xdr⟩
   ·
    replace c4 := Bool.eq_false_iff.mpr c4
    subst c4
    rw [if_neg (show ¬ (false = true) by decide)] at H
    have H' := Aside0.mk H
    clear H
    go_wp2
    go_loopg [4, 18] kj1 (fun kq v4 v18 w' => ∃ (x4_2 : Int) (x18_2 : Int), v4 = .int .i64 x4_2 ∧ v18 = .int .i64 x18_2 ∧ Aside0 (ip_word.l0 kq a0 x4_2 (a0.size : Int) x18_2 = some (r1, r2)) ∧ Aside0 (kq ≤ kj1) ∧ Drawn0 w w')
    case atStart => exact ⟨(0), (0), xrr, xrr, H', ⟨Nat.le_refl _⟩, xdr⟩
    case round =>
     clear H'
     obtain ⟨x4_2, x18_2, rfl, rfl, HA, HK2, ⟨m2, rfl⟩⟩ := hrel
     cases gk with
     | zero => exact absurd HA.out (by simp [ip_word.l0])
     | succ k2 =>
      have H := HA.out
      clear HA
      simp only [ip_word.l0] at H
      by_cases c5 : x18_2 < (a0.size : Int)
      ·
       rw [if_pos c5] at H
       have c5b0 := decide_eq_true c5
       clear c5
       by_cases c6 : 0 ≤ x18_2
       ·
        rw [if_pos c6] at H
        have c6b0 := decide_eq_true c6
        clear c6
        by_cases c7 : x18_2 < (a0.size : Int)
        ·
         rw [if_pos c7] at H
         have c7b0 := decide_eq_true c7
         clear c7
         replace H := Option.bind_eq_some_iff.mp H
         obtain ⟨⟨t119, t120⟩, A90, H⟩ := H
         try dsimp only at H
         have A9 := Aside0.mk A90
         clear A90
         by_cases c10 : t120 = true
         ·
          subst c10
          rw [if_pos rfl] at H
          have H' := Aside0.mk H
          clear H
          have p8 : 0 ≤ (x18_2 : Int) := xod
          have q8 : x18_2 < (a0.size : Int) := xod
          have hx8 := bt_at a0 x18_2
          replace p8 := eq_true p8
          replace q8 := eq_true q8
          try (have q8x := q8; simp only [ByteArray.size_extract, Nat.min_self] at q8x)
          go_wp2_with (first | ((with_reducible refine gate_callee (f := 59) rfl ?_); refine xgl 25 Tryd.func59 #[.int .u8 (bt a0 x18_2)] ?_; (with_reducible refine (octet_Value.calls k2 (bt a0 x18_2) t119 true _ A9.out).mono ?_); rintro e w' ⟨rfl, ⟨nd, rfl⟩⟩; refine ⟨_, rfl, ?_⟩))
          go_roundg k2
          case measure => have := HJ1.out; have := HK2.out; omega
          case rel => exact ⟨(Go.bits .or .i64 (wrap64 (x4_2 * 16)) t119), (wrap64 (x18_2 + 1)), xrr, xrr, H', ⟨by have := HJ1.out; have := HK2.out; omega⟩, xdr⟩
         ·
          replace c10 := Bool.eq_false_iff.mpr c10
          subst c10
          rw [if_neg (show ¬ (false = true) by decide)] at H
          simp only [Option.some.injEq, Prod.mk.injEq] at H
          obtain ⟨rfl, rfl⟩ := H
          have p8 : 0 ≤ (x18_2 : Int) := xod
          have q8 : x18_2 < (a0.size : Int) := xod
          have hx8 := bt_at a0 x18_2
          replace p8 := eq_true p8
          replace q8 := eq_true q8
          try (have q8x := q8; simp only [ByteArray.size_extract, Nat.min_self] at q8x)
          go_wp2_with (first | ((with_reducible refine gate_callee (f := 59) rfl ?_); refine xgl 25 Tryd.func59 #[.int .u8 (bt a0 x18_2)] ?_; (with_reducible refine (octet_Value.calls k2 (bt a0 x18_2) t119 false _ A9.out).mono ?_); rintro e w' ⟨rfl, ⟨nd, rfl⟩⟩; refine ⟨_, rfl, ?_⟩))
          go_ret2
          exact ⟨xrr, xdr⟩
        ·
         rw [if_neg c7] at H
         exact absurd H (by simp)
       ·
        rw [if_neg c6] at H
        exact absurd H (by simp)
      ·
       rw [if_neg c5] at H
       have c5b0 := decide_eq_false c5
       clear c5
       simp only [Option.some.injEq, Prod.mk.injEq] at H
       obtain ⟨rfl, rfl⟩ := H
       go_wp2
       go_ret2
       exact ⟨xrr, xdr⟩
end Go.Proofs.YticohlbfolnmpaaDoor.X
