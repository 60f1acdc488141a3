/- Texts that the law's proof needs, joined by a program of this session. -/
import Derived.Test.YtdmigmccfdhdiaaDoorZSeatOne1
import Derived.Test.YtdmigmccfdhdiaaDoorZSeatOne4
import Derived.Test.YtdmigmccfdhdiaaDoorZSeatOne5
namespace Go.Proofs.YtdmigmccfdhdiaaDoor.X
open Go.RowKit Go.Proofs.YtdmigmccfdhdiaaDoorW.PrintWords Go.Proofs.YtdmigmccfdhdiaaDoorW.PrintLast Go.Proofs.YtdmigmccfdhdiaaDoorW.PrintMore
attribute [local go_sem] max2_int min2_int max_two min_two max_three min_three max_four min_four
set_option linter.unusedVariables false
set_option linter.unusedSimpArgs false
mutual
def ip_decimal.j0 : Nat → ByteArray → Bool → Option (Int × Bool)
  | 0, _, _ => none
  | k + 1, x0, x23 => if x23 = true then (some (0, false)) else (ip_decimal.l0 k x0 0 (x0.size : Int) 0)
def ip_decimal.l0 : Nat → ByteArray → Int → Int → Int → Option (Int × Bool)
  | 0, _, _, _, _ => none
  | k + 1, x0, x4, x25, x26 => if x26 < x25 then (if 0 ≤ x26 then (if x26 < (x0.size : Int) then ((octet_Is.f k (bt x0 x26) 2).bind fun t167 => (if t167 = true then (ip_decimal.l0 k x0 (wrap64 ((wrap64 (10 * x4)) + (((bt x0 x26) - 48) % 256))) x25 (wrap64 (x26 + 1))) else (some (0, false)))) else (none)) else (none)) else (some ((x4) % 256, decide (x4 ≤ 255)))
end
def ip_decimal.f (k : Nat) (a0 : ByteArray) : Option (Int × Bool) := if (a0.size : Int) = 0 then (ip_decimal.j0 k a0 true) else (if (a0.size : Int) > 3 then (ip_decimal.j0 k a0 true) else (if (a0.size : Int) > 1 then (if 0 < (a0.size : Int) then (ip_decimal.j0 k a0 ((bt a0 0) == 48)) else (none)) else (ip_decimal.j0 k a0 false)))
theorem ip_decimal.mono_l : ∀ k, (∀ y0 y1, LeO (ip_decimal.j0 k y0 y1) (ip_decimal.j0 (k + 1) y0 y1)) ∧ (∀ y0 y1 y2 y3, LeO (ip_decimal.l0 k y0 y1 y2 y3) (ip_decimal.l0 (k + 1) y0 y1 y2 y3))
  | 0 => ⟨fun _ _ r h => by simp [ip_decimal.j0] at h, fun _ _ _ _ r h => by simp [ip_decimal.l0] at h⟩
  | k + 1 => by
    obtain ⟨ih0, ih1⟩ := ip_decimal.mono_l k
    have m0 := @octet_Is.mono
    refine ⟨?_, ?_⟩
    · intro y0 y1
      unfold ip_decimal.j0
      exact xmo
    · intro y0 y1 y2 y3
      unfold ip_decimal.l0
      exact xmo
theorem ip_decimal.mono : ∀ a0 k, LeO (ip_decimal.f k a0) (ip_decimal.f (k + 1) a0) := by
  intro a0 k
  obtain ⟨ih0, ih1⟩ := ip_decimal.mono_l k
  have m0 := @octet_Is.mono
  unfold ip_decimal.f
  exact xmo
set_option maxHeartbeats 8000000 in
set_option maxRecDepth 100000 in
theorem ip_decimal.calls (k : Nat) (a0 : ByteArray) (r1 : Int) (r2 : Bool) (w : World) (h : ip_decimal.f k a0 = some (r1, r2)) :
    Calls Tryd.prog 50 #[.string a0] w fun e w' => e = .returned (.tuple #[.int .u8 r1, .bool r2]) ∧ Drawn0 w w' := by
 have H : (if (a0.size : Int) = 0 then (ip_decimal.j0 k a0 true) else (if (a0.size : Int) > 3 then (ip_decimal.j0 k a0 true) else (if (a0.size : Int) > 1 then (if 0 < (a0.size : Int) then (ip_decimal.j0 k a0 ((bt a0 0) == 48)) else (none)) else (ip_decimal.j0 k a0 false)))) = some (r1, r2) := h
 clear h
 have HC2 := Aside0.mk H
 clear H
 go_enter Tryd.func50, Tryd.ntmps50
 go_upto_region 1 with (fail)
 go_cut [23] (fun v23 wc => ∃ (kq : Nat) (x23_1 : Bool), v23 = .bool x23_1 ∧ Aside0 (ip_decimal.j0 kq a0 x23_1 = some (r1, r2)) ∧ Aside0 (kq ≤ k) ∧ Drawn0 w wc)
 case first =>
  have H := HC2.out
  clear HC2
  by_cases c3 : (a0.size : Int) = 0
  ·
   rw [if_pos c3] at H
   have c3b0 : ((a0.size : Int) == 0) = true := beq_iff_eq.mpr c3
   have c3b1 : ((a0.size : Int) != 0) = false := bne_eq_false_iff_eq.mpr c3
   clear c3
   (first | rw [c3b0] | (simp only [i64_w, i32_w]; rw [c3b0]) | skip)
   have H' := Aside0.mk H
   clear H
   go_wp2
   go_meet
   case rel => exact ⟨_, (true), xrr, H', ⟨xom⟩, xdr⟩
  ·
   rw [if_neg c3] at H
   have c3b0 : ((a0.size : Int) == 0) = false := beq_eq_false_iff_ne.mpr c3
   have c3b1 : ((a0.size : Int) != 0) = true := bne_iff_ne.mpr c3
   (first | rw [c3b0] | (simp only [i64_w, i32_w]; rw [c3b0]) | skip)
   by_cases c4 : (a0.size : Int) > 3
   ·
    rw [if_pos c4] at H
    have c4b0 := decide_eq_true c4
    have c4b1 : decide (3 < a0.size) = true := decide_eq_true (by omega)
    clear c4
    have H' := Aside0.mk H
    clear H
    go_wp2
    go_meet
    case rel => exact ⟨_, (true), xrr, H', ⟨xom⟩, xdr⟩
   ·
    rw [if_neg c4] at H
    have c4b0 := decide_eq_false c4
    have c4b1 : decide (3 < a0.size) = false := decide_eq_false (by omega)
    clear c4
    by_cases c5 : (a0.size : Int) > 1
    ·
     rw [if_pos c5] at H
     have c5b0 := decide_eq_true c5
     have c5b1 : decide (1 < a0.size) = true := decide_eq_true (by omega)
     clear c5
     by_cases c6 : 0 < (a0.size : Int)
     ·
      rw [if_pos c6] at H
      have c6b0 := decide_eq_true c6
      have c6b1 : decide (0 < a0.size) = true := decide_eq_true (by omega)
      clear c6
      have H' := Aside0.mk H
      clear H
      have p7 : 0 ≤ (0 : Int) := (by omega)
      have q7 : 0 < a0.size := (by have : (0 : Int) < (a0.size : Int) := xod; omega)
      have hx7 : ∀ h : 0 < a0.size, ((a0[0]'h).toNat : Int) = bt a0 0 := bt_at a0 0
      clear p7
      have qi7 : (0 < (a0.size : Int)) = True := eq_true (xod)
      replace q7 := eq_true q7
      try (have q7x := q7; simp only [ByteArray.size_extract, Nat.min_self] at q7x)
      go_wp2
      go_meet
      case rel => exact ⟨_, (((bt a0 0) == 48)), xrr, H', ⟨xom⟩, xdr⟩
     ·
      rw [if_neg c6] at H
      exact absurd H (by simp)
    ·
     rw [if_neg c5] at H
     have c5b0 := decide_eq_false c5
     have c5b1 : decide (1 < a0.size) = false := decide_eq_false (by omega)
     clear c5
     have H' := Aside0.mk H
     clear H
     go_wp2
     go_meet
     case rel => exact ⟨_, (false), xrr, H', ⟨xom⟩, xdr⟩
 case rest =>
  clear HC2
  obtain ⟨kq, x23_1, rfl, HA, HJ1, ⟨mc1, rfl⟩⟩ := hcut
  cases kq with
  | zero => exact absurd HA.out (by simp [ip_decimal.j0])
  | succ kj1 =>
   have H := HA.out
   clear HA
   simp only [ip_decimal.j0] at H
   by_cases c8 : x23_1 = true
   ·
    subst c8
    rw [if_pos rfl] at H
    simp only [Option.some.injEq, Prod.mk.injEq] at H
    obtain ⟨rfl, rfl⟩ := H
    go_wp2
    go_ret2
    exact ⟨xrr, xdr⟩
   ·
    replace c8 := Bool.eq_false_iff.mpr c8
    subst c8
    rw [if_neg (show ¬ (false = true) by decide)] at H
    have H' := Aside0.mk H
    clear H
    go_wp2
    go_loopg [4, 26] kj1 (fun kq v4 v26 w' => ∃ (x4_2 : Int) (x26_2 : Int), v4 = .int .i64 x4_2 ∧ v26 = .int .i64 x26_2 ∧ Aside0 (ip_decimal.l0 kq a0 x4_2 (a0.size : Int) x26_2 = some (r1, r2)) ∧ Aside0 (kq ≤ kj1) ∧ Drawn0 w w')
    case atStart => exact ⟨(0), (0), xrr, xrr, H', ⟨Nat.le_refl _⟩, xdr⟩
    case round =>
     clear H'
     obtain ⟨x4_2, x26_2, rfl, rfl, HA, HK2, ⟨m2, rfl⟩⟩ := hrel
     cases gk with
     | zero => exact absurd HA.out (by simp [ip_decimal.l0])
     | succ k2 =>
      have H := HA.out
      clear HA
      simp only [ip_decimal.l0] at H
      by_cases c9 : x26_2 < (a0.size : Int)
      ·
       rw [if_pos c9] at H
       have c9b0 := decide_eq_true c9
       clear c9
       by_cases c10 : 0 ≤ x26_2
       ·
        rw [if_pos c10] at H
        have c10b0 := decide_eq_true c10
        clear c10
        by_cases c11 : x26_2 < (a0.size : Int)
        ·
         rw [if_pos c11] at H
         have c11b0 := decide_eq_true c11
         clear c11
         replace H := Option.bind_eq_some_iff.mp H
         obtain ⟨t167, A130, H⟩ := H
         try dsimp only at H
         have A13 := Aside0.mk A130
         clear A130
         by_cases c14 : t167 = true
         ·
          subst c14
          rw [if_pos rfl] at H
          have H' := Aside0.mk H
          clear H
          have p12 : 0 ≤ (x26_2 : Int) := xod
          have q12 : x26_2 < (a0.size : Int) := xod
          have hx12 := bt_at a0 x26_2
          replace p12 := eq_true p12
          replace q12 := eq_true q12
          try (have q12x := q12; simp only [ByteArray.size_extract, Nat.min_self] at q12x)
          go_wp2_with (first | ((with_reducible refine gate_callee (f := 30) rfl ?_); refine xgl 32 Tryd.func30 #[.int .u8 (bt a0 x26_2), .int .i64 2] ?_; (with_reducible refine (octet_Is.calls k2 (bt a0 x26_2) 2 true _ A13.out).mono ?_); rintro e w' ⟨rfl, ⟨nd, rfl⟩⟩; refine ⟨_, rfl, ?_⟩; have p15 : 0 ≤ (x26_2 : Int) := xod; have q15 : x26_2 < (a0.size : Int) := xod; have hx15 := bt_at a0 x26_2; replace p15 := eq_true p15; replace q15 := eq_true q15))
          go_roundg k2
          case measure => have := HJ1.out; have := HK2.out; omega
          case rel => exact ⟨(wrap64 ((wrap64 (10 * x4_2)) + (((bt a0 x26_2) - 48) % 256))), (wrap64 (x26_2 + 1)), xrr, xrr, H', ⟨by have := HJ1.out; have := HK2.out; omega⟩, xdr⟩
         ·
          replace c14 := Bool.eq_false_iff.mpr c14
          subst c14
          rw [if_neg (show ¬ (false = true) by decide)] at H
          simp only [Option.some.injEq, Prod.mk.injEq] at H
          obtain ⟨rfl, rfl⟩ := H
          have p12 : 0 ≤ (x26_2 : Int) := xod
          have q12 : x26_2 < (a0.size : Int) := xod
          have hx12 := bt_at a0 x26_2
          replace p12 := eq_true p12
          replace q12 := eq_true q12
          try (have q12x := q12; simp only [ByteArray.size_extract, Nat.min_self] at q12x)
          go_wp2_with (first | ((with_reducible refine gate_callee (f := 30) rfl ?_); refine xgl 32 Tryd.func30 #[.int .u8 (bt a0 x26_2), .int .i64 2] ?_; (with_reducible refine (octet_Is.calls k2 (bt a0 x26_2) 2 false _ A13.out).mono ?_); rintro e w' ⟨rfl, ⟨nd, rfl⟩⟩; refine ⟨_, rfl, ?_⟩))
          go_ret2
          exact ⟨xrr, xdr⟩
        ·
         rw [if_neg c11] at H
         exact absurd H (by simp)
       ·
        rw [if_neg c10] at H
        exact absurd H (by simp)
      ·
       rw [if_neg c9] at H
       have c9b0 := decide_eq_false c9
       clear c9
       simp only [Option.some.injEq, Prod.mk.injEq] at H
       obtain ⟨rfl, rfl⟩ := H
       go_wp2
       go_ret2
       exact ⟨xrr, xdr⟩
def ip_V4.l0 : Nat → List ByteArray → Int → Int → Int → Int → Int → Int → Option (Int × Int × Int × Int × Bool)
  | 0, _, _, _, _, _, _, _ => none
  | k + 1, x16, x17, x18, x170000, x170001, x170002, x170003 => if x18 < x17 then (if 0 ≤ x18 then (if x18 < (x16.length : Int) then ((ip_decimal.f k (rdOf ByteArray.empty x16 x18)).bind fun bt174 => (if bt174.2 = true then (if x18 = 0 then (ip_V4.l0 k x16 x17 (wrap64 (x18 + 1)) bt174.1 x170001 x170002 x170003) else (if x18 = 1 then (ip_V4.l0 k x16 x17 (wrap64 (x18 + 1)) x170000 bt174.1 x170002 x170003) else (if x18 = 2 then (ip_V4.l0 k x16 x17 (wrap64 (x18 + 1)) x170000 x170001 bt174.1 x170003) else (if x18 = 3 then (ip_V4.l0 k x16 x17 (wrap64 (x18 + 1)) x170000 x170001 x170002 bt174.1) else (none))))) else (some (0, 0, 0, 0, false)))) else (none)) else (none)) else (some (x170000, x170001, x170002, x170003, true))
def ip_V4.f (k : Nat) (a0 : ByteArray) : Option (Int × Int × Int × Int × Bool) := (strings_Split.f a0 (⟨#[46]⟩ : ByteArray)).bind fun t170 => (if (t170.length : Int) = 4 then (ip_V4.l0 k t170 (t170.length : Int) 0 0 0 0 0) else (some (0, 0, 0, 0, false)))
theorem ip_V4.mono_l : ∀ k, (∀ y0 y1 y2 y3 y4 y5 y6, LeO (ip_V4.l0 k y0 y1 y2 y3 y4 y5 y6) (ip_V4.l0 (k + 1) y0 y1 y2 y3 y4 y5 y6))
  | 0 => fun _ _ _ _ _ _ _ r h => by simp [ip_V4.l0] at h
  | k + 1 => by
    have ih0 := ip_V4.mono_l k
    have m0 := @ip_decimal.mono
    · intro y0 y1 y2 y3 y4 y5 y6
      unfold ip_V4.l0
      exact xmo
theorem ip_V4.mono : ∀ a0 k, LeO (ip_V4.f k a0) (ip_V4.f (k + 1) a0) := by
  intro a0 k
  have ih0 := ip_V4.mono_l k
  have m0 := @ip_decimal.mono
  unfold ip_V4.f
  exact xmo
set_option maxHeartbeats 8000000 in
set_option maxRecDepth 100000 in
theorem ip_V4.calls (k : Nat) (a0 : ByteArray) (r1 : Int) (r2 : Int) (r3 : Int) (r4 : Int) (r5 : Bool) (w : World) (hG : GW w) (h : ip_V4.f k a0 = some (r1, r2, r3, r4, r5)) :
    Calls Tryd.prog 29 #[.string a0] w fun e w' => e = .returned (.tuple #[.agg #[.int .u8 r1, .int .u8 r2, .int .u8 r3, .int .u8 r4], .bool r5]) ∧ Below w.heap.size w w' := by
 have hu53 := Tryd.underlying53
 have HB := Aside0.mk (Below.refl w.heap.size w)
 have H : ((strings_Split.f a0 (⟨#[46]⟩ : ByteArray)).bind fun t170 => (if (t170.length : Int) = 4 then (ip_V4.l0 k t170 (t170.length : Int) 0 0 0 0 0) else (some (0, 0, 0, 0, false)))) = some (r1, r2, r3, r4, r5) := h
 clear h
 replace H := Option.bind_eq_some_iff.mp H
 obtain ⟨t170, A20, H⟩ := H
 try dsimp only at H
 have A2 := Aside0.mk A20
 clear A20
 by_cases c3 : (t170.length : Int) = 4
 ·
  rw [if_pos c3] at H
  have c3b0 : ((t170.length : Int) == 4) = true := beq_iff_eq.mpr c3
  have c3b1 : ((t170.length : Int) != 4) = false := bne_eq_false_iff_eq.mpr c3
  clear c3
  have H' := Aside0.mk H
  clear H
  go_enter Tryd.func29, Tryd.ntmps29
  go_wp2_with (first | ((with_reducible refine gate_dst (N := 2) rfl ?_); refine xev 2 #[.int .u8 0, .int .u8 0, .int .u8 0, .int .u8 0] 53 ?_; intro gb168 hg w4 hbox hb; have BK168 := Aside0.mk (hbox); have GW168 := xsz hg; have GE168 := GW168; replace HB := xst hb; clear hb hbox hg) | ((with_reducible refine gate_dst (N := 4) rfl ?_); refine xev 4 #[.int .u8 0, .int .u8 0, .int .u8 0, .int .u8 0] 53 ?_; intro gb169 hg w5 hbox hb; have BK169 := Aside0.mk (hbox); have GW169 := xsz hg; have GE169 := GW169; have NB168_169 := xlt (g := gb168) hg; have NB169_168 := xgt (g := gb168) hg; replace BK168 := xbb (g := gb168) (o := .cells #[.int .u8 0, .int .u8 0, .int .u8 0, .int .u8 0] 53 (0, 0)) hb; replace HB := xst hb; clear hb hbox hg) | ((with_reducible refine gate_callee (f := 49) rfl ?_); refine xgl 11 Tryd.func49 #[.string a0, .string (⟨#[46]⟩ : ByteArray)] ?_; (with_reducible refine (strings_Split.calls a0 (⟨#[46]⟩ : ByteArray) t170 _ ?side1 A2.out).mono ?_); (case side1 => first | exact hG | exact GW_to hG xbl); rintro e w6 ⟨v171, rfl, ho0, hb⟩; refine ⟨_, rfl, ?_⟩; have HO172 := Aside0.mk (Kd.R_lower ho0 (below_size xbl)); replace BK168 := xbb (g := gb168) (o := .cells #[.int .u8 0, .int .u8 0, .int .u8 0, .int .u8 0] 53 (0, 0)) hb; replace BK169 := xbb (g := gb169) (o := .cells #[.int .u8 0, .int .u8 0, .int .u8 0, .int .u8 0] 53 (0, 0)) hb; replace HB := xst hb; (try clear hb); (try clear ho0); obtain ⟨Ao7, co7, eo7⟩ := Kd.R_slice HO172.out; subst eo7))
  go_loopg [18] k (fun kq v18 w' => ∃ (x18_1 : Int) (x169000_1 : Int) (x169001_1 : Int) (x169002_1 : Int) (x169003_1 : Int) (x170000_1 : Int) (x170001_1 : Int) (x170002_1 : Int) (x170003_1 : Int), v18 = .int .i64 x18_1 ∧ Aside0 (ip_V4.l0 kq t170 (t170.length : Int) x18_1 x170000_1 x170001_1 x170002_1 x170003_1 = some (r1, r2, r3, r4, r5)) ∧ Aside0 (kq ≤ k) ∧ Aside0 (Kd.R Kd.string 9 w' w.heap.size (fun _ => True) (.slice Ao7 t170.length co7) t170) ∧ Aside0 (w'.heap[gb168]? = some (.cells #[.int .u8 x169000_1, .int .u8 x169001_1, .int .u8 x169002_1, .int .u8 x169003_1] 53 (0, 0))) ∧ Aside0 (w'.heap[gb169]? = some (.cells #[.int .u8 x170000_1, .int .u8 x170001_1, .int .u8 x170002_1, .int .u8 x170003_1] 53 (0, 0))) ∧ Aside0 (Below w.heap.size w w'))
  case atStart => exact ⟨(0), (0), (0), (0), (0), (0), (0), (0), (0), xrr, H', ⟨Nat.le_refl _⟩, ⟨xkd HO172⟩, ⟨xbk⟩, ⟨xbk⟩, ⟨xbl⟩⟩
  case round =>
   clear H'
   clear c3b0 c3b1
   obtain ⟨x18_1, x169000_1, x169001_1, x169002_1, x169003_1, x170000_1, x170001_1, x170002_1, x170003_1, rfl, HA, HK1, HO_16, BK168, BK169, HB⟩ := hrel
   cases gk with
   | zero => exact absurd HA.out (by simp [ip_V4.l0])
   | succ k1 =>
    have H := HA.out
    clear HA
    simp only [ip_V4.l0] at H
    by_cases c8 : x18_1 < (t170.length : Int)
    ·
     rw [if_pos c8] at H
     have c8b0 := decide_eq_true c8
     clear c8
     by_cases c9 : 0 ≤ x18_1
     ·
      rw [if_pos c9] at H
      have c9b0 := decide_eq_true c9
      clear c9
      by_cases c10 : x18_1 < (t170.length : Int)
      ·
       rw [if_pos c10] at H
       have c10b0 := decide_eq_true c10
       clear c10
       replace H := Option.bind_eq_some_iff.mp H
       obtain ⟨⟨t174, t175⟩, A110, H⟩ := H
       try dsimp only at H
       have A11 := Aside0.mk A110
       clear A110
       by_cases c12 : t175 = true
       ·
        subst c12
        rw [if_pos rfl] at H
        by_cases c13 : x18_1 = 0
        ·
         subst c13
         rw [if_pos rfl] at H
         have H' := Aside0.mk H
         clear H
         have p173 : 0 ≤ (0 : Int) := (by omega)
         have q173 : 0 < (t170.length : Int) := xod
         obtain ⟨ad173, e173, hx173_0⟩ := Kd.at_string (Kd.R_reads' HO_16.out).2.2 0 p173 q173
         cases e173
         have qi173 : (0 < t170.length) = True := eq_true (by omega)
         (try rw [show ((0 : Int)).toNat = 0 from rfl] at hx173_0)
         (try rw [Addr.add_zero'] at hx173_0)
         replace p173 := eq_true p173
         replace q173 := eq_true q173
         try (have q173x := q173; simp only [ByteArray.size_extract, Nat.min_self] at q173x)
         go_wp2_with (first | ((with_reducible refine gate_callee (f := 50) rfl ?_); refine xgl 25 Tryd.func50 #[.string (rdOf ByteArray.empty t170 0)] ?_; (with_reducible refine (ip_decimal.calls k1 (rdOf ByteArray.empty t170 0) t174 true _ A11.out).mono ?_); rintro e w' ⟨rfl, ⟨nd, rfl⟩⟩; refine ⟨_, rfl, ?_⟩; (try (rw [drewN_self wr]; generalize hq_ : World.drewN wr _ = wr; have n0_ : Aside0 (Kd.R Kd.string 9 wr w.heap.size (fun _ => True) (.slice (some ad173) t170.length co7) t170) := ⟨by rw [← hq_]; exact (xkd HO_16)⟩; have n1_ : Aside0 (wr.heap[gb168]? = some (.cells #[.int .u8 x169000_1, .int .u8 x169001_1, .int .u8 x169002_1, .int .u8 x169003_1] 53 (0, 0))) := ⟨by rw [← hq_]; exact xbk⟩; have n2_ : Aside0 (wr.heap[gb169]? = some (.cells #[.int .u8 x170000_1, .int .u8 x170001_1, .int .u8 x170002_1, .int .u8 x170003_1] 53 (0, 0))) := ⟨by rw [← hq_]; exact xbk⟩; have n3_ : Aside0 (Below w.heap.size w wr) := ⟨by rw [← hq_]; exact xbl⟩; clear HO_16 BK168 BK169 HB hq_; have HO_16 := n0_; have BK168 := n1_; have BK169 := n2_; have HB := n3_; clear n0_ n1_ n2_ n3_)); have hnb14 := NB169_168.out; have hnc14 := NB168_169.out; obtain ⟨hcz15_0, hcz15_1, hcz15_2, hcz15_3⟩ := xc4 BK169; have hfz15_0 := xf BK169 0; have hfz15_1 := xf BK169 1; have hfz15_2 := xf BK169 2; have hfz15_3 := xf BK169 3))
         go_roundg k1
         case measure => have := HK1.out; omega
         case rel => exact ⟨(wrap64 (0 + 1)), (x169000_1), (x169001_1), (x169002_1), (x169003_1), (t174), (x170001_1), (x170002_1), (x170003_1), xrr, H', ⟨by have := HK1.out; omega⟩, ⟨by (with_reducible repeat (first | apply Kd.R_alloc | apply Kd.R_drewN | apply Kd.R_drew)); exact Kd.R_mono (Kd.R_far (p := ⟨gb169, 0, none⟩) (Kd.R_types HO_16.out BK169.out (by decide)) (fun _ hk => hk.2) (.int .u8 t174)) (fun _ hk => trivial)⟩, ⟨by (with_reducible repeat (first | refine blk_drewN ?_ _ | refine blk_drew ?_ | refine blk_alloc ?_ _)); refine blk_far ?_ NB168_169.out _; (with_reducible repeat (first | refine blk_drewN ?_ _ | refine blk_drew ?_ | refine blk_alloc ?_ _)); exact BK168.out⟩, ⟨by (with_reducible repeat (first | refine blk_drewN ?_ _ | refine blk_drew ?_ | refine blk_alloc ?_ _)); refine blk_put (cs := #[.int .u8 x170000_1, .int .u8 x170001_1, .int .u8 x170002_1, .int .u8 x170003_1]) ?_ 0 _ rfl; (with_reducible repeat (first | refine blk_drewN ?_ _ | refine blk_drew ?_ | refine blk_alloc ?_ _)); exact BK169.out⟩, ⟨xbl⟩⟩
        ·
         rw [if_neg c13] at H
         clear c13
         by_cases c16 : x18_1 = 1
         ·
          subst c16
          rw [if_pos rfl] at H
          have H' := Aside0.mk H
          clear H
          have p173 : 0 ≤ (1 : Int) := (by omega)
          have q173 : 1 < (t170.length : Int) := xod
          obtain ⟨ad173, e173, hx173_0⟩ := Kd.at_string (Kd.R_reads' HO_16.out).2.2 1 p173 q173
          cases e173
          (try simp only [show (1 : Int).toNat = 1 from rfl, Nat.reduceMul, Nat.reduceEqDiff, Go.Addr.add, ↓reduceIte] at hx173_0)
          have qi173 : (1 < t170.length) = True := eq_true (by omega)
          (try rw [show ((1 : Int)).toNat = 1 from rfl] at hx173_0)
          replace p173 := eq_true p173
          replace q173 := eq_true q173
          try (have q173x := q173; simp only [ByteArray.size_extract, Nat.min_self] at q173x)
          go_wp2_with (first | ((with_reducible refine gate_callee (f := 50) rfl ?_); refine xgl 25 Tryd.func50 #[.string (rdOf ByteArray.empty t170 1)] ?_; (with_reducible refine (ip_decimal.calls k1 (rdOf ByteArray.empty t170 1) t174 true _ A11.out).mono ?_); rintro e w' ⟨rfl, ⟨nd, rfl⟩⟩; refine ⟨_, rfl, ?_⟩; (try (rw [drewN_self wr]; generalize hq_ : World.drewN wr _ = wr; have n0_ : Aside0 (Kd.R Kd.string 9 wr w.heap.size (fun _ => True) (.slice (some ad173) t170.length co7) t170) := ⟨by rw [← hq_]; exact (xkd HO_16)⟩; have n1_ : Aside0 (wr.heap[gb168]? = some (.cells #[.int .u8 x169000_1, .int .u8 x169001_1, .int .u8 x169002_1, .int .u8 x169003_1] 53 (0, 0))) := ⟨by rw [← hq_]; exact xbk⟩; have n2_ : Aside0 (wr.heap[gb169]? = some (.cells #[.int .u8 x170000_1, .int .u8 x170001_1, .int .u8 x170002_1, .int .u8 x170003_1] 53 (0, 0))) := ⟨by rw [← hq_]; exact xbk⟩; have n3_ : Aside0 (Below w.heap.size w wr) := ⟨by rw [← hq_]; exact xbl⟩; clear HO_16 BK168 BK169 HB hq_; have HO_16 := n0_; have BK168 := n1_; have BK169 := n2_; have HB := n3_; clear n0_ n1_ n2_ n3_)); have hnb17 := NB169_168.out; have hnc17 := NB168_169.out; obtain ⟨hcz18_0, hcz18_1, hcz18_2, hcz18_3⟩ := xc4 BK169; have hfz18_0 := xf BK169 0; have hfz18_1 := xf BK169 1; have hfz18_2 := xf BK169 2; have hfz18_3 := xf BK169 3))
          go_roundg k1
          case measure => have := HK1.out; omega
          case rel => exact ⟨(wrap64 (1 + 1)), (x169000_1), (x169001_1), (x169002_1), (x169003_1), (x170000_1), (t174), (x170002_1), (x170003_1), xrr, H', ⟨by have := HK1.out; omega⟩, ⟨by (with_reducible repeat (first | apply Kd.R_alloc | apply Kd.R_drewN | apply Kd.R_drew)); exact Kd.R_mono (Kd.R_far (p := ⟨gb169, 1, none⟩) (Kd.R_types HO_16.out BK169.out (by decide)) (fun _ hk => hk.2) (.int .u8 t174)) (fun _ hk => trivial)⟩, ⟨by (with_reducible repeat (first | refine blk_drewN ?_ _ | refine blk_drew ?_ | refine blk_alloc ?_ _)); refine blk_far ?_ NB168_169.out _; (with_reducible repeat (first | refine blk_drewN ?_ _ | refine blk_drew ?_ | refine blk_alloc ?_ _)); exact BK168.out⟩, ⟨by (with_reducible repeat (first | refine blk_drewN ?_ _ | refine blk_drew ?_ | refine blk_alloc ?_ _)); refine blk_put (cs := #[.int .u8 x170000_1, .int .u8 x170001_1, .int .u8 x170002_1, .int .u8 x170003_1]) ?_ 1 _ rfl; (with_reducible repeat (first | refine blk_drewN ?_ _ | refine blk_drew ?_ | refine blk_alloc ?_ _)); exact BK169.out⟩, ⟨xbl⟩⟩
         ·
          rw [if_neg c16] at H
          clear c16
          by_cases c19 : x18_1 = 2
          ·
           subst c19
           rw [if_pos rfl] at H
           have H' := Aside0.mk H
           clear H
           have p173 : 0 ≤ (2 : Int) := (by omega)
           have q173 : 2 < (t170.length : Int) := xod
           obtain ⟨ad173, e173, hx173_0⟩ := Kd.at_string (Kd.R_reads' HO_16.out).2.2 2 p173 q173
           cases e173
           (try simp only [show (2 : Int).toNat = 2 from rfl, Nat.reduceMul, Nat.reduceEqDiff, Go.Addr.add, ↓reduceIte] at hx173_0)
           have qi173 : (2 < t170.length) = True := eq_true (by omega)
           (try rw [show ((2 : Int)).toNat = 2 from rfl] at hx173_0)
           replace p173 := eq_true p173
           replace q173 := eq_true q173
           try (have q173x := q173; simp only [ByteArray.size_extract, Nat.min_self] at q173x)
           go_wp2_with (first | ((with_reducible refine gate_callee (f := 50) rfl ?_); refine xgl 25 Tryd.func50 #[.string (rdOf ByteArray.empty t170 2)] ?_; (with_reducible refine (ip_decimal.calls k1 (rdOf ByteArray.empty t170 2) t174 true _ A11.out).mono ?_); rintro e w' ⟨rfl, ⟨nd, rfl⟩⟩; refine ⟨_, rfl, ?_⟩; (try (rw [drewN_self wr]; generalize hq_ : World.drewN wr _ = wr; have n0_ : Aside0 (Kd.R Kd.string 9 wr w.heap.size (fun _ => True) (.slice (some ad173) t170.length co7) t170) := ⟨by rw [← hq_]; exact (xkd HO_16)⟩; have n1_ : Aside0 (wr.heap[gb168]? = some (.cells #[.int .u8 x169000_1, .int .u8 x169001_1, .int .u8 x169002_1, .int .u8 x169003_1] 53 (0, 0))) := ⟨by rw [← hq_]; exact xbk⟩; have n2_ : Aside0 (wr.heap[gb169]? = some (.cells #[.int .u8 x170000_1, .int .u8 x170001_1, .int .u8 x170002_1, .int .u8 x170003_1] 53 (0, 0))) := ⟨by rw [← hq_]; exact xbk⟩; have n3_ : Aside0 (Below w.heap.size w wr) := ⟨by rw [← hq_]; exact xbl⟩; clear HO_16 BK168 BK169 HB hq_; have HO_16 := n0_; have BK168 := n1_; have BK169 := n2_; have HB := n3_; clear n0_ n1_ n2_ n3_)); have hnb20 := NB169_168.out; have hnc20 := NB168_169.out; obtain ⟨hcz21_0, hcz21_1, hcz21_2, hcz21_3⟩ := xc4 BK169; have hfz21_0 := xf BK169 0; have hfz21_1 := xf BK169 1; have hfz21_2 := xf BK169 2; have hfz21_3 := xf BK169 3))
           go_roundg k1
           case measure => have := HK1.out; omega
           case rel => exact ⟨(wrap64 (2 + 1)), (x169000_1), (x169001_1), (x169002_1), (x169003_1), (x170000_1), (x170001_1), (t174), (x170003_1), xrr, H', ⟨by have := HK1.out; omega⟩, ⟨by (with_reducible repeat (first | apply Kd.R_alloc | apply Kd.R_drewN | apply Kd.R_drew)); exact Kd.R_mono (Kd.R_far (p := ⟨gb169, 2, none⟩) (Kd.R_types HO_16.out BK169.out (by decide)) (fun _ hk => hk.2) (.int .u8 t174)) (fun _ hk => trivial)⟩, ⟨by (with_reducible repeat (first | refine blk_drewN ?_ _ | refine blk_drew ?_ | refine blk_alloc ?_ _)); refine blk_far ?_ NB168_169.out _; (with_reducible repeat (first | refine blk_drewN ?_ _ | refine blk_drew ?_ | refine blk_alloc ?_ _)); exact BK168.out⟩, ⟨by (with_reducible repeat (first | refine blk_drewN ?_ _ | refine blk_drew ?_ | refine blk_alloc ?_ _)); refine blk_put (cs := #[.int .u8 x170000_1, .int .u8 x170001_1, .int .u8 x170002_1, .int .u8 x170003_1]) ?_ 2 _ rfl; (with_reducible repeat (first | refine blk_drewN ?_ _ | refine blk_drew ?_ | refine blk_alloc ?_ _)); exact BK169.out⟩, ⟨xbl⟩⟩
          ·
           rw [if_neg c19] at H
           clear c19
           by_cases c22 : x18_1 = 3
           ·
            subst c22
            rw [if_pos rfl] at H
            have H' := Aside0.mk H
            clear H
            have p173 : 0 ≤ (3 : Int) := (by omega)
            have q173 : 3 < (t170.length : Int) := xod
            obtain ⟨ad173, e173, hx173_0⟩ := Kd.at_string (Kd.R_reads' HO_16.out).2.2 3 p173 q173
            cases e173
            (try simp only [show (3 : Int).toNat = 3 from rfl, Nat.reduceMul, Nat.reduceEqDiff, Go.Addr.add, ↓reduceIte] at hx173_0)
            have qi173 : (3 < t170.length) = True := eq_true (by omega)
            (try rw [show ((3 : Int)).toNat = 3 from rfl] at hx173_0)
            replace p173 := eq_true p173
            replace q173 := eq_true q173
            try (have q173x := q173; simp only [ByteArray.size_extract, Nat.min_self] at q173x)
            go_wp2_with (first | ((with_reducible refine gate_callee (f := 50) rfl ?_); refine xgl 25 Tryd.func50 #[.string (rdOf ByteArray.empty t170 3)] ?_; (with_reducible refine (ip_decimal.calls k1 (rdOf ByteArray.empty t170 3) t174 true _ A11.out).mono ?_); rintro e w' ⟨rfl, ⟨nd, rfl⟩⟩; refine ⟨_, rfl, ?_⟩; (try (rw [drewN_self wr]; generalize hq_ : World.drewN wr _ = wr; have n0_ : Aside0 (Kd.R Kd.string 9 wr w.heap.size (fun _ => True) (.slice (some ad173) t170.length co7) t170) := ⟨by rw [← hq_]; exact (xkd HO_16)⟩; have n1_ : Aside0 (wr.heap[gb168]? = some (.cells #[.int .u8 x169000_1, .int .u8 x169001_1, .int .u8 x169002_1, .int .u8 x169003_1] 53 (0, 0))) := ⟨by rw [← hq_]; exact xbk⟩; have n2_ : Aside0 (wr.heap[gb169]? = some (.cells #[.int .u8 x170000_1, .int .u8 x170001_1, .int .u8 x170002_1, .int .u8 x170003_1] 53 (0, 0))) := ⟨by rw [← hq_]; exact xbk⟩; have n3_ : Aside0 (Below w.heap.size w wr) := ⟨by rw [← hq_]; exact xbl⟩; clear HO_16 BK168 BK169 HB hq_; have HO_16 := n0_; have BK168 := n1_; have BK169 := n2_; have HB := n3_; clear n0_ n1_ n2_ n3_)); have hnb23 := NB169_168.out; have hnc23 := NB168_169.out; obtain ⟨hcz24_0, hcz24_1, hcz24_2, hcz24_3⟩ := xc4 BK169; have hfz24_0 := xf BK169 0; have hfz24_1 := xf BK169 1; have hfz24_2 := xf BK169 2; have hfz24_3 := xf BK169 3))
            go_roundg k1
            case measure => have := HK1.out; omega
            case rel => exact ⟨(wrap64 (3 + 1)), (x169000_1), (x169001_1), (x169002_1), (x169003_1), (x170000_1), (x170001_1), (x170002_1), (t174), xrr, H', ⟨by have := HK1.out; omega⟩, ⟨by (with_reducible repeat (first | apply Kd.R_alloc | apply Kd.R_drewN | apply Kd.R_drew)); exact Kd.R_mono (Kd.R_far (p := ⟨gb169, 3, none⟩) (Kd.R_types HO_16.out BK169.out (by decide)) (fun _ hk => hk.2) (.int .u8 t174)) (fun _ hk => trivial)⟩, ⟨by (with_reducible repeat (first | refine blk_drewN ?_ _ | refine blk_drew ?_ | refine blk_alloc ?_ _)); refine blk_far ?_ NB168_169.out _; (with_reducible repeat (first | refine blk_drewN ?_ _ | refine blk_drew ?_ | refine blk_alloc ?_ _)); exact BK168.out⟩, ⟨by (with_reducible repeat (first | refine blk_drewN ?_ _ | refine blk_drew ?_ | refine blk_alloc ?_ _)); refine blk_put (cs := #[.int .u8 x170000_1, .int .u8 x170001_1, .int .u8 x170002_1, .int .u8 x170003_1]) ?_ 3 _ rfl; (with_reducible repeat (first | refine blk_drewN ?_ _ | refine blk_drew ?_ | refine blk_alloc ?_ _)); exact BK169.out⟩, ⟨xbl⟩⟩
           ·
            rw [if_neg c22] at H
            clear c22
            exact absurd H (by simp)
       ·
        replace c12 := Bool.eq_false_iff.mpr c12
        subst c12
        rw [if_neg (show ¬ (false = true) by decide)] at H
        simp only [Option.some.injEq, Prod.mk.injEq] at H
        obtain ⟨rfl, rfl, rfl, rfl, rfl⟩ := H
        have p173 : 0 ≤ (x18_1 : Int) := xod
        have q173 : x18_1 < (t170.length : Int) := xod
        obtain ⟨ad173, e173, hx173_0⟩ := Kd.at_string (Kd.R_reads' HO_16.out).2.2 x18_1 p173 q173
        cases e173
        replace p173 := eq_true p173
        replace q173 := eq_true q173
        try (have q173x := q173; simp only [ByteArray.size_extract, Nat.min_self] at q173x)
        go_wp2_with (first | ((with_reducible refine gate_callee (f := 50) rfl ?_); refine xgl 25 Tryd.func50 #[.string (rdOf ByteArray.empty t170 x18_1)] ?_; (with_reducible refine (ip_decimal.calls k1 (rdOf ByteArray.empty t170 x18_1) t174 false _ A11.out).mono ?_); rintro e w' ⟨rfl, ⟨nd, rfl⟩⟩; refine ⟨_, rfl, ?_⟩; (try (rw [drewN_self wr]; generalize hq_ : World.drewN wr _ = wr; have n0_ : Aside0 (Kd.R Kd.string 9 wr w.heap.size (fun _ => True) (.slice (some ad173) t170.length co7) t170) := ⟨by rw [← hq_]; exact (xkd HO_16)⟩; have n1_ : Aside0 (wr.heap[gb168]? = some (.cells #[.int .u8 x169000_1, .int .u8 x169001_1, .int .u8 x169002_1, .int .u8 x169003_1] 53 (0, 0))) := ⟨by rw [← hq_]; exact xbk⟩; have n2_ : Aside0 (wr.heap[gb169]? = some (.cells #[.int .u8 x170000_1, .int .u8 x170001_1, .int .u8 x170002_1, .int .u8 x170003_1] 53 (0, 0))) := ⟨by rw [← hq_]; exact xbk⟩; have n3_ : Aside0 (Below w.heap.size w wr) := ⟨by rw [← hq_]; exact xbl⟩; clear HO_16 BK168 BK169 HB hq_; have HO_16 := n0_; have BK168 := n1_; have BK169 := n2_; have HB := n3_; clear n0_ n1_ n2_ n3_)); have hnb25 := NB168_169.out; have hnc25 := NB169_168.out; obtain ⟨hcz26_0, hcz26_1, hcz26_2, hcz26_3⟩ := xc4 BK168; have hfz26_0 := xf BK168 0; have hfz26_1 := xf BK168 1; have hfz26_2 := xf BK168 2; have hfz26_3 := xf BK168 3))
        refine bodyPost_ret (results_ct rfl _ _ gb168 53 #[.int .u8 0, .int .u8 0, .int .u8 0, .int .u8 0] (0, 0) _ rfl xbk Tryd.underlying53 rfl (by kernel_rfl)) rfl ?_
        exact ⟨xre, xbl⟩
      ·
       rw [if_neg c10] at H
       exact absurd H (by simp)
     ·
      rw [if_neg c9] at H
      exact absurd H (by simp)
    ·
     rw [if_neg c8] at H
     have c8b0 := decide_eq_false c8
     clear c8
     simp only [Option.some.injEq, Prod.mk.injEq] at H
     obtain ⟨rfl, rfl, rfl, rfl, rfl⟩ := H
     have hnb27 := NB169_168.out
     have hnc27 := NB168_169.out
     obtain ⟨hcz28_0, hcz28_1, hcz28_2, hcz28_3⟩ := xc4 BK169
     have hfz28_0 := xf BK169 0
     have hfz28_1 := xf BK169 1
     have hfz28_2 := xf BK169 2
     have hfz28_3 := xf BK169 3
     obtain ⟨hcz29_0, hcz29_1, hcz29_2, hcz29_3⟩ := xc4 BK168
     have hfz29_0 := xf BK168 0
     have hfz29_1 := xf BK168 1
     have hfz29_2 := xf BK168 2
     have hfz29_3 := xf BK168 3
     go_wp2
     refine bodyPost_ret (results_ct rfl _ _ gb168 53 #[.int .u8 x170000_1, .int .u8 x170001_1, .int .u8 x170002_1, .int .u8 x170003_1] (0, 0) _ rfl xbk Tryd.underlying53 rfl (by kernel_rfl)) rfl ?_
     exact ⟨xre, xbl⟩
 ·
  rw [if_neg c3] at H
  have c3b0 : ((t170.length : Int) == 4) = false := beq_eq_false_iff_ne.mpr c3
  have c3b1 : ((t170.length : Int) != 4) = true := bne_iff_ne.mpr c3
  simp only [Option.some.injEq, Prod.mk.injEq] at H
  obtain ⟨rfl, rfl, rfl, rfl, rfl⟩ := H
  go_enter Tryd.func29, Tryd.ntmps29
  go_wp2_with (first | ((with_reducible refine gate_dst (N := 2) rfl ?_); refine xev 2 #[.int .u8 0, .int .u8 0, .int .u8 0, .int .u8 0] 53 ?_; intro gb168 hg w30 hbox hb; have BK168 := Aside0.mk (hbox); have GW168 := xsz hg; have GE168 := GW168; replace HB := xst hb; clear hb hbox hg) | ((with_reducible refine gate_dst (N := 4) rfl ?_); refine xev 4 #[.int .u8 0, .int .u8 0, .int .u8 0, .int .u8 0] 53 ?_; intro gb169 hg w31 hbox hb; have BK169 := Aside0.mk (hbox); have GW169 := xsz hg; have GE169 := GW169; have NB168_169 := xlt (g := gb168) hg; have NB169_168 := xgt (g := gb168) hg; replace BK168 := xbb (g := gb168) (o := .cells #[.int .u8 0, .int .u8 0, .int .u8 0, .int .u8 0] 53 (0, 0)) hb; replace HB := xst hb; clear hb hbox hg) | ((with_reducible refine gate_callee (f := 49) rfl ?_); refine xgl 11 Tryd.func49 #[.string a0, .string (⟨#[46]⟩ : ByteArray)] ?_; (with_reducible refine (strings_Split.calls a0 (⟨#[46]⟩ : ByteArray) t170 _ ?side1 A2.out).mono ?_); (case side1 => first | exact hG | exact GW_to hG xbl); rintro e w32 ⟨v171, rfl, ho0, hb⟩; refine ⟨_, rfl, ?_⟩; have HO172 := Aside0.mk (Kd.R_lower ho0 (below_size xbl)); replace BK168 := xbb (g := gb168) (o := .cells #[.int .u8 0, .int .u8 0, .int .u8 0, .int .u8 0] 53 (0, 0)) hb; replace BK169 := xbb (g := gb169) (o := .cells #[.int .u8 0, .int .u8 0, .int .u8 0, .int .u8 0] 53 (0, 0)) hb; replace HB := xst hb; (try clear hb); (try clear ho0); obtain ⟨Ao33, co33, eo33⟩ := Kd.R_slice HO172.out; subst eo33; have hnb34 := NB169_168.out; have hnc34 := NB168_169.out; obtain ⟨hcz35_0, hcz35_1, hcz35_2, hcz35_3⟩ := xc4 BK169; have hfz35_0 := xf BK169 0; have hfz35_1 := xf BK169 1; have hfz35_2 := xf BK169 2; have hfz35_3 := xf BK169 3; obtain ⟨hcz36_0, hcz36_1, hcz36_2, hcz36_3⟩ := xc4 BK168; have hfz36_0 := xf BK168 0; have hfz36_1 := xf BK168 1; have hfz36_2 := xf BK168 2; have hfz36_3 := xf BK168 3))
  refine bodyPost_ret (results_ct rfl _ _ gb168 53 #[.int .u8 0, .int .u8 0, .int .u8 0, .int .u8 0] (0, 0) _ rfl xbk Tryd.underlying53 rfl (by kernel_rfl)) rfl ?_
  exact ⟨xre, xbl⟩
mutual
def ip_word.j0 : Nat → ByteArray → Bool → Option (Int × Bool)
  | 0, _, _ => none
  | k + 1, x0, x15 => if x15 = true then (some (0, false)) else (ip_word.l0 k x0 0 (x0.size : Int) 0)
def ip_word.l0 : Nat → ByteArray → Int → Int → Int → Option (Int × Bool)
  | 0, _, _, _, _ => none
  | k + 1, x0, x4, x17, x18 => if x18 < x17 then (if 0 ≤ x18 then (if x18 < (x0.size : Int) then ((octet_Value.f k (bt x0 x18)).bind fun bt176 => (if bt176.2 = true then (ip_word.l0 k x0 (Go.bits .or .i64 (wrap64 (x4 * 16)) bt176.1) x17 (wrap64 (x18 + 1))) else (some (0, false)))) else (none)) else (none)) else (some (IntKind.u16.wrap (x4), true))
end
def ip_word.f (k : Nat) (a0 : ByteArray) : Option (Int × Bool) := if (a0.size : Int) = 0 then (ip_word.j0 k a0 true) else (ip_word.j0 k a0 (decide ((a0.size : Int) > 4)))
theorem ip_word.mono_l : ∀ k, (∀ y0 y1, LeO (ip_word.j0 k y0 y1) (ip_word.j0 (k + 1) y0 y1)) ∧ (∀ y0 y1 y2 y3, LeO (ip_word.l0 k y0 y1 y2 y3) (ip_word.l0 (k + 1) y0 y1 y2 y3))
  | 0 => ⟨fun _ _ r h => by simp [ip_word.j0] at h, fun _ _ _ _ r h => by simp [ip_word.l0] at h⟩
  | k + 1 => by
    obtain ⟨ih0, ih1⟩ := ip_word.mono_l k
    have m0 := @octet_Value.mono
    refine ⟨?_, ?_⟩
    · intro y0 y1
      unfold ip_word.j0
      exact xmo
    · intro y0 y1 y2 y3
      unfold ip_word.l0
      exact xmo
theorem ip_word.mono : ∀ a0 k, LeO (ip_word.f k a0) (ip_word.f (k + 1) a0) := by
  intro a0 k
  obtain ⟨ih0, ih1⟩ := ip_word.mono_l k
  have m0 := @octet_Value.mono
  unfold ip_word.f
  exact xmo
set_option maxHeartbeats 8000000 in
set_option maxRecDepth 100000 in
theorem ip_word.calls (k : Nat) (a0 : ByteArray) (r1 : Int) (r2 : Bool) (w : World) (h : ip_word.f k a0 = some (r1, r2)) :
    Calls Tryd.prog 66 #[.string a0] w fun e w' => e = .returned (.tuple #[.int .u16 r1, .bool r2]) ∧ Drawn0 w w' := by
 have H : (if (a0.size : Int) = 0 then (ip_word.j0 k a0 true) else (ip_word.j0 k a0 (decide ((a0.size : Int) > 4)))) = some (r1, r2) := h
 clear h
 have HC2 := Aside0.mk H
 clear H
 go_enter Tryd.func66, Tryd.ntmps66
 go_upto_region 1 with (fail)
 go_cut [15] (fun v15 wc => ∃ (kq : Nat) (x15_1 : Bool), v15 = .bool x15_1 ∧ Aside0 (ip_word.j0 kq a0 x15_1 = some (r1, r2)) ∧ Aside0 (kq ≤ k) ∧ Drawn0 w wc)
 case first =>
  have H := HC2.out
  clear HC2
  by_cases c3 : (a0.size : Int) = 0
  ·
   rw [if_pos c3] at H
   have c3b0 : ((a0.size : Int) == 0) = true := beq_iff_eq.mpr c3
   have c3b1 : ((a0.size : Int) != 0) = false := bne_eq_false_iff_eq.mpr c3
   clear c3
   (first | rw [c3b0] | (simp only [i64_w, i32_w]; rw [c3b0]) | skip)
   have H' := Aside0.mk H
   clear H
   go_wp2
   go_meet
   case rel => exact ⟨_, (true), xrr, H', ⟨xom⟩, xdr⟩
  ·
   rw [if_neg c3] at H
   have c3b0 : ((a0.size : Int) == 0) = false := beq_eq_false_iff_ne.mpr c3
   have c3b1 : ((a0.size : Int) != 0) = true := bne_iff_ne.mpr c3
   (first | rw [c3b0] | (simp only [i64_w, i32_w]; rw [c3b0]) | skip)
   have H' := Aside0.mk H
   clear H
   go_wp2
   go_meet
   case rel => exact ⟨_, (decide ((a0.size : Int) > 4)), xrr, H', ⟨xom⟩, xdr⟩
 case rest =>
  clear HC2
  obtain ⟨kq, x15_1, rfl, HA, HJ1, ⟨mc1, rfl⟩⟩ := hcut
  cases kq with
  | zero => exact absurd HA.out (by simp [ip_word.j0])
  | succ kj1 =>
   have H := HA.out
   clear HA
   simp only [ip_word.j0] at H
   by_cases c4 : x15_1 = true
   ·
    subst c4
    rw [if_pos rfl] at H
    simp only [Option.some.injEq, Prod.mk.injEq] at H
    obtain ⟨rfl, rfl⟩ := H
    go_wp2
    go_ret2
    exact ⟨xrr, xdr⟩
   ·
    replace c4 := Bool.eq_false_iff.mpr c4
    subst c4
    rw [if_neg (show ¬ (false = true) by decide)] at H
    have H' := Aside0.mk H
    clear H
    go_wp2
    go_loopg [4, 18] kj1 (fun kq v4 v18 w' => ∃ (x4_2 : Int) (x18_2 : Int), v4 = .int .i64 x4_2 ∧ v18 = .int .i64 x18_2 ∧ Aside0 (ip_word.l0 kq a0 x4_2 (a0.size : Int) x18_2 = some (r1, r2)) ∧ Aside0 (kq ≤ kj1) ∧ Drawn0 w w')
    case atStart => exact ⟨(0), (0), xrr, xrr, H', ⟨Nat.le_refl _⟩, xdr⟩
    case round =>
     clear H'
     obtain ⟨x4_2, x18_2, rfl, rfl, HA, HK2, ⟨m2, rfl⟩⟩ := hrel
     cases gk with
     | zero => exact absurd HA.out (by simp [ip_word.l0])
     | succ k2 =>
      have H := HA.out
      clear HA
      simp only [ip_word.l0] at H
      by_cases c5 : x18_2 < (a0.size : Int)
      ·
       rw [if_pos c5] at H
       have c5b0 := decide_eq_true c5
       clear c5
       by_cases c6 : 0 ≤ x18_2
       ·
        rw [if_pos c6] at H
        have c6b0 := decide_eq_true c6
        clear c6
        by_cases c7 : x18_2 < (a0.size : Int)
        ·
         rw [if_pos c7] at H
         have c7b0 := decide_eq_true c7
         clear c7
         replace H := Option.bind_eq_some_iff.mp H
         obtain ⟨⟨t176, t177⟩, A90, H⟩ := H
         try dsimp only at H
         have A9 := Aside0.mk A90
         clear A90
         by_cases c10 : t177 = true
         ·
          subst c10
          rw [if_pos rfl] at H
          have H' := Aside0.mk H
          clear H
          have p8 : 0 ≤ (x18_2 : Int) := xod
          have q8 : x18_2 < (a0.size : Int) := xod
          have hx8 := bt_at a0 x18_2
          replace p8 := eq_true p8
          replace q8 := eq_true q8
          try (have q8x := q8; simp only [ByteArray.size_extract, Nat.min_self] at q8x)
          go_wp2_with (first | ((with_reducible refine gate_callee (f := 61) rfl ?_); refine xgl 25 Tryd.func61 #[.int .u8 (bt a0 x18_2)] ?_; (with_reducible refine (octet_Value.calls k2 (bt a0 x18_2) t176 true _ A9.out).mono ?_); rintro e w' ⟨rfl, ⟨nd, rfl⟩⟩; refine ⟨_, rfl, ?_⟩))
          go_roundg k2
          case measure => have := HJ1.out; have := HK2.out; omega
          case rel => exact ⟨(Go.bits .or .i64 (wrap64 (x4_2 * 16)) t176), (wrap64 (x18_2 + 1)), xrr, xrr, H', ⟨by have := HJ1.out; have := HK2.out; omega⟩, xdr⟩
         ·
          replace c10 := Bool.eq_false_iff.mpr c10
          subst c10
          rw [if_neg (show ¬ (false = true) by decide)] at H
          simp only [Option.some.injEq, Prod.mk.injEq] at H
          obtain ⟨rfl, rfl⟩ := H
          have p8 : 0 ≤ (x18_2 : Int) := xod
          have q8 : x18_2 < (a0.size : Int) := xod
          have hx8 := bt_at a0 x18_2
          replace p8 := eq_true p8
          replace q8 := eq_true q8
          try (have q8x := q8; simp only [ByteArray.size_extract, Nat.min_self] at q8x)
          go_wp2_with (first | ((with_reducible refine gate_callee (f := 61) rfl ?_); refine xgl 25 Tryd.func61 #[.int .u8 (bt a0 x18_2)] ?_; (with_reducible refine (octet_Value.calls k2 (bt a0 x18_2) t176 false _ A9.out).mono ?_); rintro e w' ⟨rfl, ⟨nd, rfl⟩⟩; refine ⟨_, rfl, ?_⟩))
          go_ret2
          exact ⟨xrr, xdr⟩
        ·
         rw [if_neg c7] at H
         exact absurd H (by simp)
       ·
        rw [if_neg c6] at H
        exact absurd H (by simp)
      ·
       rw [if_neg c5] at H
       have c5b0 := decide_eq_false c5
       clear c5
       simp only [Option.some.injEq, Prod.mk.injEq] at H
       obtain ⟨rfl, rfl⟩ := H
       go_wp2
       go_ret2
       exact ⟨xrr, xdr⟩
end Go.Proofs.YtdmigmccfdhdiaaDoor.X
