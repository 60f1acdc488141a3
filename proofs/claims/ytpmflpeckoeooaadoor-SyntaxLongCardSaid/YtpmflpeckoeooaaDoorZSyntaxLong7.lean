/- Texts that the law's proof needs, joined by a program of this session. -/
import Derived.Test.YtpmflpeckoeooaaDoorZSyntaxLong1
import Derived.Test.YtpmflpeckoeooaaDoorZSyntaxLong2
import Derived.Test.YtpmflpeckoeooaaDoorZSyntaxLong4
import Derived.Test.YtpmflpeckoeooaaDoorZSyntaxLong5
import Derived.Test.YtpmflpeckoeooaaDoorZSyntaxLong6
namespace Go.Proofs.YtpmflpeckoeooaaDoor.X
open Go.RowKit Go.Proofs.YtpmflpeckoeooaaDoorW.PrintWords Go.Proofs.YtpmflpeckoeooaaDoorW.PrintLast Go.Proofs.YtpmflpeckoeooaaDoorW.PrintMore
attribute [local go_sem] xj_then_goto xj_block_goto xj_normal xj_exit xj_ret xj_panic xj_goto max2_int min2_int max_two min_two max_three min_three max_four min_four
set_option linter.unusedVariables false
set_option linter.unusedSimpArgs false
def octet_Span.l0 : Nat → ByteArray → Int → Int → Int → Option (Int)
  | 0, _, _, _, _ => none
  | k + 1, x0, x1, x7, x8 => if x8 < x7 then (if 0 ≤ x8 then (if x8 < (x0.size : Int) then ((octet_Is.f k (bt x0 x8) x1).bind fun t194 => (if t194 = true then (octet_Span.l0 k x0 x1 x7 (wrap64 (x8 + 1))) else (some x8))) else (none)) else (none)) else (some (x0.size : Int))
def octet_Span.f (k : Nat) (a0 : ByteArray) (a1 : Int) : Option (Int) := octet_Span.l0 k a0 a1 (a0.size : Int) 0
theorem octet_Span.mono_l : ∀ k, (∀ y0 y1 y2 y3, LeO (octet_Span.l0 k y0 y1 y2 y3) (octet_Span.l0 (k + 1) y0 y1 y2 y3))
  | 0 => fun _ _ _ _ r h => by simp [octet_Span.l0] at h
  | k + 1 => by
    have ih0 := octet_Span.mono_l k
    have m0 := @octet_Is.mono
    · intro y0 y1 y2 y3
      unfold octet_Span.l0
      exact xmo
theorem octet_Span.mono : ∀ a0 a1 k, LeO (octet_Span.f k a0 a1) (octet_Span.f (k + 1) a0 a1) := by
  intro a0 a1 k
  have ih0 := octet_Span.mono_l k
  have m0 := @octet_Is.mono
  unfold octet_Span.f
  exact xmo
set_option maxHeartbeats 8000000 in
set_option maxRecDepth 100000 in
theorem octet_Span.calls (k : Nat) (a0 : ByteArray) (a1 : Int) (r : Int) (w : World) (h : octet_Span.f k a0 a1 = some r) :
    Calls Tryd.prog 35 #[.string a0, .int .i64 a1] w fun e w' => e = .returned (.int .i64 r) ∧ Drawn0 w w' := by
 have H : (octet_Span.l0 k a0 a1 (a0.size : Int) 0) = some r := h
 clear h
 have H' := Aside0.mk H
 clear H
 go_enter Tryd.func35, Tryd.ntmps35
 go_wp2
 go_loopg [8] k (fun kq v8 w' => ∃ (x8_1 : Int), v8 = .int .i64 x8_1 ∧ Aside0 (octet_Span.l0 kq a0 a1 (a0.size : Int) x8_1 = some r) ∧ Aside0 (kq ≤ k) ∧ Drawn0 w w')
 case atStart => exact ⟨(0), xrr, H', ⟨Nat.le_refl _⟩, xdr⟩
 case round =>
  clear H'
  obtain ⟨x8_1, rfl, HA, HK1, ⟨m1, rfl⟩⟩ := hrel
  cases gk with
  | zero => exact absurd HA.out (by simp [octet_Span.l0])
  | succ k1 =>
   have H := HA.out
   clear HA
   simp only [octet_Span.l0] at H
   by_cases c3 : x8_1 < (a0.size : Int)
   ·
    rw [if_pos c3] at H
    have c3b0 := decide_eq_true c3
    clear c3
    by_cases c4 : 0 ≤ x8_1
    ·
     rw [if_pos c4] at H
     have c4b0 := decide_eq_true c4
     clear c4
     by_cases c5 : x8_1 < (a0.size : Int)
     ·
      rw [if_pos c5] at H
      have c5b0 := decide_eq_true c5
      clear c5
      replace H := Option.bind_eq_some_iff.mp H
      obtain ⟨t194, A70, H⟩ := H
      try dsimp only at H
      have A7 := Aside0.mk A70
      clear A70
      by_cases c8 : t194 = true
      ·
       subst c8
       rw [if_pos rfl] at H
       have H' := Aside0.mk H
       clear H
       have p6 : 0 ≤ (x8_1 : Int) := xod
       have q6 : x8_1 < (a0.size : Int) := xod
       have hx6 := bt_at a0 x8_1
       replace p6 := eq_true p6
       replace q6 := eq_true q6
       try (have q6x := q6; simp only [ByteArray.size_extract, Nat.min_self] at q6x)
       go_wp2_with (first | ((with_reducible refine gate_callee (f := 24) rfl ?_); refine xgl 15 Tryd.func24 #[.int .u8 (bt a0 x8_1), .int .i64 a1] ?_; (with_reducible refine (octet_Is.calls k1 (bt a0 x8_1) a1 true _ A7.out).mono ?_); rintro e w' ⟨rfl, ⟨nd, rfl⟩⟩; refine ⟨_, rfl, ?_⟩))
       go_roundg k1
       case measure => have := HK1.out; omega
       case rel => exact ⟨(wrap64 (x8_1 + 1)), xrr, H', ⟨by have := HK1.out; omega⟩, xdr⟩
      ·
       replace c8 := Bool.eq_false_iff.mpr c8
       subst c8
       rw [if_neg (show ¬ (false = true) by decide)] at H
       obtain rfl := Option.some.inj H
       have p6 : 0 ≤ (x8_1 : Int) := xod
       have q6 : x8_1 < (a0.size : Int) := xod
       have hx6 := bt_at a0 x8_1
       replace p6 := eq_true p6
       replace q6 := eq_true q6
       try (have q6x := q6; simp only [ByteArray.size_extract, Nat.min_self] at q6x)
       go_wp2_with (first | ((with_reducible refine gate_callee (f := 24) rfl ?_); refine xgl 15 Tryd.func24 #[.int .u8 (bt a0 x8_1), .int .i64 a1] ?_; (with_reducible refine (octet_Is.calls k1 (bt a0 x8_1) a1 false _ A7.out).mono ?_); rintro e w' ⟨rfl, ⟨nd, rfl⟩⟩; refine ⟨_, rfl, ?_⟩))
       go_ret
       exact ⟨xrr, xdr⟩
     ·
      rw [if_neg c5] at H
      exact absurd H (by simp)
    ·
     rw [if_neg c4] at H
     exact absurd H (by simp)
   ·
    rw [if_neg c3] at H
    have c3b0 := decide_eq_false c3
    clear c3
    obtain rfl := Option.some.inj H
    go_wp2
    go_ret
    exact ⟨xrr, xdr⟩
mutual
def ip_Future.j0 : Nat → ByteArray → Bool → Option (Bool)
  | 0, _, _ => none
  | k + 1, x0, x13 => if x13 = true then (some false) else (if 1 ≤ (x0.size : Int) then ((octet_Span.f k (x0.extract 1 x0.size) 32).bind fun t195 => (if 0 ≤ (wrap64 (1 + t195)) then (if (wrap64 (1 + t195)) ≤ (x0.size : Int) then (if t195 = 0 then (ip_Future.j1 k (x0.extract ((wrap64 (1 + t195)) : Int).toNat x0.size) true) else (if ((x0.extract ((wrap64 (1 + t195)) : Int).toNat x0.size).size : Int) < 2 then (ip_Future.j1 k (x0.extract ((wrap64 (1 + t195)) : Int).toNat x0.size) true) else (if 0 < ((x0.extract ((wrap64 (1 + t195)) : Int).toNat x0.size).size : Int) then (ip_Future.j1 k (x0.extract ((wrap64 (1 + t195)) : Int).toNat x0.size) ((bt (x0.extract ((wrap64 (1 + t195)) : Int).toNat x0.size) 0) != 46)) else (none)))) else (none)) else (none))) else (none))
def ip_Future.j1 : Nat → ByteArray → Bool → Option (Bool)
  | 0, _, _ => none
  | k + 1, x4, x32 => if x32 = true then (some false) else (ip_Future.l0 k x4 1)
def ip_Future.l0 : Nat → ByteArray → Int → Option (Bool)
  | 0, _, _ => none
  | k + 1, x4, x5 => if x5 < (x4.size : Int) then (if 0 ≤ x5 then ((lexis_Plain.f k 1 (bt x4 x5)).bind fun t196 => (if t196 = true then (ip_Future.l0 k x4 (wrap64 (x5 + 1))) else (some false))) else (none)) else (some true)
end
def ip_Future.f (k : Nat) (a0 : ByteArray) : Option (Bool) := if a0.toList = ([] : List UInt8) then (ip_Future.j0 k a0 true) else (if 0 < (a0.size : Int) then (ip_Future.j0 k a0 ((Go.bits .or .u8 (bt a0 0) 32) != 118)) else (none))
theorem ip_Future.mono_l : ∀ k, (∀ y0 y1, LeO (ip_Future.j0 k y0 y1) (ip_Future.j0 (k + 1) y0 y1)) ∧ (∀ y0 y1, LeO (ip_Future.j1 k y0 y1) (ip_Future.j1 (k + 1) y0 y1)) ∧ (∀ y0 y1, LeO (ip_Future.l0 k y0 y1) (ip_Future.l0 (k + 1) y0 y1))
  | 0 => ⟨fun _ _ r h => by simp [ip_Future.j0] at h, fun _ _ r h => by simp [ip_Future.j1] at h, fun _ _ r h => by simp [ip_Future.l0] at h⟩
  | k + 1 => by
    obtain ⟨ih0, ih1, ih2⟩ := ip_Future.mono_l k
    have m0 := @lexis_Plain.mono; have m1 := @octet_Span.mono
    refine ⟨?_, ?_, ?_⟩
    · intro y0 y1
      unfold ip_Future.j0
      exact xmo
    · intro y0 y1
      unfold ip_Future.j1
      exact xmo
    · intro y0 y1
      unfold ip_Future.l0
      exact xmo
theorem ip_Future.mono : ∀ a0 k, LeO (ip_Future.f k a0) (ip_Future.f (k + 1) a0) := by
  intro a0 k
  obtain ⟨ih0, ih1, ih2⟩ := ip_Future.mono_l k
  have m0 := @lexis_Plain.mono; have m1 := @octet_Span.mono
  unfold ip_Future.f
  exact xmo
set_option maxHeartbeats 8000000 in
set_option maxRecDepth 100000 in
theorem ip_Future.calls (k : Nat) (a0 : ByteArray) (r : Bool) (w : World) (h : ip_Future.f k a0 = some r) :
    Calls Tryd.prog 43 #[.string a0] w fun e w' => e = .returned (.bool r) ∧ Below w.heap.size w w' := by
 have HB := Aside0.mk (Below.refl w.heap.size w)
 have H : (if a0.toList = ([] : List UInt8) then (ip_Future.j0 k a0 true) else (if 0 < (a0.size : Int) then (ip_Future.j0 k a0 ((Go.bits .or .u8 (bt a0 0) 32) != 118)) else (none))) = some r := h
 clear h
 have HC2 := Aside0.mk H
 clear H
 go_enter Tryd.func43, Tryd.ntmps43
 go_upto_region 1 with (fail)
 go_cut [13] (fun v13 wc => ∃ (kq : Nat) (x13_1 : Bool), v13 = .bool x13_1 ∧ Aside0 (ip_Future.j0 kq a0 x13_1 = some r) ∧ Aside0 (kq ≤ k) ∧ Aside0 (Below w.heap.size w wc))
 case first =>
  have H := HC2.out
  clear HC2
  by_cases c3 : a0.toList = ([] : List UInt8)
  ·
   rw [if_pos c3] at H
   have c3b0 : (a0.toList == ([] : List UInt8)) = true := beq_iff_eq.mpr c3
   have c3b1 : (a0.toList != ([] : List UInt8)) = false := bne_eq_false_iff_eq.mpr c3
   (try (have c3b2 : a0.toList.isEmpty = true := by simpa using c3))
   clear c3
   (first | rw [c3b0] | (simp only [i64_w, i32_w]; rw [c3b0]) | (rw [c3b2]; (try simp only [Bool.not_false, Bool.not_true])) | (rw [c3b3]; (try simp only [Bool.not_false, Bool.not_true])) | skip)
   have H' := Aside0.mk H
   clear H
   go_wp2
   go_meet
   case rel => exact ⟨_, (true), xrr, H', ⟨xom⟩, ⟨xbl⟩⟩
  ·
   rw [if_neg c3] at H
   have c3b0 : (a0.toList == ([] : List UInt8)) = false := beq_eq_false_iff_ne.mpr c3
   have c3b1 : (a0.toList != ([] : List UInt8)) = true := bne_iff_ne.mpr c3
   (try (have c3b2 : a0.toList.isEmpty = false := by simpa using c3))
   (first | rw [c3b0] | (simp only [i64_w, i32_w]; rw [c3b0]) | (rw [c3b2]; (try simp only [Bool.not_false, Bool.not_true])) | (rw [c3b3]; (try simp only [Bool.not_false, Bool.not_true])) | skip)
   by_cases c4 : 0 < (a0.size : Int)
   ·
    rw [if_pos c4] at H
    have c4b0 := decide_eq_true c4
    have c4b1 : decide (0 < a0.size) = true := decide_eq_true (by omega)
    clear c4
    have H' := Aside0.mk H
    clear H
    have p5 : 0 ≤ (0 : Int) := (by omega)
    have q5 : 0 < a0.size := (by have : (0 : Int) < (a0.size : Int) := xod; omega)
    have hx5 : ∀ h : 0 < a0.size, ((a0[0]'h).toNat : Int) = bt a0 0 := bt_at a0 0
    clear p5
    have qi5 : (0 < (a0.size : Int)) = True := eq_true (xod)
    replace q5 := eq_true q5
    try (have q5x := q5; simp only [ByteArray.size_extract, Nat.min_self] at q5x)
    go_wp2
    go_meet
    case rel => exact ⟨_, (((Go.bits .or .u8 (bt a0 0) 32) != 118)), xrr, H', ⟨xom⟩, ⟨xbl⟩⟩
   ·
    rw [if_neg c4] at H
    exact absurd H (by simp)
 case rest =>
  clear HC2
  obtain ⟨kq, x13_1, rfl, HA, HJ1, HB⟩ := hcut
  cases kq with
  | zero => exact absurd HA.out (by simp [ip_Future.j0])
  | succ kj1 =>
   have H := HA.out
   clear HA
   simp only [ip_Future.j0] at H
   by_cases c6 : x13_1 = true
   ·
    subst c6
    rw [if_pos rfl] at H
    obtain rfl := Option.some.inj H
    go_wp2
    go_ret
    exact ⟨xre, xbl⟩
   ·
    replace c6 := Bool.eq_false_iff.mpr c6
    subst c6
    rw [if_neg (show ¬ (false = true) by decide)] at H
    by_cases c7 : 1 ≤ (a0.size : Int)
    ·
     rw [if_pos c7] at H
     have c7b0 := eq_true c7
     have c7b1 := decide_eq_true c7
     clear c7
     obtain ⟨ji8, hji8⟩ : ∃ j_ : ByteArray, (a0.extract 1 a0.size) = j_ := ⟨_, rfl⟩
     try (have hji8x := hji8; simp only [Int.toNat_natCast] at hji8x)
     first | rw [hji8] at H | simp only [hji8] at H | skip
     replace H := Option.bind_eq_some_iff.mp H
     obtain ⟨t195, A90, H⟩ := H
     try dsimp only at H
     have A9 := Aside0.mk A90
     clear A90
     obtain ⟨ji10, hji10⟩ : ∃ j_ : Int, (wrap64 (1 + t195)) = j_ := ⟨_, rfl⟩
     first | rw [hji10] at H | simp only [hji10] at H | skip
     (try rw [hji10] at A9)
     have hji10w : (IntKind.i64.wrap (1 + t195)) = ji10 := (i64_w _).trans hji10
     by_cases c11 : 0 ≤ (ji10)
     ·
      rw [if_pos c11] at H
      have c11b0 := eq_true c11
      have c11b1 := decide_eq_true c11
      clear c11
      by_cases c12 : (ji10) ≤ (a0.size : Int)
      ·
       rw [if_pos c12] at H
       have c12b0 := eq_true c12
       have c12b1 := decide_eq_true c12
       clear c12
       obtain ⟨ji13, hji13⟩ : ∃ j_ : ByteArray, (a0.extract ((ji10) : Int).toNat a0.size) = j_ := ⟨_, rfl⟩
       try (have hji13x := hji13; simp only [Int.toNat_natCast] at hji13x)
       first | rw [hji13] at H | simp only [hji13] at H | skip
       (try rw [hji13] at A9)
       have HC14 := Aside0.mk H
       clear H
       go_upto_region 5 with (first | ((with_reducible refine gate_callee (f := 35) rfl ?_); refine goesL_ (some 16) rfl rfl Tryd.func35 (by kernel_rfl) rfl #[.string ji8, .int .i64 32] rfl (by (try simp only [List.map_toArray, List.map_cons, List.map_nil]); first | done | (simp only [hji8]; rfl) | rfl | (simp only [List.length_drop, List.length_take]; rfl)) ?_; (with_reducible refine (octet_Span.calls kj1 ji8 32 t195 _ A9.out).mono ?_); rintro e w' ⟨rfl, ⟨nd, rfl⟩⟩; refine ⟨_, rfl, ?_⟩))
       (try simp only [Act.put, List.setIfInBounds_toArray, List.set_cons_zero, List.set_cons_succ])
       go_cut [32] (fun v32 wc => ∃ (kq : Nat) (x32_13 : Bool), v32 = .bool x32_13 ∧ Aside0 (ip_Future.j1 kq ji13 x32_13 = some r) ∧ Aside0 (kq ≤ kj1) ∧ Aside0 (Below w.heap.size w wc))
       case first =>
        have H := HC14.out
        clear HC14
        by_cases c15 : t195 = 0
        ·
         rw [if_pos c15] at H
         have c15b0 : (t195 == 0) = true := beq_iff_eq.mpr c15
         have c15b1 : (t195 != 0) = false := bne_eq_false_iff_eq.mpr c15
         clear c15
         (first | rw [c15b0] | (simp only [i64_w, i32_w]; rw [c15b0]) | (rw [c15b2]; (try simp only [Bool.not_false, Bool.not_true])) | (rw [c15b3]; (try simp only [Bool.not_false, Bool.not_true])) | skip)
         have H' := Aside0.mk H
         clear H
         go_wp2
         go_meet
         case rel => exact ⟨_, (true), xrr, H', ⟨by have := HJ1.out; first | omega | exact Nat.le_refl _⟩, ⟨xbl⟩⟩
        ·
         rw [if_neg c15] at H
         have c15b0 : (t195 == 0) = false := beq_eq_false_iff_ne.mpr c15
         have c15b1 : (t195 != 0) = true := bne_iff_ne.mpr c15
         (first | rw [c15b0] | (simp only [i64_w, i32_w]; rw [c15b0]) | (rw [c15b2]; (try simp only [Bool.not_false, Bool.not_true])) | (rw [c15b3]; (try simp only [Bool.not_false, Bool.not_true])) | skip)
         by_cases c16 : ((ji13).size : Int) < 2
         ·
          rw [if_pos c16] at H
          have c16b0 := decide_eq_true c16
          have c16b1 : decide ((ji13).size < 2) = true := decide_eq_true (by omega)
          clear c16
          have H' := Aside0.mk H
          clear H
          go_wp2
          go_meet
          case rel => exact ⟨_, (true), xrr, H', ⟨by have := HJ1.out; first | omega | exact Nat.le_refl _⟩, ⟨xbl⟩⟩
         ·
          rw [if_neg c16] at H
          have c16b0 := decide_eq_false c16
          have c16b1 : decide ((ji13).size < 2) = false := decide_eq_false (by omega)
          clear c16
          by_cases c17 : 0 < ((ji13).size : Int)
          ·
           rw [if_pos c17] at H
           have c17b0 := decide_eq_true c17
           have c17b1 : decide (0 < (ji13).size) = true := decide_eq_true (by omega)
           clear c17
           have H' := Aside0.mk H
           clear H
           have p18 : 0 ≤ (0 : Int) := (by omega)
           have q18 : 0 < ji13.size := (by have : (0 : Int) < (ji13.size : Int) := xod; omega)
           have hx18 : ∀ h : 0 < ji13.size, ((ji13[0]'h).toNat : Int) = bt ji13 0 := bt_at ji13 0
           clear p18
           have qi18 : (0 < (ji13.size : Int)) = True := eq_true (xod)
           replace q18 := eq_true q18
           try (have q18x := q18; simp only [ByteArray.size_extract, Nat.min_self] at q18x)
           go_wp2
           go_meet
           case rel => exact ⟨_, (((bt (ji13) 0) != 46)), (by first | rfl | (simp; done) | (simp only [← hji13] <;> (first | rfl | simp)) | (simp [*]; done) | (simp [wrap64]; done)), H', ⟨by have := HJ1.out; first | omega | exact Nat.le_refl _⟩, ⟨xbl⟩⟩
          ·
           rw [if_neg c17] at H
           exact absurd H (by simp)
       case rest =>
        clear HC14
        clear c7b0 c7b1 c11b0 c11b1 c12b0 c12b1
        obtain ⟨kq, x32_13, rfl, HA, HJ13, HB⟩ := hcut
        cases kq with
        | zero => exact absurd HA.out (by simp [ip_Future.j1])
        | succ kj13 =>
         have H := HA.out
         clear HA
         simp only [ip_Future.j1] at H
         by_cases c19 : x32_13 = true
         ·
          subst c19
          rw [if_pos rfl] at H
          obtain rfl := Option.some.inj H
          go_wp2
          go_ret
          exact ⟨by first | rfl | (simp [errW_none, errW_some] <;> first | rfl | (simp only [xp_isEmpty, bne, Bool.not_not]; done)) | (simp only [← hji8, ← hji10, ← hji13]; first | rfl | (simp [errW_none, errW_some] <;> rfl)) | (simp [*, errW_none, errW_some] <;> rfl), xbl⟩
         ·
          replace c19 := Bool.eq_false_iff.mpr c19
          subst c19
          rw [if_neg (show ¬ (false = true) by decide)] at H
          have H' := Aside0.mk H
          clear H
          go_wp2
          go_loopg [5] kj13 (fun kq v5 w' => ∃ (x5_3 : Int), v5 = .int .i64 x5_3 ∧ Aside0 (ip_Future.l0 kq ji13 x5_3 = some r) ∧ Aside0 (kq ≤ kj13) ∧ Aside0 (Below w.heap.size w w'))
          case atStart => exact ⟨(1), xrr, H', ⟨Nat.le_refl _⟩, ⟨xbl⟩⟩
          case round =>
           clear H'
           obtain ⟨x5_3, rfl, HA, HK3, HB⟩ := hrel
           cases gk with
           | zero => exact absurd HA.out (by simp [ip_Future.l0])
           | succ k3 =>
            have H := HA.out
            clear HA
            simp only [ip_Future.l0] at H
            by_cases c20 : x5_3 < (ji13.size : Int)
            ·
             rw [if_pos c20] at H
             have c20b0 := decide_eq_true c20
             clear c20
             by_cases c21 : 0 ≤ x5_3
             ·
              rw [if_pos c21] at H
              have c21b0 := decide_eq_true c21
              clear c21
              replace H := Option.bind_eq_some_iff.mp H
              obtain ⟨t196, A230, H⟩ := H
              try dsimp only at H
              have A23 := Aside0.mk A230
              clear A230
              by_cases c24 : t196 = true
              ·
               subst c24
               rw [if_pos rfl] at H
               have H' := Aside0.mk H
               clear H
               have p22 : 0 ≤ (x5_3 : Int) := xod
               have q22 : x5_3 < (ji13.size : Int) := xod
               have hx22 := bt_at ji13 x5_3
               replace p22 := eq_true p22
               replace q22 := eq_true q22
               try (have q22x := q22; simp only [ByteArray.size_extract, Nat.min_self] at q22x)
               go_wp2_with (first | ((with_reducible refine gate_callee (f := 46) rfl ?_); refine goesL_ (some 42) rfl rfl Tryd.func46 (by kernel_rfl) rfl #[.int .i64 1, .int .u8 (bt ji13 x5_3)] rfl (by (try simp only [List.map_toArray, List.map_cons, List.map_nil]); first | done | (simp only [hji13]; rfl) | rfl | (simp only [List.length_drop, List.length_take]; rfl)) ?_; (with_reducible refine (lexis_Plain.calls k3 1 (bt ji13 x5_3) true _ A23.out).mono ?_); rintro e w25 ⟨rfl, hb⟩; refine ⟨_, rfl, ?_⟩; replace HB := xst hb; (try clear hb)))
               go_roundg k3
               case measure => have := HJ1.out; have := HJ13.out; have := HK3.out; omega
               case rel => exact ⟨(wrap64 (x5_3 + 1)), xrr, H', ⟨by have := HJ1.out; have := HJ13.out; have := HK3.out; omega⟩, ⟨xbl⟩⟩
              ·
               replace c24 := Bool.eq_false_iff.mpr c24
               subst c24
               rw [if_neg (show ¬ (false = true) by decide)] at H
               obtain rfl := Option.some.inj H
               have p22 : 0 ≤ (x5_3 : Int) := xod
               have q22 : x5_3 < (ji13.size : Int) := xod
               have hx22 := bt_at ji13 x5_3
               replace p22 := eq_true p22
               replace q22 := eq_true q22
               try (have q22x := q22; simp only [ByteArray.size_extract, Nat.min_self] at q22x)
               go_wp2_with (first | ((with_reducible refine gate_callee (f := 46) rfl ?_); refine goesL_ (some 42) rfl rfl Tryd.func46 (by kernel_rfl) rfl #[.int .i64 1, .int .u8 (bt ji13 x5_3)] rfl (by (try simp only [List.map_toArray, List.map_cons, List.map_nil]); first | done | (simp only [hji13]; rfl) | rfl | (simp only [List.length_drop, List.length_take]; rfl)) ?_; (with_reducible refine (lexis_Plain.calls k3 1 (bt ji13 x5_3) false _ A23.out).mono ?_); rintro e w26 ⟨rfl, hb⟩; refine ⟨_, rfl, ?_⟩; replace HB := xst hb; (try clear hb)))
               go_ret
               exact ⟨by first | rfl | (simp [errW_none, errW_some] <;> first | rfl | (simp only [xp_isEmpty, bne, Bool.not_not]; done)) | (simp only [← hji8, ← hji10, ← hji13]; first | rfl | (simp [errW_none, errW_some] <;> rfl)) | (simp [*, errW_none, errW_some] <;> rfl), xbl⟩
             ·
              rw [if_neg c21] at H
              exact absurd H (by simp)
            ·
             rw [if_neg c20] at H
             have c20b0 := decide_eq_false c20
             clear c20
             obtain rfl := Option.some.inj H
             go_wp2
             go_ret
             exact ⟨by first | rfl | (simp [errW_none, errW_some] <;> first | rfl | (simp only [xp_isEmpty, bne, Bool.not_not]; done)) | (simp only [← hji8, ← hji10, ← hji13]; first | rfl | (simp [errW_none, errW_some] <;> rfl)) | (simp [*, errW_none, errW_some] <;> rfl), xbl⟩
      ·
       rw [if_neg c12] at H
       exact absurd H (by simp)
     ·
      rw [if_neg c11] at H
      exact absurd H (by simp)
    ·
     rw [if_neg c7] at H
     exact absurd H (by simp)
def ip_Host.j0 : Nat → Bool → ByteArray → Int → Bool → Option (Int)
  | 0, _, _, _, _ => none
  | k + 1, x0, x1, x5, x25 => if x25 = true then (if 1 ≤ (wrap64 (x5 - 1)) then (if (wrap64 (x5 - 1)) ≤ (x1.size : Int) then ((ip_V6.f k (x1.extract 1 ((wrap64 (x5 - 1)) : Int).toNat)).bind fun bt197 => (if bt197.2.2.2.2.2.2.2.2 = true then (some 3) else ((ip_Future.f k (x1.extract 1 ((wrap64 (x5 - 1)) : Int).toNat)).bind fun t207 => (if t207 = true then (some 3) else (some 0))))) else (none)) else (none)) else ((ip_V4.f k x1).bind fun bt208 => (if bt208.2.2.2.2 = true then (some 1) else ((lexis_All.f k 2 x0 x1).bind fun t214 => (if t214 = true then (some 2) else (some 0)))))
def ip_Host.f (k : Nat) (a0 : Bool) (a1 : ByteArray) : Option (Int) := if (a1.size : Int) > 1 then (if 0 < (a1.size : Int) then (if (bt a1 0) = 91 then (if 0 ≤ (wrap64 ((a1.size : Int) - 1)) then (if (wrap64 ((a1.size : Int) - 1)) < (a1.size : Int) then (ip_Host.j0 k a0 a1 (a1.size : Int) ((bt a1 (wrap64 ((a1.size : Int) - 1))) == 93)) else (none)) else (none)) else (ip_Host.j0 k a0 a1 (a1.size : Int) false)) else (none)) else (ip_Host.j0 k a0 a1 (a1.size : Int) false)
theorem ip_Host.mono_l : ∀ k, (∀ y0 y1 y2 y3, LeO (ip_Host.j0 k y0 y1 y2 y3) (ip_Host.j0 (k + 1) y0 y1 y2 y3))
  | 0 => fun _ _ _ _ r h => by simp [ip_Host.j0] at h
  | k + 1 => by
    have ih0 := ip_Host.mono_l k
    have m0 := @ip_Future.mono; have m1 := @ip_V4.mono; have m2 := @ip_V6.mono; have m3 := @lexis_All.mono
    · intro y0 y1 y2 y3
      unfold ip_Host.j0
      exact xmo
theorem ip_Host.mono : ∀ a0 a1 k, LeO (ip_Host.f k a0 a1) (ip_Host.f (k + 1) a0 a1) := by
  intro a0 a1 k
  have ih0 := ip_Host.mono_l k
  have m0 := @ip_Future.mono; have m1 := @ip_V4.mono; have m2 := @ip_V6.mono; have m3 := @lexis_All.mono
  unfold ip_Host.f
  exact xmo
set_option maxHeartbeats 8000000 in
set_option maxRecDepth 100000 in
theorem ip_Host.calls (k : Nat) (a0 : Bool) (a1 : ByteArray) (r : Int) (w : World) (hG : GW w) (h : ip_Host.f k a0 a1 = some r) :
    Calls Tryd.prog 34 #[.bool a0, .string a1] w fun e w' => e = .returned (.int .i64 r) ∧ Below w.heap.size w w' := by
 have hu72 := Tryd.underlying72
 have hu75 := Tryd.underlying75
 have HB := Aside0.mk (Below.refl w.heap.size w)
 have H : (if (a1.size : Int) > 1 then (if 0 < (a1.size : Int) then (if (bt a1 0) = 91 then (if 0 ≤ (wrap64 ((a1.size : Int) - 1)) then (if (wrap64 ((a1.size : Int) - 1)) < (a1.size : Int) then (ip_Host.j0 k a0 a1 (a1.size : Int) ((bt a1 (wrap64 ((a1.size : Int) - 1))) == 93)) else (none)) else (none)) else (ip_Host.j0 k a0 a1 (a1.size : Int) false)) else (none)) else (ip_Host.j0 k a0 a1 (a1.size : Int) false)) = some r := h
 clear h
 have HC3 := Aside0.mk H
 clear H
 go_enter Tryd.func34, Tryd.ntmps34
 go_upto_region 2 with (fail)
 go_cut [25] (fun v25 wc => ∃ (kq : Nat) (x25_2 : Bool), v25 = .bool x25_2 ∧ Aside0 (ip_Host.j0 kq a0 a1 (a1.size : Int) x25_2 = some r) ∧ Aside0 (kq ≤ k) ∧ Aside0 (Below w.heap.size w wc))
 case first =>
  have H := HC3.out
  clear HC3
  by_cases c4 : (a1.size : Int) > 1
  ·
   rw [if_pos c4] at H
   have c4b0 := decide_eq_true c4
   have c4b1 : decide (1 < a1.size) = true := decide_eq_true (by omega)
   clear c4
   (first | rw [c4b0] | (simp only [i64_w, i32_w]; rw [c4b0]) | (rw [c4b2]; (try simp only [Bool.not_false, Bool.not_true])) | (rw [c4b3]; (try simp only [Bool.not_false, Bool.not_true])) | skip)
   by_cases c5 : 0 < (a1.size : Int)
   ·
    rw [if_pos c5] at H
    have c5b0 := decide_eq_true c5
    have c5b1 : decide (0 < a1.size) = true := decide_eq_true (by omega)
    clear c5
    by_cases c7 : (bt a1 0) = 91
    ·
     rw [if_pos c7] at H
     have c7b0 : ((bt a1 0) == 91) = true := beq_iff_eq.mpr c7
     have c7b1 : ((bt a1 0) != 91) = false := bne_eq_false_iff_eq.mpr c7
     clear c7
     obtain ⟨ji8, hji8⟩ : ∃ j_ : Int, (wrap64 ((a1.size : Int) - 1)) = j_ := ⟨_, rfl⟩
     first | rw [hji8] at H | simp only [hji8] at H | skip
     have hji8w : (IntKind.i64.wrap ((a1.size : Int) - 1)) = ji8 := (i64_w _).trans hji8
     by_cases c9 : 0 ≤ (ji8)
     ·
      rw [if_pos c9] at H
      have c9b0 := decide_eq_true c9
      clear c9
      by_cases c10 : (ji8) < (a1.size : Int)
      ·
       rw [if_pos c10] at H
       have c10b0 := decide_eq_true c10
       clear c10
       have H' := Aside0.mk H
       clear H
       have p6 : 0 ≤ (0 : Int) := (by omega)
       have q6 : 0 < a1.size := (by have : (0 : Int) < (a1.size : Int) := xod; omega)
       have hx6 : ∀ h : 0 < a1.size, ((a1[0]'h).toNat : Int) = bt a1 0 := bt_at a1 0
       clear p6
       have qi6 : (0 < (a1.size : Int)) = True := eq_true (xod)
       replace q6 := eq_true q6
       try (have q6x := q6; simp only [ByteArray.size_extract, Nat.min_self] at q6x)
       have p11 : 0 ≤ ((ji8) : Int) := xod
       have q11 : (ji8) < (a1.size : Int) := xod
       have hx11 := bt_at a1 (ji8)
       replace p11 := eq_true p11
       replace q11 := eq_true q11
       try (have q11x := q11; simp only [ByteArray.size_extract, Nat.min_self] at q11x)
       go_wp2
       go_meet
       case rel => exact ⟨_, (((bt a1 (ji8)) == 93)), (by first | rfl | (simp; done) | (simp only [← hji8] <;> (first | rfl | simp)) | (simp [*]; done) | (simp [wrap64]; done)), H', ⟨xom⟩, ⟨xbl⟩⟩
      ·
       rw [if_neg c10] at H
       exact absurd H (by simp)
     ·
      rw [if_neg c9] at H
      exact absurd H (by simp)
    ·
     rw [if_neg c7] at H
     have c7b0 : ((bt a1 0) == 91) = false := beq_eq_false_iff_ne.mpr c7
     have c7b1 : ((bt a1 0) != 91) = true := bne_iff_ne.mpr c7
     have H' := Aside0.mk H
     clear H
     have p6 : 0 ≤ (0 : Int) := (by omega)
     have q6 : 0 < a1.size := (by have : (0 : Int) < (a1.size : Int) := xod; omega)
     have hx6 : ∀ h : 0 < a1.size, ((a1[0]'h).toNat : Int) = bt a1 0 := bt_at a1 0
     clear p6
     have qi6 : (0 < (a1.size : Int)) = True := eq_true (xod)
     replace q6 := eq_true q6
     try (have q6x := q6; simp only [ByteArray.size_extract, Nat.min_self] at q6x)
     go_wp2
     go_meet
     case rel => exact ⟨_, (false), xrr, H', ⟨xom⟩, ⟨xbl⟩⟩
   ·
    rw [if_neg c5] at H
    exact absurd H (by simp)
  ·
   rw [if_neg c4] at H
   have c4b0 := decide_eq_false c4
   have c4b1 : decide (1 < a1.size) = false := decide_eq_false (by omega)
   clear c4
   (first | rw [c4b0] | (simp only [i64_w, i32_w]; rw [c4b0]) | (rw [c4b2]; (try simp only [Bool.not_false, Bool.not_true])) | (rw [c4b3]; (try simp only [Bool.not_false, Bool.not_true])) | skip)
   have H' := Aside0.mk H
   clear H
   go_wp2
   go_meet
   case rel => exact ⟨_, (false), xrr, H', ⟨xom⟩, ⟨xbl⟩⟩
 case rest =>
  clear HC3
  obtain ⟨kq, x25_2, rfl, HA, HJ2, HB⟩ := hcut
  cases kq with
  | zero => exact absurd HA.out (by simp [ip_Host.j0])
  | succ kj2 =>
   have H := HA.out
   clear HA
   simp only [ip_Host.j0] at H
   by_cases c12 : x25_2 = true
   ·
    subst c12
    rw [if_pos rfl] at H
    obtain ⟨ji13, hji13⟩ : ∃ j_ : Int, (wrap64 ((a1.size : Int) - 1)) = j_ := ⟨_, rfl⟩
    first | rw [hji13] at H | simp only [hji13] at H | skip
    have hji13w : (IntKind.i64.wrap ((a1.size : Int) - 1)) = ji13 := (i64_w _).trans hji13
    by_cases c14 : 1 ≤ (ji13)
    ·
     rw [if_pos c14] at H
     have c14b0 := eq_true c14
     have c14b1 := decide_eq_true c14
     clear c14
     by_cases c15 : (ji13) ≤ (a1.size : Int)
     ·
      rw [if_pos c15] at H
      have c15b0 := eq_true c15
      have c15b1 := decide_eq_true c15
      clear c15
      obtain ⟨ji16, hji16⟩ : ∃ j_ : ByteArray, (a1.extract 1 ((ji13) : Int).toNat) = j_ := ⟨_, rfl⟩
      try (have hji16x := hji16; simp only [Int.toNat_natCast] at hji16x)
      first | rw [hji16] at H | simp only [hji16] at H | skip
      replace H := Option.bind_eq_some_iff.mp H
      obtain ⟨⟨t197, t198, t199, t200, t201, t202, t203, t204, t205⟩, A170, H⟩ := H
      try dsimp only at H
      have A17 := Aside0.mk A170
      clear A170
      by_cases c18 : t205 = true
      ·
       subst c18
       rw [if_pos rfl] at H
       obtain rfl := Option.some.inj H
       go_wp2_with (first | ((with_reducible refine gate_callee (f := 42) rfl ?_); refine goesL_ (some 31) rfl rfl Tryd.func42 (by kernel_rfl) rfl #[.string ji16] rfl (by (try simp only [List.map_toArray, List.map_cons, List.map_nil]); first | done | (simp only [hji16]; rfl) | rfl | (simp only [List.length_drop, List.length_take]; rfl)) ?_; (with_reducible refine (ip_V6.calls kj2 ji16 t197 t198 t199 t200 t201 t202 t203 t204 true _ ?side1 A17.out).mono ?_); (case side1 => first | (with_reducible exact hG) | exact GW_to hG xbl); rintro e w19 ⟨rfl, hb⟩; refine ⟨_, rfl, ?_⟩; replace HB := xst hb; (try clear hb)) | ((with_reducible refine gate_dst (N := 6) rfl ?_); refine xev 6 #[.int .u16 0, .int .u16 0, .int .u16 0, .int .u16 0, .int .u16 0, .int .u16 0, .int .u16 0, .int .u16 0] 72 ?_; intro gb206 hg w20 hbox hb; have BK206 := Aside0.mk (hbox); have GW206 := xsz hg; have GE206 := GW206; replace HB := xst hb; clear hb hbox hg; obtain ⟨hcz21_0, hcz21_1, hcz21_2, hcz21_3, hcz21_4, hcz21_5, hcz21_6, hcz21_7⟩ := xc8 BK206; have hfz21_0 := xf BK206 0; have hfz21_1 := xf BK206 1; have hfz21_2 := xf BK206 2; have hfz21_3 := xf BK206 3; have hfz21_4 := xf BK206 4; have hfz21_5 := xf BK206 5; have hfz21_6 := xf BK206 6; have hfz21_7 := xf BK206 7))
       go_ret
       exact ⟨by first | rfl | (simp [errW_none, errW_some] <;> first | rfl | (simp only [xp_isEmpty, bne, Bool.not_not]; done)) | (simp only [← hji13, ← hji16]; first | rfl | (simp [errW_none, errW_some] <;> rfl)) | (simp [*, errW_none, errW_some] <;> rfl), xbl⟩
      ·
       replace c18 := Bool.eq_false_iff.mpr c18
       subst c18
       rw [if_neg (show ¬ (false = true) by decide)] at H
       have c22b0 := eq_true (xod : 1 ≤ (ji13))
       have c23b0 := eq_true (xod : (ji13) ≤ (a1.size : Int))
       first | rw [hji16] at H | simp only [hji16] at H | skip
       (try rw [hji16] at A17)
       replace H := Option.bind_eq_some_iff.mp H
       obtain ⟨t207, A240, H⟩ := H
       try dsimp only at H
       have A24 := Aside0.mk A240
       clear A240
       by_cases c25 : t207 = true
       ·
        subst c25
        rw [if_pos rfl] at H
        obtain rfl := Option.some.inj H
        go_wp2_with (first | ((with_reducible refine gate_callee (f := 42) rfl ?_); refine goesL_ (some 31) rfl rfl Tryd.func42 (by kernel_rfl) rfl #[.string ji16] rfl (by (try simp only [List.map_toArray, List.map_cons, List.map_nil]); first | done | (simp only [hji16]; rfl) | rfl | (simp only [List.length_drop, List.length_take]; rfl)) ?_; (with_reducible refine (ip_V6.calls kj2 ji16 t197 t198 t199 t200 t201 t202 t203 t204 false _ ?side1 A17.out).mono ?_); (case side1 => first | (with_reducible exact hG) | exact GW_to hG xbl); rintro e w26 ⟨rfl, hb⟩; refine ⟨_, rfl, ?_⟩; replace HB := xst hb; (try clear hb)) | ((with_reducible refine gate_dst (N := 6) rfl ?_); refine xev 6 #[.int .u16 0, .int .u16 0, .int .u16 0, .int .u16 0, .int .u16 0, .int .u16 0, .int .u16 0, .int .u16 0] 72 ?_; intro gb206 hg w27 hbox hb; have BK206 := Aside0.mk (hbox); have GW206 := xsz hg; have GE206 := GW206; replace HB := xst hb; clear hb hbox hg; obtain ⟨hcz28_0, hcz28_1, hcz28_2, hcz28_3, hcz28_4, hcz28_5, hcz28_6, hcz28_7⟩ := xc8 BK206; have hfz28_0 := xf BK206 0; have hfz28_1 := xf BK206 1; have hfz28_2 := xf BK206 2; have hfz28_3 := xf BK206 3; have hfz28_4 := xf BK206 4; have hfz28_5 := xf BK206 5; have hfz28_6 := xf BK206 6; have hfz28_7 := xf BK206 7) | (go_at_call 43; (with_reducible refine (ip_Future.calls kj2 ji16 true _ A24.out).mono ?_); rintro e w29 ⟨rfl, hb⟩; replace BK206 := xbb (g := gb206) (o := .cells #[.int .u16 t197, .int .u16 t198, .int .u16 t199, .int .u16 t200, .int .u16 t201, .int .u16 t202, .int .u16 t203, .int .u16 t204] 72 (0, 0)) hb; replace HB := xst hb; (try clear hb)))
        go_ret
        exact ⟨by first | rfl | (simp [errW_none, errW_some] <;> first | rfl | (simp only [xp_isEmpty, bne, Bool.not_not]; done)) | (simp only [← hji13, ← hji16, ← hji16]; first | rfl | (simp [errW_none, errW_some] <;> rfl)) | (simp [*, errW_none, errW_some] <;> rfl), xbl⟩
       ·
        replace c25 := Bool.eq_false_iff.mpr c25
        subst c25
        rw [if_neg (show ¬ (false = true) by decide)] at H
        obtain rfl := Option.some.inj H
        go_wp2_with (first | ((with_reducible refine gate_callee (f := 42) rfl ?_); refine goesL_ (some 31) rfl rfl Tryd.func42 (by kernel_rfl) rfl #[.string ji16] rfl (by (try simp only [List.map_toArray, List.map_cons, List.map_nil]); first | done | (simp only [hji16]; rfl) | rfl | (simp only [List.length_drop, List.length_take]; rfl)) ?_; (with_reducible refine (ip_V6.calls kj2 ji16 t197 t198 t199 t200 t201 t202 t203 t204 false _ ?side1 A17.out).mono ?_); (case side1 => first | (with_reducible exact hG) | exact GW_to hG xbl); rintro e w30 ⟨rfl, hb⟩; refine ⟨_, rfl, ?_⟩; replace HB := xst hb; (try clear hb)) | ((with_reducible refine gate_dst (N := 6) rfl ?_); refine xev 6 #[.int .u16 0, .int .u16 0, .int .u16 0, .int .u16 0, .int .u16 0, .int .u16 0, .int .u16 0, .int .u16 0] 72 ?_; intro gb206 hg w31 hbox hb; have BK206 := Aside0.mk (hbox); have GW206 := xsz hg; have GE206 := GW206; replace HB := xst hb; clear hb hbox hg; obtain ⟨hcz32_0, hcz32_1, hcz32_2, hcz32_3, hcz32_4, hcz32_5, hcz32_6, hcz32_7⟩ := xc8 BK206; have hfz32_0 := xf BK206 0; have hfz32_1 := xf BK206 1; have hfz32_2 := xf BK206 2; have hfz32_3 := xf BK206 3; have hfz32_4 := xf BK206 4; have hfz32_5 := xf BK206 5; have hfz32_6 := xf BK206 6; have hfz32_7 := xf BK206 7) | (go_at_call 43; (with_reducible refine (ip_Future.calls kj2 ji16 false _ A24.out).mono ?_); rintro e w33 ⟨rfl, hb⟩; replace BK206 := xbb (g := gb206) (o := .cells #[.int .u16 t197, .int .u16 t198, .int .u16 t199, .int .u16 t200, .int .u16 t201, .int .u16 t202, .int .u16 t203, .int .u16 t204] 72 (0, 0)) hb; replace HB := xst hb; (try clear hb)))
        go_ret
        exact ⟨by first | rfl | (simp [errW_none, errW_some] <;> first | rfl | (simp only [xp_isEmpty, bne, Bool.not_not]; done)) | (simp only [← hji13, ← hji16, ← hji16]; first | rfl | (simp [errW_none, errW_some] <;> rfl)) | (simp [*, errW_none, errW_some] <;> rfl), xbl⟩
     ·
      rw [if_neg c15] at H
      exact absurd H (by simp)
    ·
     rw [if_neg c14] at H
     exact absurd H (by simp)
   ·
    replace c12 := Bool.eq_false_iff.mpr c12
    subst c12
    rw [if_neg (show ¬ (false = true) by decide)] at H
    replace H := Option.bind_eq_some_iff.mp H
    obtain ⟨⟨t208, t209, t210, t211, t212⟩, A340, H⟩ := H
    try dsimp only at H
    have A34 := Aside0.mk A340
    clear A340
    by_cases c35 : t212 = true
    ·
     subst c35
     rw [if_pos rfl] at H
     obtain rfl := Option.some.inj H
     go_wp2_with (first | ((with_reducible refine gate_callee (f := 44) rfl ?_); refine xgl 44 Tryd.func44 #[.string a1] ?_; (with_reducible refine (ip_V4.calls kj2 a1 t208 t209 t210 t211 true _ ?side1 A34.out).mono ?_); (case side1 => first | (with_reducible exact hG) | exact GW_to hG xbl); rintro e w36 ⟨rfl, hb⟩; refine ⟨_, rfl, ?_⟩; replace HB := xst hb; (try clear hb)) | ((with_reducible refine gate_dst (N := 8) rfl ?_); refine xev 8 #[.int .u8 0, .int .u8 0, .int .u8 0, .int .u8 0] 75 ?_; intro gb213 hg w37 hbox hb; have BK213 := Aside0.mk (hbox); have GW213 := xsz hg; have GE213 := GW213; replace HB := xst hb; clear hb hbox hg; obtain ⟨hcz38_0, hcz38_1, hcz38_2, hcz38_3⟩ := xc4 BK213; have hfz38_0 := xf BK213 0; have hfz38_1 := xf BK213 1; have hfz38_2 := xf BK213 2; have hfz38_3 := xf BK213 3))
     go_ret
     exact ⟨xre, xbl⟩
    ·
     replace c35 := Bool.eq_false_iff.mpr c35
     subst c35
     rw [if_neg (show ¬ (false = true) by decide)] at H
     replace H := Option.bind_eq_some_iff.mp H
     obtain ⟨t214, A390, H⟩ := H
     try dsimp only at H
     have A39 := Aside0.mk A390
     clear A390
     by_cases c40 : t214 = true
     ·
      subst c40
      rw [if_pos rfl] at H
      obtain rfl := Option.some.inj H
      go_wp2_with (first | ((with_reducible refine gate_callee (f := 44) rfl ?_); refine xgl 44 Tryd.func44 #[.string a1] ?_; (with_reducible refine (ip_V4.calls kj2 a1 t208 t209 t210 t211 false _ ?side1 A34.out).mono ?_); (case side1 => first | (with_reducible exact hG) | exact GW_to hG xbl); rintro e w41 ⟨rfl, hb⟩; refine ⟨_, rfl, ?_⟩; replace HB := xst hb; (try clear hb)) | ((with_reducible refine gate_dst (N := 8) rfl ?_); refine xev 8 #[.int .u8 0, .int .u8 0, .int .u8 0, .int .u8 0] 75 ?_; intro gb213 hg w42 hbox hb; have BK213 := Aside0.mk (hbox); have GW213 := xsz hg; have GE213 := GW213; replace HB := xst hb; clear hb hbox hg; obtain ⟨hcz43_0, hcz43_1, hcz43_2, hcz43_3⟩ := xc4 BK213; have hfz43_0 := xf BK213 0; have hfz43_1 := xf BK213 1; have hfz43_2 := xf BK213 2; have hfz43_3 := xf BK213 3) | ((with_reducible refine gate_callee (f := 33) rfl ?_); refine xgl 50 Tryd.func33 #[.int .i64 2, .bool a0, .string a1] ?_; (with_reducible refine (lexis_All.calls kj2 2 a0 a1 true _ A39.out).mono ?_); rintro e w44 ⟨rfl, hb⟩; refine ⟨_, rfl, ?_⟩; replace BK213 := xbb (g := gb213) (o := .cells #[.int .u8 t208, .int .u8 t209, .int .u8 t210, .int .u8 t211] 75 (0, 0)) hb; replace HB := xst hb; (try clear hb)))
      go_ret
      exact ⟨xre, xbl⟩
     ·
      replace c40 := Bool.eq_false_iff.mpr c40
      subst c40
      rw [if_neg (show ¬ (false = true) by decide)] at H
      obtain rfl := Option.some.inj H
      go_wp2_with (first | ((with_reducible refine gate_callee (f := 44) rfl ?_); refine xgl 44 Tryd.func44 #[.string a1] ?_; (with_reducible refine (ip_V4.calls kj2 a1 t208 t209 t210 t211 false _ ?side1 A34.out).mono ?_); (case side1 => first | (with_reducible exact hG) | exact GW_to hG xbl); rintro e w45 ⟨rfl, hb⟩; refine ⟨_, rfl, ?_⟩; replace HB := xst hb; (try clear hb)) | ((with_reducible refine gate_dst (N := 8) rfl ?_); refine xev 8 #[.int .u8 0, .int .u8 0, .int .u8 0, .int .u8 0] 75 ?_; intro gb213 hg w46 hbox hb; have BK213 := Aside0.mk (hbox); have GW213 := xsz hg; have GE213 := GW213; replace HB := xst hb; clear hb hbox hg; obtain ⟨hcz47_0, hcz47_1, hcz47_2, hcz47_3⟩ := xc4 BK213; have hfz47_0 := xf BK213 0; have hfz47_1 := xf BK213 1; have hfz47_2 := xf BK213 2; have hfz47_3 := xf BK213 3) | ((with_reducible refine gate_callee (f := 33) rfl ?_); refine xgl 50 Tryd.func33 #[.int .i64 2, .bool a0, .string a1] ?_; (with_reducible refine (lexis_All.calls kj2 2 a0 a1 false _ A39.out).mono ?_); rintro e w48 ⟨rfl, hb⟩; refine ⟨_, rfl, ?_⟩; replace BK213 := xbb (g := gb213) (o := .cells #[.int .u8 t208, .int .u8 t209, .int .u8 t210, .int .u8 t211] 75 (0, 0)) hb; replace HB := xst hb; (try clear hb)))
      go_ret
      exact ⟨xre, xbl⟩
def seat_Right.j0 : Nat → Bool → Bool → Bool → ByteArray → ByteArray → Bool → ByteArray → Option (Bool)
  | 0, _, _, _, _, _, _, _ => none
  | k + 1, x0, x5, x216000, x216001, x216002, x216003, x216004 => if x5 = true then (some false) else ((ip_Host.f k x0 x216002).bind fun t217 => (if t217 = 0 then (some false) else (if x216003 = true then ((octet_Span.f k x216004 2).bind fun t218 => (some (t218 == (x216004.size : Int)))) else (some true))))
def seat_Right.f (k : Nat) (a0 : Bool) (a1_0 : Bool) (a1_1 : ByteArray) (a1_2 : ByteArray) (a1_3 : Bool) (a1_4 : ByteArray) : Option (Bool) := if a1_0 = true then ((lexis_All.f k 1 a0 a1_1).bind fun t216 => (seat_Right.j0 k a0 (!t216) a1_0 a1_1 a1_2 a1_3 a1_4)) else (seat_Right.j0 k a0 false a1_0 a1_1 a1_2 a1_3 a1_4)
theorem seat_Right.mono_l : ∀ k, (∀ y0 y1 y2 y3 y4 y5 y6, LeO (seat_Right.j0 k y0 y1 y2 y3 y4 y5 y6) (seat_Right.j0 (k + 1) y0 y1 y2 y3 y4 y5 y6))
  | 0 => fun _ _ _ _ _ _ _ r h => by simp [seat_Right.j0] at h
  | k + 1 => by
    have ih0 := seat_Right.mono_l k
    have m0 := @ip_Host.mono; have m1 := @lexis_All.mono; have m2 := @octet_Span.mono
    · intro y0 y1 y2 y3 y4 y5 y6
      unfold seat_Right.j0
      exact xmo
theorem seat_Right.mono : ∀ a0 a1 a2 a3 a4 a5 k, LeO (seat_Right.f k a0 a1 a2 a3 a4 a5) (seat_Right.f (k + 1) a0 a1 a2 a3 a4 a5) := by
  intro a0 a1 a2 a3 a4 a5 k
  have ih0 := seat_Right.mono_l k
  have m0 := @ip_Host.mono; have m1 := @lexis_All.mono; have m2 := @octet_Span.mono
  unfold seat_Right.f
  exact xmo
set_option maxHeartbeats 8000000 in
set_option maxRecDepth 100000 in
theorem seat_Right.calls (k : Nat) (a0 : Bool) (a1_0 : Bool) (a1_1 : ByteArray) (a1_2 : ByteArray) (a1_3 : Bool) (a1_4 : ByteArray) (r : Bool) (w : World) (hG : GW w) (h : seat_Right.f k a0 a1_0 a1_1 a1_2 a1_3 a1_4 = some r) :
    Calls Tryd.prog 26 #[.bool a0, .agg #[.bool a1_0, .string a1_1, .string a1_2, .bool a1_3, .string a1_4]] w fun e w' => e = .returned (.bool r) ∧ Below w.heap.size w w' := by
 have hu44 := Tryd.underlying44
 have HB := Aside0.mk (Below.refl w.heap.size w)
 have H : (if a1_0 = true then ((lexis_All.f k 1 a0 a1_1).bind fun t216 => (seat_Right.j0 k a0 (!t216) a1_0 a1_1 a1_2 a1_3 a1_4)) else (seat_Right.j0 k a0 false a1_0 a1_1 a1_2 a1_3 a1_4)) = some r := h
 clear h
 have HC3 := Aside0.mk H
 clear H
 go_enter Tryd.func26, Tryd.ntmps26
 go_upto_region 1 with (first | ((with_reducible refine gate_dst (N := 3) rfl ?_); (try (refine gate_guard (by rfl) ?_; dsimp only)); refine xev 3 #[.bool a1_0, .string a1_1, .string a1_2, .bool a1_3, .string a1_4] 44 ?_; intro gb215 hg w4 hbox hb; have BK215 := Aside0.mk (hbox); have GW215 := xsz hg; have GE215 := GW215; replace HB := xst hb; clear hb hbox hg))
 repeat (go_quiet (first | ((with_reducible refine gate_dst (N := 3) rfl ?_); (try (refine gate_guard (by rfl) ?_; dsimp only)); refine xev 3 #[.bool a1_0, .string a1_1, .string a1_2, .bool a1_3, .string a1_4] 44 ?_; intro gb215 hg w4 hbox hb; have BK215 := Aside0.mk (hbox); have GW215 := xsz hg; have GE215 := GW215; replace HB := xst hb; clear hb hbox hg)); go_upto_region 1 with (first | ((with_reducible refine gate_dst (N := 3) rfl ?_); (try (refine gate_guard (by rfl) ?_; dsimp only)); refine xev 3 #[.bool a1_0, .string a1_1, .string a1_2, .bool a1_3, .string a1_4] 44 ?_; intro gb215 hg w4 hbox hb; have BK215 := Aside0.mk (hbox); have GW215 := xsz hg; have GE215 := GW215; replace HB := xst hb; clear hb hbox hg)))
 (try simp only [Act.put, List.setIfInBounds_toArray, List.set_cons_zero, List.set_cons_succ])
 go_cut [5] (fun v5 wc => ∃ (kq : Nat) (x5_2 : Bool), v5 = .bool x5_2 ∧ Aside0 (seat_Right.j0 kq a0 x5_2 a1_0 a1_1 a1_2 a1_3 a1_4 = some r) ∧ Aside0 (kq ≤ k) ∧ Aside0 (wc.heap[gb215]? = some (.cells #[.bool a1_0, .string a1_1, .string a1_2, .bool a1_3, .string a1_4] 44 (0, 0))) ∧ Aside0 (Below w.heap.size w wc))
 case first =>
  have H := HC3.out
  clear HC3
  by_cases c5 : a1_0 = true
  ·
   subst c5
   rw [if_pos rfl] at H
   replace H := Option.bind_eq_some_iff.mp H
   obtain ⟨t216, A60, H⟩ := H
   try dsimp only at H
   have A6 := Aside0.mk A60
   clear A60
   have H' := Aside0.mk H
   clear H
   obtain ⟨hcz7_0, hcz7_1, hcz7_2, hcz7_3, hcz7_4⟩ := xc5 BK215
   have hfz7_0 := xf BK215 0
   have hfz7_1 := xf BK215 1
   have hfz7_2 := xf BK215 2
   have hfz7_3 := xf BK215 3
   have hfz7_4 := xf BK215 4
   go_wp2_with (first | (go_at_call 33; (with_reducible refine (lexis_All.calls k 1 a0 a1_1 t216 _ A6.out).mono ?_); rintro e w8 ⟨rfl, hb⟩; replace BK215 := xbb (g := gb215) (o := .cells #[.bool true, .string a1_1, .string a1_2, .bool a1_3, .string a1_4] 44 (0, 0)) hb; replace HB := xst hb; (try clear hb)))
   repeat (go_quiet (first | (go_at_call 33; (with_reducible refine (lexis_All.calls k 1 a0 a1_1 t216 _ A6.out).mono ?_); rintro e w8 ⟨rfl, hb⟩; replace BK215 := xbb (g := gb215) (o := .cells #[.bool true, .string a1_1, .string a1_2, .bool a1_3, .string a1_4] 44 (0, 0)) hb; replace HB := xst hb; (try clear hb))); try go_wp2_with (first | (go_at_call 33; (with_reducible refine (lexis_All.calls k 1 a0 a1_1 t216 _ A6.out).mono ?_); rintro e w8 ⟨rfl, hb⟩; replace BK215 := xbb (g := gb215) (o := .cells #[.bool true, .string a1_1, .string a1_2, .bool a1_3, .string a1_4] 44 (0, 0)) hb; replace HB := xst hb; (try clear hb))))
   go_meet
   case rel => exact ⟨_, (!t216), xrr, H', ⟨xom⟩, ⟨xbk⟩, ⟨xbl⟩⟩
  ·
   replace c5 := Bool.eq_false_iff.mpr c5
   subst c5
   rw [if_neg (show ¬ (false = true) by decide)] at H
   have H' := Aside0.mk H
   clear H
   obtain ⟨hcz9_0, hcz9_1, hcz9_2, hcz9_3, hcz9_4⟩ := xc5 BK215
   have hfz9_0 := xf BK215 0
   have hfz9_1 := xf BK215 1
   have hfz9_2 := xf BK215 2
   have hfz9_3 := xf BK215 3
   have hfz9_4 := xf BK215 4
   go_wp2
   repeat (go_quiet (fail); try go_wp2)
   go_meet
   case rel => exact ⟨_, (false), xrr, H', ⟨xom⟩, ⟨xbk⟩, ⟨xbl⟩⟩
 case rest =>
  clear HC3
  obtain ⟨kq, x5_2, rfl, HA, HJ2, BK215, HB⟩ := hcut
  cases kq with
  | zero => exact absurd HA.out (by simp [seat_Right.j0])
  | succ kj2 =>
   have H := HA.out
   clear HA
   simp only [seat_Right.j0] at H
   by_cases c10 : x5_2 = true
   ·
    subst c10
    rw [if_pos rfl] at H
    obtain rfl := Option.some.inj H
    go_wp2
    repeat (go_quiet (fail); try go_wp2)
    go_ret
    exact ⟨xre, xbl⟩
   ·
    replace c10 := Bool.eq_false_iff.mpr c10
    subst c10
    rw [if_neg (show ¬ (false = true) by decide)] at H
    replace H := Option.bind_eq_some_iff.mp H
    obtain ⟨t217, A110, H⟩ := H
    try dsimp only at H
    have A11 := Aside0.mk A110
    clear A110
    by_cases c12 : t217 = 0
    ·
     rw [if_pos c12] at H
     have c12b0 : (t217 == 0) = true := beq_iff_eq.mpr c12
     have c12b1 : (t217 != 0) = false := bne_eq_false_iff_eq.mpr c12
     clear c12
     obtain rfl := Option.some.inj H
     obtain ⟨hcz13_0, hcz13_1, hcz13_2, hcz13_3, hcz13_4⟩ := xc5 BK215
     have hfz13_0 := xf BK215 0
     have hfz13_1 := xf BK215 1
     have hfz13_2 := xf BK215 2
     have hfz13_3 := xf BK215 3
     have hfz13_4 := xf BK215 4
     go_wp2_with (first | (go_at_call 34; (with_reducible refine (ip_Host.calls kj2 a0 a1_2 t217 _ ?side1 A11.out).mono ?_); (case side1 => first | (with_reducible exact hG) | exact GW_to hG xbl); rintro e w14 ⟨rfl, hb⟩; replace BK215 := xbb (g := gb215) (o := .cells #[.bool a1_0, .string a1_1, .string a1_2, .bool a1_3, .string a1_4] 44 (0, 0)) hb; replace HB := xst hb; (try clear hb)))
     repeat (go_quiet (first | (go_at_call 34; (with_reducible refine (ip_Host.calls kj2 a0 a1_2 t217 _ ?side1 A11.out).mono ?_); (case side1 => first | (with_reducible exact hG) | exact GW_to hG xbl); rintro e w14 ⟨rfl, hb⟩; replace BK215 := xbb (g := gb215) (o := .cells #[.bool a1_0, .string a1_1, .string a1_2, .bool a1_3, .string a1_4] 44 (0, 0)) hb; replace HB := xst hb; (try clear hb))); try go_wp2_with (first | (go_at_call 34; (with_reducible refine (ip_Host.calls kj2 a0 a1_2 t217 _ ?side1 A11.out).mono ?_); (case side1 => first | (with_reducible exact hG) | exact GW_to hG xbl); rintro e w14 ⟨rfl, hb⟩; replace BK215 := xbb (g := gb215) (o := .cells #[.bool a1_0, .string a1_1, .string a1_2, .bool a1_3, .string a1_4] 44 (0, 0)) hb; replace HB := xst hb; (try clear hb))))
     go_ret
     exact ⟨xre, xbl⟩
    ·
     rw [if_neg c12] at H
     have c12b0 : (t217 == 0) = false := beq_eq_false_iff_ne.mpr c12
     have c12b1 : (t217 != 0) = true := bne_iff_ne.mpr c12
     by_cases c15 : a1_3 = true
     ·
      subst c15
      rw [if_pos rfl] at H
      replace H := Option.bind_eq_some_iff.mp H
      obtain ⟨t218, A160, H⟩ := H
      try dsimp only at H
      have A16 := Aside0.mk A160
      clear A160
      obtain rfl := Option.some.inj H
      obtain ⟨hcz17_0, hcz17_1, hcz17_2, hcz17_3, hcz17_4⟩ := xc5 BK215
      have hfz17_0 := xf BK215 0
      have hfz17_1 := xf BK215 1
      have hfz17_2 := xf BK215 2
      have hfz17_3 := xf BK215 3
      have hfz17_4 := xf BK215 4
      go_wp2_with (first | (go_at_call 34; (with_reducible refine (ip_Host.calls kj2 a0 a1_2 t217 _ ?side1 A11.out).mono ?_); (case side1 => first | (with_reducible exact hG) | exact GW_to hG xbl); rintro e w18 ⟨rfl, hb⟩; replace BK215 := xbb (g := gb215) (o := .cells #[.bool a1_0, .string a1_1, .string a1_2, .bool true, .string a1_4] 44 (0, 0)) hb; replace HB := xst hb; (try clear hb); obtain ⟨hcz19_0, hcz19_1, hcz19_2, hcz19_3, hcz19_4⟩ := xc5 BK215; have hfz19_0 := xf BK215 0; have hfz19_1 := xf BK215 1; have hfz19_2 := xf BK215 2; have hfz19_3 := xf BK215 3; have hfz19_4 := xf BK215 4) | (go_at_call 35; (with_reducible refine (octet_Span.calls kj2 a1_4 2 t218 _ A16.out).mono ?_); rintro e w' ⟨rfl, ⟨nd, rfl⟩⟩; (try first | exact ⟨rfl, _, World.drewN_drewN _ _ _⟩ | exact ⟨rfl, _, Eq.trans (World.drewN_drewN _ _ _) (congrArg (World.drewN _) (Nat.add_assoc _ _ _))⟩)))
      repeat (go_quiet (first | (go_at_call 34; (with_reducible refine (ip_Host.calls kj2 a0 a1_2 t217 _ ?side1 A11.out).mono ?_); (case side1 => first | (with_reducible exact hG) | exact GW_to hG xbl); rintro e w18 ⟨rfl, hb⟩; replace BK215 := xbb (g := gb215) (o := .cells #[.bool a1_0, .string a1_1, .string a1_2, .bool true, .string a1_4] 44 (0, 0)) hb; replace HB := xst hb; (try clear hb); obtain ⟨hcz19_0, hcz19_1, hcz19_2, hcz19_3, hcz19_4⟩ := xc5 BK215; have hfz19_0 := xf BK215 0; have hfz19_1 := xf BK215 1; have hfz19_2 := xf BK215 2; have hfz19_3 := xf BK215 3; have hfz19_4 := xf BK215 4) | (go_at_call 35; (with_reducible refine (octet_Span.calls kj2 a1_4 2 t218 _ A16.out).mono ?_); rintro e w' ⟨rfl, ⟨nd, rfl⟩⟩; (try first | exact ⟨rfl, _, World.drewN_drewN _ _ _⟩ | exact ⟨rfl, _, Eq.trans (World.drewN_drewN _ _ _) (congrArg (World.drewN _) (Nat.add_assoc _ _ _))⟩))); try go_wp2_with (first | (go_at_call 34; (with_reducible refine (ip_Host.calls kj2 a0 a1_2 t217 _ ?side1 A11.out).mono ?_); (case side1 => first | (with_reducible exact hG) | exact GW_to hG xbl); rintro e w18 ⟨rfl, hb⟩; replace BK215 := xbb (g := gb215) (o := .cells #[.bool a1_0, .string a1_1, .string a1_2, .bool true, .string a1_4] 44 (0, 0)) hb; replace HB := xst hb; (try clear hb); obtain ⟨hcz19_0, hcz19_1, hcz19_2, hcz19_3, hcz19_4⟩ := xc5 BK215; have hfz19_0 := xf BK215 0; have hfz19_1 := xf BK215 1; have hfz19_2 := xf BK215 2; have hfz19_3 := xf BK215 3; have hfz19_4 := xf BK215 4) | (go_at_call 35; (with_reducible refine (octet_Span.calls kj2 a1_4 2 t218 _ A16.out).mono ?_); rintro e w' ⟨rfl, ⟨nd, rfl⟩⟩; (try first | exact ⟨rfl, _, World.drewN_drewN _ _ _⟩ | exact ⟨rfl, _, Eq.trans (World.drewN_drewN _ _ _) (congrArg (World.drewN _) (Nat.add_assoc _ _ _))⟩))))
      go_ret
      exact ⟨xre, xbl⟩
     ·
      replace c15 := Bool.eq_false_iff.mpr c15
      subst c15
      rw [if_neg (show ¬ (false = true) by decide)] at H
      obtain rfl := Option.some.inj H
      obtain ⟨hcz20_0, hcz20_1, hcz20_2, hcz20_3, hcz20_4⟩ := xc5 BK215
      have hfz20_0 := xf BK215 0
      have hfz20_1 := xf BK215 1
      have hfz20_2 := xf BK215 2
      have hfz20_3 := xf BK215 3
      have hfz20_4 := xf BK215 4
      go_wp2_with (first | (go_at_call 34; (with_reducible refine (ip_Host.calls kj2 a0 a1_2 t217 _ ?side1 A11.out).mono ?_); (case side1 => first | (with_reducible exact hG) | exact GW_to hG xbl); rintro e w21 ⟨rfl, hb⟩; replace BK215 := xbb (g := gb215) (o := .cells #[.bool a1_0, .string a1_1, .string a1_2, .bool false, .string a1_4] 44 (0, 0)) hb; replace HB := xst hb; (try clear hb); obtain ⟨hcz22_0, hcz22_1, hcz22_2, hcz22_3, hcz22_4⟩ := xc5 BK215; have hfz22_0 := xf BK215 0; have hfz22_1 := xf BK215 1; have hfz22_2 := xf BK215 2; have hfz22_3 := xf BK215 3; have hfz22_4 := xf BK215 4))
      repeat (go_quiet (first | (go_at_call 34; (with_reducible refine (ip_Host.calls kj2 a0 a1_2 t217 _ ?side1 A11.out).mono ?_); (case side1 => first | (with_reducible exact hG) | exact GW_to hG xbl); rintro e w21 ⟨rfl, hb⟩; replace BK215 := xbb (g := gb215) (o := .cells #[.bool a1_0, .string a1_1, .string a1_2, .bool false, .string a1_4] 44 (0, 0)) hb; replace HB := xst hb; (try clear hb); obtain ⟨hcz22_0, hcz22_1, hcz22_2, hcz22_3, hcz22_4⟩ := xc5 BK215; have hfz22_0 := xf BK215 0; have hfz22_1 := xf BK215 1; have hfz22_2 := xf BK215 2; have hfz22_3 := xf BK215 3; have hfz22_4 := xf BK215 4)); try go_wp2_with (first | (go_at_call 34; (with_reducible refine (ip_Host.calls kj2 a0 a1_2 t217 _ ?side1 A11.out).mono ?_); (case side1 => first | (with_reducible exact hG) | exact GW_to hG xbl); rintro e w21 ⟨rfl, hb⟩; replace BK215 := xbb (g := gb215) (o := .cells #[.bool a1_0, .string a1_1, .string a1_2, .bool false, .string a1_4] 44 (0, 0)) hb; replace HB := xst hb; (try clear hb); obtain ⟨hcz22_0, hcz22_1, hcz22_2, hcz22_3, hcz22_4⟩ := xc5 BK215; have hfz22_0 := xf BK215 0; have hfz22_1 := xf BK215 1; have hfz22_2 := xf BK215 2; have hfz22_3 := xf BK215 3; have hfz22_4 := xf BK215 4)))
      go_ret
      exact ⟨xre, xbl⟩
def seat_Parse.f (k : Nat) (a0 : Bool) (a1 : ByteArray) : Option (Bool × ByteArray × ByteArray × Bool × ByteArray × Bool) := (seat_Part.f k a1).bind fun bt220 => ((seat_Right.f k a0 bt220.1 bt220.2.1 bt220.2.2.1 bt220.2.2.2.1 bt220.2.2.2.2).bind fun t226 => (if t226 = true then (some (bt220.1, bt220.2.1, bt220.2.2.1, bt220.2.2.2.1, bt220.2.2.2.2, true)) else (some (false, (⟨#[]⟩ : ByteArray), (⟨#[]⟩ : ByteArray), false, (⟨#[]⟩ : ByteArray), false))))
theorem seat_Parse.mono : ∀ a0 a1 k, LeO (seat_Parse.f k a0 a1) (seat_Parse.f (k + 1) a0 a1) := by
  intro a0 a1 k
  have m0 := @seat_Part.mono; have m1 := @seat_Right.mono
  unfold seat_Parse.f
  exact xmo
set_option maxHeartbeats 8000000 in
set_option maxRecDepth 100000 in
theorem seat_Parse.calls (k : Nat) (a0 : Bool) (a1 : ByteArray) (r1 : Bool) (r2 : ByteArray) (r3 : ByteArray) (r4 : Bool) (r5 : ByteArray) (r6 : Bool) (w : World) (hG : GW w) (h : seat_Parse.f k a0 a1 = some (r1, r2, r3, r4, r5, r6)) :
    Calls Tryd.prog 20 #[.bool a0, .string a1] w fun e w' => e = .returned (.tuple #[.agg #[.bool r1, .string r2, .string r3, .bool r4, .string r5], .bool r6]) ∧ Below w.heap.size w w' := by
 have hu44 := Tryd.underlying44
 have HB := Aside0.mk (Below.refl w.heap.size w)
 have H : ((seat_Part.f k a1).bind fun bt220 => ((seat_Right.f k a0 bt220.1 bt220.2.1 bt220.2.2.1 bt220.2.2.2.1 bt220.2.2.2.2).bind fun t226 => (if t226 = true then (some (bt220.1, bt220.2.1, bt220.2.2.1, bt220.2.2.2.1, bt220.2.2.2.2, true)) else (some (false, (⟨#[]⟩ : ByteArray), (⟨#[]⟩ : ByteArray), false, (⟨#[]⟩ : ByteArray), false))))) = some (r1, r2, r3, r4, r5, r6) := h
 clear h
 replace H := Option.bind_eq_some_iff.mp H
 obtain ⟨⟨t220, t221, t222, t223, t224⟩, A30, H⟩ := H
 try dsimp only at H
 have A3 := Aside0.mk A30
 clear A30
 replace H := Option.bind_eq_some_iff.mp H
 obtain ⟨t226, A40, H⟩ := H
 try dsimp only at H
 have A4 := Aside0.mk A40
 clear A40
 by_cases c5 : t226 = true
 ·
  subst c5
  rw [if_pos rfl] at H
  simp only [Option.some.injEq, Prod.mk.injEq] at H
  obtain ⟨rfl, rfl, rfl, rfl, rfl, rfl⟩ := H
  go_enter Tryd.func20, Tryd.ntmps20
  go_wp2_with (first | ((with_reducible refine gate_dst (N := 4) rfl ?_); refine xev 4 #[.bool false, .string (⟨#[]⟩ : ByteArray), .string (⟨#[]⟩ : ByteArray), .bool false, .string (⟨#[]⟩ : ByteArray)] 44 ?_; intro gb219 hg w6 hbox hb; have BK219 := Aside0.mk (hbox); have GW219 := xsz hg; have GE219 := GW219; replace HB := xst hb; clear hb hbox hg) | ((with_reducible refine gate_callee (f := 25) rfl ?_); refine xgl 8 Tryd.func25 #[.string a1] ?_; (with_reducible refine (seat_Part.calls k a1 t220 t221 t222 t223 t224 _ A3.out).mono ?_); rintro e w7 ⟨rfl, hb⟩; refine ⟨_, rfl, ?_⟩; replace BK219 := xbb (g := gb219) (o := .cells #[.bool false, .string (⟨#[]⟩ : ByteArray), .string (⟨#[]⟩ : ByteArray), .bool false, .string (⟨#[]⟩ : ByteArray)] 44 (0, 0)) hb; replace HB := xst hb; (try clear hb)) | ((with_reducible refine gate_dst (N := 6) rfl ?_); refine xev 6 #[.bool false, .string (⟨#[]⟩ : ByteArray), .string (⟨#[]⟩ : ByteArray), .bool false, .string (⟨#[]⟩ : ByteArray)] 44 ?_; intro gb225 hg w8 hbox hb; have BK225 := Aside0.mk (hbox); have GW225 := xsz hg; have GE225 := GW225; have NB219_225 := xlt (g := gb219) hg; have NB225_219 := xgt (g := gb219) hg; replace BK219 := xbb (g := gb219) (o := .cells #[.bool false, .string (⟨#[]⟩ : ByteArray), .string (⟨#[]⟩ : ByteArray), .bool false, .string (⟨#[]⟩ : ByteArray)] 44 (0, 0)) hb; replace HB := xst hb; clear hb hbox hg; have hnb9 := NB225_219.out; have hnc9 := NB219_225.out; obtain ⟨hcz10_0, hcz10_1, hcz10_2, hcz10_3, hcz10_4⟩ := xc5 BK225; have hfz10_0 := xf BK225 0; have hfz10_1 := xf BK225 1; have hfz10_2 := xf BK225 2; have hfz10_3 := xf BK225 3; have hfz10_4 := xf BK225 4) | ((with_reducible refine gate_callee (f := 26) rfl ?_); refine xgl 11 Tryd.func26 #[.bool a0, .agg #[.bool t220, .string t221, .string t222, .bool t223, .string t224]] ?_; (with_reducible refine (seat_Right.calls k a0 t220 t221 t222 t223 t224 true _ ?side1 A4.out).mono ?_); (case side1 => first | (with_reducible exact hG) | exact GW_to hG xbl); rintro e w11 ⟨rfl, hb⟩; refine ⟨_, rfl, ?_⟩; replace BK219 := xbb (g := gb219) (o := .cells #[.bool false, .string (⟨#[]⟩ : ByteArray), .string (⟨#[]⟩ : ByteArray), .bool false, .string (⟨#[]⟩ : ByteArray)] 44 (0, 0)) hb; replace BK225 := xbb (g := gb225) (o := .cells #[.bool t220, .string t221, .string t222, .bool t223, .string t224] 44 (0, 0)) hb; replace HB := xst hb; (try clear hb); obtain ⟨hcz12_0, hcz12_1, hcz12_2, hcz12_3, hcz12_4⟩ := xc5 BK225; have hfz12_0 := xf BK225 0; have hfz12_1 := xf BK225 1; have hfz12_2 := xf BK225 2; have hfz12_3 := xf BK225 3; have hfz12_4 := xf BK225 4; obtain ⟨hcz13_0, hcz13_1, hcz13_2, hcz13_3, hcz13_4⟩ := xc5 BK219; have hfz13_0 := xf BK219 0; have hfz13_1 := xf BK219 1; have hfz13_2 := xf BK219 2; have hfz13_3 := xf BK219 3; have hfz13_4 := xf BK219 4))
  refine bodyPost_ret (results_ct rfl _ _ gb219 44 #[.bool t220, .string t221, .string t222, .bool t223, .string t224] (0, 0) _ rfl xbk Tryd.underlying44 rfl (by kernel_rfl)) rfl ?_
  exact ⟨xre, xbl⟩
 ·
  replace c5 := Bool.eq_false_iff.mpr c5
  subst c5
  rw [if_neg (show ¬ (false = true) by decide)] at H
  simp only [Option.some.injEq, Prod.mk.injEq] at H
  obtain ⟨rfl, rfl, rfl, rfl, rfl, rfl⟩ := H
  go_enter Tryd.func20, Tryd.ntmps20
  go_wp2_with (first | ((with_reducible refine gate_dst (N := 4) rfl ?_); refine xev 4 #[.bool false, .string (⟨#[]⟩ : ByteArray), .string (⟨#[]⟩ : ByteArray), .bool false, .string (⟨#[]⟩ : ByteArray)] 44 ?_; intro gb219 hg w14 hbox hb; have BK219 := Aside0.mk (hbox); have GW219 := xsz hg; have GE219 := GW219; replace HB := xst hb; clear hb hbox hg) | ((with_reducible refine gate_callee (f := 25) rfl ?_); refine xgl 8 Tryd.func25 #[.string a1] ?_; (with_reducible refine (seat_Part.calls k a1 t220 t221 t222 t223 t224 _ A3.out).mono ?_); rintro e w15 ⟨rfl, hb⟩; refine ⟨_, rfl, ?_⟩; replace BK219 := xbb (g := gb219) (o := .cells #[.bool false, .string (⟨#[]⟩ : ByteArray), .string (⟨#[]⟩ : ByteArray), .bool false, .string (⟨#[]⟩ : ByteArray)] 44 (0, 0)) hb; replace HB := xst hb; (try clear hb)) | ((with_reducible refine gate_dst (N := 6) rfl ?_); refine xev 6 #[.bool false, .string (⟨#[]⟩ : ByteArray), .string (⟨#[]⟩ : ByteArray), .bool false, .string (⟨#[]⟩ : ByteArray)] 44 ?_; intro gb225 hg w16 hbox hb; have BK225 := Aside0.mk (hbox); have GW225 := xsz hg; have GE225 := GW225; have NB219_225 := xlt (g := gb219) hg; have NB225_219 := xgt (g := gb219) hg; replace BK219 := xbb (g := gb219) (o := .cells #[.bool false, .string (⟨#[]⟩ : ByteArray), .string (⟨#[]⟩ : ByteArray), .bool false, .string (⟨#[]⟩ : ByteArray)] 44 (0, 0)) hb; replace HB := xst hb; clear hb hbox hg; have hnb17 := NB225_219.out; have hnc17 := NB219_225.out; obtain ⟨hcz18_0, hcz18_1, hcz18_2, hcz18_3, hcz18_4⟩ := xc5 BK225; have hfz18_0 := xf BK225 0; have hfz18_1 := xf BK225 1; have hfz18_2 := xf BK225 2; have hfz18_3 := xf BK225 3; have hfz18_4 := xf BK225 4) | ((with_reducible refine gate_callee (f := 26) rfl ?_); refine xgl 11 Tryd.func26 #[.bool a0, .agg #[.bool t220, .string t221, .string t222, .bool t223, .string t224]] ?_; (with_reducible refine (seat_Right.calls k a0 t220 t221 t222 t223 t224 false _ ?side1 A4.out).mono ?_); (case side1 => first | (with_reducible exact hG) | exact GW_to hG xbl); rintro e w19 ⟨rfl, hb⟩; refine ⟨_, rfl, ?_⟩; replace BK219 := xbb (g := gb219) (o := .cells #[.bool false, .string (⟨#[]⟩ : ByteArray), .string (⟨#[]⟩ : ByteArray), .bool false, .string (⟨#[]⟩ : ByteArray)] 44 (0, 0)) hb; replace BK225 := xbb (g := gb225) (o := .cells #[.bool t220, .string t221, .string t222, .bool t223, .string t224] 44 (0, 0)) hb; replace HB := xst hb; (try clear hb); obtain ⟨hcz20_0, hcz20_1, hcz20_2, hcz20_3, hcz20_4⟩ := xc5 BK219; have hfz20_0 := xf BK219 0; have hfz20_1 := xf BK219 1; have hfz20_2 := xf BK219 2; have hfz20_3 := xf BK219 3; have hfz20_4 := xf BK219 4))
  refine bodyPost_ret (results_ct rfl _ _ gb219 44 #[.bool false, .string (⟨#[]⟩ : ByteArray), .string (⟨#[]⟩ : ByteArray), .bool false, .string (⟨#[]⟩ : ByteArray)] (0, 0) _ rfl xbk Tryd.underlying44 rfl (by kernel_rfl)) rfl ?_
  exact ⟨xre, xbl⟩
end Go.Proofs.YtpmflpeckoeooaaDoor.X
