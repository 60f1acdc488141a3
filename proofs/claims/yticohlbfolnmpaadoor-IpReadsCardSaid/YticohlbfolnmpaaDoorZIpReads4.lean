/- Texts that the law's proof needs, joined by a program of this session. -/
import Derived.Test.YticohlbfolnmpaaDoorZIpReads1
import Derived.Test.YticohlbfolnmpaaDoorZIpReads2
import Derived.Test.YticohlbfolnmpaaDoorZIpReads3
namespace Go.Proofs.YticohlbfolnmpaaDoor.X
open Go.RowKit Go.Proofs.YticohlbfolnmpaaDoorW.PrintWords Go.Proofs.YticohlbfolnmpaaDoorW.PrintLast Go.Proofs.YticohlbfolnmpaaDoorW.PrintMore
attribute [local go_sem] max2_int min2_int max_two min_two max_three min_three max_four min_four
set_option linter.unusedVariables false
set_option linter.unusedSimpArgs false
mutual
def octet_Find.l0 : Nat → ByteArray → ByteArray → Int → Option (Int)
  | 0, _, _, _ => none
  | k + 1, x0, x2, x7 => if x7 < (x0.size : Int) then (octet_Find.l1 k x0 x2 x7 (x2.size : Int) 0) else (some (-1))
def octet_Find.l1 : Nat → ByteArray → ByteArray → Int → Int → Int → Option (Int)
  | 0, _, _, _, _, _ => none
  | k + 1, x0, x2, x7, x18, x19 => if x19 < x18 then (if 0 ≤ x7 then (if x7 < (x0.size : Int) then (if 0 ≤ x19 then (if x19 < (x2.size : Int) then (if (bt x0 x7) = (bt x2 x19) then (some x7) else (octet_Find.l1 k x0 x2 x7 x18 (wrap64 (x19 + 1)))) else (none)) else (none)) else (none)) else (none)) else (octet_Find.l0 k x0 x2 (wrap64 (x7 + 1)))
end
def octet_Find.f (k : Nat) (a0 : ByteArray) (a1 : Int) (a2 : ByteArray) : Option (Int) := octet_Find.l0 k a0 a2 (mx a1 0)
theorem octet_Find.mono_l : ∀ k, (∀ y0 y1 y2, LeO (octet_Find.l0 k y0 y1 y2) (octet_Find.l0 (k + 1) y0 y1 y2)) ∧ (∀ y0 y1 y2 y3 y4, LeO (octet_Find.l1 k y0 y1 y2 y3 y4) (octet_Find.l1 (k + 1) y0 y1 y2 y3 y4))
  | 0 => ⟨fun _ _ _ r h => by simp [octet_Find.l0] at h, fun _ _ _ _ _ r h => by simp [octet_Find.l1] at h⟩
  | k + 1 => by
    obtain ⟨ih0, ih1⟩ := octet_Find.mono_l k
    refine ⟨?_, ?_⟩
    · intro y0 y1 y2
      unfold octet_Find.l0
      exact xmo
    · intro y0 y1 y2 y3 y4
      unfold octet_Find.l1
      exact xmo
theorem octet_Find.mono : ∀ a0 a1 a2 k, LeO (octet_Find.f k a0 a1 a2) (octet_Find.f (k + 1) a0 a1 a2) := by
  intro a0 a1 a2 k
  obtain ⟨ih0, ih1⟩ := octet_Find.mono_l k
  unfold octet_Find.f
  exact xmo
set_option maxHeartbeats 8000000 in
set_option maxRecDepth 100000 in
theorem octet_Find.calls (k : Nat) (a0 : ByteArray) (a1 : Int) (a2 : ByteArray) (r : Int) (w : World) (h : octet_Find.f k a0 a1 a2 = some r) :
    Calls Tryd.prog 45 #[.string a0, .int .i64 a1, .string a2] w fun e w' => e = .returned (.int .i64 r) ∧ Below w.heap.size w w' := by
 have HB := Aside0.mk (Below.refl w.heap.size w)
 have H : (octet_Find.l0 k a0 a2 (mx a1 0)) = some r := h
 clear h
 obtain ⟨ji4, hji4⟩ : ∃ j_ : Int, (mx a1 0) = j_ := ⟨_, rfl⟩
 first | rw [hji4] at H | simp only [hji4] at H | skip
 (try (have hji4l : 0 ≤ ji4 := by (rw [← hji4]; unfold mx; (repeat' split) <;> omega)))
 (try (have hji4m : 0 ≤ ji4 := by omega))
 have hji4_ : (if a1 < 0 then 0 else a1) = ji4 := hji4
 have H' := Aside0.mk H
 clear H
 go_enter Tryd.func45, Tryd.ntmps45
 go_wp2
 repeat (go_quiet (fail); try go_wp2)
 go_loopg [7] k (fun kq v7 w' => ∃ (x7_1 : Int), v7 = .int .i64 x7_1 ∧ Aside0 (octet_Find.l0 kq a0 a2 x7_1 = some r) ∧ Aside0 (kq ≤ k) ∧ Aside0 (Below w.heap.size w w'))
 case atStart => exact ⟨(ji4), (by first | rfl | (simp; done) | (simp only [← hji4] <;> (first | rfl | simp)) | (simp [*]; done) | (simp [wrap64]; done)), H', ⟨Nat.le_refl _⟩, ⟨xbl⟩⟩
 case round =>
  clear H'
  obtain ⟨x7_1, rfl, HA, HK1, HB⟩ := hrel
  cases gk with
  | zero => exact absurd HA.out (by simp [octet_Find.l0])
  | succ k1 =>
   have H := HA.out
   clear HA
   simp only [octet_Find.l0] at H
   by_cases c5 : x7_1 < (a0.size : Int)
   ·
    rw [if_pos c5] at H
    have c5b0 := decide_eq_true c5
    clear c5
    have H' := Aside0.mk H
    clear H
    go_wp2
    repeat (go_quiet (fail); try go_wp2)
    go_loopg [19] k1 (fun kq v19 w' => ∃ (x19_2 : Int), v19 = .int .i64 x19_2 ∧ Aside0 (octet_Find.l1 kq a0 a2 x7_1 (a2.size : Int) x19_2 = some r) ∧ Aside0 (kq ≤ k1) ∧ Aside0 (Below w.heap.size w w'))
    case atStart => exact ⟨(0), xrr, H', ⟨Nat.le_refl _⟩, ⟨xbl⟩⟩
    case round =>
     clear H'
     clear c5b0
     obtain ⟨x19_2, rfl, HA, HK2, HB⟩ := hrel
     cases gk with
     | zero => exact absurd HA.out (by simp [octet_Find.l1])
     | succ k2 =>
      have H := HA.out
      clear HA
      simp only [octet_Find.l1] at H
      by_cases c6 : x19_2 < (a2.size : Int)
      ·
       rw [if_pos c6] at H
       have c6b0 := decide_eq_true c6
       clear c6
       by_cases c7 : 0 ≤ x7_1
       ·
        rw [if_pos c7] at H
        have c7b0 := decide_eq_true c7
        clear c7
        by_cases c8 : x7_1 < (a0.size : Int)
        ·
         rw [if_pos c8] at H
         have c8b0 := decide_eq_true c8
         clear c8
         by_cases c10 : 0 ≤ x19_2
         ·
          rw [if_pos c10] at H
          have c10b0 := decide_eq_true c10
          clear c10
          by_cases c11 : x19_2 < (a2.size : Int)
          ·
           rw [if_pos c11] at H
           have c11b0 := decide_eq_true c11
           clear c11
           by_cases c13 : (bt a0 x7_1) = (bt a2 x19_2)
           ·
            rw [if_pos c13] at H
            have c13b0 : ((bt a0 x7_1) == (bt a2 x19_2)) = true := beq_iff_eq.mpr c13
            have c13b1 : ((bt a0 x7_1) != (bt a2 x19_2)) = false := bne_eq_false_iff_eq.mpr c13
            clear c13
            obtain rfl := Option.some.inj H
            have p9 : 0 ≤ (x7_1 : Int) := xod
            have q9 : x7_1 < (a0.size : Int) := xod
            have hx9 := bt_at a0 x7_1
            replace p9 := eq_true p9
            replace q9 := eq_true q9
            try (have q9x := q9; simp only [ByteArray.size_extract, Nat.min_self] at q9x)
            have p12 : 0 ≤ (x19_2 : Int) := xod
            have q12 : x19_2 < (a2.size : Int) := xod
            have hx12 := bt_at a2 x19_2
            replace p12 := eq_true p12
            replace q12 := eq_true q12
            try (have q12x := q12; simp only [ByteArray.size_extract, Nat.min_self] at q12x)
            go_wp2
            repeat (go_quiet (fail); try go_wp2)
            go_ret
            exact ⟨by first | rfl | (simp [errW_none, errW_some] <;> first | rfl | (simp only [xp_isEmpty, bne, Bool.not_not]; done)) | (simp only [← hji4]; first | rfl | (simp [errW_none, errW_some] <;> rfl)) | (simp [*, errW_none, errW_some] <;> rfl), xbl⟩
           ·
            rw [if_neg c13] at H
            have c13b0 : ((bt a0 x7_1) == (bt a2 x19_2)) = false := beq_eq_false_iff_ne.mpr c13
            have c13b1 : ((bt a0 x7_1) != (bt a2 x19_2)) = true := bne_iff_ne.mpr c13
            have H' := Aside0.mk H
            clear H
            have p9 : 0 ≤ (x7_1 : Int) := xod
            have q9 : x7_1 < (a0.size : Int) := xod
            have hx9 := bt_at a0 x7_1
            replace p9 := eq_true p9
            replace q9 := eq_true q9
            try (have q9x := q9; simp only [ByteArray.size_extract, Nat.min_self] at q9x)
            have p12 : 0 ≤ (x19_2 : Int) := xod
            have q12 : x19_2 < (a2.size : Int) := xod
            have hx12 := bt_at a2 x19_2
            replace p12 := eq_true p12
            replace q12 := eq_true q12
            try (have q12x := q12; simp only [ByteArray.size_extract, Nat.min_self] at q12x)
            go_wp2
            repeat (go_quiet (fail); try go_wp2)
            go_roundg k2
            case measure => have := HK1.out; have := HK2.out; omega
            case rel => exact ⟨(wrap64 (x19_2 + 1)), xrr, H', ⟨by have := HK1.out; have := HK2.out; omega⟩, ⟨xbl⟩⟩
          ·
           rw [if_neg c11] at H
           exact absurd H (by simp)
         ·
          rw [if_neg c10] at H
          exact absurd H (by simp)
        ·
         rw [if_neg c8] at H
         exact absurd H (by simp)
       ·
        rw [if_neg c7] at H
        exact absurd H (by simp)
      ·
       rw [if_neg c6] at H
       have c6b0 := decide_eq_false c6
       clear c6
       have H' := Aside0.mk H
       clear H
       go_wp2
       repeat (go_quiet (fail); try go_wp2)
       go_roundg k2
       case measure => have := HK1.out; have := HK2.out; omega
       case rel => exact ⟨(wrap64 (x7_1 + 1)), xrr, H', ⟨by have := HK1.out; have := HK2.out; omega⟩, ⟨xbl⟩⟩
   ·
    rw [if_neg c5] at H
    have c5b0 := decide_eq_false c5
    clear c5
    obtain rfl := Option.some.inj H
    go_wp2
    repeat (go_quiet (fail); try go_wp2)
    go_ret
    exact ⟨by first | rfl | (simp [errW_none, errW_some] <;> first | rfl | (simp only [xp_isEmpty, bne, Bool.not_not]; done)) | (simp only [← hji4]; first | rfl | (simp [errW_none, errW_some] <;> rfl)) | (simp [*, errW_none, errW_some] <;> rfl), xbl⟩
def lexis_Plain.f (k : Nat) (a0 : Int) (a1 : Int) : Option (Bool) := (lexis_extra.f a0).bind fun bt143 => (if bt143.2 = true then ((octet_Is.f k a1 15).bind fun t145 => (if t145 = true then (some true) else ((octet_Find.f k bt143.1 0 (strOfNums (([a1] : List Int)))).bind fun t149 => (some (decide (t149 ≥ 0)))))) else (some false))
theorem lexis_Plain.mono : ∀ a0 a1 k, LeO (lexis_Plain.f k a0 a1) (lexis_Plain.f (k + 1) a0 a1) := by
  intro a0 a1 k
  have m0 := @octet_Find.mono; have m1 := @octet_Is.mono
  unfold lexis_Plain.f
  exact xmo
set_option maxHeartbeats 8000000 in
set_option maxRecDepth 100000 in
theorem lexis_Plain.calls (k : Nat) (a0 : Int) (a1 : Int) (r : Bool) (w : World) (h : lexis_Plain.f k a0 a1 = some r) :
    Calls Tryd.prog 28 #[.int .i64 a0, .int .u8 a1] w fun e w' => e = .returned (.bool r) ∧ Below w.heap.size w w' := by
 have HB := Aside0.mk (Below.refl w.heap.size w)
 have H : ((lexis_extra.f a0).bind fun bt143 => (if bt143.2 = true then ((octet_Is.f k a1 15).bind fun t145 => (if t145 = true then (some true) else ((octet_Find.f k bt143.1 0 (strOfNums (([a1] : List Int)))).bind fun t149 => (some (decide (t149 ≥ 0)))))) else (some false))) = some r := h
 clear h
 replace H := Option.bind_eq_some_iff.mp H
 obtain ⟨⟨t143, t144⟩, A30, H⟩ := H
 try dsimp only at H
 have A3 := Aside0.mk A30
 clear A30
 by_cases c4 : t144 = true
 ·
  subst c4
  rw [if_pos rfl] at H
  replace H := Option.bind_eq_some_iff.mp H
  obtain ⟨t145, A50, H⟩ := H
  try dsimp only at H
  have A5 := Aside0.mk A50
  clear A50
  by_cases c6 : t145 = true
  ·
   subst c6
   rw [if_pos rfl] at H
   obtain rfl := Option.some.inj H
   go_enter Tryd.func28, Tryd.ntmps28
   go_wp2_with (first | ((with_reducible refine gate_callee (f := 44) rfl ?_); refine xgl 9 Tryd.func44 #[.int .i64 a0] ?_; (with_reducible refine (lexis_extra.calls a0 t143 true _ A3.out).mono ?_); rintro e w' ⟨rfl, ⟨nd, rfl⟩⟩; refine ⟨_, rfl, ?_⟩) | ((with_reducible refine gate_callee (f := 40) rfl ?_); refine xgl 15 Tryd.func40 #[.int .u8 a1, .int .i64 15] ?_; (with_reducible refine (octet_Is.calls k a1 15 true _ A5.out).mono ?_); rintro e w' ⟨rfl, ⟨nd, rfl⟩⟩; refine ⟨_, rfl, ?_⟩))
   go_ret
   exact ⟨xre, xbl⟩
  ·
   replace c6 := Bool.eq_false_iff.mpr c6
   subst c6
   rw [if_neg (show ¬ (false = true) by decide)] at H
   obtain ⟨y146, hy146⟩ : ∃ y_ : List Int, y_ = (([a1] : List Int)) := ⟨_, rfl⟩
   replace H : ((octet_Find.f k t143 0 (strOfNums y146)).bind fun t149 => (some (decide (t149 ≥ 0)))) = some r := by first | (rw [hy146]; with_reducible exact H) | (have H2_ := (Option.bind_some _ _).symm.trans H; rw [hy146]; with_reducible exact H2_) | (have H2_ := (Option.bind_some _ _).symm.trans H; with_reducible exact H2_) | with_reducible exact H | (rw [hy146]; exact H) | exact H
   have Ny146 := Aside0.mk hy146
   clear hy146
   replace H := Option.bind_eq_some_iff.mp H
   obtain ⟨t149, A70, H⟩ := H
   try dsimp only at H
   have A7 := Aside0.mk A70
   clear A70
   obtain rfl := Option.some.inj H
   go_enter Tryd.func28, Tryd.ntmps28
   go_wp2_with (first | ((with_reducible refine gate_callee (f := 44) rfl ?_); refine xgl 9 Tryd.func44 #[.int .i64 a0] ?_; (with_reducible refine (lexis_extra.calls a0 t143 true _ A3.out).mono ?_); rintro e w' ⟨rfl, ⟨nd, rfl⟩⟩; refine ⟨_, rfl, ?_⟩) | ((with_reducible refine gate_callee (f := 40) rfl ?_); refine xgl 15 Tryd.func40 #[.int .u8 a1, .int .i64 15] ?_; (with_reducible refine (octet_Is.calls k a1 15 false _ A5.out).mono ?_); rintro e w' ⟨rfl, ⟨nd, rfl⟩⟩; refine ⟨_, rfl, ?_⟩) | ((with_reducible refine gate_dst (N := 19) rfl ?_); (try (refine gate_guard (by rfl) ?_; dsimp only)); refine Kd.R_lit (Kd.int .u8) _ 5 ?hg (N := 19) ?hd (xs := ([a1] : List Int)) (inner := [.int .u8 a1]) (ok := fun _ => True) (okp := fun _ => True) ?hr ?hp (fun _ hk => hk) trivial (Below.refl _ _) (Nat.le_refl _) (by simp) ?_; (case hd => rfl); (case hg => rfl); (case hr => first | (go_simp; done) | (go_simp; rfl)); (case hp => exact (Reps.one (show Kd.M (Kd.int .u8) _ _ _ a1 [.int .u8 a1] from rfl) (Reps.none _ _))); intro v147 w8 ho9 hb hg_ hnew_; clear hg_ hnew_; (first | rw [← Ny146.out] at ho9 | (simp only [Int.reduceToNat] at ho9; rw [← Ny146.out] at ho9)); have HO148 := Aside0.mk (Kd.R_lower ho9 (below_size xbl)); replace HB := xst hb; clear hb ho9; have hcv10 := own_string (P := Tryd.prog) Tryd.underlying77 Tryd.underlying5 Tryd.underlying9 (Kd.own_of_R HO148.out)) | (go_at_call 45; (with_reducible refine (octet_Find.calls k t143 0 (strOfNums y146) t149 _ A7.out).mono ?_); rintro e w11 ⟨rfl, hb⟩; replace HO148 := Aside0.mk (Kd.R_below (xkd HO148) hb); replace HB := xst hb; (try clear hb)))
   go_ret
   exact ⟨xre, xbl⟩
 ·
  replace c4 := Bool.eq_false_iff.mpr c4
  subst c4
  rw [if_neg (show ¬ (false = true) by decide)] at H
  obtain rfl := Option.some.inj H
  go_enter Tryd.func28, Tryd.ntmps28
  go_wp2_with (first | ((with_reducible refine gate_callee (f := 44) rfl ?_); refine xgl 9 Tryd.func44 #[.int .i64 a0] ?_; (with_reducible refine (lexis_extra.calls a0 t143 false _ A3.out).mono ?_); rintro e w' ⟨rfl, ⟨nd, rfl⟩⟩; refine ⟨_, rfl, ?_⟩))
  go_ret
  exact ⟨xre, xbl⟩
mutual
def ip_Future.j0 : Nat → ByteArray → Bool → Option (Bool)
  | 0, _, _ => none
  | k + 1, x0, x13 => if x13 = true then (some false) else (if 1 ≤ (x0.size : Int) then ((octet_Span.f k (x0.extract 1 x0.size) 32).bind fun t150 => (if 0 ≤ (wrap64 (1 + t150)) then (if (wrap64 (1 + t150)) ≤ (x0.size : Int) then (if t150 = 0 then (ip_Future.j1 k (x0.extract ((wrap64 (1 + t150)) : Int).toNat x0.size) true) else (if ((x0.extract ((wrap64 (1 + t150)) : Int).toNat x0.size).size : Int) < 2 then (ip_Future.j1 k (x0.extract ((wrap64 (1 + t150)) : Int).toNat x0.size) true) else (if 0 < ((x0.extract ((wrap64 (1 + t150)) : Int).toNat x0.size).size : Int) then (ip_Future.j1 k (x0.extract ((wrap64 (1 + t150)) : Int).toNat x0.size) ((bt (x0.extract ((wrap64 (1 + t150)) : Int).toNat x0.size) 0) != 46)) else (none)))) else (none)) else (none))) else (none))
def ip_Future.j1 : Nat → ByteArray → Bool → Option (Bool)
  | 0, _, _ => none
  | k + 1, x4, x32 => if x32 = true then (some false) else (ip_Future.l0 k x4 1)
def ip_Future.l0 : Nat → ByteArray → Int → Option (Bool)
  | 0, _, _ => none
  | k + 1, x4, x5 => if x5 < (x4.size : Int) then (if 0 ≤ x5 then ((lexis_Plain.f k 1 (bt x4 x5)).bind fun t151 => (if t151 = true then (ip_Future.l0 k x4 (wrap64 (x5 + 1))) else (some false))) else (none)) else (some true)
end
def ip_Future.f (k : Nat) (a0 : ByteArray) : Option (Bool) := if a0.toList = ([] : List UInt8) then (ip_Future.j0 k a0 true) else (if 0 < (a0.size : Int) then (ip_Future.j0 k a0 ((Go.bits .or .u8 (bt a0 0) 32) != 118)) else (none))
theorem ip_Future.mono_l : ∀ k, (∀ y0 y1, LeO (ip_Future.j0 k y0 y1) (ip_Future.j0 (k + 1) y0 y1)) ∧ (∀ y0 y1, LeO (ip_Future.j1 k y0 y1) (ip_Future.j1 (k + 1) y0 y1)) ∧ (∀ y0 y1, LeO (ip_Future.l0 k y0 y1) (ip_Future.l0 (k + 1) y0 y1))
  | 0 => ⟨fun _ _ r h => by simp [ip_Future.j0] at h, fun _ _ r h => by simp [ip_Future.j1] at h, fun _ _ r h => by simp [ip_Future.l0] at h⟩
  | k + 1 => by
    obtain ⟨ih0, ih1, ih2⟩ := ip_Future.mono_l k
    have m0 := @lexis_Plain.mono; have m1 := @octet_Span.mono
    refine ⟨?_, ?_, ?_⟩
    · intro y0 y1
      unfold ip_Future.j0
      exact xmo
    · intro y0 y1
      unfold ip_Future.j1
      exact xmo
    · intro y0 y1
      unfold ip_Future.l0
      exact xmo
theorem ip_Future.mono : ∀ a0 k, LeO (ip_Future.f k a0) (ip_Future.f (k + 1) a0) := by
  intro a0 k
  obtain ⟨ih0, ih1, ih2⟩ := ip_Future.mono_l k
  have m0 := @lexis_Plain.mono; have m1 := @octet_Span.mono
  unfold ip_Future.f
  exact xmo
set_option maxHeartbeats 8000000 in
set_option maxRecDepth 100000 in
theorem ip_Future.calls (k : Nat) (a0 : ByteArray) (r : Bool) (w : World) (h : ip_Future.f k a0 = some r) :
    Calls Tryd.prog 12 #[.string a0] w fun e w' => e = .returned (.bool r) ∧ Below w.heap.size w w' := by
 have HB := Aside0.mk (Below.refl w.heap.size w)
 have H : (if a0.toList = ([] : List UInt8) then (ip_Future.j0 k a0 true) else (if 0 < (a0.size : Int) then (ip_Future.j0 k a0 ((Go.bits .or .u8 (bt a0 0) 32) != 118)) else (none))) = some r := h
 clear h
 have HC2 := Aside0.mk H
 clear H
 go_enter Tryd.func12, Tryd.ntmps12
 go_upto_region 1 with (fail)
 go_cut [13] (fun v13 wc => ∃ (kq : Nat) (x13_1 : Bool), v13 = .bool x13_1 ∧ Aside0 (ip_Future.j0 kq a0 x13_1 = some r) ∧ Aside0 (kq ≤ k) ∧ Aside0 (Below w.heap.size w wc))
 case first =>
  have H := HC2.out
  clear HC2
  by_cases c3 : a0.toList = ([] : List UInt8)
  ·
   rw [if_pos c3] at H
   have c3b0 : (a0.toList == ([] : List UInt8)) = true := beq_iff_eq.mpr c3
   have c3b1 : (a0.toList != ([] : List UInt8)) = false := bne_eq_false_iff_eq.mpr c3
   clear c3
   (first | rw [c3b0] | (simp only [i64_w, i32_w]; rw [c3b0]) | skip)
   have H' := Aside0.mk H
   clear H
   go_wp2
   go_meet
   case rel => exact ⟨_, (true), xrr, H', ⟨xom⟩, ⟨xbl⟩⟩
  ·
   rw [if_neg c3] at H
   have c3b0 : (a0.toList == ([] : List UInt8)) = false := beq_eq_false_iff_ne.mpr c3
   have c3b1 : (a0.toList != ([] : List UInt8)) = true := bne_iff_ne.mpr c3
   (first | rw [c3b0] | (simp only [i64_w, i32_w]; rw [c3b0]) | skip)
   by_cases c4 : 0 < (a0.size : Int)
   ·
    rw [if_pos c4] at H
    have c4b0 := decide_eq_true c4
    have c4b1 : decide (0 < a0.size) = true := decide_eq_true (by omega)
    clear c4
    have H' := Aside0.mk H
    clear H
    have p5 : 0 ≤ (0 : Int) := (by omega)
    have q5 : 0 < a0.size := (by have : (0 : Int) < (a0.size : Int) := xod; omega)
    have hx5 : ∀ h : 0 < a0.size, ((a0[0]'h).toNat : Int) = bt a0 0 := bt_at a0 0
    clear p5
    have qi5 : (0 < (a0.size : Int)) = True := eq_true (xod)
    replace q5 := eq_true q5
    try (have q5x := q5; simp only [ByteArray.size_extract, Nat.min_self] at q5x)
    go_wp2
    go_meet
    case rel => exact ⟨_, (((Go.bits .or .u8 (bt a0 0) 32) != 118)), xrr, H', ⟨xom⟩, ⟨xbl⟩⟩
   ·
    rw [if_neg c4] at H
    exact absurd H (by simp)
 case rest =>
  clear HC2
  obtain ⟨kq, x13_1, rfl, HA, HJ1, HB⟩ := hcut
  cases kq with
  | zero => exact absurd HA.out (by simp [ip_Future.j0])
  | succ kj1 =>
   have H := HA.out
   clear HA
   simp only [ip_Future.j0] at H
   by_cases c6 : x13_1 = true
   ·
    subst c6
    rw [if_pos rfl] at H
    obtain rfl := Option.some.inj H
    go_wp2
    go_ret
    exact ⟨xre, xbl⟩
   ·
    replace c6 := Bool.eq_false_iff.mpr c6
    subst c6
    rw [if_neg (show ¬ (false = true) by decide)] at H
    by_cases c7 : 1 ≤ (a0.size : Int)
    ·
     rw [if_pos c7] at H
     have c7b0 := eq_true c7
     have c7b1 := decide_eq_true c7
     clear c7
     obtain ⟨ji8, hji8⟩ : ∃ j_ : ByteArray, (a0.extract 1 a0.size) = j_ := ⟨_, rfl⟩
     try (have hji8x := hji8; simp only [Int.toNat_natCast, Int.toNat_ofNat] at hji8x)
     first | rw [hji8] at H | simp only [hji8] at H | skip
     replace H := Option.bind_eq_some_iff.mp H
     obtain ⟨t150, A90, H⟩ := H
     try dsimp only at H
     have A9 := Aside0.mk A90
     clear A90
     obtain ⟨ji10, hji10⟩ : ∃ j_ : Int, (wrap64 (1 + t150)) = j_ := ⟨_, rfl⟩
     first | rw [hji10] at H | simp only [hji10] at H | skip
     (try rw [hji10] at A9)
     have hji10w : (IntKind.i64.wrap (1 + t150)) = ji10 := (i64_w _).trans hji10
     by_cases c11 : 0 ≤ (ji10)
     ·
      rw [if_pos c11] at H
      have c11b0 := eq_true c11
      have c11b1 := decide_eq_true c11
      clear c11
      by_cases c12 : (ji10) ≤ (a0.size : Int)
      ·
       rw [if_pos c12] at H
       have c12b0 := eq_true c12
       have c12b1 := decide_eq_true c12
       clear c12
       obtain ⟨ji13, hji13⟩ : ∃ j_ : ByteArray, (a0.extract ((ji10) : Int).toNat a0.size) = j_ := ⟨_, rfl⟩
       try (have hji13x := hji13; simp only [Int.toNat_natCast, Int.toNat_ofNat] at hji13x)
       first | rw [hji13] at H | simp only [hji13] at H | skip
       (try rw [hji13] at A9)
       have HC14 := Aside0.mk H
       clear H
       go_upto_region 5 with (first | ((with_reducible refine gate_callee (f := 27) rfl ?_); refine goesL_ (some 16) rfl rfl Tryd.func27 (by kernel_rfl) rfl #[.string ji8, .int .i64 32] rfl (by (try simp only [List.map_toArray, List.map_cons, List.map_nil]); first | done | (simp only [hji8]; rfl) | rfl | (simp only [List.length_drop, List.length_take]; rfl)) ?_; (with_reducible refine (octet_Span.calls kj1 ji8 32 t150 _ A9.out).mono ?_); rintro e w' ⟨rfl, ⟨nd, rfl⟩⟩; refine ⟨_, rfl, ?_⟩))
       (try simp only [Act.put, List.setIfInBounds_toArray, List.set_cons_zero, List.set_cons_succ])
       go_cut [32] (fun v32 wc => ∃ (kq : Nat) (x32_13 : Bool), v32 = .bool x32_13 ∧ Aside0 (ip_Future.j1 kq ji13 x32_13 = some r) ∧ Aside0 (kq ≤ kj1) ∧ Aside0 (Below w.heap.size w wc))
       case first =>
        have H := HC14.out
        clear HC14
        by_cases c15 : t150 = 0
        ·
         rw [if_pos c15] at H
         have c15b0 : (t150 == 0) = true := beq_iff_eq.mpr c15
         have c15b1 : (t150 != 0) = false := bne_eq_false_iff_eq.mpr c15
         clear c15
         (first | rw [c15b0] | (simp only [i64_w, i32_w]; rw [c15b0]) | skip)
         have H' := Aside0.mk H
         clear H
         go_wp2
         go_meet
         case rel => exact ⟨_, (true), xrr, H', ⟨by have := HJ1.out; first | omega | exact Nat.le_refl _⟩, ⟨xbl⟩⟩
        ·
         rw [if_neg c15] at H
         have c15b0 : (t150 == 0) = false := beq_eq_false_iff_ne.mpr c15
         have c15b1 : (t150 != 0) = true := bne_iff_ne.mpr c15
         (first | rw [c15b0] | (simp only [i64_w, i32_w]; rw [c15b0]) | skip)
         by_cases c16 : ((ji13).size : Int) < 2
         ·
          rw [if_pos c16] at H
          have c16b0 := decide_eq_true c16
          have c16b1 : decide ((ji13).size < 2) = true := decide_eq_true (by omega)
          clear c16
          have H' := Aside0.mk H
          clear H
          go_wp2
          go_meet
          case rel => exact ⟨_, (true), xrr, H', ⟨by have := HJ1.out; first | omega | exact Nat.le_refl _⟩, ⟨xbl⟩⟩
         ·
          rw [if_neg c16] at H
          have c16b0 := decide_eq_false c16
          have c16b1 : decide ((ji13).size < 2) = false := decide_eq_false (by omega)
          clear c16
          by_cases c17 : 0 < ((ji13).size : Int)
          ·
           rw [if_pos c17] at H
           have c17b0 := decide_eq_true c17
           have c17b1 : decide (0 < (ji13).size) = true := decide_eq_true (by omega)
           clear c17
           have H' := Aside0.mk H
           clear H
           have p18 : 0 ≤ (0 : Int) := (by omega)
           have q18 : 0 < ji13.size := (by have : (0 : Int) < (ji13.size : Int) := xod; omega)
           have hx18 : ∀ h : 0 < ji13.size, ((ji13[0]'h).toNat : Int) = bt ji13 0 := bt_at ji13 0
           clear p18
           have qi18 : (0 < (ji13.size : Int)) = True := eq_true (xod)
           replace q18 := eq_true q18
           try (have q18x := q18; simp only [ByteArray.size_extract, Nat.min_self] at q18x)
           go_wp2
           go_meet
           case rel => exact ⟨_, (((bt (ji13) 0) != 46)), (by first | rfl | (simp; done) | (simp only [← hji13] <;> (first | rfl | simp)) | (simp [*]; done) | (simp [wrap64]; done)), H', ⟨by have := HJ1.out; first | omega | exact Nat.le_refl _⟩, ⟨xbl⟩⟩
          ·
           rw [if_neg c17] at H
           exact absurd H (by simp)
       case rest =>
        clear HC14
        clear c7b0 c7b1 c11b0 c11b1 c12b0 c12b1
        obtain ⟨kq, x32_13, rfl, HA, HJ13, HB⟩ := hcut
        cases kq with
        | zero => exact absurd HA.out (by simp [ip_Future.j1])
        | succ kj13 =>
         have H := HA.out
         clear HA
         simp only [ip_Future.j1] at H
         by_cases c19 : x32_13 = true
         ·
          subst c19
          rw [if_pos rfl] at H
          obtain rfl := Option.some.inj H
          go_wp2
          go_ret
          exact ⟨by first | rfl | (simp [errW_none, errW_some] <;> first | rfl | (simp only [xp_isEmpty, bne, Bool.not_not]; done)) | (simp only [← hji8, ← hji10, ← hji13]; first | rfl | (simp [errW_none, errW_some] <;> rfl)) | (simp [*, errW_none, errW_some] <;> rfl), xbl⟩
         ·
          replace c19 := Bool.eq_false_iff.mpr c19
          subst c19
          rw [if_neg (show ¬ (false = true) by decide)] at H
          have H' := Aside0.mk H
          clear H
          go_wp2
          go_loopg [5] kj13 (fun kq v5 w' => ∃ (x5_3 : Int), v5 = .int .i64 x5_3 ∧ Aside0 (ip_Future.l0 kq ji13 x5_3 = some r) ∧ Aside0 (kq ≤ kj13) ∧ Aside0 (Below w.heap.size w w'))
          case atStart => exact ⟨(1), xrr, H', ⟨Nat.le_refl _⟩, ⟨xbl⟩⟩
          case round =>
           clear H'
           obtain ⟨x5_3, rfl, HA, HK3, HB⟩ := hrel
           cases gk with
           | zero => exact absurd HA.out (by simp [ip_Future.l0])
           | succ k3 =>
            have H := HA.out
            clear HA
            simp only [ip_Future.l0] at H
            by_cases c20 : x5_3 < (ji13.size : Int)
            ·
             rw [if_pos c20] at H
             have c20b0 := decide_eq_true c20
             clear c20
             by_cases c21 : 0 ≤ x5_3
             ·
              rw [if_pos c21] at H
              have c21b0 := decide_eq_true c21
              clear c21
              replace H := Option.bind_eq_some_iff.mp H
              obtain ⟨t151, A230, H⟩ := H
              try dsimp only at H
              have A23 := Aside0.mk A230
              clear A230
              by_cases c24 : t151 = true
              ·
               subst c24
               rw [if_pos rfl] at H
               have H' := Aside0.mk H
               clear H
               have p22 : 0 ≤ (x5_3 : Int) := xod
               have q22 : x5_3 < (ji13.size : Int) := xod
               have hx22 := bt_at ji13 x5_3
               replace p22 := eq_true p22
               replace q22 := eq_true q22
               try (have q22x := q22; simp only [ByteArray.size_extract, Nat.min_self] at q22x)
               go_wp2_with (first | ((with_reducible refine gate_callee (f := 28) rfl ?_); refine goesL_ (some 42) rfl rfl Tryd.func28 (by kernel_rfl) rfl #[.int .i64 1, .int .u8 (bt ji13 x5_3)] rfl (by (try simp only [List.map_toArray, List.map_cons, List.map_nil]); first | done | (simp only [hji13]; rfl) | rfl | (simp only [List.length_drop, List.length_take]; rfl)) ?_; (with_reducible refine (lexis_Plain.calls k3 1 (bt ji13 x5_3) true _ A23.out).mono ?_); rintro e w25 ⟨rfl, hb⟩; refine ⟨_, rfl, ?_⟩; replace HB := xst hb; (try clear hb)))
               go_roundg k3
               case measure => have := HJ1.out; have := HJ13.out; have := HK3.out; omega
               case rel => exact ⟨(wrap64 (x5_3 + 1)), xrr, H', ⟨by have := HJ1.out; have := HJ13.out; have := HK3.out; omega⟩, ⟨xbl⟩⟩
              ·
               replace c24 := Bool.eq_false_iff.mpr c24
               subst c24
               rw [if_neg (show ¬ (false = true) by decide)] at H
               obtain rfl := Option.some.inj H
               have p22 : 0 ≤ (x5_3 : Int) := xod
               have q22 : x5_3 < (ji13.size : Int) := xod
               have hx22 := bt_at ji13 x5_3
               replace p22 := eq_true p22
               replace q22 := eq_true q22
               try (have q22x := q22; simp only [ByteArray.size_extract, Nat.min_self] at q22x)
               go_wp2_with (first | ((with_reducible refine gate_callee (f := 28) rfl ?_); refine goesL_ (some 42) rfl rfl Tryd.func28 (by kernel_rfl) rfl #[.int .i64 1, .int .u8 (bt ji13 x5_3)] rfl (by (try simp only [List.map_toArray, List.map_cons, List.map_nil]); first | done | (simp only [hji13]; rfl) | rfl | (simp only [List.length_drop, List.length_take]; rfl)) ?_; (with_reducible refine (lexis_Plain.calls k3 1 (bt ji13 x5_3) false _ A23.out).mono ?_); rintro e w26 ⟨rfl, hb⟩; refine ⟨_, rfl, ?_⟩; replace HB := xst hb; (try clear hb)))
               go_ret
               exact ⟨by first | rfl | (simp [errW_none, errW_some] <;> first | rfl | (simp only [xp_isEmpty, bne, Bool.not_not]; done)) | (simp only [← hji8, ← hji10, ← hji13]; first | rfl | (simp [errW_none, errW_some] <;> rfl)) | (simp [*, errW_none, errW_some] <;> rfl), xbl⟩
             ·
              rw [if_neg c21] at H
              exact absurd H (by simp)
            ·
             rw [if_neg c20] at H
             have c20b0 := decide_eq_false c20
             clear c20
             obtain rfl := Option.some.inj H
             go_wp2
             go_ret
             exact ⟨by first | rfl | (simp [errW_none, errW_some] <;> first | rfl | (simp only [xp_isEmpty, bne, Bool.not_not]; done)) | (simp only [← hji8, ← hji10, ← hji13]; first | rfl | (simp [errW_none, errW_some] <;> rfl)) | (simp [*, errW_none, errW_some] <;> rfl), xbl⟩
      ·
       rw [if_neg c12] at H
       exact absurd H (by simp)
     ·
      rw [if_neg c11] at H
      exact absurd H (by simp)
    ·
     rw [if_neg c7] at H
     exact absurd H (by simp)
def escape_At.j0 : Nat → ByteArray → Int → Bool → Option (Int × Bool)
  | 0, _, _, _ => none
  | k + 1, x0, x1, x24 => if x24 = true then (some (0, false)) else (if 0 ≤ (wrap64 (x1 + 1)) then (if (wrap64 (x1 + 1)) < (x0.size : Int) then ((octet_Value.f k (bt x0 (wrap64 (x1 + 1)))).bind fun bt152 => (if 0 ≤ (wrap64 (x1 + 2)) then (if (wrap64 (x1 + 2)) < (x0.size : Int) then ((octet_Value.f k (bt x0 (wrap64 (x1 + 2)))).bind fun bt154 => (if bt152.2 = true then (if bt154.2 = true then (some ((Go.bits .or .i64 (wrap64 (bt152.1 * 16)) bt154.1) % 256, true)) else (some (0, false))) else (some (0, false)))) else (none)) else (none))) else (none)) else (none))
def escape_At.f (k : Nat) (a0 : ByteArray) (a1 : Int) : Option (Int × Bool) := if a1 < 0 then (escape_At.j0 k a0 a1 true) else (if a1 > (wrap64 ((a0.size : Int) - 3)) then (escape_At.j0 k a0 a1 true) else (if 0 ≤ a1 then (if a1 < (a0.size : Int) then (escape_At.j0 k a0 a1 ((bt a0 a1) != 37)) else (none)) else (none)))
theorem escape_At.mono_l : ∀ k, (∀ y0 y1 y2, LeO (escape_At.j0 k y0 y1 y2) (escape_At.j0 (k + 1) y0 y1 y2))
  | 0 => fun _ _ _ r h => by simp [escape_At.j0] at h
  | k + 1 => by
    have ih0 := escape_At.mono_l k
    have m0 := @octet_Value.mono
    · intro y0 y1 y2
      unfold escape_At.j0
      exact xmo
theorem escape_At.mono : ∀ a0 a1 k, LeO (escape_At.f k a0 a1) (escape_At.f (k + 1) a0 a1) := by
  intro a0 a1 k
  have ih0 := escape_At.mono_l k
  have m0 := @octet_Value.mono
  unfold escape_At.f
  exact xmo
set_option maxHeartbeats 8000000 in
set_option maxRecDepth 100000 in
theorem escape_At.calls (k : Nat) (a0 : ByteArray) (a1 : Int) (r1 : Int) (r2 : Bool) (w : World) (h : escape_At.f k a0 a1 = some (r1, r2)) :
    Calls Tryd.prog 60 #[.string a0, .int .i64 a1] w fun e w' => e = .returned (.tuple #[.int .u8 r1, .bool r2]) ∧ Drawn0 w w' := by
 have H : (if a1 < 0 then (escape_At.j0 k a0 a1 true) else (if a1 > (wrap64 ((a0.size : Int) - 3)) then (escape_At.j0 k a0 a1 true) else (if 0 ≤ a1 then (if a1 < (a0.size : Int) then (escape_At.j0 k a0 a1 ((bt a0 a1) != 37)) else (none)) else (none)))) = some (r1, r2) := h
 clear h
 have HC3 := Aside0.mk H
 clear H
 go_enter Tryd.func60, Tryd.ntmps60
 go_upto_region 1 with (fail)
 go_cut [24] (fun v24 wc => ∃ (kq : Nat) (x24_2 : Bool), v24 = .bool x24_2 ∧ Aside0 (escape_At.j0 kq a0 a1 x24_2 = some (r1, r2)) ∧ Aside0 (kq ≤ k) ∧ Drawn0 w wc)
 case first =>
  have H := HC3.out
  clear HC3
  by_cases c4 : a1 < 0
  ·
   rw [if_pos c4] at H
   have c4b0 := decide_eq_true c4
   clear c4
   (first | rw [c4b0] | (simp only [i64_w, i32_w]; rw [c4b0]) | skip)
   have H' := Aside0.mk H
   clear H
   go_wp2
   go_meet
   case rel => exact ⟨_, (true), xrr, H', ⟨xom⟩, xdr⟩
  ·
   rw [if_neg c4] at H
   have c4b0 := decide_eq_false c4
   clear c4
   (first | rw [c4b0] | (simp only [i64_w, i32_w]; rw [c4b0]) | skip)
   by_cases c5 : a1 > (wrap64 ((a0.size : Int) - 3))
   ·
    rw [if_pos c5] at H
    have c5b0 := decide_eq_true c5
    clear c5
    have H' := Aside0.mk H
    clear H
    go_wp2
    go_meet
    case rel => exact ⟨_, (true), xrr, H', ⟨xom⟩, xdr⟩
   ·
    rw [if_neg c5] at H
    have c5b0 := decide_eq_false c5
    clear c5
    by_cases c6 : 0 ≤ a1
    ·
     rw [if_pos c6] at H
     have c6b0 := decide_eq_true c6
     clear c6
     by_cases c7 : a1 < (a0.size : Int)
     ·
      rw [if_pos c7] at H
      have c7b0 := decide_eq_true c7
      clear c7
      have H' := Aside0.mk H
      clear H
      have p8 : 0 ≤ (a1 : Int) := xod
      have q8 : a1 < (a0.size : Int) := xod
      have hx8 := bt_at a0 a1
      replace p8 := eq_true p8
      replace q8 := eq_true q8
      try (have q8x := q8; simp only [ByteArray.size_extract, Nat.min_self] at q8x)
      go_wp2
      go_meet
      case rel => exact ⟨_, (((bt a0 a1) != 37)), xrr, H', ⟨xom⟩, xdr⟩
     ·
      rw [if_neg c7] at H
      exact absurd H (by simp)
    ·
     rw [if_neg c6] at H
     exact absurd H (by simp)
 case rest =>
  clear HC3
  obtain ⟨kq, x24_2, rfl, HA, HJ2, ⟨mc2, rfl⟩⟩ := hcut
  cases kq with
  | zero => exact absurd HA.out (by simp [escape_At.j0])
  | succ kj2 =>
   have H := HA.out
   clear HA
   simp only [escape_At.j0] at H
   by_cases c9 : x24_2 = true
   ·
    subst c9
    rw [if_pos rfl] at H
    simp only [Option.some.injEq, Prod.mk.injEq] at H
    obtain ⟨rfl, rfl⟩ := H
    go_wp2
    go_ret2
    exact ⟨xrr, xdr⟩
   ·
    replace c9 := Bool.eq_false_iff.mpr c9
    subst c9
    rw [if_neg (show ¬ (false = true) by decide)] at H
    obtain ⟨ji10, hji10⟩ : ∃ j_ : Int, (wrap64 (a1 + 1)) = j_ := ⟨_, rfl⟩
    first | rw [hji10] at H | simp only [hji10] at H | skip
    have hji10w : (IntKind.i64.wrap (a1 + 1)) = ji10 := (i64_w _).trans hji10
    by_cases c11 : 0 ≤ (ji10)
    ·
     rw [if_pos c11] at H
     have c11b0 := decide_eq_true c11
     clear c11
     by_cases c12 : (ji10) < (a0.size : Int)
     ·
      rw [if_pos c12] at H
      have c12b0 := decide_eq_true c12
      clear c12
      replace H := Option.bind_eq_some_iff.mp H
      obtain ⟨⟨t152, t153⟩, A140, H⟩ := H
      try dsimp only at H
      have A14 := Aside0.mk A140
      clear A140
      obtain ⟨ji15, hji15⟩ : ∃ j_ : Int, (wrap64 (a1 + 2)) = j_ := ⟨_, rfl⟩
      first | rw [hji15] at H | simp only [hji15] at H | skip
      (try rw [hji15] at A14)
      have hji15w : (IntKind.i64.wrap (a1 + 2)) = ji15 := (i64_w _).trans hji15
      by_cases c16 : 0 ≤ (ji15)
      ·
       rw [if_pos c16] at H
       have c16b0 := decide_eq_true c16
       clear c16
       by_cases c17 : (ji15) < (a0.size : Int)
       ·
        rw [if_pos c17] at H
        have c17b0 := decide_eq_true c17
        clear c17
        replace H := Option.bind_eq_some_iff.mp H
        obtain ⟨⟨t154, t155⟩, A190, H⟩ := H
        try dsimp only at H
        have A19 := Aside0.mk A190
        clear A190
        by_cases c20 : t153 = true
        ·
         subst c20
         rw [if_pos rfl] at H
         by_cases c21 : t155 = true
         ·
          subst c21
          rw [if_pos rfl] at H
          simp only [Option.some.injEq, Prod.mk.injEq] at H
          obtain ⟨rfl, rfl⟩ := H
          have p13 : 0 ≤ ((ji10) : Int) := xod
          have q13 : (ji10) < (a0.size : Int) := xod
          have hx13 := bt_at a0 (ji10)
          replace p13 := eq_true p13
          replace q13 := eq_true q13
          try (have q13x := q13; simp only [ByteArray.size_extract, Nat.min_self] at q13x)
          go_wp2_with (first | ((with_reducible refine gate_callee (f := 59) rfl ?_); refine goesL_ (some 30) rfl rfl Tryd.func59 (by kernel_rfl) rfl #[.int .u8 (bt a0 (ji10))] rfl (by (try simp only [List.map_toArray, List.map_cons, List.map_nil]); first | done | (simp only [hji10]; rfl) | rfl | (simp only [List.length_drop, List.length_take]; rfl)) ?_; (with_reducible refine (octet_Value.calls kj2 (bt a0 (ji10)) t152 true _ A14.out).mono ?_); rintro e w' ⟨rfl, ⟨nd, rfl⟩⟩; refine ⟨_, rfl, ?_⟩; have p18 : 0 ≤ ((ji15) : Int) := xod; have q18 : (ji15) < (a0.size : Int) := xod; have hx18 := bt_at a0 (ji15); replace p18 := eq_true p18; replace q18 := eq_true q18) | ((with_reducible refine gate_callee (f := 59) rfl ?_); refine goesL_ (some 38) rfl rfl Tryd.func59 (by kernel_rfl) rfl #[.int .u8 (bt a0 (ji15))] rfl (by (try simp only [List.map_toArray, List.map_cons, List.map_nil]); first | done | (simp only [hji15]; rfl) | rfl | (simp only [List.length_drop, List.length_take]; rfl)) ?_; (with_reducible refine (octet_Value.calls kj2 (bt a0 (ji15)) t154 true _ A19.out).mono ?_); rintro e w' ⟨rfl, ⟨nd, rfl⟩⟩; refine ⟨_, rfl, ?_⟩))
          go_ret2
          exact ⟨by first | rfl | (simp; done) | (simp only [← hji10, ← hji15] <;> (first | rfl | simp)) | (simp [*]; done) | (simp [wrap64]; done), xdr⟩
         ·
          replace c21 := Bool.eq_false_iff.mpr c21
          subst c21
          rw [if_neg (show ¬ (false = true) by decide)] at H
          simp only [Option.some.injEq, Prod.mk.injEq] at H
          obtain ⟨rfl, rfl⟩ := H
          have p13 : 0 ≤ ((ji10) : Int) := xod
          have q13 : (ji10) < (a0.size : Int) := xod
          have hx13 := bt_at a0 (ji10)
          replace p13 := eq_true p13
          replace q13 := eq_true q13
          try (have q13x := q13; simp only [ByteArray.size_extract, Nat.min_self] at q13x)
          go_wp2_with (first | ((with_reducible refine gate_callee (f := 59) rfl ?_); refine goesL_ (some 30) rfl rfl Tryd.func59 (by kernel_rfl) rfl #[.int .u8 (bt a0 (ji10))] rfl (by (try simp only [List.map_toArray, List.map_cons, List.map_nil]); first | done | (simp only [hji10]; rfl) | rfl | (simp only [List.length_drop, List.length_take]; rfl)) ?_; (with_reducible refine (octet_Value.calls kj2 (bt a0 (ji10)) t152 true _ A14.out).mono ?_); rintro e w' ⟨rfl, ⟨nd, rfl⟩⟩; refine ⟨_, rfl, ?_⟩; have p18 : 0 ≤ ((ji15) : Int) := xod; have q18 : (ji15) < (a0.size : Int) := xod; have hx18 := bt_at a0 (ji15); replace p18 := eq_true p18; replace q18 := eq_true q18) | ((with_reducible refine gate_callee (f := 59) rfl ?_); refine goesL_ (some 38) rfl rfl Tryd.func59 (by kernel_rfl) rfl #[.int .u8 (bt a0 (ji15))] rfl (by (try simp only [List.map_toArray, List.map_cons, List.map_nil]); first | done | (simp only [hji15]; rfl) | rfl | (simp only [List.length_drop, List.length_take]; rfl)) ?_; (with_reducible refine (octet_Value.calls kj2 (bt a0 (ji15)) t154 false _ A19.out).mono ?_); rintro e w' ⟨rfl, ⟨nd, rfl⟩⟩; refine ⟨_, rfl, ?_⟩))
          go_ret2
          exact ⟨by first | rfl | (simp; done) | (simp only [← hji10, ← hji15] <;> (first | rfl | simp)) | (simp [*]; done) | (simp [wrap64]; done), xdr⟩
        ·
         replace c20 := Bool.eq_false_iff.mpr c20
         subst c20
         rw [if_neg (show ¬ (false = true) by decide)] at H
         simp only [Option.some.injEq, Prod.mk.injEq] at H
         obtain ⟨rfl, rfl⟩ := H
         have p13 : 0 ≤ ((ji10) : Int) := xod
         have q13 : (ji10) < (a0.size : Int) := xod
         have hx13 := bt_at a0 (ji10)
         replace p13 := eq_true p13
         replace q13 := eq_true q13
         try (have q13x := q13; simp only [ByteArray.size_extract, Nat.min_self] at q13x)
         go_wp2_with (first | ((with_reducible refine gate_callee (f := 59) rfl ?_); refine goesL_ (some 30) rfl rfl Tryd.func59 (by kernel_rfl) rfl #[.int .u8 (bt a0 (ji10))] rfl (by (try simp only [List.map_toArray, List.map_cons, List.map_nil]); first | done | (simp only [hji10]; rfl) | rfl | (simp only [List.length_drop, List.length_take]; rfl)) ?_; (with_reducible refine (octet_Value.calls kj2 (bt a0 (ji10)) t152 false _ A14.out).mono ?_); rintro e w' ⟨rfl, ⟨nd, rfl⟩⟩; refine ⟨_, rfl, ?_⟩; have p18 : 0 ≤ ((ji15) : Int) := xod; have q18 : (ji15) < (a0.size : Int) := xod; have hx18 := bt_at a0 (ji15); replace p18 := eq_true p18; replace q18 := eq_true q18) | ((with_reducible refine gate_callee (f := 59) rfl ?_); refine goesL_ (some 38) rfl rfl Tryd.func59 (by kernel_rfl) rfl #[.int .u8 (bt a0 (ji15))] rfl (by (try simp only [List.map_toArray, List.map_cons, List.map_nil]); first | done | (simp only [hji15]; rfl) | rfl | (simp only [List.length_drop, List.length_take]; rfl)) ?_; (with_reducible refine (octet_Value.calls kj2 (bt a0 (ji15)) t154 t155 _ A19.out).mono ?_); rintro e w' ⟨rfl, ⟨nd, rfl⟩⟩; refine ⟨_, rfl, ?_⟩))
         go_ret2
         exact ⟨by first | rfl | (simp; done) | (simp only [← hji10, ← hji15] <;> (first | rfl | simp)) | (simp [*]; done) | (simp [wrap64]; done), xdr⟩
       ·
        rw [if_neg c17] at H
        exact absurd H (by simp)
      ·
       rw [if_neg c16] at H
       exact absurd H (by simp)
     ·
      rw [if_neg c12] at H
      exact absurd H (by simp)
    ·
     rw [if_neg c11] at H
     exact absurd H (by simp)
end Go.Proofs.YticohlbfolnmpaaDoor.X
namespace Go.Proofs.YticohlbfolnmpaaDoor.X
open Go.RowKit Go.Proofs.YticohlbfolnmpaaDoorW.PrintWords Go.Proofs.YticohlbfolnmpaaDoorW.PrintLast Go.Proofs.YticohlbfolnmpaaDoorW.PrintMore
attribute [local go_sem] max2_int min2_int max_two min_two max_three min_three max_four min_four
set_option linter.unusedVariables false
set_option linter.unusedSimpArgs false
theorem eqi27_last {P : Program} {w : World} {d n i : Nat} {e : TypeId} {xs ys : Array Value} {a b : Value} {r : Bool} (ha : (part e xs (i * n)).run P w = .ok a w) (hb : (part e ys (i * n)).run P w = .ok b w) (he : (Op.equalIn d e a b).run P w = .ok r w) : (Op.eqItems d e n xs ys [i]).run P w = .ok r w := by
  simp only [Op.eqItems, Sem.run_bind, ha, hb, he, Result.andThen_ok]
  cases r <;> simp
theorem eqi27_cons {P : Program} {w : World} {d n i : Nat} {is : List Nat} {e : TypeId} {xs ys : Array Value} {a b : Value} {r s : Bool} (ha : (part e xs (i * n)).run P w = .ok a w) (hb : (part e ys (i * n)).run P w = .ok b w) (he : (Op.equalIn d e a b).run P w = .ok r w) (hr : (Op.eqItems d e n xs ys is).run P w = .ok s w) : (Op.eqItems d e n xs ys (i :: is)).run P w = .ok (r && s) w := by
  rw [Op.eqItems]
  simp only [Sem.run_bind, ha, hb, he, Result.andThen_ok]
  cases r
  · simp
  · simpa using hr
theorem eqA27 (d : Nat) (w : World) (x0 x1 x2 x3 x4 x5 x6 x7 y0 y1 y2 y3 y4 y5 y6 y7 : Int) :
    (Op.equalIn (d + 2) 27 (.agg #[.int .u16 x0, .int .u16 x1, .int .u16 x2, .int .u16 x3, .int .u16 x4, .int .u16 x5, .int .u16 x6, .int .u16 x7]) (.agg #[.int .u16 y0, .int .u16 y1, .int .u16 y2, .int .u16 y3, .int .u16 y4, .int .u16 y5, .int .u16 y6, .int .u16 y7])).run Tryd.prog w = .ok (x0 == y0 && (x1 == y1 && (x2 == y2 && (x3 == y3 && (x4 == y4 && (x5 == y5 && (x6 == y6 && (x7 == y7)))))))) w := by
  obtain ⟨i, hi⟩ := info_of_underlying (P := Tryd.prog) Tryd.underlying26
  rw [run_equalIn_array (P := Tryd.prog) w (d + 1) _ _ Tryd.underlying27 hi, show Tryd.prog.cellsOf 26 = 1 by kernel_rfl, show List.range 8 = [0, 1, 2, 3, 4, 5, 6, 7] from rfl]
  refine eqi27_cons (by go_simp; rfl) (by go_simp; rfl) (by go_simp) ?_
  refine eqi27_cons (by go_simp; rfl) (by go_simp; rfl) (by go_simp) ?_
  refine eqi27_cons (by go_simp; rfl) (by go_simp; rfl) (by go_simp) ?_
  refine eqi27_cons (by go_simp; rfl) (by go_simp; rfl) (by go_simp) ?_
  refine eqi27_cons (by go_simp; rfl) (by go_simp; rfl) (by go_simp) ?_
  refine eqi27_cons (by go_simp; rfl) (by go_simp; rfl) (by go_simp) ?_
  refine eqi27_cons (by go_simp; rfl) (by go_simp; rfl) (by go_simp) ?_
  refine eqi27_last (by go_simp; rfl) (by go_simp; rfl) (by go_simp)
end Go.Proofs.YticohlbfolnmpaaDoor.X
namespace Go.Proofs.YticohlbfolnmpaaDoor.X
open Go.RowKit Go.Proofs.YticohlbfolnmpaaDoorW.PrintWords Go.Proofs.YticohlbfolnmpaaDoorW.PrintLast Go.Proofs.YticohlbfolnmpaaDoorW.PrintMore
attribute [local go_sem] max2_int min2_int max_two min_two max_three min_three max_four min_four
set_option linter.unusedVariables false
set_option linter.unusedSimpArgs false
mutual
def utf_shape.j0 : Nat → Int → Bool → Option (Int × Int × Int)
  | 0, _, _ => none
  | k + 1, x0, x8 => if x8 = true then (some (2, 128, 191)) else (if x0 = 224 then (some (3, 160, 191)) else (if x0 = 237 then (some (3, 128, 159)) else (if x0 ≥ 225 then (utf_shape.j1 k x0 (decide (x0 ≤ 239))) else (utf_shape.j1 k x0 false))))
def utf_shape.j1 : Nat → Int → Bool → Option (Int × Int × Int)
  | 0, _, _ => none
  | k + 1, x0, x21 => if x21 = true then (some (3, 128, 191)) else (if x0 = 240 then (some (4, 144, 191)) else (if x0 = 244 then (some (4, 128, 143)) else (if x0 ≥ 241 then (if x0 ≤ 243 then (some (4, 128, 191)) else (some (0, 0, 0))) else (some (0, 0, 0)))))
end
def utf_shape.f (k : Nat) (a0 : Int) : Option (Int × Int × Int) := if a0 < 128 then (some (1, 0, 0)) else (if a0 ≥ 194 then (utf_shape.j0 k a0 (decide (a0 ≤ 223))) else (utf_shape.j0 k a0 false))
theorem utf_shape.mono_l : ∀ k, (∀ y0 y1, LeO (utf_shape.j0 k y0 y1) (utf_shape.j0 (k + 1) y0 y1)) ∧ (∀ y0 y1, LeO (utf_shape.j1 k y0 y1) (utf_shape.j1 (k + 1) y0 y1))
  | 0 => ⟨fun _ _ r h => by simp [utf_shape.j0] at h, fun _ _ r h => by simp [utf_shape.j1] at h⟩
  | k + 1 => by
    obtain ⟨ih0, ih1⟩ := utf_shape.mono_l k
    refine ⟨?_, ?_⟩
    · intro y0 y1
      unfold utf_shape.j0
      exact xmo
    · intro y0 y1
      unfold utf_shape.j1
      exact xmo
theorem utf_shape.mono : ∀ a0 k, LeO (utf_shape.f k a0) (utf_shape.f (k + 1) a0) := by
  intro a0 k
  obtain ⟨ih0, ih1⟩ := utf_shape.mono_l k
  unfold utf_shape.f
  exact xmo
set_option maxHeartbeats 8000000 in
set_option maxRecDepth 100000 in
theorem utf_shape.calls (k : Nat) (a0 : Int) (r1 : Int) (r2 : Int) (r3 : Int) (w : World) (h : utf_shape.f k a0 = some (r1, r2, r3)) :
    Calls Tryd.prog 97 #[.int .u8 a0] w fun e w' => e = .returned (.tuple #[.int .i64 r1, .int .u8 r2, .int .u8 r3]) ∧ Drawn0 w w' := by
 have H : (if a0 < 128 then (some (1, 0, 0)) else (if a0 ≥ 194 then (utf_shape.j0 k a0 (decide (a0 ≤ 223))) else (utf_shape.j0 k a0 false))) = some (r1, r2, r3) := h
 clear h
 by_cases c2 : a0 < 128
 ·
  rw [if_pos c2] at H
  have c2b0 := decide_eq_true c2
  clear c2
  simp only [Option.some.injEq, Prod.mk.injEq] at H
  obtain ⟨rfl, rfl, rfl⟩ := H
  go_enter Tryd.func97, Tryd.ntmps97
  go_wp2
  go_ret3
  exact ⟨xrr, xdr⟩
 ·
  rw [if_neg c2] at H
  have c2b0 := decide_eq_false c2
  clear c2
  have HC3 := Aside0.mk H
  clear H
  go_enter Tryd.func97, Tryd.ntmps97
  go_upto_region 3 with (fail)
  go_cut [8] (fun v8 wc => ∃ (kq : Nat) (x8_2 : Bool), v8 = .bool x8_2 ∧ Aside0 (utf_shape.j0 kq a0 x8_2 = some (r1, r2, r3)) ∧ Aside0 (kq ≤ k) ∧ Drawn0 w wc)
  case first =>
   have H := HC3.out
   clear HC3
   by_cases c4 : a0 ≥ 194
   ·
    rw [if_pos c4] at H
    have c4b0 := decide_eq_true c4
    clear c4
    (first | rw [c4b0] | (simp only [i64_w, i32_w]; rw [c4b0]) | skip)
    have H' := Aside0.mk H
    clear H
    go_wp2
    go_meet
    case rel => exact ⟨_, (decide (a0 ≤ 223)), xrr, H', ⟨xom⟩, xdr⟩
   ·
    rw [if_neg c4] at H
    have c4b0 := decide_eq_false c4
    clear c4
    (first | rw [c4b0] | (simp only [i64_w, i32_w]; rw [c4b0]) | skip)
    have H' := Aside0.mk H
    clear H
    go_wp2
    go_meet
    case rel => exact ⟨_, (false), xrr, H', ⟨xom⟩, xdr⟩
  case rest =>
   clear HC3
   clear c2b0
   obtain ⟨kq, x8_2, rfl, HA, HJ2, ⟨mc2, rfl⟩⟩ := hcut
   cases kq with
   | zero => exact absurd HA.out (by simp [utf_shape.j0])
   | succ kj2 =>
    have H := HA.out
    clear HA
    simp only [utf_shape.j0] at H
    by_cases c5 : x8_2 = true
    ·
     subst c5
     rw [if_pos rfl] at H
     simp only [Option.some.injEq, Prod.mk.injEq] at H
     obtain ⟨rfl, rfl, rfl⟩ := H
     go_wp2
     go_ret3
     exact ⟨xrr, xdr⟩
    ·
     replace c5 := Bool.eq_false_iff.mpr c5
     subst c5
     rw [if_neg (show ¬ (false = true) by decide)] at H
     by_cases c6 : a0 = 224
     ·
      rw [if_pos c6] at H
      have c6b0 : (a0 == 224) = true := beq_iff_eq.mpr c6
      have c6b1 : (a0 != 224) = false := bne_eq_false_iff_eq.mpr c6
      clear c6
      simp only [Option.some.injEq, Prod.mk.injEq] at H
      obtain ⟨rfl, rfl, rfl⟩ := H
      go_wp2
      go_ret3
      exact ⟨xrr, xdr⟩
     ·
      rw [if_neg c6] at H
      have c6b0 : (a0 == 224) = false := beq_eq_false_iff_ne.mpr c6
      have c6b1 : (a0 != 224) = true := bne_iff_ne.mpr c6
      by_cases c7 : a0 = 237
      ·
       rw [if_pos c7] at H
       have c7b0 : (a0 == 237) = true := beq_iff_eq.mpr c7
       have c7b1 : (a0 != 237) = false := bne_eq_false_iff_eq.mpr c7
       clear c7
       simp only [Option.some.injEq, Prod.mk.injEq] at H
       obtain ⟨rfl, rfl, rfl⟩ := H
       go_wp2
       go_ret3
       exact ⟨xrr, xdr⟩
      ·
       rw [if_neg c7] at H
       have c7b0 : (a0 == 237) = false := beq_eq_false_iff_ne.mpr c7
       have c7b1 : (a0 != 237) = true := bne_iff_ne.mpr c7
       have HC8 := Aside0.mk H
       clear H
       go_upto_region 9 with (fail)
       go_cut [21] (fun v21 wc => ∃ (kq : Nat) (x21_7 : Bool), v21 = .bool x21_7 ∧ Aside0 (utf_shape.j1 kq a0 x21_7 = some (r1, r2, r3)) ∧ Aside0 (kq ≤ kj2) ∧ Drawn0 w wc)
       case first =>
        have H := HC8.out
        clear HC8
        by_cases c9 : a0 ≥ 225
        ·
         rw [if_pos c9] at H
         have c9b0 := decide_eq_true c9
         clear c9
         (first | rw [c9b0] | (simp only [i64_w, i32_w]; rw [c9b0]) | skip)
         have H' := Aside0.mk H
         clear H
         go_wp2
         go_meet
         case rel => exact ⟨_, (decide (a0 ≤ 239)), xrr, H', ⟨by have := HJ2.out; first | omega | exact Nat.le_refl _⟩, xdr⟩
        ·
         rw [if_neg c9] at H
         have c9b0 := decide_eq_false c9
         clear c9
         (first | rw [c9b0] | (simp only [i64_w, i32_w]; rw [c9b0]) | skip)
         have H' := Aside0.mk H
         clear H
         go_wp2
         go_meet
         case rel => exact ⟨_, (false), xrr, H', ⟨by have := HJ2.out; first | omega | exact Nat.le_refl _⟩, xdr⟩
       case rest =>
        clear HC8
        clear c6b0 c6b1 c7b0 c7b1
        obtain ⟨kq, x21_7, rfl, HA, HJ7, ⟨mc7, rfl⟩⟩ := hcut
        cases kq with
        | zero => exact absurd HA.out (by simp [utf_shape.j1])
        | succ kj7 =>
         have H := HA.out
         clear HA
         simp only [utf_shape.j1] at H
         by_cases c10 : x21_7 = true
         ·
          subst c10
          rw [if_pos rfl] at H
          simp only [Option.some.injEq, Prod.mk.injEq] at H
          obtain ⟨rfl, rfl, rfl⟩ := H
          go_wp2
          go_ret3
          exact ⟨xrr, xdr⟩
         ·
          replace c10 := Bool.eq_false_iff.mpr c10
          subst c10
          rw [if_neg (show ¬ (false = true) by decide)] at H
          by_cases c11 : a0 = 240
          ·
           rw [if_pos c11] at H
           have c11b0 : (a0 == 240) = true := beq_iff_eq.mpr c11
           have c11b1 : (a0 != 240) = false := bne_eq_false_iff_eq.mpr c11
           clear c11
           simp only [Option.some.injEq, Prod.mk.injEq] at H
           obtain ⟨rfl, rfl, rfl⟩ := H
           go_wp2
           go_ret3
           exact ⟨xrr, xdr⟩
          ·
           rw [if_neg c11] at H
           have c11b0 : (a0 == 240) = false := beq_eq_false_iff_ne.mpr c11
           have c11b1 : (a0 != 240) = true := bne_iff_ne.mpr c11
           by_cases c12 : a0 = 244
           ·
            rw [if_pos c12] at H
            have c12b0 : (a0 == 244) = true := beq_iff_eq.mpr c12
            have c12b1 : (a0 != 244) = false := bne_eq_false_iff_eq.mpr c12
            clear c12
            simp only [Option.some.injEq, Prod.mk.injEq] at H
            obtain ⟨rfl, rfl, rfl⟩ := H
            go_wp2
            go_ret3
            exact ⟨xrr, xdr⟩
           ·
            rw [if_neg c12] at H
            have c12b0 : (a0 == 244) = false := beq_eq_false_iff_ne.mpr c12
            have c12b1 : (a0 != 244) = true := bne_iff_ne.mpr c12
            by_cases c13 : a0 ≥ 241
            ·
             rw [if_pos c13] at H
             have c13b0 := decide_eq_true c13
             clear c13
             by_cases c14 : a0 ≤ 243
             ·
              rw [if_pos c14] at H
              have c14b0 := decide_eq_true c14
              clear c14
              simp only [Option.some.injEq, Prod.mk.injEq] at H
              obtain ⟨rfl, rfl, rfl⟩ := H
              go_wp2
              go_ret3
              exact ⟨xrr, xdr⟩
             ·
              rw [if_neg c14] at H
              have c14b0 := decide_eq_false c14
              clear c14
              simp only [Option.some.injEq, Prod.mk.injEq] at H
              obtain ⟨rfl, rfl, rfl⟩ := H
              go_wp2
              go_ret3
              exact ⟨xrr, xdr⟩
            ·
             rw [if_neg c13] at H
             have c13b0 := decide_eq_false c13
             clear c13
             simp only [Option.some.injEq, Prod.mk.injEq] at H
             obtain ⟨rfl, rfl, rfl⟩ := H
             go_wp2
             go_ret3
             exact ⟨xrr, xdr⟩
def utf_front.l0 : Nat → ByteArray → Int → Int → Int → Int → Option (Int × Int)
  | 0, _, _, _, _, _ => none
  | k + 1, x0, x4, x5, x6, x7 => if x7 < x4 then (if x7 < (x0.size : Int) then (if 0 ≤ x7 then (if (bt x0 x7) ≥ x5 then (if (bt x0 x7) ≤ x6 then (utf_front.l0 k x0 x4 128 191 (wrap64 (x7 + 1))) else (some (x7, x4))) else (some (x7, x4))) else (none)) else (some (x7, x4))) else (some (x7, x4))
def utf_front.f (k : Nat) (a0 : ByteArray) : Option (Int × Int) := if (a0.size : Int) = 0 then (some (0, 0)) else (if 0 < (a0.size : Int) then ((utf_shape.f k (bt a0 0)).bind fun bt156 => (if bt156.1 = 0 then (some (1, 0)) else (utf_front.l0 k a0 bt156.1 bt156.2.1 bt156.2.2 1))) else (none))
theorem utf_front.mono_l : ∀ k, (∀ y0 y1 y2 y3 y4, LeO (utf_front.l0 k y0 y1 y2 y3 y4) (utf_front.l0 (k + 1) y0 y1 y2 y3 y4))
  | 0 => fun _ _ _ _ _ r h => by simp [utf_front.l0] at h
  | k + 1 => by
    have ih0 := utf_front.mono_l k
    have m0 := @utf_shape.mono
    · intro y0 y1 y2 y3 y4
      unfold utf_front.l0
      exact xmo
theorem utf_front.mono : ∀ a0 k, LeO (utf_front.f k a0) (utf_front.f (k + 1) a0) := by
  intro a0 k
  have ih0 := utf_front.mono_l k
  have m0 := @utf_shape.mono
  unfold utf_front.f
  exact xmo
set_option maxHeartbeats 8000000 in
set_option maxRecDepth 100000 in
theorem utf_front.calls (k : Nat) (a0 : ByteArray) (r1 : Int) (r2 : Int) (w : World) (h : utf_front.f k a0 = some (r1, r2)) :
    Calls Tryd.prog 79 #[.string a0] w fun e w' => e = .returned (.tuple #[.int .i64 r1, .int .i64 r2]) ∧ Drawn0 w w' := by
 have H : (if (a0.size : Int) = 0 then (some (0, 0)) else (if 0 < (a0.size : Int) then ((utf_shape.f k (bt a0 0)).bind fun bt156 => (if bt156.1 = 0 then (some (1, 0)) else (utf_front.l0 k a0 bt156.1 bt156.2.1 bt156.2.2 1))) else (none))) = some (r1, r2) := h
 clear h
 by_cases c2 : (a0.size : Int) = 0
 ·
  rw [if_pos c2] at H
  have c2b0 : ((a0.size : Int) == 0) = true := beq_iff_eq.mpr c2
  have c2b1 : ((a0.size : Int) != 0) = false := bne_eq_false_iff_eq.mpr c2
  clear c2
  simp only [Option.some.injEq, Prod.mk.injEq] at H
  obtain ⟨rfl, rfl⟩ := H
  go_enter Tryd.func79, Tryd.ntmps79
  go_wp2
  go_ret2
  exact ⟨xrr, xdr⟩
 ·
  rw [if_neg c2] at H
  have c2b0 : ((a0.size : Int) == 0) = false := beq_eq_false_iff_ne.mpr c2
  have c2b1 : ((a0.size : Int) != 0) = true := bne_iff_ne.mpr c2
  by_cases c3 : 0 < (a0.size : Int)
  ·
   rw [if_pos c3] at H
   have c3b0 := decide_eq_true c3
   have c3b1 : decide (0 < a0.size) = true := decide_eq_true (by omega)
   clear c3
   replace H := Option.bind_eq_some_iff.mp H
   obtain ⟨⟨t156, t157, t158⟩, A50, H⟩ := H
   try dsimp only at H
   have A5 := Aside0.mk A50
   clear A50
   by_cases c6 : t156 = 0
   ·
    rw [if_pos c6] at H
    have c6b0 : (t156 == 0) = true := beq_iff_eq.mpr c6
    have c6b1 : (t156 != 0) = false := bne_eq_false_iff_eq.mpr c6
    clear c6
    simp only [Option.some.injEq, Prod.mk.injEq] at H
    obtain ⟨rfl, rfl⟩ := H
    have p4 : 0 ≤ (0 : Int) := (by omega)
    have q4 : 0 < a0.size := (by have : (0 : Int) < (a0.size : Int) := xod; omega)
    have hx4 : ∀ h : 0 < a0.size, ((a0[0]'h).toNat : Int) = bt a0 0 := bt_at a0 0
    clear p4
    have qi4 : (0 < (a0.size : Int)) = True := eq_true (xod)
    replace q4 := eq_true q4
    try (have q4x := q4; simp only [ByteArray.size_extract, Nat.min_self] at q4x)
    go_enter Tryd.func79, Tryd.ntmps79
    go_wp2_with (first | ((with_reducible refine gate_callee (f := 97) rfl ?_); refine xgl 14 Tryd.func97 #[.int .u8 (bt a0 0)] ?_; (with_reducible refine (utf_shape.calls k (bt a0 0) t156 t157 t158 _ A5.out).mono ?_); rintro e w' ⟨rfl, ⟨nd, rfl⟩⟩; refine ⟨_, rfl, ?_⟩))
    go_ret2
    exact ⟨xrr, xdr⟩
   ·
    rw [if_neg c6] at H
    have c6b0 : (t156 == 0) = false := beq_eq_false_iff_ne.mpr c6
    have c6b1 : (t156 != 0) = true := bne_iff_ne.mpr c6
    have H' := Aside0.mk H
    clear H
    have p4 : 0 ≤ (0 : Int) := (by omega)
    have q4 : 0 < a0.size := (by have : (0 : Int) < (a0.size : Int) := xod; omega)
    have hx4 : ∀ h : 0 < a0.size, ((a0[0]'h).toNat : Int) = bt a0 0 := bt_at a0 0
    clear p4
    have qi4 : (0 < (a0.size : Int)) = True := eq_true (xod)
    replace q4 := eq_true q4
    try (have q4x := q4; simp only [ByteArray.size_extract, Nat.min_self] at q4x)
    go_enter Tryd.func79, Tryd.ntmps79
    go_wp2_with (first | ((with_reducible refine gate_callee (f := 97) rfl ?_); refine xgl 14 Tryd.func97 #[.int .u8 (bt a0 0)] ?_; (with_reducible refine (utf_shape.calls k (bt a0 0) t156 t157 t158 _ A5.out).mono ?_); rintro e w' ⟨rfl, ⟨nd, rfl⟩⟩; refine ⟨_, rfl, ?_⟩))
    go_loopg [5, 6, 7] k (fun kq v5 v6 v7 w' => ∃ (x5_1 : Int) (x6_1 : Int) (x7_1 : Int), v5 = .int .u8 x5_1 ∧ v6 = .int .u8 x6_1 ∧ v7 = .int .i64 x7_1 ∧ Aside0 (utf_front.l0 kq a0 t156 x5_1 x6_1 x7_1 = some (r1, r2)) ∧ Aside0 (kq ≤ k) ∧ Drawn0 w w')
    case atStart => exact ⟨(t157), (t158), (1), xrr, xrr, xrr, H', ⟨Nat.le_refl _⟩, xdr⟩
    case round =>
     clear H'
     clear c2b0 c2b1 c3b0 c3b1 q4 hx4 qi4 c6b0 c6b1
     obtain ⟨x5_1, x6_1, x7_1, rfl, rfl, rfl, HA, HK1, ⟨m1, rfl⟩⟩ := hrel
     cases gk with
     | zero => exact absurd HA.out (by simp [utf_front.l0])
     | succ k1 =>
      have H := HA.out
      clear HA
      simp only [utf_front.l0] at H
      by_cases c7 : x7_1 < t156
      ·
       rw [if_pos c7] at H
       have c7b0 := decide_eq_true c7
       clear c7
       by_cases c8 : x7_1 < (a0.size : Int)
       ·
        rw [if_pos c8] at H
        have c8b0 := decide_eq_true c8
        clear c8
        by_cases c9 : 0 ≤ x7_1
        ·
         rw [if_pos c9] at H
         have c9b0 := decide_eq_true c9
         clear c9
         by_cases c11 : (bt a0 x7_1) ≥ x5_1
         ·
          rw [if_pos c11] at H
          have c11b0 := decide_eq_true c11
          clear c11
          by_cases c13 : (bt a0 x7_1) ≤ x6_1
          ·
           rw [if_pos c13] at H
           have c13b0 := decide_eq_true c13
           clear c13
           have H' := Aside0.mk H
           clear H
           have p10 : 0 ≤ (x7_1 : Int) := xod
           have q10 : x7_1 < (a0.size : Int) := xod
           have hx10 := bt_at a0 x7_1
           replace p10 := eq_true p10
           replace q10 := eq_true q10
           try (have q10x := q10; simp only [ByteArray.size_extract, Nat.min_self] at q10x)
           have p12 : 0 ≤ (x7_1 : Int) := xod
           have q12 : x7_1 < (a0.size : Int) := xod
           have hx12 := bt_at a0 x7_1
           replace p12 := eq_true p12
           replace q12 := eq_true q12
           try (have q12x := q12; simp only [ByteArray.size_extract, Nat.min_self] at q12x)
           go_wp2
           go_roundg k1
           case measure => have := HK1.out; omega
           case rel => exact ⟨(128), (191), (wrap64 (x7_1 + 1)), xrr, xrr, xrr, H', ⟨by have := HK1.out; omega⟩, xdr⟩
          ·
           rw [if_neg c13] at H
           have c13b0 := decide_eq_false c13
           clear c13
           simp only [Option.some.injEq, Prod.mk.injEq] at H
           obtain ⟨rfl, rfl⟩ := H
           have p10 : 0 ≤ (x7_1 : Int) := xod
           have q10 : x7_1 < (a0.size : Int) := xod
           have hx10 := bt_at a0 x7_1
           replace p10 := eq_true p10
           replace q10 := eq_true q10
           try (have q10x := q10; simp only [ByteArray.size_extract, Nat.min_self] at q10x)
           have p12 : 0 ≤ (x7_1 : Int) := xod
           have q12 : x7_1 < (a0.size : Int) := xod
           have hx12 := bt_at a0 x7_1
           replace p12 := eq_true p12
           replace q12 := eq_true q12
           try (have q12x := q12; simp only [ByteArray.size_extract, Nat.min_self] at q12x)
           go_wp2
           go_ret2
           exact ⟨xrr, xdr⟩
         ·
          rw [if_neg c11] at H
          have c11b0 := decide_eq_false c11
          clear c11
          simp only [Option.some.injEq, Prod.mk.injEq] at H
          obtain ⟨rfl, rfl⟩ := H
          have p10 : 0 ≤ (x7_1 : Int) := xod
          have q10 : x7_1 < (a0.size : Int) := xod
          have hx10 := bt_at a0 x7_1
          replace p10 := eq_true p10
          replace q10 := eq_true q10
          try (have q10x := q10; simp only [ByteArray.size_extract, Nat.min_self] at q10x)
          go_wp2
          go_ret2
          exact ⟨xrr, xdr⟩
        ·
         rw [if_neg c9] at H
         exact absurd H (by simp)
       ·
        rw [if_neg c8] at H
        have c8b0 := decide_eq_false c8
        clear c8
        simp only [Option.some.injEq, Prod.mk.injEq] at H
        obtain ⟨rfl, rfl⟩ := H
        go_wp2
        go_ret2
        exact ⟨xrr, xdr⟩
      ·
       rw [if_neg c7] at H
       have c7b0 := decide_eq_false c7
       clear c7
       simp only [Option.some.injEq, Prod.mk.injEq] at H
       obtain ⟨rfl, rfl⟩ := H
       go_wp2
       go_ret2
       exact ⟨xrr, xdr⟩
  ·
   rw [if_neg c3] at H
   exact absurd H (by simp)
end Go.Proofs.YticohlbfolnmpaaDoor.X
