/- Texts that the law's proof needs, joined by a program of this session. -/
import Derived.Test.YticohlbfolnmpaaDoorZIpShort1
import Derived.Test.YticohlbfolnmpaaDoorZIpShort2
import Derived.Test.YticohlbfolnmpaaDoorZIpShort3
set_option maxHeartbeats 8000000
set_option maxRecDepth 100000
set_option linter.unusedSimpArgs false
set_option linter.unusedVariables false
namespace Go.Proofs.YticohlbfolnmpaaDoor.X
open Go.RowKit Go.Proofs.YticohlbfolnmpaaDoorW.PrintWords Go.Proofs.YticohlbfolnmpaaDoorW.PrintLast Go.Proofs.YticohlbfolnmpaaDoorW.PrintMore
attribute [local go_sem] bA bn cl dg dO cA dh cu cw cY cZ ci cj cv cx
mutual
def bB : Nat → ByteArray → ByteArray → Int → Option (Int)
  | 0, _, _, _ => none
  | k + 1, x0, x2, x7 => if x7 < (x0.size : Int) then (bQ k x0 x2 x7 (x2.size : Int) 0) else (some (-1))
def bQ : Nat → ByteArray → ByteArray → Int → Int → Int → Option (Int)
  | 0, _, _, _, _, _ => none
  | k + 1, x0, x2, x7, x18, x19 => if x19 < x18 then (if 0 ≤ x7 then (if x7 < (x0.size : Int) then (if 0 ≤ x19 then (if x19 < (x2.size : Int) then (if (bt x0 x7) = (bt x2 x19) then (some x7) else (bQ k x0 x2 x7 x18 (wrap64 (x19 + 1)))) else (none)) else (none)) else (none)) else (none)) else (bB k x0 x2 (wrap64 (x7 + 1)))
end
def cy (k : Nat) (a0 : ByteArray) (a1 : Int) (a2 : ByteArray) : Option (Int) := bB k a0 a2 (mx a1 0)
theorem eU : ∀ k, (∀ y0 y1 y2, LeO (bB k y0 y1 y2) (bB (k + 1) y0 y1 y2)) ∧ (∀ y0 y1 y2 y3 y4, LeO (bQ k y0 y1 y2 y3 y4) (bQ (k + 1) y0 y1 y2 y3 y4))
  | 0 => ⟨fun _ _ _ r h => by simp [bB] at h, fun _ _ _ _ _ r h => by simp [bQ] at h⟩
  | k + 1 => by
    obtain ⟨ih0, ih1⟩ := eU k
    refine ⟨?_, ?_⟩
    · intro y0 y1 y2
      unfold bB
      exact xmo
    · intro y0 y1 y2 y3 y4
      unfold bQ
      exact xmo
theorem g2 : ∀ a0 a1 a2 k, LeO (cy k a0 a1 a2) (cy (k + 1) a0 a1 a2) := by
  intro a0 a1 a2 k
  obtain ⟨ih0, ih1⟩ := eU k
  unfold cy
  exact xmo
theorem gU (k : Nat) (a0 : ByteArray) (a1 : Int) (a2 : ByteArray) (r : Int) (w : World) (h : cy k a0 a1 a2 = some r) :
    Calls Tryd.prog 45 #[.string a0, .int .i64 a1, .string a2] w fun e w' => e = .returned (.int .i64 r) ∧ Below w.heap.size w w' := by
 have HB := Zz.mk (Below.refl w.heap.size w)
 have H : (bB k a0 a2 (mx a1 0)) = some r := h
 clear h
 obtain ⟨Ah, Ac⟩ : ∃ j_ : Int, (mx a1 0) = j_ := ⟨_, rfl⟩
 first | rw [Ac] at H | simp only [Ac] at H | skip
 (try (have Ak : 0 ≤ Ah := by (rw [← Ac]; unfold mx; (repeat' split) <;> omega)))
 (try (have Al : 0 ≤ Ah := by omega))
 have hji4_ : (if a1 < 0 then 0 else a1) = Ah := Ac
 have H' := Zz.mk H
 clear H
 go_enter Tryd.func45, Tryd.ntmps45
 go_wp2
 repeat (go_quiet (fail); try go_wp2)
 go_loopg [7] k (fun kq v7 w' => ∃ (Ab : Int), v7 = .int .i64 Ab ∧ Zz (bB kq a0 a2 Ab = some r) ∧ Zz (kq ≤ k) ∧ Zz (Below w.heap.size w w'))
 case atStart => exact ⟨(Ah), (by first | rfl | (simp; done) | (simp only [← Ac] <;> (first | rfl | simp)) | (simp [*]; done) | (simp [wrap64]; done)), H', ⟨Nat.le_refl _⟩, ⟨xbl⟩⟩
 case round =>
  clear H'
  obtain ⟨Ab, rfl, HA, HK1, HB⟩ := hrel
  cases gk with
  | zero => exact absurd HA.out (by simp [bB])
  | succ k1 =>
   have H := HA.out
   clear HA
   simp only [bB] at H
   by_cases c5 : Ab < (a0.size : Int)
   ·
    rw [if_pos c5] at H
    have Ae := decide_eq_true c5
    clear c5
    have H' := Zz.mk H
    clear H
    go_wp2
    repeat (go_quiet (fail); try go_wp2)
    go_loopg [19] k1 (fun kq v19 w' => ∃ (Aa : Int), v19 = .int .i64 Aa ∧ Zz (bQ kq a0 a2 Ab (a2.size : Int) Aa = some r) ∧ Zz (kq ≤ k1) ∧ Zz (Below w.heap.size w w'))
    case atStart => exact ⟨(0), xrr, H', ⟨Nat.le_refl _⟩, ⟨xbl⟩⟩
    case round =>
     clear H'
     clear Ae
     obtain ⟨Aa, rfl, HA, HK2, HB⟩ := hrel
     cases gk with
     | zero => exact absurd HA.out (by simp [bQ])
     | succ k2 =>
      have H := HA.out
      clear HA
      simp only [bQ] at H
      by_cases c6 : Aa < (a2.size : Int)
      ·
       rw [if_pos c6] at H
       have Ai := decide_eq_true c6
       clear c6
       by_cases c7 : 0 ≤ Ab
       ·
        rw [if_pos c7] at H
        have Ao := decide_eq_true c7
        clear c7
        by_cases c8 : Ab < (a0.size : Int)
        ·
         rw [if_pos c8] at H
         have Ap := decide_eq_true c8
         clear c8
         by_cases c10 : 0 ≤ Aa
         ·
          rw [if_pos c10] at H
          have Am := decide_eq_true c10
          clear c10
          by_cases c11 : Aa < (a2.size : Int)
          ·
           rw [if_pos c11] at H
           have An := decide_eq_true c11
           clear c11
           by_cases c13 : (bt a0 Ab) = (bt a2 Aa)
           ·
            rw [if_pos c13] at H
            have Af : ((bt a0 Ab) == (bt a2 Aa)) = true := beq_iff_eq.mpr c13
            have Ag : ((bt a0 Ab) != (bt a2 Aa)) = false := bne_eq_false_iff_eq.mpr c13
            clear c13
            obtain rfl := Option.some.inj H
            have p9 : 0 ≤ (Ab : Int) := xod
            have q9 : Ab < (a0.size : Int) := xod
            have hx9 := ax a0 Ab
            replace p9 := eq_true p9
            replace q9 := eq_true q9
            try (have Aj := q9; simp only [ByteArray.size_extract, Nat.min_self] at Aj)
            have p12 : 0 ≤ (Aa : Int) := xod
            have q12 : Aa < (a2.size : Int) := xod
            have hx12 := ax a2 Aa
            replace p12 := eq_true p12
            replace q12 := eq_true q12
            try (have Ad := q12; simp only [ByteArray.size_extract, Nat.min_self] at Ad)
            go_wp2
            repeat (go_quiet (fail); try go_wp2)
            go_ret
            exact ⟨by first | rfl | (simp [ap, aq] <;> first | rfl | (simp only [bi, bne, Bool.not_not]; done)) | (simp only [← Ac]; first | rfl | (simp [ap, aq] <;> rfl)) | (simp [*, ap, aq] <;> rfl), xbl⟩
           ·
            rw [if_neg c13] at H
            have Af : ((bt a0 Ab) == (bt a2 Aa)) = false := beq_eq_false_iff_ne.mpr c13
            have Ag : ((bt a0 Ab) != (bt a2 Aa)) = true := bne_iff_ne.mpr c13
            have H' := Zz.mk H
            clear H
            have p9 : 0 ≤ (Ab : Int) := xod
            have q9 : Ab < (a0.size : Int) := xod
            have hx9 := ax a0 Ab
            replace p9 := eq_true p9
            replace q9 := eq_true q9
            try (have Aj := q9; simp only [ByteArray.size_extract, Nat.min_self] at Aj)
            have p12 : 0 ≤ (Aa : Int) := xod
            have q12 : Aa < (a2.size : Int) := xod
            have hx12 := ax a2 Aa
            replace p12 := eq_true p12
            replace q12 := eq_true q12
            try (have Ad := q12; simp only [ByteArray.size_extract, Nat.min_self] at Ad)
            go_wp2
            repeat (go_quiet (fail); try go_wp2)
            go_roundg k2
            case measure => have := HK1.out; have := HK2.out; omega
            case rel => exact ⟨(wrap64 (Aa + 1)), xrr, H', ⟨by have := HK1.out; have := HK2.out; omega⟩, ⟨xbl⟩⟩
          ·
           rw [if_neg c11] at H
           exact absurd H (by simp)
         ·
          rw [if_neg c10] at H
          exact absurd H (by simp)
        ·
         rw [if_neg c8] at H
         exact absurd H (by simp)
       ·
        rw [if_neg c7] at H
        exact absurd H (by simp)
      ·
       rw [if_neg c6] at H
       have Ai := decide_eq_false c6
       clear c6
       have H' := Zz.mk H
       clear H
       go_wp2
       repeat (go_quiet (fail); try go_wp2)
       go_roundg k2
       case measure => have := HK1.out; have := HK2.out; omega
       case rel => exact ⟨(wrap64 (Ab + 1)), xrr, H', ⟨by have := HK1.out; have := HK2.out; omega⟩, ⟨xbl⟩⟩
   ·
    rw [if_neg c5] at H
    have Ae := decide_eq_false c5
    clear c5
    obtain rfl := Option.some.inj H
    go_wp2
    repeat (go_quiet (fail); try go_wp2)
    go_ret
    exact ⟨by first | rfl | (simp [ap, aq] <;> first | rfl | (simp only [bi, bne, Bool.not_not]; done)) | (simp only [← Ac]; first | rfl | (simp [ap, aq] <;> rfl)) | (simp [*, ap, aq] <;> rfl), xbl⟩
def cG (k : Nat) (a0 : Int) (a1 : Int) : Option (Bool) := (dv a0).bind fun bt143 => (if bt143.2 = true then ((ce k a1 15).bind fun t145 => (if t145 = true then (some true) else ((cy k bt143.1 0 (strOfNums (([a1] : List Int)))).bind fun t149 => (some (decide (t149 ≥ 0)))))) else (some false))
theorem dq : ∀ a0 a1 k, LeO (cG k a0 a1) (cG (k + 1) a0 a1) := by
  intro a0 a1 k
  have m0 := @g2; have m1 := @cn
  unfold cG
  exact xmo
theorem dR (k : Nat) (a0 : Int) (a1 : Int) (r : Bool) (w : World) (h : cG k a0 a1 = some r) :
    Calls Tryd.prog 28 #[.int .i64 a0, .int .u8 a1] w fun e w' => e = .returned (.bool r) ∧ Below w.heap.size w w' := by
 have HB := Zz.mk (Below.refl w.heap.size w)
 have H : ((dv a0).bind fun Ae => (if Ae.2 = true then ((ce k a1 15).bind fun Ag => (if Ag = true then (some true) else ((cy k Ae.1 0 (strOfNums (([a1] : List Int)))).bind fun Ab => (some (decide (Ab ≥ 0)))))) else (some false))) = some r := h
 clear h
 replace H := Option.bind_eq_some_iff.mp H
 obtain ⟨⟨Ac, Ai⟩, A30, H⟩ := H
 try dsimp only at H
 have A3 := Zz.mk A30
 clear A30
 by_cases c4 : Ai = true
 ·
  subst c4
  rw [if_pos rfl] at H
  replace H := Option.bind_eq_some_iff.mp H
  obtain ⟨Ag, A50, H⟩ := H
  try dsimp only at H
  have A5 := Zz.mk A50
  clear A50
  by_cases c6 : Ag = true
  ·
   subst c6
   rw [if_pos rfl] at H
   obtain rfl := Option.some.inj H
   go_enter Tryd.func28, Tryd.ntmps28
   go_wp2_with (first | ((with_reducible refine ae (f := 44) rfl ?_); refine xgl 9 Tryd.func44 #[.int .i64 a0] ?_; (with_reducible refine (aZ a0 Ac true _ A3.out).mono ?_); rintro e w' ⟨rfl, ⟨nd, rfl⟩⟩; refine ⟨_, rfl, ?_⟩) | ((with_reducible refine ae (f := 40) rfl ?_); refine xgl 15 Tryd.func40 #[.int .u8 a1, .int .i64 15] ?_; (with_reducible refine (bS k a1 15 true _ A5.out).mono ?_); rintro e w' ⟨rfl, ⟨nd, rfl⟩⟩; refine ⟨_, rfl, ?_⟩))
   go_ret
   exact ⟨xre, xbl⟩
  ·
   replace c6 := Bool.eq_false_iff.mpr c6
   subst c6
   rw [if_neg (show ¬ (false = true) by decide)] at H
   obtain ⟨Ah, Aa⟩ : ∃ y_ : List Int, y_ = (([a1] : List Int)) := ⟨_, rfl⟩
   replace H : ((cy k Ac 0 (strOfNums Ah)).bind fun Ab => (some (decide (Ab ≥ 0)))) = some r := by first | (rw [Aa]; with_reducible exact H) | (have H2_ := (Option.bind_some _ _).symm.trans H; rw [Aa]; with_reducible exact H2_) | (have H2_ := (Option.bind_some _ _).symm.trans H; with_reducible exact H2_) | with_reducible exact H | (rw [Aa]; exact H) | exact H
   have Af := Zz.mk Aa
   clear Aa
   replace H := Option.bind_eq_some_iff.mp H
   obtain ⟨Ab, A70, H⟩ := H
   try dsimp only at H
   have A7 := Zz.mk A70
   clear A70
   obtain rfl := Option.some.inj H
   go_enter Tryd.func28, Tryd.ntmps28
   go_wp2_with (first | ((with_reducible refine ae (f := 44) rfl ?_); refine xgl 9 Tryd.func44 #[.int .i64 a0] ?_; (with_reducible refine (aZ a0 Ac true _ A3.out).mono ?_); rintro e w' ⟨rfl, ⟨nd, rfl⟩⟩; refine ⟨_, rfl, ?_⟩) | ((with_reducible refine ae (f := 40) rfl ?_); refine xgl 15 Tryd.func40 #[.int .u8 a1, .int .i64 15] ?_; (with_reducible refine (bS k a1 15 false _ A5.out).mono ?_); rintro e w' ⟨rfl, ⟨nd, rfl⟩⟩; refine ⟨_, rfl, ?_⟩) | ((with_reducible refine ay (N := 19) rfl ?_); (try (refine dP (by rfl) ?_; dsimp only)); refine Kd.R_lit (Kd.int .u8) _ 5 ?hg (N := 19) ?hd (xs := ([a1] : List Int)) (inner := [.int .u8 a1]) (ok := fun _ => True) (okp := fun _ => True) ?hr ?hp (fun _ hk => hk) trivial (Below.refl _ _) (Nat.le_refl _) (by simp) ?_; (case hd => rfl); (case hg => rfl); (case hr => first | (go_simp; done) | (go_simp; rfl)); (case hp => exact (Reps.one (show Kd.M (Kd.int .u8) _ _ _ a1 [.int .u8 a1] from rfl) (Reps.none _ _))); intro v147 w8 ho9 hb hg_ hnew_; clear hg_ hnew_; (first | rw [← Af.out] at ho9 | (simp only [Int.reduceToNat] at ho9; rw [← Af.out] at ho9)); have Ad := Zz.mk (Kd.R_lower ho9 (co xbl)); replace HB := xst hb; clear hb ho9; have hcv10 := ja (P := Tryd.prog) Tryd.underlying77 Tryd.underlying5 Tryd.underlying9 (Kd.own_of_R Ad.out)) | (go_at_call 45; (with_reducible refine (gU k Ac 0 (strOfNums Ah) Ab _ A7.out).mono ?_); rintro e w11 ⟨rfl, hb⟩; replace Ad := Zz.mk (Kd.R_below (xkd Ad) hb); replace HB := xst hb; (try clear hb)))
   go_ret
   exact ⟨xre, xbl⟩
 ·
  replace c4 := Bool.eq_false_iff.mpr c4
  subst c4
  rw [if_neg (show ¬ (false = true) by decide)] at H
  obtain rfl := Option.some.inj H
  go_enter Tryd.func28, Tryd.ntmps28
  go_wp2_with (first | ((with_reducible refine ae (f := 44) rfl ?_); refine xgl 9 Tryd.func44 #[.int .i64 a0] ?_; (with_reducible refine (aZ a0 Ac false _ A3.out).mono ?_); rintro e w' ⟨rfl, ⟨nd, rfl⟩⟩; refine ⟨_, rfl, ?_⟩))
  go_ret
  exact ⟨xre, xbl⟩
mutual
def bu : Nat → ByteArray → Bool → Option (Bool)
  | 0, _, _ => none
  | k + 1, x0, Ab => if Ab = true then (some false) else (if 1 ≤ (x0.size : Int) then ((dM k (x0.extract 1 x0.size) 32).bind fun Aa => (if 0 ≤ (wrap64 (1 + Aa)) then (if (wrap64 (1 + Aa)) ≤ (x0.size : Int) then (if Aa = 0 then (bN k (x0.extract ((wrap64 (1 + Aa)) : Int).toNat x0.size) true) else (if ((x0.extract ((wrap64 (1 + Aa)) : Int).toNat x0.size).size : Int) < 2 then (bN k (x0.extract ((wrap64 (1 + Aa)) : Int).toNat x0.size) true) else (if 0 < ((x0.extract ((wrap64 (1 + Aa)) : Int).toNat x0.size).size : Int) then (bN k (x0.extract ((wrap64 (1 + Aa)) : Int).toNat x0.size) ((bt (x0.extract ((wrap64 (1 + Aa)) : Int).toNat x0.size) 0) != 46)) else (none)))) else (none)) else (none))) else (none))
def bN : Nat → ByteArray → Bool → Option (Bool)
  | 0, _, _ => none
  | k + 1, x4, x32 => if x32 = true then (some false) else (bT k x4 1)
def bT : Nat → ByteArray → Int → Option (Bool)
  | 0, _, _ => none
  | k + 1, x4, x5 => if x5 < (x4.size : Int) then (if 0 ≤ x5 then ((cG k 1 (bt x4 x5)).bind fun t151 => (if t151 = true then (bT k x4 (wrap64 (x5 + 1))) else (some false))) else (none)) else (some true)
end
def dU (k : Nat) (a0 : ByteArray) : Option (Bool) := if a0.toList = ([] : List UInt8) then (bu k a0 true) else (if 0 < (a0.size : Int) then (bu k a0 ((Go.bits .or .u8 (bt a0 0) 32) != 118)) else (none))
theorem fb : ∀ k, (∀ y0 y1, LeO (bu k y0 y1) (bu (k + 1) y0 y1)) ∧ (∀ y0 y1, LeO (bN k y0 y1) (bN (k + 1) y0 y1)) ∧ (∀ y0 y1, LeO (bT k y0 y1) (bT (k + 1) y0 y1))
  | 0 => ⟨fun _ _ r h => by simp [bu] at h, fun _ _ r h => by simp [bN] at h, fun _ _ r h => by simp [bT] at h⟩
  | k + 1 => by
    obtain ⟨ih0, ih1, ih2⟩ := fb k
    have m0 := @dq; have m1 := @fu
    refine ⟨?_, ?_, ?_⟩
    · intro y0 y1
      unfold bu
      exact xmo
    · intro y0 y1
      unfold bN
      exact xmo
    · intro y0 y1
      unfold bT
      exact xmo
theorem fJ : ∀ a0 k, LeO (dU k a0) (dU (k + 1) a0) := by
  intro a0 k
  obtain ⟨ih0, ih1, ih2⟩ := fb k
  have m0 := @dq; have m1 := @fu
  unfold dU
  exact xmo
theorem fm (k : Nat) (a0 : ByteArray) (r : Bool) (w : World) (h : dU k a0 = some r) :
    Calls Tryd.prog 12 #[.string a0] w fun e w' => e = .returned (.bool r) ∧ Below w.heap.size w w' := by
 have HB := Zz.mk (Below.refl w.heap.size w)
 have H : (if a0.toList = ([] : List UInt8) then (bu k a0 true) else (if 0 < (a0.size : Int) then (bu k a0 ((Go.bits .or .u8 (bt a0 0) 32) != 118)) else (none))) = some r := h
 clear h
 have AA := Zz.mk H
 clear H
 go_enter Tryd.func12, Tryd.ntmps12
 go_upto_region 1 with (fail)
 go_cut [13] (fun v13 wc => ∃ (kq : Nat) (Ai : Bool), v13 = .bool Ai ∧ Zz (bu kq a0 Ai = some r) ∧ Zz (kq ≤ k) ∧ Zz (Below w.heap.size w wc))
 case first =>
  have H := AA.out
  clear AA
  by_cases c3 : a0.toList = ([] : List UInt8)
  ·
   rw [if_pos c3] at H
   have Aj : (a0.toList == ([] : List UInt8)) = true := beq_iff_eq.mpr c3
   have AB : (a0.toList != ([] : List UInt8)) = false := bne_eq_false_iff_eq.mpr c3
   (try (have Al : a0.toList.isEmpty = true := by simpa using c3))
   clear c3
   (first | rw [Aj] | (simp only [aC, aI]; rw [Aj]) | (rw [Al]; (try simp only [Bool.not_false, Bool.not_true])) | (rw [AC]; (try simp only [Bool.not_false, Bool.not_true])) | skip)
   have H' := Zz.mk H
   clear H
   go_wp2
   go_meet
   case rel => exact ⟨_, (true), xrr, H', ⟨xom⟩, ⟨xbl⟩⟩
  ·
   rw [if_neg c3] at H
   have Aj : (a0.toList == ([] : List UInt8)) = false := beq_eq_false_iff_ne.mpr c3
   have AB : (a0.toList != ([] : List UInt8)) = true := bne_iff_ne.mpr c3
   (try (have Al : a0.toList.isEmpty = false := by simpa using c3))
   (first | rw [Aj] | (simp only [aC, aI]; rw [Aj]) | (rw [Al]; (try simp only [Bool.not_false, Bool.not_true])) | (rw [AC]; (try simp only [Bool.not_false, Bool.not_true])) | skip)
   by_cases c4 : 0 < (a0.size : Int)
   ·
    rw [if_pos c4] at H
    have AM := decide_eq_true c4
    have AN : decide (0 < a0.size) = true := decide_eq_true (by omega)
    clear c4
    have H' := Zz.mk H
    clear H
    have p5 : 0 ≤ (0 : Int) := (by omega)
    have q5 : 0 < a0.size := (by have : (0 : Int) < (a0.size : Int) := xod; omega)
    have hx5 : ∀ h : 0 < a0.size, ((a0[0]'h).toNat : Int) = bt a0 0 := ax a0 0
    clear p5
    have AQ : (0 < (a0.size : Int)) = True := eq_true (xod)
    replace q5 := eq_true q5
    try (have AO := q5; simp only [ByteArray.size_extract, Nat.min_self] at AO)
    go_wp2
    go_meet
    case rel => exact ⟨_, (((Go.bits .or .u8 (bt a0 0) 32) != 118)), xrr, H', ⟨xom⟩, ⟨xbl⟩⟩
   ·
    rw [if_neg c4] at H
    exact absurd H (by simp)
 case rest =>
  clear AA
  obtain ⟨kq, Ai, rfl, HA, HJ1, HB⟩ := hcut
  cases kq with
  | zero => exact absurd HA.out (by simp [bu])
  | succ kj1 =>
   have H := HA.out
   clear HA
   simp only [bu] at H
   by_cases c6 : Ai = true
   ·
    subst c6
    rw [if_pos rfl] at H
    obtain rfl := Option.some.inj H
    go_wp2
    go_ret
    exact ⟨xre, xbl⟩
   ·
    replace c6 := Bool.eq_false_iff.mpr c6
    subst c6
    rw [if_neg (show ¬ (false = true) by decide)] at H
    by_cases c7 : 1 ≤ (a0.size : Int)
    ·
     rw [if_pos c7] at H
     have AD := eq_true c7
     have AE := decide_eq_true c7
     clear c7
     obtain ⟨AI, Ah⟩ : ∃ j_ : ByteArray, (a0.extract 1 a0.size) = j_ := ⟨_, rfl⟩
     try (have Ap := Ah; simp only [Int.toNat_natCast] at Ap)
     first | rw [Ah] at H | simp only [Ah] at H | skip
     replace H := Option.bind_eq_some_iff.mp H
     obtain ⟨Af, A90, H⟩ := H
     try dsimp only at H
     have A9 := Zz.mk A90
     clear A90
     obtain ⟨Ak, Ad⟩ : ∃ j_ : Int, (wrap64 (1 + Af)) = j_ := ⟨_, rfl⟩
     first | rw [Ad] at H | simp only [Ad] at H | skip
     (try rw [Ad] at A9)
     have AF : (IntKind.i64.wrap (1 + Af)) = Ak := (aC _).trans Ad
     by_cases c11 : 0 ≤ (Ak)
     ·
      rw [if_pos c11] at H
      have Aq := eq_true c11
      have Ar := decide_eq_true c11
      clear c11
      by_cases c12 : (Ak) ≤ (a0.size : Int)
      ·
       rw [if_pos c12] at H
       have As := eq_true c12
       have At := decide_eq_true c12
       clear c12
       obtain ⟨Aa, Ac⟩ : ∃ j_ : ByteArray, (a0.extract ((Ak) : Int).toNat a0.size) = j_ := ⟨_, rfl⟩
       try (have Am := Ac; simp only [Int.toNat_natCast] at Am)
       first | rw [Ac] at H | simp only [Ac] at H | skip
       (try rw [Ac] at A9)
       have An := Zz.mk H
       clear H
       go_upto_region 5 with (first | ((with_reducible refine ae (f := 27) rfl ?_); refine bc (some 16) rfl rfl Tryd.func27 (by kernel_rfl) rfl #[.string AI, .int .i64 32] rfl (by (try simp only [List.map_toArray, List.map_cons, List.map_nil]); first | done | (simp only [Ah]; rfl) | rfl | (simp only [List.length_drop, List.length_take]; rfl)) ?_; (with_reducible refine (gV kj1 AI 32 Af _ A9.out).mono ?_); rintro e w' ⟨rfl, ⟨nd, rfl⟩⟩; refine ⟨_, rfl, ?_⟩))
       (try simp only [Act.put, List.setIfInBounds_toArray, List.set_cons_zero, List.set_cons_succ])
       go_cut [32] (fun v32 wc => ∃ (kq : Nat) (Ae : Bool), v32 = .bool Ae ∧ Zz (bN kq Aa Ae = some r) ∧ Zz (kq ≤ kj1) ∧ Zz (Below w.heap.size w wc))
       case first =>
        have H := An.out
        clear An
        by_cases c15 : Af = 0
        ·
         rw [if_pos c15] at H
         have Ag : (Af == 0) = true := beq_iff_eq.mpr c15
         have Au : (Af != 0) = false := bne_eq_false_iff_eq.mpr c15
         clear c15
         (first | rw [Ag] | (simp only [aC, aI]; rw [Ag]) | (rw [Av]; (try simp only [Bool.not_false, Bool.not_true])) | (rw [Aw]; (try simp only [Bool.not_false, Bool.not_true])) | skip)
         have H' := Zz.mk H
         clear H
         go_wp2
         go_meet
         case rel => exact ⟨_, (true), xrr, H', ⟨by have := HJ1.out; first | omega | exact Nat.le_refl _⟩, ⟨xbl⟩⟩
        ·
         rw [if_neg c15] at H
         have Ag : (Af == 0) = false := beq_eq_false_iff_ne.mpr c15
         have Au : (Af != 0) = true := bne_iff_ne.mpr c15
         (first | rw [Ag] | (simp only [aC, aI]; rw [Ag]) | (rw [Av]; (try simp only [Bool.not_false, Bool.not_true])) | (rw [Aw]; (try simp only [Bool.not_false, Bool.not_true])) | skip)
         by_cases c16 : ((Aa).size : Int) < 2
         ·
          rw [if_pos c16] at H
          have Ax := decide_eq_true c16
          have Ay : decide ((Aa).size < 2) = true := decide_eq_true (by omega)
          clear c16
          have H' := Zz.mk H
          clear H
          go_wp2
          go_meet
          case rel => exact ⟨_, (true), xrr, H', ⟨by have := HJ1.out; first | omega | exact Nat.le_refl _⟩, ⟨xbl⟩⟩
         ·
          rw [if_neg c16] at H
          have Ax := decide_eq_false c16
          have Ay : decide ((Aa).size < 2) = false := decide_eq_false (by omega)
          clear c16
          by_cases c17 : 0 < ((Aa).size : Int)
          ·
           rw [if_pos c17] at H
           have AJ := decide_eq_true c17
           have AK : decide (0 < (Aa).size) = true := decide_eq_true (by omega)
           clear c17
           have H' := Zz.mk H
           clear H
           have p18 : 0 ≤ (0 : Int) := (by omega)
           have q18 : 0 < Aa.size := (by have : (0 : Int) < (Aa.size : Int) := xod; omega)
           have hx18 : ∀ h : 0 < Aa.size, ((Aa[0]'h).toNat : Int) = bt Aa 0 := ax Aa 0
           clear p18
           have AP : (0 < (Aa.size : Int)) = True := eq_true (xod)
           replace q18 := eq_true q18
           try (have AG := q18; simp only [ByteArray.size_extract, Nat.min_self] at AG)
           go_wp2
           go_meet
           case rel => exact ⟨_, (((bt (Aa) 0) != 46)), (by first | rfl | (simp; done) | (simp only [← Ac] <;> (first | rfl | simp)) | (simp [*]; done) | (simp [wrap64]; done)), H', ⟨by have := HJ1.out; first | omega | exact Nat.le_refl _⟩, ⟨xbl⟩⟩
          ·
           rw [if_neg c17] at H
           exact absurd H (by simp)
       case rest =>
        clear An
        clear AD AE Aq Ar As At
        obtain ⟨kq, Ae, rfl, HA, HJ13, HB⟩ := hcut
        cases kq with
        | zero => exact absurd HA.out (by simp [bN])
        | succ kj13 =>
         have H := HA.out
         clear HA
         simp only [bN] at H
         by_cases c19 : Ae = true
         ·
          subst c19
          rw [if_pos rfl] at H
          obtain rfl := Option.some.inj H
          go_wp2
          go_ret
          exact ⟨by first | rfl | (simp [ap, aq] <;> first | rfl | (simp only [bi, bne, Bool.not_not]; done)) | (simp only [← Ah, ← Ad, ← Ac]; first | rfl | (simp [ap, aq] <;> rfl)) | (simp [*, ap, aq] <;> rfl), xbl⟩
         ·
          replace c19 := Bool.eq_false_iff.mpr c19
          subst c19
          rw [if_neg (show ¬ (false = true) by decide)] at H
          have H' := Zz.mk H
          clear H
          go_wp2
          go_loopg [5] kj13 (fun kq v5 w' => ∃ (Ab : Int), v5 = .int .i64 Ab ∧ Zz (bT kq Aa Ab = some r) ∧ Zz (kq ≤ kj13) ∧ Zz (Below w.heap.size w w'))
          case atStart => exact ⟨(1), xrr, H', ⟨Nat.le_refl _⟩, ⟨xbl⟩⟩
          case round =>
           clear H'
           obtain ⟨Ab, rfl, HA, HK3, HB⟩ := hrel
           cases gk with
           | zero => exact absurd HA.out (by simp [bT])
           | succ k3 =>
            have H := HA.out
            clear HA
            simp only [bT] at H
            by_cases c20 : Ab < (Aa.size : Int)
            ·
             rw [if_pos c20] at H
             have Az := decide_eq_true c20
             clear c20
             by_cases c21 : 0 ≤ Ab
             ·
              rw [if_pos c21] at H
              have AL := decide_eq_true c21
              clear c21
              replace H := Option.bind_eq_some_iff.mp H
              obtain ⟨AH, A230, H⟩ := H
              try dsimp only at H
              have A23 := Zz.mk A230
              clear A230
              by_cases c24 : AH = true
              ·
               subst c24
               rw [if_pos rfl] at H
               have H' := Zz.mk H
               clear H
               have p22 : 0 ≤ (Ab : Int) := xod
               have q22 : Ab < (Aa.size : Int) := xod
               have hx22 := ax Aa Ab
               replace p22 := eq_true p22
               replace q22 := eq_true q22
               try (have Ao := q22; simp only [ByteArray.size_extract, Nat.min_self] at Ao)
               go_wp2_with (first | ((with_reducible refine ae (f := 28) rfl ?_); refine bc (some 42) rfl rfl Tryd.func28 (by kernel_rfl) rfl #[.int .i64 1, .int .u8 (bt Aa Ab)] rfl (by (try simp only [List.map_toArray, List.map_cons, List.map_nil]); first | done | (simp only [Ac]; rfl) | rfl | (simp only [List.length_drop, List.length_take]; rfl)) ?_; (with_reducible refine (dR k3 1 (bt Aa Ab) true _ A23.out).mono ?_); rintro e w25 ⟨rfl, hb⟩; refine ⟨_, rfl, ?_⟩; replace HB := xst hb; (try clear hb)))
               go_roundg k3
               case measure => have := HJ1.out; have := HJ13.out; have := HK3.out; omega
               case rel => exact ⟨(wrap64 (Ab + 1)), xrr, H', ⟨by have := HJ1.out; have := HJ13.out; have := HK3.out; omega⟩, ⟨xbl⟩⟩
              ·
               replace c24 := Bool.eq_false_iff.mpr c24
               subst c24
               rw [if_neg (show ¬ (false = true) by decide)] at H
               obtain rfl := Option.some.inj H
               have p22 : 0 ≤ (Ab : Int) := xod
               have q22 : Ab < (Aa.size : Int) := xod
               have hx22 := ax Aa Ab
               replace p22 := eq_true p22
               replace q22 := eq_true q22
               try (have Ao := q22; simp only [ByteArray.size_extract, Nat.min_self] at Ao)
               go_wp2_with (first | ((with_reducible refine ae (f := 28) rfl ?_); refine bc (some 42) rfl rfl Tryd.func28 (by kernel_rfl) rfl #[.int .i64 1, .int .u8 (bt Aa Ab)] rfl (by (try simp only [List.map_toArray, List.map_cons, List.map_nil]); first | done | (simp only [Ac]; rfl) | rfl | (simp only [List.length_drop, List.length_take]; rfl)) ?_; (with_reducible refine (dR k3 1 (bt Aa Ab) false _ A23.out).mono ?_); rintro e w26 ⟨rfl, hb⟩; refine ⟨_, rfl, ?_⟩; replace HB := xst hb; (try clear hb)))
               go_ret
               exact ⟨by first | rfl | (simp [ap, aq] <;> first | rfl | (simp only [bi, bne, Bool.not_not]; done)) | (simp only [← Ah, ← Ad, ← Ac]; first | rfl | (simp [ap, aq] <;> rfl)) | (simp [*, ap, aq] <;> rfl), xbl⟩
             ·
              rw [if_neg c21] at H
              exact absurd H (by simp)
            ·
             rw [if_neg c20] at H
             have Az := decide_eq_false c20
             clear c20
             obtain rfl := Option.some.inj H
             go_wp2
             go_ret
             exact ⟨by first | rfl | (simp [ap, aq] <;> first | rfl | (simp only [bi, bne, Bool.not_not]; done)) | (simp only [← Ah, ← Ad, ← Ac]; first | rfl | (simp [ap, aq] <;> rfl)) | (simp [*, ap, aq] <;> rfl), xbl⟩
      ·
       rw [if_neg c12] at H
       exact absurd H (by simp)
     ·
      rw [if_neg c11] at H
      exact absurd H (by simp)
    ·
     rw [if_neg c7] at H
     exact absurd H (by simp)
def bb : Nat → ByteArray → Int → Bool → Option (Int × Bool)
  | 0, _, _, _ => none
  | k + 1, x0, x1, x24 => if x24 = true then (some (0, false)) else (if 0 ≤ (wrap64 (x1 + 1)) then (if (wrap64 (x1 + 1)) < (x0.size : Int) then ((bR k (bt x0 (wrap64 (x1 + 1)))).bind fun bt152 => (if 0 ≤ (wrap64 (x1 + 2)) then (if (wrap64 (x1 + 2)) < (x0.size : Int) then ((bR k (bt x0 (wrap64 (x1 + 2)))).bind fun bt154 => (if bt152.2 = true then (if bt154.2 = true then (some ((Go.bits .or .i64 (wrap64 (bt152.1 * 16)) bt154.1) % 256, true)) else (some (0, false))) else (some (0, false)))) else (none)) else (none))) else (none)) else (none))
def dS (k : Nat) (a0 : ByteArray) (a1 : Int) : Option (Int × Bool) := if a1 < 0 then (bb k a0 a1 true) else (if a1 > (wrap64 ((a0.size : Int) - 3)) then (bb k a0 a1 true) else (if 0 ≤ a1 then (if a1 < (a0.size : Int) then (bb k a0 a1 ((bt a0 a1) != 37)) else (none)) else (none)))
theorem e8 : ∀ k, (∀ y0 y1 y2, LeO (bb k y0 y1 y2) (bb (k + 1) y0 y1 y2))
  | 0 => fun _ _ _ r h => by simp [bb] at h
  | k + 1 => by
    have ih0 := e8 k
    have m0 := @cz
    · intro y0 y1 y2
      unfold bb
      exact xmo
theorem fI : ∀ a0 a1 k, LeO (dS k a0 a1) (dS (k + 1) a0 a1) := by
  intro a0 a1 k
  have ih0 := e8 k
  have m0 := @cz
  unfold dS
  exact xmo
theorem dC (k : Nat) (a0 : ByteArray) (a1 : Int) (r1 : Int) (r2 : Bool) (w : World) (h : dS k a0 a1 = some (r1, r2)) :
    Calls Tryd.prog 60 #[.string a0, .int .i64 a1] w fun e w' => e = .returned (.tuple #[.int .u8 r1, .bool r2]) ∧ Drawn0 w w' := by
 have H : (if a1 < 0 then (bb k a0 a1 true) else (if a1 > (wrap64 ((a0.size : Int) - 3)) then (bb k a0 a1 true) else (if 0 ≤ a1 then (if a1 < (a0.size : Int) then (bb k a0 a1 ((bt a0 a1) != 37)) else (none)) else (none)))) = some (r1, r2) := h
 clear h
 have Ak := Zz.mk H
 clear H
 go_enter Tryd.func60, Tryd.ntmps60
 go_upto_region 1 with (fail)
 go_cut [24] (fun v24 wc => ∃ (kq : Nat) (Ae : Bool), v24 = .bool Ae ∧ Zz (bb kq a0 a1 Ae = some (r1, r2)) ∧ Zz (kq ≤ k) ∧ Drawn0 w wc)
 case first =>
  have H := Ak.out
  clear Ak
  by_cases c4 : a1 < 0
  ·
   rw [if_pos c4] at H
   have Af := decide_eq_true c4
   clear c4
   (first | rw [Af] | (simp only [aC, aI]; rw [Af]) | (rw [Al]; (try simp only [Bool.not_false, Bool.not_true])) | (rw [Am]; (try simp only [Bool.not_false, Bool.not_true])) | skip)
   have H' := Zz.mk H
   clear H
   go_wp2
   go_meet
   case rel => exact ⟨_, (true), xrr, H', ⟨xom⟩, xdr⟩
  ·
   rw [if_neg c4] at H
   have Af := decide_eq_false c4
   clear c4
   (first | rw [Af] | (simp only [aC, aI]; rw [Af]) | (rw [Al]; (try simp only [Bool.not_false, Bool.not_true])) | (rw [Am]; (try simp only [Bool.not_false, Bool.not_true])) | skip)
   by_cases c5 : a1 > (wrap64 ((a0.size : Int) - 3))
   ·
    rw [if_pos c5] at H
    have An := decide_eq_true c5
    clear c5
    have H' := Zz.mk H
    clear H
    go_wp2
    go_meet
    case rel => exact ⟨_, (true), xrr, H', ⟨xom⟩, xdr⟩
   ·
    rw [if_neg c5] at H
    have An := decide_eq_false c5
    clear c5
    by_cases c6 : 0 ≤ a1
    ·
     rw [if_pos c6] at H
     have Av := decide_eq_true c6
     clear c6
     by_cases c7 : a1 < (a0.size : Int)
     ·
      rw [if_pos c7] at H
      have Aw := decide_eq_true c7
      clear c7
      have H' := Zz.mk H
      clear H
      have p8 : 0 ≤ (a1 : Int) := xod
      have q8 : a1 < (a0.size : Int) := xod
      have hx8 := ax a0 a1
      replace p8 := eq_true p8
      replace q8 := eq_true q8
      try (have Ax := q8; simp only [ByteArray.size_extract, Nat.min_self] at Ax)
      go_wp2
      go_meet
      case rel => exact ⟨_, (((bt a0 a1) != 37)), xrr, H', ⟨xom⟩, xdr⟩
     ·
      rw [if_neg c7] at H
      exact absurd H (by simp)
    ·
     rw [if_neg c6] at H
     exact absurd H (by simp)
 case rest =>
  clear Ak
  obtain ⟨kq, Ae, rfl, HA, HJ2, ⟨mc2, rfl⟩⟩ := hcut
  cases kq with
  | zero => exact absurd HA.out (by simp [bb])
  | succ kj2 =>
   have H := HA.out
   clear HA
   simp only [bb] at H
   by_cases c9 : Ae = true
   ·
    subst c9
    rw [if_pos rfl] at H
    simp only [Option.some.injEq, Prod.mk.injEq] at H
    obtain ⟨rfl, rfl⟩ := H
    go_wp2
    go_ret2
    exact ⟨xrr, xdr⟩
   ·
    replace c9 := Bool.eq_false_iff.mpr c9
    subst c9
    rw [if_neg (show ¬ (false = true) by decide)] at H
    obtain ⟨Aa, Ad⟩ : ∃ j_ : Int, (wrap64 (a1 + 1)) = j_ := ⟨_, rfl⟩
    first | rw [Ad] at H | simp only [Ad] at H | skip
    have Ao : (IntKind.i64.wrap (a1 + 1)) = Aa := (aC _).trans Ad
    by_cases c11 : 0 ≤ (Aa)
    ·
     rw [if_pos c11] at H
     have Ar := decide_eq_true c11
     clear c11
     by_cases c12 : (Aa) < (a0.size : Int)
     ·
      rw [if_pos c12] at H
      have As := decide_eq_true c12
      clear c12
      replace H := Option.bind_eq_some_iff.mp H
      obtain ⟨⟨Ah, Ap⟩, A140, H⟩ := H
      try dsimp only at H
      have A14 := Zz.mk A140
      clear A140
      obtain ⟨Ab, Ac⟩ : ∃ j_ : Int, (wrap64 (a1 + 2)) = j_ := ⟨_, rfl⟩
      first | rw [Ac] at H | simp only [Ac] at H | skip
      (try rw [Ac] at A14)
      have Aq : (IntKind.i64.wrap (a1 + 2)) = Ab := (aC _).trans Ac
      by_cases c16 : 0 ≤ (Ab)
      ·
       rw [if_pos c16] at H
       have At := decide_eq_true c16
       clear c16
       by_cases c17 : (Ab) < (a0.size : Int)
       ·
        rw [if_pos c17] at H
        have Au := decide_eq_true c17
        clear c17
        replace H := Option.bind_eq_some_iff.mp H
        obtain ⟨⟨Ai, Aj⟩, A190, H⟩ := H
        try dsimp only at H
        have A19 := Zz.mk A190
        clear A190
        by_cases c20 : Ap = true
        ·
         subst c20
         rw [if_pos rfl] at H
         by_cases c21 : Aj = true
         ·
          subst c21
          rw [if_pos rfl] at H
          simp only [Option.some.injEq, Prod.mk.injEq] at H
          obtain ⟨rfl, rfl⟩ := H
          have p13 : 0 ≤ ((Aa) : Int) := xod
          have q13 : (Aa) < (a0.size : Int) := xod
          have hx13 := ax a0 (Aa)
          replace p13 := eq_true p13
          replace q13 := eq_true q13
          try (have Ag := q13; simp only [ByteArray.size_extract, Nat.min_self] at Ag)
          go_wp2_with (first | ((with_reducible refine ae (f := 59) rfl ?_); refine bc (some 30) rfl rfl Tryd.func59 (by kernel_rfl) rfl #[.int .u8 (bt a0 (Aa))] rfl (by (try simp only [List.map_toArray, List.map_cons, List.map_nil]); first | done | (simp only [Ad]; rfl) | rfl | (simp only [List.length_drop, List.length_take]; rfl)) ?_; (with_reducible refine (bq kj2 (bt a0 (Aa)) Ah true _ A14.out).mono ?_); rintro e w' ⟨rfl, ⟨nd, rfl⟩⟩; refine ⟨_, rfl, ?_⟩; have p18 : 0 ≤ ((Ab) : Int) := xod; have q18 : (Ab) < (a0.size : Int) := xod; have hx18 := ax a0 (Ab); replace p18 := eq_true p18; replace q18 := eq_true q18) | ((with_reducible refine ae (f := 59) rfl ?_); refine bc (some 38) rfl rfl Tryd.func59 (by kernel_rfl) rfl #[.int .u8 (bt a0 (Ab))] rfl (by (try simp only [List.map_toArray, List.map_cons, List.map_nil]); first | done | (simp only [Ac]; rfl) | rfl | (simp only [List.length_drop, List.length_take]; rfl)) ?_; (with_reducible refine (bq kj2 (bt a0 (Ab)) Ai true _ A19.out).mono ?_); rintro e w' ⟨rfl, ⟨nd, rfl⟩⟩; refine ⟨_, rfl, ?_⟩))
          go_ret2
          exact ⟨by first | rfl | (simp; done) | (simp only [← Ad, ← Ac] <;> (first | rfl | simp)) | (simp [*]; done) | (simp [wrap64]; done), xdr⟩
         ·
          replace c21 := Bool.eq_false_iff.mpr c21
          subst c21
          rw [if_neg (show ¬ (false = true) by decide)] at H
          simp only [Option.some.injEq, Prod.mk.injEq] at H
          obtain ⟨rfl, rfl⟩ := H
          have p13 : 0 ≤ ((Aa) : Int) := xod
          have q13 : (Aa) < (a0.size : Int) := xod
          have hx13 := ax a0 (Aa)
          replace p13 := eq_true p13
          replace q13 := eq_true q13
          try (have Ag := q13; simp only [ByteArray.size_extract, Nat.min_self] at Ag)
          go_wp2_with (first | ((with_reducible refine ae (f := 59) rfl ?_); refine bc (some 30) rfl rfl Tryd.func59 (by kernel_rfl) rfl #[.int .u8 (bt a0 (Aa))] rfl (by (try simp only [List.map_toArray, List.map_cons, List.map_nil]); first | done | (simp only [Ad]; rfl) | rfl | (simp only [List.length_drop, List.length_take]; rfl)) ?_; (with_reducible refine (bq kj2 (bt a0 (Aa)) Ah true _ A14.out).mono ?_); rintro e w' ⟨rfl, ⟨nd, rfl⟩⟩; refine ⟨_, rfl, ?_⟩; have p18 : 0 ≤ ((Ab) : Int) := xod; have q18 : (Ab) < (a0.size : Int) := xod; have hx18 := ax a0 (Ab); replace p18 := eq_true p18; replace q18 := eq_true q18) | ((with_reducible refine ae (f := 59) rfl ?_); refine bc (some 38) rfl rfl Tryd.func59 (by kernel_rfl) rfl #[.int .u8 (bt a0 (Ab))] rfl (by (try simp only [List.map_toArray, List.map_cons, List.map_nil]); first | done | (simp only [Ac]; rfl) | rfl | (simp only [List.length_drop, List.length_take]; rfl)) ?_; (with_reducible refine (bq kj2 (bt a0 (Ab)) Ai false _ A19.out).mono ?_); rintro e w' ⟨rfl, ⟨nd, rfl⟩⟩; refine ⟨_, rfl, ?_⟩))
          go_ret2
          exact ⟨by first | rfl | (simp; done) | (simp only [← Ad, ← Ac] <;> (first | rfl | simp)) | (simp [*]; done) | (simp [wrap64]; done), xdr⟩
        ·
         replace c20 := Bool.eq_false_iff.mpr c20
         subst c20
         rw [if_neg (show ¬ (false = true) by decide)] at H
         simp only [Option.some.injEq, Prod.mk.injEq] at H
         obtain ⟨rfl, rfl⟩ := H
         have p13 : 0 ≤ ((Aa) : Int) := xod
         have q13 : (Aa) < (a0.size : Int) := xod
         have hx13 := ax a0 (Aa)
         replace p13 := eq_true p13
         replace q13 := eq_true q13
         try (have Ag := q13; simp only [ByteArray.size_extract, Nat.min_self] at Ag)
         go_wp2_with (first | ((with_reducible refine ae (f := 59) rfl ?_); refine bc (some 30) rfl rfl Tryd.func59 (by kernel_rfl) rfl #[.int .u8 (bt a0 (Aa))] rfl (by (try simp only [List.map_toArray, List.map_cons, List.map_nil]); first | done | (simp only [Ad]; rfl) | rfl | (simp only [List.length_drop, List.length_take]; rfl)) ?_; (with_reducible refine (bq kj2 (bt a0 (Aa)) Ah false _ A14.out).mono ?_); rintro e w' ⟨rfl, ⟨nd, rfl⟩⟩; refine ⟨_, rfl, ?_⟩; have p18 : 0 ≤ ((Ab) : Int) := xod; have q18 : (Ab) < (a0.size : Int) := xod; have hx18 := ax a0 (Ab); replace p18 := eq_true p18; replace q18 := eq_true q18) | ((with_reducible refine ae (f := 59) rfl ?_); refine bc (some 38) rfl rfl Tryd.func59 (by kernel_rfl) rfl #[.int .u8 (bt a0 (Ab))] rfl (by (try simp only [List.map_toArray, List.map_cons, List.map_nil]); first | done | (simp only [Ac]; rfl) | rfl | (simp only [List.length_drop, List.length_take]; rfl)) ?_; (with_reducible refine (bq kj2 (bt a0 (Ab)) Ai Aj _ A19.out).mono ?_); rintro e w' ⟨rfl, ⟨nd, rfl⟩⟩; refine ⟨_, rfl, ?_⟩))
         go_ret2
         exact ⟨by first | rfl | (simp; done) | (simp only [← Ad, ← Ac] <;> (first | rfl | simp)) | (simp [*]; done) | (simp [wrap64]; done), xdr⟩
       ·
        rw [if_neg c17] at H
        exact absurd H (by simp)
      ·
       rw [if_neg c16] at H
       exact absurd H (by simp)
     ·
      rw [if_neg c12] at H
      exact absurd H (by simp)
    ·
     rw [if_neg c11] at H
     exact absurd H (by simp)
mutual
def bx : Nat → Int → Bool → Option (Int × Int × Int)
  | 0, _, _ => none
  | k + 1, x0, x8 => if x8 = true then (some (2, 128, 191)) else (if x0 = 224 then (some (3, 160, 191)) else (if x0 = 237 then (some (3, 128, 159)) else (if x0 ≥ 225 then (b8 k x0 (decide (x0 ≤ 239))) else (b8 k x0 false))))
def b8 : Nat → Int → Bool → Option (Int × Int × Int)
  | 0, _, _ => none
  | k + 1, x0, x21 => if x21 = true then (some (3, 128, 191)) else (if x0 = 240 then (some (4, 144, 191)) else (if x0 = 244 then (some (4, 128, 143)) else (if x0 ≥ 241 then (if x0 ≤ 243 then (some (4, 128, 191)) else (some (0, 0, 0))) else (some (0, 0, 0)))))
end
def dz (k : Nat) (a0 : Int) : Option (Int × Int × Int) := if a0 < 128 then (some (1, 0, 0)) else (if a0 ≥ 194 then (bx k a0 (decide (a0 ≤ 223))) else (bx k a0 false))
theorem fi : ∀ k, (∀ y0 y1, LeO (bx k y0 y1) (bx (k + 1) y0 y1)) ∧ (∀ y0 y1, LeO (b8 k y0 y1) (b8 (k + 1) y0 y1))
  | 0 => ⟨fun _ _ r h => by simp [bx] at h, fun _ _ r h => by simp [b8] at h⟩
  | k + 1 => by
    obtain ⟨ih0, ih1⟩ := fi k
    refine ⟨?_, ?_⟩
    · intro y0 y1
      unfold bx
      exact xmo
    · intro y0 y1
      unfold b8
      exact xmo
theorem fW : ∀ a0 k, LeO (dz k a0) (dz (k + 1) a0) := by
  intro a0 k
  obtain ⟨ih0, ih1⟩ := fi k
  unfold dz
  exact xmo
theorem fy (k : Nat) (a0 : Int) (r1 : Int) (r2 : Int) (r3 : Int) (w : World) (h : dz k a0 = some (r1, r2, r3)) :
    Calls Tryd.prog 97 #[.int .u8 a0] w fun e w' => e = .returned (.tuple #[.int .i64 r1, .int .u8 r2, .int .u8 r3]) ∧ Drawn0 w w' := by
 have H : (if a0 < 128 then (some (1, 0, 0)) else (if a0 ≥ 194 then (bx k a0 (decide (a0 ≤ 223))) else (bx k a0 false))) = some (r1, r2, r3) := h
 clear h
 by_cases c2 : a0 < 128
 ·
  rw [if_pos c2] at H
  have Ae := decide_eq_true c2
  clear c2
  simp only [Option.some.injEq, Prod.mk.injEq] at H
  obtain ⟨rfl, rfl, rfl⟩ := H
  go_enter Tryd.func97, Tryd.ntmps97
  go_wp2
  go_ret3
  exact ⟨xrr, xdr⟩
 ·
  rw [if_neg c2] at H
  have Ae := decide_eq_false c2
  clear c2
  have Ap := Zz.mk H
  clear H
  go_enter Tryd.func97, Tryd.ntmps97
  go_upto_region 3 with (fail)
  go_cut [8] (fun v8 wc => ∃ (kq : Nat) (Ad : Bool), v8 = .bool Ad ∧ Zz (bx kq a0 Ad = some (r1, r2, r3)) ∧ Zz (kq ≤ k) ∧ Drawn0 w wc)
  case first =>
   have H := Ap.out
   clear Ap
   by_cases c4 : a0 ≥ 194
   ·
    rw [if_pos c4] at H
    have Ab := decide_eq_true c4
    clear c4
    (first | rw [Ab] | (simp only [aC, aI]; rw [Ab]) | (rw [Aq]; (try simp only [Bool.not_false, Bool.not_true])) | (rw [Ar]; (try simp only [Bool.not_false, Bool.not_true])) | skip)
    have H' := Zz.mk H
    clear H
    go_wp2
    go_meet
    case rel => exact ⟨_, (decide (a0 ≤ 223)), xrr, H', ⟨xom⟩, xdr⟩
   ·
    rw [if_neg c4] at H
    have Ab := decide_eq_false c4
    clear c4
    (first | rw [Ab] | (simp only [aC, aI]; rw [Ab]) | (rw [Aq]; (try simp only [Bool.not_false, Bool.not_true])) | (rw [Ar]; (try simp only [Bool.not_false, Bool.not_true])) | skip)
    have H' := Zz.mk H
    clear H
    go_wp2
    go_meet
    case rel => exact ⟨_, (false), xrr, H', ⟨xom⟩, xdr⟩
  case rest =>
   clear Ap
   clear Ae
   obtain ⟨kq, Ad, rfl, HA, HJ2, ⟨mc2, rfl⟩⟩ := hcut
   cases kq with
   | zero => exact absurd HA.out (by simp [bx])
   | succ kj2 =>
    have H := HA.out
    clear HA
    simp only [bx] at H
    by_cases c5 : Ad = true
    ·
     subst c5
     rw [if_pos rfl] at H
     simp only [Option.some.injEq, Prod.mk.injEq] at H
     obtain ⟨rfl, rfl, rfl⟩ := H
     go_wp2
     go_ret3
     exact ⟨xrr, xdr⟩
    ·
     replace c5 := Bool.eq_false_iff.mpr c5
     subst c5
     rw [if_neg (show ¬ (false = true) by decide)] at H
     by_cases c6 : a0 = 224
     ·
      rw [if_pos c6] at H
      have Af : (a0 == 224) = true := beq_iff_eq.mpr c6
      have Ag : (a0 != 224) = false := bne_eq_false_iff_eq.mpr c6
      clear c6
      simp only [Option.some.injEq, Prod.mk.injEq] at H
      obtain ⟨rfl, rfl, rfl⟩ := H
      go_wp2
      go_ret3
      exact ⟨xrr, xdr⟩
     ·
      rw [if_neg c6] at H
      have Af : (a0 == 224) = false := beq_eq_false_iff_ne.mpr c6
      have Ag : (a0 != 224) = true := bne_iff_ne.mpr c6
      by_cases c7 : a0 = 237
      ·
       rw [if_pos c7] at H
       have Ah : (a0 == 237) = true := beq_iff_eq.mpr c7
       have Ai : (a0 != 237) = false := bne_eq_false_iff_eq.mpr c7
       clear c7
       simp only [Option.some.injEq, Prod.mk.injEq] at H
       obtain ⟨rfl, rfl, rfl⟩ := H
       go_wp2
       go_ret3
       exact ⟨xrr, xdr⟩
      ·
       rw [if_neg c7] at H
       have Ah : (a0 == 237) = false := beq_eq_false_iff_ne.mpr c7
       have Ai : (a0 != 237) = true := bne_iff_ne.mpr c7
       have As := Zz.mk H
       clear H
       go_upto_region 9 with (fail)
       go_cut [21] (fun v21 wc => ∃ (kq : Nat) (Aa : Bool), v21 = .bool Aa ∧ Zz (b8 kq a0 Aa = some (r1, r2, r3)) ∧ Zz (kq ≤ kj2) ∧ Drawn0 w wc)
       case first =>
        have H := As.out
        clear As
        by_cases c9 : a0 ≥ 225
        ·
         rw [if_pos c9] at H
         have Ac := decide_eq_true c9
         clear c9
         (first | rw [Ac] | (simp only [aC, aI]; rw [Ac]) | (rw [At]; (try simp only [Bool.not_false, Bool.not_true])) | (rw [Au]; (try simp only [Bool.not_false, Bool.not_true])) | skip)
         have H' := Zz.mk H
         clear H
         go_wp2
         go_meet
         case rel => exact ⟨_, (decide (a0 ≤ 239)), xrr, H', ⟨by have := HJ2.out; first | omega | exact Nat.le_refl _⟩, xdr⟩
        ·
         rw [if_neg c9] at H
         have Ac := decide_eq_false c9
         clear c9
         (first | rw [Ac] | (simp only [aC, aI]; rw [Ac]) | (rw [At]; (try simp only [Bool.not_false, Bool.not_true])) | (rw [Au]; (try simp only [Bool.not_false, Bool.not_true])) | skip)
         have H' := Zz.mk H
         clear H
         go_wp2
         go_meet
         case rel => exact ⟨_, (false), xrr, H', ⟨by have := HJ2.out; first | omega | exact Nat.le_refl _⟩, xdr⟩
       case rest =>
        clear As
        clear Af Ag Ah Ai
        obtain ⟨kq, Aa, rfl, HA, HJ7, ⟨mc7, rfl⟩⟩ := hcut
        cases kq with
        | zero => exact absurd HA.out (by simp [b8])
        | succ kj7 =>
         have H := HA.out
         clear HA
         simp only [b8] at H
         by_cases c10 : Aa = true
         ·
          subst c10
          rw [if_pos rfl] at H
          simp only [Option.some.injEq, Prod.mk.injEq] at H
          obtain ⟨rfl, rfl, rfl⟩ := H
          go_wp2
          go_ret3
          exact ⟨xrr, xdr⟩
         ·
          replace c10 := Bool.eq_false_iff.mpr c10
          subst c10
          rw [if_neg (show ¬ (false = true) by decide)] at H
          by_cases c11 : a0 = 240
          ·
           rw [if_pos c11] at H
           have Aj : (a0 == 240) = true := beq_iff_eq.mpr c11
           have Ak : (a0 != 240) = false := bne_eq_false_iff_eq.mpr c11
           clear c11
           simp only [Option.some.injEq, Prod.mk.injEq] at H
           obtain ⟨rfl, rfl, rfl⟩ := H
           go_wp2
           go_ret3
           exact ⟨xrr, xdr⟩
          ·
           rw [if_neg c11] at H
           have Aj : (a0 == 240) = false := beq_eq_false_iff_ne.mpr c11
           have Ak : (a0 != 240) = true := bne_iff_ne.mpr c11
           by_cases c12 : a0 = 244
           ·
            rw [if_pos c12] at H
            have Al : (a0 == 244) = true := beq_iff_eq.mpr c12
            have Am : (a0 != 244) = false := bne_eq_false_iff_eq.mpr c12
            clear c12
            simp only [Option.some.injEq, Prod.mk.injEq] at H
            obtain ⟨rfl, rfl, rfl⟩ := H
            go_wp2
            go_ret3
            exact ⟨xrr, xdr⟩
           ·
            rw [if_neg c12] at H
            have Al : (a0 == 244) = false := beq_eq_false_iff_ne.mpr c12
            have Am : (a0 != 244) = true := bne_iff_ne.mpr c12
            by_cases c13 : a0 ≥ 241
            ·
             rw [if_pos c13] at H
             have An := decide_eq_true c13
             clear c13
             by_cases c14 : a0 ≤ 243
             ·
              rw [if_pos c14] at H
              have Ao := decide_eq_true c14
              clear c14
              simp only [Option.some.injEq, Prod.mk.injEq] at H
              obtain ⟨rfl, rfl, rfl⟩ := H
              go_wp2
              go_ret3
              exact ⟨xrr, xdr⟩
             ·
              rw [if_neg c14] at H
              have Ao := decide_eq_false c14
              clear c14
              simp only [Option.some.injEq, Prod.mk.injEq] at H
              obtain ⟨rfl, rfl, rfl⟩ := H
              go_wp2
              go_ret3
              exact ⟨xrr, xdr⟩
            ·
             rw [if_neg c13] at H
             have An := decide_eq_false c13
             clear c13
             simp only [Option.some.injEq, Prod.mk.injEq] at H
             obtain ⟨rfl, rfl, rfl⟩ := H
             go_wp2
             go_ret3
             exact ⟨xrr, xdr⟩
def bO : Nat → ByteArray → Int → Int → Int → Int → Option (Int × Int)
  | 0, _, _, _, _, _ => none
  | k + 1, x0, x4, x5, x6, x7 => if x7 < x4 then (if x7 < (x0.size : Int) then (if 0 ≤ x7 then (if (bt x0 x7) ≥ x5 then (if (bt x0 x7) ≤ x6 then (bO k x0 x4 128 191 (wrap64 (x7 + 1))) else (some (x7, x4))) else (some (x7, x4))) else (none)) else (some (x7, x4))) else (some (x7, x4))
def dy (k : Nat) (a0 : ByteArray) : Option (Int × Int) := if (a0.size : Int) = 0 then (some (0, 0)) else (if 0 < (a0.size : Int) then ((dz k (bt a0 0)).bind fun bt156 => (if bt156.1 = 0 then (some (1, 0)) else (bO k a0 bt156.1 bt156.2.1 bt156.2.2 1))) else (none))
theorem fh : ∀ k, (∀ y0 y1 y2 y3 y4, LeO (bO k y0 y1 y2 y3 y4) (bO (k + 1) y0 y1 y2 y3 y4))
  | 0 => fun _ _ _ _ _ r h => by simp [bO] at h
  | k + 1 => by
    have ih0 := fh k
    have m0 := @fW
    · intro y0 y1 y2 y3 y4
      unfold bO
      exact xmo
theorem fV : ∀ a0 k, LeO (dy k a0) (dy (k + 1) a0) := by
  intro a0 k
  have ih0 := fh k
  have m0 := @fW
  unfold dy
  exact xmo
theorem ep (k : Nat) (a0 : ByteArray) (r1 : Int) (r2 : Int) (w : World) (h : dy k a0 = some (r1, r2)) :
    Calls Tryd.prog 79 #[.string a0] w fun e w' => e = .returned (.tuple #[.int .i64 r1, .int .i64 r2]) ∧ Drawn0 w w' := by
 have H : (if (a0.size : Int) = 0 then (some (0, 0)) else (if 0 < (a0.size : Int) then ((dz k (bt a0 0)).bind fun Ac => (if Ac.1 = 0 then (some (1, 0)) else (bO k a0 Ac.1 Ac.2.1 Ac.2.2 1))) else (none))) = some (r1, r2) := h
 clear h
 by_cases c2 : (a0.size : Int) = 0
 ·
  rw [if_pos c2] at H
  have Aj : ((a0.size : Int) == 0) = true := beq_iff_eq.mpr c2
  have Ak : ((a0.size : Int) != 0) = false := bne_eq_false_iff_eq.mpr c2
  clear c2
  simp only [Option.some.injEq, Prod.mk.injEq] at H
  obtain ⟨rfl, rfl⟩ := H
  go_enter Tryd.func79, Tryd.ntmps79
  go_wp2
  go_ret2
  exact ⟨xrr, xdr⟩
 ·
  rw [if_neg c2] at H
  have Aj : ((a0.size : Int) == 0) = false := beq_eq_false_iff_ne.mpr c2
  have Ak : ((a0.size : Int) != 0) = true := bne_iff_ne.mpr c2
  by_cases c3 : 0 < (a0.size : Int)
  ·
   rw [if_pos c3] at H
   have Ap := decide_eq_true c3
   have Aq : decide (0 < a0.size) = true := decide_eq_true (by omega)
   clear c3
   replace H := Option.bind_eq_some_iff.mp H
   obtain ⟨⟨Ab, Ag, Ah⟩, A50, H⟩ := H
   try dsimp only at H
   have A5 := Zz.mk A50
   clear A50
   by_cases c6 : Ab = 0
   ·
    rw [if_pos c6] at H
    have Al : (Ab == 0) = true := beq_iff_eq.mpr c6
    have Am : (Ab != 0) = false := bne_eq_false_iff_eq.mpr c6
    clear c6
    simp only [Option.some.injEq, Prod.mk.injEq] at H
    obtain ⟨rfl, rfl⟩ := H
    have p4 : 0 ≤ (0 : Int) := (by omega)
    have q4 : 0 < a0.size := (by have : (0 : Int) < (a0.size : Int) := xod; omega)
    have hx4 : ∀ h : 0 < a0.size, ((a0[0]'h).toNat : Int) = bt a0 0 := ax a0 0
    clear p4
    have Au : (0 < (a0.size : Int)) = True := eq_true (xod)
    replace q4 := eq_true q4
    try (have Ar := q4; simp only [ByteArray.size_extract, Nat.min_self] at Ar)
    go_enter Tryd.func79, Tryd.ntmps79
    go_wp2_with (first | ((with_reducible refine ae (f := 97) rfl ?_); refine xgl 14 Tryd.func97 #[.int .u8 (bt a0 0)] ?_; (with_reducible refine (fy k (bt a0 0) Ab Ag Ah _ A5.out).mono ?_); rintro e w' ⟨rfl, ⟨nd, rfl⟩⟩; refine ⟨_, rfl, ?_⟩))
    go_ret2
    exact ⟨xrr, xdr⟩
   ·
    rw [if_neg c6] at H
    have Al : (Ab == 0) = false := beq_eq_false_iff_ne.mpr c6
    have Am : (Ab != 0) = true := bne_iff_ne.mpr c6
    have H' := Zz.mk H
    clear H
    have p4 : 0 ≤ (0 : Int) := (by omega)
    have q4 : 0 < a0.size := (by have : (0 : Int) < (a0.size : Int) := xod; omega)
    have hx4 : ∀ h : 0 < a0.size, ((a0[0]'h).toNat : Int) = bt a0 0 := ax a0 0
    clear p4
    have Au : (0 < (a0.size : Int)) = True := eq_true (xod)
    replace q4 := eq_true q4
    try (have Ar := q4; simp only [ByteArray.size_extract, Nat.min_self] at Ar)
    go_enter Tryd.func79, Tryd.ntmps79
    go_wp2_with (first | ((with_reducible refine ae (f := 97) rfl ?_); refine xgl 14 Tryd.func97 #[.int .u8 (bt a0 0)] ?_; (with_reducible refine (fy k (bt a0 0) Ab Ag Ah _ A5.out).mono ?_); rintro e w' ⟨rfl, ⟨nd, rfl⟩⟩; refine ⟨_, rfl, ?_⟩))
    go_loopg [5, 6, 7] k (fun kq v5 v6 v7 w' => ∃ (Ae : Int) (Af : Int) (Aa : Int), v5 = .int .u8 Ae ∧ v6 = .int .u8 Af ∧ v7 = .int .i64 Aa ∧ Zz (bO kq a0 Ab Ae Af Aa = some (r1, r2)) ∧ Zz (kq ≤ k) ∧ Drawn0 w w')
    case atStart => exact ⟨(Ag), (Ah), (1), xrr, xrr, xrr, H', ⟨Nat.le_refl _⟩, xdr⟩
    case round =>
     clear H'
     clear Aj Ak Ap Aq q4 hx4 Au Al Am
     obtain ⟨Ae, Af, Aa, rfl, rfl, rfl, HA, HK1, ⟨m1, rfl⟩⟩ := hrel
     cases gk with
     | zero => exact absurd HA.out (by simp [bO])
     | succ k1 =>
      have H := HA.out
      clear HA
      simp only [bO] at H
      by_cases c7 : Aa < Ab
      ·
       rw [if_pos c7] at H
       have As := decide_eq_true c7
       clear c7
       by_cases c8 : Aa < (a0.size : Int)
       ·
        rw [if_pos c8] at H
        have At := decide_eq_true c8
        clear c8
        by_cases c9 : 0 ≤ Aa
        ·
         rw [if_pos c9] at H
         have Av := decide_eq_true c9
         clear c9
         by_cases c11 : (bt a0 Aa) ≥ Ae
         ·
          rw [if_pos c11] at H
          have An := decide_eq_true c11
          clear c11
          by_cases c13 : (bt a0 Aa) ≤ Af
          ·
           rw [if_pos c13] at H
           have Ao := decide_eq_true c13
           clear c13
           have H' := Zz.mk H
           clear H
           have p10 : 0 ≤ (Aa : Int) := xod
           have q10 : Aa < (a0.size : Int) := xod
           have hx10 := ax a0 Aa
           replace p10 := eq_true p10
           replace q10 := eq_true q10
           try (have Ad := q10; simp only [ByteArray.size_extract, Nat.min_self] at Ad)
           have p12 : 0 ≤ (Aa : Int) := xod
           have q12 : Aa < (a0.size : Int) := xod
           have hx12 := ax a0 Aa
           replace p12 := eq_true p12
           replace q12 := eq_true q12
           try (have Ai := q12; simp only [ByteArray.size_extract, Nat.min_self] at Ai)
           go_wp2
           go_roundg k1
           case measure => have := HK1.out; omega
           case rel => exact ⟨(128), (191), (wrap64 (Aa + 1)), xrr, xrr, xrr, H', ⟨by have := HK1.out; omega⟩, xdr⟩
          ·
           rw [if_neg c13] at H
           have Ao := decide_eq_false c13
           clear c13
           simp only [Option.some.injEq, Prod.mk.injEq] at H
           obtain ⟨rfl, rfl⟩ := H
           have p10 : 0 ≤ (Aa : Int) := xod
           have q10 : Aa < (a0.size : Int) := xod
           have hx10 := ax a0 Aa
           replace p10 := eq_true p10
           replace q10 := eq_true q10
           try (have Ad := q10; simp only [ByteArray.size_extract, Nat.min_self] at Ad)
           have p12 : 0 ≤ (Aa : Int) := xod
           have q12 : Aa < (a0.size : Int) := xod
           have hx12 := ax a0 Aa
           replace p12 := eq_true p12
           replace q12 := eq_true q12
           try (have Ai := q12; simp only [ByteArray.size_extract, Nat.min_self] at Ai)
           go_wp2
           go_ret2
           exact ⟨xrr, xdr⟩
         ·
          rw [if_neg c11] at H
          have An := decide_eq_false c11
          clear c11
          simp only [Option.some.injEq, Prod.mk.injEq] at H
          obtain ⟨rfl, rfl⟩ := H
          have p10 : 0 ≤ (Aa : Int) := xod
          have q10 : Aa < (a0.size : Int) := xod
          have hx10 := ax a0 Aa
          replace p10 := eq_true p10
          replace q10 := eq_true q10
          try (have Ad := q10; simp only [ByteArray.size_extract, Nat.min_self] at Ad)
          go_wp2
          go_ret2
          exact ⟨xrr, xdr⟩
        ·
         rw [if_neg c9] at H
         exact absurd H (by simp)
       ·
        rw [if_neg c8] at H
        have At := decide_eq_false c8
        clear c8
        simp only [Option.some.injEq, Prod.mk.injEq] at H
        obtain ⟨rfl, rfl⟩ := H
        go_wp2
        go_ret2
        exact ⟨xrr, xdr⟩
      ·
       rw [if_neg c7] at H
       have As := decide_eq_false c7
       clear c7
       simp only [Option.some.injEq, Prod.mk.injEq] at H
       obtain ⟨rfl, rfl⟩ := H
       go_wp2
       go_ret2
       exact ⟨xrr, xdr⟩
  ·
   rw [if_neg c3] at H
   exact absurd H (by simp)
end Go.Proofs.YticohlbfolnmpaaDoor.X
