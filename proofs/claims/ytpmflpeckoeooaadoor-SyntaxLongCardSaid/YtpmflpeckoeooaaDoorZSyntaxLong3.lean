/- Texts that the law's proof needs, joined by a program of this session. -/
import Derived.Test.YtpmflpeckoeooaaDoorZSyntaxLong1
import Derived.Test.YtpmflpeckoeooaaDoorZSyntaxLong2
namespace Go.Proofs.YtpmflpeckoeooaaDoor.X
open Go.RowKit Go.Proofs.YtpmflpeckoeooaaDoorW.PrintWords Go.Proofs.YtpmflpeckoeooaaDoorW.PrintLast Go.Proofs.YtpmflpeckoeooaaDoorW.PrintMore
attribute [local go_sem] xj_then_goto xj_block_goto xj_normal xj_exit xj_ret xj_panic xj_goto max2_int min2_int max_two min_two max_three min_three max_four min_four
set_option linter.unusedVariables false
set_option linter.unusedSimpArgs false
mutual
def lexis_Scheme.j0 : Nat → ByteArray → Bool → Option (Bool)
  | 0, _, _ => none
  | k + 1, x0, x11 => if x11 = true then (some false) else (lexis_Scheme.l0 k x0 (x0.size : Int) 0)
def lexis_Scheme.l0 : Nat → ByteArray → Int → Int → Option (Bool)
  | 0, _, _, _ => none
  | k + 1, x0, x13, x14 => if x14 < x13 then (if 0 ≤ x14 then (if x14 < (x0.size : Int) then ((octet_Is.f k (bt x0 x14) 3).bind fun t112 => (if t112 = true then (lexis_Scheme.l0 k x0 x13 (wrap64 (x14 + 1))) else (if x14 ≤ (wrap64 (x14 + 1)) then (if (wrap64 (x14 + 1)) ≤ (x0.size : Int) then ((octet_Find.f k (⟨#[43, 45, 46]⟩ : ByteArray) 0 (x0.extract (x14 : Int).toNat ((wrap64 (x14 + 1)) : Int).toNat)).bind fun t113 => (if t113 < 0 then (some false) else (lexis_Scheme.l0 k x0 x13 (wrap64 (x14 + 1))))) else (none)) else (none)))) else (none)) else (none)) else (some true)
end
def lexis_Scheme.f (k : Nat) (a0 : ByteArray) : Option (Bool) := if a0.toList = ([] : List UInt8) then (lexis_Scheme.j0 k a0 true) else (if 0 < (a0.size : Int) then ((octet_Is.f k (bt a0 0) 1).bind fun t111 => (lexis_Scheme.j0 k a0 (!t111))) else (none))
theorem lexis_Scheme.mono_l : ∀ k, (∀ y0 y1, LeO (lexis_Scheme.j0 k y0 y1) (lexis_Scheme.j0 (k + 1) y0 y1)) ∧ (∀ y0 y1 y2, LeO (lexis_Scheme.l0 k y0 y1 y2) (lexis_Scheme.l0 (k + 1) y0 y1 y2))
  | 0 => ⟨fun _ _ r h => by simp [lexis_Scheme.j0] at h, fun _ _ _ r h => by simp [lexis_Scheme.l0] at h⟩
  | k + 1 => by
    obtain ⟨ih0, ih1⟩ := lexis_Scheme.mono_l k
    have m0 := @octet_Find.mono; have m1 := @octet_Is.mono
    refine ⟨?_, ?_⟩
    · intro y0 y1
      unfold lexis_Scheme.j0
      exact xmo
    · intro y0 y1 y2
      unfold lexis_Scheme.l0
      exact xmo
theorem lexis_Scheme.mono : ∀ a0 k, LeO (lexis_Scheme.f k a0) (lexis_Scheme.f (k + 1) a0) := by
  intro a0 k
  obtain ⟨ih0, ih1⟩ := lexis_Scheme.mono_l k
  have m0 := @octet_Find.mono; have m1 := @octet_Is.mono
  unfold lexis_Scheme.f
  exact xmo
set_option maxHeartbeats 8000000 in
set_option maxRecDepth 100000 in
theorem lexis_Scheme.calls (k : Nat) (a0 : ByteArray) (r : Bool) (w : World) (h : lexis_Scheme.f k a0 = some r) :
    Calls Tryd.prog 18 #[.string a0] w fun e w' => e = .returned (.bool r) ∧ Below w.heap.size w w' := by
 have HB := Aside0.mk (Below.refl w.heap.size w)
 have H : (if a0.toList = ([] : List UInt8) then (lexis_Scheme.j0 k a0 true) else (if 0 < (a0.size : Int) then ((octet_Is.f k (bt a0 0) 1).bind fun t111 => (lexis_Scheme.j0 k a0 (!t111))) else (none))) = some r := h
 clear h
 have HC2 := Aside0.mk H
 clear H
 go_enter Tryd.func18, Tryd.ntmps18
 go_upto_region 1 with (fail)
 go_cut [11] (fun v11 wc => ∃ (kq : Nat) (x11_1 : Bool), v11 = .bool x11_1 ∧ Aside0 (lexis_Scheme.j0 kq a0 x11_1 = some r) ∧ Aside0 (kq ≤ k) ∧ Aside0 (Below w.heap.size w wc))
 case first =>
  have H := HC2.out
  clear HC2
  by_cases c3 : a0.toList = ([] : List UInt8)
  ·
   rw [if_pos c3] at H
   have c3b0 : (a0.toList == ([] : List UInt8)) = true := beq_iff_eq.mpr c3
   have c3b1 : (a0.toList != ([] : List UInt8)) = false := bne_eq_false_iff_eq.mpr c3
   (try (have c3b2 : a0.toList.isEmpty = true := by simpa using c3))
   clear c3
   (first | rw [c3b0] | (simp only [i64_w, i32_w]; rw [c3b0]) | (rw [c3b2]; (try simp only [Bool.not_false, Bool.not_true])) | (rw [c3b3]; (try simp only [Bool.not_false, Bool.not_true])) | skip)
   have H' := Aside0.mk H
   clear H
   go_wp2
   go_meet
   case rel => exact ⟨_, (true), xrr, H', ⟨xom⟩, ⟨xbl⟩⟩
  ·
   rw [if_neg c3] at H
   have c3b0 : (a0.toList == ([] : List UInt8)) = false := beq_eq_false_iff_ne.mpr c3
   have c3b1 : (a0.toList != ([] : List UInt8)) = true := bne_iff_ne.mpr c3
   (try (have c3b2 : a0.toList.isEmpty = false := by simpa using c3))
   (first | rw [c3b0] | (simp only [i64_w, i32_w]; rw [c3b0]) | (rw [c3b2]; (try simp only [Bool.not_false, Bool.not_true])) | (rw [c3b3]; (try simp only [Bool.not_false, Bool.not_true])) | skip)
   by_cases c4 : 0 < (a0.size : Int)
   ·
    rw [if_pos c4] at H
    have c4b0 := decide_eq_true c4
    have c4b1 : decide (0 < a0.size) = true := decide_eq_true (by omega)
    clear c4
    replace H := Option.bind_eq_some_iff.mp H
    obtain ⟨t111, A60, H⟩ := H
    try dsimp only at H
    have A6 := Aside0.mk A60
    clear A60
    have H' := Aside0.mk H
    clear H
    have p5 : 0 ≤ (0 : Int) := (by omega)
    have q5 : 0 < a0.size := (by have : (0 : Int) < (a0.size : Int) := xod; omega)
    have hx5 : ∀ h : 0 < a0.size, ((a0[0]'h).toNat : Int) = bt a0 0 := bt_at a0 0
    clear p5
    have qi5 : (0 < (a0.size : Int)) = True := eq_true (xod)
    replace q5 := eq_true q5
    try (have q5x := q5; simp only [ByteArray.size_extract, Nat.min_self] at q5x)
    go_wp2_with (first | (go_at_call 24; (with_reducible refine (octet_Is.calls k (bt a0 0) 1 t111 _ A6.out).mono ?_); rintro e w' ⟨rfl, ⟨nd, rfl⟩⟩))
    go_meet
    case rel => exact ⟨_, (!t111), xrr, H', ⟨xom⟩, ⟨xbl⟩⟩
   ·
    rw [if_neg c4] at H
    exact absurd H (by simp)
 case rest =>
  clear HC2
  obtain ⟨kq, x11_1, rfl, HA, HJ1, HB⟩ := hcut
  cases kq with
  | zero => exact absurd HA.out (by simp [lexis_Scheme.j0])
  | succ kj1 =>
   have H := HA.out
   clear HA
   simp only [lexis_Scheme.j0] at H
   by_cases c7 : x11_1 = true
   ·
    subst c7
    rw [if_pos rfl] at H
    obtain rfl := Option.some.inj H
    go_wp2
    go_ret
    exact ⟨xre, xbl⟩
   ·
    replace c7 := Bool.eq_false_iff.mpr c7
    subst c7
    rw [if_neg (show ¬ (false = true) by decide)] at H
    have H' := Aside0.mk H
    clear H
    go_wp2
    go_loopg [14] kj1 (fun kq v14 w' => ∃ (x14_2 : Int), v14 = .int .i64 x14_2 ∧ Aside0 (lexis_Scheme.l0 kq a0 (a0.size : Int) x14_2 = some r) ∧ Aside0 (kq ≤ kj1) ∧ Aside0 (Below w.heap.size w w'))
    case atStart => exact ⟨(0), xrr, H', ⟨Nat.le_refl _⟩, ⟨xbl⟩⟩
    case round =>
     clear H'
     obtain ⟨x14_2, rfl, HA, HK2, HB⟩ := hrel
     cases gk with
     | zero => exact absurd HA.out (by simp [lexis_Scheme.l0])
     | succ k2 =>
      have H := HA.out
      clear HA
      simp only [lexis_Scheme.l0] at H
      by_cases c8 : x14_2 < (a0.size : Int)
      ·
       rw [if_pos c8] at H
       have c8b0 := decide_eq_true c8
       clear c8
       by_cases c9 : 0 ≤ x14_2
       ·
        rw [if_pos c9] at H
        have c9b0 := decide_eq_true c9
        clear c9
        by_cases c10 : x14_2 < (a0.size : Int)
        ·
         rw [if_pos c10] at H
         have c10b0 := decide_eq_true c10
         clear c10
         replace H := Option.bind_eq_some_iff.mp H
         obtain ⟨t112, A120, H⟩ := H
         try dsimp only at H
         have A12 := Aside0.mk A120
         clear A120
         by_cases c13 : t112 = true
         ·
          subst c13
          rw [if_pos rfl] at H
          have H' := Aside0.mk H
          clear H
          have p11 : 0 ≤ (x14_2 : Int) := xod
          have q11 : x14_2 < (a0.size : Int) := xod
          have hx11 := bt_at a0 x14_2
          replace p11 := eq_true p11
          replace q11 := eq_true q11
          try (have q11x := q11; simp only [ByteArray.size_extract, Nat.min_self] at q11x)
          go_wp2_with (first | ((with_reducible refine gate_callee (f := 24) rfl ?_); refine xgl 20 Tryd.func24 #[.int .u8 (bt a0 x14_2), .int .i64 3] ?_; (with_reducible refine (octet_Is.calls k2 (bt a0 x14_2) 3 true _ A12.out).mono ?_); rintro e w' ⟨rfl, ⟨nd, rfl⟩⟩; refine ⟨_, rfl, ?_⟩))
          go_roundg k2
          case measure => have := HJ1.out; have := HK2.out; omega
          case rel => exact ⟨(wrap64 (x14_2 + 1)), xrr, H', ⟨by have := HJ1.out; have := HK2.out; omega⟩, ⟨xbl⟩⟩
         ·
          replace c13 := Bool.eq_false_iff.mpr c13
          subst c13
          rw [if_neg (show ¬ (false = true) by decide)] at H
          have c14b0 := eq_true (xod : 0 ≤ x14_2)
          obtain ⟨ji15, hji15⟩ : ∃ j_ : Int, (wrap64 (x14_2 + 1)) = j_ := ⟨_, rfl⟩
          first | rw [hji15] at H | simp only [hji15] at H | skip
          (try rw [hji15] at A12)
          have hji15w : (IntKind.i64.wrap (x14_2 + 1)) = ji15 := (i64_w _).trans hji15
          by_cases c16 : x14_2 ≤ (ji15)
          ·
           rw [if_pos c16] at H
           have c16b0 := eq_true c16
           have c16b1 := decide_eq_true c16
           clear c16
           by_cases c17 : (ji15) ≤ (a0.size : Int)
           ·
            rw [if_pos c17] at H
            have c17b0 := eq_true c17
            have c17b1 := decide_eq_true c17
            clear c17
            obtain ⟨ji18, hji18⟩ : ∃ j_ : ByteArray, (a0.extract (x14_2 : Int).toNat ((ji15) : Int).toNat) = j_ := ⟨_, rfl⟩
            try (have hji18x := hji18; simp only [Int.toNat_natCast] at hji18x)
            first | rw [hji18] at H | simp only [hji18] at H | skip
            (try rw [hji18] at A12)
            replace H := Option.bind_eq_some_iff.mp H
            obtain ⟨t113, A190, H⟩ := H
            try dsimp only at H
            have A19 := Aside0.mk A190
            clear A190
            by_cases c20 : t113 < 0
            ·
             rw [if_pos c20] at H
             have c20b0 := decide_eq_true c20
             clear c20
             obtain rfl := Option.some.inj H
             have p11 : 0 ≤ (x14_2 : Int) := xod
             have q11 : x14_2 < (a0.size : Int) := xod
             have hx11 := bt_at a0 x14_2
             replace p11 := eq_true p11
             replace q11 := eq_true q11
             try (have q11x := q11; simp only [ByteArray.size_extract, Nat.min_self] at q11x)
             go_wp2_with (first | ((with_reducible refine gate_callee (f := 24) rfl ?_); refine xgl 20 Tryd.func24 #[.int .u8 (bt a0 x14_2), .int .i64 3] ?_; (with_reducible refine (octet_Is.calls k2 (bt a0 x14_2) 3 false _ A12.out).mono ?_); rintro e w' ⟨rfl, ⟨nd, rfl⟩⟩; refine ⟨_, rfl, ?_⟩) | (go_at_call 17; (with_reducible refine (octet_Find.calls k2 (⟨#[43, 45, 46]⟩ : ByteArray) 0 ji18 t113 _ A19.out).mono ?_); rintro e w21 ⟨rfl, hb⟩; replace HB := xst hb; (try clear hb)))
             go_ret
             exact ⟨by first | rfl | (simp [errW_none, errW_some] <;> first | rfl | (simp only [xp_isEmpty, bne, Bool.not_not]; done)) | (simp only [← hji15, ← hji18]; first | rfl | (simp [errW_none, errW_some] <;> rfl)) | (simp [*, errW_none, errW_some] <;> rfl), xbl⟩
            ·
             rw [if_neg c20] at H
             have c20b0 := decide_eq_false c20
             clear c20
             have H' := Aside0.mk H
             clear H
             have p11 : 0 ≤ (x14_2 : Int) := xod
             have q11 : x14_2 < (a0.size : Int) := xod
             have hx11 := bt_at a0 x14_2
             replace p11 := eq_true p11
             replace q11 := eq_true q11
             try (have q11x := q11; simp only [ByteArray.size_extract, Nat.min_self] at q11x)
             go_wp2_with (first | ((with_reducible refine gate_callee (f := 24) rfl ?_); refine xgl 20 Tryd.func24 #[.int .u8 (bt a0 x14_2), .int .i64 3] ?_; (with_reducible refine (octet_Is.calls k2 (bt a0 x14_2) 3 false _ A12.out).mono ?_); rintro e w' ⟨rfl, ⟨nd, rfl⟩⟩; refine ⟨_, rfl, ?_⟩) | (go_at_call 17; (with_reducible refine (octet_Find.calls k2 (⟨#[43, 45, 46]⟩ : ByteArray) 0 ji18 t113 _ A19.out).mono ?_); rintro e w22 ⟨rfl, hb⟩; replace HB := xst hb; (try clear hb)))
             first | go_roundg k2 | (simp only [← hji15, ← hji18]; go_roundg k2)
             case measure => have := HJ1.out; have := HK2.out; omega
             case rel => exact ⟨(ji15), (by first | rfl | (simp; done) | (simp only [← hji15] <;> (first | rfl | simp)) | (simp [*]; done) | (simp [wrap64]; done)), H', ⟨by have := HJ1.out; have := HK2.out; omega⟩, ⟨xbl⟩⟩
           ·
            rw [if_neg c17] at H
            exact absurd H (by simp)
          ·
           rw [if_neg c16] at H
           exact absurd H (by simp)
        ·
         rw [if_neg c10] at H
         exact absurd H (by simp)
       ·
        rw [if_neg c9] at H
        exact absurd H (by simp)
      ·
       rw [if_neg c8] at H
       have c8b0 := decide_eq_false c8
       clear c8
       obtain rfl := Option.some.inj H
       go_wp2
       go_ret
       exact ⟨xre, xbl⟩
def IsS38 (w0 W : World) (g : Nat) (f0 : ByteArray) (f1 : Int) (f2 : Bool) (f3 : ByteArray) (f4 : Bool) (f5 : ByteArray) (f6 : ByteArray) (f7 : Bool) (f8 : ByteArray) (f9 : Bool) (f10 : ByteArray) : Prop := W.heap[g]? = some (.cells #[.string f0, .int .i64 f1, .bool f2, .string f3, .bool f4, .string f5, .string f6, .bool f7, .string f8, .bool f9, .string f10] 38 (0, 0)) ∧ w0.heap.size ≤ g
theorem IsS38.grown {w0 W : World} {g : Nat} {f0 : ByteArray} {f1 : Int} {f2 : Bool} {f3 : ByteArray} {f4 : Bool} {f5 : ByteArray} {f6 : ByteArray} {f7 : Bool} {f8 : ByteArray} {f9 : Bool} {f10 : ByteArray} {W1 : World} {row : Option Nat} (h : IsS38 w0 W g f0 f1 f2 f3 f4 f5 f6 f7 f8 f9 f10) (hw : W.grownBy W1 row) (hne : some g ≠ row) : IsS38 w0 W1 g f0 f1 f2 f3 f4 f5 f6 f7 f8 f9 f10 := by
  obtain ⟨hb, hg⟩ := h
  exact ⟨blk_grown hb hw hne, hg⟩
theorem IsS38.kept {w0 W : World} {g : Nat} {f0 : ByteArray} {f1 : Int} {f2 : Bool} {f3 : ByteArray} {f4 : Bool} {f5 : ByteArray} {f6 : ByteArray} {f7 : Bool} {f8 : ByteArray} {f9 : Bool} {f10 : ByteArray} {W1 : World} {S : Nat → Prop} (h : IsS38 w0 W g f0 f1 f2 f3 f4 f5 f6 f7 f8 f9 f10) (hk : Kept W W1 S) (hne : ¬ S g) : IsS38 w0 W1 g f0 f1 f2 f3 f4 f5 f6 f7 f8 f9 f10 := by
  obtain ⟨hb, hg⟩ := h
  exact ⟨blk_kept hb hk hne, hg⟩
theorem IsS38.below {w0 W : World} {g : Nat} {f0 : ByteArray} {f1 : Int} {f2 : Bool} {f3 : ByteArray} {f4 : Bool} {f5 : ByteArray} {f6 : ByteArray} {f7 : Bool} {f8 : ByteArray} {f9 : Bool} {f10 : ByteArray} {W1 : World} (h : IsS38 w0 W g f0 f1 f2 f3 f4 f5 f6 f7 f8 f9 f10) (hw : Below W.heap.size W W1) : IsS38 w0 W1 g f0 f1 f2 f3 f4 f5 f6 f7 f8 f9 f10 := h.grown (grown_of_below hw none) (by simp)
theorem IsS38.alloc {w0 W : World} {g : Nat} {f0 : ByteArray} {f1 : Int} {f2 : Bool} {f3 : ByteArray} {f4 : Bool} {f5 : ByteArray} {f6 : ByteArray} {f7 : Bool} {f8 : ByteArray} {f9 : Bool} {f10 : ByteArray} (h : IsS38 w0 W g f0 f1 f2 f3 f4 f5 f6 f7 f8 f9 f10) (o : Obj) : IsS38 w0 (W.alloc o) g f0 f1 f2 f3 f4 f5 f6 f7 f8 f9 f10 := h.below (below_alloc (Below.refl _ _) o)
theorem IsS38.drewN {w0 W : World} {g : Nat} {f0 : ByteArray} {f1 : Int} {f2 : Bool} {f3 : ByteArray} {f4 : Bool} {f5 : ByteArray} {f6 : ByteArray} {f7 : Bool} {f8 : ByteArray} {f9 : Bool} {f10 : ByteArray} (h : IsS38 w0 W g f0 f1 f2 f3 f4 f5 f6 f7 f8 f9 f10) (m : Nat) : IsS38 w0 (W.drewN m) g f0 f1 f2 f3 f4 f5 f6 f7 f8 f9 f10 := h
theorem IsS38.drew {w0 W : World} {g : Nat} {f0 : ByteArray} {f1 : Int} {f2 : Bool} {f3 : ByteArray} {f4 : Bool} {f5 : ByteArray} {f6 : ByteArray} {f7 : Bool} {f8 : ByteArray} {f9 : Bool} {f10 : ByteArray} (h : IsS38 w0 W g f0 f1 f2 f3 f4 f5 f6 f7 f8 f9 f10) : IsS38 w0 W.drew g f0 f1 f2 f3 f4 f5 f6 f7 f8 f9 f10 := h
theorem IsS38.at_ {w0 W : World} {g : Nat} {f0 : ByteArray} {f1 : Int} {f2 : Bool} {f3 : ByteArray} {f4 : Bool} {f5 : ByteArray} {f6 : ByteArray} {f7 : Bool} {f8 : ByteArray} {f9 : Bool} {f10 : ByteArray} {w' : World} {m : Nat} (hq : W.drewN m = w') (h : IsS38 w0 W g f0 f1 f2 f3 f4 f5 f6 f7 f8 f9 f10) : IsS38 w0 w' g f0 f1 f2 f3 f4 f5 f6 f7 f8 f9 f10 := by subst hq; exact IsS38.drewN h m
theorem IsS38.apart {w0 W : World} {g : Nat} {f0 : ByteArray} {f1 : Int} {f2 : Bool} {f3 : ByteArray} {f4 : Bool} {f5 : ByteArray} {f6 : ByteArray} {f7 : Bool} {f8 : ByteArray} {f9 : Bool} {f10 : ByteArray} {α : Type} {d : Kd α} {e : Nat} {base : Nat} {ok : Nat → Prop} {v : Value} {xs : List α} (h : IsS38 w0 W g f0 f1 f2 f3 f4 f5 f6 f7 f8 f9 f10) (ho : d.R e W base ok v xs) (ht : ∀ q, q ∈ e :: d.E → q ≠ 38) : d.R e W base (fun k => ok k ∧ k ≠ g) v xs := by
  obtain ⟨hb, hg⟩ := h
  exact Kd.R_types ho hb ht
theorem IsS38.own_ne {w0 W : World} {g : Nat} {f0 : ByteArray} {f1 : Int} {f2 : Bool} {f3 : ByteArray} {f4 : Bool} {f5 : ByteArray} {f6 : ByteArray} {f7 : Bool} {f8 : ByteArray} {f9 : Bool} {f10 : ByteArray} {α : Type} {d : Kd α} {e : Nat} {base : Nat} {ok : Nat → Prop} {v : Value} {xs : List α} (h : IsS38 w0 W g f0 f1 f2 f3 f4 f5 f6 f7 f8 f9 f10) (ho : d.R e W base ok v xs) (ht : e ≠ 38) : some g ≠ v.ownBlock := by
  obtain ⟨hb, hg⟩ := h
  exact Kd.R_ne ho hb ht
theorem IsS38.lt {w0 W : World} {g : Nat} {f0 : ByteArray} {f1 : Int} {f2 : Bool} {f3 : ByteArray} {f4 : Bool} {f5 : ByteArray} {f6 : ByteArray} {f7 : Bool} {f8 : ByteArray} {f9 : Bool} {f10 : ByteArray} (h : IsS38 w0 W g f0 f1 f2 f3 f4 f5 f6 f7 f8 f9 f10) : g < W.heap.size := by
  obtain ⟨hb, hg⟩ := h
  exact blk_lt hb
theorem IsS38.ge {w0 W : World} {g : Nat} {f0 : ByteArray} {f1 : Int} {f2 : Bool} {f3 : ByteArray} {f4 : Bool} {f5 : ByteArray} {f6 : ByteArray} {f7 : Bool} {f8 : ByteArray} {f9 : Bool} {f10 : ByteArray} (h : IsS38 w0 W g f0 f1 f2 f3 f4 f5 f6 f7 f8 f9 f10) : w0.heap.size ≤ g := by
  obtain ⟨hb, hg⟩ := h
  exact hg
theorem IsS38.far {w0 W : World} {g : Nat} {f0 : ByteArray} {f1 : Int} {f2 : Bool} {f3 : ByteArray} {f4 : Bool} {f5 : ByteArray} {f6 : ByteArray} {f7 : Bool} {f8 : ByteArray} {f9 : Bool} {f10 : ByteArray} {p : Addr} (h : IsS38 w0 W g f0 f1 f2 f3 f4 f5 f6 f7 f8 f9 f10) (hne : g ≠ p.block) (u : Value) : IsS38 w0 (W.setCell p u) g f0 f1 f2 f3 f4 f5 f6 f7 f8 f9 f10 := by
  obtain ⟨hb, hg⟩ := h
  exact ⟨blk_far hb hne u, hg⟩
theorem cellS38_0 {W : World} {g : Nat} {f0 : ByteArray} {f1 : Int} {f2 : Bool} {f3 : ByteArray} {f4 : Bool} {f5 : ByteArray} {f6 : ByteArray} {f7 : Bool} {f8 : ByteArray} {f9 : Bool} {f10 : ByteArray} (h : W.heap[g]? = some (.cells #[.string f0, .int .i64 f1, .bool f2, .string f3, .bool f4, .string f5, .string f6, .bool f7, .string f8, .bool f9, .string f10] 38 (0, 0))) : W.cell? ⟨g, 0, none⟩ = some (.string f0) := (blk_cell h 0).trans rfl
theorem IsS38.set_0 {w0 W : World} {g : Nat} {f0 : ByteArray} {f1 : Int} {f2 : Bool} {f3 : ByteArray} {f4 : Bool} {f5 : ByteArray} {f6 : ByteArray} {f7 : Bool} {f8 : ByteArray} {f9 : Bool} {f10 : ByteArray} (h : IsS38 w0 W g f0 f1 f2 f3 f4 f5 f6 f7 f8 f9 f10) (x : ByteArray) : IsS38 w0 (W.setCell ⟨g, 0, none⟩ (.string x)) g x f1 f2 f3 f4 f5 f6 f7 f8 f9 f10 := by
  obtain ⟨hb, hg⟩ := h
  exact ⟨by simpa using blk_set hb 0 (.string x), hg⟩
theorem cellS38_1 {W : World} {g : Nat} {f0 : ByteArray} {f1 : Int} {f2 : Bool} {f3 : ByteArray} {f4 : Bool} {f5 : ByteArray} {f6 : ByteArray} {f7 : Bool} {f8 : ByteArray} {f9 : Bool} {f10 : ByteArray} (h : W.heap[g]? = some (.cells #[.string f0, .int .i64 f1, .bool f2, .string f3, .bool f4, .string f5, .string f6, .bool f7, .string f8, .bool f9, .string f10] 38 (0, 0))) : W.cell? ⟨g, 1, none⟩ = some (.int .i64 f1) := (blk_cell h 1).trans rfl
theorem IsS38.set_1 {w0 W : World} {g : Nat} {f0 : ByteArray} {f1 : Int} {f2 : Bool} {f3 : ByteArray} {f4 : Bool} {f5 : ByteArray} {f6 : ByteArray} {f7 : Bool} {f8 : ByteArray} {f9 : Bool} {f10 : ByteArray} (h : IsS38 w0 W g f0 f1 f2 f3 f4 f5 f6 f7 f8 f9 f10) (x : Int) : IsS38 w0 (W.setCell ⟨g, 1, none⟩ (.int .i64 x)) g f0 x f2 f3 f4 f5 f6 f7 f8 f9 f10 := by
  obtain ⟨hb, hg⟩ := h
  exact ⟨by simpa using blk_set hb 1 (.int .i64 x), hg⟩
theorem cellS38_2 {W : World} {g : Nat} {f0 : ByteArray} {f1 : Int} {f2 : Bool} {f3 : ByteArray} {f4 : Bool} {f5 : ByteArray} {f6 : ByteArray} {f7 : Bool} {f8 : ByteArray} {f9 : Bool} {f10 : ByteArray} (h : W.heap[g]? = some (.cells #[.string f0, .int .i64 f1, .bool f2, .string f3, .bool f4, .string f5, .string f6, .bool f7, .string f8, .bool f9, .string f10] 38 (0, 0))) : W.cell? ⟨g, 2, none⟩ = some (.bool f2) := (blk_cell h 2).trans rfl
theorem IsS38.set_2 {w0 W : World} {g : Nat} {f0 : ByteArray} {f1 : Int} {f2 : Bool} {f3 : ByteArray} {f4 : Bool} {f5 : ByteArray} {f6 : ByteArray} {f7 : Bool} {f8 : ByteArray} {f9 : Bool} {f10 : ByteArray} (h : IsS38 w0 W g f0 f1 f2 f3 f4 f5 f6 f7 f8 f9 f10) (x : Bool) : IsS38 w0 (W.setCell ⟨g, 2, none⟩ (.bool x)) g f0 f1 x f3 f4 f5 f6 f7 f8 f9 f10 := by
  obtain ⟨hb, hg⟩ := h
  exact ⟨by simpa using blk_set hb 2 (.bool x), hg⟩
theorem cellS38_3 {W : World} {g : Nat} {f0 : ByteArray} {f1 : Int} {f2 : Bool} {f3 : ByteArray} {f4 : Bool} {f5 : ByteArray} {f6 : ByteArray} {f7 : Bool} {f8 : ByteArray} {f9 : Bool} {f10 : ByteArray} (h : W.heap[g]? = some (.cells #[.string f0, .int .i64 f1, .bool f2, .string f3, .bool f4, .string f5, .string f6, .bool f7, .string f8, .bool f9, .string f10] 38 (0, 0))) : W.cell? ⟨g, 3, none⟩ = some (.string f3) := (blk_cell h 3).trans rfl
theorem IsS38.set_3 {w0 W : World} {g : Nat} {f0 : ByteArray} {f1 : Int} {f2 : Bool} {f3 : ByteArray} {f4 : Bool} {f5 : ByteArray} {f6 : ByteArray} {f7 : Bool} {f8 : ByteArray} {f9 : Bool} {f10 : ByteArray} (h : IsS38 w0 W g f0 f1 f2 f3 f4 f5 f6 f7 f8 f9 f10) (x : ByteArray) : IsS38 w0 (W.setCell ⟨g, 3, none⟩ (.string x)) g f0 f1 f2 x f4 f5 f6 f7 f8 f9 f10 := by
  obtain ⟨hb, hg⟩ := h
  exact ⟨by simpa using blk_set hb 3 (.string x), hg⟩
theorem cellS38_4 {W : World} {g : Nat} {f0 : ByteArray} {f1 : Int} {f2 : Bool} {f3 : ByteArray} {f4 : Bool} {f5 : ByteArray} {f6 : ByteArray} {f7 : Bool} {f8 : ByteArray} {f9 : Bool} {f10 : ByteArray} (h : W.heap[g]? = some (.cells #[.string f0, .int .i64 f1, .bool f2, .string f3, .bool f4, .string f5, .string f6, .bool f7, .string f8, .bool f9, .string f10] 38 (0, 0))) : W.cell? ⟨g, 4, none⟩ = some (.bool f4) := (blk_cell h 4).trans rfl
theorem IsS38.set_4 {w0 W : World} {g : Nat} {f0 : ByteArray} {f1 : Int} {f2 : Bool} {f3 : ByteArray} {f4 : Bool} {f5 : ByteArray} {f6 : ByteArray} {f7 : Bool} {f8 : ByteArray} {f9 : Bool} {f10 : ByteArray} (h : IsS38 w0 W g f0 f1 f2 f3 f4 f5 f6 f7 f8 f9 f10) (x : Bool) : IsS38 w0 (W.setCell ⟨g, 4, none⟩ (.bool x)) g f0 f1 f2 f3 x f5 f6 f7 f8 f9 f10 := by
  obtain ⟨hb, hg⟩ := h
  exact ⟨by simpa using blk_set hb 4 (.bool x), hg⟩
theorem cellS38_5 {W : World} {g : Nat} {f0 : ByteArray} {f1 : Int} {f2 : Bool} {f3 : ByteArray} {f4 : Bool} {f5 : ByteArray} {f6 : ByteArray} {f7 : Bool} {f8 : ByteArray} {f9 : Bool} {f10 : ByteArray} (h : W.heap[g]? = some (.cells #[.string f0, .int .i64 f1, .bool f2, .string f3, .bool f4, .string f5, .string f6, .bool f7, .string f8, .bool f9, .string f10] 38 (0, 0))) : W.cell? ⟨g, 5, none⟩ = some (.string f5) := (blk_cell h 5).trans rfl
theorem IsS38.set_5 {w0 W : World} {g : Nat} {f0 : ByteArray} {f1 : Int} {f2 : Bool} {f3 : ByteArray} {f4 : Bool} {f5 : ByteArray} {f6 : ByteArray} {f7 : Bool} {f8 : ByteArray} {f9 : Bool} {f10 : ByteArray} (h : IsS38 w0 W g f0 f1 f2 f3 f4 f5 f6 f7 f8 f9 f10) (x : ByteArray) : IsS38 w0 (W.setCell ⟨g, 5, none⟩ (.string x)) g f0 f1 f2 f3 f4 x f6 f7 f8 f9 f10 := by
  obtain ⟨hb, hg⟩ := h
  exact ⟨by simpa using blk_set hb 5 (.string x), hg⟩
theorem cellS38_6 {W : World} {g : Nat} {f0 : ByteArray} {f1 : Int} {f2 : Bool} {f3 : ByteArray} {f4 : Bool} {f5 : ByteArray} {f6 : ByteArray} {f7 : Bool} {f8 : ByteArray} {f9 : Bool} {f10 : ByteArray} (h : W.heap[g]? = some (.cells #[.string f0, .int .i64 f1, .bool f2, .string f3, .bool f4, .string f5, .string f6, .bool f7, .string f8, .bool f9, .string f10] 38 (0, 0))) : W.cell? ⟨g, 6, none⟩ = some (.string f6) := (blk_cell h 6).trans rfl
theorem IsS38.set_6 {w0 W : World} {g : Nat} {f0 : ByteArray} {f1 : Int} {f2 : Bool} {f3 : ByteArray} {f4 : Bool} {f5 : ByteArray} {f6 : ByteArray} {f7 : Bool} {f8 : ByteArray} {f9 : Bool} {f10 : ByteArray} (h : IsS38 w0 W g f0 f1 f2 f3 f4 f5 f6 f7 f8 f9 f10) (x : ByteArray) : IsS38 w0 (W.setCell ⟨g, 6, none⟩ (.string x)) g f0 f1 f2 f3 f4 f5 x f7 f8 f9 f10 := by
  obtain ⟨hb, hg⟩ := h
  exact ⟨by simpa using blk_set hb 6 (.string x), hg⟩
theorem cellS38_7 {W : World} {g : Nat} {f0 : ByteArray} {f1 : Int} {f2 : Bool} {f3 : ByteArray} {f4 : Bool} {f5 : ByteArray} {f6 : ByteArray} {f7 : Bool} {f8 : ByteArray} {f9 : Bool} {f10 : ByteArray} (h : W.heap[g]? = some (.cells #[.string f0, .int .i64 f1, .bool f2, .string f3, .bool f4, .string f5, .string f6, .bool f7, .string f8, .bool f9, .string f10] 38 (0, 0))) : W.cell? ⟨g, 7, none⟩ = some (.bool f7) := (blk_cell h 7).trans rfl
theorem IsS38.set_7 {w0 W : World} {g : Nat} {f0 : ByteArray} {f1 : Int} {f2 : Bool} {f3 : ByteArray} {f4 : Bool} {f5 : ByteArray} {f6 : ByteArray} {f7 : Bool} {f8 : ByteArray} {f9 : Bool} {f10 : ByteArray} (h : IsS38 w0 W g f0 f1 f2 f3 f4 f5 f6 f7 f8 f9 f10) (x : Bool) : IsS38 w0 (W.setCell ⟨g, 7, none⟩ (.bool x)) g f0 f1 f2 f3 f4 f5 f6 x f8 f9 f10 := by
  obtain ⟨hb, hg⟩ := h
  exact ⟨by simpa using blk_set hb 7 (.bool x), hg⟩
theorem cellS38_8 {W : World} {g : Nat} {f0 : ByteArray} {f1 : Int} {f2 : Bool} {f3 : ByteArray} {f4 : Bool} {f5 : ByteArray} {f6 : ByteArray} {f7 : Bool} {f8 : ByteArray} {f9 : Bool} {f10 : ByteArray} (h : W.heap[g]? = some (.cells #[.string f0, .int .i64 f1, .bool f2, .string f3, .bool f4, .string f5, .string f6, .bool f7, .string f8, .bool f9, .string f10] 38 (0, 0))) : W.cell? ⟨g, 8, none⟩ = some (.string f8) := (blk_cell h 8).trans rfl
theorem IsS38.set_8 {w0 W : World} {g : Nat} {f0 : ByteArray} {f1 : Int} {f2 : Bool} {f3 : ByteArray} {f4 : Bool} {f5 : ByteArray} {f6 : ByteArray} {f7 : Bool} {f8 : ByteArray} {f9 : Bool} {f10 : ByteArray} (h : IsS38 w0 W g f0 f1 f2 f3 f4 f5 f6 f7 f8 f9 f10) (x : ByteArray) : IsS38 w0 (W.setCell ⟨g, 8, none⟩ (.string x)) g f0 f1 f2 f3 f4 f5 f6 f7 x f9 f10 := by
  obtain ⟨hb, hg⟩ := h
  exact ⟨by simpa using blk_set hb 8 (.string x), hg⟩
theorem cellS38_9 {W : World} {g : Nat} {f0 : ByteArray} {f1 : Int} {f2 : Bool} {f3 : ByteArray} {f4 : Bool} {f5 : ByteArray} {f6 : ByteArray} {f7 : Bool} {f8 : ByteArray} {f9 : Bool} {f10 : ByteArray} (h : W.heap[g]? = some (.cells #[.string f0, .int .i64 f1, .bool f2, .string f3, .bool f4, .string f5, .string f6, .bool f7, .string f8, .bool f9, .string f10] 38 (0, 0))) : W.cell? ⟨g, 9, none⟩ = some (.bool f9) := (blk_cell h 9).trans rfl
theorem IsS38.set_9 {w0 W : World} {g : Nat} {f0 : ByteArray} {f1 : Int} {f2 : Bool} {f3 : ByteArray} {f4 : Bool} {f5 : ByteArray} {f6 : ByteArray} {f7 : Bool} {f8 : ByteArray} {f9 : Bool} {f10 : ByteArray} (h : IsS38 w0 W g f0 f1 f2 f3 f4 f5 f6 f7 f8 f9 f10) (x : Bool) : IsS38 w0 (W.setCell ⟨g, 9, none⟩ (.bool x)) g f0 f1 f2 f3 f4 f5 f6 f7 f8 x f10 := by
  obtain ⟨hb, hg⟩ := h
  exact ⟨by simpa using blk_set hb 9 (.bool x), hg⟩
theorem cellS38_10 {W : World} {g : Nat} {f0 : ByteArray} {f1 : Int} {f2 : Bool} {f3 : ByteArray} {f4 : Bool} {f5 : ByteArray} {f6 : ByteArray} {f7 : Bool} {f8 : ByteArray} {f9 : Bool} {f10 : ByteArray} (h : W.heap[g]? = some (.cells #[.string f0, .int .i64 f1, .bool f2, .string f3, .bool f4, .string f5, .string f6, .bool f7, .string f8, .bool f9, .string f10] 38 (0, 0))) : W.cell? ⟨g, 10, none⟩ = some (.string f10) := (blk_cell h 10).trans rfl
theorem IsS38.set_10 {w0 W : World} {g : Nat} {f0 : ByteArray} {f1 : Int} {f2 : Bool} {f3 : ByteArray} {f4 : Bool} {f5 : ByteArray} {f6 : ByteArray} {f7 : Bool} {f8 : ByteArray} {f9 : Bool} {f10 : ByteArray} (h : IsS38 w0 W g f0 f1 f2 f3 f4 f5 f6 f7 f8 f9 f10) (x : ByteArray) : IsS38 w0 (W.setCell ⟨g, 10, none⟩ (.string x)) g f0 f1 f2 f3 f4 f5 f6 f7 f8 f9 x := by
  obtain ⟨hb, hg⟩ := h
  exact ⟨by simpa using blk_set hb 10 (.string x), hg⟩
def syntax_walk_scheme.f (k : Nat) (s0_0 : ByteArray) (s0_1 : Int) (s0_2 : Bool) (s0_3 : ByteArray) (s0_4 : Bool) (s0_5 : ByteArray) (s0_6 : ByteArray) (s0_7 : Bool) (s0_8 : ByteArray) (s0_9 : Bool) (s0_10 : ByteArray) : Option (Bool × ByteArray × Int × Bool × ByteArray × Bool × ByteArray × ByteArray × Bool × ByteArray × Bool × ByteArray) := (octet_Find.f k s0_0 0 (⟨#[58, 47, 63, 35]⟩ : ByteArray)).bind fun t114 => (if t114 < 0 then (some (false, s0_0, s0_1, s0_2, s0_3, s0_4, s0_5, s0_6, s0_7, s0_8, s0_9, s0_10)) else (if 0 ≤ t114 then (if t114 < (s0_0.size : Int) then (if (bt s0_0 t114) = 58 then (if t114 ≤ (s0_0.size : Int) then ((lexis_Scheme.f k (s0_0.extract 0 (t114 : Int).toNat)).bind fun t115 => (if t115 = true then (some (true, s0_0, wrap64 (t114 + 1), s0_2, s0_0.extract 0 (t114 : Int).toNat, s0_4, s0_5, s0_6, s0_7, s0_8, s0_9, s0_10)) else (some (false, s0_0, s0_1, s0_2, s0_3, s0_4, s0_5, s0_6, s0_7, s0_8, s0_9, s0_10)))) else (none)) else (some (false, s0_0, s0_1, s0_2, s0_3, s0_4, s0_5, s0_6, s0_7, s0_8, s0_9, s0_10))) else (none)) else (none)))
theorem syntax_walk_scheme.mono : ∀ a0 a1 a2 a3 a4 a5 a6 a7 a8 a9 a10 k, LeO (syntax_walk_scheme.f k a0 a1 a2 a3 a4 a5 a6 a7 a8 a9 a10) (syntax_walk_scheme.f (k + 1) a0 a1 a2 a3 a4 a5 a6 a7 a8 a9 a10) := by
  intro a0 a1 a2 a3 a4 a5 a6 a7 a8 a9 a10 k
  have m0 := @lexis_Scheme.mono; have m1 := @octet_Find.mono
  unfold syntax_walk_scheme.f
  exact xmo
set_option maxHeartbeats 8000000 in
set_option maxRecDepth 100000 in
theorem syntax_walk_scheme.calls (k : Nat) (g : Nat) (s0_0 : ByteArray) (s0_1 : Int) (s0_2 : Bool) (s0_3 : ByteArray) (s0_4 : Bool) (s0_5 : ByteArray) (s0_6 : ByteArray) (s0_7 : Bool) (s0_8 : ByteArray) (s0_9 : Bool) (s0_10 : ByteArray) (r1 : Bool) (r2 : ByteArray) (r3 : Int) (r4 : Bool) (r5 : ByteArray) (r6 : Bool) (r7 : ByteArray) (r8 : ByteArray) (r9 : Bool) (r10 : ByteArray) (r11 : Bool) (r12 : ByteArray) (w0 w : World) (hI : IsS38 w0 w g s0_0 s0_1 s0_2 s0_3 s0_4 s0_5 s0_6 s0_7 s0_8 s0_9 s0_10) (hB : Below w0.heap.size w0 w) (h : syntax_walk_scheme.f k s0_0 s0_1 s0_2 s0_3 s0_4 s0_5 s0_6 s0_7 s0_8 s0_9 s0_10 = some (r1, r2, r3, r4, r5, r6, r7, r8, r9, r10, r11, r12)) :
    Calls Tryd.prog 12 #[.pointer (some ⟨g, 0, none⟩)] w fun e w' => e = .returned (.bool r1) ∧ IsS38 w0 w' g r2 r3 r4 r5 r6 r7 r8 r9 r10 r11 r12 ∧ Below w0.heap.size w0 w' ∧ KeepBut w w' g none := by
 have HI0 := Aside0.mk hI
 have HK := Aside0.mk (KeepBut.refl w g none)
 have HL := Aside0.mk hB.size
 clear hI
 have HW0 := Aside0.mk hB.size
 have HB := Aside0.mk hB
 clear hB
 have H : ((octet_Find.f k s0_0 0 (⟨#[58, 47, 63, 35]⟩ : ByteArray)).bind fun t114 => (if t114 < 0 then (some (false, s0_0, s0_1, s0_2, s0_3, s0_4, s0_5, s0_6, s0_7, s0_8, s0_9, s0_10)) else (if 0 ≤ t114 then (if t114 < (s0_0.size : Int) then (if (bt s0_0 t114) = 58 then (if t114 ≤ (s0_0.size : Int) then ((lexis_Scheme.f k (s0_0.extract 0 (t114 : Int).toNat)).bind fun t115 => (if t115 = true then (some (true, s0_0, wrap64 (t114 + 1), s0_2, s0_0.extract 0 (t114 : Int).toNat, s0_4, s0_5, s0_6, s0_7, s0_8, s0_9, s0_10)) else (some (false, s0_0, s0_1, s0_2, s0_3, s0_4, s0_5, s0_6, s0_7, s0_8, s0_9, s0_10)))) else (none)) else (some (false, s0_0, s0_1, s0_2, s0_3, s0_4, s0_5, s0_6, s0_7, s0_8, s0_9, s0_10))) else (none)) else (none)))) = some (r1, r2, r3, r4, r5, r6, r7, r8, r9, r10, r11, r12) := h
 clear h
 replace H := Option.bind_eq_some_iff.mp H
 obtain ⟨t114, A20, H⟩ := H
 try dsimp only at H
 have A2 := Aside0.mk A20
 clear A20
 by_cases c3 : t114 < 0
 ·
  rw [if_pos c3] at H
  have c3b0 := decide_eq_true c3
  clear c3
  simp only [Option.some.injEq, Prod.mk.injEq] at H
  obtain ⟨rfl, rfl, rfl, rfl, rfl, rfl, rfl, rfl, rfl, rfl, rfl, rfl⟩ := H
  obtain ⟨HGz4, hgz4⟩ := HI0.out
  have hcz4_0 := cellS38_0 HGz4
  have hcz4_1 := cellS38_1 HGz4
  have hcz4_2 := cellS38_2 HGz4
  have hcz4_3 := cellS38_3 HGz4
  have hcz4_4 := cellS38_4 HGz4
  have hcz4_5 := cellS38_5 HGz4
  have hcz4_6 := cellS38_6 HGz4
  have hcz4_7 := cellS38_7 HGz4
  have hcz4_8 := cellS38_8 HGz4
  have hcz4_9 := cellS38_9 HGz4
  have hcz4_10 := cellS38_10 HGz4
  have hfz4_0 := blk_frozen HGz4 0
  have hfz4_1 := blk_frozen HGz4 1
  have hfz4_2 := blk_frozen HGz4 2
  have hfz4_3 := blk_frozen HGz4 3
  have hfz4_4 := blk_frozen HGz4 4
  have hfz4_5 := blk_frozen HGz4 5
  have hfz4_6 := blk_frozen HGz4 6
  have hfz4_7 := blk_frozen HGz4 7
  have hfz4_8 := blk_frozen HGz4 8
  have hfz4_9 := blk_frozen HGz4 9
  have hfz4_10 := blk_frozen HGz4 10
  clear HGz4 hgz4
  go_enter Tryd.func12, Tryd.ntmps12
  go_wp2_with (first | ((with_reducible refine gate_callee (f := 17) rfl ?_); refine xgl 8 Tryd.func17 #[.string s0_0, .int .i64 0, .string (⟨#[58, 47, 63, 35]⟩ : ByteArray)] ?_; (with_reducible refine (octet_Find.calls k s0_0 0 (⟨#[58, 47, 63, 35]⟩ : ByteArray) t114 _ A2.out).mono ?_); rintro e w5 ⟨rfl, hb⟩; refine ⟨_, rfl, ?_⟩; have n0_ := Aside0.mk (IsS38.below (by repeat (first | (with_reducible first | exact HI0.out | apply IsS38.alloc | apply IsS38.drewN | apply IsS38.drew | apply IsS38.set_0 | apply IsS38.set_1 | apply IsS38.set_2 | apply IsS38.set_3 | apply IsS38.set_4 | apply IsS38.set_5 | apply IsS38.set_6 | apply IsS38.set_7 | apply IsS38.set_8 | apply IsS38.set_9 | apply IsS38.set_10) | exact HI0.out)) hb); have n1_ := Aside0.mk (KeepBut.trans (by repeat (first | (with_reducible first | exact HK.out | apply KeepBut.set_ | apply keep_drewN | apply keep_drew | apply keep_alloc) | exact HK.out)) (KeepBut.of_below hb g none) (.inl rfl)); have n2_ := Aside0.mk (below_step (by repeat (first | (with_reducible first | exact HB.out | apply below_alloc | apply pw_below_drewN | apply below_drew1 | refine below_set ?_ (IsS38.ge HI0.out)) | exact HB.out)) hb); clear HI0; clear HK; clear HB; have HI0 := n0_; have HK := n1_; have HB := n2_; clear n0_ n1_ n2_; (try clear hb)))
  go_ret
  exact ⟨xre, by repeat (first | (with_reducible first | exact HI0.out | apply IsS38.alloc | apply IsS38.drewN | apply IsS38.drew | apply IsS38.set_0 | apply IsS38.set_1 | apply IsS38.set_2 | apply IsS38.set_3 | apply IsS38.set_4 | apply IsS38.set_5 | apply IsS38.set_6 | apply IsS38.set_7 | apply IsS38.set_8 | apply IsS38.set_9 | apply IsS38.set_10) | exact HI0.out), by repeat (first | (with_reducible first | exact HB.out | apply below_alloc | apply pw_below_drewN | apply below_drew1 | refine below_set ?_ (IsS38.ge HI0.out)) | exact HB.out), by repeat (first | (with_reducible first | exact HK.out | apply KeepBut.set_ | apply keep_drewN | apply keep_drew | apply keep_alloc) | exact HK.out)⟩
 ·
  rw [if_neg c3] at H
  have c3b0 := decide_eq_false c3
  clear c3
  by_cases c6 : 0 ≤ t114
  ·
   rw [if_pos c6] at H
   have c6b0 := decide_eq_true c6
   clear c6
   by_cases c7 : t114 < (s0_0.size : Int)
   ·
    rw [if_pos c7] at H
    have c7b0 := decide_eq_true c7
    clear c7
    by_cases c9 : (bt s0_0 t114) = 58
    ·
     rw [if_pos c9] at H
     have c9b0 : ((bt s0_0 t114) == 58) = true := beq_iff_eq.mpr c9
     have c9b1 : ((bt s0_0 t114) != 58) = false := bne_eq_false_iff_eq.mpr c9
     clear c9
     have c10b0 := eq_true (xod : 0 ≤ t114)
     by_cases c11 : t114 ≤ (s0_0.size : Int)
     ·
      rw [if_pos c11] at H
      have c11b0 := eq_true c11
      have c11b1 := decide_eq_true c11
      clear c11
      obtain ⟨ji12, hji12⟩ : ∃ j_ : ByteArray, (s0_0.extract 0 (t114 : Int).toNat) = j_ := ⟨_, rfl⟩
      try (have hji12x := hji12; simp only [Int.toNat_natCast] at hji12x)
      first | rw [hji12] at H | simp only [hji12] at H | skip
      (try rw [hji12] at A2)
      replace H := Option.bind_eq_some_iff.mp H
      obtain ⟨t115, A130, H⟩ := H
      try dsimp only at H
      have A13 := Aside0.mk A130
      clear A130
      by_cases c14 : t115 = true
      ·
       subst c14
       rw [if_pos rfl] at H
       have c15b0 := eq_true (xod : 0 ≤ t114)
       have c16b0 := eq_true (xod : t114 ≤ (s0_0.size : Int))
       first | rw [hji12] at H | simp only [hji12] at H | skip
       (try rw [hji12] at A2)
       (try rw [hji12] at A13)
       simp only [Option.some.injEq, Prod.mk.injEq] at H
       obtain ⟨rfl, rfl, rfl, rfl, rfl, rfl, rfl, rfl, rfl, rfl, rfl, rfl⟩ := H
       obtain ⟨HGz17, hgz17⟩ := HI0.out
       have hcz17_0 := cellS38_0 HGz17
       have hcz17_1 := cellS38_1 HGz17
       have hcz17_2 := cellS38_2 HGz17
       have hcz17_3 := cellS38_3 HGz17
       have hcz17_4 := cellS38_4 HGz17
       have hcz17_5 := cellS38_5 HGz17
       have hcz17_6 := cellS38_6 HGz17
       have hcz17_7 := cellS38_7 HGz17
       have hcz17_8 := cellS38_8 HGz17
       have hcz17_9 := cellS38_9 HGz17
       have hcz17_10 := cellS38_10 HGz17
       have hfz17_0 := blk_frozen HGz17 0
       have hfz17_1 := blk_frozen HGz17 1
       have hfz17_2 := blk_frozen HGz17 2
       have hfz17_3 := blk_frozen HGz17 3
       have hfz17_4 := blk_frozen HGz17 4
       have hfz17_5 := blk_frozen HGz17 5
       have hfz17_6 := blk_frozen HGz17 6
       have hfz17_7 := blk_frozen HGz17 7
       have hfz17_8 := blk_frozen HGz17 8
       have hfz17_9 := blk_frozen HGz17 9
       have hfz17_10 := blk_frozen HGz17 10
       clear HGz17 hgz17
       go_enter Tryd.func12, Tryd.ntmps12
       go_wp2_with (first | ((with_reducible refine gate_callee (f := 17) rfl ?_); refine xgl 8 Tryd.func17 #[.string s0_0, .int .i64 0, .string (⟨#[58, 47, 63, 35]⟩ : ByteArray)] ?_; (with_reducible refine (octet_Find.calls k s0_0 0 (⟨#[58, 47, 63, 35]⟩ : ByteArray) t114 _ A2.out).mono ?_); rintro e w18 ⟨rfl, hb⟩; refine ⟨_, rfl, ?_⟩; have n0_ := Aside0.mk (IsS38.below (by repeat (first | (with_reducible first | exact HI0.out | apply IsS38.alloc | apply IsS38.drewN | apply IsS38.drew | apply IsS38.set_0 | apply IsS38.set_1 | apply IsS38.set_2 | apply IsS38.set_3 | apply IsS38.set_4 | apply IsS38.set_5 | apply IsS38.set_6 | apply IsS38.set_7 | apply IsS38.set_8 | apply IsS38.set_9 | apply IsS38.set_10) | exact HI0.out)) hb); have n1_ := Aside0.mk (KeepBut.trans (by repeat (first | (with_reducible first | exact HK.out | apply KeepBut.set_ | apply keep_drewN | apply keep_drew | apply keep_alloc) | exact HK.out)) (KeepBut.of_below hb g none) (.inl rfl)); have n2_ := Aside0.mk (below_step (by repeat (first | (with_reducible first | exact HB.out | apply below_alloc | apply pw_below_drewN | apply below_drew1 | refine below_set ?_ (IsS38.ge HI0.out)) | exact HB.out)) hb); clear HI0; clear HK; clear HB; have HI0 := n0_; have HK := n1_; have HB := n2_; clear n0_ n1_ n2_; (try clear hb); obtain ⟨HGz19, hgz19⟩ := HI0.out; have hcz19_0 := cellS38_0 HGz19; have hcz19_1 := cellS38_1 HGz19; have hcz19_2 := cellS38_2 HGz19; have hcz19_3 := cellS38_3 HGz19; have hcz19_4 := cellS38_4 HGz19; have hcz19_5 := cellS38_5 HGz19; have hcz19_6 := cellS38_6 HGz19; have hcz19_7 := cellS38_7 HGz19; have hcz19_8 := cellS38_8 HGz19; have hcz19_9 := cellS38_9 HGz19; have hcz19_10 := cellS38_10 HGz19; have hfz19_0 := blk_frozen HGz19 0; have hfz19_1 := blk_frozen HGz19 1; have hfz19_2 := blk_frozen HGz19 2; have hfz19_3 := blk_frozen HGz19 3; have hfz19_4 := blk_frozen HGz19 4; have hfz19_5 := blk_frozen HGz19 5; have hfz19_6 := blk_frozen HGz19 6; have hfz19_7 := blk_frozen HGz19 7; have hfz19_8 := blk_frozen HGz19 8; have hfz19_9 := blk_frozen HGz19 9; have hfz19_10 := blk_frozen HGz19 10; clear HGz19 hgz19; have p8 : 0 ≤ (t114 : Int) := xod; have q8 : t114 < (s0_0.size : Int) := xod; have hx8 := bt_at s0_0 t114; replace p8 := eq_true p8; replace q8 := eq_true q8) | (go_at_call 18; (with_reducible refine (lexis_Scheme.calls k ji12 true _ A13.out).mono ?_); rintro e w20 ⟨rfl, hb⟩; have n0_ := Aside0.mk (IsS38.below (by repeat (first | (with_reducible first | exact HI0.out | apply IsS38.alloc | apply IsS38.drewN | apply IsS38.drew | apply IsS38.set_0 | apply IsS38.set_1 | apply IsS38.set_2 | apply IsS38.set_3 | apply IsS38.set_4 | apply IsS38.set_5 | apply IsS38.set_6 | apply IsS38.set_7 | apply IsS38.set_8 | apply IsS38.set_9 | apply IsS38.set_10) | exact HI0.out)) hb); have n1_ := Aside0.mk (KeepBut.trans (by repeat (first | (with_reducible first | exact HK.out | apply KeepBut.set_ | apply keep_drewN | apply keep_drew | apply keep_alloc) | exact HK.out)) (KeepBut.of_below hb g none) (.inl rfl)); have n2_ := Aside0.mk (below_step (by repeat (first | (with_reducible first | exact HB.out | apply below_alloc | apply pw_below_drewN | apply below_drew1 | refine below_set ?_ (IsS38.ge HI0.out)) | exact HB.out)) hb); clear HI0; clear HK; clear HB; have HI0 := n0_; have HK := n1_; have HB := n2_; clear n0_ n1_ n2_; (try clear hb); obtain ⟨HGz21, hgz21⟩ := HI0.out; have hcz21_0 := cellS38_0 HGz21; have hcz21_1 := cellS38_1 HGz21; have hcz21_2 := cellS38_2 HGz21; have hcz21_3 := cellS38_3 HGz21; have hcz21_4 := cellS38_4 HGz21; have hcz21_5 := cellS38_5 HGz21; have hcz21_6 := cellS38_6 HGz21; have hcz21_7 := cellS38_7 HGz21; have hcz21_8 := cellS38_8 HGz21; have hcz21_9 := cellS38_9 HGz21; have hcz21_10 := cellS38_10 HGz21; have hfz21_0 := blk_frozen HGz21 0; have hfz21_1 := blk_frozen HGz21 1; have hfz21_2 := blk_frozen HGz21 2; have hfz21_3 := blk_frozen HGz21 3; have hfz21_4 := blk_frozen HGz21 4; have hfz21_5 := blk_frozen HGz21 5; have hfz21_6 := blk_frozen HGz21 6; have hfz21_7 := blk_frozen HGz21 7; have hfz21_8 := blk_frozen HGz21 8; have hfz21_9 := blk_frozen HGz21 9; have hfz21_10 := blk_frozen HGz21 10; clear HGz21 hgz21))
       go_ret
       exact ⟨by first | rfl | (simp [errW_none, errW_some] <;> first | rfl | (simp only [xp_isEmpty, bne, Bool.not_not]; done)) | (simp only [← hji12, ← hji12]; first | rfl | (simp [errW_none, errW_some] <;> rfl)) | (simp [*, errW_none, errW_some] <;> rfl), by repeat (first | (with_reducible first | exact HI0.out | apply IsS38.alloc | apply IsS38.drewN | apply IsS38.drew | apply IsS38.set_0 | apply IsS38.set_1 | apply IsS38.set_2 | apply IsS38.set_3 | apply IsS38.set_4 | apply IsS38.set_5 | apply IsS38.set_6 | apply IsS38.set_7 | apply IsS38.set_8 | apply IsS38.set_9 | apply IsS38.set_10) | exact HI0.out), by repeat (first | (with_reducible first | exact HB.out | apply below_alloc | apply pw_below_drewN | apply below_drew1 | refine below_set ?_ (IsS38.ge HI0.out)) | exact HB.out), by repeat (first | (with_reducible first | exact HK.out | apply KeepBut.set_ | apply keep_drewN | apply keep_drew | apply keep_alloc) | exact HK.out)⟩
      ·
       replace c14 := Bool.eq_false_iff.mpr c14
       subst c14
       rw [if_neg (show ¬ (false = true) by decide)] at H
       simp only [Option.some.injEq, Prod.mk.injEq] at H
       obtain ⟨rfl, rfl, rfl, rfl, rfl, rfl, rfl, rfl, rfl, rfl, rfl, rfl⟩ := H
       obtain ⟨HGz22, hgz22⟩ := HI0.out
       have hcz22_0 := cellS38_0 HGz22
       have hcz22_1 := cellS38_1 HGz22
       have hcz22_2 := cellS38_2 HGz22
       have hcz22_3 := cellS38_3 HGz22
       have hcz22_4 := cellS38_4 HGz22
       have hcz22_5 := cellS38_5 HGz22
       have hcz22_6 := cellS38_6 HGz22
       have hcz22_7 := cellS38_7 HGz22
       have hcz22_8 := cellS38_8 HGz22
       have hcz22_9 := cellS38_9 HGz22
       have hcz22_10 := cellS38_10 HGz22
       have hfz22_0 := blk_frozen HGz22 0
       have hfz22_1 := blk_frozen HGz22 1
       have hfz22_2 := blk_frozen HGz22 2
       have hfz22_3 := blk_frozen HGz22 3
       have hfz22_4 := blk_frozen HGz22 4
       have hfz22_5 := blk_frozen HGz22 5
       have hfz22_6 := blk_frozen HGz22 6
       have hfz22_7 := blk_frozen HGz22 7
       have hfz22_8 := blk_frozen HGz22 8
       have hfz22_9 := blk_frozen HGz22 9
       have hfz22_10 := blk_frozen HGz22 10
       clear HGz22 hgz22
       go_enter Tryd.func12, Tryd.ntmps12
       go_wp2_with (first | ((with_reducible refine gate_callee (f := 17) rfl ?_); refine xgl 8 Tryd.func17 #[.string s0_0, .int .i64 0, .string (⟨#[58, 47, 63, 35]⟩ : ByteArray)] ?_; (with_reducible refine (octet_Find.calls k s0_0 0 (⟨#[58, 47, 63, 35]⟩ : ByteArray) t114 _ A2.out).mono ?_); rintro e w23 ⟨rfl, hb⟩; refine ⟨_, rfl, ?_⟩; have n0_ := Aside0.mk (IsS38.below (by repeat (first | (with_reducible first | exact HI0.out | apply IsS38.alloc | apply IsS38.drewN | apply IsS38.drew | apply IsS38.set_0 | apply IsS38.set_1 | apply IsS38.set_2 | apply IsS38.set_3 | apply IsS38.set_4 | apply IsS38.set_5 | apply IsS38.set_6 | apply IsS38.set_7 | apply IsS38.set_8 | apply IsS38.set_9 | apply IsS38.set_10) | exact HI0.out)) hb); have n1_ := Aside0.mk (KeepBut.trans (by repeat (first | (with_reducible first | exact HK.out | apply KeepBut.set_ | apply keep_drewN | apply keep_drew | apply keep_alloc) | exact HK.out)) (KeepBut.of_below hb g none) (.inl rfl)); have n2_ := Aside0.mk (below_step (by repeat (first | (with_reducible first | exact HB.out | apply below_alloc | apply pw_below_drewN | apply below_drew1 | refine below_set ?_ (IsS38.ge HI0.out)) | exact HB.out)) hb); clear HI0; clear HK; clear HB; have HI0 := n0_; have HK := n1_; have HB := n2_; clear n0_ n1_ n2_; (try clear hb); obtain ⟨HGz24, hgz24⟩ := HI0.out; have hcz24_0 := cellS38_0 HGz24; have hcz24_1 := cellS38_1 HGz24; have hcz24_2 := cellS38_2 HGz24; have hcz24_3 := cellS38_3 HGz24; have hcz24_4 := cellS38_4 HGz24; have hcz24_5 := cellS38_5 HGz24; have hcz24_6 := cellS38_6 HGz24; have hcz24_7 := cellS38_7 HGz24; have hcz24_8 := cellS38_8 HGz24; have hcz24_9 := cellS38_9 HGz24; have hcz24_10 := cellS38_10 HGz24; have hfz24_0 := blk_frozen HGz24 0; have hfz24_1 := blk_frozen HGz24 1; have hfz24_2 := blk_frozen HGz24 2; have hfz24_3 := blk_frozen HGz24 3; have hfz24_4 := blk_frozen HGz24 4; have hfz24_5 := blk_frozen HGz24 5; have hfz24_6 := blk_frozen HGz24 6; have hfz24_7 := blk_frozen HGz24 7; have hfz24_8 := blk_frozen HGz24 8; have hfz24_9 := blk_frozen HGz24 9; have hfz24_10 := blk_frozen HGz24 10; clear HGz24 hgz24; have p8 : 0 ≤ (t114 : Int) := xod; have q8 : t114 < (s0_0.size : Int) := xod; have hx8 := bt_at s0_0 t114; replace p8 := eq_true p8; replace q8 := eq_true q8) | (go_at_call 18; (with_reducible refine (lexis_Scheme.calls k ji12 false _ A13.out).mono ?_); rintro e w25 ⟨rfl, hb⟩; have n0_ := Aside0.mk (IsS38.below (by repeat (first | (with_reducible first | exact HI0.out | apply IsS38.alloc | apply IsS38.drewN | apply IsS38.drew | apply IsS38.set_0 | apply IsS38.set_1 | apply IsS38.set_2 | apply IsS38.set_3 | apply IsS38.set_4 | apply IsS38.set_5 | apply IsS38.set_6 | apply IsS38.set_7 | apply IsS38.set_8 | apply IsS38.set_9 | apply IsS38.set_10) | exact HI0.out)) hb); have n1_ := Aside0.mk (KeepBut.trans (by repeat (first | (with_reducible first | exact HK.out | apply KeepBut.set_ | apply keep_drewN | apply keep_drew | apply keep_alloc) | exact HK.out)) (KeepBut.of_below hb g none) (.inl rfl)); have n2_ := Aside0.mk (below_step (by repeat (first | (with_reducible first | exact HB.out | apply below_alloc | apply pw_below_drewN | apply below_drew1 | refine below_set ?_ (IsS38.ge HI0.out)) | exact HB.out)) hb); clear HI0; clear HK; clear HB; have HI0 := n0_; have HK := n1_; have HB := n2_; clear n0_ n1_ n2_; (try clear hb)))
       go_ret
       exact ⟨by first | rfl | (simp [errW_none, errW_some] <;> first | rfl | (simp only [xp_isEmpty, bne, Bool.not_not]; done)) | (simp only [← hji12]; first | rfl | (simp [errW_none, errW_some] <;> rfl)) | (simp [*, errW_none, errW_some] <;> rfl), by repeat (first | (with_reducible first | exact HI0.out | apply IsS38.alloc | apply IsS38.drewN | apply IsS38.drew | apply IsS38.set_0 | apply IsS38.set_1 | apply IsS38.set_2 | apply IsS38.set_3 | apply IsS38.set_4 | apply IsS38.set_5 | apply IsS38.set_6 | apply IsS38.set_7 | apply IsS38.set_8 | apply IsS38.set_9 | apply IsS38.set_10) | exact HI0.out), by repeat (first | (with_reducible first | exact HB.out | apply below_alloc | apply pw_below_drewN | apply below_drew1 | refine below_set ?_ (IsS38.ge HI0.out)) | exact HB.out), by repeat (first | (with_reducible first | exact HK.out | apply KeepBut.set_ | apply keep_drewN | apply keep_drew | apply keep_alloc) | exact HK.out)⟩
     ·
      rw [if_neg c11] at H
      exact absurd H (by simp)
    ·
     rw [if_neg c9] at H
     have c9b0 : ((bt s0_0 t114) == 58) = false := beq_eq_false_iff_ne.mpr c9
     have c9b1 : ((bt s0_0 t114) != 58) = true := bne_iff_ne.mpr c9
     simp only [Option.some.injEq, Prod.mk.injEq] at H
     obtain ⟨rfl, rfl, rfl, rfl, rfl, rfl, rfl, rfl, rfl, rfl, rfl, rfl⟩ := H
     obtain ⟨HGz26, hgz26⟩ := HI0.out
     have hcz26_0 := cellS38_0 HGz26
     have hcz26_1 := cellS38_1 HGz26
     have hcz26_2 := cellS38_2 HGz26
     have hcz26_3 := cellS38_3 HGz26
     have hcz26_4 := cellS38_4 HGz26
     have hcz26_5 := cellS38_5 HGz26
     have hcz26_6 := cellS38_6 HGz26
     have hcz26_7 := cellS38_7 HGz26
     have hcz26_8 := cellS38_8 HGz26
     have hcz26_9 := cellS38_9 HGz26
     have hcz26_10 := cellS38_10 HGz26
     have hfz26_0 := blk_frozen HGz26 0
     have hfz26_1 := blk_frozen HGz26 1
     have hfz26_2 := blk_frozen HGz26 2
     have hfz26_3 := blk_frozen HGz26 3
     have hfz26_4 := blk_frozen HGz26 4
     have hfz26_5 := blk_frozen HGz26 5
     have hfz26_6 := blk_frozen HGz26 6
     have hfz26_7 := blk_frozen HGz26 7
     have hfz26_8 := blk_frozen HGz26 8
     have hfz26_9 := blk_frozen HGz26 9
     have hfz26_10 := blk_frozen HGz26 10
     clear HGz26 hgz26
     go_enter Tryd.func12, Tryd.ntmps12
     go_wp2_with (first | ((with_reducible refine gate_callee (f := 17) rfl ?_); refine xgl 8 Tryd.func17 #[.string s0_0, .int .i64 0, .string (⟨#[58, 47, 63, 35]⟩ : ByteArray)] ?_; (with_reducible refine (octet_Find.calls k s0_0 0 (⟨#[58, 47, 63, 35]⟩ : ByteArray) t114 _ A2.out).mono ?_); rintro e w27 ⟨rfl, hb⟩; refine ⟨_, rfl, ?_⟩; have n0_ := Aside0.mk (IsS38.below (by repeat (first | (with_reducible first | exact HI0.out | apply IsS38.alloc | apply IsS38.drewN | apply IsS38.drew | apply IsS38.set_0 | apply IsS38.set_1 | apply IsS38.set_2 | apply IsS38.set_3 | apply IsS38.set_4 | apply IsS38.set_5 | apply IsS38.set_6 | apply IsS38.set_7 | apply IsS38.set_8 | apply IsS38.set_9 | apply IsS38.set_10) | exact HI0.out)) hb); have n1_ := Aside0.mk (KeepBut.trans (by repeat (first | (with_reducible first | exact HK.out | apply KeepBut.set_ | apply keep_drewN | apply keep_drew | apply keep_alloc) | exact HK.out)) (KeepBut.of_below hb g none) (.inl rfl)); have n2_ := Aside0.mk (below_step (by repeat (first | (with_reducible first | exact HB.out | apply below_alloc | apply pw_below_drewN | apply below_drew1 | refine below_set ?_ (IsS38.ge HI0.out)) | exact HB.out)) hb); clear HI0; clear HK; clear HB; have HI0 := n0_; have HK := n1_; have HB := n2_; clear n0_ n1_ n2_; (try clear hb); obtain ⟨HGz28, hgz28⟩ := HI0.out; have hcz28_0 := cellS38_0 HGz28; have hcz28_1 := cellS38_1 HGz28; have hcz28_2 := cellS38_2 HGz28; have hcz28_3 := cellS38_3 HGz28; have hcz28_4 := cellS38_4 HGz28; have hcz28_5 := cellS38_5 HGz28; have hcz28_6 := cellS38_6 HGz28; have hcz28_7 := cellS38_7 HGz28; have hcz28_8 := cellS38_8 HGz28; have hcz28_9 := cellS38_9 HGz28; have hcz28_10 := cellS38_10 HGz28; have hfz28_0 := blk_frozen HGz28 0; have hfz28_1 := blk_frozen HGz28 1; have hfz28_2 := blk_frozen HGz28 2; have hfz28_3 := blk_frozen HGz28 3; have hfz28_4 := blk_frozen HGz28 4; have hfz28_5 := blk_frozen HGz28 5; have hfz28_6 := blk_frozen HGz28 6; have hfz28_7 := blk_frozen HGz28 7; have hfz28_8 := blk_frozen HGz28 8; have hfz28_9 := blk_frozen HGz28 9; have hfz28_10 := blk_frozen HGz28 10; clear HGz28 hgz28; have p8 : 0 ≤ (t114 : Int) := xod; have q8 : t114 < (s0_0.size : Int) := xod; have hx8 := bt_at s0_0 t114; replace p8 := eq_true p8; replace q8 := eq_true q8))
     go_ret
     exact ⟨xre, by repeat (first | (with_reducible first | exact HI0.out | apply IsS38.alloc | apply IsS38.drewN | apply IsS38.drew | apply IsS38.set_0 | apply IsS38.set_1 | apply IsS38.set_2 | apply IsS38.set_3 | apply IsS38.set_4 | apply IsS38.set_5 | apply IsS38.set_6 | apply IsS38.set_7 | apply IsS38.set_8 | apply IsS38.set_9 | apply IsS38.set_10) | exact HI0.out), by repeat (first | (with_reducible first | exact HB.out | apply below_alloc | apply pw_below_drewN | apply below_drew1 | refine below_set ?_ (IsS38.ge HI0.out)) | exact HB.out), by repeat (first | (with_reducible first | exact HK.out | apply KeepBut.set_ | apply keep_drewN | apply keep_drew | apply keep_alloc) | exact HK.out)⟩
   ·
    rw [if_neg c7] at H
    exact absurd H (by simp)
  ·
   rw [if_neg c6] at H
   exact absurd H (by simp)
def stringslite_HasPrefix.f (a0 : ByteArray) (a1 : ByteArray) : Option (Bool) := if (a0.size : Int) ≥ (a1.size : Int) then (if 0 ≤ (a1.size : Int) then (if (a1.size : Int) ≤ (a0.size : Int) then (some ((a0.extract 0 ((a1.size : Int) : Int).toNat).toList == a1.toList)) else (none)) else (none)) else (some false)
set_option maxHeartbeats 8000000 in
set_option maxRecDepth 100000 in
theorem stringslite_HasPrefix.calls (a0 : ByteArray) (a1 : ByteArray) (r : Bool) (w : World) (h : stringslite_HasPrefix.f a0 a1 = some r) :
    Calls Tryd.prog 28 #[.string a0, .string a1] w fun e w' => e = .returned (.bool r) ∧ Drawn0 w w' := by
 have H : (if (a0.size : Int) ≥ (a1.size : Int) then (if 0 ≤ (a1.size : Int) then (if (a1.size : Int) ≤ (a0.size : Int) then (some ((a0.extract 0 ((a1.size : Int) : Int).toNat).toList == a1.toList)) else (none)) else (none)) else (some false)) = some r := h
 clear h
 by_cases c3 : (a0.size : Int) ≥ (a1.size : Int)
 ·
  rw [if_pos c3] at H
  have c3b0 := decide_eq_true c3
  have c3b1 : decide (a1.size ≤ a0.size) = true := decide_eq_true (Int.ofNat_le.mp c3)
  clear c3
  by_cases c4 : 0 ≤ (a1.size : Int)
  ·
   rw [if_pos c4] at H
   have c4b0 := eq_true c4
   have c4b1 := decide_eq_true c4
   clear c4
   by_cases c5 : (a1.size : Int) ≤ (a0.size : Int)
   ·
    rw [if_pos c5] at H
    have c5b0 := eq_true c5
    have c5b1 := decide_eq_true c5
    clear c5
    obtain ⟨ji6, hji6⟩ : ∃ j_ : ByteArray, (a0.extract 0 ((a1.size : Int) : Int).toNat) = j_ := ⟨_, rfl⟩
    try (have hji6x := hji6; simp only [Int.toNat_natCast] at hji6x)
    first | rw [hji6] at H | simp only [hji6] at H | skip
    obtain rfl := Option.some.inj H
    go_enter Tryd.func28, Tryd.ntmps28
    go_wp2
    go_ret
    exact ⟨by first | rfl | (simp; done) | (simp only [← hji6] <;> (first | rfl | simp)) | (simp [*]; done) | (simp [wrap64]; done), xdr⟩
   ·
    rw [if_neg c5] at H
    exact absurd H (by simp)
  ·
   rw [if_neg c4] at H
   exact absurd H (by simp)
 ·
  rw [if_neg c3] at H
  have c3b0 := decide_eq_false c3
  have c3b1 : decide (a1.size ≤ a0.size) = false := decide_eq_false (fun h => c3 (Int.ofNat_le.mpr h))
  clear c3
  obtain rfl := Option.some.inj H
  go_enter Tryd.func28, Tryd.ntmps28
  go_wp2
  go_ret
  exact ⟨xrr, xdr⟩
def strings_HasPrefix.f (a0 : ByteArray) (a1 : ByteArray) : Option (Bool) := (stringslite_HasPrefix.f a0 a1).bind fun t116 => (some t116)
set_option maxHeartbeats 8000000 in
set_option maxRecDepth 100000 in
theorem strings_HasPrefix.calls (a0 : ByteArray) (a1 : ByteArray) (r : Bool) (w : World) (h : strings_HasPrefix.f a0 a1 = some r) :
    Calls Tryd.prog 22 #[.string a0, .string a1] w fun e w' => e = .returned (.bool r) ∧ Drawn0 w w' := by
 have H : ((stringslite_HasPrefix.f a0 a1).bind fun t116 => (some t116)) = some r := h
 clear h
 replace H := Option.bind_eq_some_iff.mp H
 obtain ⟨t116, A30, H⟩ := H
 try dsimp only at H
 have A3 := Aside0.mk A30
 clear A30
 obtain rfl := Option.some.inj H
 go_enter Tryd.func22, Tryd.ntmps22
 go_wp2_with (first | ((with_reducible refine gate_callee (f := 28) rfl ?_); refine xgl 7 Tryd.func28 #[.string a0, .string a1] ?_; (with_reducible refine (stringslite_HasPrefix.calls a0 a1 t116 _ A3.out).mono ?_); rintro e w' ⟨rfl, ⟨nd, rfl⟩⟩; refine ⟨_, rfl, ?_⟩))
 go_ret
 exact ⟨xrr, xdr⟩
def syntax_walk_next.f (s0_0 : ByteArray) (s0_1 : Int) (s0_2 : Bool) (s0_3 : ByteArray) (s0_4 : Bool) (s0_5 : ByteArray) (s0_6 : ByteArray) (s0_7 : Bool) (s0_8 : ByteArray) (s0_9 : Bool) (s0_10 : ByteArray) (a1 : ByteArray) : Option (Bool × ByteArray × Int × Bool × ByteArray × Bool × ByteArray × ByteArray × Bool × ByteArray × Bool × ByteArray) := if 0 ≤ s0_1 then (if s0_1 ≤ (s0_0.size : Int) then ((strings_HasPrefix.f (s0_0.extract (s0_1 : Int).toNat s0_0.size) a1).bind fun t117 => (if t117 = true then (some (true, s0_0, wrap64 (s0_1 + (a1.size : Int)), s0_2, s0_3, s0_4, s0_5, s0_6, s0_7, s0_8, s0_9, s0_10)) else (some (false, s0_0, s0_1, s0_2, s0_3, s0_4, s0_5, s0_6, s0_7, s0_8, s0_9, s0_10)))) else (none)) else (none)
set_option maxHeartbeats 8000000 in
set_option maxRecDepth 100000 in
theorem syntax_walk_next.calls (g : Nat) (s0_0 : ByteArray) (s0_1 : Int) (s0_2 : Bool) (s0_3 : ByteArray) (s0_4 : Bool) (s0_5 : ByteArray) (s0_6 : ByteArray) (s0_7 : Bool) (s0_8 : ByteArray) (s0_9 : Bool) (s0_10 : ByteArray) (a1 : ByteArray) (r1 : Bool) (r2 : ByteArray) (r3 : Int) (r4 : Bool) (r5 : ByteArray) (r6 : Bool) (r7 : ByteArray) (r8 : ByteArray) (r9 : Bool) (r10 : ByteArray) (r11 : Bool) (r12 : ByteArray) (w0 w : World) (hI : IsS38 w0 w g s0_0 s0_1 s0_2 s0_3 s0_4 s0_5 s0_6 s0_7 s0_8 s0_9 s0_10) (hB : Below w0.heap.size w0 w) (h : syntax_walk_next.f s0_0 s0_1 s0_2 s0_3 s0_4 s0_5 s0_6 s0_7 s0_8 s0_9 s0_10 a1 = some (r1, r2, r3, r4, r5, r6, r7, r8, r9, r10, r11, r12)) :
    Calls Tryd.prog 19 #[.pointer (some ⟨g, 0, none⟩), .string a1] w fun e w' => e = .returned (.bool r1) ∧ IsS38 w0 w' g r2 r3 r4 r5 r6 r7 r8 r9 r10 r11 r12 ∧ Below w0.heap.size w0 w' ∧ KeepBut w w' g none := by
 have HI0 := Aside0.mk hI
 have HK := Aside0.mk (KeepBut.refl w g none)
 have HL := Aside0.mk hB.size
 clear hI
 have HW0 := Aside0.mk hB.size
 have HB := Aside0.mk hB
 clear hB
 have H : (if 0 ≤ s0_1 then (if s0_1 ≤ (s0_0.size : Int) then ((strings_HasPrefix.f (s0_0.extract (s0_1 : Int).toNat s0_0.size) a1).bind fun t117 => (if t117 = true then (some (true, s0_0, wrap64 (s0_1 + (a1.size : Int)), s0_2, s0_3, s0_4, s0_5, s0_6, s0_7, s0_8, s0_9, s0_10)) else (some (false, s0_0, s0_1, s0_2, s0_3, s0_4, s0_5, s0_6, s0_7, s0_8, s0_9, s0_10)))) else (none)) else (none)) = some (r1, r2, r3, r4, r5, r6, r7, r8, r9, r10, r11, r12) := h
 clear h
 by_cases c3 : 0 ≤ s0_1
 ·
  rw [if_pos c3] at H
  have c3b0 := eq_true c3
  have c3b1 := decide_eq_true c3
  clear c3
  by_cases c4 : s0_1 ≤ (s0_0.size : Int)
  ·
   rw [if_pos c4] at H
   have c4b0 := eq_true c4
   have c4b1 := decide_eq_true c4
   clear c4
   obtain ⟨ji5, hji5⟩ : ∃ j_ : ByteArray, (s0_0.extract (s0_1 : Int).toNat s0_0.size) = j_ := ⟨_, rfl⟩
   try (have hji5x := hji5; simp only [Int.toNat_natCast] at hji5x)
   first | rw [hji5] at H | simp only [hji5] at H | skip
   replace H := Option.bind_eq_some_iff.mp H
   obtain ⟨t117, A60, H⟩ := H
   try dsimp only at H
   have A6 := Aside0.mk A60
   clear A60
   by_cases c7 : t117 = true
   ·
    subst c7
    rw [if_pos rfl] at H
    simp only [Option.some.injEq, Prod.mk.injEq] at H
    obtain ⟨rfl, rfl, rfl, rfl, rfl, rfl, rfl, rfl, rfl, rfl, rfl, rfl⟩ := H
    obtain ⟨HGz8, hgz8⟩ := HI0.out
    have hcz8_0 := cellS38_0 HGz8
    have hcz8_1 := cellS38_1 HGz8
    have hcz8_2 := cellS38_2 HGz8
    have hcz8_3 := cellS38_3 HGz8
    have hcz8_4 := cellS38_4 HGz8
    have hcz8_5 := cellS38_5 HGz8
    have hcz8_6 := cellS38_6 HGz8
    have hcz8_7 := cellS38_7 HGz8
    have hcz8_8 := cellS38_8 HGz8
    have hcz8_9 := cellS38_9 HGz8
    have hcz8_10 := cellS38_10 HGz8
    have hfz8_0 := blk_frozen HGz8 0
    have hfz8_1 := blk_frozen HGz8 1
    have hfz8_2 := blk_frozen HGz8 2
    have hfz8_3 := blk_frozen HGz8 3
    have hfz8_4 := blk_frozen HGz8 4
    have hfz8_5 := blk_frozen HGz8 5
    have hfz8_6 := blk_frozen HGz8 6
    have hfz8_7 := blk_frozen HGz8 7
    have hfz8_8 := blk_frozen HGz8 8
    have hfz8_9 := blk_frozen HGz8 9
    have hfz8_10 := blk_frozen HGz8 10
    clear HGz8 hgz8
    go_enter Tryd.func19, Tryd.ntmps19
    go_wp2_with (first | (go_at_call 22; (with_reducible refine (strings_HasPrefix.calls ji5 a1 true _ A6.out).mono ?_); rintro e w' ⟨rfl, ⟨nd, rfl⟩⟩; (try first | exact ⟨rfl, _, World.drewN_drewN _ _ _⟩ | exact ⟨rfl, _, Eq.trans (World.drewN_drewN _ _ _) (congrArg (World.drewN _) (Nat.add_assoc _ _ _))⟩)))
    repeat (go_quiet (first | (go_at_call 22; (with_reducible refine (strings_HasPrefix.calls ji5 a1 true _ A6.out).mono ?_); rintro e w' ⟨rfl, ⟨nd, rfl⟩⟩; (try first | exact ⟨rfl, _, World.drewN_drewN _ _ _⟩ | exact ⟨rfl, _, Eq.trans (World.drewN_drewN _ _ _) (congrArg (World.drewN _) (Nat.add_assoc _ _ _))⟩))); try go_wp2_with (first | (go_at_call 22; (with_reducible refine (strings_HasPrefix.calls ji5 a1 true _ A6.out).mono ?_); rintro e w' ⟨rfl, ⟨nd, rfl⟩⟩; (try first | exact ⟨rfl, _, World.drewN_drewN _ _ _⟩ | exact ⟨rfl, _, Eq.trans (World.drewN_drewN _ _ _) (congrArg (World.drewN _) (Nat.add_assoc _ _ _))⟩))))
    go_ret
    exact ⟨by first | rfl | (simp [errW_none, errW_some] <;> first | rfl | (simp only [xp_isEmpty, bne, Bool.not_not]; done)) | (simp only [← hji5]; first | rfl | (simp [errW_none, errW_some] <;> rfl)) | (simp [*, errW_none, errW_some] <;> rfl), by repeat (first | (with_reducible first | exact HI0.out | apply IsS38.alloc | apply IsS38.drewN | apply IsS38.drew | apply IsS38.set_0 | apply IsS38.set_1 | apply IsS38.set_2 | apply IsS38.set_3 | apply IsS38.set_4 | apply IsS38.set_5 | apply IsS38.set_6 | apply IsS38.set_7 | apply IsS38.set_8 | apply IsS38.set_9 | apply IsS38.set_10) | exact HI0.out), by repeat (first | (with_reducible first | exact HB.out | apply below_alloc | apply pw_below_drewN | apply below_drew1 | refine below_set ?_ (IsS38.ge HI0.out)) | exact HB.out), by repeat (first | (with_reducible first | exact HK.out | apply KeepBut.set_ | apply keep_drewN | apply keep_drew | apply keep_alloc) | exact HK.out)⟩
   ·
    replace c7 := Bool.eq_false_iff.mpr c7
    subst c7
    rw [if_neg (show ¬ (false = true) by decide)] at H
    simp only [Option.some.injEq, Prod.mk.injEq] at H
    obtain ⟨rfl, rfl, rfl, rfl, rfl, rfl, rfl, rfl, rfl, rfl, rfl, rfl⟩ := H
    obtain ⟨HGz9, hgz9⟩ := HI0.out
    have hcz9_0 := cellS38_0 HGz9
    have hcz9_1 := cellS38_1 HGz9
    have hcz9_2 := cellS38_2 HGz9
    have hcz9_3 := cellS38_3 HGz9
    have hcz9_4 := cellS38_4 HGz9
    have hcz9_5 := cellS38_5 HGz9
    have hcz9_6 := cellS38_6 HGz9
    have hcz9_7 := cellS38_7 HGz9
    have hcz9_8 := cellS38_8 HGz9
    have hcz9_9 := cellS38_9 HGz9
    have hcz9_10 := cellS38_10 HGz9
    have hfz9_0 := blk_frozen HGz9 0
    have hfz9_1 := blk_frozen HGz9 1
    have hfz9_2 := blk_frozen HGz9 2
    have hfz9_3 := blk_frozen HGz9 3
    have hfz9_4 := blk_frozen HGz9 4
    have hfz9_5 := blk_frozen HGz9 5
    have hfz9_6 := blk_frozen HGz9 6
    have hfz9_7 := blk_frozen HGz9 7
    have hfz9_8 := blk_frozen HGz9 8
    have hfz9_9 := blk_frozen HGz9 9
    have hfz9_10 := blk_frozen HGz9 10
    clear HGz9 hgz9
    go_enter Tryd.func19, Tryd.ntmps19
    go_wp2_with (first | (go_at_call 22; (with_reducible refine (strings_HasPrefix.calls ji5 a1 false _ A6.out).mono ?_); rintro e w' ⟨rfl, ⟨nd, rfl⟩⟩; (try first | exact ⟨rfl, _, World.drewN_drewN _ _ _⟩ | exact ⟨rfl, _, Eq.trans (World.drewN_drewN _ _ _) (congrArg (World.drewN _) (Nat.add_assoc _ _ _))⟩)))
    repeat (go_quiet (first | (go_at_call 22; (with_reducible refine (strings_HasPrefix.calls ji5 a1 false _ A6.out).mono ?_); rintro e w' ⟨rfl, ⟨nd, rfl⟩⟩; (try first | exact ⟨rfl, _, World.drewN_drewN _ _ _⟩ | exact ⟨rfl, _, Eq.trans (World.drewN_drewN _ _ _) (congrArg (World.drewN _) (Nat.add_assoc _ _ _))⟩))); try go_wp2_with (first | (go_at_call 22; (with_reducible refine (strings_HasPrefix.calls ji5 a1 false _ A6.out).mono ?_); rintro e w' ⟨rfl, ⟨nd, rfl⟩⟩; (try first | exact ⟨rfl, _, World.drewN_drewN _ _ _⟩ | exact ⟨rfl, _, Eq.trans (World.drewN_drewN _ _ _) (congrArg (World.drewN _) (Nat.add_assoc _ _ _))⟩))))
    go_ret
    exact ⟨by first | rfl | (simp [errW_none, errW_some] <;> first | rfl | (simp only [xp_isEmpty, bne, Bool.not_not]; done)) | (simp only [← hji5]; first | rfl | (simp [errW_none, errW_some] <;> rfl)) | (simp [*, errW_none, errW_some] <;> rfl), by repeat (first | (with_reducible first | exact HI0.out | apply IsS38.alloc | apply IsS38.drewN | apply IsS38.drew | apply IsS38.set_0 | apply IsS38.set_1 | apply IsS38.set_2 | apply IsS38.set_3 | apply IsS38.set_4 | apply IsS38.set_5 | apply IsS38.set_6 | apply IsS38.set_7 | apply IsS38.set_8 | apply IsS38.set_9 | apply IsS38.set_10) | exact HI0.out), by repeat (first | (with_reducible first | exact HB.out | apply below_alloc | apply pw_below_drewN | apply below_drew1 | refine below_set ?_ (IsS38.ge HI0.out)) | exact HB.out), by repeat (first | (with_reducible first | exact HK.out | apply KeepBut.set_ | apply keep_drewN | apply keep_drew | apply keep_alloc) | exact HK.out)⟩
  ·
   rw [if_neg c4] at H
   exact absurd H (by simp)
 ·
  rw [if_neg c3] at H
  exact absurd H (by simp)
def bytealg_LastIndexByteString.l0 : Nat → ByteArray → Int → Int → Option (Int)
  | 0, _, _, _ => none
  | k + 1, x0, x1, x5 => if x5 ≥ 0 then (if 0 ≤ x5 then (if x5 < (x0.size : Int) then (if (bt x0 x5) = x1 then (some x5) else (bytealg_LastIndexByteString.l0 k x0 x1 (wrap64 (x5 - 1)))) else (none)) else (none)) else (some (-1))
def bytealg_LastIndexByteString.f (k : Nat) (a0 : ByteArray) (a1 : Int) : Option (Int) := bytealg_LastIndexByteString.l0 k a0 a1 (wrap64 ((a0.size : Int) - 1))
theorem bytealg_LastIndexByteString.mono_l : ∀ k, (∀ y0 y1 y2, LeO (bytealg_LastIndexByteString.l0 k y0 y1 y2) (bytealg_LastIndexByteString.l0 (k + 1) y0 y1 y2))
  | 0 => fun _ _ _ r h => by simp [bytealg_LastIndexByteString.l0] at h
  | k + 1 => by
    have ih0 := bytealg_LastIndexByteString.mono_l k
    · intro y0 y1 y2
      unfold bytealg_LastIndexByteString.l0
      exact xmo
theorem bytealg_LastIndexByteString.mono : ∀ a0 a1 k, LeO (bytealg_LastIndexByteString.f k a0 a1) (bytealg_LastIndexByteString.f (k + 1) a0 a1) := by
  intro a0 a1 k
  have ih0 := bytealg_LastIndexByteString.mono_l k
  unfold bytealg_LastIndexByteString.f
  exact xmo
set_option maxHeartbeats 8000000 in
set_option maxRecDepth 100000 in
theorem bytealg_LastIndexByteString.calls (k : Nat) (a0 : ByteArray) (a1 : Int) (r : Int) (w : World) (h : bytealg_LastIndexByteString.f k a0 a1 = some r) :
    Calls Tryd.prog 40 #[.string a0, .int .u8 a1] w fun e w' => e = .returned (.int .i64 r) ∧ Drawn0 w w' := by
 have H : (bytealg_LastIndexByteString.l0 k a0 a1 (wrap64 ((a0.size : Int) - 1))) = some r := h
 clear h
 have H' := Aside0.mk H
 clear H
 go_enter Tryd.func40, Tryd.ntmps40
 go_wp2
 go_loopg [5] k (fun kq v5 w' => ∃ (x5_1 : Int), v5 = .int .i64 x5_1 ∧ Aside0 (bytealg_LastIndexByteString.l0 kq a0 a1 x5_1 = some r) ∧ Aside0 (kq ≤ k) ∧ Drawn0 w w')
 case atStart => exact ⟨(wrap64 ((a0.size : Int) - 1)), xrr, H', ⟨Nat.le_refl _⟩, xdr⟩
 case round =>
  clear H'
  obtain ⟨x5_1, rfl, HA, HK1, ⟨m1, rfl⟩⟩ := hrel
  cases gk with
  | zero => exact absurd HA.out (by simp [bytealg_LastIndexByteString.l0])
  | succ k1 =>
   have H := HA.out
   clear HA
   simp only [bytealg_LastIndexByteString.l0] at H
   by_cases c3 : x5_1 ≥ 0
   ·
    rw [if_pos c3] at H
    have c3b0 := decide_eq_true c3
    clear c3
    by_cases c4 : 0 ≤ x5_1
    ·
     rw [if_pos c4] at H
     have c4b0 := decide_eq_true c4
     clear c4
     by_cases c5 : x5_1 < (a0.size : Int)
     ·
      rw [if_pos c5] at H
      have c5b0 := decide_eq_true c5
      clear c5
      by_cases c7 : (bt a0 x5_1) = a1
      ·
       rw [if_pos c7] at H
       have c7b0 : ((bt a0 x5_1) == a1) = true := beq_iff_eq.mpr c7
       have c7b1 : ((bt a0 x5_1) != a1) = false := bne_eq_false_iff_eq.mpr c7
       clear c7
       obtain rfl := Option.some.inj H
       have p6 : 0 ≤ (x5_1 : Int) := xod
       have q6 : x5_1 < (a0.size : Int) := xod
       have hx6 := bt_at a0 x5_1
       replace p6 := eq_true p6
       replace q6 := eq_true q6
       try (have q6x := q6; simp only [ByteArray.size_extract, Nat.min_self] at q6x)
       go_wp2
       go_ret
       exact ⟨xrr, xdr⟩
      ·
       rw [if_neg c7] at H
       have c7b0 : ((bt a0 x5_1) == a1) = false := beq_eq_false_iff_ne.mpr c7
       have c7b1 : ((bt a0 x5_1) != a1) = true := bne_iff_ne.mpr c7
       have H' := Aside0.mk H
       clear H
       have p6 : 0 ≤ (x5_1 : Int) := xod
       have q6 : x5_1 < (a0.size : Int) := xod
       have hx6 := bt_at a0 x5_1
       replace p6 := eq_true p6
       replace q6 := eq_true q6
       try (have q6x := q6; simp only [ByteArray.size_extract, Nat.min_self] at q6x)
       go_wp2
       go_roundg k1
       case measure => have := HK1.out; omega
       case rel => exact ⟨(wrap64 (x5_1 - 1)), xrr, H', ⟨by have := HK1.out; omega⟩, xdr⟩
     ·
      rw [if_neg c5] at H
      exact absurd H (by simp)
    ·
     rw [if_neg c4] at H
     exact absurd H (by simp)
   ·
    rw [if_neg c3] at H
    have c3b0 := decide_eq_false c3
    clear c3
    obtain rfl := Option.some.inj H
    go_wp2
    go_ret
    exact ⟨xrr, xdr⟩
def strings_LastIndexByte.f (k : Nat) (a0 : ByteArray) (a1 : Int) : Option (Int) := (bytealg_LastIndexByteString.f k a0 a1).bind fun t118 => (some t118)
theorem strings_LastIndexByte.mono : ∀ a0 a1 k, LeO (strings_LastIndexByte.f k a0 a1) (strings_LastIndexByte.f (k + 1) a0 a1) := by
  intro a0 a1 k
  have m0 := @bytealg_LastIndexByteString.mono
  unfold strings_LastIndexByte.f
  exact xmo
set_option maxHeartbeats 8000000 in
set_option maxRecDepth 100000 in
theorem strings_LastIndexByte.calls (k : Nat) (a0 : ByteArray) (a1 : Int) (r : Int) (w : World) (h : strings_LastIndexByte.f k a0 a1 = some r) :
    Calls Tryd.prog 31 #[.string a0, .int .u8 a1] w fun e w' => e = .returned (.int .i64 r) ∧ Drawn0 w w' := by
 have H : ((bytealg_LastIndexByteString.f k a0 a1).bind fun t118 => (some t118)) = some r := h
 clear h
 replace H := Option.bind_eq_some_iff.mp H
 obtain ⟨t118, A30, H⟩ := H
 try dsimp only at H
 have A3 := Aside0.mk A30
 clear A30
 obtain rfl := Option.some.inj H
 go_enter Tryd.func31, Tryd.ntmps31
 go_wp2_with (first | ((with_reducible refine gate_callee (f := 40) rfl ?_); refine xgl 7 Tryd.func40 #[.string a0, .int .u8 a1] ?_; (with_reducible refine (bytealg_LastIndexByteString.calls k a0 a1 t118 _ A3.out).mono ?_); rintro e w' ⟨rfl, ⟨nd, rfl⟩⟩; refine ⟨_, rfl, ?_⟩))
 go_ret
 exact ⟨xrr, xdr⟩
def stringslite_IndexByte.f (a0 : ByteArray) (a1 : Int) : Option (Int) := some (Go.Lib.indexByte a0.data.toList a1.toNat.toUInt8)
set_option maxHeartbeats 1000000 in
set_option maxRecDepth 100000 in
theorem stringslite_IndexByte.calls (a0 : ByteArray) (a1 : Int) (r : Int) (w : World) (h : stringslite_IndexByte.f a0 a1 = some r) :
    Calls Tryd.prog 49 #[.string a0, .int .u8 a1] w fun e w' => e = .returned (.int .i64 r) ∧ Drawn0 w w' := by
  obtain rfl := Option.some.inj h
  clear h
  go_enter Tryd.func49, Tryd.ntmps49
  go_wp2
  rw [run_callFunc_extern Tryd.func55 (by kernel_rfl) (by kernel_rfl) (by kernel_rfl) (e := Extern.BytealgIndexByte.indexByte) (by kernel_rfl), Lib.run_indexByteString]
  simp only [Result.andThen]
  rw [Oper.upon_value]
  go_wp2
  go_ret
  exact ⟨rfl, xdr⟩
def strings_IndexByte.f (a0 : ByteArray) (a1 : Int) : Option (Int) := (stringslite_IndexByte.f a0 a1).bind fun t119 => (some t119)
set_option maxHeartbeats 8000000 in
set_option maxRecDepth 100000 in
theorem strings_IndexByte.calls (a0 : ByteArray) (a1 : Int) (r : Int) (w : World) (h : strings_IndexByte.f a0 a1 = some r) :
    Calls Tryd.prog 41 #[.string a0, .int .u8 a1] w fun e w' => e = .returned (.int .i64 r) ∧ Drawn0 w w' := by
 have H : ((stringslite_IndexByte.f a0 a1).bind fun t119 => (some t119)) = some r := h
 clear h
 replace H := Option.bind_eq_some_iff.mp H
 obtain ⟨t119, A30, H⟩ := H
 try dsimp only at H
 have A3 := Aside0.mk A30
 clear A30
 obtain rfl := Option.some.inj H
 go_enter Tryd.func41, Tryd.ntmps41
 go_wp2_with (first | ((with_reducible refine gate_callee (f := 49) rfl ?_); refine xgl 7 Tryd.func49 #[.string a0, .int .u8 a1] ?_; (with_reducible refine (stringslite_IndexByte.calls a0 a1 t119 _ A3.out).mono ?_); rintro e w' ⟨rfl, ⟨nd, rfl⟩⟩; refine ⟨_, rfl, ?_⟩))
 go_ret
 exact ⟨xrr, xdr⟩
end Go.Proofs.YtpmflpeckoeooaaDoor.X
namespace Go.Proofs.YtpmflpeckoeooaaDoor.X
open Go.RowKit Go.Proofs.YtpmflpeckoeooaaDoorW.PrintWords Go.Proofs.YtpmflpeckoeooaaDoorW.PrintLast Go.Proofs.YtpmflpeckoeooaaDoorW.PrintMore
attribute [local go_sem] xj_then_goto xj_block_goto xj_normal xj_exit xj_ret xj_panic xj_goto max2_int min2_int max_two min_two max_three min_three max_four min_four
set_option linter.unusedVariables false
set_option linter.unusedSimpArgs false
def seat_host.j0 : Nat → ByteArray → Int → ByteArray → Bool → Option (ByteArray × ByteArray)
  | 0, _, _, _, _ => none
  | k + 1, x0, x4, x5, x23 => if x23 = true then (if 0 ≤ (wrap64 (x4 + 1)) then (if (wrap64 (x4 + 1)) ≤ (x0.size : Int) then (some (x0.extract 0 ((wrap64 (x4 + 1)) : Int).toNat, x5)) else (none)) else (none)) else (some (x0, (⟨#[]⟩ : ByteArray)))
def seat_host.f (k : Nat) (a0 : ByteArray) : Option (ByteArray × ByteArray) := (strings_HasPrefix.f a0 (⟨#[91]⟩ : ByteArray)).bind fun t120 => (if t120 = true then ((strings_IndexByte.f a0 93).bind fun t121 => (if t121 ≥ 0 then (if 0 ≤ (wrap64 (t121 + 1)) then (if (wrap64 (t121 + 1)) ≤ (a0.size : Int) then (if (a0.extract ((wrap64 (t121 + 1)) : Int).toNat a0.size).toList = ([] : List UInt8) then (seat_host.j0 k a0 t121 (a0.extract ((wrap64 (t121 + 1)) : Int).toNat a0.size) true) else (if 0 < ((a0.extract ((wrap64 (t121 + 1)) : Int).toNat a0.size).size : Int) then (seat_host.j0 k a0 t121 (a0.extract ((wrap64 (t121 + 1)) : Int).toNat a0.size) ((bt (a0.extract ((wrap64 (t121 + 1)) : Int).toNat a0.size) 0) == 58)) else (none))) else (none)) else (none)) else ((strings_IndexByte.f a0 58).bind fun t122 => (if t122 ≥ 0 then (if 0 ≤ t122 then (if t122 ≤ (a0.size : Int) then (some (a0.extract 0 (t122 : Int).toNat, a0.extract (t122 : Int).toNat a0.size)) else (none)) else (none)) else (some (a0, (⟨#[]⟩ : ByteArray))))))) else ((strings_IndexByte.f a0 58).bind fun t123 => (if t123 ≥ 0 then (if 0 ≤ t123 then (if t123 ≤ (a0.size : Int) then (some (a0.extract 0 (t123 : Int).toNat, a0.extract (t123 : Int).toNat a0.size)) else (none)) else (none)) else (some (a0, (⟨#[]⟩ : ByteArray))))))
theorem seat_host.mono_l : ∀ k, (∀ y0 y1 y2 y3, LeO (seat_host.j0 k y0 y1 y2 y3) (seat_host.j0 (k + 1) y0 y1 y2 y3))
  | 0 => fun _ _ _ _ r h => by simp [seat_host.j0] at h
  | k + 1 => by
    have ih0 := seat_host.mono_l k
    · intro y0 y1 y2 y3
      unfold seat_host.j0
      exact xmo
theorem seat_host.mono : ∀ a0 k, LeO (seat_host.f k a0) (seat_host.f (k + 1) a0) := by
  intro a0 k
  have ih0 := seat_host.mono_l k
  unfold seat_host.f
  exact xmo
set_option maxHeartbeats 8000000 in
set_option maxRecDepth 100000 in
theorem seat_host.calls (k : Nat) (a0 : ByteArray) (r1 : ByteArray) (r2 : ByteArray) (w : World) (h : seat_host.f k a0 = some (r1, r2)) :
    Calls Tryd.prog 32 #[.string a0] w fun e w' => e = .returned (.tuple #[.string r1, .string r2]) ∧ Drawn0 w w' := by
 have H : ((strings_HasPrefix.f a0 (⟨#[91]⟩ : ByteArray)).bind fun t120 => (if t120 = true then ((strings_IndexByte.f a0 93).bind fun t121 => (if t121 ≥ 0 then (if 0 ≤ (wrap64 (t121 + 1)) then (if (wrap64 (t121 + 1)) ≤ (a0.size : Int) then (if (a0.extract ((wrap64 (t121 + 1)) : Int).toNat a0.size).toList = ([] : List UInt8) then (seat_host.j0 k a0 t121 (a0.extract ((wrap64 (t121 + 1)) : Int).toNat a0.size) true) else (if 0 < ((a0.extract ((wrap64 (t121 + 1)) : Int).toNat a0.size).size : Int) then (seat_host.j0 k a0 t121 (a0.extract ((wrap64 (t121 + 1)) : Int).toNat a0.size) ((bt (a0.extract ((wrap64 (t121 + 1)) : Int).toNat a0.size) 0) == 58)) else (none))) else (none)) else (none)) else ((strings_IndexByte.f a0 58).bind fun t122 => (if t122 ≥ 0 then (if 0 ≤ t122 then (if t122 ≤ (a0.size : Int) then (some (a0.extract 0 (t122 : Int).toNat, a0.extract (t122 : Int).toNat a0.size)) else (none)) else (none)) else (some (a0, (⟨#[]⟩ : ByteArray))))))) else ((strings_IndexByte.f a0 58).bind fun t123 => (if t123 ≥ 0 then (if 0 ≤ t123 then (if t123 ≤ (a0.size : Int) then (some (a0.extract 0 (t123 : Int).toNat, a0.extract (t123 : Int).toNat a0.size)) else (none)) else (none)) else (some (a0, (⟨#[]⟩ : ByteArray))))))) = some (r1, r2) := h
 clear h
 replace H := Option.bind_eq_some_iff.mp H
 obtain ⟨t120, A20, H⟩ := H
 try dsimp only at H
 have A2 := Aside0.mk A20
 clear A20
 by_cases c3 : t120 = true
 ·
  subst c3
  rw [if_pos rfl] at H
  replace H := Option.bind_eq_some_iff.mp H
  obtain ⟨t121, A40, H⟩ := H
  try dsimp only at H
  have A4 := Aside0.mk A40
  clear A40
  by_cases c5 : t121 ≥ 0
  ·
   rw [if_pos c5] at H
   have c5b0 := decide_eq_true c5
   clear c5
   obtain ⟨ji6, hji6⟩ : ∃ j_ : Int, (wrap64 (t121 + 1)) = j_ := ⟨_, rfl⟩
   first | rw [hji6] at H | simp only [hji6] at H | skip
   (try rw [hji6] at A2)
   (try rw [hji6] at A4)
   have hji6w : (IntKind.i64.wrap (t121 + 1)) = ji6 := (i64_w _).trans hji6
   by_cases c7 : 0 ≤ (ji6)
   ·
    rw [if_pos c7] at H
    have c7b0 := eq_true c7
    have c7b1 := decide_eq_true c7
    clear c7
    by_cases c8 : (ji6) ≤ (a0.size : Int)
    ·
     rw [if_pos c8] at H
     have c8b0 := eq_true c8
     have c8b1 := decide_eq_true c8
     clear c8
     obtain ⟨ji9, hji9⟩ : ∃ j_ : ByteArray, (a0.extract ((ji6) : Int).toNat a0.size) = j_ := ⟨_, rfl⟩
     try (have hji9x := hji9; simp only [Int.toNat_natCast] at hji9x)
     first | rw [hji9] at H | simp only [hji9] at H | skip
     (try rw [hji9] at A2)
     (try rw [hji9] at A4)
     have HC10 := Aside0.mk H
     clear H
     go_enter Tryd.func32, Tryd.ntmps32
     go_upto_region 5 with (first | (go_at_call 22; (with_reducible refine (strings_HasPrefix.calls a0 (⟨#[91]⟩ : ByteArray) true _ A2.out).mono ?_); rintro e w' ⟨rfl, ⟨nd, rfl⟩⟩; (try first | exact ⟨rfl, _, World.drewN_drewN _ _ _⟩ | exact ⟨rfl, _, Eq.trans (World.drewN_drewN _ _ _) (congrArg (World.drewN _) (Nat.add_assoc _ _ _))⟩)) | (go_at_call 41; (with_reducible refine (strings_IndexByte.calls a0 93 t121 _ A4.out).mono ?_); rintro e w' ⟨rfl, ⟨nd, rfl⟩⟩; (try first | exact ⟨rfl, _, World.drewN_drewN _ _ _⟩ | exact ⟨rfl, _, Eq.trans (World.drewN_drewN _ _ _) (congrArg (World.drewN _) (Nat.add_assoc _ _ _))⟩)))
     repeat (go_quiet (first | (go_at_call 22; (with_reducible refine (strings_HasPrefix.calls a0 (⟨#[91]⟩ : ByteArray) true _ A2.out).mono ?_); rintro e w' ⟨rfl, ⟨nd, rfl⟩⟩; (try first | exact ⟨rfl, _, World.drewN_drewN _ _ _⟩ | exact ⟨rfl, _, Eq.trans (World.drewN_drewN _ _ _) (congrArg (World.drewN _) (Nat.add_assoc _ _ _))⟩)) | (go_at_call 41; (with_reducible refine (strings_IndexByte.calls a0 93 t121 _ A4.out).mono ?_); rintro e w' ⟨rfl, ⟨nd, rfl⟩⟩; (try first | exact ⟨rfl, _, World.drewN_drewN _ _ _⟩ | exact ⟨rfl, _, Eq.trans (World.drewN_drewN _ _ _) (congrArg (World.drewN _) (Nat.add_assoc _ _ _))⟩))); go_upto_region 5 with (first | (go_at_call 22; (with_reducible refine (strings_HasPrefix.calls a0 (⟨#[91]⟩ : ByteArray) true _ A2.out).mono ?_); rintro e w' ⟨rfl, ⟨nd, rfl⟩⟩; (try first | exact ⟨rfl, _, World.drewN_drewN _ _ _⟩ | exact ⟨rfl, _, Eq.trans (World.drewN_drewN _ _ _) (congrArg (World.drewN _) (Nat.add_assoc _ _ _))⟩)) | (go_at_call 41; (with_reducible refine (strings_IndexByte.calls a0 93 t121 _ A4.out).mono ?_); rintro e w' ⟨rfl, ⟨nd, rfl⟩⟩; (try first | exact ⟨rfl, _, World.drewN_drewN _ _ _⟩ | exact ⟨rfl, _, Eq.trans (World.drewN_drewN _ _ _) (congrArg (World.drewN _) (Nat.add_assoc _ _ _))⟩))))
     (try simp only [Act.put, List.setIfInBounds_toArray, List.set_cons_zero, List.set_cons_succ])
     go_cut [23] (fun v23 wc => ∃ (kq : Nat) (x23_9 : Bool), v23 = .bool x23_9 ∧ Aside0 (seat_host.j0 kq a0 t121 ji9 x23_9 = some (r1, r2)) ∧ Aside0 (kq ≤ k) ∧ Drawn0 w wc)
     case first =>
      have H := HC10.out
      clear HC10
      by_cases c11 : (ji9).toList = ([] : List UInt8)
      ·
       rw [if_pos c11] at H
       have c11b0 : ((ji9).toList == ([] : List UInt8)) = true := beq_iff_eq.mpr c11
       have c11b1 : ((ji9).toList != ([] : List UInt8)) = false := bne_eq_false_iff_eq.mpr c11
       (try (have c11b2 : (ji9).toList.isEmpty = true := by simpa using c11))
       clear c11
       (first | rw [c11b0] | (simp only [i64_w, i32_w]; rw [c11b0]) | (rw [c11b2]; (try simp only [Bool.not_false, Bool.not_true])) | (rw [c11b3]; (try simp only [Bool.not_false, Bool.not_true])) | skip)
       have H' := Aside0.mk H
       clear H
       go_wp2
       repeat (go_quiet (fail); try go_wp2)
       go_meet
       case rel => exact ⟨_, (true), xrr, H', ⟨xom⟩, xdr⟩
      ·
       rw [if_neg c11] at H
       have c11b0 : ((ji9).toList == ([] : List UInt8)) = false := beq_eq_false_iff_ne.mpr c11
       have c11b1 : ((ji9).toList != ([] : List UInt8)) = true := bne_iff_ne.mpr c11
       (try (have c11b2 : (ji9).toList.isEmpty = false := by simpa using c11))
       (first | rw [c11b0] | (simp only [i64_w, i32_w]; rw [c11b0]) | (rw [c11b2]; (try simp only [Bool.not_false, Bool.not_true])) | (rw [c11b3]; (try simp only [Bool.not_false, Bool.not_true])) | skip)
       by_cases c12 : 0 < ((ji9).size : Int)
       ·
        rw [if_pos c12] at H
        have c12b0 := decide_eq_true c12
        have c12b1 : decide (0 < (ji9).size) = true := decide_eq_true (by omega)
        clear c12
        have H' := Aside0.mk H
        clear H
        have p13 : 0 ≤ (0 : Int) := (by omega)
        have q13 : 0 < ji9.size := (by have : (0 : Int) < (ji9.size : Int) := xod; omega)
        have hx13 : ∀ h : 0 < ji9.size, ((ji9[0]'h).toNat : Int) = bt ji9 0 := bt_at ji9 0
        clear p13
        have qi13 : (0 < (ji9.size : Int)) = True := eq_true (xod)
        replace q13 := eq_true q13
        try (have q13x := q13; simp only [ByteArray.size_extract, Nat.min_self] at q13x)
        go_wp2
        repeat (go_quiet (fail); try go_wp2)
        go_meet
        case rel => exact ⟨_, (((bt (ji9) 0) == 58)), (by first | rfl | (simp; done) | (simp only [← hji9] <;> (first | rfl | simp)) | (simp [*]; done) | (simp [wrap64]; done)), H', ⟨xom⟩, xdr⟩
       ·
        rw [if_neg c12] at H
        exact absurd H (by simp)
     case rest =>
      clear HC10
      clear c5b0 c7b0 c7b1 c8b0 c8b1
      obtain ⟨kq, x23_9, rfl, HA, HJ9, ⟨mc9, rfl⟩⟩ := hcut
      cases kq with
      | zero => exact absurd HA.out (by simp [seat_host.j0])
      | succ kj9 =>
       have H := HA.out
       clear HA
       simp only [seat_host.j0] at H
       by_cases c14 : x23_9 = true
       ·
        subst c14
        rw [if_pos rfl] at H
        first | rw [hji6] at H | simp only [hji6] at H | skip
        by_cases c15 : 0 ≤ (ji6)
        ·
         rw [if_pos c15] at H
         have c15b0 := eq_true c15
         have c15b1 := decide_eq_true c15
         clear c15
         by_cases c16 : (ji6) ≤ (a0.size : Int)
         ·
          rw [if_pos c16] at H
          have c16b0 := eq_true c16
          have c16b1 := decide_eq_true c16
          clear c16
          obtain ⟨ji17, hji17⟩ : ∃ j_ : ByteArray, (a0.extract 0 ((ji6) : Int).toNat) = j_ := ⟨_, rfl⟩
          try (have hji17x := hji17; simp only [Int.toNat_natCast] at hji17x)
          first | rw [hji17] at H | simp only [hji17] at H | skip
          simp only [Option.some.injEq, Prod.mk.injEq] at H
          obtain ⟨rfl, rfl⟩ := H
          go_wp2
          repeat (go_quiet (fail); try go_wp2)
          go_ret2
          exact ⟨by first | rfl | (simp; done) | (simp only [← hji6, ← hji9, ← hji6, ← hji17] <;> (first | rfl | simp)) | (simp [*]; done) | (simp [wrap64]; done), xdr⟩
         ·
          rw [if_neg c16] at H
          exact absurd H (by simp)
        ·
         rw [if_neg c15] at H
         exact absurd H (by simp)
       ·
        replace c14 := Bool.eq_false_iff.mpr c14
        subst c14
        rw [if_neg (show ¬ (false = true) by decide)] at H
        simp only [Option.some.injEq, Prod.mk.injEq] at H
        obtain ⟨rfl, rfl⟩ := H
        go_wp2
        repeat (go_quiet (fail); try go_wp2)
        go_ret2
        exact ⟨by first | rfl | (simp; done) | (simp only [← hji6, ← hji9] <;> (first | rfl | simp)) | (simp [*]; done) | (simp [wrap64]; done), xdr⟩
    ·
     rw [if_neg c8] at H
     exact absurd H (by simp)
   ·
    rw [if_neg c7] at H
    exact absurd H (by simp)
  ·
   rw [if_neg c5] at H
   have c5b0 := decide_eq_false c5
   clear c5
   replace H := Option.bind_eq_some_iff.mp H
   obtain ⟨t122, A180, H⟩ := H
   try dsimp only at H
   have A18 := Aside0.mk A180
   clear A180
   by_cases c19 : t122 ≥ 0
   ·
    rw [if_pos c19] at H
    have c19b0 := decide_eq_true c19
    clear c19
    by_cases c20 : 0 ≤ t122
    ·
     rw [if_pos c20] at H
     have c20b0 := eq_true c20
     have c20b1 := decide_eq_true c20
     clear c20
     by_cases c21 : t122 ≤ (a0.size : Int)
     ·
      rw [if_pos c21] at H
      have c21b0 := eq_true c21
      have c21b1 := decide_eq_true c21
      clear c21
      obtain ⟨ji22, hji22⟩ : ∃ j_ : ByteArray, (a0.extract 0 (t122 : Int).toNat) = j_ := ⟨_, rfl⟩
      try (have hji22x := hji22; simp only [Int.toNat_natCast] at hji22x)
      first | rw [hji22] at H | simp only [hji22] at H | skip
      (try rw [hji22] at A2)
      (try rw [hji22] at A4)
      (try rw [hji22] at A18)
      have c23b0 := eq_true (xod : 0 ≤ t122)
      have c24b0 := eq_true (xod : t122 ≤ (a0.size : Int))
      obtain ⟨ji25, hji25⟩ : ∃ j_ : ByteArray, (a0.extract (t122 : Int).toNat a0.size) = j_ := ⟨_, rfl⟩
      try (have hji25x := hji25; simp only [Int.toNat_natCast] at hji25x)
      first | rw [hji25] at H | simp only [hji25] at H | skip
      (try rw [hji25] at A2)
      (try rw [hji25] at A4)
      (try rw [hji25] at A18)
      simp only [Option.some.injEq, Prod.mk.injEq] at H
      obtain ⟨rfl, rfl⟩ := H
      go_enter Tryd.func32, Tryd.ntmps32
      go_wp2_with (first | (go_at_call 22; (with_reducible refine (strings_HasPrefix.calls a0 (⟨#[91]⟩ : ByteArray) true _ A2.out).mono ?_); rintro e w' ⟨rfl, ⟨nd, rfl⟩⟩; (try first | exact ⟨rfl, _, World.drewN_drewN _ _ _⟩ | exact ⟨rfl, _, Eq.trans (World.drewN_drewN _ _ _) (congrArg (World.drewN _) (Nat.add_assoc _ _ _))⟩)) | (go_at_call 41; (with_reducible refine (strings_IndexByte.calls a0 93 t121 _ A4.out).mono ?_); rintro e w' ⟨rfl, ⟨nd, rfl⟩⟩; (try first | exact ⟨rfl, _, World.drewN_drewN _ _ _⟩ | exact ⟨rfl, _, Eq.trans (World.drewN_drewN _ _ _) (congrArg (World.drewN _) (Nat.add_assoc _ _ _))⟩)) | (go_at_call 41; (with_reducible refine (strings_IndexByte.calls a0 58 t122 _ A18.out).mono ?_); rintro e w' ⟨rfl, ⟨nd, rfl⟩⟩; (try first | exact ⟨rfl, _, World.drewN_drewN _ _ _⟩ | exact ⟨rfl, _, Eq.trans (World.drewN_drewN _ _ _) (congrArg (World.drewN _) (Nat.add_assoc _ _ _))⟩)))
      repeat (go_quiet (first | (go_at_call 22; (with_reducible refine (strings_HasPrefix.calls a0 (⟨#[91]⟩ : ByteArray) true _ A2.out).mono ?_); rintro e w' ⟨rfl, ⟨nd, rfl⟩⟩; (try first | exact ⟨rfl, _, World.drewN_drewN _ _ _⟩ | exact ⟨rfl, _, Eq.trans (World.drewN_drewN _ _ _) (congrArg (World.drewN _) (Nat.add_assoc _ _ _))⟩)) | (go_at_call 41; (with_reducible refine (strings_IndexByte.calls a0 93 t121 _ A4.out).mono ?_); rintro e w' ⟨rfl, ⟨nd, rfl⟩⟩; (try first | exact ⟨rfl, _, World.drewN_drewN _ _ _⟩ | exact ⟨rfl, _, Eq.trans (World.drewN_drewN _ _ _) (congrArg (World.drewN _) (Nat.add_assoc _ _ _))⟩)) | (go_at_call 41; (with_reducible refine (strings_IndexByte.calls a0 58 t122 _ A18.out).mono ?_); rintro e w' ⟨rfl, ⟨nd, rfl⟩⟩; (try first | exact ⟨rfl, _, World.drewN_drewN _ _ _⟩ | exact ⟨rfl, _, Eq.trans (World.drewN_drewN _ _ _) (congrArg (World.drewN _) (Nat.add_assoc _ _ _))⟩))); try go_wp2_with (first | (go_at_call 22; (with_reducible refine (strings_HasPrefix.calls a0 (⟨#[91]⟩ : ByteArray) true _ A2.out).mono ?_); rintro e w' ⟨rfl, ⟨nd, rfl⟩⟩; (try first | exact ⟨rfl, _, World.drewN_drewN _ _ _⟩ | exact ⟨rfl, _, Eq.trans (World.drewN_drewN _ _ _) (congrArg (World.drewN _) (Nat.add_assoc _ _ _))⟩)) | (go_at_call 41; (with_reducible refine (strings_IndexByte.calls a0 93 t121 _ A4.out).mono ?_); rintro e w' ⟨rfl, ⟨nd, rfl⟩⟩; (try first | exact ⟨rfl, _, World.drewN_drewN _ _ _⟩ | exact ⟨rfl, _, Eq.trans (World.drewN_drewN _ _ _) (congrArg (World.drewN _) (Nat.add_assoc _ _ _))⟩)) | (go_at_call 41; (with_reducible refine (strings_IndexByte.calls a0 58 t122 _ A18.out).mono ?_); rintro e w' ⟨rfl, ⟨nd, rfl⟩⟩; (try first | exact ⟨rfl, _, World.drewN_drewN _ _ _⟩ | exact ⟨rfl, _, Eq.trans (World.drewN_drewN _ _ _) (congrArg (World.drewN _) (Nat.add_assoc _ _ _))⟩))))
      go_ret2
      exact ⟨by first | rfl | (simp; done) | (simp only [← hji22, ← hji25] <;> (first | rfl | simp)) | (simp [*]; done) | (simp [wrap64]; done), xdr⟩
     ·
      rw [if_neg c21] at H
      exact absurd H (by simp)
    ·
     rw [if_neg c20] at H
     exact absurd H (by simp)
   ·
    rw [if_neg c19] at H
    have c19b0 := decide_eq_false c19
    clear c19
    simp only [Option.some.injEq, Prod.mk.injEq] at H
    obtain ⟨rfl, rfl⟩ := H
    go_enter Tryd.func32, Tryd.ntmps32
    go_wp2_with (first | (go_at_call 22; (with_reducible refine (strings_HasPrefix.calls a0 (⟨#[91]⟩ : ByteArray) true _ A2.out).mono ?_); rintro e w' ⟨rfl, ⟨nd, rfl⟩⟩; (try first | exact ⟨rfl, _, World.drewN_drewN _ _ _⟩ | exact ⟨rfl, _, Eq.trans (World.drewN_drewN _ _ _) (congrArg (World.drewN _) (Nat.add_assoc _ _ _))⟩)) | (go_at_call 41; (with_reducible refine (strings_IndexByte.calls a0 93 t121 _ A4.out).mono ?_); rintro e w' ⟨rfl, ⟨nd, rfl⟩⟩; (try first | exact ⟨rfl, _, World.drewN_drewN _ _ _⟩ | exact ⟨rfl, _, Eq.trans (World.drewN_drewN _ _ _) (congrArg (World.drewN _) (Nat.add_assoc _ _ _))⟩)) | (go_at_call 41; (with_reducible refine (strings_IndexByte.calls a0 58 t122 _ A18.out).mono ?_); rintro e w' ⟨rfl, ⟨nd, rfl⟩⟩; (try first | exact ⟨rfl, _, World.drewN_drewN _ _ _⟩ | exact ⟨rfl, _, Eq.trans (World.drewN_drewN _ _ _) (congrArg (World.drewN _) (Nat.add_assoc _ _ _))⟩)))
    repeat (go_quiet (first | (go_at_call 22; (with_reducible refine (strings_HasPrefix.calls a0 (⟨#[91]⟩ : ByteArray) true _ A2.out).mono ?_); rintro e w' ⟨rfl, ⟨nd, rfl⟩⟩; (try first | exact ⟨rfl, _, World.drewN_drewN _ _ _⟩ | exact ⟨rfl, _, Eq.trans (World.drewN_drewN _ _ _) (congrArg (World.drewN _) (Nat.add_assoc _ _ _))⟩)) | (go_at_call 41; (with_reducible refine (strings_IndexByte.calls a0 93 t121 _ A4.out).mono ?_); rintro e w' ⟨rfl, ⟨nd, rfl⟩⟩; (try first | exact ⟨rfl, _, World.drewN_drewN _ _ _⟩ | exact ⟨rfl, _, Eq.trans (World.drewN_drewN _ _ _) (congrArg (World.drewN _) (Nat.add_assoc _ _ _))⟩)) | (go_at_call 41; (with_reducible refine (strings_IndexByte.calls a0 58 t122 _ A18.out).mono ?_); rintro e w' ⟨rfl, ⟨nd, rfl⟩⟩; (try first | exact ⟨rfl, _, World.drewN_drewN _ _ _⟩ | exact ⟨rfl, _, Eq.trans (World.drewN_drewN _ _ _) (congrArg (World.drewN _) (Nat.add_assoc _ _ _))⟩))); try go_wp2_with (first | (go_at_call 22; (with_reducible refine (strings_HasPrefix.calls a0 (⟨#[91]⟩ : ByteArray) true _ A2.out).mono ?_); rintro e w' ⟨rfl, ⟨nd, rfl⟩⟩; (try first | exact ⟨rfl, _, World.drewN_drewN _ _ _⟩ | exact ⟨rfl, _, Eq.trans (World.drewN_drewN _ _ _) (congrArg (World.drewN _) (Nat.add_assoc _ _ _))⟩)) | (go_at_call 41; (with_reducible refine (strings_IndexByte.calls a0 93 t121 _ A4.out).mono ?_); rintro e w' ⟨rfl, ⟨nd, rfl⟩⟩; (try first | exact ⟨rfl, _, World.drewN_drewN _ _ _⟩ | exact ⟨rfl, _, Eq.trans (World.drewN_drewN _ _ _) (congrArg (World.drewN _) (Nat.add_assoc _ _ _))⟩)) | (go_at_call 41; (with_reducible refine (strings_IndexByte.calls a0 58 t122 _ A18.out).mono ?_); rintro e w' ⟨rfl, ⟨nd, rfl⟩⟩; (try first | exact ⟨rfl, _, World.drewN_drewN _ _ _⟩ | exact ⟨rfl, _, Eq.trans (World.drewN_drewN _ _ _) (congrArg (World.drewN _) (Nat.add_assoc _ _ _))⟩))))
    go_ret2
    exact ⟨xrr, xdr⟩
 ·
  replace c3 := Bool.eq_false_iff.mpr c3
  subst c3
  rw [if_neg (show ¬ (false = true) by decide)] at H
  replace H := Option.bind_eq_some_iff.mp H
  obtain ⟨t123, A260, H⟩ := H
  try dsimp only at H
  have A26 := Aside0.mk A260
  clear A260
  by_cases c27 : t123 ≥ 0
  ·
   rw [if_pos c27] at H
   have c27b0 := decide_eq_true c27
   clear c27
   by_cases c28 : 0 ≤ t123
   ·
    rw [if_pos c28] at H
    have c28b0 := eq_true c28
    have c28b1 := decide_eq_true c28
    clear c28
    by_cases c29 : t123 ≤ (a0.size : Int)
    ·
     rw [if_pos c29] at H
     have c29b0 := eq_true c29
     have c29b1 := decide_eq_true c29
     clear c29
     obtain ⟨ji30, hji30⟩ : ∃ j_ : ByteArray, (a0.extract 0 (t123 : Int).toNat) = j_ := ⟨_, rfl⟩
     try (have hji30x := hji30; simp only [Int.toNat_natCast] at hji30x)
     first | rw [hji30] at H | simp only [hji30] at H | skip
     (try rw [hji30] at A2)
     (try rw [hji30] at A26)
     have c31b0 := eq_true (xod : 0 ≤ t123)
     have c32b0 := eq_true (xod : t123 ≤ (a0.size : Int))
     obtain ⟨ji33, hji33⟩ : ∃ j_ : ByteArray, (a0.extract (t123 : Int).toNat a0.size) = j_ := ⟨_, rfl⟩
     try (have hji33x := hji33; simp only [Int.toNat_natCast] at hji33x)
     first | rw [hji33] at H | simp only [hji33] at H | skip
     (try rw [hji33] at A2)
     (try rw [hji33] at A26)
     simp only [Option.some.injEq, Prod.mk.injEq] at H
     obtain ⟨rfl, rfl⟩ := H
     go_enter Tryd.func32, Tryd.ntmps32
     go_wp2_with (first | (go_at_call 22; (with_reducible refine (strings_HasPrefix.calls a0 (⟨#[91]⟩ : ByteArray) false _ A2.out).mono ?_); rintro e w' ⟨rfl, ⟨nd, rfl⟩⟩; (try first | exact ⟨rfl, _, World.drewN_drewN _ _ _⟩ | exact ⟨rfl, _, Eq.trans (World.drewN_drewN _ _ _) (congrArg (World.drewN _) (Nat.add_assoc _ _ _))⟩)) | (go_at_call 41; (with_reducible refine (strings_IndexByte.calls a0 58 t123 _ A26.out).mono ?_); rintro e w' ⟨rfl, ⟨nd, rfl⟩⟩; (try first | exact ⟨rfl, _, World.drewN_drewN _ _ _⟩ | exact ⟨rfl, _, Eq.trans (World.drewN_drewN _ _ _) (congrArg (World.drewN _) (Nat.add_assoc _ _ _))⟩)))
     repeat (go_quiet (first | (go_at_call 22; (with_reducible refine (strings_HasPrefix.calls a0 (⟨#[91]⟩ : ByteArray) false _ A2.out).mono ?_); rintro e w' ⟨rfl, ⟨nd, rfl⟩⟩; (try first | exact ⟨rfl, _, World.drewN_drewN _ _ _⟩ | exact ⟨rfl, _, Eq.trans (World.drewN_drewN _ _ _) (congrArg (World.drewN _) (Nat.add_assoc _ _ _))⟩)) | (go_at_call 41; (with_reducible refine (strings_IndexByte.calls a0 58 t123 _ A26.out).mono ?_); rintro e w' ⟨rfl, ⟨nd, rfl⟩⟩; (try first | exact ⟨rfl, _, World.drewN_drewN _ _ _⟩ | exact ⟨rfl, _, Eq.trans (World.drewN_drewN _ _ _) (congrArg (World.drewN _) (Nat.add_assoc _ _ _))⟩))); try go_wp2_with (first | (go_at_call 22; (with_reducible refine (strings_HasPrefix.calls a0 (⟨#[91]⟩ : ByteArray) false _ A2.out).mono ?_); rintro e w' ⟨rfl, ⟨nd, rfl⟩⟩; (try first | exact ⟨rfl, _, World.drewN_drewN _ _ _⟩ | exact ⟨rfl, _, Eq.trans (World.drewN_drewN _ _ _) (congrArg (World.drewN _) (Nat.add_assoc _ _ _))⟩)) | (go_at_call 41; (with_reducible refine (strings_IndexByte.calls a0 58 t123 _ A26.out).mono ?_); rintro e w' ⟨rfl, ⟨nd, rfl⟩⟩; (try first | exact ⟨rfl, _, World.drewN_drewN _ _ _⟩ | exact ⟨rfl, _, Eq.trans (World.drewN_drewN _ _ _) (congrArg (World.drewN _) (Nat.add_assoc _ _ _))⟩))))
     go_ret2
     exact ⟨by first | rfl | (simp; done) | (simp only [← hji30, ← hji33] <;> (first | rfl | simp)) | (simp [*]; done) | (simp [wrap64]; done), xdr⟩
    ·
     rw [if_neg c29] at H
     exact absurd H (by simp)
   ·
    rw [if_neg c28] at H
    exact absurd H (by simp)
  ·
   rw [if_neg c27] at H
   have c27b0 := decide_eq_false c27
   clear c27
   simp only [Option.some.injEq, Prod.mk.injEq] at H
   obtain ⟨rfl, rfl⟩ := H
   go_enter Tryd.func32, Tryd.ntmps32
   go_wp2_with (first | (go_at_call 22; (with_reducible refine (strings_HasPrefix.calls a0 (⟨#[91]⟩ : ByteArray) false _ A2.out).mono ?_); rintro e w' ⟨rfl, ⟨nd, rfl⟩⟩; (try first | exact ⟨rfl, _, World.drewN_drewN _ _ _⟩ | exact ⟨rfl, _, Eq.trans (World.drewN_drewN _ _ _) (congrArg (World.drewN _) (Nat.add_assoc _ _ _))⟩)) | (go_at_call 41; (with_reducible refine (strings_IndexByte.calls a0 58 t123 _ A26.out).mono ?_); rintro e w' ⟨rfl, ⟨nd, rfl⟩⟩; (try first | exact ⟨rfl, _, World.drewN_drewN _ _ _⟩ | exact ⟨rfl, _, Eq.trans (World.drewN_drewN _ _ _) (congrArg (World.drewN _) (Nat.add_assoc _ _ _))⟩)))
   repeat (go_quiet (first | (go_at_call 22; (with_reducible refine (strings_HasPrefix.calls a0 (⟨#[91]⟩ : ByteArray) false _ A2.out).mono ?_); rintro e w' ⟨rfl, ⟨nd, rfl⟩⟩; (try first | exact ⟨rfl, _, World.drewN_drewN _ _ _⟩ | exact ⟨rfl, _, Eq.trans (World.drewN_drewN _ _ _) (congrArg (World.drewN _) (Nat.add_assoc _ _ _))⟩)) | (go_at_call 41; (with_reducible refine (strings_IndexByte.calls a0 58 t123 _ A26.out).mono ?_); rintro e w' ⟨rfl, ⟨nd, rfl⟩⟩; (try first | exact ⟨rfl, _, World.drewN_drewN _ _ _⟩ | exact ⟨rfl, _, Eq.trans (World.drewN_drewN _ _ _) (congrArg (World.drewN _) (Nat.add_assoc _ _ _))⟩))); try go_wp2_with (first | (go_at_call 22; (with_reducible refine (strings_HasPrefix.calls a0 (⟨#[91]⟩ : ByteArray) false _ A2.out).mono ?_); rintro e w' ⟨rfl, ⟨nd, rfl⟩⟩; (try first | exact ⟨rfl, _, World.drewN_drewN _ _ _⟩ | exact ⟨rfl, _, Eq.trans (World.drewN_drewN _ _ _) (congrArg (World.drewN _) (Nat.add_assoc _ _ _))⟩)) | (go_at_call 41; (with_reducible refine (strings_IndexByte.calls a0 58 t123 _ A26.out).mono ?_); rintro e w' ⟨rfl, ⟨nd, rfl⟩⟩; (try first | exact ⟨rfl, _, World.drewN_drewN _ _ _⟩ | exact ⟨rfl, _, Eq.trans (World.drewN_drewN _ _ _) (congrArg (World.drewN _) (Nat.add_assoc _ _ _))⟩))))
   go_ret2
   exact ⟨xrr, xdr⟩
end Go.Proofs.YtpmflpeckoeooaaDoor.X
