/- Texts that the law's proof needs, joined by a program of this session. -/
import Derived.Test.YtmofhijbheimmaaDoorZSegsParse1
set_option maxHeartbeats 8000000
set_option maxRecDepth 100000
set_option linter.unusedSimpArgs false
set_option linter.unusedVariables false
namespace Go.Proofs.YtmofhijbheimmaaDoor.X
open Go.RowKit Go.Proofs.YtmofhijbheimmaaDoorW.PrintWords Go.Proofs.YtmofhijbheimmaaDoorW.PrintLast Go.Proofs.YtmofhijbheimmaaDoorW.PrintMore
attribute [local go_sem] cX cN dY e5 fF es e6 el ep eT eU dU dV eo eq
def bT : Nat → Int → Bool → Option (Int × Bool)
  | 0, _, _ => none
  | k + 1, x0, x4 => if x4 = true then (some ((x0 - 48) % 256, true)) else ((dl k x0 32).bind fun t104 => (if t104 = true then ((iN x0).bind fun t105 => (some (((t105 - 97) % 256) + 10, true))) else (some (0, false))))
def cM (k : Nat) (a0 : Int) : Option (Int × Bool) := if a0 ≥ 48 then (bT k a0 (decide (a0 ≤ 57))) else (bT k a0 false)
theorem fB : ∀ k, (∀ y0 y1, LeO (bT k y0 y1) (bT (k + 1) y0 y1))
  | 0 => fun _ _ r h => by simp [bT] at h
  | k + 1 => by
    have ih0 := fB k
    have m0 := @ea
    · intro y0 y1
      unfold bT
      exact xmo
theorem eM : ∀ a0 k, LeO (cM k a0) (cM (k + 1) a0) := by
  intro a0 k
  have ih0 := fB k
  have m0 := @ea
  unfold cM
  exact xmo
theorem cK (k : Nat) (a0 : Int) (r1 : Int) (r2 : Bool) (w : World) (h : cM k a0 = some (r1, r2)) :
    Calls Tryd.prog 75 #[.int .u8 a0] w fun e w' => e = .returned (.tuple #[.int .i64 r1, .bool r2]) ∧ Drawn0 w w' := by
 have H : (if a0 ≥ 48 then (bT k a0 (decide (a0 ≤ 57))) else (bT k a0 false)) = some (r1, r2) := h
 clear h
 have Ac := Zz.mk H
 clear H
 go_enter Tryd.func75, Tryd.ntmps75
 go_upto_region 1 with (fail)
 go_cut [4] (fun v4 wc => ∃ (kq : Nat) (Ab : Bool), v4 = .bool Ab ∧ Zz (bT kq a0 Ab = some (r1, r2)) ∧ Zz (kq ≤ k) ∧ Drawn0 w wc)
 case first =>
  have H := Ac.out
  clear Ac
  by_cases c3 : a0 ≥ 48
  ·
   rw [if_pos c3] at H
   have Aa := decide_eq_true c3
   clear c3
   (first | rw [Aa] | (simp only [ap, aw]; rw [Aa]) | (rw [Ad]; (try simp only [Bool.not_false, Bool.not_true])) | (rw [Ae]; (try simp only [Bool.not_false, Bool.not_true])) | skip)
   have H' := Zz.mk H
   clear H
   go_wp2
   go_meet
   case rel => exact ⟨_, (decide (a0 ≤ 57)), xrr, H', ⟨xom⟩, xdr⟩
  ·
   rw [if_neg c3] at H
   have Aa := decide_eq_false c3
   clear c3
   (first | rw [Aa] | (simp only [ap, aw]; rw [Aa]) | (rw [Ad]; (try simp only [Bool.not_false, Bool.not_true])) | (rw [Ae]; (try simp only [Bool.not_false, Bool.not_true])) | skip)
   have H' := Zz.mk H
   clear H
   go_wp2
   go_meet
   case rel => exact ⟨_, (false), xrr, H', ⟨xom⟩, xdr⟩
 case rest =>
  clear Ac
  obtain ⟨kq, Ab, rfl, HA, HJ1, ⟨mc1, rfl⟩⟩ := hcut
  cases kq with
  | zero => exact absurd HA.out (by simp [bT])
  | succ kj1 =>
   have H := HA.out
   clear HA
   simp only [bT] at H
   by_cases c4 : Ab = true
   ·
    subst c4
    rw [if_pos rfl] at H
    simp only [Option.some.injEq, Prod.mk.injEq] at H
    obtain ⟨rfl, rfl⟩ := H
    go_wp2
    go_ret2
    exact ⟨xrr, xdr⟩
   ·
    replace c4 := Bool.eq_false_iff.mpr c4
    subst c4
    rw [if_neg (show ¬ (false = true) by decide)] at H
    replace H := Option.bind_eq_some_iff.mp H
    obtain ⟨Af, A50, H⟩ := H
    try dsimp only at H
    have A5 := Zz.mk A50
    clear A50
    by_cases c6 : Af = true
    ·
     subst c6
     rw [if_pos rfl] at H
     replace H := Option.bind_eq_some_iff.mp H
     obtain ⟨Ag, A70, H⟩ := H
     try dsimp only at H
     have A7 := Zz.mk A70
     clear A70
     simp only [Option.some.injEq, Prod.mk.injEq] at H
     obtain ⟨rfl, rfl⟩ := H
     go_wp2_with (first | ((with_reducible refine ae (f := 47) rfl ?_); refine xgl 16 Tryd.func47 #[.int .u8 a0, .int .i64 32] ?_; (with_reducible refine (cy kj1 a0 32 true _ A5.out).mono ?_); rintro e w' ⟨rfl, ⟨nd, rfl⟩⟩; refine ⟨_, rfl, ?_⟩) | ((with_reducible refine ae (f := 88) rfl ?_); refine xgl 18 Tryd.func88 #[.int .u8 a0] ?_; (with_reducible refine (i9 a0 Ag _ A7.out).mono ?_); rintro e w' ⟨rfl, ⟨nd, rfl⟩⟩; refine ⟨_, rfl, ?_⟩))
     go_ret2
     exact ⟨xrr, xdr⟩
    ·
     replace c6 := Bool.eq_false_iff.mpr c6
     subst c6
     rw [if_neg (show ¬ (false = true) by decide)] at H
     simp only [Option.some.injEq, Prod.mk.injEq] at H
     obtain ⟨rfl, rfl⟩ := H
     go_wp2_with (first | ((with_reducible refine ae (f := 47) rfl ?_); refine xgl 16 Tryd.func47 #[.int .u8 a0, .int .i64 32] ?_; (with_reducible refine (cy kj1 a0 32 false _ A5.out).mono ?_); rintro e w' ⟨rfl, ⟨nd, rfl⟩⟩; refine ⟨_, rfl, ?_⟩))
     go_ret2
     exact ⟨xrr, xdr⟩
def bq : Nat → ByteArray → Int → Bool → Option (Int × Bool)
  | 0, _, _, _ => none
  | k + 1, x0, x1, x24 => if x24 = true then (some (0, false)) else (if 0 ≤ (wrap64 (x1 + 1)) then (if (wrap64 (x1 + 1)) < (x0.size : Int) then ((cM k (bt x0 (wrap64 (x1 + 1)))).bind fun bt106 => (if 0 ≤ (wrap64 (x1 + 2)) then (if (wrap64 (x1 + 2)) < (x0.size : Int) then ((cM k (bt x0 (wrap64 (x1 + 2)))).bind fun bt108 => (if bt106.2 = true then (if bt108.2 = true then (some ((Go.bits .or .i64 (wrap64 (bt106.1 * 16)) bt108.1) % 256, true)) else (some (0, false))) else (some (0, false)))) else (none)) else (none))) else (none)) else (none))
def dp (k : Nat) (a0 : ByteArray) (a1 : Int) : Option (Int × Bool) := if a1 < 0 then (bq k a0 a1 true) else (if a1 > (wrap64 ((a0.size : Int) - 3)) then (bq k a0 a1 true) else (if 0 ≤ a1 then (if a1 < (a0.size : Int) then (bq k a0 a1 ((bt a0 a1) != 37)) else (none)) else (none)))
theorem f9 : ∀ k, (∀ y0 y1 y2, LeO (bq k y0 y1 y2) (bq (k + 1) y0 y1 y2))
  | 0 => fun _ _ _ r h => by simp [bq] at h
  | k + 1 => by
    have ih0 := f9 k
    have m0 := @eM
    · intro y0 y1 y2
      unfold bq
      exact xmo
theorem fl : ∀ a0 a1 k, LeO (dp k a0 a1) (dp (k + 1) a0 a1) := by
  intro a0 a1 k
  have ih0 := f9 k
  have m0 := @eM
  unfold dp
  exact xmo
theorem cZ (k : Nat) (a0 : ByteArray) (a1 : Int) (r1 : Int) (r2 : Bool) (w : World) (h : dp k a0 a1 = some (r1, r2)) :
    Calls Tryd.prog 56 #[.string a0, .int .i64 a1] w fun e w' => e = .returned (.tuple #[.int .u8 r1, .bool r2]) ∧ Drawn0 w w' := by
 have H : (if a1 < 0 then (bq k a0 a1 true) else (if a1 > (wrap64 ((a0.size : Int) - 3)) then (bq k a0 a1 true) else (if 0 ≤ a1 then (if a1 < (a0.size : Int) then (bq k a0 a1 ((bt a0 a1) != 37)) else (none)) else (none)))) = some (r1, r2) := h
 clear h
 have Ak := Zz.mk H
 clear H
 go_enter Tryd.func56, Tryd.ntmps56
 go_upto_region 1 with (fail)
 go_cut [24] (fun v24 wc => ∃ (kq : Nat) (Ae : Bool), v24 = .bool Ae ∧ Zz (bq kq a0 a1 Ae = some (r1, r2)) ∧ Zz (kq ≤ k) ∧ Drawn0 w wc)
 case first =>
  have H := Ak.out
  clear Ak
  by_cases c4 : a1 < 0
  ·
   rw [if_pos c4] at H
   have Af := decide_eq_true c4
   clear c4
   (first | rw [Af] | (simp only [ap, aw]; rw [Af]) | (rw [Al]; (try simp only [Bool.not_false, Bool.not_true])) | (rw [Am]; (try simp only [Bool.not_false, Bool.not_true])) | skip)
   have H' := Zz.mk H
   clear H
   go_wp2
   go_meet
   case rel => exact ⟨_, (true), xrr, H', ⟨xom⟩, xdr⟩
  ·
   rw [if_neg c4] at H
   have Af := decide_eq_false c4
   clear c4
   (first | rw [Af] | (simp only [ap, aw]; rw [Af]) | (rw [Al]; (try simp only [Bool.not_false, Bool.not_true])) | (rw [Am]; (try simp only [Bool.not_false, Bool.not_true])) | skip)
   by_cases c5 : a1 > (wrap64 ((a0.size : Int) - 3))
   ·
    rw [if_pos c5] at H
    have An := decide_eq_true c5
    clear c5
    have H' := Zz.mk H
    clear H
    go_wp2
    go_meet
    case rel => exact ⟨_, (true), xrr, H', ⟨xom⟩, xdr⟩
   ·
    rw [if_neg c5] at H
    have An := decide_eq_false c5
    clear c5
    by_cases c6 : 0 ≤ a1
    ·
     rw [if_pos c6] at H
     have Av := decide_eq_true c6
     clear c6
     by_cases c7 : a1 < (a0.size : Int)
     ·
      rw [if_pos c7] at H
      have Aw := decide_eq_true c7
      clear c7
      have H' := Zz.mk H
      clear H
      have p8 : 0 ≤ (a1 : Int) := xod
      have q8 : a1 < (a0.size : Int) := xod
      have hx8 := ar a0 a1
      replace p8 := eq_true p8
      replace q8 := eq_true q8
      try (have Ax := q8; simp only [ByteArray.size_extract, Nat.min_self] at Ax)
      go_wp2
      go_meet
      case rel => exact ⟨_, (((bt a0 a1) != 37)), xrr, H', ⟨xom⟩, xdr⟩
     ·
      rw [if_neg c7] at H
      exact absurd H (by simp)
    ·
     rw [if_neg c6] at H
     exact absurd H (by simp)
 case rest =>
  clear Ak
  obtain ⟨kq, Ae, rfl, HA, HJ2, ⟨mc2, rfl⟩⟩ := hcut
  cases kq with
  | zero => exact absurd HA.out (by simp [bq])
  | succ kj2 =>
   have H := HA.out
   clear HA
   simp only [bq] at H
   by_cases c9 : Ae = true
   ·
    subst c9
    rw [if_pos rfl] at H
    simp only [Option.some.injEq, Prod.mk.injEq] at H
    obtain ⟨rfl, rfl⟩ := H
    go_wp2
    go_ret2
    exact ⟨xrr, xdr⟩
   ·
    replace c9 := Bool.eq_false_iff.mpr c9
    subst c9
    rw [if_neg (show ¬ (false = true) by decide)] at H
    obtain ⟨Aa, Ad⟩ : ∃ j_ : Int, (wrap64 (a1 + 1)) = j_ := ⟨_, rfl⟩
    first | rw [Ad] at H | simp only [Ad] at H | skip
    have Ao : (IntKind.i64.wrap (a1 + 1)) = Aa := (ap _).trans Ad
    by_cases c11 : 0 ≤ (Aa)
    ·
     rw [if_pos c11] at H
     have Ar := decide_eq_true c11
     clear c11
     by_cases c12 : (Aa) < (a0.size : Int)
     ·
      rw [if_pos c12] at H
      have As := decide_eq_true c12
      clear c12
      replace H := Option.bind_eq_some_iff.mp H
      obtain ⟨⟨Ah, Ap⟩, A140, H⟩ := H
      try dsimp only at H
      have A14 := Zz.mk A140
      clear A140
      obtain ⟨Ab, Ac⟩ : ∃ j_ : Int, (wrap64 (a1 + 2)) = j_ := ⟨_, rfl⟩
      first | rw [Ac] at H | simp only [Ac] at H | skip
      (try rw [Ac] at A14)
      have Aq : (IntKind.i64.wrap (a1 + 2)) = Ab := (ap _).trans Ac
      by_cases c16 : 0 ≤ (Ab)
      ·
       rw [if_pos c16] at H
       have At := decide_eq_true c16
       clear c16
       by_cases c17 : (Ab) < (a0.size : Int)
       ·
        rw [if_pos c17] at H
        have Au := decide_eq_true c17
        clear c17
        replace H := Option.bind_eq_some_iff.mp H
        obtain ⟨⟨Ai, Aj⟩, A190, H⟩ := H
        try dsimp only at H
        have A19 := Zz.mk A190
        clear A190
        by_cases c20 : Ap = true
        ·
         subst c20
         rw [if_pos rfl] at H
         by_cases c21 : Aj = true
         ·
          subst c21
          rw [if_pos rfl] at H
          simp only [Option.some.injEq, Prod.mk.injEq] at H
          obtain ⟨rfl, rfl⟩ := H
          have p13 : 0 ≤ ((Aa) : Int) := xod
          have q13 : (Aa) < (a0.size : Int) := xod
          have hx13 := ar a0 (Aa)
          replace p13 := eq_true p13
          replace q13 := eq_true q13
          try (have Ag := q13; simp only [ByteArray.size_extract, Nat.min_self] at Ag)
          go_wp2_with (first | ((with_reducible refine ae (f := 75) rfl ?_); refine dI (some 30) rfl rfl Tryd.func75 (by kernel_rfl) rfl #[.int .u8 (bt a0 (Aa))] rfl (by (try simp only [List.map_toArray, List.map_cons, List.map_nil]); first | done | (simp only [Ad]; rfl) | rfl | (simp only [List.length_drop, List.length_take]; rfl)) ?_; (with_reducible refine (cK kj2 (bt a0 (Aa)) Ah true _ A14.out).mono ?_); rintro e w' ⟨rfl, ⟨nd, rfl⟩⟩; refine ⟨_, rfl, ?_⟩; have p18 : 0 ≤ ((Ab) : Int) := xod; have q18 : (Ab) < (a0.size : Int) := xod; have hx18 := ar a0 (Ab); replace p18 := eq_true p18; replace q18 := eq_true q18) | ((with_reducible refine ae (f := 75) rfl ?_); refine dI (some 38) rfl rfl Tryd.func75 (by kernel_rfl) rfl #[.int .u8 (bt a0 (Ab))] rfl (by (try simp only [List.map_toArray, List.map_cons, List.map_nil]); first | done | (simp only [Ac]; rfl) | rfl | (simp only [List.length_drop, List.length_take]; rfl)) ?_; (with_reducible refine (cK kj2 (bt a0 (Ab)) Ai true _ A19.out).mono ?_); rintro e w' ⟨rfl, ⟨nd, rfl⟩⟩; refine ⟨_, rfl, ?_⟩))
          go_ret2
          exact ⟨by first | rfl | (simp; done) | (simp only [← Ad, ← Ac] <;> (first | rfl | simp)) | (simp [*]; done) | (simp [wrap64]; done), xdr⟩
         ·
          replace c21 := Bool.eq_false_iff.mpr c21
          subst c21
          rw [if_neg (show ¬ (false = true) by decide)] at H
          simp only [Option.some.injEq, Prod.mk.injEq] at H
          obtain ⟨rfl, rfl⟩ := H
          have p13 : 0 ≤ ((Aa) : Int) := xod
          have q13 : (Aa) < (a0.size : Int) := xod
          have hx13 := ar a0 (Aa)
          replace p13 := eq_true p13
          replace q13 := eq_true q13
          try (have Ag := q13; simp only [ByteArray.size_extract, Nat.min_self] at Ag)
          go_wp2_with (first | ((with_reducible refine ae (f := 75) rfl ?_); refine dI (some 30) rfl rfl Tryd.func75 (by kernel_rfl) rfl #[.int .u8 (bt a0 (Aa))] rfl (by (try simp only [List.map_toArray, List.map_cons, List.map_nil]); first | done | (simp only [Ad]; rfl) | rfl | (simp only [List.length_drop, List.length_take]; rfl)) ?_; (with_reducible refine (cK kj2 (bt a0 (Aa)) Ah true _ A14.out).mono ?_); rintro e w' ⟨rfl, ⟨nd, rfl⟩⟩; refine ⟨_, rfl, ?_⟩; have p18 : 0 ≤ ((Ab) : Int) := xod; have q18 : (Ab) < (a0.size : Int) := xod; have hx18 := ar a0 (Ab); replace p18 := eq_true p18; replace q18 := eq_true q18) | ((with_reducible refine ae (f := 75) rfl ?_); refine dI (some 38) rfl rfl Tryd.func75 (by kernel_rfl) rfl #[.int .u8 (bt a0 (Ab))] rfl (by (try simp only [List.map_toArray, List.map_cons, List.map_nil]); first | done | (simp only [Ac]; rfl) | rfl | (simp only [List.length_drop, List.length_take]; rfl)) ?_; (with_reducible refine (cK kj2 (bt a0 (Ab)) Ai false _ A19.out).mono ?_); rintro e w' ⟨rfl, ⟨nd, rfl⟩⟩; refine ⟨_, rfl, ?_⟩))
          go_ret2
          exact ⟨by first | rfl | (simp; done) | (simp only [← Ad, ← Ac] <;> (first | rfl | simp)) | (simp [*]; done) | (simp [wrap64]; done), xdr⟩
        ·
         replace c20 := Bool.eq_false_iff.mpr c20
         subst c20
         rw [if_neg (show ¬ (false = true) by decide)] at H
         simp only [Option.some.injEq, Prod.mk.injEq] at H
         obtain ⟨rfl, rfl⟩ := H
         have p13 : 0 ≤ ((Aa) : Int) := xod
         have q13 : (Aa) < (a0.size : Int) := xod
         have hx13 := ar a0 (Aa)
         replace p13 := eq_true p13
         replace q13 := eq_true q13
         try (have Ag := q13; simp only [ByteArray.size_extract, Nat.min_self] at Ag)
         go_wp2_with (first | ((with_reducible refine ae (f := 75) rfl ?_); refine dI (some 30) rfl rfl Tryd.func75 (by kernel_rfl) rfl #[.int .u8 (bt a0 (Aa))] rfl (by (try simp only [List.map_toArray, List.map_cons, List.map_nil]); first | done | (simp only [Ad]; rfl) | rfl | (simp only [List.length_drop, List.length_take]; rfl)) ?_; (with_reducible refine (cK kj2 (bt a0 (Aa)) Ah false _ A14.out).mono ?_); rintro e w' ⟨rfl, ⟨nd, rfl⟩⟩; refine ⟨_, rfl, ?_⟩; have p18 : 0 ≤ ((Ab) : Int) := xod; have q18 : (Ab) < (a0.size : Int) := xod; have hx18 := ar a0 (Ab); replace p18 := eq_true p18; replace q18 := eq_true q18) | ((with_reducible refine ae (f := 75) rfl ?_); refine dI (some 38) rfl rfl Tryd.func75 (by kernel_rfl) rfl #[.int .u8 (bt a0 (Ab))] rfl (by (try simp only [List.map_toArray, List.map_cons, List.map_nil]); first | done | (simp only [Ac]; rfl) | rfl | (simp only [List.length_drop, List.length_take]; rfl)) ?_; (with_reducible refine (cK kj2 (bt a0 (Ab)) Ai Aj _ A19.out).mono ?_); rintro e w' ⟨rfl, ⟨nd, rfl⟩⟩; refine ⟨_, rfl, ?_⟩))
         go_ret2
         exact ⟨by first | rfl | (simp; done) | (simp only [← Ad, ← Ac] <;> (first | rfl | simp)) | (simp [*]; done) | (simp [wrap64]; done), xdr⟩
       ·
        rw [if_neg c17] at H
        exact absurd H (by simp)
      ·
       rw [if_neg c16] at H
       exact absurd H (by simp)
     ·
      rw [if_neg c12] at H
      exact absurd H (by simp)
    ·
     rw [if_neg c11] at H
     exact absurd H (by simp)
mutual
def ck : Nat → Int → Bool → Option (Int × Int × Int)
  | 0, _, _ => none
  | k + 1, x0, x8 => if x8 = true then (some (2, 128, 191)) else (if x0 = 224 then (some (3, 160, 191)) else (if x0 = 237 then (some (3, 128, 159)) else (if x0 ≥ 225 then (cI k x0 (decide (x0 ≤ 239))) else (cI k x0 false))))
def cI : Nat → Int → Bool → Option (Int × Int × Int)
  | 0, _, _ => none
  | k + 1, x0, x21 => if x21 = true then (some (3, 128, 191)) else (if x0 = 240 then (some (4, 144, 191)) else (if x0 = 244 then (some (4, 128, 143)) else (if x0 ≥ 241 then (if x0 ≤ 243 then (some (4, 128, 191)) else (some (0, 0, 0))) else (some (0, 0, 0)))))
end
def dv (k : Nat) (a0 : Int) : Option (Int × Int × Int) := if a0 < 128 then (some (1, 0, 0)) else (if a0 ≥ 194 then (ck k a0 (decide (a0 ≤ 223))) else (ck k a0 false))
theorem gp : ∀ k, (∀ y0 y1, LeO (ck k y0 y1) (ck (k + 1) y0 y1)) ∧ (∀ y0 y1, LeO (cI k y0 y1) (cI (k + 1) y0 y1))
  | 0 => ⟨fun _ _ r h => by simp [ck] at h, fun _ _ r h => by simp [cI] at h⟩
  | k + 1 => by
    obtain ⟨ih0, ih1⟩ := gp k
    refine ⟨?_, ?_⟩
    · intro y0 y1
      unfold ck
      exact xmo
    · intro y0 y1
      unfold cI
      exact xmo
theorem fq : ∀ a0 k, LeO (dv k a0) (dv (k + 1) a0) := by
  intro a0 k
  obtain ⟨ih0, ih1⟩ := gp k
  unfold dv
  exact xmo
theorem gH (k : Nat) (a0 : Int) (r1 : Int) (r2 : Int) (r3 : Int) (w : World) (h : dv k a0 = some (r1, r2, r3)) :
    Calls Tryd.prog 89 #[.int .u8 a0] w fun e w' => e = .returned (.tuple #[.int .i64 r1, .int .u8 r2, .int .u8 r3]) ∧ Drawn0 w w' := by
 have H : (if a0 < 128 then (some (1, 0, 0)) else (if a0 ≥ 194 then (ck k a0 (decide (a0 ≤ 223))) else (ck k a0 false))) = some (r1, r2, r3) := h
 clear h
 by_cases c2 : a0 < 128
 ·
  rw [if_pos c2] at H
  have Ae := decide_eq_true c2
  clear c2
  simp only [Option.some.injEq, Prod.mk.injEq] at H
  obtain ⟨rfl, rfl, rfl⟩ := H
  go_enter Tryd.func89, Tryd.ntmps89
  go_wp2
  go_ret3
  exact ⟨xrr, xdr⟩
 ·
  rw [if_neg c2] at H
  have Ae := decide_eq_false c2
  clear c2
  have Ap := Zz.mk H
  clear H
  go_enter Tryd.func89, Tryd.ntmps89
  go_upto_region 3 with (fail)
  go_cut [8] (fun v8 wc => ∃ (kq : Nat) (Ad : Bool), v8 = .bool Ad ∧ Zz (ck kq a0 Ad = some (r1, r2, r3)) ∧ Zz (kq ≤ k) ∧ Drawn0 w wc)
  case first =>
   have H := Ap.out
   clear Ap
   by_cases c4 : a0 ≥ 194
   ·
    rw [if_pos c4] at H
    have Ab := decide_eq_true c4
    clear c4
    (first | rw [Ab] | (simp only [ap, aw]; rw [Ab]) | (rw [Aq]; (try simp only [Bool.not_false, Bool.not_true])) | (rw [Ar]; (try simp only [Bool.not_false, Bool.not_true])) | skip)
    have H' := Zz.mk H
    clear H
    go_wp2
    go_meet
    case rel => exact ⟨_, (decide (a0 ≤ 223)), xrr, H', ⟨xom⟩, xdr⟩
   ·
    rw [if_neg c4] at H
    have Ab := decide_eq_false c4
    clear c4
    (first | rw [Ab] | (simp only [ap, aw]; rw [Ab]) | (rw [Aq]; (try simp only [Bool.not_false, Bool.not_true])) | (rw [Ar]; (try simp only [Bool.not_false, Bool.not_true])) | skip)
    have H' := Zz.mk H
    clear H
    go_wp2
    go_meet
    case rel => exact ⟨_, (false), xrr, H', ⟨xom⟩, xdr⟩
  case rest =>
   clear Ap
   clear Ae
   obtain ⟨kq, Ad, rfl, HA, HJ2, ⟨mc2, rfl⟩⟩ := hcut
   cases kq with
   | zero => exact absurd HA.out (by simp [ck])
   | succ kj2 =>
    have H := HA.out
    clear HA
    simp only [ck] at H
    by_cases c5 : Ad = true
    ·
     subst c5
     rw [if_pos rfl] at H
     simp only [Option.some.injEq, Prod.mk.injEq] at H
     obtain ⟨rfl, rfl, rfl⟩ := H
     go_wp2
     go_ret3
     exact ⟨xrr, xdr⟩
    ·
     replace c5 := Bool.eq_false_iff.mpr c5
     subst c5
     rw [if_neg (show ¬ (false = true) by decide)] at H
     by_cases c6 : a0 = 224
     ·
      rw [if_pos c6] at H
      have Af : (a0 == 224) = true := beq_iff_eq.mpr c6
      have Ag : (a0 != 224) = false := bne_eq_false_iff_eq.mpr c6
      clear c6
      simp only [Option.some.injEq, Prod.mk.injEq] at H
      obtain ⟨rfl, rfl, rfl⟩ := H
      go_wp2
      go_ret3
      exact ⟨xrr, xdr⟩
     ·
      rw [if_neg c6] at H
      have Af : (a0 == 224) = false := beq_eq_false_iff_ne.mpr c6
      have Ag : (a0 != 224) = true := bne_iff_ne.mpr c6
      by_cases c7 : a0 = 237
      ·
       rw [if_pos c7] at H
       have Ah : (a0 == 237) = true := beq_iff_eq.mpr c7
       have Ai : (a0 != 237) = false := bne_eq_false_iff_eq.mpr c7
       clear c7
       simp only [Option.some.injEq, Prod.mk.injEq] at H
       obtain ⟨rfl, rfl, rfl⟩ := H
       go_wp2
       go_ret3
       exact ⟨xrr, xdr⟩
      ·
       rw [if_neg c7] at H
       have Ah : (a0 == 237) = false := beq_eq_false_iff_ne.mpr c7
       have Ai : (a0 != 237) = true := bne_iff_ne.mpr c7
       have As := Zz.mk H
       clear H
       go_upto_region 9 with (fail)
       go_cut [21] (fun v21 wc => ∃ (kq : Nat) (Aa : Bool), v21 = .bool Aa ∧ Zz (cI kq a0 Aa = some (r1, r2, r3)) ∧ Zz (kq ≤ kj2) ∧ Drawn0 w wc)
       case first =>
        have H := As.out
        clear As
        by_cases c9 : a0 ≥ 225
        ·
         rw [if_pos c9] at H
         have Ac := decide_eq_true c9
         clear c9
         (first | rw [Ac] | (simp only [ap, aw]; rw [Ac]) | (rw [At]; (try simp only [Bool.not_false, Bool.not_true])) | (rw [Au]; (try simp only [Bool.not_false, Bool.not_true])) | skip)
         have H' := Zz.mk H
         clear H
         go_wp2
         go_meet
         case rel => exact ⟨_, (decide (a0 ≤ 239)), xrr, H', ⟨by have := HJ2.out; first | omega | exact Nat.le_refl _⟩, xdr⟩
        ·
         rw [if_neg c9] at H
         have Ac := decide_eq_false c9
         clear c9
         (first | rw [Ac] | (simp only [ap, aw]; rw [Ac]) | (rw [At]; (try simp only [Bool.not_false, Bool.not_true])) | (rw [Au]; (try simp only [Bool.not_false, Bool.not_true])) | skip)
         have H' := Zz.mk H
         clear H
         go_wp2
         go_meet
         case rel => exact ⟨_, (false), xrr, H', ⟨by have := HJ2.out; first | omega | exact Nat.le_refl _⟩, xdr⟩
       case rest =>
        clear As
        clear Af Ag Ah Ai
        obtain ⟨kq, Aa, rfl, HA, HJ7, ⟨mc7, rfl⟩⟩ := hcut
        cases kq with
        | zero => exact absurd HA.out (by simp [cI])
        | succ kj7 =>
         have H := HA.out
         clear HA
         simp only [cI] at H
         by_cases c10 : Aa = true
         ·
          subst c10
          rw [if_pos rfl] at H
          simp only [Option.some.injEq, Prod.mk.injEq] at H
          obtain ⟨rfl, rfl, rfl⟩ := H
          go_wp2
          go_ret3
          exact ⟨xrr, xdr⟩
         ·
          replace c10 := Bool.eq_false_iff.mpr c10
          subst c10
          rw [if_neg (show ¬ (false = true) by decide)] at H
          by_cases c11 : a0 = 240
          ·
           rw [if_pos c11] at H
           have Aj : (a0 == 240) = true := beq_iff_eq.mpr c11
           have Ak : (a0 != 240) = false := bne_eq_false_iff_eq.mpr c11
           clear c11
           simp only [Option.some.injEq, Prod.mk.injEq] at H
           obtain ⟨rfl, rfl, rfl⟩ := H
           go_wp2
           go_ret3
           exact ⟨xrr, xdr⟩
          ·
           rw [if_neg c11] at H
           have Aj : (a0 == 240) = false := beq_eq_false_iff_ne.mpr c11
           have Ak : (a0 != 240) = true := bne_iff_ne.mpr c11
           by_cases c12 : a0 = 244
           ·
            rw [if_pos c12] at H
            have Al : (a0 == 244) = true := beq_iff_eq.mpr c12
            have Am : (a0 != 244) = false := bne_eq_false_iff_eq.mpr c12
            clear c12
            simp only [Option.some.injEq, Prod.mk.injEq] at H
            obtain ⟨rfl, rfl, rfl⟩ := H
            go_wp2
            go_ret3
            exact ⟨xrr, xdr⟩
           ·
            rw [if_neg c12] at H
            have Al : (a0 == 244) = false := beq_eq_false_iff_ne.mpr c12
            have Am : (a0 != 244) = true := bne_iff_ne.mpr c12
            by_cases c13 : a0 ≥ 241
            ·
             rw [if_pos c13] at H
             have An := decide_eq_true c13
             clear c13
             by_cases c14 : a0 ≤ 243
             ·
              rw [if_pos c14] at H
              have Ao := decide_eq_true c14
              clear c14
              simp only [Option.some.injEq, Prod.mk.injEq] at H
              obtain ⟨rfl, rfl, rfl⟩ := H
              go_wp2
              go_ret3
              exact ⟨xrr, xdr⟩
             ·
              rw [if_neg c14] at H
              have Ao := decide_eq_false c14
              clear c14
              simp only [Option.some.injEq, Prod.mk.injEq] at H
              obtain ⟨rfl, rfl, rfl⟩ := H
              go_wp2
              go_ret3
              exact ⟨xrr, xdr⟩
            ·
             rw [if_neg c13] at H
             have An := decide_eq_false c13
             clear c13
             simp only [Option.some.injEq, Prod.mk.injEq] at H
             obtain ⟨rfl, rfl, rfl⟩ := H
             go_wp2
             go_ret3
             exact ⟨xrr, xdr⟩
def cj : Nat → ByteArray → Int → Int → Int → Int → Option (Int × Int)
  | 0, _, _, _, _, _ => none
  | k + 1, x0, x4, x5, x6, x7 => if x7 < x4 then (if x7 < (x0.size : Int) then (if 0 ≤ x7 then (if (bt x0 x7) ≥ x5 then (if (bt x0 x7) ≤ x6 then (cj k x0 x4 128 191 (wrap64 (x7 + 1))) else (some (x7, x4))) else (some (x7, x4))) else (none)) else (some (x7, x4))) else (some (x7, x4))
def du (k : Nat) (a0 : ByteArray) : Option (Int × Int) := if (a0.size : Int) = 0 then (some (0, 0)) else (if 0 < (a0.size : Int) then ((dv k (bt a0 0)).bind fun bt110 => (if bt110.1 = 0 then (some (1, 0)) else (cj k a0 bt110.1 bt110.2.1 bt110.2.2 1))) else (none))
theorem go : ∀ k, (∀ y0 y1 y2 y3 y4, LeO (cj k y0 y1 y2 y3 y4) (cj (k + 1) y0 y1 y2 y3 y4))
  | 0 => fun _ _ _ _ _ r h => by simp [cj] at h
  | k + 1 => by
    have ih0 := go k
    have m0 := @fq
    · intro y0 y1 y2 y3 y4
      unfold cj
      exact xmo
theorem g6 : ∀ a0 k, LeO (du k a0) (du (k + 1) a0) := by
  intro a0 k
  have ih0 := go k
  have m0 := @fq
  unfold du
  exact xmo
theorem fe (k : Nat) (a0 : ByteArray) (r1 : Int) (r2 : Int) (w : World) (h : du k a0 = some (r1, r2)) :
    Calls Tryd.prog 76 #[.string a0] w fun e w' => e = .returned (.tuple #[.int .i64 r1, .int .i64 r2]) ∧ Drawn0 w w' := by
 have H : (if (a0.size : Int) = 0 then (some (0, 0)) else (if 0 < (a0.size : Int) then ((dv k (bt a0 0)).bind fun Ac => (if Ac.1 = 0 then (some (1, 0)) else (cj k a0 Ac.1 Ac.2.1 Ac.2.2 1))) else (none))) = some (r1, r2) := h
 clear h
 by_cases c2 : (a0.size : Int) = 0
 ·
  rw [if_pos c2] at H
  have Aj : ((a0.size : Int) == 0) = true := beq_iff_eq.mpr c2
  have Ak : ((a0.size : Int) != 0) = false := bne_eq_false_iff_eq.mpr c2
  clear c2
  simp only [Option.some.injEq, Prod.mk.injEq] at H
  obtain ⟨rfl, rfl⟩ := H
  go_enter Tryd.func76, Tryd.ntmps76
  go_wp2
  go_ret2
  exact ⟨xrr, xdr⟩
 ·
  rw [if_neg c2] at H
  have Aj : ((a0.size : Int) == 0) = false := beq_eq_false_iff_ne.mpr c2
  have Ak : ((a0.size : Int) != 0) = true := bne_iff_ne.mpr c2
  by_cases c3 : 0 < (a0.size : Int)
  ·
   rw [if_pos c3] at H
   have Ap := decide_eq_true c3
   have Aq : decide (0 < a0.size) = true := decide_eq_true (by omega)
   clear c3
   replace H := Option.bind_eq_some_iff.mp H
   obtain ⟨⟨Ab, Ag, Ah⟩, A50, H⟩ := H
   try dsimp only at H
   have A5 := Zz.mk A50
   clear A50
   by_cases c6 : Ab = 0
   ·
    rw [if_pos c6] at H
    have Al : (Ab == 0) = true := beq_iff_eq.mpr c6
    have Am : (Ab != 0) = false := bne_eq_false_iff_eq.mpr c6
    clear c6
    simp only [Option.some.injEq, Prod.mk.injEq] at H
    obtain ⟨rfl, rfl⟩ := H
    have p4 : 0 ≤ (0 : Int) := (by omega)
    have q4 : 0 < a0.size := (by have : (0 : Int) < (a0.size : Int) := xod; omega)
    have hx4 : ∀ h : 0 < a0.size, ((a0[0]'h).toNat : Int) = bt a0 0 := ar a0 0
    clear p4
    have Au : (0 < (a0.size : Int)) = True := eq_true (xod)
    replace q4 := eq_true q4
    try (have Ar := q4; simp only [ByteArray.size_extract, Nat.min_self] at Ar)
    go_enter Tryd.func76, Tryd.ntmps76
    go_wp2_with (first | ((with_reducible refine ae (f := 89) rfl ?_); refine xgl 14 Tryd.func89 #[.int .u8 (bt a0 0)] ?_; (with_reducible refine (gH k (bt a0 0) Ab Ag Ah _ A5.out).mono ?_); rintro e w' ⟨rfl, ⟨nd, rfl⟩⟩; refine ⟨_, rfl, ?_⟩))
    go_ret2
    exact ⟨xrr, xdr⟩
   ·
    rw [if_neg c6] at H
    have Al : (Ab == 0) = false := beq_eq_false_iff_ne.mpr c6
    have Am : (Ab != 0) = true := bne_iff_ne.mpr c6
    have H' := Zz.mk H
    clear H
    have p4 : 0 ≤ (0 : Int) := (by omega)
    have q4 : 0 < a0.size := (by have : (0 : Int) < (a0.size : Int) := xod; omega)
    have hx4 : ∀ h : 0 < a0.size, ((a0[0]'h).toNat : Int) = bt a0 0 := ar a0 0
    clear p4
    have Au : (0 < (a0.size : Int)) = True := eq_true (xod)
    replace q4 := eq_true q4
    try (have Ar := q4; simp only [ByteArray.size_extract, Nat.min_self] at Ar)
    go_enter Tryd.func76, Tryd.ntmps76
    go_wp2_with (first | ((with_reducible refine ae (f := 89) rfl ?_); refine xgl 14 Tryd.func89 #[.int .u8 (bt a0 0)] ?_; (with_reducible refine (gH k (bt a0 0) Ab Ag Ah _ A5.out).mono ?_); rintro e w' ⟨rfl, ⟨nd, rfl⟩⟩; refine ⟨_, rfl, ?_⟩))
    go_loopg [5, 6, 7] k (fun kq v5 v6 v7 w' => ∃ (Ae : Int) (Af : Int) (Aa : Int), v5 = .int .u8 Ae ∧ v6 = .int .u8 Af ∧ v7 = .int .i64 Aa ∧ Zz (cj kq a0 Ab Ae Af Aa = some (r1, r2)) ∧ Zz (kq ≤ k) ∧ Drawn0 w w')
    case atStart => exact ⟨(Ag), (Ah), (1), xrr, xrr, xrr, H', ⟨Nat.le_refl _⟩, xdr⟩
    case round =>
     clear H'
     clear Aj Ak Ap Aq q4 hx4 Au Al Am
     obtain ⟨Ae, Af, Aa, rfl, rfl, rfl, HA, HK1, ⟨m1, rfl⟩⟩ := hrel
     cases gk with
     | zero => exact absurd HA.out (by simp [cj])
     | succ k1 =>
      have H := HA.out
      clear HA
      simp only [cj] at H
      by_cases c7 : Aa < Ab
      ·
       rw [if_pos c7] at H
       have As := decide_eq_true c7
       clear c7
       by_cases c8 : Aa < (a0.size : Int)
       ·
        rw [if_pos c8] at H
        have At := decide_eq_true c8
        clear c8
        by_cases c9 : 0 ≤ Aa
        ·
         rw [if_pos c9] at H
         have Av := decide_eq_true c9
         clear c9
         by_cases c11 : (bt a0 Aa) ≥ Ae
         ·
          rw [if_pos c11] at H
          have An := decide_eq_true c11
          clear c11
          by_cases c13 : (bt a0 Aa) ≤ Af
          ·
           rw [if_pos c13] at H
           have Ao := decide_eq_true c13
           clear c13
           have H' := Zz.mk H
           clear H
           have p10 : 0 ≤ (Aa : Int) := xod
           have q10 : Aa < (a0.size : Int) := xod
           have hx10 := ar a0 Aa
           replace p10 := eq_true p10
           replace q10 := eq_true q10
           try (have Ad := q10; simp only [ByteArray.size_extract, Nat.min_self] at Ad)
           have p12 : 0 ≤ (Aa : Int) := xod
           have q12 : Aa < (a0.size : Int) := xod
           have hx12 := ar a0 Aa
           replace p12 := eq_true p12
           replace q12 := eq_true q12
           try (have Ai := q12; simp only [ByteArray.size_extract, Nat.min_self] at Ai)
           go_wp2
           go_roundg k1
           case measure => have := HK1.out; omega
           case rel => exact ⟨(128), (191), (wrap64 (Aa + 1)), xrr, xrr, xrr, H', ⟨by have := HK1.out; omega⟩, xdr⟩
          ·
           rw [if_neg c13] at H
           have Ao := decide_eq_false c13
           clear c13
           simp only [Option.some.injEq, Prod.mk.injEq] at H
           obtain ⟨rfl, rfl⟩ := H
           have p10 : 0 ≤ (Aa : Int) := xod
           have q10 : Aa < (a0.size : Int) := xod
           have hx10 := ar a0 Aa
           replace p10 := eq_true p10
           replace q10 := eq_true q10
           try (have Ad := q10; simp only [ByteArray.size_extract, Nat.min_self] at Ad)
           have p12 : 0 ≤ (Aa : Int) := xod
           have q12 : Aa < (a0.size : Int) := xod
           have hx12 := ar a0 Aa
           replace p12 := eq_true p12
           replace q12 := eq_true q12
           try (have Ai := q12; simp only [ByteArray.size_extract, Nat.min_self] at Ai)
           go_wp2
           go_ret2
           exact ⟨xrr, xdr⟩
         ·
          rw [if_neg c11] at H
          have An := decide_eq_false c11
          clear c11
          simp only [Option.some.injEq, Prod.mk.injEq] at H
          obtain ⟨rfl, rfl⟩ := H
          have p10 : 0 ≤ (Aa : Int) := xod
          have q10 : Aa < (a0.size : Int) := xod
          have hx10 := ar a0 Aa
          replace p10 := eq_true p10
          replace q10 := eq_true q10
          try (have Ad := q10; simp only [ByteArray.size_extract, Nat.min_self] at Ad)
          go_wp2
          go_ret2
          exact ⟨xrr, xdr⟩
        ·
         rw [if_neg c9] at H
         exact absurd H (by simp)
       ·
        rw [if_neg c8] at H
        have At := decide_eq_false c8
        clear c8
        simp only [Option.some.injEq, Prod.mk.injEq] at H
        obtain ⟨rfl, rfl⟩ := H
        go_wp2
        go_ret2
        exact ⟨xrr, xdr⟩
      ·
       rw [if_neg c7] at H
       have As := decide_eq_false c7
       clear c7
       simp only [Option.some.injEq, Prod.mk.injEq] at H
       obtain ⟨rfl, rfl⟩ := H
       go_wp2
       go_ret2
       exact ⟨xrr, xdr⟩
  ·
   rw [if_neg c3] at H
   exact absurd H (by simp)
mutual
def bx : Nat → ByteArray → Int → Int → Bool → Option (Int × Int × Bool)
  | 0, _, _, _, _ => none
  | k + 1, x0, x5, x6, x20 => if x20 = true then (some (0, x5, false)) else (if 0 < (x0.size : Int) then (if 0 ≤ x6 then (if x6 = 0 then (aA k x0 (wrap32 (Go.bits .and .u8 (bt x0 0) 0)) x6 1) else (if x6 = 1 then (aA k x0 (wrap32 (Go.bits .and .u8 (bt x0 0) 127)) x6 1) else (if x6 = 2 then (aA k x0 (wrap32 (Go.bits .and .u8 (bt x0 0) 31)) x6 1) else (if x6 = 3 then (aA k x0 (wrap32 (Go.bits .and .u8 (bt x0 0) 15)) x6 1) else (if x6 = 4 then (aA k x0 (wrap32 (Go.bits .and .u8 (bt x0 0) 7)) x6 1) else (none)))))) else (none)) else (none))
def aA : Nat → ByteArray → Int → Int → Int → Option (Int × Int × Bool)
  | 0, _, _, _, _ => none
  | k + 1, x0, x2, x6, x8 => if x8 < x6 then (if 0 ≤ x8 then (if x8 < (x0.size : Int) then (aA k x0 (Go.bits .or .i32 (wrap32 (x2 * 64)) (wrap32 (Go.bits .and .u8 (bt x0 x8) 63))) x6 (wrap64 (x8 + 1))) else (none)) else (none)) else (some (x2, x6, true))
end
def dB (k : Nat) (a0 : ByteArray) : Option (Int × Int × Bool) := (du k a0).bind fun Aa => (if Aa.2 = 0 then (bx k a0 Aa.1 Aa.2 true) else (bx k a0 Aa.1 Aa.2 (decide (Aa.1 < Aa.2))))
theorem fN : ∀ k, (∀ y0 y1 y2 y3, LeO (bx k y0 y1 y2 y3) (bx (k + 1) y0 y1 y2 y3)) ∧ (∀ y0 y1 y2 y3, LeO (aA k y0 y1 y2 y3) (aA (k + 1) y0 y1 y2 y3))
  | 0 => ⟨fun _ _ _ _ r h => by simp [bx] at h, fun _ _ _ _ r h => by simp [aA] at h⟩
  | k + 1 => by
    obtain ⟨ih0, ih1⟩ := fN k
    have m0 := @g6
    refine ⟨?_, ?_⟩
    · intro y0 y1 y2 y3
      unfold bx
      exact xmo
    · intro y0 y1 y2 y3
      unfold aA
      exact xmo
theorem gG : ∀ a0 k, LeO (dB k a0) (dB (k + 1) a0) := by
  intro a0 k
  obtain ⟨ih0, ih1⟩ := fN k
  have m0 := @g6
  unfold dB
  exact xmo
theorem eP (k : Nat) (a0 : ByteArray) (r1 : Int) (r2 : Int) (r3 : Bool) (w : World) (h : dB k a0 = some (r1, r2, r3)) :
    Calls Tryd.prog 57 #[.string a0] w fun e w' => e = .returned (.tuple #[.int .i32 r1, .int .i64 r2, .bool r3]) ∧ Below w.heap.size w w' := by
 have hu104 := Tryd.underlying104
 have HB := Zz.mk (Below.refl w.heap.size w)
 have H : ((du k a0).bind fun Ah => (if Ah.2 = 0 then (bx k a0 Ah.1 Ah.2 true) else (bx k a0 Ah.1 Ah.2 (decide (Ah.1 < Ah.2))))) = some (r1, r2, r3) := h
 clear h
 replace H := Option.bind_eq_some_iff.mp H
 obtain ⟨⟨Ak, Ag⟩, A20, H⟩ := H
 try dsimp only at H
 have A2 := Zz.mk A20
 clear A20
 have Ar := Zz.mk H
 clear H
 go_enter Tryd.func57, Tryd.ntmps57
 go_upto_region 2 with (first | (go_at_call 76; (with_reducible refine (fe k a0 Ak Ag _ A2.out).mono ?_); rintro e w' ⟨rfl, ⟨nd, rfl⟩⟩; (try first | exact ⟨rfl, _, World.drewN_drewN _ _ _⟩ | exact ⟨rfl, _, Eq.trans (World.drewN_drewN _ _ _) (congrArg (World.drewN _) (Nat.add_assoc _ _ _))⟩)))
 repeat (go_quiet (first | (go_at_call 76; (with_reducible refine (fe k a0 Ak Ag _ A2.out).mono ?_); rintro e w' ⟨rfl, ⟨nd, rfl⟩⟩; (try first | exact ⟨rfl, _, World.drewN_drewN _ _ _⟩ | exact ⟨rfl, _, Eq.trans (World.drewN_drewN _ _ _) (congrArg (World.drewN _) (Nat.add_assoc _ _ _))⟩))); go_upto_region 2 with (first | (go_at_call 76; (with_reducible refine (fe k a0 Ak Ag _ A2.out).mono ?_); rintro e w' ⟨rfl, ⟨nd, rfl⟩⟩; (try first | exact ⟨rfl, _, World.drewN_drewN _ _ _⟩ | exact ⟨rfl, _, Eq.trans (World.drewN_drewN _ _ _) (congrArg (World.drewN _) (Nat.add_assoc _ _ _))⟩))))
 (try simp only [Act.put, List.setIfInBounds_toArray, List.set_cons_zero, List.set_cons_succ])
 go_cut [20] (fun v20 wc => ∃ (kq : Nat) (Aj : Bool), v20 = .bool Aj ∧ Zz (bx kq a0 Ak Ag Aj = some (r1, r2, r3)) ∧ Zz (kq ≤ k) ∧ Zz (Below w.heap.size w wc))
 case first =>
  have H := Ar.out
  clear Ar
  by_cases c4 : Ag = 0
  ·
   rw [if_pos c4] at H
   have Al : (Ag == 0) = true := beq_iff_eq.mpr c4
   have As : (Ag != 0) = false := bne_eq_false_iff_eq.mpr c4
   clear c4
   (first | rw [Al] | (simp only [ap, aw]; rw [Al]) | (rw [At]; (try simp only [Bool.not_false, Bool.not_true])) | (rw [Au]; (try simp only [Bool.not_false, Bool.not_true])) | skip)
   have H' := Zz.mk H
   clear H
   go_wp2
   repeat (go_quiet (fail); try go_wp2)
   go_meet
   case rel => exact ⟨_, (true), xrr, H', ⟨xom⟩, ⟨xbl⟩⟩
  ·
   rw [if_neg c4] at H
   have Al : (Ag == 0) = false := beq_eq_false_iff_ne.mpr c4
   have As : (Ag != 0) = true := bne_iff_ne.mpr c4
   (first | rw [Al] | (simp only [ap, aw]; rw [Al]) | (rw [At]; (try simp only [Bool.not_false, Bool.not_true])) | (rw [Au]; (try simp only [Bool.not_false, Bool.not_true])) | skip)
   have H' := Zz.mk H
   clear H
   go_wp2
   repeat (go_quiet (fail); try go_wp2)
   go_meet
   case rel => exact ⟨_, (decide (Ak < Ag)), xrr, H', ⟨xom⟩, ⟨xbl⟩⟩
 case rest =>
  clear Ar
  obtain ⟨kq, Aj, rfl, HA, HJ2, HB⟩ := hcut
  cases kq with
  | zero => exact absurd HA.out (by simp [bx])
  | succ kj2 =>
   have H := HA.out
   clear HA
   simp only [bx] at H
   by_cases c5 : Aj = true
   ·
    subst c5
    rw [if_pos rfl] at H
    simp only [Option.some.injEq, Prod.mk.injEq] at H
    obtain ⟨rfl, rfl, rfl⟩ := H
    go_wp2
    repeat (go_quiet (fail); try go_wp2)
    go_ret3
    exact ⟨xre, xbl⟩
   ·
    replace c5 := Bool.eq_false_iff.mpr c5
    subst c5
    rw [if_neg (show ¬ (false = true) by decide)] at H
    by_cases c6 : 0 < (a0.size : Int)
    ·
     rw [if_pos c6] at H
     have Av := decide_eq_true c6
     have Aw : decide (0 < a0.size) = true := decide_eq_true (by omega)
     clear c6
     by_cases c8 : 0 ≤ Ag
     ·
      rw [if_pos c8] at H
      have Ax := decide_eq_true c8
      clear c8
      by_cases c9 : Ag = 0
      ·
       subst c9
       rw [if_pos rfl] at H
       have H' := Zz.mk H
       clear H
       go_wp2_with (first | ((with_reducible refine an (N := 7) rfl ?_); refine xev 7 #[.int .u8 0, .int .u8 0, .int .u8 0, .int .u8 0, .int .u8 0] 104 ?_; intro Ad hg w10 hbox hb; have Aa := Zz.mk (hbox); have Ac := xsz hg; have Af := Ac; replace HB := xst hb; clear hb hbox hg; obtain ⟨hcz11_0, hcz11_1, hcz11_2, hcz11_3, hcz11_4⟩ := xc5 Aa; have hfz11_0 := xf Aa 0; have hfz11_1 := xf Aa 1; have hfz11_2 := xf Aa 2; have hfz11_3 := xf Aa 3; have hfz11_4 := xf Aa 4; have p7 : 0 ≤ (0 : Int) := (by omega); have q7 : 0 < a0.size := (by have : (0 : Int) < (a0.size : Int) := xod; omega); have hx7 : ∀ h : 0 < a0.size, ((a0[0]'h).toNat : Int) = bt a0 0 := ar a0 0; clear p7; have Ai : (0 < (a0.size : Int)) = True := eq_true (xod); replace q7 := eq_true q7))
       repeat (go_quiet (first | ((with_reducible refine an (N := 7) rfl ?_); refine xev 7 #[.int .u8 0, .int .u8 0, .int .u8 0, .int .u8 0, .int .u8 0] 104 ?_; intro Ad hg w10 hbox hb; have Aa := Zz.mk (hbox); have Ac := xsz hg; have Af := Ac; replace HB := xst hb; clear hb hbox hg; obtain ⟨hcz11_0, hcz11_1, hcz11_2, hcz11_3, hcz11_4⟩ := xc5 Aa; have hfz11_0 := xf Aa 0; have hfz11_1 := xf Aa 1; have hfz11_2 := xf Aa 2; have hfz11_3 := xf Aa 3; have hfz11_4 := xf Aa 4; have p7 : 0 ≤ (0 : Int) := (by omega); have q7 : 0 < a0.size := (by have : (0 : Int) < (a0.size : Int) := xod; omega); have hx7 : ∀ h : 0 < a0.size, ((a0[0]'h).toNat : Int) = bt a0 0 := ar a0 0; clear p7; have Ai : (0 < (a0.size : Int)) = True := eq_true (xod); replace q7 := eq_true q7)); try go_wp2_with (first | ((with_reducible refine an (N := 7) rfl ?_); refine xev 7 #[.int .u8 0, .int .u8 0, .int .u8 0, .int .u8 0, .int .u8 0] 104 ?_; intro Ad hg w10 hbox hb; have Aa := Zz.mk (hbox); have Ac := xsz hg; have Af := Ac; replace HB := xst hb; clear hb hbox hg; obtain ⟨hcz11_0, hcz11_1, hcz11_2, hcz11_3, hcz11_4⟩ := xc5 Aa; have hfz11_0 := xf Aa 0; have hfz11_1 := xf Aa 1; have hfz11_2 := xf Aa 2; have hfz11_3 := xf Aa 3; have hfz11_4 := xf Aa 4; have p7 : 0 ≤ (0 : Int) := (by omega); have q7 : 0 < a0.size := (by have : (0 : Int) < (a0.size : Int) := xod; omega); have hx7 : ∀ h : 0 < a0.size, ((a0[0]'h).toNat : Int) = bt a0 0 := ar a0 0; clear p7; have Ai : (0 < (a0.size : Int)) = True := eq_true (xod); replace q7 := eq_true q7)))
       go_loopg [2, 8] kj2 (fun kq v2 v8 w' => ∃ (Ae : Int) (Ab : Int), v2 = .int .i32 Ae ∧ v8 = .int .i64 Ab ∧ Zz (aA kq a0 Ae 0 Ab = some (r1, r2, r3)) ∧ Zz (kq ≤ kj2) ∧ Zz (w'.heap[Ad]? = some (.cells #[.int .u8 0, .int .u8 127, .int .u8 31, .int .u8 15, .int .u8 7] 104 (0, 0))) ∧ Zz (Below w.heap.size w w'))
       case atStart => exact ⟨(wrap32 (Go.bits .and .u8 (bt a0 0) 0)), (1), xrr, xrr, H', ⟨Nat.le_refl _⟩, ⟨by (with_reducible repeat (first | refine ai ?_ _ | refine ak ?_ | refine ah ?_ _)); refine aj (cs := #[.int .u8 0, .int .u8 127, .int .u8 31, .int .u8 15, .int .u8 0]) ?_ 4 _ rfl; (with_reducible repeat (first | refine ai ?_ _ | refine ak ?_ | refine ah ?_ _)); refine aj (cs := #[.int .u8 0, .int .u8 127, .int .u8 31, .int .u8 0, .int .u8 0]) ?_ 3 _ rfl; (with_reducible repeat (first | refine ai ?_ _ | refine ak ?_ | refine ah ?_ _)); refine aj (cs := #[.int .u8 0, .int .u8 127, .int .u8 0, .int .u8 0, .int .u8 0]) ?_ 2 _ rfl; (with_reducible repeat (first | refine ai ?_ _ | refine ak ?_ | refine ah ?_ _)); refine aj (cs := #[.int .u8 0, .int .u8 0, .int .u8 0, .int .u8 0, .int .u8 0]) ?_ 1 _ rfl; (with_reducible repeat (first | refine ai ?_ _ | refine ak ?_ | refine ah ?_ _)); refine aj (cs := #[.int .u8 0, .int .u8 0, .int .u8 0, .int .u8 0, .int .u8 0]) ?_ 0 _ rfl; (with_reducible repeat (first | refine ai ?_ _ | refine ak ?_ | refine ah ?_ _)); exact Aa.out⟩, ⟨xbl⟩⟩
       case round =>
        clear H'
        clear Av Aw Ax
        try clear p7
        try clear q7
        try clear hx7
        try clear Ai
        obtain ⟨Ae, Ab, rfl, rfl, HA, HK2, Aa, HB⟩ := hrel
        cases gk with
        | zero => exact absurd HA.out (by simp [aA])
        | succ k2 =>
         have H := HA.out
         clear HA
         simp only [aA] at H
         by_cases c12 : Ab < 0
         ·
          rw [if_pos c12] at H
          have Am := decide_eq_true c12
          clear c12
          by_cases c13 : 0 ≤ Ab
          ·
           rw [if_pos c13] at H
           have AD := decide_eq_true c13
           clear c13
           by_cases c14 : Ab < (a0.size : Int)
           ·
            rw [if_pos c14] at H
            have AE := decide_eq_true c14
            clear c14
            have H' := Zz.mk H
            clear H
            have p15 : 0 ≤ (Ab : Int) := xod
            have q15 : Ab < (a0.size : Int) := xod
            have hx15 := ar a0 Ab
            replace p15 := eq_true p15
            replace q15 := eq_true q15
            try (have Ay := q15; simp only [ByteArray.size_extract, Nat.min_self] at Ay)
            go_wp2
            repeat (go_quiet (fail); try go_wp2)
            go_roundg k2
            case measure => have := HJ2.out; have := HK2.out; omega
            case rel => exact ⟨(Go.bits .or .i32 (wrap32 (Ae * 64)) (wrap32 (Go.bits .and .u8 (bt a0 Ab) 63))), (wrap64 (Ab + 1)), xrr, xrr, H', ⟨by have := HJ2.out; have := HK2.out; omega⟩, ⟨xbk⟩, ⟨xbl⟩⟩
           ·
            rw [if_neg c14] at H
            exact absurd H (by simp)
          ·
           rw [if_neg c13] at H
           exact absurd H (by simp)
         ·
          rw [if_neg c12] at H
          have Am := decide_eq_false c12
          clear c12
          simp only [Option.some.injEq, Prod.mk.injEq] at H
          obtain ⟨rfl, rfl, rfl⟩ := H
          go_wp2
          repeat (go_quiet (fail); try go_wp2)
          go_ret3
          exact ⟨xre, xbl⟩
      ·
       rw [if_neg c9] at H
       clear c9
       by_cases c16 : Ag = 1
       ·
        subst c16
        rw [if_pos rfl] at H
        have H' := Zz.mk H
        clear H
        go_wp2_with (first | ((with_reducible refine an (N := 7) rfl ?_); refine xev 7 #[.int .u8 0, .int .u8 0, .int .u8 0, .int .u8 0, .int .u8 0] 104 ?_; intro Ad hg w17 hbox hb; have Aa := Zz.mk (hbox); have Ac := xsz hg; have Af := Ac; replace HB := xst hb; clear hb hbox hg; obtain ⟨hcz18_0, hcz18_1, hcz18_2, hcz18_3, hcz18_4⟩ := xc5 Aa; have hfz18_0 := xf Aa 0; have hfz18_1 := xf Aa 1; have hfz18_2 := xf Aa 2; have hfz18_3 := xf Aa 3; have hfz18_4 := xf Aa 4; have p7 : 0 ≤ (0 : Int) := (by omega); have q7 : 0 < a0.size := (by have : (0 : Int) < (a0.size : Int) := xod; omega); have hx7 : ∀ h : 0 < a0.size, ((a0[0]'h).toNat : Int) = bt a0 0 := ar a0 0; clear p7; have Ai : (0 < (a0.size : Int)) = True := eq_true (xod); replace q7 := eq_true q7))
        repeat (go_quiet (first | ((with_reducible refine an (N := 7) rfl ?_); refine xev 7 #[.int .u8 0, .int .u8 0, .int .u8 0, .int .u8 0, .int .u8 0] 104 ?_; intro Ad hg w17 hbox hb; have Aa := Zz.mk (hbox); have Ac := xsz hg; have Af := Ac; replace HB := xst hb; clear hb hbox hg; obtain ⟨hcz18_0, hcz18_1, hcz18_2, hcz18_3, hcz18_4⟩ := xc5 Aa; have hfz18_0 := xf Aa 0; have hfz18_1 := xf Aa 1; have hfz18_2 := xf Aa 2; have hfz18_3 := xf Aa 3; have hfz18_4 := xf Aa 4; have p7 : 0 ≤ (0 : Int) := (by omega); have q7 : 0 < a0.size := (by have : (0 : Int) < (a0.size : Int) := xod; omega); have hx7 : ∀ h : 0 < a0.size, ((a0[0]'h).toNat : Int) = bt a0 0 := ar a0 0; clear p7; have Ai : (0 < (a0.size : Int)) = True := eq_true (xod); replace q7 := eq_true q7)); try go_wp2_with (first | ((with_reducible refine an (N := 7) rfl ?_); refine xev 7 #[.int .u8 0, .int .u8 0, .int .u8 0, .int .u8 0, .int .u8 0] 104 ?_; intro Ad hg w17 hbox hb; have Aa := Zz.mk (hbox); have Ac := xsz hg; have Af := Ac; replace HB := xst hb; clear hb hbox hg; obtain ⟨hcz18_0, hcz18_1, hcz18_2, hcz18_3, hcz18_4⟩ := xc5 Aa; have hfz18_0 := xf Aa 0; have hfz18_1 := xf Aa 1; have hfz18_2 := xf Aa 2; have hfz18_3 := xf Aa 3; have hfz18_4 := xf Aa 4; have p7 : 0 ≤ (0 : Int) := (by omega); have q7 : 0 < a0.size := (by have : (0 : Int) < (a0.size : Int) := xod; omega); have hx7 : ∀ h : 0 < a0.size, ((a0[0]'h).toNat : Int) = bt a0 0 := ar a0 0; clear p7; have Ai : (0 < (a0.size : Int)) = True := eq_true (xod); replace q7 := eq_true q7)))
        go_loopg [2, 8] kj2 (fun kq v2 v8 w' => ∃ (Ae : Int) (Ab : Int), v2 = .int .i32 Ae ∧ v8 = .int .i64 Ab ∧ Zz (aA kq a0 Ae 1 Ab = some (r1, r2, r3)) ∧ Zz (kq ≤ kj2) ∧ Zz (w'.heap[Ad]? = some (.cells #[.int .u8 0, .int .u8 127, .int .u8 31, .int .u8 15, .int .u8 7] 104 (0, 0))) ∧ Zz (Below w.heap.size w w'))
        case atStart => exact ⟨(wrap32 (Go.bits .and .u8 (bt a0 0) 127)), (1), xrr, xrr, H', ⟨Nat.le_refl _⟩, ⟨by (with_reducible repeat (first | refine ai ?_ _ | refine ak ?_ | refine ah ?_ _)); refine aj (cs := #[.int .u8 0, .int .u8 127, .int .u8 31, .int .u8 15, .int .u8 0]) ?_ 4 _ rfl; (with_reducible repeat (first | refine ai ?_ _ | refine ak ?_ | refine ah ?_ _)); refine aj (cs := #[.int .u8 0, .int .u8 127, .int .u8 31, .int .u8 0, .int .u8 0]) ?_ 3 _ rfl; (with_reducible repeat (first | refine ai ?_ _ | refine ak ?_ | refine ah ?_ _)); refine aj (cs := #[.int .u8 0, .int .u8 127, .int .u8 0, .int .u8 0, .int .u8 0]) ?_ 2 _ rfl; (with_reducible repeat (first | refine ai ?_ _ | refine ak ?_ | refine ah ?_ _)); refine aj (cs := #[.int .u8 0, .int .u8 0, .int .u8 0, .int .u8 0, .int .u8 0]) ?_ 1 _ rfl; (with_reducible repeat (first | refine ai ?_ _ | refine ak ?_ | refine ah ?_ _)); refine aj (cs := #[.int .u8 0, .int .u8 0, .int .u8 0, .int .u8 0, .int .u8 0]) ?_ 0 _ rfl; (with_reducible repeat (first | refine ai ?_ _ | refine ak ?_ | refine ah ?_ _)); exact Aa.out⟩, ⟨xbl⟩⟩
        case round =>
         clear H'
         try clear p7
         try clear q7
         try clear hx7
         try clear Ai
         obtain ⟨Ae, Ab, rfl, rfl, HA, HK2, Aa, HB⟩ := hrel
         cases gk with
         | zero => exact absurd HA.out (by simp [aA])
         | succ k2 =>
          have H := HA.out
          clear HA
          simp only [aA] at H
          by_cases c19 : Ab < 1
          ·
           rw [if_pos c19] at H
           have An := decide_eq_true c19
           clear c19
           by_cases c20 : 0 ≤ Ab
           ·
            rw [if_pos c20] at H
            have AF := decide_eq_true c20
            clear c20
            by_cases c21 : Ab < (a0.size : Int)
            ·
             rw [if_pos c21] at H
             have AG := decide_eq_true c21
             clear c21
             have H' := Zz.mk H
             clear H
             have p22 : 0 ≤ (Ab : Int) := xod
             have q22 : Ab < (a0.size : Int) := xod
             have hx22 := ar a0 Ab
             replace p22 := eq_true p22
             replace q22 := eq_true q22
             try (have Az := q22; simp only [ByteArray.size_extract, Nat.min_self] at Az)
             go_wp2
             repeat (go_quiet (fail); try go_wp2)
             go_roundg k2
             case measure => have := HJ2.out; have := HK2.out; omega
             case rel => exact ⟨(Go.bits .or .i32 (wrap32 (Ae * 64)) (wrap32 (Go.bits .and .u8 (bt a0 Ab) 63))), (wrap64 (Ab + 1)), xrr, xrr, H', ⟨by have := HJ2.out; have := HK2.out; omega⟩, ⟨xbk⟩, ⟨xbl⟩⟩
            ·
             rw [if_neg c21] at H
             exact absurd H (by simp)
           ·
            rw [if_neg c20] at H
            exact absurd H (by simp)
          ·
           rw [if_neg c19] at H
           have An := decide_eq_false c19
           clear c19
           simp only [Option.some.injEq, Prod.mk.injEq] at H
           obtain ⟨rfl, rfl, rfl⟩ := H
           go_wp2
           repeat (go_quiet (fail); try go_wp2)
           go_ret3
           exact ⟨xre, xbl⟩
       ·
        rw [if_neg c16] at H
        clear c16
        by_cases c23 : Ag = 2
        ·
         subst c23
         rw [if_pos rfl] at H
         have H' := Zz.mk H
         clear H
         go_wp2_with (first | ((with_reducible refine an (N := 7) rfl ?_); refine xev 7 #[.int .u8 0, .int .u8 0, .int .u8 0, .int .u8 0, .int .u8 0] 104 ?_; intro Ad hg w24 hbox hb; have Aa := Zz.mk (hbox); have Ac := xsz hg; have Af := Ac; replace HB := xst hb; clear hb hbox hg; obtain ⟨hcz25_0, hcz25_1, hcz25_2, hcz25_3, hcz25_4⟩ := xc5 Aa; have hfz25_0 := xf Aa 0; have hfz25_1 := xf Aa 1; have hfz25_2 := xf Aa 2; have hfz25_3 := xf Aa 3; have hfz25_4 := xf Aa 4; have p7 : 0 ≤ (0 : Int) := (by omega); have q7 : 0 < a0.size := (by have : (0 : Int) < (a0.size : Int) := xod; omega); have hx7 : ∀ h : 0 < a0.size, ((a0[0]'h).toNat : Int) = bt a0 0 := ar a0 0; clear p7; have Ai : (0 < (a0.size : Int)) = True := eq_true (xod); replace q7 := eq_true q7))
         repeat (go_quiet (first | ((with_reducible refine an (N := 7) rfl ?_); refine xev 7 #[.int .u8 0, .int .u8 0, .int .u8 0, .int .u8 0, .int .u8 0] 104 ?_; intro Ad hg w24 hbox hb; have Aa := Zz.mk (hbox); have Ac := xsz hg; have Af := Ac; replace HB := xst hb; clear hb hbox hg; obtain ⟨hcz25_0, hcz25_1, hcz25_2, hcz25_3, hcz25_4⟩ := xc5 Aa; have hfz25_0 := xf Aa 0; have hfz25_1 := xf Aa 1; have hfz25_2 := xf Aa 2; have hfz25_3 := xf Aa 3; have hfz25_4 := xf Aa 4; have p7 : 0 ≤ (0 : Int) := (by omega); have q7 : 0 < a0.size := (by have : (0 : Int) < (a0.size : Int) := xod; omega); have hx7 : ∀ h : 0 < a0.size, ((a0[0]'h).toNat : Int) = bt a0 0 := ar a0 0; clear p7; have Ai : (0 < (a0.size : Int)) = True := eq_true (xod); replace q7 := eq_true q7)); try go_wp2_with (first | ((with_reducible refine an (N := 7) rfl ?_); refine xev 7 #[.int .u8 0, .int .u8 0, .int .u8 0, .int .u8 0, .int .u8 0] 104 ?_; intro Ad hg w24 hbox hb; have Aa := Zz.mk (hbox); have Ac := xsz hg; have Af := Ac; replace HB := xst hb; clear hb hbox hg; obtain ⟨hcz25_0, hcz25_1, hcz25_2, hcz25_3, hcz25_4⟩ := xc5 Aa; have hfz25_0 := xf Aa 0; have hfz25_1 := xf Aa 1; have hfz25_2 := xf Aa 2; have hfz25_3 := xf Aa 3; have hfz25_4 := xf Aa 4; have p7 : 0 ≤ (0 : Int) := (by omega); have q7 : 0 < a0.size := (by have : (0 : Int) < (a0.size : Int) := xod; omega); have hx7 : ∀ h : 0 < a0.size, ((a0[0]'h).toNat : Int) = bt a0 0 := ar a0 0; clear p7; have Ai : (0 < (a0.size : Int)) = True := eq_true (xod); replace q7 := eq_true q7)))
         go_loopg [2, 8] kj2 (fun kq v2 v8 w' => ∃ (Ae : Int) (Ab : Int), v2 = .int .i32 Ae ∧ v8 = .int .i64 Ab ∧ Zz (aA kq a0 Ae 2 Ab = some (r1, r2, r3)) ∧ Zz (kq ≤ kj2) ∧ Zz (w'.heap[Ad]? = some (.cells #[.int .u8 0, .int .u8 127, .int .u8 31, .int .u8 15, .int .u8 7] 104 (0, 0))) ∧ Zz (Below w.heap.size w w'))
         case atStart => exact ⟨(wrap32 (Go.bits .and .u8 (bt a0 0) 31)), (1), xrr, xrr, H', ⟨Nat.le_refl _⟩, ⟨by (with_reducible repeat (first | refine ai ?_ _ | refine ak ?_ | refine ah ?_ _)); refine aj (cs := #[.int .u8 0, .int .u8 127, .int .u8 31, .int .u8 15, .int .u8 0]) ?_ 4 _ rfl; (with_reducible repeat (first | refine ai ?_ _ | refine ak ?_ | refine ah ?_ _)); refine aj (cs := #[.int .u8 0, .int .u8 127, .int .u8 31, .int .u8 0, .int .u8 0]) ?_ 3 _ rfl; (with_reducible repeat (first | refine ai ?_ _ | refine ak ?_ | refine ah ?_ _)); refine aj (cs := #[.int .u8 0, .int .u8 127, .int .u8 0, .int .u8 0, .int .u8 0]) ?_ 2 _ rfl; (with_reducible repeat (first | refine ai ?_ _ | refine ak ?_ | refine ah ?_ _)); refine aj (cs := #[.int .u8 0, .int .u8 0, .int .u8 0, .int .u8 0, .int .u8 0]) ?_ 1 _ rfl; (with_reducible repeat (first | refine ai ?_ _ | refine ak ?_ | refine ah ?_ _)); refine aj (cs := #[.int .u8 0, .int .u8 0, .int .u8 0, .int .u8 0, .int .u8 0]) ?_ 0 _ rfl; (with_reducible repeat (first | refine ai ?_ _ | refine ak ?_ | refine ah ?_ _)); exact Aa.out⟩, ⟨xbl⟩⟩
         case round =>
          clear H'
          try clear p7
          try clear q7
          try clear hx7
          try clear Ai
          obtain ⟨Ae, Ab, rfl, rfl, HA, HK2, Aa, HB⟩ := hrel
          cases gk with
          | zero => exact absurd HA.out (by simp [aA])
          | succ k2 =>
           have H := HA.out
           clear HA
           simp only [aA] at H
           by_cases c26 : Ab < 2
           ·
            rw [if_pos c26] at H
            have Ao := decide_eq_true c26
            clear c26
            by_cases c27 : 0 ≤ Ab
            ·
             rw [if_pos c27] at H
             have AH := decide_eq_true c27
             clear c27
             by_cases c28 : Ab < (a0.size : Int)
             ·
              rw [if_pos c28] at H
              have AI := decide_eq_true c28
              clear c28
              have H' := Zz.mk H
              clear H
              have p29 : 0 ≤ (Ab : Int) := xod
              have q29 : Ab < (a0.size : Int) := xod
              have hx29 := ar a0 Ab
              replace p29 := eq_true p29
              replace q29 := eq_true q29
              try (have AA := q29; simp only [ByteArray.size_extract, Nat.min_self] at AA)
              go_wp2
              repeat (go_quiet (fail); try go_wp2)
              go_roundg k2
              case measure => have := HJ2.out; have := HK2.out; omega
              case rel => exact ⟨(Go.bits .or .i32 (wrap32 (Ae * 64)) (wrap32 (Go.bits .and .u8 (bt a0 Ab) 63))), (wrap64 (Ab + 1)), xrr, xrr, H', ⟨by have := HJ2.out; have := HK2.out; omega⟩, ⟨xbk⟩, ⟨xbl⟩⟩
             ·
              rw [if_neg c28] at H
              exact absurd H (by simp)
            ·
             rw [if_neg c27] at H
             exact absurd H (by simp)
           ·
            rw [if_neg c26] at H
            have Ao := decide_eq_false c26
            clear c26
            simp only [Option.some.injEq, Prod.mk.injEq] at H
            obtain ⟨rfl, rfl, rfl⟩ := H
            go_wp2
            repeat (go_quiet (fail); try go_wp2)
            go_ret3
            exact ⟨xre, xbl⟩
        ·
         rw [if_neg c23] at H
         clear c23
         by_cases c30 : Ag = 3
         ·
          subst c30
          rw [if_pos rfl] at H
          have H' := Zz.mk H
          clear H
          go_wp2_with (first | ((with_reducible refine an (N := 7) rfl ?_); refine xev 7 #[.int .u8 0, .int .u8 0, .int .u8 0, .int .u8 0, .int .u8 0] 104 ?_; intro Ad hg w31 hbox hb; have Aa := Zz.mk (hbox); have Ac := xsz hg; have Af := Ac; replace HB := xst hb; clear hb hbox hg; obtain ⟨hcz32_0, hcz32_1, hcz32_2, hcz32_3, hcz32_4⟩ := xc5 Aa; have hfz32_0 := xf Aa 0; have hfz32_1 := xf Aa 1; have hfz32_2 := xf Aa 2; have hfz32_3 := xf Aa 3; have hfz32_4 := xf Aa 4; have p7 : 0 ≤ (0 : Int) := (by omega); have q7 : 0 < a0.size := (by have : (0 : Int) < (a0.size : Int) := xod; omega); have hx7 : ∀ h : 0 < a0.size, ((a0[0]'h).toNat : Int) = bt a0 0 := ar a0 0; clear p7; have Ai : (0 < (a0.size : Int)) = True := eq_true (xod); replace q7 := eq_true q7))
          repeat (go_quiet (first | ((with_reducible refine an (N := 7) rfl ?_); refine xev 7 #[.int .u8 0, .int .u8 0, .int .u8 0, .int .u8 0, .int .u8 0] 104 ?_; intro Ad hg w31 hbox hb; have Aa := Zz.mk (hbox); have Ac := xsz hg; have Af := Ac; replace HB := xst hb; clear hb hbox hg; obtain ⟨hcz32_0, hcz32_1, hcz32_2, hcz32_3, hcz32_4⟩ := xc5 Aa; have hfz32_0 := xf Aa 0; have hfz32_1 := xf Aa 1; have hfz32_2 := xf Aa 2; have hfz32_3 := xf Aa 3; have hfz32_4 := xf Aa 4; have p7 : 0 ≤ (0 : Int) := (by omega); have q7 : 0 < a0.size := (by have : (0 : Int) < (a0.size : Int) := xod; omega); have hx7 : ∀ h : 0 < a0.size, ((a0[0]'h).toNat : Int) = bt a0 0 := ar a0 0; clear p7; have Ai : (0 < (a0.size : Int)) = True := eq_true (xod); replace q7 := eq_true q7)); try go_wp2_with (first | ((with_reducible refine an (N := 7) rfl ?_); refine xev 7 #[.int .u8 0, .int .u8 0, .int .u8 0, .int .u8 0, .int .u8 0] 104 ?_; intro Ad hg w31 hbox hb; have Aa := Zz.mk (hbox); have Ac := xsz hg; have Af := Ac; replace HB := xst hb; clear hb hbox hg; obtain ⟨hcz32_0, hcz32_1, hcz32_2, hcz32_3, hcz32_4⟩ := xc5 Aa; have hfz32_0 := xf Aa 0; have hfz32_1 := xf Aa 1; have hfz32_2 := xf Aa 2; have hfz32_3 := xf Aa 3; have hfz32_4 := xf Aa 4; have p7 : 0 ≤ (0 : Int) := (by omega); have q7 : 0 < a0.size := (by have : (0 : Int) < (a0.size : Int) := xod; omega); have hx7 : ∀ h : 0 < a0.size, ((a0[0]'h).toNat : Int) = bt a0 0 := ar a0 0; clear p7; have Ai : (0 < (a0.size : Int)) = True := eq_true (xod); replace q7 := eq_true q7)))
          go_loopg [2, 8] kj2 (fun kq v2 v8 w' => ∃ (Ae : Int) (Ab : Int), v2 = .int .i32 Ae ∧ v8 = .int .i64 Ab ∧ Zz (aA kq a0 Ae 3 Ab = some (r1, r2, r3)) ∧ Zz (kq ≤ kj2) ∧ Zz (w'.heap[Ad]? = some (.cells #[.int .u8 0, .int .u8 127, .int .u8 31, .int .u8 15, .int .u8 7] 104 (0, 0))) ∧ Zz (Below w.heap.size w w'))
          case atStart => exact ⟨(wrap32 (Go.bits .and .u8 (bt a0 0) 15)), (1), xrr, xrr, H', ⟨Nat.le_refl _⟩, ⟨by (with_reducible repeat (first | refine ai ?_ _ | refine ak ?_ | refine ah ?_ _)); refine aj (cs := #[.int .u8 0, .int .u8 127, .int .u8 31, .int .u8 15, .int .u8 0]) ?_ 4 _ rfl; (with_reducible repeat (first | refine ai ?_ _ | refine ak ?_ | refine ah ?_ _)); refine aj (cs := #[.int .u8 0, .int .u8 127, .int .u8 31, .int .u8 0, .int .u8 0]) ?_ 3 _ rfl; (with_reducible repeat (first | refine ai ?_ _ | refine ak ?_ | refine ah ?_ _)); refine aj (cs := #[.int .u8 0, .int .u8 127, .int .u8 0, .int .u8 0, .int .u8 0]) ?_ 2 _ rfl; (with_reducible repeat (first | refine ai ?_ _ | refine ak ?_ | refine ah ?_ _)); refine aj (cs := #[.int .u8 0, .int .u8 0, .int .u8 0, .int .u8 0, .int .u8 0]) ?_ 1 _ rfl; (with_reducible repeat (first | refine ai ?_ _ | refine ak ?_ | refine ah ?_ _)); refine aj (cs := #[.int .u8 0, .int .u8 0, .int .u8 0, .int .u8 0, .int .u8 0]) ?_ 0 _ rfl; (with_reducible repeat (first | refine ai ?_ _ | refine ak ?_ | refine ah ?_ _)); exact Aa.out⟩, ⟨xbl⟩⟩
          case round =>
           clear H'
           try clear p7
           try clear q7
           try clear hx7
           try clear Ai
           obtain ⟨Ae, Ab, rfl, rfl, HA, HK2, Aa, HB⟩ := hrel
           cases gk with
           | zero => exact absurd HA.out (by simp [aA])
           | succ k2 =>
            have H := HA.out
            clear HA
            simp only [aA] at H
            by_cases c33 : Ab < 3
            ·
             rw [if_pos c33] at H
             have Ap := decide_eq_true c33
             clear c33
             by_cases c34 : 0 ≤ Ab
             ·
              rw [if_pos c34] at H
              have AJ := decide_eq_true c34
              clear c34
              by_cases c35 : Ab < (a0.size : Int)
              ·
               rw [if_pos c35] at H
               have AK := decide_eq_true c35
               clear c35
               have H' := Zz.mk H
               clear H
               have p36 : 0 ≤ (Ab : Int) := xod
               have q36 : Ab < (a0.size : Int) := xod
               have hx36 := ar a0 Ab
               replace p36 := eq_true p36
               replace q36 := eq_true q36
               try (have AB := q36; simp only [ByteArray.size_extract, Nat.min_self] at AB)
               go_wp2
               repeat (go_quiet (fail); try go_wp2)
               go_roundg k2
               case measure => have := HJ2.out; have := HK2.out; omega
               case rel => exact ⟨(Go.bits .or .i32 (wrap32 (Ae * 64)) (wrap32 (Go.bits .and .u8 (bt a0 Ab) 63))), (wrap64 (Ab + 1)), xrr, xrr, H', ⟨by have := HJ2.out; have := HK2.out; omega⟩, ⟨xbk⟩, ⟨xbl⟩⟩
              ·
               rw [if_neg c35] at H
               exact absurd H (by simp)
             ·
              rw [if_neg c34] at H
              exact absurd H (by simp)
            ·
             rw [if_neg c33] at H
             have Ap := decide_eq_false c33
             clear c33
             simp only [Option.some.injEq, Prod.mk.injEq] at H
             obtain ⟨rfl, rfl, rfl⟩ := H
             go_wp2
             repeat (go_quiet (fail); try go_wp2)
             go_ret3
             exact ⟨xre, xbl⟩
         ·
          rw [if_neg c30] at H
          clear c30
          by_cases c37 : Ag = 4
          ·
           subst c37
           rw [if_pos rfl] at H
           have H' := Zz.mk H
           clear H
           go_wp2_with (first | ((with_reducible refine an (N := 7) rfl ?_); refine xev 7 #[.int .u8 0, .int .u8 0, .int .u8 0, .int .u8 0, .int .u8 0] 104 ?_; intro Ad hg w38 hbox hb; have Aa := Zz.mk (hbox); have Ac := xsz hg; have Af := Ac; replace HB := xst hb; clear hb hbox hg; obtain ⟨hcz39_0, hcz39_1, hcz39_2, hcz39_3, hcz39_4⟩ := xc5 Aa; have hfz39_0 := xf Aa 0; have hfz39_1 := xf Aa 1; have hfz39_2 := xf Aa 2; have hfz39_3 := xf Aa 3; have hfz39_4 := xf Aa 4; have p7 : 0 ≤ (0 : Int) := (by omega); have q7 : 0 < a0.size := (by have : (0 : Int) < (a0.size : Int) := xod; omega); have hx7 : ∀ h : 0 < a0.size, ((a0[0]'h).toNat : Int) = bt a0 0 := ar a0 0; clear p7; have Ai : (0 < (a0.size : Int)) = True := eq_true (xod); replace q7 := eq_true q7))
           repeat (go_quiet (first | ((with_reducible refine an (N := 7) rfl ?_); refine xev 7 #[.int .u8 0, .int .u8 0, .int .u8 0, .int .u8 0, .int .u8 0] 104 ?_; intro Ad hg w38 hbox hb; have Aa := Zz.mk (hbox); have Ac := xsz hg; have Af := Ac; replace HB := xst hb; clear hb hbox hg; obtain ⟨hcz39_0, hcz39_1, hcz39_2, hcz39_3, hcz39_4⟩ := xc5 Aa; have hfz39_0 := xf Aa 0; have hfz39_1 := xf Aa 1; have hfz39_2 := xf Aa 2; have hfz39_3 := xf Aa 3; have hfz39_4 := xf Aa 4; have p7 : 0 ≤ (0 : Int) := (by omega); have q7 : 0 < a0.size := (by have : (0 : Int) < (a0.size : Int) := xod; omega); have hx7 : ∀ h : 0 < a0.size, ((a0[0]'h).toNat : Int) = bt a0 0 := ar a0 0; clear p7; have Ai : (0 < (a0.size : Int)) = True := eq_true (xod); replace q7 := eq_true q7)); try go_wp2_with (first | ((with_reducible refine an (N := 7) rfl ?_); refine xev 7 #[.int .u8 0, .int .u8 0, .int .u8 0, .int .u8 0, .int .u8 0] 104 ?_; intro Ad hg w38 hbox hb; have Aa := Zz.mk (hbox); have Ac := xsz hg; have Af := Ac; replace HB := xst hb; clear hb hbox hg; obtain ⟨hcz39_0, hcz39_1, hcz39_2, hcz39_3, hcz39_4⟩ := xc5 Aa; have hfz39_0 := xf Aa 0; have hfz39_1 := xf Aa 1; have hfz39_2 := xf Aa 2; have hfz39_3 := xf Aa 3; have hfz39_4 := xf Aa 4; have p7 : 0 ≤ (0 : Int) := (by omega); have q7 : 0 < a0.size := (by have : (0 : Int) < (a0.size : Int) := xod; omega); have hx7 : ∀ h : 0 < a0.size, ((a0[0]'h).toNat : Int) = bt a0 0 := ar a0 0; clear p7; have Ai : (0 < (a0.size : Int)) = True := eq_true (xod); replace q7 := eq_true q7)))
           go_loopg [2, 8] kj2 (fun kq v2 v8 w' => ∃ (Ae : Int) (Ab : Int), v2 = .int .i32 Ae ∧ v8 = .int .i64 Ab ∧ Zz (aA kq a0 Ae 4 Ab = some (r1, r2, r3)) ∧ Zz (kq ≤ kj2) ∧ Zz (w'.heap[Ad]? = some (.cells #[.int .u8 0, .int .u8 127, .int .u8 31, .int .u8 15, .int .u8 7] 104 (0, 0))) ∧ Zz (Below w.heap.size w w'))
           case atStart => exact ⟨(wrap32 (Go.bits .and .u8 (bt a0 0) 7)), (1), xrr, xrr, H', ⟨Nat.le_refl _⟩, ⟨by (with_reducible repeat (first | refine ai ?_ _ | refine ak ?_ | refine ah ?_ _)); refine aj (cs := #[.int .u8 0, .int .u8 127, .int .u8 31, .int .u8 15, .int .u8 0]) ?_ 4 _ rfl; (with_reducible repeat (first | refine ai ?_ _ | refine ak ?_ | refine ah ?_ _)); refine aj (cs := #[.int .u8 0, .int .u8 127, .int .u8 31, .int .u8 0, .int .u8 0]) ?_ 3 _ rfl; (with_reducible repeat (first | refine ai ?_ _ | refine ak ?_ | refine ah ?_ _)); refine aj (cs := #[.int .u8 0, .int .u8 127, .int .u8 0, .int .u8 0, .int .u8 0]) ?_ 2 _ rfl; (with_reducible repeat (first | refine ai ?_ _ | refine ak ?_ | refine ah ?_ _)); refine aj (cs := #[.int .u8 0, .int .u8 0, .int .u8 0, .int .u8 0, .int .u8 0]) ?_ 1 _ rfl; (with_reducible repeat (first | refine ai ?_ _ | refine ak ?_ | refine ah ?_ _)); refine aj (cs := #[.int .u8 0, .int .u8 0, .int .u8 0, .int .u8 0, .int .u8 0]) ?_ 0 _ rfl; (with_reducible repeat (first | refine ai ?_ _ | refine ak ?_ | refine ah ?_ _)); exact Aa.out⟩, ⟨xbl⟩⟩
           case round =>
            clear H'
            try clear p7
            try clear q7
            try clear hx7
            try clear Ai
            obtain ⟨Ae, Ab, rfl, rfl, HA, HK2, Aa, HB⟩ := hrel
            cases gk with
            | zero => exact absurd HA.out (by simp [aA])
            | succ k2 =>
             have H := HA.out
             clear HA
             simp only [aA] at H
             by_cases c40 : Ab < 4
             ·
              rw [if_pos c40] at H
              have Aq := decide_eq_true c40
              clear c40
              by_cases c41 : 0 ≤ Ab
              ·
               rw [if_pos c41] at H
               have AL := decide_eq_true c41
               clear c41
               by_cases c42 : Ab < (a0.size : Int)
               ·
                rw [if_pos c42] at H
                have AM := decide_eq_true c42
                clear c42
                have H' := Zz.mk H
                clear H
                have p43 : 0 ≤ (Ab : Int) := xod
                have q43 : Ab < (a0.size : Int) := xod
                have hx43 := ar a0 Ab
                replace p43 := eq_true p43
                replace q43 := eq_true q43
                try (have AC := q43; simp only [ByteArray.size_extract, Nat.min_self] at AC)
                go_wp2
                repeat (go_quiet (fail); try go_wp2)
                go_roundg k2
                case measure => have := HJ2.out; have := HK2.out; omega
                case rel => exact ⟨(Go.bits .or .i32 (wrap32 (Ae * 64)) (wrap32 (Go.bits .and .u8 (bt a0 Ab) 63))), (wrap64 (Ab + 1)), xrr, xrr, H', ⟨by have := HJ2.out; have := HK2.out; omega⟩, ⟨xbk⟩, ⟨xbl⟩⟩
               ·
                rw [if_neg c42] at H
                exact absurd H (by simp)
              ·
               rw [if_neg c41] at H
               exact absurd H (by simp)
             ·
              rw [if_neg c40] at H
              have Aq := decide_eq_false c40
              clear c40
              simp only [Option.some.injEq, Prod.mk.injEq] at H
              obtain ⟨rfl, rfl, rfl⟩ := H
              go_wp2
              repeat (go_quiet (fail); try go_wp2)
              go_ret3
              exact ⟨xre, xbl⟩
          ·
           rw [if_neg c37] at H
           clear c37
           exact absurd H (by simp)
     ·
      rw [if_neg c8] at H
      exact absurd H (by simp)
    ·
     rw [if_neg c6] at H
     exact absurd H (by simp)
mutual
def bP : Nat → ByteArray → ByteArray → Int → Option (Int)
  | 0, _, _, _ => none
  | k + 1, x0, x2, x7 => if x7 < (x0.size : Int) then (cl k x0 x2 x7 (x2.size : Int) 0) else (some (-1))
def cl : Nat → ByteArray → ByteArray → Int → Int → Int → Option (Int)
  | 0, _, _, _, _, _ => none
  | k + 1, x0, x2, x7, x18, x19 => if x19 < x18 then (if 0 ≤ x7 then (if x7 < (x0.size : Int) then (if 0 ≤ x19 then (if x19 < (x2.size : Int) then (if (bt x0 x7) = (bt x2 x19) then (some x7) else (cl k x0 x2 x7 x18 (wrap64 (x19 + 1)))) else (none)) else (none)) else (none)) else (none)) else (bP k x0 x2 (wrap64 (x7 + 1)))
end
def b9 (k : Nat) (a0 : ByteArray) (a1 : Int) (a2 : ByteArray) : Option (Int) := bP k a0 a2 (mx a1 0)
theorem fK : ∀ k, (∀ y0 y1 y2, LeO (bP k y0 y1 y2) (bP (k + 1) y0 y1 y2)) ∧ (∀ y0 y1 y2 y3 y4, LeO (cl k y0 y1 y2 y3 y4) (cl (k + 1) y0 y1 y2 y3 y4))
  | 0 => ⟨fun _ _ _ r h => by simp [bP] at h, fun _ _ _ _ _ r h => by simp [cl] at h⟩
  | k + 1 => by
    obtain ⟨ih0, ih1⟩ := fK k
    refine ⟨?_, ?_⟩
    · intro y0 y1 y2
      unfold bP
      exact xmo
    · intro y0 y1 y2 y3 y4
      unfold cl
      exact xmo
theorem fb : ∀ a0 a1 a2 k, LeO (b9 k a0 a1 a2) (b9 (k + 1) a0 a1 a2) := by
  intro a0 a1 a2 k
  obtain ⟨ih0, ih1⟩ := fK k
  unfold b9
  exact xmo
theorem d7 (k : Nat) (a0 : ByteArray) (a1 : Int) (a2 : ByteArray) (r : Int) (w : World) (h : b9 k a0 a1 a2 = some r) :
    Calls Tryd.prog 63 #[.string a0, .int .i64 a1, .string a2] w fun e w' => e = .returned (.int .i64 r) ∧ Below w.heap.size w w' := by
 have HB := Zz.mk (Below.refl w.heap.size w)
 have H : (bP k a0 a2 (mx a1 0)) = some r := h
 clear h
 obtain ⟨Ah, Ac⟩ : ∃ j_ : Int, (mx a1 0) = j_ := ⟨_, rfl⟩
 first | rw [Ac] at H | simp only [Ac] at H | skip
 (try (have Ak : 0 ≤ Ah := by (rw [← Ac]; unfold mx; (repeat' split) <;> omega)))
 (try (have Al : 0 ≤ Ah := by omega))
 have hji4_ : (if a1 < 0 then 0 else a1) = Ah := Ac
 have H' := Zz.mk H
 clear H
 go_enter Tryd.func63, Tryd.ntmps63
 go_wp2
 repeat (go_quiet (fail); try go_wp2)
 go_loopg [7] k (fun kq v7 w' => ∃ (Ab : Int), v7 = .int .i64 Ab ∧ Zz (bP kq a0 a2 Ab = some r) ∧ Zz (kq ≤ k) ∧ Zz (Below w.heap.size w w'))
 case atStart => exact ⟨(Ah), (by first | rfl | (simp; done) | (simp only [← Ac] <;> (first | rfl | simp)) | (simp [*]; done) | (simp [wrap64]; done)), H', ⟨Nat.le_refl _⟩, ⟨xbl⟩⟩
 case round =>
  clear H'
  obtain ⟨Ab, rfl, HA, HK1, HB⟩ := hrel
  cases gk with
  | zero => exact absurd HA.out (by simp [bP])
  | succ k1 =>
   have H := HA.out
   clear HA
   simp only [bP] at H
   by_cases c5 : Ab < (a0.size : Int)
   ·
    rw [if_pos c5] at H
    have Ae := decide_eq_true c5
    clear c5
    have H' := Zz.mk H
    clear H
    go_wp2
    repeat (go_quiet (fail); try go_wp2)
    go_loopg [19] k1 (fun kq v19 w' => ∃ (Aa : Int), v19 = .int .i64 Aa ∧ Zz (cl kq a0 a2 Ab (a2.size : Int) Aa = some r) ∧ Zz (kq ≤ k1) ∧ Zz (Below w.heap.size w w'))
    case atStart => exact ⟨(0), xrr, H', ⟨Nat.le_refl _⟩, ⟨xbl⟩⟩
    case round =>
     clear H'
     clear Ae
     obtain ⟨Aa, rfl, HA, HK2, HB⟩ := hrel
     cases gk with
     | zero => exact absurd HA.out (by simp [cl])
     | succ k2 =>
      have H := HA.out
      clear HA
      simp only [cl] at H
      by_cases c6 : Aa < (a2.size : Int)
      ·
       rw [if_pos c6] at H
       have Ai := decide_eq_true c6
       clear c6
       by_cases c7 : 0 ≤ Ab
       ·
        rw [if_pos c7] at H
        have Ao := decide_eq_true c7
        clear c7
        by_cases c8 : Ab < (a0.size : Int)
        ·
         rw [if_pos c8] at H
         have Ap := decide_eq_true c8
         clear c8
         by_cases c10 : 0 ≤ Aa
         ·
          rw [if_pos c10] at H
          have Am := decide_eq_true c10
          clear c10
          by_cases c11 : Aa < (a2.size : Int)
          ·
           rw [if_pos c11] at H
           have An := decide_eq_true c11
           clear c11
           by_cases c13 : (bt a0 Ab) = (bt a2 Aa)
           ·
            rw [if_pos c13] at H
            have Af : ((bt a0 Ab) == (bt a2 Aa)) = true := beq_iff_eq.mpr c13
            have Ag : ((bt a0 Ab) != (bt a2 Aa)) = false := bne_eq_false_iff_eq.mpr c13
            clear c13
            obtain rfl := Option.some.inj H
            have p9 : 0 ≤ (Ab : Int) := xod
            have q9 : Ab < (a0.size : Int) := xod
            have hx9 := ar a0 Ab
            replace p9 := eq_true p9
            replace q9 := eq_true q9
            try (have Aj := q9; simp only [ByteArray.size_extract, Nat.min_self] at Aj)
            have p12 : 0 ≤ (Aa : Int) := xod
            have q12 : Aa < (a2.size : Int) := xod
            have hx12 := ar a2 Aa
            replace p12 := eq_true p12
            replace q12 := eq_true q12
            try (have Ad := q12; simp only [ByteArray.size_extract, Nat.min_self] at Ad)
            go_wp2
            repeat (go_quiet (fail); try go_wp2)
            go_ret
            exact ⟨by first | rfl | (simp [au, av] <;> first | rfl | (simp only [bK, bne, Bool.not_not]; done)) | (simp only [← Ac]; first | rfl | (simp [au, av] <;> rfl)) | (simp [*, au, av] <;> rfl), xbl⟩
           ·
            rw [if_neg c13] at H
            have Af : ((bt a0 Ab) == (bt a2 Aa)) = false := beq_eq_false_iff_ne.mpr c13
            have Ag : ((bt a0 Ab) != (bt a2 Aa)) = true := bne_iff_ne.mpr c13
            have H' := Zz.mk H
            clear H
            have p9 : 0 ≤ (Ab : Int) := xod
            have q9 : Ab < (a0.size : Int) := xod
            have hx9 := ar a0 Ab
            replace p9 := eq_true p9
            replace q9 := eq_true q9
            try (have Aj := q9; simp only [ByteArray.size_extract, Nat.min_self] at Aj)
            have p12 : 0 ≤ (Aa : Int) := xod
            have q12 : Aa < (a2.size : Int) := xod
            have hx12 := ar a2 Aa
            replace p12 := eq_true p12
            replace q12 := eq_true q12
            try (have Ad := q12; simp only [ByteArray.size_extract, Nat.min_self] at Ad)
            go_wp2
            repeat (go_quiet (fail); try go_wp2)
            go_roundg k2
            case measure => have := HK1.out; have := HK2.out; omega
            case rel => exact ⟨(wrap64 (Aa + 1)), xrr, H', ⟨by have := HK1.out; have := HK2.out; omega⟩, ⟨xbl⟩⟩
          ·
           rw [if_neg c11] at H
           exact absurd H (by simp)
         ·
          rw [if_neg c10] at H
          exact absurd H (by simp)
        ·
         rw [if_neg c8] at H
         exact absurd H (by simp)
       ·
        rw [if_neg c7] at H
        exact absurd H (by simp)
      ·
       rw [if_neg c6] at H
       have Ai := decide_eq_false c6
       clear c6
       have H' := Zz.mk H
       clear H
       go_wp2
       repeat (go_quiet (fail); try go_wp2)
       go_roundg k2
       case measure => have := HK1.out; have := HK2.out; omega
       case rel => exact ⟨(wrap64 (Ab + 1)), xrr, H', ⟨by have := HK1.out; have := HK2.out; omega⟩, ⟨xbl⟩⟩
   ·
    rw [if_neg c5] at H
    have Ae := decide_eq_false c5
    clear c5
    obtain rfl := Option.some.inj H
    go_wp2
    repeat (go_quiet (fail); try go_wp2)
    go_ret
    exact ⟨by first | rfl | (simp [au, av] <;> first | rfl | (simp only [bK, bne, Bool.not_not]; done)) | (simp only [← Ac]; first | rfl | (simp [au, av] <;> rfl)) | (simp [*, au, av] <;> rfl), xbl⟩
def cw (k : Nat) (a0 : Int) (a1 : Int) : Option (Bool) := (dd a0).bind fun bt116 => (if bt116.2 = true then ((dl k a1 15).bind fun t118 => (if t118 = true then (some true) else ((b9 k bt116.1 0 (strOfNums (([a1] : List Int)))).bind fun t122 => (some (decide (t122 ≥ 0)))))) else (some false))
theorem eL : ∀ a0 a1 k, LeO (cw k a0 a1) (cw (k + 1) a0 a1) := by
  intro a0 a1 k
  have m0 := @fb; have m1 := @ea
  unfold cw
  exact xmo
theorem iA (k : Nat) (a0 : Int) (a1 : Int) (r : Bool) (w : World) (h : cw k a0 a1 = some r) :
    Calls Tryd.prog 77 #[.int .i64 a0, .int .u8 a1] w fun e w' => e = .returned (.bool r) ∧ Below w.heap.size w w' := by
 have HB := Zz.mk (Below.refl w.heap.size w)
 have H : ((dd a0).bind fun Ae => (if Ae.2 = true then ((dl k a1 15).bind fun Ag => (if Ag = true then (some true) else ((b9 k Ae.1 0 (strOfNums (([a1] : List Int)))).bind fun Ab => (some (decide (Ab ≥ 0)))))) else (some false))) = some r := h
 clear h
 replace H := Option.bind_eq_some_iff.mp H
 obtain ⟨⟨Ac, Ai⟩, A30, H⟩ := H
 try dsimp only at H
 have A3 := Zz.mk A30
 clear A30
 by_cases c4 : Ai = true
 ·
  subst c4
  rw [if_pos rfl] at H
  replace H := Option.bind_eq_some_iff.mp H
  obtain ⟨Ag, A50, H⟩ := H
  try dsimp only at H
  have A5 := Zz.mk A50
  clear A50
  by_cases c6 : Ag = true
  ·
   subst c6
   rw [if_pos rfl] at H
   obtain rfl := Option.some.inj H
   go_enter Tryd.func77, Tryd.ntmps77
   go_wp2_with (first | ((with_reducible refine ae (f := 55) rfl ?_); refine xgl 9 Tryd.func55 #[.int .i64 a0] ?_; (with_reducible refine (bO a0 Ac true _ A3.out).mono ?_); rintro e w' ⟨rfl, ⟨nd, rfl⟩⟩; refine ⟨_, rfl, ?_⟩) | ((with_reducible refine ae (f := 47) rfl ?_); refine xgl 15 Tryd.func47 #[.int .u8 a1, .int .i64 15] ?_; (with_reducible refine (cy k a1 15 true _ A5.out).mono ?_); rintro e w' ⟨rfl, ⟨nd, rfl⟩⟩; refine ⟨_, rfl, ?_⟩))
   go_ret
   exact ⟨xre, xbl⟩
  ·
   replace c6 := Bool.eq_false_iff.mpr c6
   subst c6
   rw [if_neg (show ¬ (false = true) by decide)] at H
   obtain ⟨Ah, Aa⟩ : ∃ y_ : List Int, y_ = (([a1] : List Int)) := ⟨_, rfl⟩
   replace H : ((b9 k Ac 0 (strOfNums Ah)).bind fun Ab => (some (decide (Ab ≥ 0)))) = some r := by first | (rw [Aa]; with_reducible exact H) | (have H2_ := (Option.bind_some _ _).symm.trans H; rw [Aa]; with_reducible exact H2_) | (have H2_ := (Option.bind_some _ _).symm.trans H; with_reducible exact H2_) | with_reducible exact H | (rw [Aa]; exact H) | exact H
   have Af := Zz.mk Aa
   clear Aa
   replace H := Option.bind_eq_some_iff.mp H
   obtain ⟨Ab, A70, H⟩ := H
   try dsimp only at H
   have A7 := Zz.mk A70
   clear A70
   obtain rfl := Option.some.inj H
   go_enter Tryd.func77, Tryd.ntmps77
   go_wp2_with (first | ((with_reducible refine ae (f := 55) rfl ?_); refine xgl 9 Tryd.func55 #[.int .i64 a0] ?_; (with_reducible refine (bO a0 Ac true _ A3.out).mono ?_); rintro e w' ⟨rfl, ⟨nd, rfl⟩⟩; refine ⟨_, rfl, ?_⟩) | ((with_reducible refine ae (f := 47) rfl ?_); refine xgl 15 Tryd.func47 #[.int .u8 a1, .int .i64 15] ?_; (with_reducible refine (cy k a1 15 false _ A5.out).mono ?_); rintro e w' ⟨rfl, ⟨nd, rfl⟩⟩; refine ⟨_, rfl, ?_⟩) | ((with_reducible refine an (N := 19) rfl ?_); (try (refine cF (by rfl) ?_; dsimp only)); refine Kd.R_lit (Kd.int .u8) _ 5 ?hg (N := 19) ?hd (xs := ([a1] : List Int)) (inner := [.int .u8 a1]) (ok := fun _ => True) (okp := fun _ => True) ?hr ?hp (fun _ hk => hk) trivial (Below.refl _ _) (Nat.le_refl _) (by simp) ?_; (case hd => rfl); (case hg => rfl); (case hr => first | (go_simp; done) | (go_simp; rfl)); (case hp => exact (Reps.one (show Kd.M (Kd.int .u8) _ _ _ a1 [.int .u8 a1] from rfl) (Reps.none _ _))); intro v120 w8 ho9 hb hg_ hnew_; clear hg_ hnew_; (first | rw [← Af.out] at ho9 | (simp only [Int.reduceToNat] at ho9; rw [← Af.out] at ho9)); have Ad := Zz.mk (Kd.R_lower ho9 (aK xbl)); replace HB := xst hb; clear hb ho9; have hcv10 := ew (P := Tryd.prog) Tryd.underlying60 Tryd.underlying5 Tryd.underlying9 (Kd.own_of_R Ad.out)) | (go_at_call 63; (with_reducible refine (d7 k Ac 0 (strOfNums Ah) Ab _ A7.out).mono ?_); rintro e w11 ⟨rfl, hb⟩; replace Ad := Zz.mk (Kd.R_below (xkd Ad) hb); replace HB := xst hb; (try clear hb)))
   go_ret
   exact ⟨xre, xbl⟩
 ·
  replace c4 := Bool.eq_false_iff.mpr c4
  subst c4
  rw [if_neg (show ¬ (false = true) by decide)] at H
  obtain rfl := Option.some.inj H
  go_enter Tryd.func77, Tryd.ntmps77
  go_wp2_with (first | ((with_reducible refine ae (f := 55) rfl ?_); refine xgl 9 Tryd.func55 #[.int .i64 a0] ?_; (with_reducible refine (bO a0 Ac false _ A3.out).mono ?_); rintro e w' ⟨rfl, ⟨nd, rfl⟩⟩; refine ⟨_, rfl, ?_⟩))
  go_ret
  exact ⟨xre, xbl⟩
end Go.Proofs.YtmofhijbheimmaaDoor.X
