/- Texts that the law's proof needs, joined by a program of this session. -/
import Derived.Test.YticohlbfolnmpaaDoorZIpShort1
set_option maxHeartbeats 8000000
set_option maxRecDepth 100000
set_option linter.unusedSimpArgs false
set_option linter.unusedVariables false
namespace Go.Proofs.YticohlbfolnmpaaDoor.X
open Go.RowKit Go.Proofs.YticohlbfolnmpaaDoorW.PrintWords Go.Proofs.YticohlbfolnmpaaDoorW.PrintLast Go.Proofs.YticohlbfolnmpaaDoorW.PrintMore
attribute [local go_sem] bA bn cl dg dO cA dh cu cw cY cZ ci cj cv cx
mutual
def aG : Nat → ByteArray → Bool → Option (Int × Bool)
  | 0, _, _ => none
  | k + 1, x0, x23 => if x23 = true then (some (0, false)) else (a8 k x0 0 (x0.size : Int) 0)
def a8 : Nat → ByteArray → Int → Int → Int → Option (Int × Bool)
  | 0, _, _, _, _ => none
  | k + 1, x0, x4, x25, x26 => if x26 < x25 then (if 0 ≤ x26 then (if x26 < (x0.size : Int) then ((ce k (bt x0 x26) 2).bind fun t108 => (if t108 = true then (a8 k x0 (wrap64 ((wrap64 (10 * x4)) + (((bt x0 x26) - 48) % 256))) x25 (wrap64 (x26 + 1))) else (some (0, false)))) else (none)) else (none)) else (some ((x4) % 256, decide (x4 ≤ 255)))
end
def bW (k : Nat) (a0 : ByteArray) : Option (Int × Bool) := if (a0.size : Int) = 0 then (aG k a0 true) else (if (a0.size : Int) > 3 then (aG k a0 true) else (if (a0.size : Int) > 1 then (if 0 < (a0.size : Int) then (aG k a0 ((bt a0 0) == 48)) else (none)) else (aG k a0 false)))
theorem eQ : ∀ k, (∀ y0 y1, LeO (aG k y0 y1) (aG (k + 1) y0 y1)) ∧ (∀ y0 y1 y2 y3, LeO (a8 k y0 y1 y2 y3) (a8 (k + 1) y0 y1 y2 y3))
  | 0 => ⟨fun _ _ r h => by simp [aG] at h, fun _ _ _ _ r h => by simp [a8] at h⟩
  | k + 1 => by
    obtain ⟨ih0, ih1⟩ := eQ k
    have m0 := @cn
    refine ⟨?_, ?_⟩
    · intro y0 y1
      unfold aG
      exact xmo
    · intro y0 y1 y2 y3
      unfold a8
      exact xmo
theorem fo : ∀ a0 k, LeO (bW k a0) (bW (k + 1) a0) := by
  intro a0 k
  obtain ⟨ih0, ih1⟩ := eQ k
  have m0 := @cn
  unfold bW
  exact xmo
theorem ct (k : Nat) (a0 : ByteArray) (r1 : Int) (r2 : Bool) (w : World) (h : bW k a0 = some (r1, r2)) :
    Calls Tryd.prog 21 #[.string a0] w fun e w' => e = .returned (.tuple #[.int .u8 r1, .bool r2]) ∧ Drawn0 w w' := by
 have H : (if (a0.size : Int) = 0 then (aG k a0 true) else (if (a0.size : Int) > 3 then (aG k a0 true) else (if (a0.size : Int) > 1 then (if 0 < (a0.size : Int) then (aG k a0 ((bt a0 0) == 48)) else (none)) else (aG k a0 false)))) = some (r1, r2) := h
 clear h
 have Af := Zz.mk H
 clear H
 go_enter Tryd.func21, Tryd.ntmps21
 go_upto_region 1 with (fail)
 go_cut [23] (fun v23 wc => ∃ (kq : Nat) (Ab : Bool), v23 = .bool Ab ∧ Zz (aG kq a0 Ab = some (r1, r2)) ∧ Zz (kq ≤ k) ∧ Drawn0 w wc)
 case first =>
  have H := Af.out
  clear Af
  by_cases c3 : (a0.size : Int) = 0
  ·
   rw [if_pos c3] at H
   have Ac : ((a0.size : Int) == 0) = true := beq_iff_eq.mpr c3
   have Ag : ((a0.size : Int) != 0) = false := bne_eq_false_iff_eq.mpr c3
   clear c3
   (first | rw [Ac] | (simp only [aC, aI]; rw [Ac]) | (rw [Ah]; (try simp only [Bool.not_false, Bool.not_true])) | (rw [Ai]; (try simp only [Bool.not_false, Bool.not_true])) | skip)
   have H' := Zz.mk H
   clear H
   go_wp2
   go_meet
   case rel => exact ⟨_, (true), xrr, H', ⟨xom⟩, xdr⟩
  ·
   rw [if_neg c3] at H
   have Ac : ((a0.size : Int) == 0) = false := beq_eq_false_iff_ne.mpr c3
   have Ag : ((a0.size : Int) != 0) = true := bne_iff_ne.mpr c3
   (first | rw [Ac] | (simp only [aC, aI]; rw [Ac]) | (rw [Ah]; (try simp only [Bool.not_false, Bool.not_true])) | (rw [Ai]; (try simp only [Bool.not_false, Bool.not_true])) | skip)
   by_cases c4 : (a0.size : Int) > 3
   ·
    rw [if_pos c4] at H
    have Aj := decide_eq_true c4
    have Ak : decide (3 < a0.size) = true := decide_eq_true (by omega)
    clear c4
    have H' := Zz.mk H
    clear H
    go_wp2
    go_meet
    case rel => exact ⟨_, (true), xrr, H', ⟨xom⟩, xdr⟩
   ·
    rw [if_neg c4] at H
    have Aj := decide_eq_false c4
    have Ak : decide (3 < a0.size) = false := decide_eq_false (by omega)
    clear c4
    by_cases c5 : (a0.size : Int) > 1
    ·
     rw [if_pos c5] at H
     have Al := decide_eq_true c5
     have Am : decide (1 < a0.size) = true := decide_eq_true (by omega)
     clear c5
     by_cases c6 : 0 < (a0.size : Int)
     ·
      rw [if_pos c6] at H
      have Ar := decide_eq_true c6
      have As : decide (0 < a0.size) = true := decide_eq_true (by omega)
      clear c6
      have H' := Zz.mk H
      clear H
      have p7 : 0 ≤ (0 : Int) := (by omega)
      have q7 : 0 < a0.size := (by have : (0 : Int) < (a0.size : Int) := xod; omega)
      have hx7 : ∀ h : 0 < a0.size, ((a0[0]'h).toNat : Int) = bt a0 0 := ax a0 0
      clear p7
      have Au : (0 < (a0.size : Int)) = True := eq_true (xod)
      replace q7 := eq_true q7
      try (have At := q7; simp only [ByteArray.size_extract, Nat.min_self] at At)
      go_wp2
      go_meet
      case rel => exact ⟨_, (((bt a0 0) == 48)), xrr, H', ⟨xom⟩, xdr⟩
     ·
      rw [if_neg c6] at H
      exact absurd H (by simp)
    ·
     rw [if_neg c5] at H
     have Al := decide_eq_false c5
     have Am : decide (1 < a0.size) = false := decide_eq_false (by omega)
     clear c5
     have H' := Zz.mk H
     clear H
     go_wp2
     go_meet
     case rel => exact ⟨_, (false), xrr, H', ⟨xom⟩, xdr⟩
 case rest =>
  clear Af
  obtain ⟨kq, Ab, rfl, HA, HJ1, ⟨mc1, rfl⟩⟩ := hcut
  cases kq with
  | zero => exact absurd HA.out (by simp [aG])
  | succ kj1 =>
   have H := HA.out
   clear HA
   simp only [aG] at H
   by_cases c8 : Ab = true
   ·
    subst c8
    rw [if_pos rfl] at H
    simp only [Option.some.injEq, Prod.mk.injEq] at H
    obtain ⟨rfl, rfl⟩ := H
    go_wp2
    go_ret2
    exact ⟨xrr, xdr⟩
   ·
    replace c8 := Bool.eq_false_iff.mpr c8
    subst c8
    rw [if_neg (show ¬ (false = true) by decide)] at H
    have H' := Zz.mk H
    clear H
    go_wp2
    go_loopg [4, 26] kj1 (fun kq v4 v26 w' => ∃ (Ad : Int) (Aa : Int), v4 = .int .i64 Ad ∧ v26 = .int .i64 Aa ∧ Zz (a8 kq a0 Ad (a0.size : Int) Aa = some (r1, r2)) ∧ Zz (kq ≤ kj1) ∧ Drawn0 w w')
    case atStart => exact ⟨(0), (0), xrr, xrr, H', ⟨Nat.le_refl _⟩, xdr⟩
    case round =>
     clear H'
     obtain ⟨Ad, Aa, rfl, rfl, HA, HK2, ⟨m2, rfl⟩⟩ := hrel
     cases gk with
     | zero => exact absurd HA.out (by simp [a8])
     | succ k2 =>
      have H := HA.out
      clear HA
      simp only [a8] at H
      by_cases c9 : Aa < (a0.size : Int)
      ·
       rw [if_pos c9] at H
       have An := decide_eq_true c9
       clear c9
       by_cases c10 : 0 ≤ Aa
       ·
        rw [if_pos c10] at H
        have Ap := decide_eq_true c10
        clear c10
        by_cases c11 : Aa < (a0.size : Int)
        ·
         rw [if_pos c11] at H
         have Aq := decide_eq_true c11
         clear c11
         replace H := Option.bind_eq_some_iff.mp H
         obtain ⟨Ao, A130, H⟩ := H
         try dsimp only at H
         have A13 := Zz.mk A130
         clear A130
         by_cases c14 : Ao = true
         ·
          subst c14
          rw [if_pos rfl] at H
          have H' := Zz.mk H
          clear H
          have p12 : 0 ≤ (Aa : Int) := xod
          have q12 : Aa < (a0.size : Int) := xod
          have hx12 := ax a0 Aa
          replace p12 := eq_true p12
          replace q12 := eq_true q12
          try (have Ae := q12; simp only [ByteArray.size_extract, Nat.min_self] at Ae)
          go_wp2_with (first | ((with_reducible refine ae (f := 40) rfl ?_); refine xgl 32 Tryd.func40 #[.int .u8 (bt a0 Aa), .int .i64 2] ?_; (with_reducible refine (bS k2 (bt a0 Aa) 2 true _ A13.out).mono ?_); rintro e w' ⟨rfl, ⟨nd, rfl⟩⟩; refine ⟨_, rfl, ?_⟩; have p15 : 0 ≤ (Aa : Int) := xod; have q15 : Aa < (a0.size : Int) := xod; have hx15 := ax a0 Aa; replace p15 := eq_true p15; replace q15 := eq_true q15))
          go_roundg k2
          case measure => have := HJ1.out; have := HK2.out; omega
          case rel => exact ⟨(wrap64 ((wrap64 (10 * Ad)) + (((bt a0 Aa) - 48) % 256))), (wrap64 (Aa + 1)), xrr, xrr, H', ⟨by have := HJ1.out; have := HK2.out; omega⟩, xdr⟩
         ·
          replace c14 := Bool.eq_false_iff.mpr c14
          subst c14
          rw [if_neg (show ¬ (false = true) by decide)] at H
          simp only [Option.some.injEq, Prod.mk.injEq] at H
          obtain ⟨rfl, rfl⟩ := H
          have p12 : 0 ≤ (Aa : Int) := xod
          have q12 : Aa < (a0.size : Int) := xod
          have hx12 := ax a0 Aa
          replace p12 := eq_true p12
          replace q12 := eq_true q12
          try (have Ae := q12; simp only [ByteArray.size_extract, Nat.min_self] at Ae)
          go_wp2_with (first | ((with_reducible refine ae (f := 40) rfl ?_); refine xgl 32 Tryd.func40 #[.int .u8 (bt a0 Aa), .int .i64 2] ?_; (with_reducible refine (bS k2 (bt a0 Aa) 2 false _ A13.out).mono ?_); rintro e w' ⟨rfl, ⟨nd, rfl⟩⟩; refine ⟨_, rfl, ?_⟩))
          go_ret2
          exact ⟨xrr, xdr⟩
        ·
         rw [if_neg c11] at H
         exact absurd H (by simp)
       ·
        rw [if_neg c10] at H
        exact absurd H (by simp)
      ·
       rw [if_neg c9] at H
       have An := decide_eq_false c9
       clear c9
       simp only [Option.some.injEq, Prod.mk.injEq] at H
       obtain ⟨rfl, rfl⟩ := H
       go_wp2
       go_ret2
       exact ⟨xrr, xdr⟩
def bv : Nat → List ByteArray → Int → Int → Int → Int → Int → Int → Option (Int × Int × Int × Int × Bool)
  | 0, _, _, _, _, _, _, _ => none
  | k + 1, Ag, Ah, Af, Aa, Ab, Ac, Ad => if Af < Ah then (if 0 ≤ Af then (if Af < (Ag.length : Int) then ((bW k (bH ByteArray.empty Ag Af)).bind fun Ae => (if Ae.2 = true then (if Af = 0 then (bv k Ag Ah (wrap64 (Af + 1)) Ae.1 Ab Ac Ad) else (if Af = 1 then (bv k Ag Ah (wrap64 (Af + 1)) Aa Ae.1 Ac Ad) else (if Af = 2 then (bv k Ag Ah (wrap64 (Af + 1)) Aa Ab Ae.1 Ad) else (if Af = 3 then (bv k Ag Ah (wrap64 (Af + 1)) Aa Ab Ac Ae.1) else (none))))) else (some (0, 0, 0, 0, false)))) else (none)) else (none)) else (some (Aa, Ab, Ac, Ad, true))
def d2 (k : Nat) (a0 : ByteArray) : Option (Int × Int × Int × Int × Bool) := (bM a0 (⟨#[46]⟩ : ByteArray)).bind fun t111 => (if (t111.length : Int) = 4 then (bv k t111 (t111.length : Int) 0 0 0 0 0) else (some (0, 0, 0, 0, false)))
theorem gp : ∀ k, (∀ y0 y1 y2 y3 y4 y5 y6, LeO (bv k y0 y1 y2 y3 y4 y5 y6) (bv (k + 1) y0 y1 y2 y3 y4 y5 y6))
  | 0 => fun _ _ _ _ _ _ _ r h => by simp [bv] at h
  | k + 1 => by
    have ih0 := gp k
    have m0 := @fo
    · intro y0 y1 y2 y3 y4 y5 y6
      unfold bv
      exact xmo
theorem eZ : ∀ a0 k, LeO (d2 k a0) (d2 (k + 1) a0) := by
  intro a0 k
  have ih0 := gp k
  have m0 := @fo
  unfold d2
  exact xmo
theorem eB (k : Nat) (a0 : ByteArray) (r1 : Int) (r2 : Int) (r3 : Int) (r4 : Int) (r5 : Bool) (w : World) (hG : GW w) (h : d2 k a0 = some (r1, r2, r3, r4, r5)) :
    Calls Tryd.prog 8 #[.string a0] w fun e w' => e = .returned (.tuple #[.agg #[.int .u8 r1, .int .u8 r2, .int .u8 r3, .int .u8 r4], .bool r5]) ∧ Below w.heap.size w w' := by
 have hu23 := Tryd.underlying23
 have HB := Zz.mk (Below.refl w.heap.size w)
 have H : ((bM a0 (⟨#[46]⟩ : ByteArray)).bind fun Ag => (if (Ag.length : Int) = 4 then (bv k Ag (Ag.length : Int) 0 0 0 0 0) else (some (0, 0, 0, 0, false)))) = some (r1, r2, r3, r4, r5) := h
 clear h
 replace H := Option.bind_eq_some_iff.mp H
 obtain ⟨Ag, A20, H⟩ := H
 try dsimp only at H
 have A2 := Zz.mk A20
 clear A20
 by_cases c3 : (Ag.length : Int) = 4
 ·
  rw [if_pos c3] at H
  have Az : ((Ag.length : Int) == 4) = true := beq_iff_eq.mpr c3
  have AA : ((Ag.length : Int) != 4) = false := bne_eq_false_iff_eq.mpr c3
  clear c3
  have H' := Zz.mk H
  clear H
  go_enter Tryd.func8, Tryd.ntmps8
  go_wp2_with (first | ((with_reducible refine ay (N := 2) rfl ?_); refine xev 2 #[.int .u8 0, .int .u8 0, .int .u8 0, .int .u8 0] 23 ?_; intro Ap hg w4 hbox hb; have Af := Zz.mk (hbox); have Aw := xsz hg; have AB := Aw; replace HB := xst hb; clear hb hbox hg) | ((with_reducible refine ay (N := 4) rfl ?_); refine xev 4 #[.int .u8 0, .int .u8 0, .int .u8 0, .int .u8 0] 23 ?_; intro Ar hg w5 hbox hb; have Aa := Zz.mk (hbox); have Ax := xsz hg; have AC := Ax; have Ah := xlt (g := Ap) hg; have Ao := xgt (g := Ap) hg; replace Af := xbb (g := Ap) (o := .cells #[.int .u8 0, .int .u8 0, .int .u8 0, .int .u8 0] 23 (0, 0)) hb; replace HB := xst hb; clear hb hbox hg) | ((with_reducible refine ae (f := 20) rfl ?_); refine xgl 11 Tryd.func20 #[.string a0, .string (⟨#[46]⟩ : ByteArray)] ?_; (with_reducible refine (dB a0 (⟨#[46]⟩ : ByteArray) Ag _ ?side1 A2.out).mono ?_); (case side1 => first | (with_reducible exact hG) | exact aJ hG xbl); rintro e w6 ⟨v112, rfl, ho0, hb⟩; refine ⟨_, rfl, ?_⟩; have Av := Zz.mk (Kd.R_lower ho0 (co xbl)); replace Af := xbb (g := Ap) (o := .cells #[.int .u8 0, .int .u8 0, .int .u8 0, .int .u8 0] 23 (0, 0)) hb; replace Aa := xbb (g := Ar) (o := .cells #[.int .u8 0, .int .u8 0, .int .u8 0, .int .u8 0] 23 (0, 0)) hb; replace HB := xst hb; (try clear hb); (try clear ho0); obtain ⟨Ao7, co7, eo7⟩ := Kd.R_slice Av.out; subst eo7))
  go_loopg [18] k (fun kq v18 w' => ∃ (Aq : Int) (Ai : Int) (Aj : Int) (Ak : Int) (Al : Int) (Ab : Int) (Ac : Int) (Ad : Int) (Ae : Int), v18 = .int .i64 Aq ∧ Zz (bv kq Ag (Ag.length : Int) Aq Ab Ac Ad Ae = some (r1, r2, r3, r4, r5)) ∧ Zz (kq ≤ k) ∧ Zz (Kd.R Kd.string 9 w' w.heap.size (fun _ => True) (.slice Ao7 Ag.length co7) Ag) ∧ Zz (w'.heap[Ap]? = some (.cells #[.int .u8 Ai, .int .u8 Aj, .int .u8 Ak, .int .u8 Al] 23 (0, 0))) ∧ Zz (w'.heap[Ar]? = some (.cells #[.int .u8 Ab, .int .u8 Ac, .int .u8 Ad, .int .u8 Ae] 23 (0, 0))) ∧ Zz (Below w.heap.size w w'))
  case atStart => exact ⟨(0), (0), (0), (0), (0), (0), (0), (0), (0), xrr, H', ⟨Nat.le_refl _⟩, ⟨xkd Av⟩, ⟨xbk⟩, ⟨xbk⟩, ⟨xbl⟩⟩
  case round =>
   clear H'
   clear Az AA
   obtain ⟨Aq, Ai, Aj, Ak, Al, Ab, Ac, Ad, Ae, rfl, HA, HK1, Am, Af, Aa, HB⟩ := hrel
   cases gk with
   | zero => exact absurd HA.out (by simp [bv])
   | succ k1 =>
    have H := HA.out
    clear HA
    simp only [bv] at H
    by_cases c8 : Aq < (Ag.length : Int)
    ·
     rw [if_pos c8] at H
     have AD := decide_eq_true c8
     clear c8
     by_cases c9 : 0 ≤ Aq
     ·
      rw [if_pos c9] at H
      have AU := decide_eq_true c9
      clear c9
      by_cases c10 : Aq < (Ag.length : Int)
      ·
       rw [if_pos c10] at H
       have AF := decide_eq_true c10
       clear c10
       replace H := Option.bind_eq_some_iff.mp H
       obtain ⟨⟨Au, AE⟩, A110, H⟩ := H
       try dsimp only at H
       have A11 := Zz.mk A110
       clear A110
       by_cases c12 : AE = true
       ·
        subst c12
        rw [if_pos rfl] at H
        by_cases c13 : Aq = 0
        ·
         subst c13
         rw [if_pos rfl] at H
         have H' := Zz.mk H
         clear H
         have p114 : 0 ≤ (0 : Int) := (by omega)
         have q114 : 0 < (Ag.length : Int) := xod
         obtain ⟨As, e114, An⟩ := Kd.at_string (Kd.R_reads' Am.out).2.2 0 p114 q114
         cases e114
         have Ay : (0 < Ag.length) = True := eq_true (by omega)
         (try rw [show ((0 : Int)).toNat = 0 from rfl] at An)
         (try rw [Addr.add_zero'] at An)
         replace p114 := eq_true p114
         replace q114 := eq_true q114
         try (have At := q114; simp only [ByteArray.size_extract, Nat.min_self] at At)
         go_wp2_with (first | ((with_reducible refine ae (f := 21) rfl ?_); refine xgl 25 Tryd.func21 #[.string (bH ByteArray.empty Ag 0)] ?_; (with_reducible refine (ct k1 (bH ByteArray.empty Ag 0) Au true _ A11.out).mono ?_); rintro e w' ⟨rfl, ⟨nd, rfl⟩⟩; refine ⟨_, rfl, ?_⟩; (try (rw [ee wr]; generalize hq_ : World.drewN wr _ = wr; have n0_ : Zz (Kd.R Kd.string 9 wr w.heap.size (fun _ => True) (.slice (some As) Ag.length co7) Ag) := ⟨by rw [← hq_]; exact (xkd Am)⟩; have n1_ : Zz (wr.heap[Ap]? = some (.cells #[.int .u8 Ai, .int .u8 Aj, .int .u8 Ak, .int .u8 Al] 23 (0, 0))) := ⟨by rw [← hq_]; exact xbk⟩; have n2_ : Zz (wr.heap[Ar]? = some (.cells #[.int .u8 Ab, .int .u8 Ac, .int .u8 Ad, .int .u8 Ae] 23 (0, 0))) := ⟨by rw [← hq_]; exact xbk⟩; have n3_ : Zz (Below w.heap.size w wr) := ⟨by rw [← hq_]; exact xbl⟩; clear Am Af Aa HB hq_; have Am := n0_; have Af := n1_; have Aa := n2_; have HB := n3_; clear n0_ n1_ n2_ n3_)); have AG := Ao.out; have AH := Ah.out; obtain ⟨hcz15_0, hcz15_1, hcz15_2, hcz15_3⟩ := xc4 Aa; have hfz15_0 := xf Aa 0; have hfz15_1 := xf Aa 1; have hfz15_2 := xf Aa 2; have hfz15_3 := xf Aa 3))
         go_roundg k1
         case measure => have := HK1.out; omega
         case rel => exact ⟨(wrap64 (0 + 1)), (Ai), (Aj), (Ak), (Al), (Au), (Ac), (Ad), (Ae), xrr, H', ⟨by have := HK1.out; omega⟩, ⟨by (with_reducible repeat (first | apply Kd.R_alloc | apply Kd.R_drewN | apply Kd.R_drew)); exact Kd.R_mono (Kd.R_far (p := ⟨Ar, 0, none⟩) (Kd.R_types Am.out Aa.out (by decide)) (fun _ hk => hk.2) (.int .u8 Au)) (fun _ hk => trivial)⟩, ⟨by (with_reducible repeat (first | refine ai ?_ _ | refine aj ?_ | refine ah ?_ _)); refine cC ?_ Ah.out _; (with_reducible repeat (first | refine ai ?_ _ | refine aj ?_ | refine ah ?_ _)); exact Af.out⟩, ⟨by (with_reducible repeat (first | refine ai ?_ _ | refine aj ?_ | refine ah ?_ _)); refine ag (cs := #[.int .u8 Ab, .int .u8 Ac, .int .u8 Ad, .int .u8 Ae]) ?_ 0 _ rfl; (with_reducible repeat (first | refine ai ?_ _ | refine aj ?_ | refine ah ?_ _)); exact Aa.out⟩, ⟨xbl⟩⟩
        ·
         rw [if_neg c13] at H
         clear c13
         by_cases c16 : Aq = 1
         ·
          subst c16
          rw [if_pos rfl] at H
          have H' := Zz.mk H
          clear H
          have p114 : 0 ≤ (1 : Int) := (by omega)
          have q114 : 1 < (Ag.length : Int) := xod
          obtain ⟨As, e114, An⟩ := Kd.at_string (Kd.R_reads' Am.out).2.2 1 p114 q114
          cases e114
          (try simp only [show (1 : Int).toNat = 1 from rfl, Nat.reduceMul, Nat.reduceEqDiff, Go.Addr.add, ↓reduceIte] at An)
          have Ay : (1 < Ag.length) = True := eq_true (by omega)
          (try rw [show ((1 : Int)).toNat = 1 from rfl] at An)
          replace p114 := eq_true p114
          replace q114 := eq_true q114
          try (have At := q114; simp only [ByteArray.size_extract, Nat.min_self] at At)
          go_wp2_with (first | ((with_reducible refine ae (f := 21) rfl ?_); refine xgl 25 Tryd.func21 #[.string (bH ByteArray.empty Ag 1)] ?_; (with_reducible refine (ct k1 (bH ByteArray.empty Ag 1) Au true _ A11.out).mono ?_); rintro e w' ⟨rfl, ⟨nd, rfl⟩⟩; refine ⟨_, rfl, ?_⟩; (try (rw [ee wr]; generalize hq_ : World.drewN wr _ = wr; have n0_ : Zz (Kd.R Kd.string 9 wr w.heap.size (fun _ => True) (.slice (some As) Ag.length co7) Ag) := ⟨by rw [← hq_]; exact (xkd Am)⟩; have n1_ : Zz (wr.heap[Ap]? = some (.cells #[.int .u8 Ai, .int .u8 Aj, .int .u8 Ak, .int .u8 Al] 23 (0, 0))) := ⟨by rw [← hq_]; exact xbk⟩; have n2_ : Zz (wr.heap[Ar]? = some (.cells #[.int .u8 Ab, .int .u8 Ac, .int .u8 Ad, .int .u8 Ae] 23 (0, 0))) := ⟨by rw [← hq_]; exact xbk⟩; have n3_ : Zz (Below w.heap.size w wr) := ⟨by rw [← hq_]; exact xbl⟩; clear Am Af Aa HB hq_; have Am := n0_; have Af := n1_; have Aa := n2_; have HB := n3_; clear n0_ n1_ n2_ n3_)); have AI := Ao.out; have AJ := Ah.out; obtain ⟨hcz18_0, hcz18_1, hcz18_2, hcz18_3⟩ := xc4 Aa; have hfz18_0 := xf Aa 0; have hfz18_1 := xf Aa 1; have hfz18_2 := xf Aa 2; have hfz18_3 := xf Aa 3))
          go_roundg k1
          case measure => have := HK1.out; omega
          case rel => exact ⟨(wrap64 (1 + 1)), (Ai), (Aj), (Ak), (Al), (Ab), (Au), (Ad), (Ae), xrr, H', ⟨by have := HK1.out; omega⟩, ⟨by (with_reducible repeat (first | apply Kd.R_alloc | apply Kd.R_drewN | apply Kd.R_drew)); exact Kd.R_mono (Kd.R_far (p := ⟨Ar, 1, none⟩) (Kd.R_types Am.out Aa.out (by decide)) (fun _ hk => hk.2) (.int .u8 Au)) (fun _ hk => trivial)⟩, ⟨by (with_reducible repeat (first | refine ai ?_ _ | refine aj ?_ | refine ah ?_ _)); refine cC ?_ Ah.out _; (with_reducible repeat (first | refine ai ?_ _ | refine aj ?_ | refine ah ?_ _)); exact Af.out⟩, ⟨by (with_reducible repeat (first | refine ai ?_ _ | refine aj ?_ | refine ah ?_ _)); refine ag (cs := #[.int .u8 Ab, .int .u8 Ac, .int .u8 Ad, .int .u8 Ae]) ?_ 1 _ rfl; (with_reducible repeat (first | refine ai ?_ _ | refine aj ?_ | refine ah ?_ _)); exact Aa.out⟩, ⟨xbl⟩⟩
         ·
          rw [if_neg c16] at H
          clear c16
          by_cases c19 : Aq = 2
          ·
           subst c19
           rw [if_pos rfl] at H
           have H' := Zz.mk H
           clear H
           have p114 : 0 ≤ (2 : Int) := (by omega)
           have q114 : 2 < (Ag.length : Int) := xod
           obtain ⟨As, e114, An⟩ := Kd.at_string (Kd.R_reads' Am.out).2.2 2 p114 q114
           cases e114
           (try simp only [show (2 : Int).toNat = 2 from rfl, Nat.reduceMul, Nat.reduceEqDiff, Go.Addr.add, ↓reduceIte] at An)
           have Ay : (2 < Ag.length) = True := eq_true (by omega)
           (try rw [show ((2 : Int)).toNat = 2 from rfl] at An)
           replace p114 := eq_true p114
           replace q114 := eq_true q114
           try (have At := q114; simp only [ByteArray.size_extract, Nat.min_self] at At)
           go_wp2_with (first | ((with_reducible refine ae (f := 21) rfl ?_); refine xgl 25 Tryd.func21 #[.string (bH ByteArray.empty Ag 2)] ?_; (with_reducible refine (ct k1 (bH ByteArray.empty Ag 2) Au true _ A11.out).mono ?_); rintro e w' ⟨rfl, ⟨nd, rfl⟩⟩; refine ⟨_, rfl, ?_⟩; (try (rw [ee wr]; generalize hq_ : World.drewN wr _ = wr; have n0_ : Zz (Kd.R Kd.string 9 wr w.heap.size (fun _ => True) (.slice (some As) Ag.length co7) Ag) := ⟨by rw [← hq_]; exact (xkd Am)⟩; have n1_ : Zz (wr.heap[Ap]? = some (.cells #[.int .u8 Ai, .int .u8 Aj, .int .u8 Ak, .int .u8 Al] 23 (0, 0))) := ⟨by rw [← hq_]; exact xbk⟩; have n2_ : Zz (wr.heap[Ar]? = some (.cells #[.int .u8 Ab, .int .u8 Ac, .int .u8 Ad, .int .u8 Ae] 23 (0, 0))) := ⟨by rw [← hq_]; exact xbk⟩; have n3_ : Zz (Below w.heap.size w wr) := ⟨by rw [← hq_]; exact xbl⟩; clear Am Af Aa HB hq_; have Am := n0_; have Af := n1_; have Aa := n2_; have HB := n3_; clear n0_ n1_ n2_ n3_)); have AK := Ao.out; have AL := Ah.out; obtain ⟨hcz21_0, hcz21_1, hcz21_2, hcz21_3⟩ := xc4 Aa; have hfz21_0 := xf Aa 0; have hfz21_1 := xf Aa 1; have hfz21_2 := xf Aa 2; have hfz21_3 := xf Aa 3))
           go_roundg k1
           case measure => have := HK1.out; omega
           case rel => exact ⟨(wrap64 (2 + 1)), (Ai), (Aj), (Ak), (Al), (Ab), (Ac), (Au), (Ae), xrr, H', ⟨by have := HK1.out; omega⟩, ⟨by (with_reducible repeat (first | apply Kd.R_alloc | apply Kd.R_drewN | apply Kd.R_drew)); exact Kd.R_mono (Kd.R_far (p := ⟨Ar, 2, none⟩) (Kd.R_types Am.out Aa.out (by decide)) (fun _ hk => hk.2) (.int .u8 Au)) (fun _ hk => trivial)⟩, ⟨by (with_reducible repeat (first | refine ai ?_ _ | refine aj ?_ | refine ah ?_ _)); refine cC ?_ Ah.out _; (with_reducible repeat (first | refine ai ?_ _ | refine aj ?_ | refine ah ?_ _)); exact Af.out⟩, ⟨by (with_reducible repeat (first | refine ai ?_ _ | refine aj ?_ | refine ah ?_ _)); refine ag (cs := #[.int .u8 Ab, .int .u8 Ac, .int .u8 Ad, .int .u8 Ae]) ?_ 2 _ rfl; (with_reducible repeat (first | refine ai ?_ _ | refine aj ?_ | refine ah ?_ _)); exact Aa.out⟩, ⟨xbl⟩⟩
          ·
           rw [if_neg c19] at H
           clear c19
           by_cases c22 : Aq = 3
           ·
            subst c22
            rw [if_pos rfl] at H
            have H' := Zz.mk H
            clear H
            have p114 : 0 ≤ (3 : Int) := (by omega)
            have q114 : 3 < (Ag.length : Int) := xod
            obtain ⟨As, e114, An⟩ := Kd.at_string (Kd.R_reads' Am.out).2.2 3 p114 q114
            cases e114
            (try simp only [show (3 : Int).toNat = 3 from rfl, Nat.reduceMul, Nat.reduceEqDiff, Go.Addr.add, ↓reduceIte] at An)
            have Ay : (3 < Ag.length) = True := eq_true (by omega)
            (try rw [show ((3 : Int)).toNat = 3 from rfl] at An)
            replace p114 := eq_true p114
            replace q114 := eq_true q114
            try (have At := q114; simp only [ByteArray.size_extract, Nat.min_self] at At)
            go_wp2_with (first | ((with_reducible refine ae (f := 21) rfl ?_); refine xgl 25 Tryd.func21 #[.string (bH ByteArray.empty Ag 3)] ?_; (with_reducible refine (ct k1 (bH ByteArray.empty Ag 3) Au true _ A11.out).mono ?_); rintro e w' ⟨rfl, ⟨nd, rfl⟩⟩; refine ⟨_, rfl, ?_⟩; (try (rw [ee wr]; generalize hq_ : World.drewN wr _ = wr; have n0_ : Zz (Kd.R Kd.string 9 wr w.heap.size (fun _ => True) (.slice (some As) Ag.length co7) Ag) := ⟨by rw [← hq_]; exact (xkd Am)⟩; have n1_ : Zz (wr.heap[Ap]? = some (.cells #[.int .u8 Ai, .int .u8 Aj, .int .u8 Ak, .int .u8 Al] 23 (0, 0))) := ⟨by rw [← hq_]; exact xbk⟩; have n2_ : Zz (wr.heap[Ar]? = some (.cells #[.int .u8 Ab, .int .u8 Ac, .int .u8 Ad, .int .u8 Ae] 23 (0, 0))) := ⟨by rw [← hq_]; exact xbk⟩; have n3_ : Zz (Below w.heap.size w wr) := ⟨by rw [← hq_]; exact xbl⟩; clear Am Af Aa HB hq_; have Am := n0_; have Af := n1_; have Aa := n2_; have HB := n3_; clear n0_ n1_ n2_ n3_)); have AM := Ao.out; have AN := Ah.out; obtain ⟨hcz24_0, hcz24_1, hcz24_2, hcz24_3⟩ := xc4 Aa; have hfz24_0 := xf Aa 0; have hfz24_1 := xf Aa 1; have hfz24_2 := xf Aa 2; have hfz24_3 := xf Aa 3))
            go_roundg k1
            case measure => have := HK1.out; omega
            case rel => exact ⟨(wrap64 (3 + 1)), (Ai), (Aj), (Ak), (Al), (Ab), (Ac), (Ad), (Au), xrr, H', ⟨by have := HK1.out; omega⟩, ⟨by (with_reducible repeat (first | apply Kd.R_alloc | apply Kd.R_drewN | apply Kd.R_drew)); exact Kd.R_mono (Kd.R_far (p := ⟨Ar, 3, none⟩) (Kd.R_types Am.out Aa.out (by decide)) (fun _ hk => hk.2) (.int .u8 Au)) (fun _ hk => trivial)⟩, ⟨by (with_reducible repeat (first | refine ai ?_ _ | refine aj ?_ | refine ah ?_ _)); refine cC ?_ Ah.out _; (with_reducible repeat (first | refine ai ?_ _ | refine aj ?_ | refine ah ?_ _)); exact Af.out⟩, ⟨by (with_reducible repeat (first | refine ai ?_ _ | refine aj ?_ | refine ah ?_ _)); refine ag (cs := #[.int .u8 Ab, .int .u8 Ac, .int .u8 Ad, .int .u8 Ae]) ?_ 3 _ rfl; (with_reducible repeat (first | refine ai ?_ _ | refine aj ?_ | refine ah ?_ _)); exact Aa.out⟩, ⟨xbl⟩⟩
           ·
            rw [if_neg c22] at H
            clear c22
            exact absurd H (by simp)
       ·
        replace c12 := Bool.eq_false_iff.mpr c12
        subst c12
        rw [if_neg (show ¬ (false = true) by decide)] at H
        simp only [Option.some.injEq, Prod.mk.injEq] at H
        obtain ⟨rfl, rfl, rfl, rfl, rfl⟩ := H
        have p114 : 0 ≤ (Aq : Int) := xod
        have q114 : Aq < (Ag.length : Int) := xod
        obtain ⟨As, e114, An⟩ := Kd.at_string (Kd.R_reads' Am.out).2.2 Aq p114 q114
        cases e114
        replace p114 := eq_true p114
        replace q114 := eq_true q114
        try (have At := q114; simp only [ByteArray.size_extract, Nat.min_self] at At)
        go_wp2_with (first | ((with_reducible refine ae (f := 21) rfl ?_); refine xgl 25 Tryd.func21 #[.string (bH ByteArray.empty Ag Aq)] ?_; (with_reducible refine (ct k1 (bH ByteArray.empty Ag Aq) Au false _ A11.out).mono ?_); rintro e w' ⟨rfl, ⟨nd, rfl⟩⟩; refine ⟨_, rfl, ?_⟩; (try (rw [ee wr]; generalize hq_ : World.drewN wr _ = wr; have n0_ : Zz (Kd.R Kd.string 9 wr w.heap.size (fun _ => True) (.slice (some As) Ag.length co7) Ag) := ⟨by rw [← hq_]; exact (xkd Am)⟩; have n1_ : Zz (wr.heap[Ap]? = some (.cells #[.int .u8 Ai, .int .u8 Aj, .int .u8 Ak, .int .u8 Al] 23 (0, 0))) := ⟨by rw [← hq_]; exact xbk⟩; have n2_ : Zz (wr.heap[Ar]? = some (.cells #[.int .u8 Ab, .int .u8 Ac, .int .u8 Ad, .int .u8 Ae] 23 (0, 0))) := ⟨by rw [← hq_]; exact xbk⟩; have n3_ : Zz (Below w.heap.size w wr) := ⟨by rw [← hq_]; exact xbl⟩; clear Am Af Aa HB hq_; have Am := n0_; have Af := n1_; have Aa := n2_; have HB := n3_; clear n0_ n1_ n2_ n3_)); have AO := Ah.out; have AP := Ao.out; obtain ⟨hcz26_0, hcz26_1, hcz26_2, hcz26_3⟩ := xc4 Af; have hfz26_0 := xf Af 0; have hfz26_1 := xf Af 1; have hfz26_2 := xf Af 2; have hfz26_3 := xf Af 3))
        refine bodyPost_ret (cf rfl _ _ Ap 23 #[.int .u8 0, .int .u8 0, .int .u8 0, .int .u8 0] (0, 0) _ rfl xbk Tryd.underlying23 rfl (by kernel_rfl)) rfl ?_
        exact ⟨xre, xbl⟩
      ·
       rw [if_neg c10] at H
       exact absurd H (by simp)
     ·
      rw [if_neg c9] at H
      exact absurd H (by simp)
    ·
     rw [if_neg c8] at H
     have AD := decide_eq_false c8
     clear c8
     simp only [Option.some.injEq, Prod.mk.injEq] at H
     obtain ⟨rfl, rfl, rfl, rfl, rfl⟩ := H
     have AQ := Ao.out
     have AR := Ah.out
     obtain ⟨hcz28_0, hcz28_1, hcz28_2, hcz28_3⟩ := xc4 Aa
     have hfz28_0 := xf Aa 0
     have hfz28_1 := xf Aa 1
     have hfz28_2 := xf Aa 2
     have hfz28_3 := xf Aa 3
     obtain ⟨hcz29_0, hcz29_1, hcz29_2, hcz29_3⟩ := xc4 Af
     have hfz29_0 := xf Af 0
     have hfz29_1 := xf Af 1
     have hfz29_2 := xf Af 2
     have hfz29_3 := xf Af 3
     go_wp2
     refine bodyPost_ret (cf rfl _ _ Ap 23 #[.int .u8 Ab, .int .u8 Ac, .int .u8 Ad, .int .u8 Ae] (0, 0) _ rfl xbk Tryd.underlying23 rfl (by kernel_rfl)) rfl ?_
     exact ⟨xre, xbl⟩
 ·
  rw [if_neg c3] at H
  have Az : ((Ag.length : Int) == 4) = false := beq_eq_false_iff_ne.mpr c3
  have AA : ((Ag.length : Int) != 4) = true := bne_iff_ne.mpr c3
  simp only [Option.some.injEq, Prod.mk.injEq] at H
  obtain ⟨rfl, rfl, rfl, rfl, rfl⟩ := H
  go_enter Tryd.func8, Tryd.ntmps8
  go_wp2_with (first | ((with_reducible refine ay (N := 2) rfl ?_); refine xev 2 #[.int .u8 0, .int .u8 0, .int .u8 0, .int .u8 0] 23 ?_; intro Ap hg w30 hbox hb; have Af := Zz.mk (hbox); have Aw := xsz hg; have AB := Aw; replace HB := xst hb; clear hb hbox hg) | ((with_reducible refine ay (N := 4) rfl ?_); refine xev 4 #[.int .u8 0, .int .u8 0, .int .u8 0, .int .u8 0] 23 ?_; intro Ar hg w31 hbox hb; have Aa := Zz.mk (hbox); have Ax := xsz hg; have AC := Ax; have Ah := xlt (g := Ap) hg; have Ao := xgt (g := Ap) hg; replace Af := xbb (g := Ap) (o := .cells #[.int .u8 0, .int .u8 0, .int .u8 0, .int .u8 0] 23 (0, 0)) hb; replace HB := xst hb; clear hb hbox hg) | ((with_reducible refine ae (f := 20) rfl ?_); refine xgl 11 Tryd.func20 #[.string a0, .string (⟨#[46]⟩ : ByteArray)] ?_; (with_reducible refine (dB a0 (⟨#[46]⟩ : ByteArray) Ag _ ?side1 A2.out).mono ?_); (case side1 => first | (with_reducible exact hG) | exact aJ hG xbl); rintro e w32 ⟨v112, rfl, ho0, hb⟩; refine ⟨_, rfl, ?_⟩; have Av := Zz.mk (Kd.R_lower ho0 (co xbl)); replace Af := xbb (g := Ap) (o := .cells #[.int .u8 0, .int .u8 0, .int .u8 0, .int .u8 0] 23 (0, 0)) hb; replace Aa := xbb (g := Ar) (o := .cells #[.int .u8 0, .int .u8 0, .int .u8 0, .int .u8 0] 23 (0, 0)) hb; replace HB := xst hb; (try clear hb); (try clear ho0); obtain ⟨Ao33, co33, eo33⟩ := Kd.R_slice Av.out; subst eo33; have AS := Ao.out; have AT := Ah.out; obtain ⟨hcz35_0, hcz35_1, hcz35_2, hcz35_3⟩ := xc4 Aa; have hfz35_0 := xf Aa 0; have hfz35_1 := xf Aa 1; have hfz35_2 := xf Aa 2; have hfz35_3 := xf Aa 3; obtain ⟨hcz36_0, hcz36_1, hcz36_2, hcz36_3⟩ := xc4 Af; have hfz36_0 := xf Af 0; have hfz36_1 := xf Af 1; have hfz36_2 := xf Af 2; have hfz36_3 := xf Af 3))
  refine bodyPost_ret (cf rfl _ _ Ap 23 #[.int .u8 0, .int .u8 0, .int .u8 0, .int .u8 0] (0, 0) _ rfl xbk Tryd.underlying23 rfl (by kernel_rfl)) rfl ?_
  exact ⟨xre, xbl⟩
def gN (a0 : Int) : Option (Int) := if a0 ≥ 65 then (if a0 ≤ 90 then (some (Go.bits .or .u8 a0 32)) else (some a0)) else (some a0)
theorem g5 (a0 : Int) (r : Int) (w : World) (h : gN a0 = some r) :
    Calls Tryd.prog 78 #[.int .u8 a0] w fun e w' => e = .returned (.int .u8 r) ∧ Drawn0 w w' := by
 have H : (if a0 ≥ 65 then (if a0 ≤ 90 then (some (Go.bits .or .u8 a0 32)) else (some a0)) else (some a0)) = some r := h
 clear h
 by_cases c2 : a0 ≥ 65
 ·
  rw [if_pos c2] at H
  have c2b0 := decide_eq_true c2
  clear c2
  by_cases c3 : a0 ≤ 90
  ·
   rw [if_pos c3] at H
   have c3b0 := decide_eq_true c3
   clear c3
   obtain rfl := Option.some.inj H
   go_enter Tryd.func78, Tryd.ntmps78
   go_wp2
   go_ret
   exact ⟨xrr, xdr⟩
  ·
   rw [if_neg c3] at H
   have c3b0 := decide_eq_false c3
   clear c3
   obtain rfl := Option.some.inj H
   go_enter Tryd.func78, Tryd.ntmps78
   go_wp2
   go_ret
   exact ⟨xrr, xdr⟩
 ·
  rw [if_neg c2] at H
  have c2b0 := decide_eq_false c2
  clear c2
  obtain rfl := Option.some.inj H
  go_enter Tryd.func78, Tryd.ntmps78
  go_wp2
  go_ret
  exact ⟨xrr, xdr⟩
def bf : Nat → Int → Bool → Option (Int × Bool)
  | 0, _, _ => none
  | k + 1, x0, x4 => if x4 = true then (some ((x0 - 48) % 256, true)) else ((ce k x0 32).bind fun t117 => (if t117 = true then ((gN x0).bind fun t118 => (some (((t118 - 97) % 256) + 10, true))) else (some (0, false))))
def bR (k : Nat) (a0 : Int) : Option (Int × Bool) := if a0 ≥ 48 then (bf k a0 (decide (a0 ≤ 57))) else (bf k a0 false)
theorem eK : ∀ k, (∀ y0 y1, LeO (bf k y0 y1) (bf (k + 1) y0 y1))
  | 0 => fun _ _ r h => by simp [bf] at h
  | k + 1 => by
    have ih0 := eK k
    have m0 := @cn
    · intro y0 y1
      unfold bf
      exact xmo
theorem cz : ∀ a0 k, LeO (bR k a0) (bR (k + 1) a0) := by
  intro a0 k
  have ih0 := eK k
  have m0 := @cn
  unfold bR
  exact xmo
theorem bq (k : Nat) (a0 : Int) (r1 : Int) (r2 : Bool) (w : World) (h : bR k a0 = some (r1, r2)) :
    Calls Tryd.prog 59 #[.int .u8 a0] w fun e w' => e = .returned (.tuple #[.int .i64 r1, .bool r2]) ∧ Drawn0 w w' := by
 have H : (if a0 ≥ 48 then (bf k a0 (decide (a0 ≤ 57))) else (bf k a0 false)) = some (r1, r2) := h
 clear h
 have Ac := Zz.mk H
 clear H
 go_enter Tryd.func59, Tryd.ntmps59
 go_upto_region 1 with (fail)
 go_cut [4] (fun v4 wc => ∃ (kq : Nat) (Ab : Bool), v4 = .bool Ab ∧ Zz (bf kq a0 Ab = some (r1, r2)) ∧ Zz (kq ≤ k) ∧ Drawn0 w wc)
 case first =>
  have H := Ac.out
  clear Ac
  by_cases c3 : a0 ≥ 48
  ·
   rw [if_pos c3] at H
   have Aa := decide_eq_true c3
   clear c3
   (first | rw [Aa] | (simp only [aC, aI]; rw [Aa]) | (rw [Ad]; (try simp only [Bool.not_false, Bool.not_true])) | (rw [Ae]; (try simp only [Bool.not_false, Bool.not_true])) | skip)
   have H' := Zz.mk H
   clear H
   go_wp2
   go_meet
   case rel => exact ⟨_, (decide (a0 ≤ 57)), xrr, H', ⟨xom⟩, xdr⟩
  ·
   rw [if_neg c3] at H
   have Aa := decide_eq_false c3
   clear c3
   (first | rw [Aa] | (simp only [aC, aI]; rw [Aa]) | (rw [Ad]; (try simp only [Bool.not_false, Bool.not_true])) | (rw [Ae]; (try simp only [Bool.not_false, Bool.not_true])) | skip)
   have H' := Zz.mk H
   clear H
   go_wp2
   go_meet
   case rel => exact ⟨_, (false), xrr, H', ⟨xom⟩, xdr⟩
 case rest =>
  clear Ac
  obtain ⟨kq, Ab, rfl, HA, HJ1, ⟨mc1, rfl⟩⟩ := hcut
  cases kq with
  | zero => exact absurd HA.out (by simp [bf])
  | succ kj1 =>
   have H := HA.out
   clear HA
   simp only [bf] at H
   by_cases c4 : Ab = true
   ·
    subst c4
    rw [if_pos rfl] at H
    simp only [Option.some.injEq, Prod.mk.injEq] at H
    obtain ⟨rfl, rfl⟩ := H
    go_wp2
    go_ret2
    exact ⟨xrr, xdr⟩
   ·
    replace c4 := Bool.eq_false_iff.mpr c4
    subst c4
    rw [if_neg (show ¬ (false = true) by decide)] at H
    replace H := Option.bind_eq_some_iff.mp H
    obtain ⟨Af, A50, H⟩ := H
    try dsimp only at H
    have A5 := Zz.mk A50
    clear A50
    by_cases c6 : Af = true
    ·
     subst c6
     rw [if_pos rfl] at H
     replace H := Option.bind_eq_some_iff.mp H
     obtain ⟨Ag, A70, H⟩ := H
     try dsimp only at H
     have A7 := Zz.mk A70
     clear A70
     simp only [Option.some.injEq, Prod.mk.injEq] at H
     obtain ⟨rfl, rfl⟩ := H
     go_wp2_with (first | ((with_reducible refine ae (f := 40) rfl ?_); refine xgl 16 Tryd.func40 #[.int .u8 a0, .int .i64 32] ?_; (with_reducible refine (bS kj1 a0 32 true _ A5.out).mono ?_); rintro e w' ⟨rfl, ⟨nd, rfl⟩⟩; refine ⟨_, rfl, ?_⟩) | ((with_reducible refine ae (f := 78) rfl ?_); refine xgl 18 Tryd.func78 #[.int .u8 a0] ?_; (with_reducible refine (g5 a0 Ag _ A7.out).mono ?_); rintro e w' ⟨rfl, ⟨nd, rfl⟩⟩; refine ⟨_, rfl, ?_⟩))
     go_ret2
     exact ⟨xrr, xdr⟩
    ·
     replace c6 := Bool.eq_false_iff.mpr c6
     subst c6
     rw [if_neg (show ¬ (false = true) by decide)] at H
     simp only [Option.some.injEq, Prod.mk.injEq] at H
     obtain ⟨rfl, rfl⟩ := H
     go_wp2_with (first | ((with_reducible refine ae (f := 40) rfl ?_); refine xgl 16 Tryd.func40 #[.int .u8 a0, .int .i64 32] ?_; (with_reducible refine (bS kj1 a0 32 false _ A5.out).mono ?_); rintro e w' ⟨rfl, ⟨nd, rfl⟩⟩; refine ⟨_, rfl, ?_⟩))
     go_ret2
     exact ⟨xrr, xdr⟩
mutual
def bs : Nat → ByteArray → Bool → Option (Int × Bool)
  | 0, _, _ => none
  | k + 1, x0, x15 => if x15 = true then (some (0, false)) else (bP k x0 0 (x0.size : Int) 0)
def bP : Nat → ByteArray → Int → Int → Int → Option (Int × Bool)
  | 0, _, _, _, _ => none
  | k + 1, x0, x4, x17, x18 => if x18 < x17 then (if 0 ≤ x18 then (if x18 < (x0.size : Int) then ((bR k (bt x0 x18)).bind fun bt119 => (if bt119.2 = true then (bP k x0 (Go.bits .or .i64 (wrap64 (x4 * 16)) bt119.1) x17 (wrap64 (x18 + 1))) else (some (0, false)))) else (none)) else (none)) else (some (IntKind.u16.wrap (x4), true))
end
def dH (k : Nat) (a0 : ByteArray) : Option (Int × Bool) := if (a0.size : Int) = 0 then (bs k a0 true) else (bs k a0 (decide ((a0.size : Int) > 4)))
theorem fM : ∀ k, (∀ y0 y1, LeO (bs k y0 y1) (bs (k + 1) y0 y1)) ∧ (∀ y0 y1 y2 y3, LeO (bP k y0 y1 y2 y3) (bP (k + 1) y0 y1 y2 y3))
  | 0 => ⟨fun _ _ r h => by simp [bs] at h, fun _ _ _ _ r h => by simp [bP] at h⟩
  | k + 1 => by
    obtain ⟨ih0, ih1⟩ := fM k
    have m0 := @cz
    refine ⟨?_, ?_⟩
    · intro y0 y1
      unfold bs
      exact xmo
    · intro y0 y1 y2 y3
      unfold bP
      exact xmo
theorem gr : ∀ a0 k, LeO (dH k a0) (dH (k + 1) a0) := by
  intro a0 k
  obtain ⟨ih0, ih1⟩ := fM k
  have m0 := @cz
  unfold dH
  exact xmo
theorem gc (k : Nat) (a0 : ByteArray) (r1 : Int) (r2 : Bool) (w : World) (h : dH k a0 = some (r1, r2)) :
    Calls Tryd.prog 42 #[.string a0] w fun e w' => e = .returned (.tuple #[.int .u16 r1, .bool r2]) ∧ Drawn0 w w' := by
 have H : (if (a0.size : Int) = 0 then (bs k a0 true) else (bs k a0 (decide ((a0.size : Int) > 4)))) = some (r1, r2) := h
 clear h
 have Af := Zz.mk H
 clear H
 go_enter Tryd.func42, Tryd.ntmps42
 go_upto_region 1 with (fail)
 go_cut [15] (fun v15 wc => ∃ (kq : Nat) (Ab : Bool), v15 = .bool Ab ∧ Zz (bs kq a0 Ab = some (r1, r2)) ∧ Zz (kq ≤ k) ∧ Drawn0 w wc)
 case first =>
  have H := Af.out
  clear Af
  by_cases c3 : (a0.size : Int) = 0
  ·
   rw [if_pos c3] at H
   have Ac : ((a0.size : Int) == 0) = true := beq_iff_eq.mpr c3
   have Ag : ((a0.size : Int) != 0) = false := bne_eq_false_iff_eq.mpr c3
   clear c3
   (first | rw [Ac] | (simp only [aC, aI]; rw [Ac]) | (rw [Ah]; (try simp only [Bool.not_false, Bool.not_true])) | (rw [Ai]; (try simp only [Bool.not_false, Bool.not_true])) | skip)
   have H' := Zz.mk H
   clear H
   go_wp2
   go_meet
   case rel => exact ⟨_, (true), xrr, H', ⟨xom⟩, xdr⟩
  ·
   rw [if_neg c3] at H
   have Ac : ((a0.size : Int) == 0) = false := beq_eq_false_iff_ne.mpr c3
   have Ag : ((a0.size : Int) != 0) = true := bne_iff_ne.mpr c3
   (first | rw [Ac] | (simp only [aC, aI]; rw [Ac]) | (rw [Ah]; (try simp only [Bool.not_false, Bool.not_true])) | (rw [Ai]; (try simp only [Bool.not_false, Bool.not_true])) | skip)
   have H' := Zz.mk H
   clear H
   go_wp2
   go_meet
   case rel => exact ⟨_, (decide ((a0.size : Int) > 4)), xrr, H', ⟨xom⟩, xdr⟩
 case rest =>
  clear Af
  obtain ⟨kq, Ab, rfl, HA, HJ1, ⟨mc1, rfl⟩⟩ := hcut
  cases kq with
  | zero => exact absurd HA.out (by simp [bs])
  | succ kj1 =>
   have H := HA.out
   clear HA
   simp only [bs] at H
   by_cases c4 : Ab = true
   ·
    subst c4
    rw [if_pos rfl] at H
    simp only [Option.some.injEq, Prod.mk.injEq] at H
    obtain ⟨rfl, rfl⟩ := H
    go_wp2
    go_ret2
    exact ⟨xrr, xdr⟩
   ·
    replace c4 := Bool.eq_false_iff.mpr c4
    subst c4
    rw [if_neg (show ¬ (false = true) by decide)] at H
    have H' := Zz.mk H
    clear H
    go_wp2
    go_loopg [4, 18] kj1 (fun kq v4 v18 w' => ∃ (Ad : Int) (Aa : Int), v4 = .int .i64 Ad ∧ v18 = .int .i64 Aa ∧ Zz (bP kq a0 Ad (a0.size : Int) Aa = some (r1, r2)) ∧ Zz (kq ≤ kj1) ∧ Drawn0 w w')
    case atStart => exact ⟨(0), (0), xrr, xrr, H', ⟨Nat.le_refl _⟩, xdr⟩
    case round =>
     clear H'
     obtain ⟨Ad, Aa, rfl, rfl, HA, HK2, ⟨m2, rfl⟩⟩ := hrel
     cases gk with
     | zero => exact absurd HA.out (by simp [bP])
     | succ k2 =>
      have H := HA.out
      clear HA
      simp only [bP] at H
      by_cases c5 : Aa < (a0.size : Int)
      ·
       rw [if_pos c5] at H
       have Aj := decide_eq_true c5
       clear c5
       by_cases c6 : 0 ≤ Aa
       ·
        rw [if_pos c6] at H
        have Am := decide_eq_true c6
        clear c6
        by_cases c7 : Aa < (a0.size : Int)
        ·
         rw [if_pos c7] at H
         have An := decide_eq_true c7
         clear c7
         replace H := Option.bind_eq_some_iff.mp H
         obtain ⟨⟨Ae, Ak⟩, A90, H⟩ := H
         try dsimp only at H
         have A9 := Zz.mk A90
         clear A90
         by_cases c10 : Ak = true
         ·
          subst c10
          rw [if_pos rfl] at H
          have H' := Zz.mk H
          clear H
          have p8 : 0 ≤ (Aa : Int) := xod
          have q8 : Aa < (a0.size : Int) := xod
          have hx8 := ax a0 Aa
          replace p8 := eq_true p8
          replace q8 := eq_true q8
          try (have Al := q8; simp only [ByteArray.size_extract, Nat.min_self] at Al)
          go_wp2_with (first | ((with_reducible refine ae (f := 59) rfl ?_); refine xgl 25 Tryd.func59 #[.int .u8 (bt a0 Aa)] ?_; (with_reducible refine (bq k2 (bt a0 Aa) Ae true _ A9.out).mono ?_); rintro e w' ⟨rfl, ⟨nd, rfl⟩⟩; refine ⟨_, rfl, ?_⟩))
          go_roundg k2
          case measure => have := HJ1.out; have := HK2.out; omega
          case rel => exact ⟨(Go.bits .or .i64 (wrap64 (Ad * 16)) Ae), (wrap64 (Aa + 1)), xrr, xrr, H', ⟨by have := HJ1.out; have := HK2.out; omega⟩, xdr⟩
         ·
          replace c10 := Bool.eq_false_iff.mpr c10
          subst c10
          rw [if_neg (show ¬ (false = true) by decide)] at H
          simp only [Option.some.injEq, Prod.mk.injEq] at H
          obtain ⟨rfl, rfl⟩ := H
          have p8 : 0 ≤ (Aa : Int) := xod
          have q8 : Aa < (a0.size : Int) := xod
          have hx8 := ax a0 Aa
          replace p8 := eq_true p8
          replace q8 := eq_true q8
          try (have Al := q8; simp only [ByteArray.size_extract, Nat.min_self] at Al)
          go_wp2_with (first | ((with_reducible refine ae (f := 59) rfl ?_); refine xgl 25 Tryd.func59 #[.int .u8 (bt a0 Aa)] ?_; (with_reducible refine (bq k2 (bt a0 Aa) Ae false _ A9.out).mono ?_); rintro e w' ⟨rfl, ⟨nd, rfl⟩⟩; refine ⟨_, rfl, ?_⟩))
          go_ret2
          exact ⟨xrr, xdr⟩
        ·
         rw [if_neg c7] at H
         exact absurd H (by simp)
       ·
        rw [if_neg c6] at H
        exact absurd H (by simp)
      ·
       rw [if_neg c5] at H
       have Aj := decide_eq_false c5
       clear c5
       simp only [Option.some.injEq, Prod.mk.injEq] at H
       obtain ⟨rfl, rfl⟩ := H
       go_wp2
       go_ret2
       exact ⟨xrr, xdr⟩
end Go.Proofs.YticohlbfolnmpaaDoor.X
