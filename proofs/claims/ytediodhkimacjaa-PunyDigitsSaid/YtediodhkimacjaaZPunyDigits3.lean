/- Texts that the law's proof needs, joined by a program of this session. -/
import Derived.Test.YtediodhkimacjaaZPunyDigits1
import Derived.Test.YtediodhkimacjaaZPunyDigits2
set_option maxHeartbeats 8000000
set_option maxRecDepth 100000
set_option linter.unusedSimpArgs false
set_option linter.unusedVariables false
namespace Go.Proofs.Ytediodhkimacjaa.X
open Go.RowKit Go.Proofs.YtediodhkimacjaaW.PrintWords Go.Proofs.YtediodhkimacjaaW.PrintLast Go.Proofs.YtediodhkimacjaaW.PrintMore
attribute [local go_sem] ci b7 cT dk cg de bR cZ db di dj cN cO da dd
mutual
def aM : Nat → List Int → List Int → List Int → Int → Int → Option (ByteArray × Int)
  | 0, _, _, _, _, _ => none
  | k + 1, x0, x4, Ab, Ac, Aa => if Aa < Ac then (if 0 ≤ Aa then (if Aa < (Ab.length : Int) then (if (rd Ab Aa) < 0 then (bk k x0 x4 (rd Ab Aa) Ab Ac Aa true) else (bk k x0 x4 (rd Ab Aa) Ab Ac Aa (decide ((rd Ab Aa) > 1114111)))) else (none)) else (none)) else (if (x4.length : Int) > 0 then (if x4.length < 140737488355328 then (a9 k x0 (x4 ++ [45]) (x4.length : Int) (x4.length : Int)) else (none)) else (a9 k x0 x4 (x4.length : Int) (x4.length : Int)))
def bk : Nat → List Int → List Int → Int → List Int → Int → Int → Bool → Option (ByteArray × Int)
  | 0, _, _, _, _, _, _, _ => none
  | k + 1, x0, x4, x6, x15, x16, x17, x26 => if x26 = true then (some ((⟨#[]⟩ : ByteArray), 7)) else (if x6 < 128 then (if x4.length < 140737488355328 then (aM k x0 (x4 ++ [(x6) % 256]) x15 x16 (wrap64 (x17 + 1))) else (none)) else (aM k x0 x4 x15 x16 (wrap64 (x17 + 1))))
def a9 : Nat → List Int → List Int → Int → Int → Option (ByteArray × Int)
  | 0, _, _, _, _ => none
  | k + 1, x0, x4, x7, x8 => bm k x0 x4 x7 x8 128 0 72
def bm : Nat → List Int → List Int → Int → Int → Int → Int → Int → Option (ByteArray × Int)
  | 0, _, _, _, _, _, _, _ => none
  | k + 1, x0, x4, x7, x8, x9, x10, x11 => if x7 < (x0.length : Int) then ((b5 k x0 x9).bind fun t143 => (if (wrap64 (x7 + 1)) = 0 then (none) else (if (wrap64 (wrap32 (t143 - x9))) > (wrap64 (Int.tdiv (wrap64 (2147483647 - x10)) (wrap64 (x7 + 1)))) then (some ((⟨#[]⟩ : ByteArray), 11)) else (ba k x0 x4 x7 x8 t143 (wrap64 (x10 + (wrap64 ((wrap64 (wrap32 (t143 - x9))) * (wrap64 (x7 + 1)))))) x11 x0 (x0.length : Int) 0)))) else (some (strOfNums x4, 0))
def ba : Nat → List Int → List Int → Int → Int → Int → Int → Int → List Int → Int → Int → Option (ByteArray × Int)
  | 0, _, _, _, _, _, _, _, _, _, _ => none
  | k + 1, x0, x4, x7, x8, x9, Ac, Ad, Ab, Ae, Aa => if Aa < Ae then (if 0 ≤ Aa then (if Aa < (Ab.length : Int) then (if (rd Ab Aa) < x9 then (bl k x0 x4 x7 x8 x9 (wrap64 (Ac + 1)) Ad (rd Ab Aa) Ab Ae Aa) else (bl k x0 x4 x7 x8 x9 Ac Ad (rd Ab Aa) Ab Ae Aa)) else (none)) else (none)) else (bm k x0 x4 x7 x8 (wrap32 (x9 + 1)) (wrap64 (Ac + 1)) Ad)
def bl : Nat → List Int → List Int → Int → Int → Int → Int → Int → Int → List Int → Int → Int → Option (ByteArray × Int)
  | 0, _, _, _, _, _, _, _, _, _, _, _ => none
  | k + 1, x0, x4, x7, x8, x9, Aa, Ad, Ah, Ae, Af, Ag => if Aa > 2147483647 then (some ((⟨#[]⟩ : ByteArray), 11)) else (if Ah = x9 then ((b3 k x4 Aa Ad).bind fun Ab => ((bA k Aa (wrap64 (x7 + 1)) (x7 == x8)).bind fun Ac => (ba k x0 Ab (wrap64 (x7 + 1)) x8 x9 0 Ac Ae Af (wrap64 (Ag + 1))))) else (ba k x0 x4 x7 x8 x9 Aa Ad Ae Af (wrap64 (Ag + 1))))
end
def aY (k : Nat) (l0 : List Int) : Option (ByteArray × Int) := aM k l0 ([] : List Int) l0 (l0.length : Int) 0
theorem cv : ∀ k, (∀ y0 y1 y2 y3 y4, LeO (aM k y0 y1 y2 y3 y4) (aM (k + 1) y0 y1 y2 y3 y4)) ∧ (∀ y0 y1 y2 y3 y4 y5 y6, LeO (bk k y0 y1 y2 y3 y4 y5 y6) (bk (k + 1) y0 y1 y2 y3 y4 y5 y6)) ∧ (∀ y0 y1 y2 y3, LeO (a9 k y0 y1 y2 y3) (a9 (k + 1) y0 y1 y2 y3)) ∧ (∀ y0 y1 y2 y3 y4 y5 y6, LeO (bm k y0 y1 y2 y3 y4 y5 y6) (bm (k + 1) y0 y1 y2 y3 y4 y5 y6)) ∧ (∀ y0 y1 y2 y3 y4 y5 y6 y7 y8 y9, LeO (ba k y0 y1 y2 y3 y4 y5 y6 y7 y8 y9) (ba (k + 1) y0 y1 y2 y3 y4 y5 y6 y7 y8 y9)) ∧ (∀ y0 y1 y2 y3 y4 y5 y6 y7 y8 y9 y10, LeO (bl k y0 y1 y2 y3 y4 y5 y6 y7 y8 y9 y10) (bl (k + 1) y0 y1 y2 y3 y4 y5 y6 y7 y8 y9 y10))
  | 0 => ⟨fun _ _ _ _ _ r h => by simp [aM] at h, fun _ _ _ _ _ _ _ r h => by simp [bk] at h, fun _ _ _ _ r h => by simp [a9] at h, fun _ _ _ _ _ _ _ r h => by simp [bm] at h, fun _ _ _ _ _ _ _ _ _ _ r h => by simp [ba] at h, fun _ _ _ _ _ _ _ _ _ _ _ r h => by simp [bl] at h⟩
  | k + 1 => by
    obtain ⟨ih0, ih1, ih2, ih3, ih4, ih5⟩ := cv k
    have m0 := @b0; have m1 := @cR; have m2 := @cX
    refine ⟨?_, ?_, ?_, ?_, ?_, ?_⟩
    · intro y0 y1 y2 y3 y4
      unfold aM
      exact xmo
    · intro y0 y1 y2 y3 y4 y5 y6
      unfold bk
      exact xmo
    · intro y0 y1 y2 y3
      unfold a9
      exact xmo
    · intro y0 y1 y2 y3 y4 y5 y6
      unfold bm
      exact xmo
    · intro y0 y1 y2 y3 y4 y5 y6 y7 y8 y9
      unfold ba
      exact xmo
    · intro y0 y1 y2 y3 y4 y5 y6 y7 y8 y9 y10
      unfold bl
      exact xmo
theorem dn : ∀ a0 k, LeO (aY k a0) (aY (k + 1) a0) := by
  intro a0 k
  obtain ⟨ih0, ih1, ih2, ih3, ih4, ih5⟩ := cv k
  have m0 := @b0; have m1 := @cR; have m2 := @cX
  unfold aY
  exact xmo
theorem au (k : Nat) (A0 : Option Addr) (c0 : Nat) (l0 : List Int) (r1 : ByteArray) (r2 : Int) (w : World) (hr0 : Kd.C (Kd.int .i32) w A0 l0.length l0) (hc0 : l0.length ≤ c0) (h : aY k l0 = some (r1, r2)) :
    Calls Try.prog 18 #[.slice A0 l0.length c0] w fun e w' => e = .returned (.tuple #[.string r1, .int .i64 r2]) ∧ Below w.heap.size w w' := by
 have HR0 := Zz.mk hr0
 have Ba := Zz.mk hc0
 clear hr0 hc0
 have HB := Zz.mk (Below.refl w.heap.size w)
 have H : (aM k l0 ([] : List Int) l0 (l0.length : Int) 0) = some (r1, r2) := h
 clear h
 have H' := Zz.mk H
 clear H
 go_enter Try.func18, Try.ntmps18
 go_wp2
 go_loopg [4, 17] k (fun kq v4 v17 w' => ∃ (Ad : List Int) (Aa : Int), v17 = .int .i64 Aa ∧ Zz (aM kq l0 Ad l0 (l0.length : Int) Aa = some (r1, r2)) ∧ Zz (kq ≤ k) ∧ Zz (Kd.R (Kd.int .u8) 5 w' w.heap.size (fun _ => True) v4 Ad) ∧ Zz (Below w.heap.size w w'))
 case atStart => exact ⟨(([] : List Int)), (0), xrr, H', ⟨Nat.le_refl _⟩, ⟨by first | exact Kd.R_nil _ _ _ _ _ | exact Kd.N_nil _ _ _ _ _ | exact Kd.V_nil _ _ _ _ _ | exact Kd.Q_nil _ _ _ _ _ | exact Kd.S_nil _ _ _ _ _⟩, ⟨xbl⟩⟩
 case round =>
  clear H'
  obtain ⟨Ad, Aa, rfl, HA, HK1, Ac, HB⟩ := hrel
  cases gk with
  | zero => exact absurd HA.out (by simp [aM])
  | succ k1 =>
   have H := HA.out
   clear HA
   simp only [aM] at H
   by_cases c2 : Aa < (l0.length : Int)
   ·
    rw [if_pos c2] at H
    have AD := decide_eq_true c2
    clear c2
    by_cases c3 : 0 ≤ Aa
    ·
     rw [if_pos c3] at H
     have A3 := decide_eq_true c3
     clear c3
     by_cases c4 : Aa < (l0.length : Int)
     ·
      rw [if_pos c4] at H
      have A4 := decide_eq_true c4
      clear c4
      have A5 := Zz.mk H
      clear H
      have p136 : 0 ≤ (Aa : Int) := xod
      have q136 : Aa < (l0.length : Int) := xod
      obtain ⟨Bb, e136, Ae⟩ := Kd.at_int HR0.out Aa p136 q136
      cases e136
      replace Ae := (HB.out.cell (World.block_lt_of_cell? w _ Ae)).trans Ae
      replace p136 := eq_true p136
      replace q136 := eq_true q136
      try (have AG := q136; simp only [ByteArray.size_extract, Nat.min_self] at AG)
      go_upto_region 5 with (fail)
      go_cut [26] (fun v26 wc => ∃ (kq : Nat) (At : Bool), v26 = .bool At ∧ Zz (bk kq l0 Ad (rd l0 Aa) l0 (l0.length : Int) Aa At = some (r1, r2)) ∧ Zz (kq ≤ k1) ∧ Zz (Kd.R (Kd.int .u8) 5 wc w.heap.size (fun _ => True) u4 Ad) ∧ Zz (Below w.heap.size w wc))
      case first =>
       have H := A5.out
       clear A5
       by_cases c6 : (rd l0 Aa) < 0
       ·
        rw [if_pos c6] at H
        have Aw := decide_eq_true c6
        clear c6
        (first | rw [Aw] | (simp only [bG, bF]; rw [Aw]) | (rw [A6]; (try simp only [Bool.not_false, Bool.not_true])) | (rw [A7]; (try simp only [Bool.not_false, Bool.not_true])) | rw [A8] | skip)
        have H' := Zz.mk H
        clear H
        go_wp2
        go_meet
        case rel => exact ⟨_, (true), xrr, H', ⟨by have := HK1.out; first | omega | exact Nat.le_refl _⟩, ⟨xkd Ac⟩, ⟨xbl⟩⟩
       ·
        rw [if_neg c6] at H
        have Aw := decide_eq_false c6
        clear c6
        (first | rw [Aw] | (simp only [bG, bF]; rw [Aw]) | (rw [A6]; (try simp only [Bool.not_false, Bool.not_true])) | (rw [A7]; (try simp only [Bool.not_false, Bool.not_true])) | rw [A8] | skip)
        have H' := Zz.mk H
        clear H
        go_wp2
        go_meet
        case rel => exact ⟨_, (decide ((rd l0 Aa) > 1114111)), xrr, H', ⟨by have := HK1.out; first | omega | exact Nat.le_refl _⟩, ⟨xkd Ac⟩, ⟨xbl⟩⟩
      case rest =>
       clear A5
       clear AD A3 A4 p136 q136
       try clear Ae
       obtain ⟨kq, At, rfl, HA, HJ4, Ac, HB⟩ := hcut
       cases kq with
       | zero => exact absurd HA.out (by simp [bk])
       | succ kj4 =>
        have H := HA.out
        clear HA
        simp only [bk] at H
        by_cases c7 : At = true
        ·
         subst c7
         rw [if_pos rfl] at H
         simp only [Option.some.injEq, Prod.mk.injEq] at H
         obtain ⟨rfl, rfl⟩ := H
         go_wp2
         go_ret2
         exact ⟨xre, xbl⟩
        ·
         replace c7 := Bool.eq_false_iff.mpr c7
         subst c7
         rw [if_neg (show ¬ (false = true) by decide)] at H
         by_cases c8 : (rd l0 Aa) < 128
         ·
          rw [if_pos c8] at H
          have A9 := decide_eq_true c8
          clear c8
          by_cases c9 : Ad.length < 140737488355328
          ·
           rw [if_pos c9] at H
           have LMc9 := Zz.mk c9
           clear c9
           obtain ⟨AH, Ao⟩ : ∃ y_ : List Int, y_ = (Ad ++ [((rd l0 Aa)) % 256]) := ⟨_, rfl⟩
           replace H : (aM kj4 l0 AH l0 (l0.length : Int) (wrap64 (Aa + 1))) = some (r1, r2) := by first | (rw [Ao]; with_reducible exact H) | (have H2_ := (Option.bind_some _ _).symm.trans H; rw [Ao]; with_reducible exact H2_) | (have H2_ := (Option.bind_some _ _).symm.trans H; with_reducible exact H2_) | with_reducible exact H | (rw [Ao]; exact H) | exact H
           have AI := Zz.mk Ao
           clear Ao
           have H' := Zz.mk H
           clear H
           go_wp2_with (first | ((with_reducible refine bo (b := .append) (xs := #[.tmp 29, .tmp 32]) rfl ?_); at_builtin; refine Kd.R_append (Kd.int .u8) (w0 := w) w.heap.size rfl (.tmp 29) (.tmp 32) 53 5 (.int .u8 0) 1 rfl Try.underlying53 dF rfl (by decide) (by omega) u4 Ad (((rd l0 Aa)) % 256) [.int .u8 (((rd l0 Aa)) % 256)] (fun _ => True) (fun _ => False) rfl rfl ?aP (fun _ hk => hk.elim) ?aF ?aO ?aB ?aS ?aL ?_; (case aP => exact rfl); (case aB => exact xbl); (case aF => exact (fun _ _ => trivial)); (case aO => exact (xkd Ac)); (case aS => exact (af xbl)); (case aL => have := LMc9.out; first | omega | exact Nat.le_of_lt this); intro v138 w10 ho hb hg hat; rw [← AI.out] at ho; have n0_ := Zz.mk (hb); have n1_ := Zz.mk (ho); clear HB; clear Ac; have HB := n0_; have AJ := n1_; clear n0_ n1_; clear ho hb hg hat))
           go_roundg kj4
           case measure => have := HK1.out; have := HJ4.out; omega
           case rel => exact ⟨(AH), (wrap64 (Aa + 1)), xrr, H', ⟨by have := HK1.out; have := HJ4.out; omega⟩, ⟨xkd AJ⟩, ⟨xbl⟩⟩
          ·
           rw [if_neg c9] at H
           exact absurd H (by simp)
         ·
          rw [if_neg c8] at H
          have A9 := decide_eq_false c8
          clear c8
          have H' := Zz.mk H
          clear H
          go_wp2
          go_roundg kj4
          case measure => have := HK1.out; have := HJ4.out; omega
          case rel => exact ⟨(Ad), (wrap64 (Aa + 1)), xrr, H', ⟨by have := HK1.out; have := HJ4.out; omega⟩, ⟨xkd Ac⟩, ⟨xbl⟩⟩
     ·
      rw [if_neg c4] at H
      exact absurd H (by simp)
    ·
     rw [if_neg c3] at H
     exact absurd H (by simp)
   ·
    rw [if_neg c2] at H
    have AD := decide_eq_false c2
    clear c2
    have AE := Zz.mk H
    clear H
    obtain ⟨Ao12, co12, eo12⟩ := Kd.R_slice Ac.out
    subst eo12
    go_upto_if 39 with (fail)
    go_cut [4] (fun v4 wc => ∃ (kq : Nat) (Au : List Int), Zz (a9 kq l0 Au (Ad.length : Int) (Ad.length : Int) = some (r1, r2)) ∧ Zz (kq ≤ k1) ∧ Zz (Kd.R (Kd.int .u8) 5 wc w.heap.size (fun _ => True) v4 Au) ∧ Zz (Below w.heap.size w wc))
    case first =>
     have H := AE.out
     clear AE
     by_cases c13 : (Ad.length : Int) > 0
     ·
      rw [if_pos c13] at H
      have Ap := decide_eq_true c13
      have Ax : decide (0 < Ad.length) = true := decide_eq_true (by omega)
      clear c13
      (first | rw [Ap] | (simp only [bG, bF]; rw [Ap]) | (rw [AK]; (try simp only [Bool.not_false, Bool.not_true])) | (rw [AL]; (try simp only [Bool.not_false, Bool.not_true])) | rw [Ax] | skip)
      by_cases c14 : Ad.length < 140737488355328
      ·
       rw [if_pos c14] at H
       have LMc14 := Zz.mk c14
       clear c14
       obtain ⟨AM, Aq⟩ : ∃ y_ : List Int, y_ = (Ad ++ [45]) := ⟨_, rfl⟩
       replace H : (a9 k1 l0 AM (Ad.length : Int) (Ad.length : Int)) = some (r1, r2) := by first | (rw [Aq]; with_reducible exact H) | (have H2_ := (Option.bind_some _ _).symm.trans H; rw [Aq]; with_reducible exact H2_) | (have H2_ := (Option.bind_some _ _).symm.trans H; with_reducible exact H2_) | with_reducible exact H | (rw [Aq]; exact H) | exact H
       have AN := Zz.mk Aq
       clear Aq
       have H' := Zz.mk H
       clear H
       go_wp2_with (first | ((with_reducible refine bo (b := .append) (xs := #[.tmp 40, .tmp 41]) rfl ?_); at_builtin; refine Kd.R_append (Kd.int .u8) (w0 := w) w.heap.size rfl (.tmp 40) (.tmp 41) 53 5 (.int .u8 0) 1 rfl Try.underlying53 dF rfl (by decide) (by omega) (.slice Ao12 Ad.length co12) Ad 45 [.int .u8 45] (fun _ => True) (fun _ => False) rfl rfl ?aP (fun _ hk => hk.elim) ?aF ?aO ?aB ?aS ?aL ?_; (case aP => exact rfl); (case aB => exact xbl); (case aF => exact (fun _ _ => trivial)); (case aO => exact (xkd Ac)); (case aS => exact (af xbl)); (case aL => have := LMc14.out; first | omega | exact Nat.le_of_lt this); intro v141 w15 ho hb hg hat; rw [← AN.out] at ho; have n0_ := Zz.mk (hb); have n1_ := Zz.mk (ho); clear HB; clear Ac; have HB := n0_; have AO := n1_; clear n0_ n1_; clear ho hb hg hat))
       go_meet
       case rel => exact ⟨_, (AM), H', ⟨by have := HK1.out; first | omega | exact Nat.le_refl _⟩, ⟨xkd AO⟩, ⟨xbl⟩⟩
      ·
       rw [if_neg c14] at H
       exact absurd H (by simp)
     ·
      rw [if_neg c13] at H
      have Ap := decide_eq_false c13
      have Ax : decide (0 < Ad.length) = false := decide_eq_false (by omega)
      clear c13
      (first | rw [Ap] | (simp only [bG, bF]; rw [Ap]) | (rw [AK]; (try simp only [Bool.not_false, Bool.not_true])) | (rw [AL]; (try simp only [Bool.not_false, Bool.not_true])) | rw [Ax] | skip)
      have H' := Zz.mk H
      clear H
      go_wp2
      go_meet
      case rel => exact ⟨_, (Ad), H', ⟨by have := HK1.out; first | omega | exact Nat.le_refl _⟩, ⟨xkd Ac⟩, ⟨xbl⟩⟩
    case rest =>
     clear AE
     clear AD
     try clear Ae
     obtain ⟨kq, Au, HA, HJ10, Ac, HB⟩ := hcut
     cases kq with
     | zero => exact absurd HA.out (by simp [a9])
     | succ kj10 =>
      have H := HA.out
      clear HA
      simp only [a9] at H
      have H' := Zz.mk H
      clear H
      go_wp2
      go_loopg [4, 7, 9, 10, 11] kj10 (fun kq v4 v7 v9 v10 v11 w' => ∃ (Az : List Int) (Al : Int) (An : Int) (Ar : Int) (Av : Int), v7 = .int .i64 Al ∧ v9 = .int .i32 An ∧ v10 = .int .i64 Ar ∧ v11 = .int .i64 Av ∧ Zz (bm kq l0 Az Al (Ad.length : Int) An Ar Av = some (r1, r2)) ∧ Zz (kq ≤ kj10) ∧ Zz (Kd.R (Kd.int .u8) 5 w' w.heap.size (fun _ => True) v4 Az) ∧ Zz (Below w.heap.size w w'))
      case atStart => exact ⟨(Au), ((Ad.length : Int)), (128), (0), (72), xrr, xrr, xrr, xrr, H', ⟨Nat.le_refl _⟩, ⟨xkd Ac⟩, ⟨xbl⟩⟩
      case round =>
       clear H'
       try clear Ae
       obtain ⟨Az, Al, An, Ar, Av, rfl, rfl, rfl, rfl, HA, HK3, Ac, HB⟩ := hrel
       cases gk with
       | zero => exact absurd HA.out (by simp [bm])
       | succ k3 =>
        have H := HA.out
        clear HA
        simp only [bm] at H
        by_cases c16 : Al < (l0.length : Int)
        ·
         rw [if_pos c16] at H
         have AA := decide_eq_true c16
         clear c16
         replace H := Option.bind_eq_some_iff.mp H
         obtain ⟨Ag, A170, H⟩ := H
         try dsimp only at H
         have A17 := Zz.mk A170
         clear A170
         by_cases c18 : (wrap64 (Al + 1)) = 0
         ·
          rw [if_pos c18] at H
          exact absurd H (by simp)
         ·
          rw [if_neg c18] at H
          have AP : ((wrap64 (Al + 1)) == 0) = false := beq_eq_false_iff_ne.mpr c18
          have AQ : ((wrap64 (Al + 1)) != 0) = true := bne_iff_ne.mpr c18
          by_cases c19 : (wrap64 (wrap32 (Ag - An))) > (wrap64 (Int.tdiv (wrap64 (2147483647 - Ar)) (wrap64 (Al + 1))))
          ·
           rw [if_pos c19] at H
           have AB := decide_eq_true c19
           clear c19
           simp only [Option.some.injEq, Prod.mk.injEq] at H
           obtain ⟨rfl, rfl⟩ := H
           go_wp2_with (first | ((with_reducible refine ae (f := 24) rfl ?_); refine xgl 49 Try.func24 #[.slice A0 l0.length c0, .int .i32 An] ?_; (with_reducible refine (cS k3 _ _ l0 An Ag _ ?side1 ?side2 A17.out).mono ?_); (case side1 => repeat (first | exact (Kd.C_below HR0.out HB.out) | (with_reducible refine Kd.C_alloc ?_ _) | (with_reducible refine Kd.C_drewN ?_ _) | (with_reducible refine Kd.C_drew ?_))); (case side2 => exact Ba.out); rintro e w20 ⟨rfl, hb⟩; refine ⟨_, rfl, ?_⟩; replace Ac := Zz.mk (Kd.R_below (xkd Ac) hb); replace HB := xst hb; (try clear hb)))
           go_ret2
           exact ⟨xre, xbl⟩
          ·
           rw [if_neg c19] at H
           have AB := decide_eq_false c19
           clear c19
           have H' := Zz.mk H
           clear H
           go_wp2_with (first | ((with_reducible refine ae (f := 24) rfl ?_); refine xgl 49 Try.func24 #[.slice A0 l0.length c0, .int .i32 An] ?_; (with_reducible refine (cS k3 _ _ l0 An Ag _ ?side1 ?side2 A17.out).mono ?_); (case side1 => repeat (first | exact (Kd.C_below HR0.out HB.out) | (with_reducible refine Kd.C_alloc ?_ _) | (with_reducible refine Kd.C_drewN ?_ _) | (with_reducible refine Kd.C_drew ?_))); (case side2 => exact Ba.out); rintro e w21 ⟨rfl, hb⟩; refine ⟨_, rfl, ?_⟩; replace Ac := Zz.mk (Kd.R_below (xkd Ac) hb); replace HB := xst hb; (try clear hb)))
           go_loopg [4, 7, 10, 11, 72] k3 (fun kq v4 v7 v10 v11 v72 w' => ∃ (Aj : List Int) (Ak : Int) (Am : Int) (Ah : Int) (Ab : Int), v7 = .int .i64 Ak ∧ v10 = .int .i64 Am ∧ v11 = .int .i64 Ah ∧ v72 = .int .i64 Ab ∧ Zz (ba kq l0 Aj Ak (Ad.length : Int) Ag Am Ah l0 (l0.length : Int) Ab = some (r1, r2)) ∧ Zz (kq ≤ k3) ∧ Zz (Kd.R (Kd.int .u8) 5 w' w.heap.size (fun _ => True) v4 Aj) ∧ Zz (Below w.heap.size w w'))
           case atStart => exact ⟨(Az), (Al), (wrap64 (Ar + (wrap64 ((wrap64 (wrap32 (Ag - An))) * (wrap64 (Al + 1)))))), (Av), (0), xrr, xrr, xrr, xrr, H', ⟨Nat.le_refl _⟩, ⟨xkd Ac⟩, ⟨xbl⟩⟩
           case round =>
            clear H'
            clear AA c18 AP AQ AB
            try clear Ae
            obtain ⟨Aj, Ak, Am, Ah, Ab, rfl, rfl, rfl, rfl, HA, HK4, Ac, HB⟩ := hrel
            cases gk with
            | zero => exact absurd HA.out (by simp [ba])
            | succ k4 =>
             have H := HA.out
             clear HA
             simp only [ba] at H
             by_cases c22 : Ab < (l0.length : Int)
             ·
              rw [if_pos c22] at H
              have AC := decide_eq_true c22
              clear c22
              by_cases c23 : 0 ≤ Ab
              ·
               rw [if_pos c23] at H
               have AR := decide_eq_true c23
               clear c23
               by_cases c24 : Ab < (l0.length : Int)
               ·
                rw [if_pos c24] at H
                have AS := decide_eq_true c24
                clear c24
                have AF := Zz.mk H
                clear H
                have p144 : 0 ≤ (Ab : Int) := xod
                have q144 : Ab < (l0.length : Int) := xod
                obtain ⟨Bc, e144, Ai⟩ := Kd.at_int HR0.out Ab p144 q144
                cases e144
                replace Ai := (HB.out.cell (World.block_lt_of_cell? w _ Ai)).trans Ai
                replace p144 := eq_true p144
                replace q144 := eq_true q144
                try (have AT := q144; simp only [ByteArray.size_extract, Nat.min_self] at AT)
                go_upto_if 78 with (fail)
                go_cut [10] (fun v10 wc => ∃ (kq : Nat) (Af : Int), v10 = .int .i64 Af ∧ Zz (bl kq l0 Aj Ak (Ad.length : Int) Ag Af Ah (rd l0 Ab) l0 (l0.length : Int) Ab = some (r1, r2)) ∧ Zz (kq ≤ k4) ∧ Zz (Kd.R (Kd.int .u8) 5 wc w.heap.size (fun _ => True) u4 Aj) ∧ Zz (Below w.heap.size w wc))
                case first =>
                 have H := AF.out
                 clear AF
                 by_cases c26 : (rd l0 Ab) < Ag
                 ·
                  rw [if_pos c26] at H
                  have As := decide_eq_true c26
                  clear c26
                  (first | rw [As] | (simp only [bG, bF]; rw [As]) | (rw [AU]; (try simp only [Bool.not_false, Bool.not_true])) | (rw [AV]; (try simp only [Bool.not_false, Bool.not_true])) | rw [AW] | skip)
                  have H' := Zz.mk H
                  clear H
                  go_wp2
                  go_meet
                  case rel => exact ⟨_, (wrap64 (Am + 1)), xrr, H', ⟨by have := HK1.out; have := HJ10.out; have := HK3.out; have := HK4.out; first | omega | exact Nat.le_refl _⟩, ⟨xkd Ac⟩, ⟨xbl⟩⟩
                 ·
                  rw [if_neg c26] at H
                  have As := decide_eq_false c26
                  clear c26
                  (first | rw [As] | (simp only [bG, bF]; rw [As]) | (rw [AU]; (try simp only [Bool.not_false, Bool.not_true])) | (rw [AV]; (try simp only [Bool.not_false, Bool.not_true])) | rw [AW] | skip)
                  have H' := Zz.mk H
                  clear H
                  go_wp2
                  go_meet
                  case rel => exact ⟨_, (Am), xrr, H', ⟨by have := HK1.out; have := HJ10.out; have := HK3.out; have := HK4.out; first | omega | exact Nat.le_refl _⟩, ⟨xkd Ac⟩, ⟨xbl⟩⟩
                case rest =>
                 clear AF
                 clear AC AR AS p144 q144
                 try clear Ae
                 try clear Ai
                 obtain ⟨kq, Af, rfl, HA, HJ24, Ac, HB⟩ := hcut
                 cases kq with
                 | zero => exact absurd HA.out (by simp [bl])
                 | succ kj24 =>
                  have H := HA.out
                  clear HA
                  simp only [bl] at H
                  by_cases c27 : Af > 2147483647
                  ·
                   rw [if_pos c27] at H
                   have AX := decide_eq_true c27
                   clear c27
                   simp only [Option.some.injEq, Prod.mk.injEq] at H
                   obtain ⟨rfl, rfl⟩ := H
                   go_wp2
                   go_ret2
                   exact ⟨xre, xbl⟩
                  ·
                   rw [if_neg c27] at H
                   have AX := decide_eq_false c27
                   clear c27
                   by_cases c28 : (rd l0 Ab) = Ag
                   ·
                    rw [if_pos c28] at H
                    have AY : ((rd l0 Ab) == Ag) = true := beq_iff_eq.mpr c28
                    have AZ : ((rd l0 Ab) != Ag) = false := bne_eq_false_iff_eq.mpr c28
                    clear c28
                    replace H := Option.bind_eq_some_iff.mp H
                    obtain ⟨A1, A290, H⟩ := H
                    try dsimp only at H
                    have A29 := Zz.mk A290
                    clear A290
                    replace H := Option.bind_eq_some_iff.mp H
                    obtain ⟨A2, A300, H⟩ := H
                    try dsimp only at H
                    have A30 := Zz.mk A300
                    clear A300
                    have H' := Zz.mk H
                    clear H
                    obtain ⟨Ao31, co31, eo31⟩ := Kd.R_slice Ac.out
                    subst eo31
                    go_wp2_with (first | ((with_reducible refine ae (f := 25) rfl ?_); refine xgl 89 Try.func25 #[.slice Ao31 Aj.length co31, .int .i64 Af, .int .i64 Ah] ?_; (with_reducible refine (dp kj24 (fun k_ => some k_ = (.slice Ao31 Aj.length co31 : Value).ownBlock) (.slice Ao31 Aj.length co31) Aj Af Ah A1 w _ ?side1 ?side2 A29.out).mono ?_); (case side1 => repeat (first | (with_reducible first | exact HB.out | apply ak | apply ag | apply am) | exact HB.out)); (case side2 => exact Kd.R_tight rfl Ac.out); rintro e w32 ⟨v146, rfl, ho0, hb, hkp⟩; refine ⟨_, rfl, ?_⟩; have n0_ := Zz.mk (Kd.R_mono (ok' := fun k_ => True) ho0 (fun k_ hk_ => trivial)); have n1_ := Zz.mk (hb); clear HB; clear Ac; have Ay := n0_; have HB := n1_; clear n0_ n1_; (try clear hb); (try clear hkp); (try clear ho0)) | ((with_reducible refine ae (f := 16) rfl ?_); refine xgl 96 Try.func16 #[.int .i64 Af, .int .i64 (wrap64 (Ak + 1)), .bool (Ak == (Ad.length : Int))] ?_; (with_reducible refine (bK kj24 Af (wrap64 (Ak + 1)) (Ak == (Ad.length : Int)) A2 _ A30.out).mono ?_); rintro e w33 ⟨rfl, hb⟩; refine ⟨_, rfl, ?_⟩; replace Ay := Zz.mk (Kd.R_below (xkd Ay) hb); replace HB := xst hb; (try clear hb)))
                    go_roundg kj24
                    case measure => have := HK1.out; have := HJ10.out; have := HK3.out; have := HK4.out; have := HJ24.out; omega
                    case rel => exact ⟨(A1), (wrap64 (Ak + 1)), (0), (A2), (wrap64 (Ab + 1)), xrr, xrr, xrr, xrr, H', ⟨by have := HK1.out; have := HJ10.out; have := HK3.out; have := HK4.out; have := HJ24.out; omega⟩, ⟨xkd Ay⟩, ⟨xbl⟩⟩
                   ·
                    rw [if_neg c28] at H
                    have AY : ((rd l0 Ab) == Ag) = false := beq_eq_false_iff_ne.mpr c28
                    have AZ : ((rd l0 Ab) != Ag) = true := bne_iff_ne.mpr c28
                    have H' := Zz.mk H
                    clear H
                    go_wp2
                    go_roundg kj24
                    case measure => have := HK1.out; have := HJ10.out; have := HK3.out; have := HK4.out; have := HJ24.out; omega
                    case rel => exact ⟨(Aj), (Ak), (Af), (Ah), (wrap64 (Ab + 1)), xrr, xrr, xrr, xrr, H', ⟨by have := HK1.out; have := HJ10.out; have := HK3.out; have := HK4.out; have := HJ24.out; omega⟩, ⟨xkd Ac⟩, ⟨xbl⟩⟩
               ·
                rw [if_neg c24] at H
                exact absurd H (by simp)
              ·
               rw [if_neg c23] at H
               exact absurd H (by simp)
             ·
              rw [if_neg c22] at H
              have AC := decide_eq_false c22
              clear c22
              have H' := Zz.mk H
              clear H
              go_wp2
              go_roundg k4
              case measure => have := HK1.out; have := HJ10.out; have := HK3.out; have := HK4.out; omega
              case rel => exact ⟨(Aj), (Ak), (wrap32 (Ag + 1)), (wrap64 (Am + 1)), (Ah), xrr, xrr, xrr, xrr, H', ⟨by have := HK1.out; have := HJ10.out; have := HK3.out; have := HK4.out; omega⟩, ⟨xkd Ac⟩, ⟨xbl⟩⟩
        ·
         rw [if_neg c16] at H
         have AA := decide_eq_false c16
         clear c16
         simp only [Option.some.injEq, Prod.mk.injEq] at H
         obtain ⟨rfl, rfl⟩ := H
         have hcv34 := dT (P := Try.prog) Try.underlying53 Try.underlying5 Try.underlying9 (Kd.own_of_R Ac.out)
         go_wp2
         go_ret2
         exact ⟨xre, xbl⟩
def ay (k : Nat)  : Option (Bool) := (aY k (([252] : List Int))).bind fun Ab => ((aY k (([98, 252, 99, 104, 101, 114] : List Int))).bind fun Ac => ((bh k (⟨#[98, 99, 104, 101, 114, 45, 107, 118, 97]⟩ : ByteArray)).bind fun Aa => (if Ab.1.toList = ([116, 100, 97] : List UInt8) then (if Ab.2 = 0 then (if Ac.1.toList = ([98, 99, 104, 101, 114, 45, 107, 118, 97] : List UInt8) then (if Ac.2 = 0 then (if Aa.2 = 0 then (if (Aa.1.length : Int) = 6 then (if 1 < (Aa.1.length : Int) then (some ((rd Aa.1 1) == 252)) else (none)) else (some false)) else (some false)) else (some false)) else (some false)) else (some false)) else (some false))))
theorem cJ : ∀ k, LeO (ay k ) (ay (k + 1) ) := by
  intro  k
  have m0 := @dm; have m1 := @dn
  unfold ay
  exact xmo
theorem bw (k : Nat)  (r : Bool) (w : World) (h : ay k  = some r) :
    Calls Try.prog 6 #[] w fun e w' => e = .returned (.bool r) ∧ Below w.heap.size w w' := by
 have HB := Zz.mk (Below.refl w.heap.size w)
 have H : ((aY k (([252] : List Int))).bind fun Ap => ((aY k (([98, 252, 99, 104, 101, 114] : List Int))).bind fun Al => ((bh k (⟨#[98, 99, 104, 101, 114, 45, 107, 118, 97]⟩ : ByteArray)).bind fun Ac => (if Ap.1.toList = ([116, 100, 97] : List UInt8) then (if Ap.2 = 0 then (if Al.1.toList = ([98, 99, 104, 101, 114, 45, 107, 118, 97] : List UInt8) then (if Al.2 = 0 then (if Ac.2 = 0 then (if (Ac.1.length : Int) = 6 then (if 1 < (Ac.1.length : Int) then (some ((rd Ac.1 1) == 252)) else (none)) else (some false)) else (some false)) else (some false)) else (some false)) else (some false)) else (some false))))) = some r := h
 clear h
 obtain ⟨Ag, Aq⟩ : ∃ y_ : List Int, y_ = (([252] : List Int)) := ⟨_, rfl⟩
 replace H : ((aY k Ag).bind fun Ap => ((aY k (([98, 252, 99, 104, 101, 114] : List Int))).bind fun Al => ((bh k (⟨#[98, 99, 104, 101, 114, 45, 107, 118, 97]⟩ : ByteArray)).bind fun Ac => (if Ap.1.toList = ([116, 100, 97] : List UInt8) then (if Ap.2 = 0 then (if Al.1.toList = ([98, 99, 104, 101, 114, 45, 107, 118, 97] : List UInt8) then (if Al.2 = 0 then (if Ac.2 = 0 then (if (Ac.1.length : Int) = 6 then (if 1 < (Ac.1.length : Int) then (some ((rd Ac.1 1) == 252)) else (none)) else (some false)) else (some false)) else (some false)) else (some false)) else (some false)) else (some false))))) = some r := by first | (rw [Aq]; with_reducible exact H) | (have H2_ := (Option.bind_some _ _).symm.trans H; rw [Aq]; with_reducible exact H2_) | (have H2_ := (Option.bind_some _ _).symm.trans H; with_reducible exact H2_) | with_reducible exact H | (rw [Aq]; exact H) | exact H
 have Ad := Zz.mk Aq
 clear Aq
 replace H := Option.bind_eq_some_iff.mp H
 obtain ⟨⟨Aj, Ak⟩, A10, H⟩ := H
 try dsimp only at H
 have A1 := Zz.mk A10
 clear A10
 obtain ⟨Ah, Ar⟩ : ∃ y_ : List Int, y_ = (([98, 252, 99, 104, 101, 114] : List Int)) := ⟨_, rfl⟩
 replace H : ((aY k Ah).bind fun Al => ((bh k (⟨#[98, 99, 104, 101, 114, 45, 107, 118, 97]⟩ : ByteArray)).bind fun Ac => (if Aj.toList = ([116, 100, 97] : List UInt8) then (if Ak = 0 then (if Al.1.toList = ([98, 99, 104, 101, 114, 45, 107, 118, 97] : List UInt8) then (if Al.2 = 0 then (if Ac.2 = 0 then (if (Ac.1.length : Int) = 6 then (if 1 < (Ac.1.length : Int) then (some ((rd Ac.1 1) == 252)) else (none)) else (some false)) else (some false)) else (some false)) else (some false)) else (some false)) else (some false)))) = some r := by first | (rw [Ar]; with_reducible exact H) | (have H2_ := (Option.bind_some _ _).symm.trans H; rw [Ar]; with_reducible exact H2_) | (have H2_ := (Option.bind_some _ _).symm.trans H; with_reducible exact H2_) | with_reducible exact H | (rw [Ar]; exact H) | exact H
 have Ae := Zz.mk Ar
 clear Ar
 replace H := Option.bind_eq_some_iff.mp H
 obtain ⟨⟨Am, An⟩, A20, H⟩ := H
 try dsimp only at H
 have A2 := Zz.mk A20
 clear A20
 replace H := Option.bind_eq_some_iff.mp H
 obtain ⟨⟨Af, Ao⟩, A30, H⟩ := H
 try dsimp only at H
 have A3 := Zz.mk A30
 clear A30
 by_cases c4 : Aj.toList = ([116, 100, 97] : List UInt8)
 ·
  rw [if_pos c4] at H
  have At : (Aj.toList == ([116, 100, 97] : List UInt8)) = true := beq_iff_eq.mpr c4
  have Au : (Aj.toList != ([116, 100, 97] : List UInt8)) = false := bne_eq_false_iff_eq.mpr c4
  clear c4
  by_cases c5 : Ak = 0
  ·
   rw [if_pos c5] at H
   have Av : (Ak == 0) = true := beq_iff_eq.mpr c5
   have Aw : (Ak != 0) = false := bne_eq_false_iff_eq.mpr c5
   clear c5
   by_cases c6 : Am.toList = ([98, 99, 104, 101, 114, 45, 107, 118, 97] : List UInt8)
   ·
    rw [if_pos c6] at H
    have Ax : (Am.toList == ([98, 99, 104, 101, 114, 45, 107, 118, 97] : List UInt8)) = true := beq_iff_eq.mpr c6
    have Ay : (Am.toList != ([98, 99, 104, 101, 114, 45, 107, 118, 97] : List UInt8)) = false := bne_eq_false_iff_eq.mpr c6
    clear c6
    by_cases c7 : An = 0
    ·
     rw [if_pos c7] at H
     have Az : (An == 0) = true := beq_iff_eq.mpr c7
     have AA : (An != 0) = false := bne_eq_false_iff_eq.mpr c7
     clear c7
     by_cases c8 : Ao = 0
     ·
      rw [if_pos c8] at H
      have AB : (Ao == 0) = true := beq_iff_eq.mpr c8
      have AC : (Ao != 0) = false := bne_eq_false_iff_eq.mpr c8
      clear c8
      by_cases c9 : (Af.length : Int) = 6
      ·
       rw [if_pos c9] at H
       have AD : ((Af.length : Int) == 6) = true := beq_iff_eq.mpr c9
       have AE : ((Af.length : Int) != 6) = false := bne_eq_false_iff_eq.mpr c9
       clear c9
       by_cases c10 : 1 < (Af.length : Int)
       ·
        rw [if_pos c10] at H
        have AF := decide_eq_true c10
        have AG : decide (1 < Af.length) = true := decide_eq_true (by omega)
        clear c10
        obtain rfl := Option.some.inj H
        go_enter Try.func6, Try.ntmps6
        go_wp2_with (first | ((with_reducible refine aW (N := 8) rfl ?_); (try (refine bd (by rfl) ?_; dsimp only)); refine Kd.R_lit (Kd.int .i32) _ 21 ?hg (N := 8) ?hd (xs := ([252] : List Int)) (inner := [.int .i32 252]) (ok := fun _ => True) (okp := fun _ => True) ?hr ?hp (fun _ hk => hk) trivial (Below.refl _ _) (Nat.le_refl _) (by simp) ?_; (case hd => rfl); (case hg => rfl); (case hr => first | (go_simp; done) | (go_simp; rfl)); (case hp => exact (Reps.one (show Kd.M (Kd.int .i32) _ _ _ 252 [.int .i32 252] from rfl) (Reps.none _ _))); intro v150 w11 ho12 hb hg_ hnew_; clear hg_ hnew_; (first | rw [← Ad.out] at ho12 | (simp only [Int.reduceToNat] at ho12; rw [← Ad.out] at ho12)); have Aa := Zz.mk (Kd.R_lower ho12 (af xbl)); replace HB := xst hb; clear hb ho12; obtain ⟨Ao13, co13, eo13⟩ := Kd.R_slice Aa.out; subst eo13) | ((with_reducible refine ae (f := 18) rfl ?_); refine xgl 9 Try.func18 #[.slice Ao13 Ag.length co13] ?_; (with_reducible refine (au k _ _ Ag Aj Ak _ ?side1 ?side2 A1.out).mono ?_); (case side1 => repeat (first | exact (Kd.R_reads' Aa.out).2.2 | (with_reducible refine Kd.C_alloc ?_ _) | (with_reducible refine Kd.C_drewN ?_ _) | (with_reducible refine Kd.C_drew ?_))); (case side2 => exact (Kd.R_reads' Aa.out).2.1); rintro e w14 ⟨rfl, hb⟩; refine ⟨_, rfl, ?_⟩; replace Aa := Zz.mk (Kd.R_below (xkd Aa) hb); replace HB := xst hb; (try clear hb)) | ((with_reducible refine aW (N := 13) rfl ?_); (try (refine bd (by rfl) ?_; dsimp only)); refine Kd.R_lit (Kd.int .i32) _ 21 ?hg (N := 13) ?hd (xs := ([98, 252, 99, 104, 101, 114] : List Int)) (inner := [.int .i32 98, .int .i32 252, .int .i32 99, .int .i32 104, .int .i32 101, .int .i32 114]) (ok := fun _ => True) (okp := fun _ => True) ?hr ?hp (fun _ hk => hk) trivial (Below.refl _ _) (Nat.le_refl _) (by simp) ?_; (case hd => rfl); (case hg => rfl); (case hr => first | (go_simp; done) | (go_simp; rfl)); (case hp => exact (Reps.one (show Kd.M (Kd.int .i32) _ _ _ 98 [.int .i32 98] from rfl) (Reps.one (show Kd.M (Kd.int .i32) _ _ _ 252 [.int .i32 252] from rfl) (Reps.one (show Kd.M (Kd.int .i32) _ _ _ 99 [.int .i32 99] from rfl) (Reps.one (show Kd.M (Kd.int .i32) _ _ _ 104 [.int .i32 104] from rfl) (Reps.one (show Kd.M (Kd.int .i32) _ _ _ 101 [.int .i32 101] from rfl) (Reps.one (show Kd.M (Kd.int .i32) _ _ _ 114 [.int .i32 114] from rfl) (Reps.none _ _)))))))); intro v155 w15 ho16 hb hg_ hnew_; clear hg_ hnew_; (first | rw [← Ae.out] at ho16 | (simp only [Int.reduceToNat] at ho16; rw [← Ae.out] at ho16)); have Ab := Zz.mk (Kd.R_lower (Kd.R_new' ho16 (Kd.R_lt (xkd Aa))) (af xbl)); replace Aa := Zz.mk (Kd.R_elder' (xkd Aa) (Kd.R_base ho16) hb); replace HB := xst hb; clear hb ho16; obtain ⟨Ao17, co17, eo17⟩ := Kd.R_slice Ab.out; subst eo17) | ((with_reducible refine ae (f := 18) rfl ?_); refine xgl 14 Try.func18 #[.slice Ao17 Ah.length co17] ?_; (with_reducible refine (au k _ _ Ah Am An _ ?side1 ?side2 A2.out).mono ?_); (case side1 => repeat (first | exact (Kd.R_reads' Ab.out).2.2 | (with_reducible refine Kd.C_alloc ?_ _) | (with_reducible refine Kd.C_drewN ?_ _) | (with_reducible refine Kd.C_drew ?_))); (case side2 => exact (Kd.R_reads' Ab.out).2.1); rintro e w18 ⟨rfl, hb⟩; refine ⟨_, rfl, ?_⟩; replace Aa := Zz.mk (Kd.R_below (xkd Aa) hb); replace Ab := Zz.mk (Kd.R_below (xkd Ab) hb); replace HB := xst hb; (try clear hb)) | ((with_reducible refine ae (f := 7) rfl ?_); refine xgl 18 Try.func7 #[.string (⟨#[98, 99, 104, 101, 114, 45, 107, 118, 97]⟩ : ByteArray)] ?_; (with_reducible refine (bb k (⟨#[98, 99, 104, 101, 114, 45, 107, 118, 97]⟩ : ByteArray) Af Ao _ A3.out).mono ?_); rintro e w19 ⟨v161, rfl, ho0, hb⟩; refine ⟨_, rfl, ?_⟩; have Ai := Zz.mk (Kd.R_lower (Kd.R_new' (Kd.R_new' ho0 (Kd.R_lt (xkd Aa))) (Kd.R_lt (xkd Ab))) (af xbl)); replace Aa := Zz.mk (Kd.R_elder' (xkd Aa) (Kd.R_base ho0) hb); replace Ab := Zz.mk (Kd.R_elder' (xkd Ab) (Kd.R_base ho0) hb); replace HB := xst hb; (try clear hb); (try clear ho0); obtain ⟨Ao20, co20, eo20⟩ := Kd.R_slice Ai.out; subst eo20; have p163 : 0 ≤ (1 : Int) := (by omega); have q163 : 1 < (Af.length : Int) := xod; obtain ⟨AH, e163, As⟩ := Kd.at_int (Kd.R_reads' Ai.out).2.2 1 p163 q163; cases e163; (try simp only [show (1 : Int).toNat = 1 from rfl, Nat.reduceMul, Nat.reduceEqDiff, Go.Addr.add, ↓reduceIte] at As); have AI : (1 < Af.length) = True := eq_true (by omega); (try rw [show ((1 : Int)).toNat = 1 from rfl] at As); replace p163 := eq_true p163; replace q163 := eq_true q163))
        go_ret
        exact ⟨xre, xbl⟩
       ·
        rw [if_neg c10] at H
        exact absurd H (by simp)
      ·
       rw [if_neg c9] at H
       have AD : ((Af.length : Int) == 6) = false := beq_eq_false_iff_ne.mpr c9
       have AE : ((Af.length : Int) != 6) = true := bne_iff_ne.mpr c9
       obtain rfl := Option.some.inj H
       go_enter Try.func6, Try.ntmps6
       go_wp2_with (first | ((with_reducible refine aW (N := 8) rfl ?_); (try (refine bd (by rfl) ?_; dsimp only)); refine Kd.R_lit (Kd.int .i32) _ 21 ?hg (N := 8) ?hd (xs := ([252] : List Int)) (inner := [.int .i32 252]) (ok := fun _ => True) (okp := fun _ => True) ?hr ?hp (fun _ hk => hk) trivial (Below.refl _ _) (Nat.le_refl _) (by simp) ?_; (case hd => rfl); (case hg => rfl); (case hr => first | (go_simp; done) | (go_simp; rfl)); (case hp => exact (Reps.one (show Kd.M (Kd.int .i32) _ _ _ 252 [.int .i32 252] from rfl) (Reps.none _ _))); intro v150 w21 ho22 hb hg_ hnew_; clear hg_ hnew_; (first | rw [← Ad.out] at ho22 | (simp only [Int.reduceToNat] at ho22; rw [← Ad.out] at ho22)); have Aa := Zz.mk (Kd.R_lower ho22 (af xbl)); replace HB := xst hb; clear hb ho22; obtain ⟨Ao23, co23, eo23⟩ := Kd.R_slice Aa.out; subst eo23) | ((with_reducible refine ae (f := 18) rfl ?_); refine xgl 9 Try.func18 #[.slice Ao23 Ag.length co23] ?_; (with_reducible refine (au k _ _ Ag Aj Ak _ ?side1 ?side2 A1.out).mono ?_); (case side1 => repeat (first | exact (Kd.R_reads' Aa.out).2.2 | (with_reducible refine Kd.C_alloc ?_ _) | (with_reducible refine Kd.C_drewN ?_ _) | (with_reducible refine Kd.C_drew ?_))); (case side2 => exact (Kd.R_reads' Aa.out).2.1); rintro e w24 ⟨rfl, hb⟩; refine ⟨_, rfl, ?_⟩; replace Aa := Zz.mk (Kd.R_below (xkd Aa) hb); replace HB := xst hb; (try clear hb)) | ((with_reducible refine aW (N := 13) rfl ?_); (try (refine bd (by rfl) ?_; dsimp only)); refine Kd.R_lit (Kd.int .i32) _ 21 ?hg (N := 13) ?hd (xs := ([98, 252, 99, 104, 101, 114] : List Int)) (inner := [.int .i32 98, .int .i32 252, .int .i32 99, .int .i32 104, .int .i32 101, .int .i32 114]) (ok := fun _ => True) (okp := fun _ => True) ?hr ?hp (fun _ hk => hk) trivial (Below.refl _ _) (Nat.le_refl _) (by simp) ?_; (case hd => rfl); (case hg => rfl); (case hr => first | (go_simp; done) | (go_simp; rfl)); (case hp => exact (Reps.one (show Kd.M (Kd.int .i32) _ _ _ 98 [.int .i32 98] from rfl) (Reps.one (show Kd.M (Kd.int .i32) _ _ _ 252 [.int .i32 252] from rfl) (Reps.one (show Kd.M (Kd.int .i32) _ _ _ 99 [.int .i32 99] from rfl) (Reps.one (show Kd.M (Kd.int .i32) _ _ _ 104 [.int .i32 104] from rfl) (Reps.one (show Kd.M (Kd.int .i32) _ _ _ 101 [.int .i32 101] from rfl) (Reps.one (show Kd.M (Kd.int .i32) _ _ _ 114 [.int .i32 114] from rfl) (Reps.none _ _)))))))); intro v155 w25 ho26 hb hg_ hnew_; clear hg_ hnew_; (first | rw [← Ae.out] at ho26 | (simp only [Int.reduceToNat] at ho26; rw [← Ae.out] at ho26)); have Ab := Zz.mk (Kd.R_lower (Kd.R_new' ho26 (Kd.R_lt (xkd Aa))) (af xbl)); replace Aa := Zz.mk (Kd.R_elder' (xkd Aa) (Kd.R_base ho26) hb); replace HB := xst hb; clear hb ho26; obtain ⟨Ao27, co27, eo27⟩ := Kd.R_slice Ab.out; subst eo27) | ((with_reducible refine ae (f := 18) rfl ?_); refine xgl 14 Try.func18 #[.slice Ao27 Ah.length co27] ?_; (with_reducible refine (au k _ _ Ah Am An _ ?side1 ?side2 A2.out).mono ?_); (case side1 => repeat (first | exact (Kd.R_reads' Ab.out).2.2 | (with_reducible refine Kd.C_alloc ?_ _) | (with_reducible refine Kd.C_drewN ?_ _) | (with_reducible refine Kd.C_drew ?_))); (case side2 => exact (Kd.R_reads' Ab.out).2.1); rintro e w28 ⟨rfl, hb⟩; refine ⟨_, rfl, ?_⟩; replace Aa := Zz.mk (Kd.R_below (xkd Aa) hb); replace Ab := Zz.mk (Kd.R_below (xkd Ab) hb); replace HB := xst hb; (try clear hb)) | ((with_reducible refine ae (f := 7) rfl ?_); refine xgl 18 Try.func7 #[.string (⟨#[98, 99, 104, 101, 114, 45, 107, 118, 97]⟩ : ByteArray)] ?_; (with_reducible refine (bb k (⟨#[98, 99, 104, 101, 114, 45, 107, 118, 97]⟩ : ByteArray) Af Ao _ A3.out).mono ?_); rintro e w29 ⟨v161, rfl, ho0, hb⟩; refine ⟨_, rfl, ?_⟩; have Ai := Zz.mk (Kd.R_lower (Kd.R_new' (Kd.R_new' ho0 (Kd.R_lt (xkd Aa))) (Kd.R_lt (xkd Ab))) (af xbl)); replace Aa := Zz.mk (Kd.R_elder' (xkd Aa) (Kd.R_base ho0) hb); replace Ab := Zz.mk (Kd.R_elder' (xkd Ab) (Kd.R_base ho0) hb); replace HB := xst hb; (try clear hb); (try clear ho0); obtain ⟨Ao30, co30, eo30⟩ := Kd.R_slice Ai.out; subst eo30))
       go_ret
       exact ⟨xre, xbl⟩
     ·
      rw [if_neg c8] at H
      have AB : (Ao == 0) = false := beq_eq_false_iff_ne.mpr c8
      have AC : (Ao != 0) = true := bne_iff_ne.mpr c8
      obtain rfl := Option.some.inj H
      go_enter Try.func6, Try.ntmps6
      go_wp2_with (first | ((with_reducible refine aW (N := 8) rfl ?_); (try (refine bd (by rfl) ?_; dsimp only)); refine Kd.R_lit (Kd.int .i32) _ 21 ?hg (N := 8) ?hd (xs := ([252] : List Int)) (inner := [.int .i32 252]) (ok := fun _ => True) (okp := fun _ => True) ?hr ?hp (fun _ hk => hk) trivial (Below.refl _ _) (Nat.le_refl _) (by simp) ?_; (case hd => rfl); (case hg => rfl); (case hr => first | (go_simp; done) | (go_simp; rfl)); (case hp => exact (Reps.one (show Kd.M (Kd.int .i32) _ _ _ 252 [.int .i32 252] from rfl) (Reps.none _ _))); intro v150 w31 ho32 hb hg_ hnew_; clear hg_ hnew_; (first | rw [← Ad.out] at ho32 | (simp only [Int.reduceToNat] at ho32; rw [← Ad.out] at ho32)); have Aa := Zz.mk (Kd.R_lower ho32 (af xbl)); replace HB := xst hb; clear hb ho32; obtain ⟨Ao33, co33, eo33⟩ := Kd.R_slice Aa.out; subst eo33) | ((with_reducible refine ae (f := 18) rfl ?_); refine xgl 9 Try.func18 #[.slice Ao33 Ag.length co33] ?_; (with_reducible refine (au k _ _ Ag Aj Ak _ ?side1 ?side2 A1.out).mono ?_); (case side1 => repeat (first | exact (Kd.R_reads' Aa.out).2.2 | (with_reducible refine Kd.C_alloc ?_ _) | (with_reducible refine Kd.C_drewN ?_ _) | (with_reducible refine Kd.C_drew ?_))); (case side2 => exact (Kd.R_reads' Aa.out).2.1); rintro e w34 ⟨rfl, hb⟩; refine ⟨_, rfl, ?_⟩; replace Aa := Zz.mk (Kd.R_below (xkd Aa) hb); replace HB := xst hb; (try clear hb)) | ((with_reducible refine aW (N := 13) rfl ?_); (try (refine bd (by rfl) ?_; dsimp only)); refine Kd.R_lit (Kd.int .i32) _ 21 ?hg (N := 13) ?hd (xs := ([98, 252, 99, 104, 101, 114] : List Int)) (inner := [.int .i32 98, .int .i32 252, .int .i32 99, .int .i32 104, .int .i32 101, .int .i32 114]) (ok := fun _ => True) (okp := fun _ => True) ?hr ?hp (fun _ hk => hk) trivial (Below.refl _ _) (Nat.le_refl _) (by simp) ?_; (case hd => rfl); (case hg => rfl); (case hr => first | (go_simp; done) | (go_simp; rfl)); (case hp => exact (Reps.one (show Kd.M (Kd.int .i32) _ _ _ 98 [.int .i32 98] from rfl) (Reps.one (show Kd.M (Kd.int .i32) _ _ _ 252 [.int .i32 252] from rfl) (Reps.one (show Kd.M (Kd.int .i32) _ _ _ 99 [.int .i32 99] from rfl) (Reps.one (show Kd.M (Kd.int .i32) _ _ _ 104 [.int .i32 104] from rfl) (Reps.one (show Kd.M (Kd.int .i32) _ _ _ 101 [.int .i32 101] from rfl) (Reps.one (show Kd.M (Kd.int .i32) _ _ _ 114 [.int .i32 114] from rfl) (Reps.none _ _)))))))); intro v155 w35 ho36 hb hg_ hnew_; clear hg_ hnew_; (first | rw [← Ae.out] at ho36 | (simp only [Int.reduceToNat] at ho36; rw [← Ae.out] at ho36)); have Ab := Zz.mk (Kd.R_lower (Kd.R_new' ho36 (Kd.R_lt (xkd Aa))) (af xbl)); replace Aa := Zz.mk (Kd.R_elder' (xkd Aa) (Kd.R_base ho36) hb); replace HB := xst hb; clear hb ho36; obtain ⟨Ao37, co37, eo37⟩ := Kd.R_slice Ab.out; subst eo37) | ((with_reducible refine ae (f := 18) rfl ?_); refine xgl 14 Try.func18 #[.slice Ao37 Ah.length co37] ?_; (with_reducible refine (au k _ _ Ah Am An _ ?side1 ?side2 A2.out).mono ?_); (case side1 => repeat (first | exact (Kd.R_reads' Ab.out).2.2 | (with_reducible refine Kd.C_alloc ?_ _) | (with_reducible refine Kd.C_drewN ?_ _) | (with_reducible refine Kd.C_drew ?_))); (case side2 => exact (Kd.R_reads' Ab.out).2.1); rintro e w38 ⟨rfl, hb⟩; refine ⟨_, rfl, ?_⟩; replace Aa := Zz.mk (Kd.R_below (xkd Aa) hb); replace Ab := Zz.mk (Kd.R_below (xkd Ab) hb); replace HB := xst hb; (try clear hb)) | ((with_reducible refine ae (f := 7) rfl ?_); refine xgl 18 Try.func7 #[.string (⟨#[98, 99, 104, 101, 114, 45, 107, 118, 97]⟩ : ByteArray)] ?_; (with_reducible refine (bb k (⟨#[98, 99, 104, 101, 114, 45, 107, 118, 97]⟩ : ByteArray) Af Ao _ A3.out).mono ?_); rintro e w39 ⟨v161, rfl, ho0, hb⟩; refine ⟨_, rfl, ?_⟩; have Ai := Zz.mk (Kd.R_lower (Kd.R_new' (Kd.R_new' ho0 (Kd.R_lt (xkd Aa))) (Kd.R_lt (xkd Ab))) (af xbl)); replace Aa := Zz.mk (Kd.R_elder' (xkd Aa) (Kd.R_base ho0) hb); replace Ab := Zz.mk (Kd.R_elder' (xkd Ab) (Kd.R_base ho0) hb); replace HB := xst hb; (try clear hb); (try clear ho0)))
      go_ret
      exact ⟨xre, xbl⟩
    ·
     rw [if_neg c7] at H
     have Az : (An == 0) = false := beq_eq_false_iff_ne.mpr c7
     have AA : (An != 0) = true := bne_iff_ne.mpr c7
     obtain rfl := Option.some.inj H
     go_enter Try.func6, Try.ntmps6
     go_wp2_with (first | ((with_reducible refine aW (N := 8) rfl ?_); (try (refine bd (by rfl) ?_; dsimp only)); refine Kd.R_lit (Kd.int .i32) _ 21 ?hg (N := 8) ?hd (xs := ([252] : List Int)) (inner := [.int .i32 252]) (ok := fun _ => True) (okp := fun _ => True) ?hr ?hp (fun _ hk => hk) trivial (Below.refl _ _) (Nat.le_refl _) (by simp) ?_; (case hd => rfl); (case hg => rfl); (case hr => first | (go_simp; done) | (go_simp; rfl)); (case hp => exact (Reps.one (show Kd.M (Kd.int .i32) _ _ _ 252 [.int .i32 252] from rfl) (Reps.none _ _))); intro v150 w40 ho41 hb hg_ hnew_; clear hg_ hnew_; (first | rw [← Ad.out] at ho41 | (simp only [Int.reduceToNat] at ho41; rw [← Ad.out] at ho41)); have Aa := Zz.mk (Kd.R_lower ho41 (af xbl)); replace HB := xst hb; clear hb ho41; obtain ⟨Ao42, co42, eo42⟩ := Kd.R_slice Aa.out; subst eo42) | ((with_reducible refine ae (f := 18) rfl ?_); refine xgl 9 Try.func18 #[.slice Ao42 Ag.length co42] ?_; (with_reducible refine (au k _ _ Ag Aj Ak _ ?side1 ?side2 A1.out).mono ?_); (case side1 => repeat (first | exact (Kd.R_reads' Aa.out).2.2 | (with_reducible refine Kd.C_alloc ?_ _) | (with_reducible refine Kd.C_drewN ?_ _) | (with_reducible refine Kd.C_drew ?_))); (case side2 => exact (Kd.R_reads' Aa.out).2.1); rintro e w43 ⟨rfl, hb⟩; refine ⟨_, rfl, ?_⟩; replace Aa := Zz.mk (Kd.R_below (xkd Aa) hb); replace HB := xst hb; (try clear hb)) | ((with_reducible refine aW (N := 13) rfl ?_); (try (refine bd (by rfl) ?_; dsimp only)); refine Kd.R_lit (Kd.int .i32) _ 21 ?hg (N := 13) ?hd (xs := ([98, 252, 99, 104, 101, 114] : List Int)) (inner := [.int .i32 98, .int .i32 252, .int .i32 99, .int .i32 104, .int .i32 101, .int .i32 114]) (ok := fun _ => True) (okp := fun _ => True) ?hr ?hp (fun _ hk => hk) trivial (Below.refl _ _) (Nat.le_refl _) (by simp) ?_; (case hd => rfl); (case hg => rfl); (case hr => first | (go_simp; done) | (go_simp; rfl)); (case hp => exact (Reps.one (show Kd.M (Kd.int .i32) _ _ _ 98 [.int .i32 98] from rfl) (Reps.one (show Kd.M (Kd.int .i32) _ _ _ 252 [.int .i32 252] from rfl) (Reps.one (show Kd.M (Kd.int .i32) _ _ _ 99 [.int .i32 99] from rfl) (Reps.one (show Kd.M (Kd.int .i32) _ _ _ 104 [.int .i32 104] from rfl) (Reps.one (show Kd.M (Kd.int .i32) _ _ _ 101 [.int .i32 101] from rfl) (Reps.one (show Kd.M (Kd.int .i32) _ _ _ 114 [.int .i32 114] from rfl) (Reps.none _ _)))))))); intro v155 w44 ho45 hb hg_ hnew_; clear hg_ hnew_; (first | rw [← Ae.out] at ho45 | (simp only [Int.reduceToNat] at ho45; rw [← Ae.out] at ho45)); have Ab := Zz.mk (Kd.R_lower (Kd.R_new' ho45 (Kd.R_lt (xkd Aa))) (af xbl)); replace Aa := Zz.mk (Kd.R_elder' (xkd Aa) (Kd.R_base ho45) hb); replace HB := xst hb; clear hb ho45; obtain ⟨Ao46, co46, eo46⟩ := Kd.R_slice Ab.out; subst eo46) | ((with_reducible refine ae (f := 18) rfl ?_); refine xgl 14 Try.func18 #[.slice Ao46 Ah.length co46] ?_; (with_reducible refine (au k _ _ Ah Am An _ ?side1 ?side2 A2.out).mono ?_); (case side1 => repeat (first | exact (Kd.R_reads' Ab.out).2.2 | (with_reducible refine Kd.C_alloc ?_ _) | (with_reducible refine Kd.C_drewN ?_ _) | (with_reducible refine Kd.C_drew ?_))); (case side2 => exact (Kd.R_reads' Ab.out).2.1); rintro e w47 ⟨rfl, hb⟩; refine ⟨_, rfl, ?_⟩; replace Aa := Zz.mk (Kd.R_below (xkd Aa) hb); replace Ab := Zz.mk (Kd.R_below (xkd Ab) hb); replace HB := xst hb; (try clear hb)) | ((with_reducible refine ae (f := 7) rfl ?_); refine xgl 18 Try.func7 #[.string (⟨#[98, 99, 104, 101, 114, 45, 107, 118, 97]⟩ : ByteArray)] ?_; (with_reducible refine (bb k (⟨#[98, 99, 104, 101, 114, 45, 107, 118, 97]⟩ : ByteArray) Af Ao _ A3.out).mono ?_); rintro e w48 ⟨v161, rfl, ho0, hb⟩; refine ⟨_, rfl, ?_⟩; have Ai := Zz.mk (Kd.R_lower (Kd.R_new' (Kd.R_new' ho0 (Kd.R_lt (xkd Aa))) (Kd.R_lt (xkd Ab))) (af xbl)); replace Aa := Zz.mk (Kd.R_elder' (xkd Aa) (Kd.R_base ho0) hb); replace Ab := Zz.mk (Kd.R_elder' (xkd Ab) (Kd.R_base ho0) hb); replace HB := xst hb; (try clear hb); (try clear ho0)))
     go_ret
     exact ⟨xre, xbl⟩
   ·
    rw [if_neg c6] at H
    have Ax : (Am.toList == ([98, 99, 104, 101, 114, 45, 107, 118, 97] : List UInt8)) = false := beq_eq_false_iff_ne.mpr c6
    have Ay : (Am.toList != ([98, 99, 104, 101, 114, 45, 107, 118, 97] : List UInt8)) = true := bne_iff_ne.mpr c6
    obtain rfl := Option.some.inj H
    go_enter Try.func6, Try.ntmps6
    go_wp2_with (first | ((with_reducible refine aW (N := 8) rfl ?_); (try (refine bd (by rfl) ?_; dsimp only)); refine Kd.R_lit (Kd.int .i32) _ 21 ?hg (N := 8) ?hd (xs := ([252] : List Int)) (inner := [.int .i32 252]) (ok := fun _ => True) (okp := fun _ => True) ?hr ?hp (fun _ hk => hk) trivial (Below.refl _ _) (Nat.le_refl _) (by simp) ?_; (case hd => rfl); (case hg => rfl); (case hr => first | (go_simp; done) | (go_simp; rfl)); (case hp => exact (Reps.one (show Kd.M (Kd.int .i32) _ _ _ 252 [.int .i32 252] from rfl) (Reps.none _ _))); intro v150 w49 ho50 hb hg_ hnew_; clear hg_ hnew_; (first | rw [← Ad.out] at ho50 | (simp only [Int.reduceToNat] at ho50; rw [← Ad.out] at ho50)); have Aa := Zz.mk (Kd.R_lower ho50 (af xbl)); replace HB := xst hb; clear hb ho50; obtain ⟨Ao51, co51, eo51⟩ := Kd.R_slice Aa.out; subst eo51) | ((with_reducible refine ae (f := 18) rfl ?_); refine xgl 9 Try.func18 #[.slice Ao51 Ag.length co51] ?_; (with_reducible refine (au k _ _ Ag Aj Ak _ ?side1 ?side2 A1.out).mono ?_); (case side1 => repeat (first | exact (Kd.R_reads' Aa.out).2.2 | (with_reducible refine Kd.C_alloc ?_ _) | (with_reducible refine Kd.C_drewN ?_ _) | (with_reducible refine Kd.C_drew ?_))); (case side2 => exact (Kd.R_reads' Aa.out).2.1); rintro e w52 ⟨rfl, hb⟩; refine ⟨_, rfl, ?_⟩; replace Aa := Zz.mk (Kd.R_below (xkd Aa) hb); replace HB := xst hb; (try clear hb)) | ((with_reducible refine aW (N := 13) rfl ?_); (try (refine bd (by rfl) ?_; dsimp only)); refine Kd.R_lit (Kd.int .i32) _ 21 ?hg (N := 13) ?hd (xs := ([98, 252, 99, 104, 101, 114] : List Int)) (inner := [.int .i32 98, .int .i32 252, .int .i32 99, .int .i32 104, .int .i32 101, .int .i32 114]) (ok := fun _ => True) (okp := fun _ => True) ?hr ?hp (fun _ hk => hk) trivial (Below.refl _ _) (Nat.le_refl _) (by simp) ?_; (case hd => rfl); (case hg => rfl); (case hr => first | (go_simp; done) | (go_simp; rfl)); (case hp => exact (Reps.one (show Kd.M (Kd.int .i32) _ _ _ 98 [.int .i32 98] from rfl) (Reps.one (show Kd.M (Kd.int .i32) _ _ _ 252 [.int .i32 252] from rfl) (Reps.one (show Kd.M (Kd.int .i32) _ _ _ 99 [.int .i32 99] from rfl) (Reps.one (show Kd.M (Kd.int .i32) _ _ _ 104 [.int .i32 104] from rfl) (Reps.one (show Kd.M (Kd.int .i32) _ _ _ 101 [.int .i32 101] from rfl) (Reps.one (show Kd.M (Kd.int .i32) _ _ _ 114 [.int .i32 114] from rfl) (Reps.none _ _)))))))); intro v155 w53 ho54 hb hg_ hnew_; clear hg_ hnew_; (first | rw [← Ae.out] at ho54 | (simp only [Int.reduceToNat] at ho54; rw [← Ae.out] at ho54)); have Ab := Zz.mk (Kd.R_lower (Kd.R_new' ho54 (Kd.R_lt (xkd Aa))) (af xbl)); replace Aa := Zz.mk (Kd.R_elder' (xkd Aa) (Kd.R_base ho54) hb); replace HB := xst hb; clear hb ho54; obtain ⟨Ao55, co55, eo55⟩ := Kd.R_slice Ab.out; subst eo55) | ((with_reducible refine ae (f := 18) rfl ?_); refine xgl 14 Try.func18 #[.slice Ao55 Ah.length co55] ?_; (with_reducible refine (au k _ _ Ah Am An _ ?side1 ?side2 A2.out).mono ?_); (case side1 => repeat (first | exact (Kd.R_reads' Ab.out).2.2 | (with_reducible refine Kd.C_alloc ?_ _) | (with_reducible refine Kd.C_drewN ?_ _) | (with_reducible refine Kd.C_drew ?_))); (case side2 => exact (Kd.R_reads' Ab.out).2.1); rintro e w56 ⟨rfl, hb⟩; refine ⟨_, rfl, ?_⟩; replace Aa := Zz.mk (Kd.R_below (xkd Aa) hb); replace Ab := Zz.mk (Kd.R_below (xkd Ab) hb); replace HB := xst hb; (try clear hb)) | ((with_reducible refine ae (f := 7) rfl ?_); refine xgl 18 Try.func7 #[.string (⟨#[98, 99, 104, 101, 114, 45, 107, 118, 97]⟩ : ByteArray)] ?_; (with_reducible refine (bb k (⟨#[98, 99, 104, 101, 114, 45, 107, 118, 97]⟩ : ByteArray) Af Ao _ A3.out).mono ?_); rintro e w57 ⟨v161, rfl, ho0, hb⟩; refine ⟨_, rfl, ?_⟩; have Ai := Zz.mk (Kd.R_lower (Kd.R_new' (Kd.R_new' ho0 (Kd.R_lt (xkd Aa))) (Kd.R_lt (xkd Ab))) (af xbl)); replace Aa := Zz.mk (Kd.R_elder' (xkd Aa) (Kd.R_base ho0) hb); replace Ab := Zz.mk (Kd.R_elder' (xkd Ab) (Kd.R_base ho0) hb); replace HB := xst hb; (try clear hb); (try clear ho0)))
    go_ret
    exact ⟨xre, xbl⟩
  ·
   rw [if_neg c5] at H
   have Av : (Ak == 0) = false := beq_eq_false_iff_ne.mpr c5
   have Aw : (Ak != 0) = true := bne_iff_ne.mpr c5
   obtain rfl := Option.some.inj H
   go_enter Try.func6, Try.ntmps6
   go_wp2_with (first | ((with_reducible refine aW (N := 8) rfl ?_); (try (refine bd (by rfl) ?_; dsimp only)); refine Kd.R_lit (Kd.int .i32) _ 21 ?hg (N := 8) ?hd (xs := ([252] : List Int)) (inner := [.int .i32 252]) (ok := fun _ => True) (okp := fun _ => True) ?hr ?hp (fun _ hk => hk) trivial (Below.refl _ _) (Nat.le_refl _) (by simp) ?_; (case hd => rfl); (case hg => rfl); (case hr => first | (go_simp; done) | (go_simp; rfl)); (case hp => exact (Reps.one (show Kd.M (Kd.int .i32) _ _ _ 252 [.int .i32 252] from rfl) (Reps.none _ _))); intro v150 w58 ho59 hb hg_ hnew_; clear hg_ hnew_; (first | rw [← Ad.out] at ho59 | (simp only [Int.reduceToNat] at ho59; rw [← Ad.out] at ho59)); have Aa := Zz.mk (Kd.R_lower ho59 (af xbl)); replace HB := xst hb; clear hb ho59; obtain ⟨Ao60, co60, eo60⟩ := Kd.R_slice Aa.out; subst eo60) | ((with_reducible refine ae (f := 18) rfl ?_); refine xgl 9 Try.func18 #[.slice Ao60 Ag.length co60] ?_; (with_reducible refine (au k _ _ Ag Aj Ak _ ?side1 ?side2 A1.out).mono ?_); (case side1 => repeat (first | exact (Kd.R_reads' Aa.out).2.2 | (with_reducible refine Kd.C_alloc ?_ _) | (with_reducible refine Kd.C_drewN ?_ _) | (with_reducible refine Kd.C_drew ?_))); (case side2 => exact (Kd.R_reads' Aa.out).2.1); rintro e w61 ⟨rfl, hb⟩; refine ⟨_, rfl, ?_⟩; replace Aa := Zz.mk (Kd.R_below (xkd Aa) hb); replace HB := xst hb; (try clear hb)) | ((with_reducible refine aW (N := 13) rfl ?_); (try (refine bd (by rfl) ?_; dsimp only)); refine Kd.R_lit (Kd.int .i32) _ 21 ?hg (N := 13) ?hd (xs := ([98, 252, 99, 104, 101, 114] : List Int)) (inner := [.int .i32 98, .int .i32 252, .int .i32 99, .int .i32 104, .int .i32 101, .int .i32 114]) (ok := fun _ => True) (okp := fun _ => True) ?hr ?hp (fun _ hk => hk) trivial (Below.refl _ _) (Nat.le_refl _) (by simp) ?_; (case hd => rfl); (case hg => rfl); (case hr => first | (go_simp; done) | (go_simp; rfl)); (case hp => exact (Reps.one (show Kd.M (Kd.int .i32) _ _ _ 98 [.int .i32 98] from rfl) (Reps.one (show Kd.M (Kd.int .i32) _ _ _ 252 [.int .i32 252] from rfl) (Reps.one (show Kd.M (Kd.int .i32) _ _ _ 99 [.int .i32 99] from rfl) (Reps.one (show Kd.M (Kd.int .i32) _ _ _ 104 [.int .i32 104] from rfl) (Reps.one (show Kd.M (Kd.int .i32) _ _ _ 101 [.int .i32 101] from rfl) (Reps.one (show Kd.M (Kd.int .i32) _ _ _ 114 [.int .i32 114] from rfl) (Reps.none _ _)))))))); intro v155 w62 ho63 hb hg_ hnew_; clear hg_ hnew_; (first | rw [← Ae.out] at ho63 | (simp only [Int.reduceToNat] at ho63; rw [← Ae.out] at ho63)); have Ab := Zz.mk (Kd.R_lower (Kd.R_new' ho63 (Kd.R_lt (xkd Aa))) (af xbl)); replace Aa := Zz.mk (Kd.R_elder' (xkd Aa) (Kd.R_base ho63) hb); replace HB := xst hb; clear hb ho63; obtain ⟨Ao64, co64, eo64⟩ := Kd.R_slice Ab.out; subst eo64) | ((with_reducible refine ae (f := 18) rfl ?_); refine xgl 14 Try.func18 #[.slice Ao64 Ah.length co64] ?_; (with_reducible refine (au k _ _ Ah Am An _ ?side1 ?side2 A2.out).mono ?_); (case side1 => repeat (first | exact (Kd.R_reads' Ab.out).2.2 | (with_reducible refine Kd.C_alloc ?_ _) | (with_reducible refine Kd.C_drewN ?_ _) | (with_reducible refine Kd.C_drew ?_))); (case side2 => exact (Kd.R_reads' Ab.out).2.1); rintro e w65 ⟨rfl, hb⟩; refine ⟨_, rfl, ?_⟩; replace Aa := Zz.mk (Kd.R_below (xkd Aa) hb); replace Ab := Zz.mk (Kd.R_below (xkd Ab) hb); replace HB := xst hb; (try clear hb)) | ((with_reducible refine ae (f := 7) rfl ?_); refine xgl 18 Try.func7 #[.string (⟨#[98, 99, 104, 101, 114, 45, 107, 118, 97]⟩ : ByteArray)] ?_; (with_reducible refine (bb k (⟨#[98, 99, 104, 101, 114, 45, 107, 118, 97]⟩ : ByteArray) Af Ao _ A3.out).mono ?_); rintro e w66 ⟨v161, rfl, ho0, hb⟩; refine ⟨_, rfl, ?_⟩; have Ai := Zz.mk (Kd.R_lower (Kd.R_new' (Kd.R_new' ho0 (Kd.R_lt (xkd Aa))) (Kd.R_lt (xkd Ab))) (af xbl)); replace Aa := Zz.mk (Kd.R_elder' (xkd Aa) (Kd.R_base ho0) hb); replace Ab := Zz.mk (Kd.R_elder' (xkd Ab) (Kd.R_base ho0) hb); replace HB := xst hb; (try clear hb); (try clear ho0)))
   go_ret
   exact ⟨xre, xbl⟩
 ·
  rw [if_neg c4] at H
  have At : (Aj.toList == ([116, 100, 97] : List UInt8)) = false := beq_eq_false_iff_ne.mpr c4
  have Au : (Aj.toList != ([116, 100, 97] : List UInt8)) = true := bne_iff_ne.mpr c4
  obtain rfl := Option.some.inj H
  go_enter Try.func6, Try.ntmps6
  go_wp2_with (first | ((with_reducible refine aW (N := 8) rfl ?_); (try (refine bd (by rfl) ?_; dsimp only)); refine Kd.R_lit (Kd.int .i32) _ 21 ?hg (N := 8) ?hd (xs := ([252] : List Int)) (inner := [.int .i32 252]) (ok := fun _ => True) (okp := fun _ => True) ?hr ?hp (fun _ hk => hk) trivial (Below.refl _ _) (Nat.le_refl _) (by simp) ?_; (case hd => rfl); (case hg => rfl); (case hr => first | (go_simp; done) | (go_simp; rfl)); (case hp => exact (Reps.one (show Kd.M (Kd.int .i32) _ _ _ 252 [.int .i32 252] from rfl) (Reps.none _ _))); intro v150 w67 ho68 hb hg_ hnew_; clear hg_ hnew_; (first | rw [← Ad.out] at ho68 | (simp only [Int.reduceToNat] at ho68; rw [← Ad.out] at ho68)); have Aa := Zz.mk (Kd.R_lower ho68 (af xbl)); replace HB := xst hb; clear hb ho68; obtain ⟨Ao69, co69, eo69⟩ := Kd.R_slice Aa.out; subst eo69) | ((with_reducible refine ae (f := 18) rfl ?_); refine xgl 9 Try.func18 #[.slice Ao69 Ag.length co69] ?_; (with_reducible refine (au k _ _ Ag Aj Ak _ ?side1 ?side2 A1.out).mono ?_); (case side1 => repeat (first | exact (Kd.R_reads' Aa.out).2.2 | (with_reducible refine Kd.C_alloc ?_ _) | (with_reducible refine Kd.C_drewN ?_ _) | (with_reducible refine Kd.C_drew ?_))); (case side2 => exact (Kd.R_reads' Aa.out).2.1); rintro e w70 ⟨rfl, hb⟩; refine ⟨_, rfl, ?_⟩; replace Aa := Zz.mk (Kd.R_below (xkd Aa) hb); replace HB := xst hb; (try clear hb)) | ((with_reducible refine aW (N := 13) rfl ?_); (try (refine bd (by rfl) ?_; dsimp only)); refine Kd.R_lit (Kd.int .i32) _ 21 ?hg (N := 13) ?hd (xs := ([98, 252, 99, 104, 101, 114] : List Int)) (inner := [.int .i32 98, .int .i32 252, .int .i32 99, .int .i32 104, .int .i32 101, .int .i32 114]) (ok := fun _ => True) (okp := fun _ => True) ?hr ?hp (fun _ hk => hk) trivial (Below.refl _ _) (Nat.le_refl _) (by simp) ?_; (case hd => rfl); (case hg => rfl); (case hr => first | (go_simp; done) | (go_simp; rfl)); (case hp => exact (Reps.one (show Kd.M (Kd.int .i32) _ _ _ 98 [.int .i32 98] from rfl) (Reps.one (show Kd.M (Kd.int .i32) _ _ _ 252 [.int .i32 252] from rfl) (Reps.one (show Kd.M (Kd.int .i32) _ _ _ 99 [.int .i32 99] from rfl) (Reps.one (show Kd.M (Kd.int .i32) _ _ _ 104 [.int .i32 104] from rfl) (Reps.one (show Kd.M (Kd.int .i32) _ _ _ 101 [.int .i32 101] from rfl) (Reps.one (show Kd.M (Kd.int .i32) _ _ _ 114 [.int .i32 114] from rfl) (Reps.none _ _)))))))); intro v155 w71 ho72 hb hg_ hnew_; clear hg_ hnew_; (first | rw [← Ae.out] at ho72 | (simp only [Int.reduceToNat] at ho72; rw [← Ae.out] at ho72)); have Ab := Zz.mk (Kd.R_lower (Kd.R_new' ho72 (Kd.R_lt (xkd Aa))) (af xbl)); replace Aa := Zz.mk (Kd.R_elder' (xkd Aa) (Kd.R_base ho72) hb); replace HB := xst hb; clear hb ho72; obtain ⟨Ao73, co73, eo73⟩ := Kd.R_slice Ab.out; subst eo73) | ((with_reducible refine ae (f := 18) rfl ?_); refine xgl 14 Try.func18 #[.slice Ao73 Ah.length co73] ?_; (with_reducible refine (au k _ _ Ah Am An _ ?side1 ?side2 A2.out).mono ?_); (case side1 => repeat (first | exact (Kd.R_reads' Ab.out).2.2 | (with_reducible refine Kd.C_alloc ?_ _) | (with_reducible refine Kd.C_drewN ?_ _) | (with_reducible refine Kd.C_drew ?_))); (case side2 => exact (Kd.R_reads' Ab.out).2.1); rintro e w74 ⟨rfl, hb⟩; refine ⟨_, rfl, ?_⟩; replace Aa := Zz.mk (Kd.R_below (xkd Aa) hb); replace Ab := Zz.mk (Kd.R_below (xkd Ab) hb); replace HB := xst hb; (try clear hb)) | ((with_reducible refine ae (f := 7) rfl ?_); refine xgl 18 Try.func7 #[.string (⟨#[98, 99, 104, 101, 114, 45, 107, 118, 97]⟩ : ByteArray)] ?_; (with_reducible refine (bb k (⟨#[98, 99, 104, 101, 114, 45, 107, 118, 97]⟩ : ByteArray) Af Ao _ A3.out).mono ?_); rintro e w75 ⟨v161, rfl, ho0, hb⟩; refine ⟨_, rfl, ?_⟩; have Ai := Zz.mk (Kd.R_lower (Kd.R_new' (Kd.R_new' ho0 (Kd.R_lt (xkd Aa))) (Kd.R_lt (xkd Ab))) (af xbl)); replace Aa := Zz.mk (Kd.R_elder' (xkd Aa) (Kd.R_base ho0) hb); replace Ab := Zz.mk (Kd.R_elder' (xkd Ab) (Kd.R_base ho0) hb); replace HB := xst hb; (try clear hb); (try clear ho0)))
  go_ret
  exact ⟨xre, xbl⟩
def av : Nat → Int → Int → Option (Int)
  | 0, _, _ => none
  | k + 1, x0, x3 => if x3 < 36 then (if 0 ≤ x3 then (if (bt (⟨#[97, 98, 99, 100, 101, 102, 103, 104, 105, 106, 107, 108, 109, 110, 111, 112, 113, 114, 115, 116, 117, 118, 119, 120, 121, 122, 48, 49, 50, 51, 52, 53, 54, 55, 56, 57]⟩ : ByteArray) x3) = x0 then (some x3) else (if x3 < 26 then (if x0 = (((bt (⟨#[97, 98, 99, 100, 101, 102, 103, 104, 105, 106, 107, 108, 109, 110, 111, 112, 113, 114, 115, 116, 117, 118, 119, 120, 121, 122, 48, 49, 50, 51, 52, 53, 54, 55, 56, 57]⟩ : ByteArray) x3) - 32) % 256) then (some x3) else (av k x0 (wrap64 (x3 + 1)))) else (av k x0 (wrap64 (x3 + 1))))) else (none)) else (some (-1))
def an (k : Nat) (a0 : Int) : Option (Int) := av k a0 0
theorem bZ : ∀ k, (∀ y0 y1, LeO (av k y0 y1) (av (k + 1) y0 y1))
  | 0 => fun _ _ r h => by simp [av] at h
  | k + 1 => by
    have ih0 := bZ k
    · intro y0 y1
      unfold av
      exact xmo
theorem cM : ∀ a0 k, LeO (an k a0) (an (k + 1) a0) := by
  intro a0 k
  have ih0 := bZ k
  unfold an
  exact xmo
theorem ah (k : Nat) (a0 : Int) (r : Int) (w : World) (h : an k a0 = some r) :
    Calls Try.prog 12 #[.int .u8 a0] w fun e w' => e = .returned (.int .i64 r) ∧ Drawn0 w w' := by
 have H : (av k a0 0) = some r := h
 clear h
 have H' := Zz.mk H
 clear H
 go_enter Try.func12, Try.ntmps12
 go_wp2
 go_loopg [3] k (fun kq v3 w' => ∃ (Aa : Int), v3 = .int .i64 Aa ∧ Zz (av kq a0 Aa = some r) ∧ Zz (kq ≤ k) ∧ Drawn0 w w')
 case atStart => exact ⟨(0), xrr, H', ⟨Nat.le_refl _⟩, xdr⟩
 case round =>
  clear H'
  obtain ⟨Aa, rfl, HA, HK1, ⟨m1, rfl⟩⟩ := hrel
  cases gk with
  | zero => exact absurd HA.out (by simp [av])
  | succ k1 =>
   have H := HA.out
   clear HA
   simp only [av] at H
   by_cases c2 : Aa < 36
   ·
    rw [if_pos c2] at H
    have Ac := decide_eq_true c2
    clear c2
    by_cases c3 : 0 ≤ Aa
    ·
     rw [if_pos c3] at H
     have Aj := decide_eq_true c3
     clear c3
     by_cases c5 : (bt (⟨#[97, 98, 99, 100, 101, 102, 103, 104, 105, 106, 107, 108, 109, 110, 111, 112, 113, 114, 115, 116, 117, 118, 119, 120, 121, 122, 48, 49, 50, 51, 52, 53, 54, 55, 56, 57]⟩ : ByteArray) Aa) = a0
     ·
      rw [if_pos c5] at H
      have Ad : ((bt (⟨#[97, 98, 99, 100, 101, 102, 103, 104, 105, 106, 107, 108, 109, 110, 111, 112, 113, 114, 115, 116, 117, 118, 119, 120, 121, 122, 48, 49, 50, 51, 52, 53, 54, 55, 56, 57]⟩ : ByteArray) Aa) == a0) = true := beq_iff_eq.mpr c5
      have Ae : ((bt (⟨#[97, 98, 99, 100, 101, 102, 103, 104, 105, 106, 107, 108, 109, 110, 111, 112, 113, 114, 115, 116, 117, 118, 119, 120, 121, 122, 48, 49, 50, 51, 52, 53, 54, 55, 56, 57]⟩ : ByteArray) Aa) != a0) = false := bne_eq_false_iff_eq.mpr c5
      clear c5
      obtain rfl := Option.some.inj H
      have p4 : 0 ≤ (Aa : Int) := xod
      have q4 : Aa < (36 : Int) := xod
      have hx4 := be (⟨#[97, 98, 99, 100, 101, 102, 103, 104, 105, 106, 107, 108, 109, 110, 111, 112, 113, 114, 115, 116, 117, 118, 119, 120, 121, 122, 48, 49, 50, 51, 52, 53, 54, 55, 56, 57]⟩ : ByteArray) Aa
      replace p4 := eq_true p4
      replace q4 := eq_true q4
      try (have Ab := q4; simp only [ByteArray.size_extract, Nat.min_self] at Ab)
      go_wp2
      go_ret
      exact ⟨xrr, xdr⟩
     ·
      rw [if_neg c5] at H
      have Ad : ((bt (⟨#[97, 98, 99, 100, 101, 102, 103, 104, 105, 106, 107, 108, 109, 110, 111, 112, 113, 114, 115, 116, 117, 118, 119, 120, 121, 122, 48, 49, 50, 51, 52, 53, 54, 55, 56, 57]⟩ : ByteArray) Aa) == a0) = false := beq_eq_false_iff_ne.mpr c5
      have Ae : ((bt (⟨#[97, 98, 99, 100, 101, 102, 103, 104, 105, 106, 107, 108, 109, 110, 111, 112, 113, 114, 115, 116, 117, 118, 119, 120, 121, 122, 48, 49, 50, 51, 52, 53, 54, 55, 56, 57]⟩ : ByteArray) Aa) != a0) = true := bne_iff_ne.mpr c5
      by_cases c6 : Aa < 26
      ·
       rw [if_pos c6] at H
       have Af := decide_eq_true c6
       clear c6
       by_cases c8 : a0 = (((bt (⟨#[97, 98, 99, 100, 101, 102, 103, 104, 105, 106, 107, 108, 109, 110, 111, 112, 113, 114, 115, 116, 117, 118, 119, 120, 121, 122, 48, 49, 50, 51, 52, 53, 54, 55, 56, 57]⟩ : ByteArray) Aa) - 32) % 256)
       ·
        rw [if_pos c8] at H
        have Ag : (a0 == (((bt (⟨#[97, 98, 99, 100, 101, 102, 103, 104, 105, 106, 107, 108, 109, 110, 111, 112, 113, 114, 115, 116, 117, 118, 119, 120, 121, 122, 48, 49, 50, 51, 52, 53, 54, 55, 56, 57]⟩ : ByteArray) Aa) - 32) % 256)) = true := beq_iff_eq.mpr c8
        have Ah : (a0 != (((bt (⟨#[97, 98, 99, 100, 101, 102, 103, 104, 105, 106, 107, 108, 109, 110, 111, 112, 113, 114, 115, 116, 117, 118, 119, 120, 121, 122, 48, 49, 50, 51, 52, 53, 54, 55, 56, 57]⟩ : ByteArray) Aa) - 32) % 256)) = false := bne_eq_false_iff_eq.mpr c8
        clear c8
        obtain rfl := Option.some.inj H
        have p4 : 0 ≤ (Aa : Int) := xod
        have q4 : Aa < (36 : Int) := xod
        have hx4 := be (⟨#[97, 98, 99, 100, 101, 102, 103, 104, 105, 106, 107, 108, 109, 110, 111, 112, 113, 114, 115, 116, 117, 118, 119, 120, 121, 122, 48, 49, 50, 51, 52, 53, 54, 55, 56, 57]⟩ : ByteArray) Aa
        replace p4 := eq_true p4
        replace q4 := eq_true q4
        try (have Ab := q4; simp only [ByteArray.size_extract, Nat.min_self] at Ab)
        have p7 : 0 ≤ (Aa : Int) := xod
        have q7 : Aa < (36 : Int) := xod
        have hx7 := be (⟨#[97, 98, 99, 100, 101, 102, 103, 104, 105, 106, 107, 108, 109, 110, 111, 112, 113, 114, 115, 116, 117, 118, 119, 120, 121, 122, 48, 49, 50, 51, 52, 53, 54, 55, 56, 57]⟩ : ByteArray) Aa
        replace p7 := eq_true p7
        replace q7 := eq_true q7
        try (have Ai := q7; simp only [ByteArray.size_extract, Nat.min_self] at Ai)
        go_wp2
        go_ret
        exact ⟨xrr, xdr⟩
       ·
        rw [if_neg c8] at H
        have Ag : (a0 == (((bt (⟨#[97, 98, 99, 100, 101, 102, 103, 104, 105, 106, 107, 108, 109, 110, 111, 112, 113, 114, 115, 116, 117, 118, 119, 120, 121, 122, 48, 49, 50, 51, 52, 53, 54, 55, 56, 57]⟩ : ByteArray) Aa) - 32) % 256)) = false := beq_eq_false_iff_ne.mpr c8
        have Ah : (a0 != (((bt (⟨#[97, 98, 99, 100, 101, 102, 103, 104, 105, 106, 107, 108, 109, 110, 111, 112, 113, 114, 115, 116, 117, 118, 119, 120, 121, 122, 48, 49, 50, 51, 52, 53, 54, 55, 56, 57]⟩ : ByteArray) Aa) - 32) % 256)) = true := bne_iff_ne.mpr c8
        have H' := Zz.mk H
        clear H
        have p4 : 0 ≤ (Aa : Int) := xod
        have q4 : Aa < (36 : Int) := xod
        have hx4 := be (⟨#[97, 98, 99, 100, 101, 102, 103, 104, 105, 106, 107, 108, 109, 110, 111, 112, 113, 114, 115, 116, 117, 118, 119, 120, 121, 122, 48, 49, 50, 51, 52, 53, 54, 55, 56, 57]⟩ : ByteArray) Aa
        replace p4 := eq_true p4
        replace q4 := eq_true q4
        try (have Ab := q4; simp only [ByteArray.size_extract, Nat.min_self] at Ab)
        have p7 : 0 ≤ (Aa : Int) := xod
        have q7 : Aa < (36 : Int) := xod
        have hx7 := be (⟨#[97, 98, 99, 100, 101, 102, 103, 104, 105, 106, 107, 108, 109, 110, 111, 112, 113, 114, 115, 116, 117, 118, 119, 120, 121, 122, 48, 49, 50, 51, 52, 53, 54, 55, 56, 57]⟩ : ByteArray) Aa
        replace p7 := eq_true p7
        replace q7 := eq_true q7
        try (have Ai := q7; simp only [ByteArray.size_extract, Nat.min_self] at Ai)
        go_wp2
        go_roundg k1
        case measure => have := HK1.out; omega
        case rel => exact ⟨(wrap64 (Aa + 1)), xrr, H', ⟨by have := HK1.out; omega⟩, xdr⟩
      ·
       rw [if_neg c6] at H
       have Af := decide_eq_false c6
       clear c6
       have H' := Zz.mk H
       clear H
       have p4 : 0 ≤ (Aa : Int) := xod
       have q4 : Aa < (36 : Int) := xod
       have hx4 := be (⟨#[97, 98, 99, 100, 101, 102, 103, 104, 105, 106, 107, 108, 109, 110, 111, 112, 113, 114, 115, 116, 117, 118, 119, 120, 121, 122, 48, 49, 50, 51, 52, 53, 54, 55, 56, 57]⟩ : ByteArray) Aa
       replace p4 := eq_true p4
       replace q4 := eq_true q4
       try (have Ab := q4; simp only [ByteArray.size_extract, Nat.min_self] at Ab)
       go_wp2
       go_roundg k1
       case measure => have := HK1.out; omega
       case rel => exact ⟨(wrap64 (Aa + 1)), xrr, H', ⟨by have := HK1.out; omega⟩, xdr⟩
    ·
     rw [if_neg c3] at H
     exact absurd H (by simp)
   ·
    rw [if_neg c2] at H
    have Ac := decide_eq_false c2
    clear c2
    obtain rfl := Option.some.inj H
    go_wp2
    go_ret
    exact ⟨xrr, xdr⟩
def bf (a0 : Int) (a1 : Int) : Option (Int) := if (wrap64 (a0 - a1)) < 1 then (some 1) else (if (wrap64 (a0 - a1)) > 26 then (some 26) else (some (wrap64 (a0 - a1))))
theorem aH (a0 : Int) (a1 : Int) (r : Int) (w : World) (h : bf a0 a1 = some r) :
    Calls Try.prog 15 #[.int .i64 a0, .int .i64 a1] w fun e w' => e = .returned (.int .i64 r) ∧ Drawn0 w w' := by
 have H : (if (wrap64 (a0 - a1)) < 1 then (some 1) else (if (wrap64 (a0 - a1)) > 26 then (some 26) else (some (wrap64 (a0 - a1))))) = some r := h
 clear h
 by_cases c3 : (wrap64 (a0 - a1)) < 1
 ·
  rw [if_pos c3] at H
  have c3b0 := decide_eq_true c3
  clear c3
  obtain rfl := Option.some.inj H
  go_enter Try.func15, Try.ntmps15
  go_wp2
  go_ret
  exact ⟨xrr, xdr⟩
 ·
  rw [if_neg c3] at H
  have c3b0 := decide_eq_false c3
  clear c3
  by_cases c4 : (wrap64 (a0 - a1)) > 26
  ·
   rw [if_pos c4] at H
   have c4b0 := decide_eq_true c4
   clear c4
   obtain rfl := Option.some.inj H
   go_enter Try.func15, Try.ntmps15
   go_wp2
   go_ret
   exact ⟨xrr, xdr⟩
  ·
   rw [if_neg c4] at H
   have c4b0 := decide_eq_false c4
   clear c4
   obtain rfl := Option.some.inj H
   go_enter Try.func15, Try.ntmps15
   go_wp2
   go_ret
   exact ⟨xrr, xdr⟩
end Go.Proofs.Ytediodhkimacjaa.X
