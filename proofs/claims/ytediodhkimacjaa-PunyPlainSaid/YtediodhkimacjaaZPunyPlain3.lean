/- The Go functions that a law reaches as plain Lean functions, and the proof that each call answers as they do: written by xprint.py, a program of this session over print.py of the kit, with hooks and contracts of its own. -/
import Derived.Test.YtediodhkimacjaaZPunyPlain0
import Derived.Test.YtediodhkimacjaaZPunyPlain1
import Derived.Test.YtediodhkimacjaaZPunyPlain2
import Derived.Lib.Bytealg
import Derived.Laws.Strings
import Derived.Test.YtediodhkimacjaaRows
import Derived.WalkKit
import Derived.ProofKit
import Derived.OpenShut
import Derived.ShutString
import Derived.ChangeOld
import Derived.Below
import Derived.SizedLaws
set_option maxHeartbeats 8000000
set_option maxRecDepth 100000
set_option linter.unusedSimpArgs false
set_option linter.unusedVariables false
namespace Go.Proofs.Ytediodhkimacjaa.X
open Go.RowKit Go.Proofs.YtediodhkimacjaaW.PrintWords Go.Proofs.YtediodhkimacjaaW.PrintLast Go.Proofs.YtediodhkimacjaaW.PrintMore
attribute [local go_sem] bL bF ck cC bK cv bm cp cr cA cB ca cd cq ct
mutual
def aq : Nat → List Int → List Int → List Int → Int → Int → Option (ByteArray × Int)
  | 0, _, _, _, _, _ => none
  | k + 1, x0, x4, Ab, Ac, Aa => if Aa < Ac then (if 0 ≤ Aa then (if Aa < (Ab.length : Int) then (if (rd Ab Aa) < 0 then (aT k x0 x4 (rd Ab Aa) Ab Ac Aa true) else (aT k x0 x4 (rd Ab Aa) Ab Ac Aa (decide ((rd Ab Aa) > 1114111)))) else (none)) else (none)) else (if (x4.length : Int) > 0 then (if x4.length < 140737488355328 then (aC k x0 (x4 ++ [45]) (x4.length : Int) (x4.length : Int)) else (none)) else (aC k x0 x4 (x4.length : Int) (x4.length : Int)))
def aT : Nat → List Int → List Int → Int → List Int → Int → Int → Bool → Option (ByteArray × Int)
  | 0, _, _, _, _, _, _, _ => none
  | k + 1, x0, x4, x6, x15, x16, x17, x26 => if x26 = true then (some ((⟨#[]⟩ : ByteArray), 7)) else (if x6 < 128 then (if x4.length < 140737488355328 then (aq k x0 (x4 ++ [(x6) % 256]) x15 x16 (wrap64 (x17 + 1))) else (none)) else (aq k x0 x4 x15 x16 (wrap64 (x17 + 1))))
def aC : Nat → List Int → List Int → Int → Int → Option (ByteArray × Int)
  | 0, _, _, _, _ => none
  | k + 1, x0, x4, x7, x8 => aG k x0 x4 x7 x8 128 0 72
def aG : Nat → List Int → List Int → Int → Int → Int → Int → Int → Option (ByteArray × Int)
  | 0, _, _, _, _, _, _, _ => none
  | k + 1, x0, x4, x7, x8, x9, x10, x11 => if x7 < (x0.length : Int) then ((bB k x0 x9).bind fun t143 => (if (wrap64 (x7 + 1)) = 0 then (none) else (if (wrap64 (wrap32 (t143 - x9))) > (wrap64 (Int.tdiv (wrap64 (2147483647 - x10)) (wrap64 (x7 + 1)))) then (some ((⟨#[]⟩ : ByteArray), 11)) else (aU k x0 x4 x7 x8 t143 (wrap64 (x10 + (wrap64 ((wrap64 (wrap32 (t143 - x9))) * (wrap64 (x7 + 1)))))) x11 x0 (x0.length : Int) 0)))) else (some (strOfNums x4, 0))
def aU : Nat → List Int → List Int → Int → Int → Int → Int → Int → List Int → Int → Int → Option (ByteArray × Int)
  | 0, _, _, _, _, _, _, _, _, _, _ => none
  | k + 1, x0, x4, x7, x8, x9, Ac, Ad, Ab, Ae, Aa => if Aa < Ae then (if 0 ≤ Aa then (if Aa < (Ab.length : Int) then (if (rd Ab Aa) < x9 then (aX k x0 x4 x7 x8 x9 (wrap64 (Ac + 1)) Ad (rd Ab Aa) Ab Ae Aa) else (aX k x0 x4 x7 x8 x9 Ac Ad (rd Ab Aa) Ab Ae Aa)) else (none)) else (none)) else (aG k x0 x4 x7 x8 (wrap32 (x9 + 1)) (wrap64 (Ac + 1)) Ad)
def aX : Nat → List Int → List Int → Int → Int → Int → Int → Int → Int → List Int → Int → Int → Option (ByteArray × Int)
  | 0, _, _, _, _, _, _, _, _, _, _, _ => none
  | k + 1, x0, x4, x7, x8, x9, Aa, Ad, Ah, Ae, Af, Ag => if Aa > 2147483647 then (some ((⟨#[]⟩ : ByteArray), 11)) else (if Ah = x9 then ((bz k x4 Aa Ad).bind fun Ab => ((bi k Aa (wrap64 (x7 + 1)) (x7 == x8)).bind fun Ac => (aU k x0 Ab (wrap64 (x7 + 1)) x8 x9 0 Ac Ae Af (wrap64 (Ag + 1))))) else (aU k x0 x4 x7 x8 x9 Aa Ad Ae Af (wrap64 (Ag + 1))))
end
def ax (k : Nat) (l0 : List Int) : Option (ByteArray × Int) := aq k l0 ([] : List Int) l0 (l0.length : Int) 0
theorem bV : ∀ k, (∀ y0 y1 y2 y3 y4, LeO (aq k y0 y1 y2 y3 y4) (aq (k + 1) y0 y1 y2 y3 y4)) ∧ (∀ y0 y1 y2 y3 y4 y5 y6, LeO (aT k y0 y1 y2 y3 y4 y5 y6) (aT (k + 1) y0 y1 y2 y3 y4 y5 y6)) ∧ (∀ y0 y1 y2 y3, LeO (aC k y0 y1 y2 y3) (aC (k + 1) y0 y1 y2 y3)) ∧ (∀ y0 y1 y2 y3 y4 y5 y6, LeO (aG k y0 y1 y2 y3 y4 y5 y6) (aG (k + 1) y0 y1 y2 y3 y4 y5 y6)) ∧ (∀ y0 y1 y2 y3 y4 y5 y6 y7 y8 y9, LeO (aU k y0 y1 y2 y3 y4 y5 y6 y7 y8 y9) (aU (k + 1) y0 y1 y2 y3 y4 y5 y6 y7 y8 y9)) ∧ (∀ y0 y1 y2 y3 y4 y5 y6 y7 y8 y9 y10, LeO (aX k y0 y1 y2 y3 y4 y5 y6 y7 y8 y9 y10) (aX (k + 1) y0 y1 y2 y3 y4 y5 y6 y7 y8 y9 y10))
  | 0 => ⟨fun _ _ _ _ _ r h => by simp [aq] at h, fun _ _ _ _ _ _ _ r h => by simp [aT] at h, fun _ _ _ _ r h => by simp [aC] at h, fun _ _ _ _ _ _ _ r h => by simp [aG] at h, fun _ _ _ _ _ _ _ _ _ _ r h => by simp [aU] at h, fun _ _ _ _ _ _ _ _ _ _ _ r h => by simp [aX] at h⟩
  | k + 1 => by
    obtain ⟨ih0, ih1, ih2, ih3, ih4, ih5⟩ := bV k
    have m0 := @bv; have m1 := @ci; have m2 := @cn
    refine ⟨?_, ?_, ?_, ?_, ?_, ?_⟩
    · intro y0 y1 y2 y3 y4
      unfold aq
      exact xmo
    · intro y0 y1 y2 y3 y4 y5 y6
      unfold aT
      exact xmo
    · intro y0 y1 y2 y3
      unfold aC
      exact xmo
    · intro y0 y1 y2 y3 y4 y5 y6
      unfold aG
      exact xmo
    · intro y0 y1 y2 y3 y4 y5 y6 y7 y8 y9
      unfold aU
      exact xmo
    · intro y0 y1 y2 y3 y4 y5 y6 y7 y8 y9 y10
      unfold aX
      exact xmo
theorem cF : ∀ a0 k, LeO (ax k a0) (ax (k + 1) a0) := by
  intro a0 k
  obtain ⟨ih0, ih1, ih2, ih3, ih4, ih5⟩ := bV k
  have m0 := @bv; have m1 := @ci; have m2 := @cn
  unfold ax
  exact xmo
theorem ag (k : Nat) (A0 : Option Addr) (c0 : Nat) (l0 : List Int) (r1 : ByteArray) (r2 : Int) (w : World) (hr0 : Kd.C (Kd.int .i32) w A0 l0.length l0) (hc0 : l0.length ≤ c0) (h : ax k l0 = some (r1, r2)) :
    Calls Try.prog 18 #[.slice A0 l0.length c0] w fun e w' => e = .returned (.tuple #[.string r1, .int .i64 r2]) ∧ Below w.heap.size w w' := by
 have HR0 := Zz.mk hr0
 have Ba := Zz.mk hc0
 clear hr0 hc0
 have HB := Zz.mk (Below.refl w.heap.size w)
 have H : (aq k l0 ([] : List Int) l0 (l0.length : Int) 0) = some (r1, r2) := h
 clear h
 have H' := Zz.mk H
 clear H
 go_enter Try.func18, Try.ntmps18
 go_wp2
 go_loopg [4, 17] k (fun kq v4 v17 w' => ∃ (Ad : List Int) (Aa : Int), v17 = .int .i64 Aa ∧ Zz (aq kq l0 Ad l0 (l0.length : Int) Aa = some (r1, r2)) ∧ Zz (kq ≤ k) ∧ Zz (Kd.R (Kd.int .u8) 5 w' w.heap.size (fun _ => True) v4 Ad) ∧ Zz (Below w.heap.size w w'))
 case atStart => exact ⟨(([] : List Int)), (0), xrr, H', ⟨Nat.le_refl _⟩, ⟨by first | exact Kd.R_nil _ _ _ _ _ | exact Kd.N_nil _ _ _ _ _ | exact Kd.V_nil _ _ _ _ _ | exact Kd.Q_nil _ _ _ _ _ | exact Kd.S_nil _ _ _ _ _⟩, ⟨xbl⟩⟩
 case round =>
  clear H'
  obtain ⟨Ad, Aa, rfl, HA, HK1, Ac, HB⟩ := hrel
  cases gk with
  | zero => exact absurd HA.out (by simp [aq])
  | succ k1 =>
   have H := HA.out
   clear HA
   simp only [aq] at H
   by_cases c2 : Aa < (l0.length : Int)
   ·
    rw [if_pos c2] at H
    have AD := decide_eq_true c2
    clear c2
    by_cases c3 : 0 ≤ Aa
    ·
     rw [if_pos c3] at H
     have A3 := decide_eq_true c3
     clear c3
     by_cases c4 : Aa < (l0.length : Int)
     ·
      rw [if_pos c4] at H
      have A4 := decide_eq_true c4
      clear c4
      have A5 := Zz.mk H
      clear H
      have p136 : 0 ≤ (Aa : Int) := xod
      have q136 : Aa < (l0.length : Int) := xod
      obtain ⟨Bb, e136, Ae⟩ := Kd.at_int HR0.out Aa p136 q136
      cases e136
      replace Ae := (HB.out.cell (World.block_lt_of_cell? w _ Ae)).trans Ae
      replace p136 := eq_true p136
      replace q136 := eq_true q136
      try (have AG := q136; simp only [ByteArray.size_extract, Nat.min_self] at AG)
      go_upto_region 5 with (fail)
      go_cut [26] (fun v26 wc => ∃ (kq : Nat) (At : Bool), v26 = .bool At ∧ Zz (aT kq l0 Ad (rd l0 Aa) l0 (l0.length : Int) Aa At = some (r1, r2)) ∧ Zz (kq ≤ k1) ∧ Zz (Kd.R (Kd.int .u8) 5 wc w.heap.size (fun _ => True) u4 Ad) ∧ Zz (Below w.heap.size w wc))
      case first =>
       have H := A5.out
       clear A5
       by_cases c6 : (rd l0 Aa) < 0
       ·
        rw [if_pos c6] at H
        have Aw := decide_eq_true c6
        clear c6
        (first | rw [Aw] | (simp only [bE, bD]; rw [Aw]) | (rw [A6]; (try simp only [Bool.not_false, Bool.not_true])) | (rw [A7]; (try simp only [Bool.not_false, Bool.not_true])) | rw [A8] | skip)
        have H' := Zz.mk H
        clear H
        go_wp2
        go_meet
        case rel => exact ⟨_, (true), xrr, H', ⟨by have := HK1.out; first | omega | exact Nat.le_refl _⟩, ⟨xkd Ac⟩, ⟨xbl⟩⟩
       ·
        rw [if_neg c6] at H
        have Aw := decide_eq_false c6
        clear c6
        (first | rw [Aw] | (simp only [bE, bD]; rw [Aw]) | (rw [A6]; (try simp only [Bool.not_false, Bool.not_true])) | (rw [A7]; (try simp only [Bool.not_false, Bool.not_true])) | rw [A8] | skip)
        have H' := Zz.mk H
        clear H
        go_wp2
        go_meet
        case rel => exact ⟨_, (decide ((rd l0 Aa) > 1114111)), xrr, H', ⟨by have := HK1.out; first | omega | exact Nat.le_refl _⟩, ⟨xkd Ac⟩, ⟨xbl⟩⟩
      case rest =>
       clear A5
       clear AD A3 A4 p136 q136
       try clear Ae
       obtain ⟨kq, At, rfl, HA, HJ4, Ac, HB⟩ := hcut
       cases kq with
       | zero => exact absurd HA.out (by simp [aT])
       | succ kj4 =>
        have H := HA.out
        clear HA
        simp only [aT] at H
        by_cases c7 : At = true
        ·
         subst c7
         rw [if_pos rfl] at H
         simp only [Option.some.injEq, Prod.mk.injEq] at H
         obtain ⟨rfl, rfl⟩ := H
         go_wp2
         go_ret2
         exact ⟨xre, xbl⟩
        ·
         replace c7 := Bool.eq_false_iff.mpr c7
         subst c7
         rw [if_neg (show ¬ (false = true) by decide)] at H
         by_cases c8 : (rd l0 Aa) < 128
         ·
          rw [if_pos c8] at H
          have A9 := decide_eq_true c8
          clear c8
          by_cases c9 : Ad.length < 140737488355328
          ·
           rw [if_pos c9] at H
           have LMc9 := Zz.mk c9
           clear c9
           obtain ⟨AH, Ao⟩ : ∃ y_ : List Int, y_ = (Ad ++ [((rd l0 Aa)) % 256]) := ⟨_, rfl⟩
           replace H : (aq kj4 l0 AH l0 (l0.length : Int) (wrap64 (Aa + 1))) = some (r1, r2) := by first | (rw [Ao]; with_reducible exact H) | (have H2_ := (Option.bind_some _ _).symm.trans H; rw [Ao]; with_reducible exact H2_) | (have H2_ := (Option.bind_some _ _).symm.trans H; with_reducible exact H2_) | with_reducible exact H | (rw [Ao]; exact H) | exact H
           have AI := Zz.mk Ao
           clear Ao
           have H' := Zz.mk H
           clear H
           go_wp2_with (first | ((with_reducible refine bd (b := .append) (xs := #[.tmp 29, .tmp 32]) rfl ?_); at_builtin; refine Kd.R_append (Kd.int .u8) (w0 := w) w.heap.size rfl (.tmp 29) (.tmp 32) 53 5 (.int .u8 0) 1 rfl Try.underlying53 cQ rfl (by decide) (by omega) u4 Ad (((rd l0 Aa)) % 256) [.int .u8 (((rd l0 Aa)) % 256)] (fun _ => True) (fun _ => False) rfl rfl ?aP (fun _ hk => hk.elim) ?aF ?aO ?aB ?aS ?aL ?_; (case aP => exact rfl); (case aB => exact xbl); (case aF => exact (fun _ _ => trivial)); (case aO => exact (xkd Ac)); (case aS => exact (ah xbl)); (case aL => have := LMc9.out; first | omega | exact Nat.le_of_lt this); intro v138 w10 ho hb hg hat; rw [← AI.out] at ho; have n0_ := Zz.mk (hb); have n1_ := Zz.mk (ho); clear HB; clear Ac; have HB := n0_; have AJ := n1_; clear n0_ n1_; clear ho hb hg hat))
           go_roundg kj4
           case measure => have := HK1.out; have := HJ4.out; omega
           case rel => exact ⟨(AH), (wrap64 (Aa + 1)), xrr, H', ⟨by have := HK1.out; have := HJ4.out; omega⟩, ⟨xkd AJ⟩, ⟨xbl⟩⟩
          ·
           rw [if_neg c9] at H
           exact absurd H (by simp)
         ·
          rw [if_neg c8] at H
          have A9 := decide_eq_false c8
          clear c8
          have H' := Zz.mk H
          clear H
          go_wp2
          go_roundg kj4
          case measure => have := HK1.out; have := HJ4.out; omega
          case rel => exact ⟨(Ad), (wrap64 (Aa + 1)), xrr, H', ⟨by have := HK1.out; have := HJ4.out; omega⟩, ⟨xkd Ac⟩, ⟨xbl⟩⟩
     ·
      rw [if_neg c4] at H
      exact absurd H (by simp)
    ·
     rw [if_neg c3] at H
     exact absurd H (by simp)
   ·
    rw [if_neg c2] at H
    have AD := decide_eq_false c2
    clear c2
    have AE := Zz.mk H
    clear H
    obtain ⟨Ao12, co12, eo12⟩ := Kd.R_slice Ac.out
    subst eo12
    go_upto_if 39 with (fail)
    go_cut [4] (fun v4 wc => ∃ (kq : Nat) (Au : List Int), Zz (aC kq l0 Au (Ad.length : Int) (Ad.length : Int) = some (r1, r2)) ∧ Zz (kq ≤ k1) ∧ Zz (Kd.R (Kd.int .u8) 5 wc w.heap.size (fun _ => True) v4 Au) ∧ Zz (Below w.heap.size w wc))
    case first =>
     have H := AE.out
     clear AE
     by_cases c13 : (Ad.length : Int) > 0
     ·
      rw [if_pos c13] at H
      have Ap := decide_eq_true c13
      have Ax : decide (0 < Ad.length) = true := decide_eq_true (by omega)
      clear c13
      (first | rw [Ap] | (simp only [bE, bD]; rw [Ap]) | (rw [AK]; (try simp only [Bool.not_false, Bool.not_true])) | (rw [AL]; (try simp only [Bool.not_false, Bool.not_true])) | rw [Ax] | skip)
      by_cases c14 : Ad.length < 140737488355328
      ·
       rw [if_pos c14] at H
       have LMc14 := Zz.mk c14
       clear c14
       obtain ⟨AM, Aq⟩ : ∃ y_ : List Int, y_ = (Ad ++ [45]) := ⟨_, rfl⟩
       replace H : (aC k1 l0 AM (Ad.length : Int) (Ad.length : Int)) = some (r1, r2) := by first | (rw [Aq]; with_reducible exact H) | (have H2_ := (Option.bind_some _ _).symm.trans H; rw [Aq]; with_reducible exact H2_) | (have H2_ := (Option.bind_some _ _).symm.trans H; with_reducible exact H2_) | with_reducible exact H | (rw [Aq]; exact H) | exact H
       have AN := Zz.mk Aq
       clear Aq
       have H' := Zz.mk H
       clear H
       go_wp2_with (first | ((with_reducible refine bd (b := .append) (xs := #[.tmp 40, .tmp 41]) rfl ?_); at_builtin; refine Kd.R_append (Kd.int .u8) (w0 := w) w.heap.size rfl (.tmp 40) (.tmp 41) 53 5 (.int .u8 0) 1 rfl Try.underlying53 cQ rfl (by decide) (by omega) (.slice Ao12 Ad.length co12) Ad 45 [.int .u8 45] (fun _ => True) (fun _ => False) rfl rfl ?aP (fun _ hk => hk.elim) ?aF ?aO ?aB ?aS ?aL ?_; (case aP => exact rfl); (case aB => exact xbl); (case aF => exact (fun _ _ => trivial)); (case aO => exact (xkd Ac)); (case aS => exact (ah xbl)); (case aL => have := LMc14.out; first | omega | exact Nat.le_of_lt this); intro v141 w15 ho hb hg hat; rw [← AN.out] at ho; have n0_ := Zz.mk (hb); have n1_ := Zz.mk (ho); clear HB; clear Ac; have HB := n0_; have AO := n1_; clear n0_ n1_; clear ho hb hg hat))
       go_meet
       case rel => exact ⟨_, (AM), H', ⟨by have := HK1.out; first | omega | exact Nat.le_refl _⟩, ⟨xkd AO⟩, ⟨xbl⟩⟩
      ·
       rw [if_neg c14] at H
       exact absurd H (by simp)
     ·
      rw [if_neg c13] at H
      have Ap := decide_eq_false c13
      have Ax : decide (0 < Ad.length) = false := decide_eq_false (by omega)
      clear c13
      (first | rw [Ap] | (simp only [bE, bD]; rw [Ap]) | (rw [AK]; (try simp only [Bool.not_false, Bool.not_true])) | (rw [AL]; (try simp only [Bool.not_false, Bool.not_true])) | rw [Ax] | skip)
      have H' := Zz.mk H
      clear H
      go_wp2
      go_meet
      case rel => exact ⟨_, (Ad), H', ⟨by have := HK1.out; first | omega | exact Nat.le_refl _⟩, ⟨xkd Ac⟩, ⟨xbl⟩⟩
    case rest =>
     clear AE
     clear AD
     try clear Ae
     obtain ⟨kq, Au, HA, HJ10, Ac, HB⟩ := hcut
     cases kq with
     | zero => exact absurd HA.out (by simp [aC])
     | succ kj10 =>
      have H := HA.out
      clear HA
      simp only [aC] at H
      have H' := Zz.mk H
      clear H
      go_wp2
      go_loopg [4, 7, 9, 10, 11] kj10 (fun kq v4 v7 v9 v10 v11 w' => ∃ (Az : List Int) (Al : Int) (An : Int) (Ar : Int) (Av : Int), v7 = .int .i64 Al ∧ v9 = .int .i32 An ∧ v10 = .int .i64 Ar ∧ v11 = .int .i64 Av ∧ Zz (aG kq l0 Az Al (Ad.length : Int) An Ar Av = some (r1, r2)) ∧ Zz (kq ≤ kj10) ∧ Zz (Kd.R (Kd.int .u8) 5 w' w.heap.size (fun _ => True) v4 Az) ∧ Zz (Below w.heap.size w w'))
      case atStart => exact ⟨(Au), ((Ad.length : Int)), (128), (0), (72), xrr, xrr, xrr, xrr, H', ⟨Nat.le_refl _⟩, ⟨xkd Ac⟩, ⟨xbl⟩⟩
      case round =>
       clear H'
       try clear Ae
       obtain ⟨Az, Al, An, Ar, Av, rfl, rfl, rfl, rfl, HA, HK3, Ac, HB⟩ := hrel
       cases gk with
       | zero => exact absurd HA.out (by simp [aG])
       | succ k3 =>
        have H := HA.out
        clear HA
        simp only [aG] at H
        by_cases c16 : Al < (l0.length : Int)
        ·
         rw [if_pos c16] at H
         have AA := decide_eq_true c16
         clear c16
         replace H := Option.bind_eq_some_iff.mp H
         obtain ⟨Ag, A170, H⟩ := H
         try dsimp only at H
         have A17 := Zz.mk A170
         clear A170
         by_cases c18 : (wrap64 (Al + 1)) = 0
         ·
          rw [if_pos c18] at H
          exact absurd H (by simp)
         ·
          rw [if_neg c18] at H
          have AP : ((wrap64 (Al + 1)) == 0) = false := beq_eq_false_iff_ne.mpr c18
          have AQ : ((wrap64 (Al + 1)) != 0) = true := bne_iff_ne.mpr c18
          by_cases c19 : (wrap64 (wrap32 (Ag - An))) > (wrap64 (Int.tdiv (wrap64 (2147483647 - Ar)) (wrap64 (Al + 1))))
          ·
           rw [if_pos c19] at H
           have AB := decide_eq_true c19
           clear c19
           simp only [Option.some.injEq, Prod.mk.injEq] at H
           obtain ⟨rfl, rfl⟩ := H
           go_wp2_with (first | ((with_reducible refine ab (f := 24) rfl ?_); refine xgl 49 Try.func24 #[.slice A0 l0.length c0, .int .i32 An] ?_; (with_reducible refine (cj k3 _ _ l0 An Ag _ ?side1 ?side2 A17.out).mono ?_); (case side1 => repeat (first | exact (Kd.C_below HR0.out HB.out) | (with_reducible refine Kd.C_alloc ?_ _) | (with_reducible refine Kd.C_drewN ?_ _) | (with_reducible refine Kd.C_drew ?_))); (case side2 => exact Ba.out); rintro e w20 ⟨rfl, hb⟩; refine ⟨_, rfl, ?_⟩; replace Ac := Zz.mk (Kd.R_below (xkd Ac) hb); replace HB := xst hb; (try clear hb)))
           go_ret2
           exact ⟨xre, xbl⟩
          ·
           rw [if_neg c19] at H
           have AB := decide_eq_false c19
           clear c19
           have H' := Zz.mk H
           clear H
           go_wp2_with (first | ((with_reducible refine ab (f := 24) rfl ?_); refine xgl 49 Try.func24 #[.slice A0 l0.length c0, .int .i32 An] ?_; (with_reducible refine (cj k3 _ _ l0 An Ag _ ?side1 ?side2 A17.out).mono ?_); (case side1 => repeat (first | exact (Kd.C_below HR0.out HB.out) | (with_reducible refine Kd.C_alloc ?_ _) | (with_reducible refine Kd.C_drewN ?_ _) | (with_reducible refine Kd.C_drew ?_))); (case side2 => exact Ba.out); rintro e w21 ⟨rfl, hb⟩; refine ⟨_, rfl, ?_⟩; replace Ac := Zz.mk (Kd.R_below (xkd Ac) hb); replace HB := xst hb; (try clear hb)))
           go_loopg [4, 7, 10, 11, 72] k3 (fun kq v4 v7 v10 v11 v72 w' => ∃ (Aj : List Int) (Ak : Int) (Am : Int) (Ah : Int) (Ab : Int), v7 = .int .i64 Ak ∧ v10 = .int .i64 Am ∧ v11 = .int .i64 Ah ∧ v72 = .int .i64 Ab ∧ Zz (aU kq l0 Aj Ak (Ad.length : Int) Ag Am Ah l0 (l0.length : Int) Ab = some (r1, r2)) ∧ Zz (kq ≤ k3) ∧ Zz (Kd.R (Kd.int .u8) 5 w' w.heap.size (fun _ => True) v4 Aj) ∧ Zz (Below w.heap.size w w'))
           case atStart => exact ⟨(Az), (Al), (wrap64 (Ar + (wrap64 ((wrap64 (wrap32 (Ag - An))) * (wrap64 (Al + 1)))))), (Av), (0), xrr, xrr, xrr, xrr, H', ⟨Nat.le_refl _⟩, ⟨xkd Ac⟩, ⟨xbl⟩⟩
           case round =>
            clear H'
            clear AA c18 AP AQ AB
            try clear Ae
            obtain ⟨Aj, Ak, Am, Ah, Ab, rfl, rfl, rfl, rfl, HA, HK4, Ac, HB⟩ := hrel
            cases gk with
            | zero => exact absurd HA.out (by simp [aU])
            | succ k4 =>
             have H := HA.out
             clear HA
             simp only [aU] at H
             by_cases c22 : Ab < (l0.length : Int)
             ·
              rw [if_pos c22] at H
              have AC := decide_eq_true c22
              clear c22
              by_cases c23 : 0 ≤ Ab
              ·
               rw [if_pos c23] at H
               have AR := decide_eq_true c23
               clear c23
               by_cases c24 : Ab < (l0.length : Int)
               ·
                rw [if_pos c24] at H
                have AS := decide_eq_true c24
                clear c24
                have AF := Zz.mk H
                clear H
                have p144 : 0 ≤ (Ab : Int) := xod
                have q144 : Ab < (l0.length : Int) := xod
                obtain ⟨Bc, e144, Ai⟩ := Kd.at_int HR0.out Ab p144 q144
                cases e144
                replace Ai := (HB.out.cell (World.block_lt_of_cell? w _ Ai)).trans Ai
                replace p144 := eq_true p144
                replace q144 := eq_true q144
                try (have AT := q144; simp only [ByteArray.size_extract, Nat.min_self] at AT)
                go_upto_if 78 with (fail)
                go_cut [10] (fun v10 wc => ∃ (kq : Nat) (Af : Int), v10 = .int .i64 Af ∧ Zz (aX kq l0 Aj Ak (Ad.length : Int) Ag Af Ah (rd l0 Ab) l0 (l0.length : Int) Ab = some (r1, r2)) ∧ Zz (kq ≤ k4) ∧ Zz (Kd.R (Kd.int .u8) 5 wc w.heap.size (fun _ => True) u4 Aj) ∧ Zz (Below w.heap.size w wc))
                case first =>
                 have H := AF.out
                 clear AF
                 by_cases c26 : (rd l0 Ab) < Ag
                 ·
                  rw [if_pos c26] at H
                  have As := decide_eq_true c26
                  clear c26
                  (first | rw [As] | (simp only [bE, bD]; rw [As]) | (rw [AU]; (try simp only [Bool.not_false, Bool.not_true])) | (rw [AV]; (try simp only [Bool.not_false, Bool.not_true])) | rw [AW] | skip)
                  have H' := Zz.mk H
                  clear H
                  go_wp2
                  go_meet
                  case rel => exact ⟨_, (wrap64 (Am + 1)), xrr, H', ⟨by have := HK1.out; have := HJ10.out; have := HK3.out; have := HK4.out; first | omega | exact Nat.le_refl _⟩, ⟨xkd Ac⟩, ⟨xbl⟩⟩
                 ·
                  rw [if_neg c26] at H
                  have As := decide_eq_false c26
                  clear c26
                  (first | rw [As] | (simp only [bE, bD]; rw [As]) | (rw [AU]; (try simp only [Bool.not_false, Bool.not_true])) | (rw [AV]; (try simp only [Bool.not_false, Bool.not_true])) | rw [AW] | skip)
                  have H' := Zz.mk H
                  clear H
                  go_wp2
                  go_meet
                  case rel => exact ⟨_, (Am), xrr, H', ⟨by have := HK1.out; have := HJ10.out; have := HK3.out; have := HK4.out; first | omega | exact Nat.le_refl _⟩, ⟨xkd Ac⟩, ⟨xbl⟩⟩
                case rest =>
                 clear AF
                 clear AC AR AS p144 q144
                 try clear Ae
                 try clear Ai
                 obtain ⟨kq, Af, rfl, HA, HJ24, Ac, HB⟩ := hcut
                 cases kq with
                 | zero => exact absurd HA.out (by simp [aX])
                 | succ kj24 =>
                  have H := HA.out
                  clear HA
                  simp only [aX] at H
                  by_cases c27 : Af > 2147483647
                  ·
                   rw [if_pos c27] at H
                   have AX := decide_eq_true c27
                   clear c27
                   simp only [Option.some.injEq, Prod.mk.injEq] at H
                   obtain ⟨rfl, rfl⟩ := H
                   go_wp2
                   go_ret2
                   exact ⟨xre, xbl⟩
                  ·
                   rw [if_neg c27] at H
                   have AX := decide_eq_false c27
                   clear c27
                   by_cases c28 : (rd l0 Ab) = Ag
                   ·
                    rw [if_pos c28] at H
                    have AY : ((rd l0 Ab) == Ag) = true := beq_iff_eq.mpr c28
                    have AZ : ((rd l0 Ab) != Ag) = false := bne_eq_false_iff_eq.mpr c28
                    clear c28
                    replace H := Option.bind_eq_some_iff.mp H
                    obtain ⟨A1, A290, H⟩ := H
                    try dsimp only at H
                    have A29 := Zz.mk A290
                    clear A290
                    replace H := Option.bind_eq_some_iff.mp H
                    obtain ⟨A2, A300, H⟩ := H
                    try dsimp only at H
                    have A30 := Zz.mk A300
                    clear A300
                    have H' := Zz.mk H
                    clear H
                    obtain ⟨Ao31, co31, eo31⟩ := Kd.R_slice Ac.out
                    subst eo31
                    go_wp2_with (first | ((with_reducible refine ab (f := 25) rfl ?_); refine xgl 89 Try.func25 #[.slice Ao31 Aj.length co31, .int .i64 Af, .int .i64 Ah] ?_; (with_reducible refine (cG kj24 (fun k_ => some k_ = (.slice Ao31 Aj.length co31 : Value).ownBlock) (.slice Ao31 Aj.length co31) Aj Af Ah A1 w _ ?side1 ?side2 A29.out).mono ?_); (case side1 => repeat (first | (with_reducible first | exact HB.out | apply af | apply ae | apply ai) | exact HB.out)); (case side2 => exact Kd.R_tight rfl Ac.out); rintro e w32 ⟨v146, rfl, ho0, hb, hkp⟩; refine ⟨_, rfl, ?_⟩; have n0_ := Zz.mk (Kd.R_mono (ok' := fun k_ => True) ho0 (fun k_ hk_ => trivial)); have n1_ := Zz.mk (hb); clear HB; clear Ac; have Ay := n0_; have HB := n1_; clear n0_ n1_; (try clear hb); (try clear hkp); (try clear ho0)) | ((with_reducible refine ab (f := 16) rfl ?_); refine xgl 96 Try.func16 #[.int .i64 Af, .int .i64 (wrap64 (Ak + 1)), .bool (Ak == (Ad.length : Int))] ?_; (with_reducible refine (bs kj24 Af (wrap64 (Ak + 1)) (Ak == (Ad.length : Int)) A2 _ A30.out).mono ?_); rintro e w33 ⟨rfl, hb⟩; refine ⟨_, rfl, ?_⟩; replace Ay := Zz.mk (Kd.R_below (xkd Ay) hb); replace HB := xst hb; (try clear hb)))
                    go_roundg kj24
                    case measure => have := HK1.out; have := HJ10.out; have := HK3.out; have := HK4.out; have := HJ24.out; omega
                    case rel => exact ⟨(A1), (wrap64 (Ak + 1)), (0), (A2), (wrap64 (Ab + 1)), xrr, xrr, xrr, xrr, H', ⟨by have := HK1.out; have := HJ10.out; have := HK3.out; have := HK4.out; have := HJ24.out; omega⟩, ⟨xkd Ay⟩, ⟨xbl⟩⟩
                   ·
                    rw [if_neg c28] at H
                    have AY : ((rd l0 Ab) == Ag) = false := beq_eq_false_iff_ne.mpr c28
                    have AZ : ((rd l0 Ab) != Ag) = true := bne_iff_ne.mpr c28
                    have H' := Zz.mk H
                    clear H
                    go_wp2
                    go_roundg kj24
                    case measure => have := HK1.out; have := HJ10.out; have := HK3.out; have := HK4.out; have := HJ24.out; omega
                    case rel => exact ⟨(Aj), (Ak), (Af), (Ah), (wrap64 (Ab + 1)), xrr, xrr, xrr, xrr, H', ⟨by have := HK1.out; have := HJ10.out; have := HK3.out; have := HK4.out; have := HJ24.out; omega⟩, ⟨xkd Ac⟩, ⟨xbl⟩⟩
               ·
                rw [if_neg c24] at H
                exact absurd H (by simp)
              ·
               rw [if_neg c23] at H
               exact absurd H (by simp)
             ·
              rw [if_neg c22] at H
              have AC := decide_eq_false c22
              clear c22
              have H' := Zz.mk H
              clear H
              go_wp2
              go_roundg k4
              case measure => have := HK1.out; have := HJ10.out; have := HK3.out; have := HK4.out; omega
              case rel => exact ⟨(Aj), (Ak), (wrap32 (Ag + 1)), (wrap64 (Am + 1)), (Ah), xrr, xrr, xrr, xrr, H', ⟨by have := HK1.out; have := HJ10.out; have := HK3.out; have := HK4.out; omega⟩, ⟨xkd Ac⟩, ⟨xbl⟩⟩
        ·
         rw [if_neg c16] at H
         have AA := decide_eq_false c16
         clear c16
         simp only [Option.some.injEq, Prod.mk.injEq] at H
         obtain ⟨rfl, rfl⟩ := H
         have hcv34 := da (P := Try.prog) Try.underlying53 Try.underlying5 Try.underlying9 (Kd.own_of_R Ac.out)
         go_wp2
         go_ret2
         exact ⟨xre, xbl⟩
def ay (k : Nat)  : Option (Bool) := (ax k (([252] : List Int))).bind fun Ab => ((ax k (([98, 252, 99, 104, 101, 114] : List Int))).bind fun Ac => ((a9 k (⟨#[98, 99, 104, 101, 114, 45, 107, 118, 97]⟩ : ByteArray)).bind fun Aa => (if Ab.1.toList = ([116, 100, 97] : List UInt8) then (if Ab.2 = 0 then (if Ac.1.toList = ([98, 99, 104, 101, 114, 45, 107, 118, 97] : List UInt8) then (if Ac.2 = 0 then (if Aa.2 = 0 then (if (Aa.1.length : Int) = 6 then (if 1 < (Aa.1.length : Int) then (some ((rd Aa.1 1) == 252)) else (none)) else (some false)) else (some false)) else (some false)) else (some false)) else (some false)) else (some false))))
theorem b9 : ∀ k, LeO (ay k ) (ay (k + 1) ) := by
  intro  k
  have m0 := @cE; have m1 := @cF
  unfold ay
  exact xmo
theorem ao (k : Nat)  (r : Bool) (w : World) (h : ay k  = some r) :
    Calls Try.prog 6 #[] w fun e w' => e = .returned (.bool r) ∧ Below w.heap.size w w' := by
 have HB := Zz.mk (Below.refl w.heap.size w)
 have H : ((ax k (([252] : List Int))).bind fun Ap => ((ax k (([98, 252, 99, 104, 101, 114] : List Int))).bind fun Al => ((a9 k (⟨#[98, 99, 104, 101, 114, 45, 107, 118, 97]⟩ : ByteArray)).bind fun Ac => (if Ap.1.toList = ([116, 100, 97] : List UInt8) then (if Ap.2 = 0 then (if Al.1.toList = ([98, 99, 104, 101, 114, 45, 107, 118, 97] : List UInt8) then (if Al.2 = 0 then (if Ac.2 = 0 then (if (Ac.1.length : Int) = 6 then (if 1 < (Ac.1.length : Int) then (some ((rd Ac.1 1) == 252)) else (none)) else (some false)) else (some false)) else (some false)) else (some false)) else (some false)) else (some false))))) = some r := h
 clear h
 obtain ⟨Ag, Aq⟩ : ∃ y_ : List Int, y_ = (([252] : List Int)) := ⟨_, rfl⟩
 replace H : ((ax k Ag).bind fun Ap => ((ax k (([98, 252, 99, 104, 101, 114] : List Int))).bind fun Al => ((a9 k (⟨#[98, 99, 104, 101, 114, 45, 107, 118, 97]⟩ : ByteArray)).bind fun Ac => (if Ap.1.toList = ([116, 100, 97] : List UInt8) then (if Ap.2 = 0 then (if Al.1.toList = ([98, 99, 104, 101, 114, 45, 107, 118, 97] : List UInt8) then (if Al.2 = 0 then (if Ac.2 = 0 then (if (Ac.1.length : Int) = 6 then (if 1 < (Ac.1.length : Int) then (some ((rd Ac.1 1) == 252)) else (none)) else (some false)) else (some false)) else (some false)) else (some false)) else (some false)) else (some false))))) = some r := by first | (rw [Aq]; with_reducible exact H) | (have H2_ := (Option.bind_some _ _).symm.trans H; rw [Aq]; with_reducible exact H2_) | (have H2_ := (Option.bind_some _ _).symm.trans H; with_reducible exact H2_) | with_reducible exact H | (rw [Aq]; exact H) | exact H
 have Ad := Zz.mk Aq
 clear Aq
 replace H := Option.bind_eq_some_iff.mp H
 obtain ⟨⟨Aj, Ak⟩, A10, H⟩ := H
 try dsimp only at H
 have A1 := Zz.mk A10
 clear A10
 obtain ⟨Ah, Ar⟩ : ∃ y_ : List Int, y_ = (([98, 252, 99, 104, 101, 114] : List Int)) := ⟨_, rfl⟩
 replace H : ((ax k Ah).bind fun Al => ((a9 k (⟨#[98, 99, 104, 101, 114, 45, 107, 118, 97]⟩ : ByteArray)).bind fun Ac => (if Aj.toList = ([116, 100, 97] : List UInt8) then (if Ak = 0 then (if Al.1.toList = ([98, 99, 104, 101, 114, 45, 107, 118, 97] : List UInt8) then (if Al.2 = 0 then (if Ac.2 = 0 then (if (Ac.1.length : Int) = 6 then (if 1 < (Ac.1.length : Int) then (some ((rd Ac.1 1) == 252)) else (none)) else (some false)) else (some false)) else (some false)) else (some false)) else (some false)) else (some false)))) = some r := by first | (rw [Ar]; with_reducible exact H) | (have H2_ := (Option.bind_some _ _).symm.trans H; rw [Ar]; with_reducible exact H2_) | (have H2_ := (Option.bind_some _ _).symm.trans H; with_reducible exact H2_) | with_reducible exact H | (rw [Ar]; exact H) | exact H
 have Ae := Zz.mk Ar
 clear Ar
 replace H := Option.bind_eq_some_iff.mp H
 obtain ⟨⟨Am, An⟩, A20, H⟩ := H
 try dsimp only at H
 have A2 := Zz.mk A20
 clear A20
 replace H := Option.bind_eq_some_iff.mp H
 obtain ⟨⟨Af, Ao⟩, A30, H⟩ := H
 try dsimp only at H
 have A3 := Zz.mk A30
 clear A30
 by_cases c4 : Aj.toList = ([116, 100, 97] : List UInt8)
 ·
  rw [if_pos c4] at H
  have At : (Aj.toList == ([116, 100, 97] : List UInt8)) = true := beq_iff_eq.mpr c4
  have Au : (Aj.toList != ([116, 100, 97] : List UInt8)) = false := bne_eq_false_iff_eq.mpr c4
  clear c4
  by_cases c5 : Ak = 0
  ·
   rw [if_pos c5] at H
   have Av : (Ak == 0) = true := beq_iff_eq.mpr c5
   have Aw : (Ak != 0) = false := bne_eq_false_iff_eq.mpr c5
   clear c5
   by_cases c6 : Am.toList = ([98, 99, 104, 101, 114, 45, 107, 118, 97] : List UInt8)
   ·
    rw [if_pos c6] at H
    have Ax : (Am.toList == ([98, 99, 104, 101, 114, 45, 107, 118, 97] : List UInt8)) = true := beq_iff_eq.mpr c6
    have Ay : (Am.toList != ([98, 99, 104, 101, 114, 45, 107, 118, 97] : List UInt8)) = false := bne_eq_false_iff_eq.mpr c6
    clear c6
    by_cases c7 : An = 0
    ·
     rw [if_pos c7] at H
     have Az : (An == 0) = true := beq_iff_eq.mpr c7
     have AA : (An != 0) = false := bne_eq_false_iff_eq.mpr c7
     clear c7
     by_cases c8 : Ao = 0
     ·
      rw [if_pos c8] at H
      have AB : (Ao == 0) = true := beq_iff_eq.mpr c8
      have AC : (Ao != 0) = false := bne_eq_false_iff_eq.mpr c8
      clear c8
      by_cases c9 : (Af.length : Int) = 6
      ·
       rw [if_pos c9] at H
       have AD : ((Af.length : Int) == 6) = true := beq_iff_eq.mpr c9
       have AE : ((Af.length : Int) != 6) = false := bne_eq_false_iff_eq.mpr c9
       clear c9
       by_cases c10 : 1 < (Af.length : Int)
       ·
        rw [if_pos c10] at H
        have AF := decide_eq_true c10
        have AG : decide (1 < Af.length) = true := decide_eq_true (by omega)
        clear c10
        obtain rfl := Option.some.inj H
        go_enter Try.func6, Try.ntmps6
        go_wp2_with (first | ((with_reducible refine aY (N := 8) rfl ?_); (try (refine aD (by rfl) ?_; dsimp only)); refine Kd.R_lit (Kd.int .i32) _ 21 ?hg (N := 8) ?hd (xs := ([252] : List Int)) (inner := [.int .i32 252]) (ok := fun _ => True) (okp := fun _ => True) ?hr ?hp (fun _ hk => hk) trivial (Below.refl _ _) (Nat.le_refl _) (by simp) ?_; (case hd => rfl); (case hg => rfl); (case hr => first | (go_simp; done) | (go_simp; rfl)); (case hp => exact (Reps.one (show Kd.M (Kd.int .i32) _ _ _ 252 [.int .i32 252] from rfl) (Reps.none _ _))); intro v150 w11 ho12 hb hg_ hnew_; clear hg_ hnew_; (first | rw [← Ad.out] at ho12 | (simp only [Int.reduceToNat] at ho12; rw [← Ad.out] at ho12)); have Aa := Zz.mk (Kd.R_lower ho12 (ah xbl)); replace HB := xst hb; clear hb ho12; obtain ⟨Ao13, co13, eo13⟩ := Kd.R_slice Aa.out; subst eo13) | ((with_reducible refine ab (f := 18) rfl ?_); refine xgl 9 Try.func18 #[.slice Ao13 Ag.length co13] ?_; (with_reducible refine (ag k _ _ Ag Aj Ak _ ?side1 ?side2 A1.out).mono ?_); (case side1 => repeat (first | exact (Kd.R_reads' Aa.out).2.2 | (with_reducible refine Kd.C_alloc ?_ _) | (with_reducible refine Kd.C_drewN ?_ _) | (with_reducible refine Kd.C_drew ?_))); (case side2 => exact (Kd.R_reads' Aa.out).2.1); rintro e w14 ⟨rfl, hb⟩; refine ⟨_, rfl, ?_⟩; replace Aa := Zz.mk (Kd.R_below (xkd Aa) hb); replace HB := xst hb; (try clear hb)) | ((with_reducible refine aY (N := 13) rfl ?_); (try (refine aD (by rfl) ?_; dsimp only)); refine Kd.R_lit (Kd.int .i32) _ 21 ?hg (N := 13) ?hd (xs := ([98, 252, 99, 104, 101, 114] : List Int)) (inner := [.int .i32 98, .int .i32 252, .int .i32 99, .int .i32 104, .int .i32 101, .int .i32 114]) (ok := fun _ => True) (okp := fun _ => True) ?hr ?hp (fun _ hk => hk) trivial (Below.refl _ _) (Nat.le_refl _) (by simp) ?_; (case hd => rfl); (case hg => rfl); (case hr => first | (go_simp; done) | (go_simp; rfl)); (case hp => exact (Reps.one (show Kd.M (Kd.int .i32) _ _ _ 98 [.int .i32 98] from rfl) (Reps.one (show Kd.M (Kd.int .i32) _ _ _ 252 [.int .i32 252] from rfl) (Reps.one (show Kd.M (Kd.int .i32) _ _ _ 99 [.int .i32 99] from rfl) (Reps.one (show Kd.M (Kd.int .i32) _ _ _ 104 [.int .i32 104] from rfl) (Reps.one (show Kd.M (Kd.int .i32) _ _ _ 101 [.int .i32 101] from rfl) (Reps.one (show Kd.M (Kd.int .i32) _ _ _ 114 [.int .i32 114] from rfl) (Reps.none _ _)))))))); intro v155 w15 ho16 hb hg_ hnew_; clear hg_ hnew_; (first | rw [← Ae.out] at ho16 | (simp only [Int.reduceToNat] at ho16; rw [← Ae.out] at ho16)); have Ab := Zz.mk (Kd.R_lower (Kd.R_new' ho16 (Kd.R_lt (xkd Aa))) (ah xbl)); replace Aa := Zz.mk (Kd.R_elder' (xkd Aa) (Kd.R_base ho16) hb); replace HB := xst hb; clear hb ho16; obtain ⟨Ao17, co17, eo17⟩ := Kd.R_slice Ab.out; subst eo17) | ((with_reducible refine ab (f := 18) rfl ?_); refine xgl 14 Try.func18 #[.slice Ao17 Ah.length co17] ?_; (with_reducible refine (ag k _ _ Ah Am An _ ?side1 ?side2 A2.out).mono ?_); (case side1 => repeat (first | exact (Kd.R_reads' Ab.out).2.2 | (with_reducible refine Kd.C_alloc ?_ _) | (with_reducible refine Kd.C_drewN ?_ _) | (with_reducible refine Kd.C_drew ?_))); (case side2 => exact (Kd.R_reads' Ab.out).2.1); rintro e w18 ⟨rfl, hb⟩; refine ⟨_, rfl, ?_⟩; replace Aa := Zz.mk (Kd.R_below (xkd Aa) hb); replace Ab := Zz.mk (Kd.R_below (xkd Ab) hb); replace HB := xst hb; (try clear hb)) | ((with_reducible refine ab (f := 7) rfl ?_); refine xgl 18 Try.func7 #[.string (⟨#[98, 99, 104, 101, 114, 45, 107, 118, 97]⟩ : ByteArray)] ?_; (with_reducible refine (aZ k (⟨#[98, 99, 104, 101, 114, 45, 107, 118, 97]⟩ : ByteArray) Af Ao _ A3.out).mono ?_); rintro e w19 ⟨v161, rfl, ho0, hb⟩; refine ⟨_, rfl, ?_⟩; have Ai := Zz.mk (Kd.R_lower (Kd.R_new' (Kd.R_new' ho0 (Kd.R_lt (xkd Aa))) (Kd.R_lt (xkd Ab))) (ah xbl)); replace Aa := Zz.mk (Kd.R_elder' (xkd Aa) (Kd.R_base ho0) hb); replace Ab := Zz.mk (Kd.R_elder' (xkd Ab) (Kd.R_base ho0) hb); replace HB := xst hb; (try clear hb); (try clear ho0); obtain ⟨Ao20, co20, eo20⟩ := Kd.R_slice Ai.out; subst eo20; have p163 : 0 ≤ (1 : Int) := (by omega); have q163 : 1 < (Af.length : Int) := xod; obtain ⟨AH, e163, As⟩ := Kd.at_int (Kd.R_reads' Ai.out).2.2 1 p163 q163; cases e163; (try simp only [show (1 : Int).toNat = 1 from rfl, Nat.reduceMul, Nat.reduceEqDiff, Go.Addr.add, ↓reduceIte] at As); have AI : (1 < Af.length) = True := eq_true (by omega); (try rw [show ((1 : Int)).toNat = 1 from rfl] at As); replace p163 := eq_true p163; replace q163 := eq_true q163))
        go_ret
        exact ⟨xre, xbl⟩
       ·
        rw [if_neg c10] at H
        exact absurd H (by simp)
      ·
       rw [if_neg c9] at H
       have AD : ((Af.length : Int) == 6) = false := beq_eq_false_iff_ne.mpr c9
       have AE : ((Af.length : Int) != 6) = true := bne_iff_ne.mpr c9
       obtain rfl := Option.some.inj H
       go_enter Try.func6, Try.ntmps6
       go_wp2_with (first | ((with_reducible refine aY (N := 8) rfl ?_); (try (refine aD (by rfl) ?_; dsimp only)); refine Kd.R_lit (Kd.int .i32) _ 21 ?hg (N := 8) ?hd (xs := ([252] : List Int)) (inner := [.int .i32 252]) (ok := fun _ => True) (okp := fun _ => True) ?hr ?hp (fun _ hk => hk) trivial (Below.refl _ _) (Nat.le_refl _) (by simp) ?_; (case hd => rfl); (case hg => rfl); (case hr => first | (go_simp; done) | (go_simp; rfl)); (case hp => exact (Reps.one (show Kd.M (Kd.int .i32) _ _ _ 252 [.int .i32 252] from rfl) (Reps.none _ _))); intro v150 w21 ho22 hb hg_ hnew_; clear hg_ hnew_; (first | rw [← Ad.out] at ho22 | (simp only [Int.reduceToNat] at ho22; rw [← Ad.out] at ho22)); have Aa := Zz.mk (Kd.R_lower ho22 (ah xbl)); replace HB := xst hb; clear hb ho22; obtain ⟨Ao23, co23, eo23⟩ := Kd.R_slice Aa.out; subst eo23) | ((with_reducible refine ab (f := 18) rfl ?_); refine xgl 9 Try.func18 #[.slice Ao23 Ag.length co23] ?_; (with_reducible refine (ag k _ _ Ag Aj Ak _ ?side1 ?side2 A1.out).mono ?_); (case side1 => repeat (first | exact (Kd.R_reads' Aa.out).2.2 | (with_reducible refine Kd.C_alloc ?_ _) | (with_reducible refine Kd.C_drewN ?_ _) | (with_reducible refine Kd.C_drew ?_))); (case side2 => exact (Kd.R_reads' Aa.out).2.1); rintro e w24 ⟨rfl, hb⟩; refine ⟨_, rfl, ?_⟩; replace Aa := Zz.mk (Kd.R_below (xkd Aa) hb); replace HB := xst hb; (try clear hb)) | ((with_reducible refine aY (N := 13) rfl ?_); (try (refine aD (by rfl) ?_; dsimp only)); refine Kd.R_lit (Kd.int .i32) _ 21 ?hg (N := 13) ?hd (xs := ([98, 252, 99, 104, 101, 114] : List Int)) (inner := [.int .i32 98, .int .i32 252, .int .i32 99, .int .i32 104, .int .i32 101, .int .i32 114]) (ok := fun _ => True) (okp := fun _ => True) ?hr ?hp (fun _ hk => hk) trivial (Below.refl _ _) (Nat.le_refl _) (by simp) ?_; (case hd => rfl); (case hg => rfl); (case hr => first | (go_simp; done) | (go_simp; rfl)); (case hp => exact (Reps.one (show Kd.M (Kd.int .i32) _ _ _ 98 [.int .i32 98] from rfl) (Reps.one (show Kd.M (Kd.int .i32) _ _ _ 252 [.int .i32 252] from rfl) (Reps.one (show Kd.M (Kd.int .i32) _ _ _ 99 [.int .i32 99] from rfl) (Reps.one (show Kd.M (Kd.int .i32) _ _ _ 104 [.int .i32 104] from rfl) (Reps.one (show Kd.M (Kd.int .i32) _ _ _ 101 [.int .i32 101] from rfl) (Reps.one (show Kd.M (Kd.int .i32) _ _ _ 114 [.int .i32 114] from rfl) (Reps.none _ _)))))))); intro v155 w25 ho26 hb hg_ hnew_; clear hg_ hnew_; (first | rw [← Ae.out] at ho26 | (simp only [Int.reduceToNat] at ho26; rw [← Ae.out] at ho26)); have Ab := Zz.mk (Kd.R_lower (Kd.R_new' ho26 (Kd.R_lt (xkd Aa))) (ah xbl)); replace Aa := Zz.mk (Kd.R_elder' (xkd Aa) (Kd.R_base ho26) hb); replace HB := xst hb; clear hb ho26; obtain ⟨Ao27, co27, eo27⟩ := Kd.R_slice Ab.out; subst eo27) | ((with_reducible refine ab (f := 18) rfl ?_); refine xgl 14 Try.func18 #[.slice Ao27 Ah.length co27] ?_; (with_reducible refine (ag k _ _ Ah Am An _ ?side1 ?side2 A2.out).mono ?_); (case side1 => repeat (first | exact (Kd.R_reads' Ab.out).2.2 | (with_reducible refine Kd.C_alloc ?_ _) | (with_reducible refine Kd.C_drewN ?_ _) | (with_reducible refine Kd.C_drew ?_))); (case side2 => exact (Kd.R_reads' Ab.out).2.1); rintro e w28 ⟨rfl, hb⟩; refine ⟨_, rfl, ?_⟩; replace Aa := Zz.mk (Kd.R_below (xkd Aa) hb); replace Ab := Zz.mk (Kd.R_below (xkd Ab) hb); replace HB := xst hb; (try clear hb)) | ((with_reducible refine ab (f := 7) rfl ?_); refine xgl 18 Try.func7 #[.string (⟨#[98, 99, 104, 101, 114, 45, 107, 118, 97]⟩ : ByteArray)] ?_; (with_reducible refine (aZ k (⟨#[98, 99, 104, 101, 114, 45, 107, 118, 97]⟩ : ByteArray) Af Ao _ A3.out).mono ?_); rintro e w29 ⟨v161, rfl, ho0, hb⟩; refine ⟨_, rfl, ?_⟩; have Ai := Zz.mk (Kd.R_lower (Kd.R_new' (Kd.R_new' ho0 (Kd.R_lt (xkd Aa))) (Kd.R_lt (xkd Ab))) (ah xbl)); replace Aa := Zz.mk (Kd.R_elder' (xkd Aa) (Kd.R_base ho0) hb); replace Ab := Zz.mk (Kd.R_elder' (xkd Ab) (Kd.R_base ho0) hb); replace HB := xst hb; (try clear hb); (try clear ho0); obtain ⟨Ao30, co30, eo30⟩ := Kd.R_slice Ai.out; subst eo30))
       go_ret
       exact ⟨xre, xbl⟩
     ·
      rw [if_neg c8] at H
      have AB : (Ao == 0) = false := beq_eq_false_iff_ne.mpr c8
      have AC : (Ao != 0) = true := bne_iff_ne.mpr c8
      obtain rfl := Option.some.inj H
      go_enter Try.func6, Try.ntmps6
      go_wp2_with (first | ((with_reducible refine aY (N := 8) rfl ?_); (try (refine aD (by rfl) ?_; dsimp only)); refine Kd.R_lit (Kd.int .i32) _ 21 ?hg (N := 8) ?hd (xs := ([252] : List Int)) (inner := [.int .i32 252]) (ok := fun _ => True) (okp := fun _ => True) ?hr ?hp (fun _ hk => hk) trivial (Below.refl _ _) (Nat.le_refl _) (by simp) ?_; (case hd => rfl); (case hg => rfl); (case hr => first | (go_simp; done) | (go_simp; rfl)); (case hp => exact (Reps.one (show Kd.M (Kd.int .i32) _ _ _ 252 [.int .i32 252] from rfl) (Reps.none _ _))); intro v150 w31 ho32 hb hg_ hnew_; clear hg_ hnew_; (first | rw [← Ad.out] at ho32 | (simp only [Int.reduceToNat] at ho32; rw [← Ad.out] at ho32)); have Aa := Zz.mk (Kd.R_lower ho32 (ah xbl)); replace HB := xst hb; clear hb ho32; obtain ⟨Ao33, co33, eo33⟩ := Kd.R_slice Aa.out; subst eo33) | ((with_reducible refine ab (f := 18) rfl ?_); refine xgl 9 Try.func18 #[.slice Ao33 Ag.length co33] ?_; (with_reducible refine (ag k _ _ Ag Aj Ak _ ?side1 ?side2 A1.out).mono ?_); (case side1 => repeat (first | exact (Kd.R_reads' Aa.out).2.2 | (with_reducible refine Kd.C_alloc ?_ _) | (with_reducible refine Kd.C_drewN ?_ _) | (with_reducible refine Kd.C_drew ?_))); (case side2 => exact (Kd.R_reads' Aa.out).2.1); rintro e w34 ⟨rfl, hb⟩; refine ⟨_, rfl, ?_⟩; replace Aa := Zz.mk (Kd.R_below (xkd Aa) hb); replace HB := xst hb; (try clear hb)) | ((with_reducible refine aY (N := 13) rfl ?_); (try (refine aD (by rfl) ?_; dsimp only)); refine Kd.R_lit (Kd.int .i32) _ 21 ?hg (N := 13) ?hd (xs := ([98, 252, 99, 104, 101, 114] : List Int)) (inner := [.int .i32 98, .int .i32 252, .int .i32 99, .int .i32 104, .int .i32 101, .int .i32 114]) (ok := fun _ => True) (okp := fun _ => True) ?hr ?hp (fun _ hk => hk) trivial (Below.refl _ _) (Nat.le_refl _) (by simp) ?_; (case hd => rfl); (case hg => rfl); (case hr => first | (go_simp; done) | (go_simp; rfl)); (case hp => exact (Reps.one (show Kd.M (Kd.int .i32) _ _ _ 98 [.int .i32 98] from rfl) (Reps.one (show Kd.M (Kd.int .i32) _ _ _ 252 [.int .i32 252] from rfl) (Reps.one (show Kd.M (Kd.int .i32) _ _ _ 99 [.int .i32 99] from rfl) (Reps.one (show Kd.M (Kd.int .i32) _ _ _ 104 [.int .i32 104] from rfl) (Reps.one (show Kd.M (Kd.int .i32) _ _ _ 101 [.int .i32 101] from rfl) (Reps.one (show Kd.M (Kd.int .i32) _ _ _ 114 [.int .i32 114] from rfl) (Reps.none _ _)))))))); intro v155 w35 ho36 hb hg_ hnew_; clear hg_ hnew_; (first | rw [← Ae.out] at ho36 | (simp only [Int.reduceToNat] at ho36; rw [← Ae.out] at ho36)); have Ab := Zz.mk (Kd.R_lower (Kd.R_new' ho36 (Kd.R_lt (xkd Aa))) (ah xbl)); replace Aa := Zz.mk (Kd.R_elder' (xkd Aa) (Kd.R_base ho36) hb); replace HB := xst hb; clear hb ho36; obtain ⟨Ao37, co37, eo37⟩ := Kd.R_slice Ab.out; subst eo37) | ((with_reducible refine ab (f := 18) rfl ?_); refine xgl 14 Try.func18 #[.slice Ao37 Ah.length co37] ?_; (with_reducible refine (ag k _ _ Ah Am An _ ?side1 ?side2 A2.out).mono ?_); (case side1 => repeat (first | exact (Kd.R_reads' Ab.out).2.2 | (with_reducible refine Kd.C_alloc ?_ _) | (with_reducible refine Kd.C_drewN ?_ _) | (with_reducible refine Kd.C_drew ?_))); (case side2 => exact (Kd.R_reads' Ab.out).2.1); rintro e w38 ⟨rfl, hb⟩; refine ⟨_, rfl, ?_⟩; replace Aa := Zz.mk (Kd.R_below (xkd Aa) hb); replace Ab := Zz.mk (Kd.R_below (xkd Ab) hb); replace HB := xst hb; (try clear hb)) | ((with_reducible refine ab (f := 7) rfl ?_); refine xgl 18 Try.func7 #[.string (⟨#[98, 99, 104, 101, 114, 45, 107, 118, 97]⟩ : ByteArray)] ?_; (with_reducible refine (aZ k (⟨#[98, 99, 104, 101, 114, 45, 107, 118, 97]⟩ : ByteArray) Af Ao _ A3.out).mono ?_); rintro e w39 ⟨v161, rfl, ho0, hb⟩; refine ⟨_, rfl, ?_⟩; have Ai := Zz.mk (Kd.R_lower (Kd.R_new' (Kd.R_new' ho0 (Kd.R_lt (xkd Aa))) (Kd.R_lt (xkd Ab))) (ah xbl)); replace Aa := Zz.mk (Kd.R_elder' (xkd Aa) (Kd.R_base ho0) hb); replace Ab := Zz.mk (Kd.R_elder' (xkd Ab) (Kd.R_base ho0) hb); replace HB := xst hb; (try clear hb); (try clear ho0)))
      go_ret
      exact ⟨xre, xbl⟩
    ·
     rw [if_neg c7] at H
     have Az : (An == 0) = false := beq_eq_false_iff_ne.mpr c7
     have AA : (An != 0) = true := bne_iff_ne.mpr c7
     obtain rfl := Option.some.inj H
     go_enter Try.func6, Try.ntmps6
     go_wp2_with (first | ((with_reducible refine aY (N := 8) rfl ?_); (try (refine aD (by rfl) ?_; dsimp only)); refine Kd.R_lit (Kd.int .i32) _ 21 ?hg (N := 8) ?hd (xs := ([252] : List Int)) (inner := [.int .i32 252]) (ok := fun _ => True) (okp := fun _ => True) ?hr ?hp (fun _ hk => hk) trivial (Below.refl _ _) (Nat.le_refl _) (by simp) ?_; (case hd => rfl); (case hg => rfl); (case hr => first | (go_simp; done) | (go_simp; rfl)); (case hp => exact (Reps.one (show Kd.M (Kd.int .i32) _ _ _ 252 [.int .i32 252] from rfl) (Reps.none _ _))); intro v150 w40 ho41 hb hg_ hnew_; clear hg_ hnew_; (first | rw [← Ad.out] at ho41 | (simp only [Int.reduceToNat] at ho41; rw [← Ad.out] at ho41)); have Aa := Zz.mk (Kd.R_lower ho41 (ah xbl)); replace HB := xst hb; clear hb ho41; obtain ⟨Ao42, co42, eo42⟩ := Kd.R_slice Aa.out; subst eo42) | ((with_reducible refine ab (f := 18) rfl ?_); refine xgl 9 Try.func18 #[.slice Ao42 Ag.length co42] ?_; (with_reducible refine (ag k _ _ Ag Aj Ak _ ?side1 ?side2 A1.out).mono ?_); (case side1 => repeat (first | exact (Kd.R_reads' Aa.out).2.2 | (with_reducible refine Kd.C_alloc ?_ _) | (with_reducible refine Kd.C_drewN ?_ _) | (with_reducible refine Kd.C_drew ?_))); (case side2 => exact (Kd.R_reads' Aa.out).2.1); rintro e w43 ⟨rfl, hb⟩; refine ⟨_, rfl, ?_⟩; replace Aa := Zz.mk (Kd.R_below (xkd Aa) hb); replace HB := xst hb; (try clear hb)) | ((with_reducible refine aY (N := 13) rfl ?_); (try (refine aD (by rfl) ?_; dsimp only)); refine Kd.R_lit (Kd.int .i32) _ 21 ?hg (N := 13) ?hd (xs := ([98, 252, 99, 104, 101, 114] : List Int)) (inner := [.int .i32 98, .int .i32 252, .int .i32 99, .int .i32 104, .int .i32 101, .int .i32 114]) (ok := fun _ => True) (okp := fun _ => True) ?hr ?hp (fun _ hk => hk) trivial (Below.refl _ _) (Nat.le_refl _) (by simp) ?_; (case hd => rfl); (case hg => rfl); (case hr => first | (go_simp; done) | (go_simp; rfl)); (case hp => exact (Reps.one (show Kd.M (Kd.int .i32) _ _ _ 98 [.int .i32 98] from rfl) (Reps.one (show Kd.M (Kd.int .i32) _ _ _ 252 [.int .i32 252] from rfl) (Reps.one (show Kd.M (Kd.int .i32) _ _ _ 99 [.int .i32 99] from rfl) (Reps.one (show Kd.M (Kd.int .i32) _ _ _ 104 [.int .i32 104] from rfl) (Reps.one (show Kd.M (Kd.int .i32) _ _ _ 101 [.int .i32 101] from rfl) (Reps.one (show Kd.M (Kd.int .i32) _ _ _ 114 [.int .i32 114] from rfl) (Reps.none _ _)))))))); intro v155 w44 ho45 hb hg_ hnew_; clear hg_ hnew_; (first | rw [← Ae.out] at ho45 | (simp only [Int.reduceToNat] at ho45; rw [← Ae.out] at ho45)); have Ab := Zz.mk (Kd.R_lower (Kd.R_new' ho45 (Kd.R_lt (xkd Aa))) (ah xbl)); replace Aa := Zz.mk (Kd.R_elder' (xkd Aa) (Kd.R_base ho45) hb); replace HB := xst hb; clear hb ho45; obtain ⟨Ao46, co46, eo46⟩ := Kd.R_slice Ab.out; subst eo46) | ((with_reducible refine ab (f := 18) rfl ?_); refine xgl 14 Try.func18 #[.slice Ao46 Ah.length co46] ?_; (with_reducible refine (ag k _ _ Ah Am An _ ?side1 ?side2 A2.out).mono ?_); (case side1 => repeat (first | exact (Kd.R_reads' Ab.out).2.2 | (with_reducible refine Kd.C_alloc ?_ _) | (with_reducible refine Kd.C_drewN ?_ _) | (with_reducible refine Kd.C_drew ?_))); (case side2 => exact (Kd.R_reads' Ab.out).2.1); rintro e w47 ⟨rfl, hb⟩; refine ⟨_, rfl, ?_⟩; replace Aa := Zz.mk (Kd.R_below (xkd Aa) hb); replace Ab := Zz.mk (Kd.R_below (xkd Ab) hb); replace HB := xst hb; (try clear hb)) | ((with_reducible refine ab (f := 7) rfl ?_); refine xgl 18 Try.func7 #[.string (⟨#[98, 99, 104, 101, 114, 45, 107, 118, 97]⟩ : ByteArray)] ?_; (with_reducible refine (aZ k (⟨#[98, 99, 104, 101, 114, 45, 107, 118, 97]⟩ : ByteArray) Af Ao _ A3.out).mono ?_); rintro e w48 ⟨v161, rfl, ho0, hb⟩; refine ⟨_, rfl, ?_⟩; have Ai := Zz.mk (Kd.R_lower (Kd.R_new' (Kd.R_new' ho0 (Kd.R_lt (xkd Aa))) (Kd.R_lt (xkd Ab))) (ah xbl)); replace Aa := Zz.mk (Kd.R_elder' (xkd Aa) (Kd.R_base ho0) hb); replace Ab := Zz.mk (Kd.R_elder' (xkd Ab) (Kd.R_base ho0) hb); replace HB := xst hb; (try clear hb); (try clear ho0)))
     go_ret
     exact ⟨xre, xbl⟩
   ·
    rw [if_neg c6] at H
    have Ax : (Am.toList == ([98, 99, 104, 101, 114, 45, 107, 118, 97] : List UInt8)) = false := beq_eq_false_iff_ne.mpr c6
    have Ay : (Am.toList != ([98, 99, 104, 101, 114, 45, 107, 118, 97] : List UInt8)) = true := bne_iff_ne.mpr c6
    obtain rfl := Option.some.inj H
    go_enter Try.func6, Try.ntmps6
    go_wp2_with (first | ((with_reducible refine aY (N := 8) rfl ?_); (try (refine aD (by rfl) ?_; dsimp only)); refine Kd.R_lit (Kd.int .i32) _ 21 ?hg (N := 8) ?hd (xs := ([252] : List Int)) (inner := [.int .i32 252]) (ok := fun _ => True) (okp := fun _ => True) ?hr ?hp (fun _ hk => hk) trivial (Below.refl _ _) (Nat.le_refl _) (by simp) ?_; (case hd => rfl); (case hg => rfl); (case hr => first | (go_simp; done) | (go_simp; rfl)); (case hp => exact (Reps.one (show Kd.M (Kd.int .i32) _ _ _ 252 [.int .i32 252] from rfl) (Reps.none _ _))); intro v150 w49 ho50 hb hg_ hnew_; clear hg_ hnew_; (first | rw [← Ad.out] at ho50 | (simp only [Int.reduceToNat] at ho50; rw [← Ad.out] at ho50)); have Aa := Zz.mk (Kd.R_lower ho50 (ah xbl)); replace HB := xst hb; clear hb ho50; obtain ⟨Ao51, co51, eo51⟩ := Kd.R_slice Aa.out; subst eo51) | ((with_reducible refine ab (f := 18) rfl ?_); refine xgl 9 Try.func18 #[.slice Ao51 Ag.length co51] ?_; (with_reducible refine (ag k _ _ Ag Aj Ak _ ?side1 ?side2 A1.out).mono ?_); (case side1 => repeat (first | exact (Kd.R_reads' Aa.out).2.2 | (with_reducible refine Kd.C_alloc ?_ _) | (with_reducible refine Kd.C_drewN ?_ _) | (with_reducible refine Kd.C_drew ?_))); (case side2 => exact (Kd.R_reads' Aa.out).2.1); rintro e w52 ⟨rfl, hb⟩; refine ⟨_, rfl, ?_⟩; replace Aa := Zz.mk (Kd.R_below (xkd Aa) hb); replace HB := xst hb; (try clear hb)) | ((with_reducible refine aY (N := 13) rfl ?_); (try (refine aD (by rfl) ?_; dsimp only)); refine Kd.R_lit (Kd.int .i32) _ 21 ?hg (N := 13) ?hd (xs := ([98, 252, 99, 104, 101, 114] : List Int)) (inner := [.int .i32 98, .int .i32 252, .int .i32 99, .int .i32 104, .int .i32 101, .int .i32 114]) (ok := fun _ => True) (okp := fun _ => True) ?hr ?hp (fun _ hk => hk) trivial (Below.refl _ _) (Nat.le_refl _) (by simp) ?_; (case hd => rfl); (case hg => rfl); (case hr => first | (go_simp; done) | (go_simp; rfl)); (case hp => exact (Reps.one (show Kd.M (Kd.int .i32) _ _ _ 98 [.int .i32 98] from rfl) (Reps.one (show Kd.M (Kd.int .i32) _ _ _ 252 [.int .i32 252] from rfl) (Reps.one (show Kd.M (Kd.int .i32) _ _ _ 99 [.int .i32 99] from rfl) (Reps.one (show Kd.M (Kd.int .i32) _ _ _ 104 [.int .i32 104] from rfl) (Reps.one (show Kd.M (Kd.int .i32) _ _ _ 101 [.int .i32 101] from rfl) (Reps.one (show Kd.M (Kd.int .i32) _ _ _ 114 [.int .i32 114] from rfl) (Reps.none _ _)))))))); intro v155 w53 ho54 hb hg_ hnew_; clear hg_ hnew_; (first | rw [← Ae.out] at ho54 | (simp only [Int.reduceToNat] at ho54; rw [← Ae.out] at ho54)); have Ab := Zz.mk (Kd.R_lower (Kd.R_new' ho54 (Kd.R_lt (xkd Aa))) (ah xbl)); replace Aa := Zz.mk (Kd.R_elder' (xkd Aa) (Kd.R_base ho54) hb); replace HB := xst hb; clear hb ho54; obtain ⟨Ao55, co55, eo55⟩ := Kd.R_slice Ab.out; subst eo55) | ((with_reducible refine ab (f := 18) rfl ?_); refine xgl 14 Try.func18 #[.slice Ao55 Ah.length co55] ?_; (with_reducible refine (ag k _ _ Ah Am An _ ?side1 ?side2 A2.out).mono ?_); (case side1 => repeat (first | exact (Kd.R_reads' Ab.out).2.2 | (with_reducible refine Kd.C_alloc ?_ _) | (with_reducible refine Kd.C_drewN ?_ _) | (with_reducible refine Kd.C_drew ?_))); (case side2 => exact (Kd.R_reads' Ab.out).2.1); rintro e w56 ⟨rfl, hb⟩; refine ⟨_, rfl, ?_⟩; replace Aa := Zz.mk (Kd.R_below (xkd Aa) hb); replace Ab := Zz.mk (Kd.R_below (xkd Ab) hb); replace HB := xst hb; (try clear hb)) | ((with_reducible refine ab (f := 7) rfl ?_); refine xgl 18 Try.func7 #[.string (⟨#[98, 99, 104, 101, 114, 45, 107, 118, 97]⟩ : ByteArray)] ?_; (with_reducible refine (aZ k (⟨#[98, 99, 104, 101, 114, 45, 107, 118, 97]⟩ : ByteArray) Af Ao _ A3.out).mono ?_); rintro e w57 ⟨v161, rfl, ho0, hb⟩; refine ⟨_, rfl, ?_⟩; have Ai := Zz.mk (Kd.R_lower (Kd.R_new' (Kd.R_new' ho0 (Kd.R_lt (xkd Aa))) (Kd.R_lt (xkd Ab))) (ah xbl)); replace Aa := Zz.mk (Kd.R_elder' (xkd Aa) (Kd.R_base ho0) hb); replace Ab := Zz.mk (Kd.R_elder' (xkd Ab) (Kd.R_base ho0) hb); replace HB := xst hb; (try clear hb); (try clear ho0)))
    go_ret
    exact ⟨xre, xbl⟩
  ·
   rw [if_neg c5] at H
   have Av : (Ak == 0) = false := beq_eq_false_iff_ne.mpr c5
   have Aw : (Ak != 0) = true := bne_iff_ne.mpr c5
   obtain rfl := Option.some.inj H
   go_enter Try.func6, Try.ntmps6
   go_wp2_with (first | ((with_reducible refine aY (N := 8) rfl ?_); (try (refine aD (by rfl) ?_; dsimp only)); refine Kd.R_lit (Kd.int .i32) _ 21 ?hg (N := 8) ?hd (xs := ([252] : List Int)) (inner := [.int .i32 252]) (ok := fun _ => True) (okp := fun _ => True) ?hr ?hp (fun _ hk => hk) trivial (Below.refl _ _) (Nat.le_refl _) (by simp) ?_; (case hd => rfl); (case hg => rfl); (case hr => first | (go_simp; done) | (go_simp; rfl)); (case hp => exact (Reps.one (show Kd.M (Kd.int .i32) _ _ _ 252 [.int .i32 252] from rfl) (Reps.none _ _))); intro v150 w58 ho59 hb hg_ hnew_; clear hg_ hnew_; (first | rw [← Ad.out] at ho59 | (simp only [Int.reduceToNat] at ho59; rw [← Ad.out] at ho59)); have Aa := Zz.mk (Kd.R_lower ho59 (ah xbl)); replace HB := xst hb; clear hb ho59; obtain ⟨Ao60, co60, eo60⟩ := Kd.R_slice Aa.out; subst eo60) | ((with_reducible refine ab (f := 18) rfl ?_); refine xgl 9 Try.func18 #[.slice Ao60 Ag.length co60] ?_; (with_reducible refine (ag k _ _ Ag Aj Ak _ ?side1 ?side2 A1.out).mono ?_); (case side1 => repeat (first | exact (Kd.R_reads' Aa.out).2.2 | (with_reducible refine Kd.C_alloc ?_ _) | (with_reducible refine Kd.C_drewN ?_ _) | (with_reducible refine Kd.C_drew ?_))); (case side2 => exact (Kd.R_reads' Aa.out).2.1); rintro e w61 ⟨rfl, hb⟩; refine ⟨_, rfl, ?_⟩; replace Aa := Zz.mk (Kd.R_below (xkd Aa) hb); replace HB := xst hb; (try clear hb)) | ((with_reducible refine aY (N := 13) rfl ?_); (try (refine aD (by rfl) ?_; dsimp only)); refine Kd.R_lit (Kd.int .i32) _ 21 ?hg (N := 13) ?hd (xs := ([98, 252, 99, 104, 101, 114] : List Int)) (inner := [.int .i32 98, .int .i32 252, .int .i32 99, .int .i32 104, .int .i32 101, .int .i32 114]) (ok := fun _ => True) (okp := fun _ => True) ?hr ?hp (fun _ hk => hk) trivial (Below.refl _ _) (Nat.le_refl _) (by simp) ?_; (case hd => rfl); (case hg => rfl); (case hr => first | (go_simp; done) | (go_simp; rfl)); (case hp => exact (Reps.one (show Kd.M (Kd.int .i32) _ _ _ 98 [.int .i32 98] from rfl) (Reps.one (show Kd.M (Kd.int .i32) _ _ _ 252 [.int .i32 252] from rfl) (Reps.one (show Kd.M (Kd.int .i32) _ _ _ 99 [.int .i32 99] from rfl) (Reps.one (show Kd.M (Kd.int .i32) _ _ _ 104 [.int .i32 104] from rfl) (Reps.one (show Kd.M (Kd.int .i32) _ _ _ 101 [.int .i32 101] from rfl) (Reps.one (show Kd.M (Kd.int .i32) _ _ _ 114 [.int .i32 114] from rfl) (Reps.none _ _)))))))); intro v155 w62 ho63 hb hg_ hnew_; clear hg_ hnew_; (first | rw [← Ae.out] at ho63 | (simp only [Int.reduceToNat] at ho63; rw [← Ae.out] at ho63)); have Ab := Zz.mk (Kd.R_lower (Kd.R_new' ho63 (Kd.R_lt (xkd Aa))) (ah xbl)); replace Aa := Zz.mk (Kd.R_elder' (xkd Aa) (Kd.R_base ho63) hb); replace HB := xst hb; clear hb ho63; obtain ⟨Ao64, co64, eo64⟩ := Kd.R_slice Ab.out; subst eo64) | ((with_reducible refine ab (f := 18) rfl ?_); refine xgl 14 Try.func18 #[.slice Ao64 Ah.length co64] ?_; (with_reducible refine (ag k _ _ Ah Am An _ ?side1 ?side2 A2.out).mono ?_); (case side1 => repeat (first | exact (Kd.R_reads' Ab.out).2.2 | (with_reducible refine Kd.C_alloc ?_ _) | (with_reducible refine Kd.C_drewN ?_ _) | (with_reducible refine Kd.C_drew ?_))); (case side2 => exact (Kd.R_reads' Ab.out).2.1); rintro e w65 ⟨rfl, hb⟩; refine ⟨_, rfl, ?_⟩; replace Aa := Zz.mk (Kd.R_below (xkd Aa) hb); replace Ab := Zz.mk (Kd.R_below (xkd Ab) hb); replace HB := xst hb; (try clear hb)) | ((with_reducible refine ab (f := 7) rfl ?_); refine xgl 18 Try.func7 #[.string (⟨#[98, 99, 104, 101, 114, 45, 107, 118, 97]⟩ : ByteArray)] ?_; (with_reducible refine (aZ k (⟨#[98, 99, 104, 101, 114, 45, 107, 118, 97]⟩ : ByteArray) Af Ao _ A3.out).mono ?_); rintro e w66 ⟨v161, rfl, ho0, hb⟩; refine ⟨_, rfl, ?_⟩; have Ai := Zz.mk (Kd.R_lower (Kd.R_new' (Kd.R_new' ho0 (Kd.R_lt (xkd Aa))) (Kd.R_lt (xkd Ab))) (ah xbl)); replace Aa := Zz.mk (Kd.R_elder' (xkd Aa) (Kd.R_base ho0) hb); replace Ab := Zz.mk (Kd.R_elder' (xkd Ab) (Kd.R_base ho0) hb); replace HB := xst hb; (try clear hb); (try clear ho0)))
   go_ret
   exact ⟨xre, xbl⟩
 ·
  rw [if_neg c4] at H
  have At : (Aj.toList == ([116, 100, 97] : List UInt8)) = false := beq_eq_false_iff_ne.mpr c4
  have Au : (Aj.toList != ([116, 100, 97] : List UInt8)) = true := bne_iff_ne.mpr c4
  obtain rfl := Option.some.inj H
  go_enter Try.func6, Try.ntmps6
  go_wp2_with (first | ((with_reducible refine aY (N := 8) rfl ?_); (try (refine aD (by rfl) ?_; dsimp only)); refine Kd.R_lit (Kd.int .i32) _ 21 ?hg (N := 8) ?hd (xs := ([252] : List Int)) (inner := [.int .i32 252]) (ok := fun _ => True) (okp := fun _ => True) ?hr ?hp (fun _ hk => hk) trivial (Below.refl _ _) (Nat.le_refl _) (by simp) ?_; (case hd => rfl); (case hg => rfl); (case hr => first | (go_simp; done) | (go_simp; rfl)); (case hp => exact (Reps.one (show Kd.M (Kd.int .i32) _ _ _ 252 [.int .i32 252] from rfl) (Reps.none _ _))); intro v150 w67 ho68 hb hg_ hnew_; clear hg_ hnew_; (first | rw [← Ad.out] at ho68 | (simp only [Int.reduceToNat] at ho68; rw [← Ad.out] at ho68)); have Aa := Zz.mk (Kd.R_lower ho68 (ah xbl)); replace HB := xst hb; clear hb ho68; obtain ⟨Ao69, co69, eo69⟩ := Kd.R_slice Aa.out; subst eo69) | ((with_reducible refine ab (f := 18) rfl ?_); refine xgl 9 Try.func18 #[.slice Ao69 Ag.length co69] ?_; (with_reducible refine (ag k _ _ Ag Aj Ak _ ?side1 ?side2 A1.out).mono ?_); (case side1 => repeat (first | exact (Kd.R_reads' Aa.out).2.2 | (with_reducible refine Kd.C_alloc ?_ _) | (with_reducible refine Kd.C_drewN ?_ _) | (with_reducible refine Kd.C_drew ?_))); (case side2 => exact (Kd.R_reads' Aa.out).2.1); rintro e w70 ⟨rfl, hb⟩; refine ⟨_, rfl, ?_⟩; replace Aa := Zz.mk (Kd.R_below (xkd Aa) hb); replace HB := xst hb; (try clear hb)) | ((with_reducible refine aY (N := 13) rfl ?_); (try (refine aD (by rfl) ?_; dsimp only)); refine Kd.R_lit (Kd.int .i32) _ 21 ?hg (N := 13) ?hd (xs := ([98, 252, 99, 104, 101, 114] : List Int)) (inner := [.int .i32 98, .int .i32 252, .int .i32 99, .int .i32 104, .int .i32 101, .int .i32 114]) (ok := fun _ => True) (okp := fun _ => True) ?hr ?hp (fun _ hk => hk) trivial (Below.refl _ _) (Nat.le_refl _) (by simp) ?_; (case hd => rfl); (case hg => rfl); (case hr => first | (go_simp; done) | (go_simp; rfl)); (case hp => exact (Reps.one (show Kd.M (Kd.int .i32) _ _ _ 98 [.int .i32 98] from rfl) (Reps.one (show Kd.M (Kd.int .i32) _ _ _ 252 [.int .i32 252] from rfl) (Reps.one (show Kd.M (Kd.int .i32) _ _ _ 99 [.int .i32 99] from rfl) (Reps.one (show Kd.M (Kd.int .i32) _ _ _ 104 [.int .i32 104] from rfl) (Reps.one (show Kd.M (Kd.int .i32) _ _ _ 101 [.int .i32 101] from rfl) (Reps.one (show Kd.M (Kd.int .i32) _ _ _ 114 [.int .i32 114] from rfl) (Reps.none _ _)))))))); intro v155 w71 ho72 hb hg_ hnew_; clear hg_ hnew_; (first | rw [← Ae.out] at ho72 | (simp only [Int.reduceToNat] at ho72; rw [← Ae.out] at ho72)); have Ab := Zz.mk (Kd.R_lower (Kd.R_new' ho72 (Kd.R_lt (xkd Aa))) (ah xbl)); replace Aa := Zz.mk (Kd.R_elder' (xkd Aa) (Kd.R_base ho72) hb); replace HB := xst hb; clear hb ho72; obtain ⟨Ao73, co73, eo73⟩ := Kd.R_slice Ab.out; subst eo73) | ((with_reducible refine ab (f := 18) rfl ?_); refine xgl 14 Try.func18 #[.slice Ao73 Ah.length co73] ?_; (with_reducible refine (ag k _ _ Ah Am An _ ?side1 ?side2 A2.out).mono ?_); (case side1 => repeat (first | exact (Kd.R_reads' Ab.out).2.2 | (with_reducible refine Kd.C_alloc ?_ _) | (with_reducible refine Kd.C_drewN ?_ _) | (with_reducible refine Kd.C_drew ?_))); (case side2 => exact (Kd.R_reads' Ab.out).2.1); rintro e w74 ⟨rfl, hb⟩; refine ⟨_, rfl, ?_⟩; replace Aa := Zz.mk (Kd.R_below (xkd Aa) hb); replace Ab := Zz.mk (Kd.R_below (xkd Ab) hb); replace HB := xst hb; (try clear hb)) | ((with_reducible refine ab (f := 7) rfl ?_); refine xgl 18 Try.func7 #[.string (⟨#[98, 99, 104, 101, 114, 45, 107, 118, 97]⟩ : ByteArray)] ?_; (with_reducible refine (aZ k (⟨#[98, 99, 104, 101, 114, 45, 107, 118, 97]⟩ : ByteArray) Af Ao _ A3.out).mono ?_); rintro e w75 ⟨v161, rfl, ho0, hb⟩; refine ⟨_, rfl, ?_⟩; have Ai := Zz.mk (Kd.R_lower (Kd.R_new' (Kd.R_new' ho0 (Kd.R_lt (xkd Aa))) (Kd.R_lt (xkd Ab))) (ah xbl)); replace Aa := Zz.mk (Kd.R_elder' (xkd Aa) (Kd.R_base ho0) hb); replace Ab := Zz.mk (Kd.R_elder' (xkd Ab) (Kd.R_base ho0) hb); replace HB := xst hb; (try clear hb); (try clear ho0)))
  go_ret
  exact ⟨xre, xbl⟩
mutual
def aj : Nat → ByteArray → List Int → Int → Option (Bool)
  | 0, _, _, _ => none
  | k + 1, x0, x3, x4 => if x4 < (x0.size : Int) then (if 0 ≤ x4 then (if x3.length < 35184372088832 then (aj k x0 (x3 ++ [wrap32 (Go.bits .and .u8 (bt x0 x4) 127)]) (wrap64 (x4 + 1))) else (none)) else (none)) else ((ax k x3).bind fun bt232 => (if (x0.size : Int) = 0 then (if bt232.1.toList = ([] : List UInt8) then (if bt232.2 = 0 then ((ay k).bind fun t234 => (some t234)) else (none)) else (none)) else (ar k x0 bt232.1 bt232.2 0)))
def ar : Nat → ByteArray → ByteArray → Int → Int → Option (Bool)
  | 0, _, _, _, _ => none
  | k + 1, x0, x5, x6, x7 => if x7 < (x0.size : Int) then (if x7 ≥ (x5.size : Int) then (none) else (if 0 ≤ x7 then (if x7 < (x5.size : Int) then (if (bt x5 x7) = (Go.bits .and .u8 (bt x0 x7) 127) then (ar k x0 x5 x6 (wrap64 (x7 + 1))) else (none)) else (none)) else (none))) else (if x6 = 0 then (if (x5.size : Int) = (wrap64 ((x0.size : Int) + 1)) then (if 0 ≤ (x0.size : Int) then (if (x0.size : Int) < (x5.size : Int) then (if (bt x5 (x0.size : Int)) = 45 then ((ay k).bind fun t235 => (some t235)) else (none)) else (none)) else (none)) else (none)) else (none))
end
def bg (k : Nat) (a0 : ByteArray) : Option (Bool) := if (a0.size : Int) > 60 then ((ay k).bind fun t228 => (some t228)) else (aj k a0 ([] : List Int) 0)
theorem bO (k : Nat) (a0 : ByteArray) (r : Bool) (w : World) (h : bg k a0 = some r) :
    Calls Try.prog 5 #[.string a0] w fun e w' => e = .returned (.bool r) ∧ Below w.heap.size w w' := by
 have HB := Zz.mk (Below.refl w.heap.size w)
 have H : (if (a0.size : Int) > 60 then ((ay k).bind fun Ah => (some Ah)) else (aj k a0 ([] : List Int) 0)) = some r := h
 clear h
 by_cases c2 : (a0.size : Int) > 60
 ·
  rw [if_pos c2] at H
  have Ao := decide_eq_true c2
  have Ap : decide (60 < a0.size) = true := decide_eq_true (by omega)
  clear c2
  replace H := Option.bind_eq_some_iff.mp H
  obtain ⟨Ah, A30, H⟩ := H
  try dsimp only at H
  have A3 := Zz.mk A30
  clear A30
  obtain rfl := Option.some.inj H
  go_enter Try.func5, Try.ntmps5
  go_wp2_with (first | (go_at_call 6; (with_reducible refine (ao k  Ah _ A3.out).mono ?_); rintro e w4 ⟨rfl, hb⟩; replace HB := xst hb; (try clear hb)))
  repeat (go_quiet (first | (go_at_call 6; (with_reducible refine (ao k  Ah _ A3.out).mono ?_); rintro e w4 ⟨rfl, hb⟩; replace HB := xst hb; (try clear hb))); try go_wp2_with (first | (go_at_call 6; (with_reducible refine (ao k  Ah _ A3.out).mono ?_); rintro e w4 ⟨rfl, hb⟩; replace HB := xst hb; (try clear hb))))
  go_ret
  exact ⟨xre, xbl⟩
 ·
  rw [if_neg c2] at H
  have Ao := decide_eq_false c2
  have Ap : decide (60 < a0.size) = false := decide_eq_false (by omega)
  clear c2
  have H' := Zz.mk H
  clear H
  go_enter Try.func5, Try.ntmps5
  go_wp2
  repeat (go_quiet (fail); try go_wp2)
  go_loopg [3, 4] k (fun kq v3 v4 w' => ∃ (Ae : List Int) (Ad : Int), v4 = .int .i64 Ad ∧ Zz (aj kq a0 Ae Ad = some r) ∧ Zz (kq ≤ k) ∧ Zz (Kd.R (Kd.int .i32) 21 w' w.heap.size (fun _ => True) v3 Ae) ∧ Zz (Below w.heap.size w w'))
  case atStart => exact ⟨(([] : List Int)), (0), xrr, H', ⟨Nat.le_refl _⟩, ⟨by first | exact Kd.R_nil _ _ _ _ _ | exact Kd.N_nil _ _ _ _ _ | exact Kd.V_nil _ _ _ _ _ | exact Kd.Q_nil _ _ _ _ _ | exact Kd.S_nil _ _ _ _ _⟩, ⟨xbl⟩⟩
  case round =>
   clear H'
   clear Ao Ap
   obtain ⟨Ae, Ad, rfl, HA, HK1, Aa, HB⟩ := hrel
   cases gk with
   | zero => exact absurd HA.out (by simp [aj])
   | succ k1 =>
    have H := HA.out
    clear HA
    simp only [aj] at H
    by_cases c5 : Ad < (a0.size : Int)
    ·
     rw [if_pos c5] at H
     have Aq := decide_eq_true c5
     clear c5
     by_cases c6 : 0 ≤ Ad
     ·
      rw [if_pos c6] at H
      have AQ := decide_eq_true c6
      clear c6
      by_cases c8 : Ae.length < 35184372088832
      ·
       rw [if_pos c8] at H
       have LMc8 := Zz.mk c8
       clear c8
       obtain ⟨Ar, Ag⟩ : ∃ y_ : List Int, y_ = (Ae ++ [wrap32 (Go.bits .and .u8 (bt a0 Ad) 127)]) := ⟨_, rfl⟩
       replace H : (aj k1 a0 Ar (wrap64 (Ad + 1))) = some r := by first | (rw [Ag]; with_reducible exact H) | (have H2_ := (Option.bind_some _ _).symm.trans H; rw [Ag]; with_reducible exact H2_) | (have H2_ := (Option.bind_some _ _).symm.trans H; with_reducible exact H2_) | with_reducible exact H | (rw [Ag]; exact H) | exact H
       have Ai := Zz.mk Ag
       clear Ag
       have H' := Zz.mk H
       clear H
       have p7 : 0 ≤ (Ad : Int) := xod
       have q7 : Ad < (a0.size : Int) := xod
       have hx7 := bp a0 Ad
       replace p7 := eq_true p7
       replace q7 := eq_true q7
       try (have AR := q7; simp only [ByteArray.size_extract, Nat.min_self] at AR)
       go_wp2_with (first | ((with_reducible refine bd (b := .append) (xs := #[.tmp 18, .tmp 24]) rfl ?_); (try (refine aD (by rfl) ?_; dsimp only)); at_builtin; refine Kd.R_append (Kd.int .i32) (w0 := w) w.heap.size rfl (.tmp 18) (.tmp 24) 23 21 (.int .i32 0) 4 rfl Try.underlying23 cJ rfl (by decide) (by omega) u3 Ae (wrap32 (Go.bits .and .u8 (bt a0 Ad) 127)) [.int .i32 (wrap32 (Go.bits .and .u8 (bt a0 Ad) 127))] (fun _ => True) (fun _ => False) rfl rfl ?aP (fun _ hk => hk.elim) ?aF ?aO ?aB ?aS ?aL ?_; (case aP => exact rfl); (case aB => exact xbl); (case aF => exact (fun _ _ => trivial)); (case aO => exact (xkd Aa)); (case aS => exact (ah xbl)); (case aL => have := LMc8.out; first | omega | exact Nat.le_of_lt this); intro v230 w9 ho hb hg hat; rw [← Ai.out] at ho; have n0_ := Zz.mk (hb); have n1_ := Zz.mk (ho); clear HB; clear Aa; have HB := n0_; have Aj := n1_; clear n0_ n1_; clear ho hb hg hat))
       repeat (go_quiet (first | ((with_reducible refine bd (b := .append) (xs := #[.tmp 18, .tmp 24]) rfl ?_); (try (refine aD (by rfl) ?_; dsimp only)); at_builtin; refine Kd.R_append (Kd.int .i32) (w0 := w) w.heap.size rfl (.tmp 18) (.tmp 24) 23 21 (.int .i32 0) 4 rfl Try.underlying23 cJ rfl (by decide) (by omega) u3 Ae (wrap32 (Go.bits .and .u8 (bt a0 Ad) 127)) [.int .i32 (wrap32 (Go.bits .and .u8 (bt a0 Ad) 127))] (fun _ => True) (fun _ => False) rfl rfl ?aP (fun _ hk => hk.elim) ?aF ?aO ?aB ?aS ?aL ?_; (case aP => exact rfl); (case aB => exact xbl); (case aF => exact (fun _ _ => trivial)); (case aO => exact (xkd Aa)); (case aS => exact (ah xbl)); (case aL => have := LMc8.out; first | omega | exact Nat.le_of_lt this); intro v230 w9 ho hb hg hat; rw [← Ai.out] at ho; have n0_ := Zz.mk (hb); have n1_ := Zz.mk (ho); clear HB; clear Aa; have HB := n0_; have Aj := n1_; clear n0_ n1_; clear ho hb hg hat)); try go_wp2_with (first | ((with_reducible refine bd (b := .append) (xs := #[.tmp 18, .tmp 24]) rfl ?_); (try (refine aD (by rfl) ?_; dsimp only)); at_builtin; refine Kd.R_append (Kd.int .i32) (w0 := w) w.heap.size rfl (.tmp 18) (.tmp 24) 23 21 (.int .i32 0) 4 rfl Try.underlying23 cJ rfl (by decide) (by omega) u3 Ae (wrap32 (Go.bits .and .u8 (bt a0 Ad) 127)) [.int .i32 (wrap32 (Go.bits .and .u8 (bt a0 Ad) 127))] (fun _ => True) (fun _ => False) rfl rfl ?aP (fun _ hk => hk.elim) ?aF ?aO ?aB ?aS ?aL ?_; (case aP => exact rfl); (case aB => exact xbl); (case aF => exact (fun _ _ => trivial)); (case aO => exact (xkd Aa)); (case aS => exact (ah xbl)); (case aL => have := LMc8.out; first | omega | exact Nat.le_of_lt this); intro v230 w9 ho hb hg hat; rw [← Ai.out] at ho; have n0_ := Zz.mk (hb); have n1_ := Zz.mk (ho); clear HB; clear Aa; have HB := n0_; have Aj := n1_; clear n0_ n1_; clear ho hb hg hat)))
       go_roundg k1
       case measure => have := HK1.out; omega
       case rel => exact ⟨(Ar), (wrap64 (Ad + 1)), xrr, H', ⟨by have := HK1.out; omega⟩, ⟨xkd Aj⟩, ⟨xbl⟩⟩
      ·
       rw [if_neg c8] at H
       exact absurd H (by simp)
     ·
      rw [if_neg c6] at H
      exact absurd H (by simp)
    ·
     rw [if_neg c5] at H
     have Aq := decide_eq_false c5
     clear c5
     replace H := Option.bind_eq_some_iff.mp H
     obtain ⟨⟨Ab, Af⟩, A100, H⟩ := H
     try dsimp only at H
     have A10 := Zz.mk A100
     clear A100
     by_cases c11 : (a0.size : Int) = 0
     ·
      rw [if_pos c11] at H
      have Ak : ((a0.size : Int) == 0) = true := beq_iff_eq.mpr c11
      have Al : ((a0.size : Int) != 0) = false := bne_eq_false_iff_eq.mpr c11
      clear c11
      by_cases c12 : Ab.toList = ([] : List UInt8)
      ·
       rw [if_pos c12] at H
       have Aw : (Ab.toList == ([] : List UInt8)) = true := beq_iff_eq.mpr c12
       have Ax : (Ab.toList != ([] : List UInt8)) = false := bne_eq_false_iff_eq.mpr c12
       (try (have Ay : Ab.toList.isEmpty = true := by simpa using c12))
       clear c12
       by_cases c13 : Af = 0
       ·
        rw [if_pos c13] at H
        have Az : (Af == 0) = true := beq_iff_eq.mpr c13
        have AA : (Af != 0) = false := bne_eq_false_iff_eq.mpr c13
        clear c13
        replace H := Option.bind_eq_some_iff.mp H
        obtain ⟨Am, A140, H⟩ := H
        try dsimp only at H
        have A14 := Zz.mk A140
        clear A140
        obtain rfl := Option.some.inj H
        obtain ⟨Ao15, co15, eo15⟩ := Kd.R_slice Aa.out
        subst eo15
        go_wp2_with (first | (go_at_call 18; (with_reducible refine (ag k1 _ _ Ae Ab Af _ ?side1 ?side2 A10.out).mono ?_); (case side1 => repeat (first | exact (Kd.R_reads' Aa.out).2.2 | (with_reducible refine Kd.C_alloc ?_ _) | (with_reducible refine Kd.C_drewN ?_ _) | (with_reducible refine Kd.C_drew ?_))); (case side2 => exact (Kd.R_reads' Aa.out).2.1); rintro e w16 ⟨rfl, hb⟩; replace Aa := Zz.mk (Kd.R_below (xkd Aa) hb); replace HB := xst hb; (try clear hb)) | (go_at_call 6; (with_reducible refine (ao k1  Am _ A14.out).mono ?_); rintro e w17 ⟨rfl, hb⟩; replace Aa := Zz.mk (Kd.R_below (xkd Aa) hb); replace HB := xst hb; (try clear hb)))
        repeat (go_quiet (first | (go_at_call 18; (with_reducible refine (ag k1 _ _ Ae Ab Af _ ?side1 ?side2 A10.out).mono ?_); (case side1 => repeat (first | exact (Kd.R_reads' Aa.out).2.2 | (with_reducible refine Kd.C_alloc ?_ _) | (with_reducible refine Kd.C_drewN ?_ _) | (with_reducible refine Kd.C_drew ?_))); (case side2 => exact (Kd.R_reads' Aa.out).2.1); rintro e w16 ⟨rfl, hb⟩; replace Aa := Zz.mk (Kd.R_below (xkd Aa) hb); replace HB := xst hb; (try clear hb)) | (go_at_call 6; (with_reducible refine (ao k1  Am _ A14.out).mono ?_); rintro e w17 ⟨rfl, hb⟩; replace Aa := Zz.mk (Kd.R_below (xkd Aa) hb); replace HB := xst hb; (try clear hb))); try go_wp2_with (first | (go_at_call 18; (with_reducible refine (ag k1 _ _ Ae Ab Af _ ?side1 ?side2 A10.out).mono ?_); (case side1 => repeat (first | exact (Kd.R_reads' Aa.out).2.2 | (with_reducible refine Kd.C_alloc ?_ _) | (with_reducible refine Kd.C_drewN ?_ _) | (with_reducible refine Kd.C_drew ?_))); (case side2 => exact (Kd.R_reads' Aa.out).2.1); rintro e w16 ⟨rfl, hb⟩; replace Aa := Zz.mk (Kd.R_below (xkd Aa) hb); replace HB := xst hb; (try clear hb)) | (go_at_call 6; (with_reducible refine (ao k1  Am _ A14.out).mono ?_); rintro e w17 ⟨rfl, hb⟩; replace Aa := Zz.mk (Kd.R_below (xkd Aa) hb); replace HB := xst hb; (try clear hb))))
        go_ret
        exact ⟨xre, xbl⟩
       ·
        rw [if_neg c13] at H
        exact absurd H (by simp)
      ·
       rw [if_neg c12] at H
       exact absurd H (by simp)
     ·
      rw [if_neg c11] at H
      have Ak : ((a0.size : Int) == 0) = false := beq_eq_false_iff_ne.mpr c11
      have Al : ((a0.size : Int) != 0) = true := bne_iff_ne.mpr c11
      have H' := Zz.mk H
      clear H
      obtain ⟨Ao18, co18, eo18⟩ := Kd.R_slice Aa.out
      subst eo18
      go_wp2_with (first | (go_at_call 18; (with_reducible refine (ag k1 _ _ Ae Ab Af _ ?side1 ?side2 A10.out).mono ?_); (case side1 => repeat (first | exact (Kd.R_reads' Aa.out).2.2 | (with_reducible refine Kd.C_alloc ?_ _) | (with_reducible refine Kd.C_drewN ?_ _) | (with_reducible refine Kd.C_drew ?_))); (case side2 => exact (Kd.R_reads' Aa.out).2.1); rintro e w19 ⟨rfl, hb⟩; replace Aa := Zz.mk (Kd.R_below (xkd Aa) hb); replace HB := xst hb; (try clear hb)))
      repeat (go_quiet (first | (go_at_call 18; (with_reducible refine (ag k1 _ _ Ae Ab Af _ ?side1 ?side2 A10.out).mono ?_); (case side1 => repeat (first | exact (Kd.R_reads' Aa.out).2.2 | (with_reducible refine Kd.C_alloc ?_ _) | (with_reducible refine Kd.C_drewN ?_ _) | (with_reducible refine Kd.C_drew ?_))); (case side2 => exact (Kd.R_reads' Aa.out).2.1); rintro e w19 ⟨rfl, hb⟩; replace Aa := Zz.mk (Kd.R_below (xkd Aa) hb); replace HB := xst hb; (try clear hb))); try go_wp2_with (first | (go_at_call 18; (with_reducible refine (ag k1 _ _ Ae Ab Af _ ?side1 ?side2 A10.out).mono ?_); (case side1 => repeat (first | exact (Kd.R_reads' Aa.out).2.2 | (with_reducible refine Kd.C_alloc ?_ _) | (with_reducible refine Kd.C_drewN ?_ _) | (with_reducible refine Kd.C_drew ?_))); (case side2 => exact (Kd.R_reads' Aa.out).2.1); rintro e w19 ⟨rfl, hb⟩; replace Aa := Zz.mk (Kd.R_below (xkd Aa) hb); replace HB := xst hb; (try clear hb))))
      go_loopg [7] k1 (fun kq v7 w' => ∃ (Ac : Int), v7 = .int .i64 Ac ∧ Zz (ar kq a0 Ab Af Ac = some r) ∧ Zz (kq ≤ k1) ∧ Zz (Below w.heap.size w w'))
      case atStart => exact ⟨(0), xrr, H', ⟨Nat.le_refl _⟩, ⟨xbl⟩⟩
      case round =>
       clear H'
       clear Aq Ak Al
       obtain ⟨Ac, rfl, HA, HK2, HB⟩ := hrel
       cases gk with
       | zero => exact absurd HA.out (by simp [ar])
       | succ k2 =>
        have H := HA.out
        clear HA
        simp only [ar] at H
        by_cases c20 : Ac < (a0.size : Int)
        ·
         rw [if_pos c20] at H
         have As := decide_eq_true c20
         clear c20
         by_cases c21 : Ac ≥ (Ab.size : Int)
         ·
          rw [if_pos c21] at H
          exact absurd H (by simp)
         ·
          rw [if_neg c21] at H
          have AB := decide_eq_false c21
          clear c21
          by_cases c22 : 0 ≤ Ac
          ·
           rw [if_pos c22] at H
           have AC := decide_eq_true c22
           clear c22
           by_cases c23 : Ac < (Ab.size : Int)
           ·
            rw [if_pos c23] at H
            have AD := decide_eq_true c23
            clear c23
            by_cases c26 : (bt Ab Ac) = (Go.bits .and .u8 (bt a0 Ac) 127)
            ·
             rw [if_pos c26] at H
             have AE : ((bt Ab Ac) == (Go.bits .and .u8 (bt a0 Ac) 127)) = true := beq_iff_eq.mpr c26
             have AF : ((bt Ab Ac) != (Go.bits .and .u8 (bt a0 Ac) 127)) = false := bne_eq_false_iff_eq.mpr c26
             clear c26
             have H' := Zz.mk H
             clear H
             have p24 : 0 ≤ (Ac : Int) := xod
             have q24 : Ac < (Ab.size : Int) := xod
             have hx24 := bp Ab Ac
             replace p24 := eq_true p24
             replace q24 := eq_true q24
             try (have At := q24; simp only [ByteArray.size_extract, Nat.min_self] at At)
             have p25 : 0 ≤ (Ac : Int) := xod
             have q25 : Ac < (a0.size : Int) := xod
             have hx25 := bp a0 Ac
             replace p25 := eq_true p25
             replace q25 := eq_true q25
             try (have Au := q25; simp only [ByteArray.size_extract, Nat.min_self] at Au)
             go_wp2
             repeat (go_quiet (fail); try go_wp2)
             go_roundg k2
             case measure => have := HK1.out; have := HK2.out; omega
             case rel => exact ⟨(wrap64 (Ac + 1)), xrr, H', ⟨by have := HK1.out; have := HK2.out; omega⟩, ⟨xbl⟩⟩
            ·
             rw [if_neg c26] at H
             exact absurd H (by simp)
           ·
            rw [if_neg c23] at H
            exact absurd H (by simp)
          ·
           rw [if_neg c22] at H
           exact absurd H (by simp)
        ·
         rw [if_neg c20] at H
         have As := decide_eq_false c20
         clear c20
         by_cases c27 : Af = 0
         ·
          rw [if_pos c27] at H
          have AG : (Af == 0) = true := beq_iff_eq.mpr c27
          have AH : (Af != 0) = false := bne_eq_false_iff_eq.mpr c27
          clear c27
          by_cases c28 : (Ab.size : Int) = (wrap64 ((a0.size : Int) + 1))
          ·
           rw [if_pos c28] at H
           have AI : ((Ab.size : Int) == (wrap64 ((a0.size : Int) + 1))) = true := beq_iff_eq.mpr c28
           have AJ : ((Ab.size : Int) != (wrap64 ((a0.size : Int) + 1))) = false := bne_eq_false_iff_eq.mpr c28
           clear c28
           by_cases c29 : 0 ≤ (a0.size : Int)
           ·
            rw [if_pos c29] at H
            have AK := decide_eq_true c29
            have AL : decide (0 ≤ a0.size) = true := decide_eq_true (by omega)
            clear c29
            by_cases c30 : (a0.size : Int) < (Ab.size : Int)
            ·
             rw [if_pos c30] at H
             have AM := decide_eq_true c30
             have AN : decide (a0.size < Ab.size) = true := decide_eq_true (Int.ofNat_lt.mp c30)
             clear c30
             by_cases c32 : (bt Ab (a0.size : Int)) = 45
             ·
              rw [if_pos c32] at H
              have AO : ((bt Ab (a0.size : Int)) == 45) = true := beq_iff_eq.mpr c32
              have AP : ((bt Ab (a0.size : Int)) != 45) = false := bne_eq_false_iff_eq.mpr c32
              clear c32
              replace H := Option.bind_eq_some_iff.mp H
              obtain ⟨An, A330, H⟩ := H
              try dsimp only at H
              have A33 := Zz.mk A330
              clear A330
              obtain rfl := Option.some.inj H
              have p31 : 0 ≤ ((a0.size : Int) : Int) := xod
              have q31 : (a0.size : Int) < (Ab.size : Int) := xod
              have hx31 := bp Ab (a0.size : Int)
              have hx31x : ∀ h : a0.size < Ab.size, ((Ab[a0.size]'h).toNat : Int) = bt Ab (a0.size : Int) := fun h => bp Ab (a0.size : Int) h
              replace p31 := eq_true p31
              replace q31 := eq_true q31
              try (have Av := q31; simp only [ByteArray.size_extract, Nat.min_self] at Av)
              go_wp2_with (first | (go_at_call 6; (with_reducible refine (ao k2  An _ A33.out).mono ?_); rintro e w34 ⟨rfl, hb⟩; replace HB := xst hb; (try clear hb)))
              repeat (go_quiet (first | (go_at_call 6; (with_reducible refine (ao k2  An _ A33.out).mono ?_); rintro e w34 ⟨rfl, hb⟩; replace HB := xst hb; (try clear hb))); try go_wp2_with (first | (go_at_call 6; (with_reducible refine (ao k2  An _ A33.out).mono ?_); rintro e w34 ⟨rfl, hb⟩; replace HB := xst hb; (try clear hb))))
              go_ret
              exact ⟨xre, xbl⟩
             ·
              rw [if_neg c32] at H
              exact absurd H (by simp)
            ·
             rw [if_neg c30] at H
             exact absurd H (by simp)
           ·
            rw [if_neg c29] at H
            exact absurd H (by simp)
          ·
           rw [if_neg c28] at H
           exact absurd H (by simp)
         ·
          rw [if_neg c27] at H
          exact absurd H (by simp)
def bo : Prop := ∀ (a0 : ByteArray), a0.size ≤ 140737488351232 → ∃ k, bg k a0 = some true
theorem bS (P : bo) (a0 : ByteArray) (w : World) (w0 : a0.size ≤ 140737488351232) :
    Calls Try.prog 5 #[.string a0] w fun e w' => e = .returned (.bool true) ∧ Below w.heap.size w w' := by
 obtain ⟨k, h⟩ := P a0 w0
 refine (bO k a0 true w h).mono ?_
 rintro e w' ⟨rfl, hd⟩
 exact ⟨rfl, hd⟩
end Go.Proofs.Ytediodhkimacjaa.X
namespace Go.Proofs.Ytediodhkimacjaa.M
open Go Go.RowKit Go.Proofs.YtediodhkimacjaaW.PrintWords
theorem w64 {x : Int} (h1 : -9223372036854775808 ≤ x) (h2 : x ≤ 9223372036854775807) : wrap64 x = x := by unfold wrap64; omega
theorem cY (s : ByteArray) : s.toList = s.data.toList := ByteArray.toList_eq s
theorem cV {s : ByteArray} {x : Int} (h : x ∈ aA s) : 0 ≤ x ∧ x ≤ 255 := by
  unfold aA at h
  obtain ⟨b, _, rfl⟩ := List.mem_map.1 h
  have := b.toNat_lt
  omega
theorem bn (s : ByteArray) : (aA s).length = s.size := cL s
theorem cz (s : ByteArray) (i : Nat) : bt s (i : Int) = (aA s).getD i 0 := by
  rw [← dd]; unfold rd; simp
theorem dM (s : ByteArray) (i : Int) : 0 ≤ bt s i ∧ bt s i ≤ 255 := dq s i
theorem dY {α : Type} {g : Nat → Option α} {r : α} (h : ∀ k, g k = some r) : Ev g r := ⟨0, fun k _ => h k⟩
theorem b3 {α β : Type} {g : Nat → Option α} {f : Nat → α → Option β} {a : α} {r : β} (h : Ev g a) (k : Ev (fun n => f n a) r) : Ev (fun n => (g n).bind fun t => f n t) r := Ev.bind h k
theorem an {α : Type} {c : Prop} [Decidable c] {g f : Nat → Option α} {r : α} (h : c) (k : Ev g r) : Ev (fun n => if c then g n else f n) r := by
  simp only [if_pos h]; exact k
theorem a5 {α : Type} {c : Prop} [Decidable c] {g f : Nat → Option α} {r : α} (h : ¬ c) (k : Ev f r) : Ev (fun n => if c then g n else f n) r := by
  simp only [if_neg h]; exact k
theorem Ev.ite {α : Type} {c : Prop} [Decidable c] {g f : Nat → Option α} {r : α} (h : c → Ev g r) (k : ¬ c → Ev f r) : Ev (fun n => if c then g n else f n) r := by
  by_cases hc : c
  · exact an hc (h hc)
  · exact a5 hc (k hc)
theorem Ev.val {α : Type} {a r : α} (h : a = r) : Ev (fun _ => some a) r := by subst h; exact cx _
theorem dr {p : Int → Prop} (h : ∀ n : Fin 256, p ((n.val : Nat) : Int)) {b : Int} (h0 : 0 ≤ b) (h1 : b ≤ 255) : p b := by
  have := h ⟨b.toNat, by omega⟩
  simp only at this
  rwa [Int.toNat_of_nonneg h0] at this
def hv (b : Int) : Int := if 48 ≤ b ∧ b ≤ 57 then b - 48 else if 65 ≤ b ∧ b ≤ 70 then b - 55 else if 97 ≤ b ∧ b ≤ 102 then b - 87 else -1
end Go.Proofs.Ytediodhkimacjaa.M
namespace Go.Proofs.Ytediodhkimacjaa.Y
open Go.RowKit Go.Proofs.Ytediodhkimacjaa.X Go.Proofs.Ytediodhkimacjaa.M Go.Proofs.YtediodhkimacjaaW.PrintWords Go.Proofs.YtediodhkimacjaaW.PrintLast Go.Proofs.YtediodhkimacjaaW.PrintMore
theorem co : Ev (fun k => ay k) true := dT (fun k => b9 k) (k := 60) (by decide +kernel)
end Go.Proofs.Ytediodhkimacjaa.Y
namespace Go.Proofs.Ytediodhkimacjaa.Pure
open Go.RowKit Go.Proofs.Ytediodhkimacjaa.X Go.Proofs.Ytediodhkimacjaa.M Go.Proofs.Ytediodhkimacjaa.Y Go.Proofs.YtediodhkimacjaaW.PrintWords Go.Proofs.YtediodhkimacjaaW.PrintLast Go.Proofs.YtediodhkimacjaaW.PrintMore
theorem dl {l : List Int} (h : ∀ b ∈ l, 0 ≤ b ∧ b ≤ 255) : aA (strOfNums l) = l := by
  unfold aA strOfNums
  show ((l.map fun n => UInt8.ofNat n.toNat).toArray.toList).map _ = l
  rw [List.map_map]
  have : ∀ b ∈ l, ((fun b : UInt8 => (b.toNat : Int)) ∘ fun n : Int => UInt8.ofNat n.toNat) b = b := by
    intro b hb
    have := h b hb
    show ((UInt8.ofNat b.toNat).toNat : Int) = b
    rw [UInt8.toNat_ofNat']
    omega
  rw [List.map_congr_left this, List.map_id'']
  intro b; rfl
def m7 (b : Int) : Int := Go.bits .and .u8 b 127
theorem dB {b : Int} (h0 : 0 ≤ b) (h1 : b ≤ 255) : 0 ≤ m7 b ∧ m7 b ≤ 127 :=
  dr (p := fun b => 0 ≤ m7 b ∧ m7 b ≤ 127) (by decide +kernel) h0 h1
theorem dR {l : List Int} {i : Nat} (h : i < l.length) : rd l (i : Int) = l[i] := by
  unfold rd; rw [Int.toNat_natCast, List.getD_eq_getElem?_getD, List.getElem?_eq_getElem h]; rfl
theorem dN (l : List Int) (h : ∀ c ∈ l, 0 ≤ c ∧ c ≤ 127) (hl : l.length ≤ 1000) (hne : l ≠ []) : ∀ d i : Nat, i + d = l.length → Ev (fun k => aq k l (l.take i) l (l.length : Int) (i : Int)) (strOfNums (l ++ [45]), 0) := by
  have hp : 0 < l.length := List.length_pos_iff.2 hne
  intro d
  induction d with
  | zero =>
    intro i hi
    rw [List.take_of_length_le (by omega)]
    refine Ev.step (fun k => by rw [aq]) (a5 (by omega) (an (by omega) (an (by omega) (Ev.step (fun k => by rw [aC]) (Ev.step (fun k => by rw [aG]) ?_)))))
    exact a5 (by omega) (cx _)
  | succ d ih =>
    intro i hi
    have hil : i < l.length := by omega
    have hw : wrap64 ((i : Int) + 1) = ((i + 1 : Nat) : Int) := by rw [w64 (by omega) (by omega)]; omega
    have hr := h l[i] (List.getElem_mem hil)
    have e : l.take (i + 1) = l.take i ++ [l[i]] := List.take_succ_eq_append_getElem hil
    have hlt : (l.take i).length ≤ l.length := by rw [List.length_take]; omega
    have nx := ih (i + 1) (by omega)
    rw [e] at nx
    refine Ev.step (fun k => by rw [aq]) (an (by omega) (an (by omega) (an (by omega) ?_)))
    rw [dR hil, decide_eq_false (show ¬ l[i] > 1114111 by omega)]
    refine a5 (by omega) (Ev.step (fun k => by rw [aT]) (a5 (by simp) (an (by omega) (an (by omega) ?_))))
    rw [hw, Int.emod_eq_of_lt hr.1 (by omega)]
    exact nx
theorem dV (l : List Int) (h : ∀ c ∈ l, 0 ≤ c ∧ c ≤ 127) (hl : l.length ≤ 1000) (hne : l ≠ []) : Ev (fun k => ax k l) (strOfNums (l ++ [45]), 0) := by
  have := dN l h hl hne l.length 0 (by omega)
  rwa [List.take_zero] at this
theorem dF : Ev (fun k => ax k []) (⟨#[]⟩, 0) := by
  unfold ax
  refine Ev.step (fun k => by rw [aq]) (a5 (by simp) (a5 (by simp) (Ev.step (fun k => by rw [aC]) (Ev.step (fun k => by rw [aG]) ?_))))
  exact a5 (by simp) (Ev.val rfl)
theorem dx (s t : ByteArray) (hs : s.size ≤ 1000) (ht : aA t = (aA s).map m7 ++ [45]) : ∀ d i : Nat, i + d = s.size → Ev (fun k => ar k s t 0 (i : Int)) true := by
  have hz : t.size = s.size + 1 := by rw [← bn, ht, List.length_append, List.length_map, bn]; rfl
  intro d
  induction d with
  | zero =>
    intro i hi
    have hend : bt t (s.size : Int) = 45 := by
      rw [cz, ht, List.getD_eq_getElem?_getD, List.getElem?_append_right (by rw [List.length_map, bn]; omega), List.length_map, bn, Nat.sub_self]; rfl
    refine Ev.step (fun k => by rw [ar]) (a5 (by omega) (an rfl (an (by rw [w64 (by omega) (by omega)]; omega) (an (by omega) (an (by omega) (an hend (b3 co (cx _))))))))
  | succ d ih =>
    intro i hi
    have hw : wrap64 ((i : Int) + 1) = ((i + 1 : Nat) : Int) := by rw [w64 (by omega) (by omega)]; omega
    have hat : bt t (i : Int) = Go.bits .and .u8 (bt s (i : Int)) 127 := by
      have hl : i < (aA s).length := by rw [bn]; omega
      rw [cz, ht, cz, List.getD_eq_getElem?_getD, List.getElem?_append_left (by rw [List.length_map]; exact hl), List.getElem?_map, List.getElem?_eq_getElem hl, List.getD_eq_getElem?_getD, List.getElem?_eq_getElem hl]; rfl
    refine Ev.step (fun k => by rw [ar]) (an (by omega) (a5 (by omega) (an (by omega) (an (by omega) (an hat (by rw [hw]; exact ih (i + 1) (by omega)))))))
theorem dw (s : ByteArray) (hs : s.size ≤ 1000) : ∀ d i : Nat, i + d = s.size → Ev (fun k => aj k s (((aA s).map m7).take i) (i : Int)) true := by
  intro d
  induction d with
  | zero =>
    intro i hi
    have hML : ((aA s).map m7).length = s.size := by rw [List.length_map, bn]
    have hM : ∀ c ∈ (aA s).map m7, 0 ≤ c ∧ c ≤ 127 := fun c hc => by
      obtain ⟨b, hb, rfl⟩ := List.mem_map.1 hc
      have := cV hb
      exact dB this.1 this.2
    rw [List.take_of_length_le (by omega)]
    refine Ev.step (fun k => by rw [aj]) (a5 (by omega) ?_)
    by_cases h0 : s.size = 0
    · have he : (aA s).map m7 = [] := List.eq_nil_of_length_eq_zero (by omega)
      rw [he]
      refine b3 dF (an (by omega) ?_)
      exact an ((cY _).trans rfl) (an rfl (b3 co (cx _)))
    · have hne : (aA s).map m7 ≠ [] := fun h => by rw [h] at hML; exact h0 hML.symm
      refine b3 (dV _ hM (by omega) hne) (a5 (by omega) ?_)
      have ht : aA (strOfNums ((aA s).map m7 ++ [45])) = (aA s).map m7 ++ [45] := dl (fun b hb => by
        rcases List.mem_append.1 hb with hb | hb
        · have := hM b hb; omega
        · rw [List.mem_singleton.1 hb]; decide)
      have := dx s _ hs ht s.size 0 (by omega)
      exact this
  | succ d ih =>
    intro i hi
    have hl : i < (aA s).length := by rw [bn]; omega
    have hlm : i < ((aA s).map m7).length := by rw [List.length_map]; exact hl
    have hw : wrap64 ((i : Int) + 1) = ((i + 1 : Nat) : Int) := by rw [w64 (by omega) (by omega)]; omega
    have hb : bt s (i : Int) = (aA s)[i] := by rw [cz, List.getD_eq_getElem?_getD, List.getElem?_eq_getElem hl]; rfl
    have hr := dM s (i : Int)
    have hm := dB hr.1 hr.2
    have hw2 : wrap32 (Go.bits .and .u8 (bt s (i : Int)) 127) = m7 (bt s (i : Int)) := by
      unfold m7 at hm ⊢
      unfold wrap32; omega
    have e : ((aA s).map m7).take (i + 1) = ((aA s).map m7).take i ++ [m7 (bt s (i : Int))] := by
      rw [List.take_succ_eq_append_getElem hlm, List.getElem_map, hb]
    have hlt : (((aA s).map m7).take i).length ≤ 1000 := by rw [List.length_take, List.length_map, bn]; omega
    have nx := ih (i + 1) (by omega)
    rw [e] at nx
    refine Ev.step (fun k => by rw [aj]) (an (by omega) (an (by omega) (an (by omega) ?_)))
    rw [hw, hw2]
    exact nx
theorem PunyPlain : bo := by
  intro s _
  refine de (r := true) ?_
  unfold bg
  refine Ev.ite (fun _ => b3 co (cx _)) (fun hs => ?_)
  have := dw s (by omega) s.size 0 (by omega)
  rwa [List.take_zero] at this
end Go.Proofs.Ytediodhkimacjaa.Pure
namespace Go.Proofs.Ytediodhkimacjaa.punyPlain
open Go.ChangeShapes Go.WideShapes Go.ChangeAt Go.RowKit
open Go.ChangeMaps (open_string shut_string)
theorem own : ownKnob Try.prog.godebug = none := by kernel_rfl
theorem lifted (os : Os) (started : os.Started) (H : Type) (enc : TypeId × Value → H) :
    ReturnsInHanded {} Try.checked os 5 .any (Rows.punyPlainSpec.pre6 enc Try.prog Try.f5 Rows.punyPlainRow.domain false) (Rows.punyPlainSpec.post enc Try.prog Try.f5 false true false false) := by
  refine returnsInHanded_of_change_sized (C := Try.checked) own started (by kernel_rfl) Try.func5
    (ChangeSpec.witness6 (enc := enc) (C := Try.checked) false ⟨#[], #[.string ByteArray.empty], []⟩ 8 (by kernel_rfl) (by kernel_rfl) (by kernel_rfl) (by kernel_rfl)) ?_
  intro W base args ds gs before hval0 hW hcnd hsz0 _
  have hsz : (DataW.weightsEach Try.prog (Try.f5.params.toList ++ Rows.punyPlainSpec.plain.varTypes Try.prog) (ds ++ gs)).all (· ≤ reachBytes) = true := hsz0
  have hval : ∀ (j : Nat) t v, Try.f5.params[j]? = some t → args[j]? = some v → Value.okWide Try.prog W .any base t v := hval0
  have hW' := hW
  obtain ⟨p, q, hA0, hV, rfl, hfz, hnd⟩ := hW
  have hA : DataW.TrodAll enc Try.prog W 0 (fun _ => true) true Try.f5.params.toList args.toList ds p := hA0
  rw [Try.params5] at hA hval hsz
  obtain ⟨v0, vs0, d0, ds0, p0, q0, hargs, rfl, rfl, h0, r0⟩ := trodAll_cons hA
  obtain ⟨rfl, rfl, rfl⟩ := trodAll_nil r0
  obtain rfl : args = #[v0] := by cases args; simp_all
  obtain ⟨rfl, rfl⟩ := trodVars_none hV
  obtain ⟨a0, rfl, rfl, rfl, y0⟩ := open_string Try.underlying9 (hval 0 9 v0 rfl rfl) h0
  have w0 : a0.size ≤ 140737488351232 := by
    have z := sized_string hsz (j := 0) (t := 9) rfl rfl
    rw [Array.length_toList] at z
    exact z
  clear hA0 hval0 hsz0 hsz
  refine (X.bS Pure.PunyPlain a0 W w0).mono fun e W' ⟨he, bel⟩ => ?_
  subst he
  exact ⟨_, rfl, _, _, _, [], _, [], hW', trodAll_mk1 (shut_bool Try.underlying4 _), (trodAll_cons_mk (shut_string Try.underlying9 y0) trodAll_mk0), rfl, bel.frame _, fun h => by cases h⟩
theorem over : Rows.punyPlainRow.holds Try.pinned (OpenSpec.ofChange Rows.punyPlainSpec) :=
  OpenClaim.holds_of_wide 5 Try.f5 rfl rfl rfl rfl rfl rfl rfl ⟨rfl, rfl, rfl, rfl, rfl⟩ rfl rfl rfl rfl rfl (by kernel_rfl) Try.func5 (by kernel_rfl)
    (of_decide_eq_true (by kernel_rfl)) (by unfold Func.isWrapper; first | (rw [if_pos (by decide +kernel)]; kernel_rfl) | (rw [if_neg (by decide +kernel)]; exact ⟨rfl, rfl⟩))
    (fun os started H enc _ => lifted os started H enc)
theorem proved : Rows.PunyPlainSaid := over
#print axioms proved
end Go.Proofs.Ytediodhkimacjaa.punyPlain
namespace Go.Proofs.Ytediodhkimacjaa
theorem punyPlain_holds : Rows.PunyPlainSaid := punyPlain.proved
end Go.Proofs.Ytediodhkimacjaa
