/- Texts that the law's proof needs, joined by a program of this session. -/
import Derived.Test.YtojdiklegmhakaaDoorZUrnTexts1
import Derived.Test.YtojdiklegmhakaaDoorZUrnTexts2
import Derived.Test.YtojdiklegmhakaaDoorZUrnTexts3
import Derived.Test.YtojdiklegmhakaaDoorZUrnTexts4
set_option maxHeartbeats 8000000
set_option maxRecDepth 100000
set_option linter.unusedSimpArgs false
set_option linter.unusedVariables false
namespace Go.Proofs.YtojdiklegmhakaaDoor.X
open Go.RowKit Go.Proofs.YtojdiklegmhakaaDoorW.PrintWords Go.Proofs.YtojdiklegmhakaaDoorW.PrintLast Go.Proofs.YtojdiklegmhakaaDoorW.PrintMore
attribute [local go_sem] di cR eu fH bY eW bv eN eP fB fC eo ep eO eQ
def cO : Nat → ByteArray → Int → Int → Int → Option (Int)
  | 0, _, _, _, _ => none
  | k + 1, x0, x1, x7, x8 => if x8 < x7 then (if 0 ≤ x8 then (if x8 < (x0.size : Int) then ((cM k (bt x0 x8) x1).bind fun t194 => (if t194 = true then (cO k x0 x1 x7 (wrap64 (x8 + 1))) else (some x8))) else (none)) else (none)) else (some (x0.size : Int))
def d4 (k : Nat) (a0 : ByteArray) (a1 : Int) : Option (Int) := cO k a0 a1 (a0.size : Int) 0
theorem gZ : ∀ k, (∀ y0 y1 y2 y3, LeO (cO k y0 y1 y2 y3) (cO (k + 1) y0 y1 y2 y3))
  | 0 => fun _ _ _ _ r h => by simp [cO] at h
  | k + 1 => by
    have ih0 := gZ k
    have m0 := @cd
    · intro y0 y1 y2 y3
      unfold cO
      exact xmo
theorem fj : ∀ a0 a1 k, LeO (d4 k a0 a1) (d4 (k + 1) a0 a1) := by
  intro a0 a1 k
  have ih0 := gZ k
  have m0 := @cd
  unfold d4
  exact xmo
theorem eU (k : Nat) (a0 : ByteArray) (a1 : Int) (r : Int) (w : World) (h : d4 k a0 a1 = some r) :
    Calls Tryd.prog 73 #[.string a0, .int .i64 a1] w fun e w' => e = .returned (.int .i64 r) ∧ Drawn0 w w' := by
 have H := h
 clear h
 unfold d4 at H
 have H' := Zz.mk H
 clear H
 go_enter Tryd.func73, Tryd.ntmps73
 go_wp2
 go_loopg [8] k (fun kq v8 w' => ∃ Aa, v8 = .int .i64 Aa ∧ Zz (cO kq a0 a1 (a0.size : Int) Aa = some r) ∧ Zz (kq ≤ k) ∧ Drawn0 w w')
 case atStart => exact ⟨(0), xrr, H', ⟨Nat.le_refl _⟩, xdr⟩
 case round => (
 clear H'
 obtain ⟨Aa, rfl, HA, HK1, ⟨m1, rfl⟩⟩ := hrel
 cases gk with
 | zero => exact absurd HA.out (by simp [cO])
 | succ k1 => (
 have H := HA.out
 clear HA
 simp only [cO] at H
 refine xid H ?_ ?_ <;> clear H <;> intro c3 H
 {
 have Ab := xdt c3
 clear c3
 refine xin H ?_; clear H; intro c4 H
 have Ac := xdt c4
 clear c4
 refine xin H ?_; clear H; intro c5 H
 have Ad := xdt c5
 clear c5
 replace H := xbd H
 obtain ⟨Ae, A7, H⟩ := H
 try dsimp only at H
 refine xib H ?_ ?_ <;> clear H <;> rintro rfl H
 {
 replace H := xa H
 obtain ⟨p6, q6, hx6⟩ := xiv a0 Aa xod xod
 go_wp2_with (first | ((with_reducible refine xgc (f := 32) rfl ?_); refine xca 15 Tryd.func32 (be (w := _) (h := A7.out)) ?_; rintro w' ⟨nd, rfl⟩))
 go_roundg k1
 case measure => have := HK1.out; omega
 case rel => exact ⟨(wrap64 (Aa + 1)), xrr, H, ⟨by have := HK1.out; omega⟩, xdr⟩
 }
 obtain rfl := Option.some.inj H
 obtain ⟨p6, q6, hx6⟩ := xiv a0 Aa xod xod
 go_wp2_with (first | ((with_reducible refine xgc (f := 32) rfl ?_); refine xca 15 Tryd.func32 (be (w := _) (h := A7.out)) ?_; rintro w' ⟨nd, rfl⟩))
 go_ret
 exact ⟨xrr, xdr⟩
 }
 have Ab := xdf c3
 clear c3
 obtain rfl := Option.some.inj H
 go_wp2
 go_ret
 exact ⟨xrr, xdr⟩
 )
 )
mutual
def cY : Nat → ByteArray → Bool → Option (Bool)
  | 0, _, _ => none
  | k + 1, x0, Ab => if Ab = true then (some false) else (if 1 ≤ (x0.size : Int) then ((d4 k (x0.extract 1 x0.size) 32).bind fun Aa => (if 0 ≤ (wrap64 (1 + Aa)) then (if (wrap64 (1 + Aa)) ≤ (x0.size : Int) then (if Aa = 0 then (cF k (x0.extract ((wrap64 (1 + Aa)) : Int).toNat x0.size) true) else (if ((x0.extract ((wrap64 (1 + Aa)) : Int).toNat x0.size).size : Int) < 2 then (cF k (x0.extract ((wrap64 (1 + Aa)) : Int).toNat x0.size) true) else (if 0 < ((x0.extract ((wrap64 (1 + Aa)) : Int).toNat x0.size).size : Int) then (cF k (x0.extract ((wrap64 (1 + Aa)) : Int).toNat x0.size) ((bt (x0.extract ((wrap64 (1 + Aa)) : Int).toNat x0.size) 0) != 46)) else (none)))) else (none)) else (none))) else (none))
def cF : Nat → ByteArray → Bool → Option (Bool)
  | 0, _, _ => none
  | k + 1, x4, x32 => if x32 = true then (some false) else (cZ k x4 1)
def cZ : Nat → ByteArray → Int → Option (Bool)
  | 0, _, _ => none
  | k + 1, x4, x5 => if x5 < (x4.size : Int) then (if 0 ≤ x5 then ((dL k 1 (bt x4 x5)).bind fun t196 => (if t196 = true then (cZ k x4 (wrap64 (x5 + 1))) else (some false))) else (none)) else (some true)
end
def e5 (k : Nat) (a0 : ByteArray) : Option (Bool) := if a0.toList = ([] : List UInt8) then (cY k a0 true) else (if 0 < (a0.size : Int) then (cY k a0 ((Go.bits .or .u8 (bt a0 0) 32) != 118)) else (none))
theorem hZ : ∀ k, (∀ y0 y1, LeO (cY k y0 y1) (cY (k + 1) y0 y1)) ∧ (∀ y0 y1, LeO (cF k y0 y1) (cF (k + 1) y0 y1)) ∧ (∀ y0 y1, LeO (cZ k y0 y1) (cZ (k + 1) y0 y1))
  | 0 => ⟨fun _ _ r h => by simp [cY] at h, fun _ _ r h => by simp [cF] at h, fun _ _ r h => by simp [cZ] at h⟩
  | k + 1 => by
    obtain ⟨ih0, ih1, ih2⟩ := hZ k
    have m0 := @eM; have m1 := @fj
    refine ⟨?_, ?_, ?_⟩
    · intro y0 y1
      unfold cY
      exact xmo
    · intro y0 y1
      unfold cF
      exact xmo
    · intro y0 y1
      unfold cZ
      exact xmo
theorem iS : ∀ a0 k, LeO (e5 k a0) (e5 (k + 1) a0) := by
  intro a0 k
  obtain ⟨ih0, ih1, ih2⟩ := hZ k
  have m0 := @eM; have m1 := @fj
  unfold e5
  exact xmo
theorem iz (k : Nat) (a0 : ByteArray) (r : Bool) (w : World) (h : e5 k a0 = some r) :
    Calls Tryd.prog 79 #[.string a0] w fun e w' => e = .returned (.bool r) ∧ Below w.heap.size w w' := by
 have HB := Zz.mk (Below.refl w.heap.size w)
 have H := h
 clear h
 unfold e5 at H
 have Ay := Zz.mk H
 clear H
 go_enter Tryd.func79, Tryd.ntmps79
 go_upto_region 1 with (fail)
 go_cut [13] (fun v13 wc => ∃ kq Ah, v13 = .bool Ah ∧ Zz (cY kq a0 Ah = some r) ∧ Zz (kq ≤ k) ∧ Zz (Below w.heap.size w wc))
 case first => (
 have H := Ay.out
 clear Ay
 refine xid H ?_ ?_ <;> clear H <;> intro c3 H
 {
 obtain ⟨Ai, Ak⟩ := xqe c3
 (try (have Al : a0.toList.isEmpty = true := by simpa using c3))
 clear c3
 (first | rw [Ai] | (simp only [an, au]; rw [Ai]) | (rw [Al]; (try simp only [Bool.not_false, Bool.not_true])) | (rw [Az]; (try simp only [Bool.not_false, Bool.not_true])) | rw [Ak] | skip)
 replace H := xa H
 go_wp2
 go_meet
 case rel => exact ⟨_, (true), xrr, H, ⟨xom⟩, ⟨xbl⟩⟩
 }
 obtain ⟨Ai, Ak⟩ := xqn c3
 (try (have Al : a0.toList.isEmpty = false := by simpa using c3))
 (first | rw [Ai] | (simp only [an, au]; rw [Ai]) | (rw [Al]; (try simp only [Bool.not_false, Bool.not_true])) | (rw [Az]; (try simp only [Bool.not_false, Bool.not_true])) | rw [Ak] | skip)
 refine xin H ?_; clear H; intro c4 H
 have AG := xdt c4
 have AH : decide (0 < a0.size) = true := decide_eq_true (by omega)
 clear c4
 replace H := xa H
 obtain ⟨q5, AK, hx5⟩ := xi0 a0 xod
 go_wp2
 go_meet
 case rel => exact ⟨_, (((Go.bits .or .u8 (bt a0 0) 32) != 118)), xrr, H, ⟨xom⟩, ⟨xbl⟩⟩
 )
 case rest => (
 clear Ay
 obtain ⟨kq, Ah, rfl, HA, HJ1, HB⟩ := hcut
 cases kq with
 | zero => exact absurd HA.out (by simp [cY])
 | succ kj1 => (
 have H := HA.out
 clear HA
 simp only [cY] at H
 refine xib H ?_ ?_ <;> clear H <;> rintro rfl H
 {
 obtain rfl := Option.some.inj H
 go_wp2
 go_ret
 exact ⟨xre, xbl⟩
 }
 refine xin H ?_; clear H; intro c7 H
 obtain ⟨AA, AB⟩ := xcp c7
 clear c7
 obtain ⟨AL, Af⟩ : ∃ j_ : ByteArray, (a0.extract 1 a0.size) = j_ := ⟨_, rfl⟩
 first | rw [Af] at H | simp only [Af] at H | skip
 replace H := xbd H
 obtain ⟨An, A9, H⟩ := H
 try dsimp only at H
 obtain ⟨Ao, Ab⟩ : ∃ j_ : Int, (wrap64 (1 + An)) = j_ := ⟨_, rfl⟩
 first | rw [Ab] at H | simp only [Ab] at H | skip
 (try rw [Ab] at A9)
 have AC : (IntKind.i64.wrap (1 + An)) = Ao := (an _).trans Ab
 refine xin H ?_; clear H; intro c11 H
 obtain ⟨Ap, Aq⟩ := xcp c11
 clear c11
 refine xin H ?_; clear H; intro c12 H
 obtain ⟨Ar, As⟩ := xcp c12
 clear c12
 obtain ⟨Ac, Aa⟩ : ∃ j_ : ByteArray, (a0.extract ((Ao) : Int).toNat a0.size) = j_ := ⟨_, rfl⟩
 first | rw [Aa] at H | simp only [Aa] at H | skip
 (try rw [Aa] at A9)
 have Am := Zz.mk H
 clear H
 go_upto_region 5 with (first | ((with_reducible refine xgc (f := 73) rfl ?_); refine xca 16 Tryd.func73 (eU (w := _) (h := A9.out)) ?_ (hargs := by (try simp only [xm1, xm2, xm3]); first | done | (simp only [Af]; rfl) | rfl); rintro w' ⟨nd, rfl⟩))
 (try simp only [Act.put, xl1, xl2, xl3])
 go_cut [32] (fun v32 wc => ∃ kq Ae, v32 = .bool Ae ∧ Zz (cF kq Ac Ae = some r) ∧ Zz (kq ≤ kj1) ∧ Zz (Below w.heap.size w wc))
 case first => (
 have H := Am.out
 clear Am
 refine xid H ?_ ?_ <;> clear H <;> intro c15 H
 {
 obtain ⟨Ad, Aj⟩ := xqe c15
 clear c15
 (first | rw [Ad] | (simp only [an, au]; rw [Ad]) | (rw [At]; (try simp only [Bool.not_false, Bool.not_true])) | (rw [Au]; (try simp only [Bool.not_false, Bool.not_true])) | rw [Aj] | skip)
 replace H := xa H
 go_wp2
 go_meet
 case rel => exact ⟨_, (true), xrr, H, ⟨xoj HJ1⟩, ⟨xbl⟩⟩
 }
 obtain ⟨Ad, Aj⟩ := xqn c15
 (first | rw [Ad] | (simp only [an, au]; rw [Ad]) | (rw [At]; (try simp only [Bool.not_false, Bool.not_true])) | (rw [Au]; (try simp only [Bool.not_false, Bool.not_true])) | rw [Aj] | skip)
 refine xid H ?_ ?_ <;> clear H <;> intro c16 H
 {
 have Av := xdt c16
 have Aw : decide ((Ac).size < 2) = true := decide_eq_true (by omega)
 clear c16
 replace H := xa H
 go_wp2
 go_meet
 case rel => exact ⟨_, (true), xrr, H, ⟨xoj HJ1⟩, ⟨xbl⟩⟩
 }
 have Av := xdf c16
 have Aw : decide ((Ac).size < 2) = false := decide_eq_false (by omega)
 clear c16
 refine xin H ?_; clear H; intro c17 H
 have AD := xdt c17
 have AE : decide (0 < (Ac).size) = true := decide_eq_true (by omega)
 clear c17
 replace H := xa H
 obtain ⟨q18, AI, hx18⟩ := xi0 Ac xod
 go_wp2
 go_meet
 case rel => exact ⟨_, (((bt (Ac) 0) != 46)), (by first | rfl | (simp; done) | (simp only [← Aa] <;> (first | rfl | (rw [Int.tdiv_eq_ediv_of_nonneg (by unfold mx; split <;> omega)]; done) | simp)) | (simp [*]; done) | (simp [wrap64]; done)), H, ⟨xoj HJ1⟩, ⟨xbl⟩⟩
 )
 case rest => (
 clear Am
 clear AA AB Ap Aq Ar As
 obtain ⟨kq, Ae, rfl, HA, HJ13, HB⟩ := hcut
 cases kq with
 | zero => exact absurd HA.out (by simp [cF])
 | succ kj13 => (
 have H := HA.out
 clear HA
 simp only [cF] at H
 refine xib H ?_ ?_ <;> clear H <;> rintro rfl H
 {
 obtain rfl := Option.some.inj H
 go_wp2
 go_ret
 exact ⟨by first | exact xrd | (simp only [← Af, ← Ab, ← Aa]; exact xrd) | exact xre, xbl⟩
 }
 have H' := Zz.mk H
 clear H
 go_wp2
 go_loopg [5] kj13 (fun kq v5 w' => ∃ Ag, v5 = .int .i64 Ag ∧ Zz (cZ kq Ac Ag = some r) ∧ Zz (kq ≤ kj13) ∧ Zz (Below w.heap.size w w'))
 case atStart => exact ⟨(1), xrr, H', ⟨Nat.le_refl _⟩, ⟨xbl⟩⟩
 case round => (
 clear H'
 obtain ⟨Ag, rfl, HA, HK3, HB⟩ := hrel
 cases gk with
 | zero => exact absurd HA.out (by simp [cZ])
 | succ k3 => (
 have H := HA.out
 clear HA
 simp only [cZ] at H
 refine xid H ?_ ?_ <;> clear H <;> intro c20 H
 {
 have Ax := xdt c20
 clear c20
 refine xin H ?_; clear H; intro c21 H
 have AF := xdt c21
 clear c21
 replace H := xbd H
 obtain ⟨AJ, A23, H⟩ := H
 try dsimp only at H
 refine xib H ?_ ?_ <;> clear H <;> rintro rfl H
 {
 replace H := xa H
 obtain ⟨p22, q22, hx22⟩ := xiv Ac Ag xod xod
 go_wp2_with (first | ((with_reducible refine xgc (f := 81) rfl ?_); refine xca 42 Tryd.func81 (fM (w := _) (h := A23.out)) ?_ (hargs := by (try simp only [xm1, xm2, xm3]); first | done | (simp only [Aa]; rfl) | rfl); rintro w25 hb; replace HB := xst hb; (try clear hb)))
 go_roundg k3
 case measure => have := HJ1.out; have := HJ13.out; have := HK3.out; omega
 case rel => exact ⟨(wrap64 (Ag + 1)), xrr, H, ⟨by have := HJ1.out; have := HJ13.out; have := HK3.out; omega⟩, ⟨xbl⟩⟩
 }
 obtain rfl := Option.some.inj H
 obtain ⟨p22, q22, hx22⟩ := xiv Ac Ag xod xod
 go_wp2_with (first | ((with_reducible refine xgc (f := 81) rfl ?_); refine xca 42 Tryd.func81 (fM (w := _) (h := A23.out)) ?_ (hargs := by (try simp only [xm1, xm2, xm3]); first | done | (simp only [Aa]; rfl) | rfl); rintro w26 hb; replace HB := xst hb; (try clear hb)))
 go_ret
 exact ⟨by first | exact xrd | (simp only [← Af, ← Ab, ← Aa]; exact xrd) | exact xre, xbl⟩
 }
 have Ax := xdf c20
 clear c20
 obtain rfl := Option.some.inj H
 go_wp2
 go_ret
 exact ⟨by first | exact xrd | (simp only [← Af, ← Ab, ← Aa]; exact xrd) | exact xre, xbl⟩
 )
 )
 )
 )
 )
 )
def dx : Nat → Bool → ByteArray → Int → Bool → Option (Int)
  | 0, _, _, _, _ => none
  | k + 1, x0, x1, x5, Ae => if Ae = true then (if 1 ≤ (wrap64 (x5 - 1)) then (if (wrap64 (x5 - 1)) ≤ (x1.size : Int) then ((hH k (x1.extract 1 ((wrap64 (x5 - 1)) : Int).toNat)).bind fun Aa => (if Aa.2.2.2.2.2.2.2.2 = true then (some 3) else ((e5 k (x1.extract 1 ((wrap64 (x5 - 1)) : Int).toNat)).bind fun Ac => (if Ac = true then (some 3) else (some 0))))) else (none)) else (none)) else ((gF k x1).bind fun Ab => (if Ab.2.2.2.2 = true then (some 1) else ((ex k 2 x0 x1).bind fun Ad => (if Ad = true then (some 2) else (some 0)))))
def fZ (k : Nat) (a0 : Bool) (a1 : ByteArray) : Option (Int) := if (a1.size : Int) > 1 then (if 0 < (a1.size : Int) then (if (bt a1 0) = 91 then (if 0 ≤ (wrap64 ((a1.size : Int) - 1)) then (if (wrap64 ((a1.size : Int) - 1)) < (a1.size : Int) then (dx k a0 a1 (a1.size : Int) ((bt a1 (wrap64 ((a1.size : Int) - 1))) == 93)) else (none)) else (none)) else (dx k a0 a1 (a1.size : Int) false)) else (none)) else (dx k a0 a1 (a1.size : Int) false)
theorem iT : ∀ k, (∀ y0 y1 y2 y3, LeO (dx k y0 y1 y2 y3) (dx (k + 1) y0 y1 y2 y3))
  | 0 => fun _ _ _ _ r h => by simp [dx] at h
  | k + 1 => by
    have ih0 := iT k
    have m0 := @iS; have m1 := @hE; have m2 := @jX; have m3 := @fA
    · intro y0 y1 y2 y3
      unfold dx
      exact xmo
theorem ju : ∀ a0 a1 k, LeO (fZ k a0 a1) (fZ (k + 1) a0 a1) := by
  intro a0 a1 k
  have ih0 := iT k
  have m0 := @iS; have m1 := @hE; have m2 := @jX; have m3 := @fA
  unfold fZ
  exact xmo
theorem cI (k : Nat) (a0 : Bool) (a1 : ByteArray) (r : Int) (w : World) (hG : GW w) (h : fZ k a0 a1 = some r) :
    Calls Tryd.prog 72 #[.bool a0, .string a1] w fun e w' => e = .returned (.int .i64 r) ∧ Below w.heap.size w w' := by
 have hu103 := Tryd.underlying103
 have hu106 := Tryd.underlying106
 have HB := Zz.mk (Below.refl w.heap.size w)
 have H := h
 clear h
 unfold fZ at H
 have Az := Zz.mk H
 clear H
 go_enter Tryd.func72, Tryd.ntmps72
 go_upto_region 2 with (fail)
 go_cut [25] (fun v25 wc => ∃ kq Ag, v25 = .bool Ag ∧ Zz (dx kq a0 a1 (a1.size : Int) Ag = some r) ∧ Zz (kq ≤ k) ∧ Zz (Below w.heap.size w wc))
 case first => (
 have H := Az.out
 clear Az
 refine xid H ?_ ?_ <;> clear H <;> intro c4 H
 {
 have Ah := xdt c4
 have Am : decide (1 < a1.size) = true := decide_eq_true (by omega)
 clear c4
 (first | rw [Ah] | (simp only [an, au]; rw [Ah]) | (rw [AA]; (try simp only [Bool.not_false, Bool.not_true])) | (rw [AB]; (try simp only [Bool.not_false, Bool.not_true])) | rw [Am] | skip)
 refine xin H ?_; clear H; intro c5 H
 have AO := xdt c5
 have AP : decide (0 < a1.size) = true := decide_eq_true (by omega)
 clear c5
 refine xid H ?_ ?_ <;> clear H <;> intro c7 H
 {
 obtain ⟨AC, AD⟩ := xqe c7
 clear c7
 obtain ⟨AE, Ai⟩ : ∃ j_ : Int, (wrap64 ((a1.size : Int) - 1)) = j_ := ⟨_, rfl⟩
 first | rw [Ai] at H | simp only [Ai] at H | skip
 have AG : (IntKind.i64.wrap ((a1.size : Int) - 1)) = AE := (an _).trans Ai
 refine xin H ?_; clear H; intro c9 H
 have AQ := xdt c9
 clear c9
 refine xin H ?_; clear H; intro c10 H
 have AH := xdt c10
 clear c10
 replace H := xa H
 obtain ⟨q6, AR, hx6⟩ := xi0 a1 xod
 obtain ⟨p11, q11, hx11⟩ := xiv a1 (AE) xod xod
 go_wp2
 go_meet
 case rel => exact ⟨_, (((bt a1 (AE)) == 93)), (by first | rfl | (simp; done) | (simp only [← Ai] <;> (first | rfl | (rw [Int.tdiv_eq_ediv_of_nonneg (by unfold mx; split <;> omega)]; done) | simp)) | (simp [*]; done) | (simp [wrap64]; done)), H, ⟨xom⟩, ⟨xbl⟩⟩
 }
 obtain ⟨AC, AD⟩ := xqn c7
 replace H := xa H
 obtain ⟨q6, AR, hx6⟩ := xi0 a1 xod
 go_wp2
 go_meet
 case rel => exact ⟨_, (false), xrr, H, ⟨xom⟩, ⟨xbl⟩⟩
 }
 have Ah := xdf c4
 have Am : decide (1 < a1.size) = false := decide_eq_false (by omega)
 clear c4
 (first | rw [Ah] | (simp only [an, au]; rw [Ah]) | (rw [AA]; (try simp only [Bool.not_false, Bool.not_true])) | (rw [AB]; (try simp only [Bool.not_false, Bool.not_true])) | rw [Am] | skip)
 replace H := xa H
 go_wp2
 go_meet
 case rel => exact ⟨_, (false), xrr, H, ⟨xom⟩, ⟨xbl⟩⟩
 )
 case rest => (
 clear Az
 obtain ⟨kq, Ag, rfl, HA, HJ2, HB⟩ := hcut
 cases kq with
 | zero => exact absurd HA.out (by simp [dx])
 | succ kj2 => (
 have H := HA.out
 clear HA
 simp only [dx] at H
 refine xib H ?_ ?_ <;> clear H <;> rintro rfl H
 {
 obtain ⟨Aj, Ad⟩ : ∃ j_ : Int, (wrap64 ((a1.size : Int) - 1)) = j_ := ⟨_, rfl⟩
 first | rw [Ad] at H | simp only [Ad] at H | skip
 have AF : (IntKind.i64.wrap ((a1.size : Int) - 1)) = Aj := (an _).trans Ad
 refine xin H ?_; clear H; intro c14 H
 obtain ⟨AI, AJ⟩ := xcp c14
 clear c14
 refine xin H ?_; clear H; intro c15 H
 obtain ⟨AK, AL⟩ := xcp c15
 clear c15
 obtain ⟨AS, Aa⟩ : ∃ j_ : ByteArray, (a1.extract 1 ((Aj) : Int).toNat) = j_ := ⟨_, rfl⟩
 first | rw [Aa] at H | simp only [Aa] at H | skip
 replace H := xbd H
 obtain ⟨⟨An, Ao, Ap, Aq, Ar, As, At, Au, AT⟩, A17, H⟩ := H
 try dsimp only at H
 refine xib H ?_ ?_ <;> clear H <;> rintro rfl H
 {
 obtain rfl := Option.some.inj H
 go_wp2_with (first | ((with_reducible refine xgc (f := 78) rfl ?_); refine xca 31 Tryd.func78 (iP (w := _) (hG := xG) (h := A17.out)) ?_ (hargs := by (try simp only [xm1, xm2, xm3]); first | done | (simp only [Aa]; rfl) | rfl); rintro w19 hb; replace HB := xst hb; (try clear hb)) | ((with_reducible refine af (N := 6) rfl ?_); refine xew 6 ?_; intro Ae w20 Ab Ak hb hg; replace HB := xst hb; clear hb hg; have AU := xz8 Ab.out))
 go_ret
 exact ⟨by first | exact xrd | (simp only [← Ad, ← Aa]; exact xrd) | exact xre, xbl⟩
 }
 have AM := eq_true (xod : 1 ≤ (Aj))
 have AN := eq_true (xod : (Aj) ≤ (a1.size : Int))
 first | rw [Aa] at H | simp only [Aa] at H | skip
 (try rw [Aa] at A17)
 replace H := xbd H
 obtain ⟨AV, A24, H⟩ := H
 try dsimp only at H
 refine xib H ?_ ?_ <;> clear H <;> rintro rfl H
 {
 obtain rfl := Option.some.inj H
 go_wp2_with (first | ((with_reducible refine xgc (f := 78) rfl ?_); refine xca 31 Tryd.func78 (iP (w := _) (hG := xG) (h := A17.out)) ?_ (hargs := by (try simp only [xm1, xm2, xm3]); first | done | (simp only [Aa]; rfl) | rfl); rintro w26 hb; replace HB := xst hb; (try clear hb)) | ((with_reducible refine af (N := 6) rfl ?_); refine xew 6 ?_; intro Ae w27 Ab Ak hb hg; replace HB := xst hb; clear hb hg; have AW := xz8 Ab.out) | (go_at_call 79; (with_reducible refine (iz (w := _) (h := A24.out)).mono ?_); rintro e w29 ⟨rfl, hb⟩; replace Ab := xbb (g := Ae) (o := .cells #[.int .u16 An, .int .u16 Ao, .int .u16 Ap, .int .u16 Aq, .int .u16 Ar, .int .u16 As, .int .u16 At, .int .u16 Au] 103 (0, 0)) hb; replace HB := xst hb; (try clear hb)))
 go_ret
 exact ⟨by first | exact xrd | (simp only [← Ad, ← Aa, ← Aa]; exact xrd) | exact xre, xbl⟩
 }
 obtain rfl := Option.some.inj H
 go_wp2_with (first | ((with_reducible refine xgc (f := 78) rfl ?_); refine xca 31 Tryd.func78 (iP (w := _) (hG := xG) (h := A17.out)) ?_ (hargs := by (try simp only [xm1, xm2, xm3]); first | done | (simp only [Aa]; rfl) | rfl); rintro w30 hb; replace HB := xst hb; (try clear hb)) | ((with_reducible refine af (N := 6) rfl ?_); refine xew 6 ?_; intro Ae w31 Ab Ak hb hg; replace HB := xst hb; clear hb hg; have AX := xz8 Ab.out) | (go_at_call 79; (with_reducible refine (iz (w := _) (h := A24.out)).mono ?_); rintro e w33 ⟨rfl, hb⟩; replace Ab := xbb (g := Ae) (o := .cells #[.int .u16 An, .int .u16 Ao, .int .u16 Ap, .int .u16 Aq, .int .u16 Ar, .int .u16 As, .int .u16 At, .int .u16 Au] 103 (0, 0)) hb; replace HB := xst hb; (try clear hb)))
 go_ret
 exact ⟨by first | exact xrd | (simp only [← Ad, ← Aa, ← Aa]; exact xrd) | exact xre, xbl⟩
 }
 replace H := xbd H
 obtain ⟨⟨Av, Aw, Ax, Ay, AY⟩, A34, H⟩ := H
 try dsimp only at H
 refine xib H ?_ ?_ <;> clear H <;> rintro rfl H
 {
 obtain rfl := Option.some.inj H
 go_wp2_with (first | ((with_reducible refine xgc (f := 80) rfl ?_); refine xca 44 Tryd.func80 (gG (w := _) (hG := xG) (h := A34.out)) ?_; rintro w36 hb; replace HB := xst hb; (try clear hb)) | ((with_reducible refine af (N := 8) rfl ?_); refine xew 8 ?_; intro Af w37 Ac Al hb hg; replace HB := xst hb; clear hb hg; have AZ := xz4 Ac.out))
 go_ret
 exact ⟨xre, xbl⟩
 }
 replace H := xbd H
 obtain ⟨A0, A39, H⟩ := H
 try dsimp only at H
 refine xib H ?_ ?_ <;> clear H <;> rintro rfl H
 {
 obtain rfl := Option.some.inj H
 go_wp2_with (first | ((with_reducible refine xgc (f := 80) rfl ?_); refine xca 44 Tryd.func80 (gG (w := _) (hG := xG) (h := A34.out)) ?_; rintro w41 hb; replace HB := xst hb; (try clear hb)) | ((with_reducible refine af (N := 8) rfl ?_); refine xew 8 ?_; intro Af w42 Ac Al hb hg; replace HB := xst hb; clear hb hg; have A1 := xz4 Ac.out) | ((with_reducible refine xgc (f := 71) rfl ?_); refine xca 50 Tryd.func71 (en (w := _) (h := A39.out)) ?_; rintro w44 hb; replace Ac := xbb (g := Af) (o := .cells #[.int .u8 Av, .int .u8 Aw, .int .u8 Ax, .int .u8 Ay] 106 (0, 0)) hb; replace HB := xst hb; (try clear hb)))
 go_ret
 exact ⟨xre, xbl⟩
 }
 obtain rfl := Option.some.inj H
 go_wp2_with (first | ((with_reducible refine xgc (f := 80) rfl ?_); refine xca 44 Tryd.func80 (gG (w := _) (hG := xG) (h := A34.out)) ?_; rintro w45 hb; replace HB := xst hb; (try clear hb)) | ((with_reducible refine af (N := 8) rfl ?_); refine xew 8 ?_; intro Af w46 Ac Al hb hg; replace HB := xst hb; clear hb hg; have A2 := xz4 Ac.out) | ((with_reducible refine xgc (f := 71) rfl ?_); refine xca 50 Tryd.func71 (en (w := _) (h := A39.out)) ?_; rintro w48 hb; replace Ac := xbb (g := Af) (o := .cells #[.int .u8 Av, .int .u8 Aw, .int .u8 Ax, .int .u8 Ay] 106 (0, 0)) hb; replace HB := xst hb; (try clear hb)))
 go_ret
 exact ⟨xre, xbl⟩
 )
 )
def cP : Nat → Bool → Bool → Bool → ByteArray → ByteArray → Bool → ByteArray → Option (Bool)
  | 0, _, _, _, _, _, _, _ => none
  | k + 1, x0, x5, Ad, Ae, Ab, Ac, Aa => if x5 = true then (some false) else ((fZ k x0 Ab).bind fun Af => (if Af = 0 then (some false) else (if Ac = true then ((d4 k Aa 2).bind fun Ag => (some (Ag == (Aa.size : Int)))) else (some true))))
def eG (k : Nat) (a0 : Bool) (Aa : Bool) (Ab : ByteArray) (Ac : ByteArray) (Ad : Bool) (Ae : ByteArray) : Option (Bool) := if Aa = true then ((ex k 1 a0 Ab).bind fun Af => (cP k a0 (!Af) Aa Ab Ac Ad Ae)) else (cP k a0 false Aa Ab Ac Ad Ae)
theorem g6 : ∀ k, (∀ y0 y1 y2 y3 y4 y5 y6, LeO (cP k y0 y1 y2 y3 y4 y5 y6) (cP (k + 1) y0 y1 y2 y3 y4 y5 y6))
  | 0 => fun _ _ _ _ _ _ _ r h => by simp [cP] at h
  | k + 1 => by
    have ih0 := g6 k
    have m0 := @ju; have m1 := @fA; have m2 := @fj
    · intro y0 y1 y2 y3 y4 y5 y6
      unfold cP
      exact xmo
theorem kb : ∀ a0 a1 a2 a3 a4 a5 k, LeO (eG k a0 a1 a2 a3 a4 a5) (eG (k + 1) a0 a1 a2 a3 a4 a5) := by
  intro a0 a1 a2 a3 a4 a5 k
  have ih0 := g6 k
  have m0 := @ju; have m1 := @fA; have m2 := @fj
  unfold eG
  exact xmo
theorem ii (k : Nat) (a0 : Bool) (Af : Bool) (Ac : ByteArray) (Ad : ByteArray) (Ag : Bool) (Ae : ByteArray) (r : Bool) (w : World) (hG : GW w) (h : eG k a0 Af Ac Ad Ag Ae = some r) :
    Calls Tryd.prog 64 #[.bool a0, .agg #[.bool Af, .string Ac, .string Ad, .bool Ag, .string Ae]] w fun e w' => e = .returned (.bool r) ∧ Below w.heap.size w w' := by
 have hu77 := Tryd.underlying77
 have HB := Zz.mk (Below.refl w.heap.size w)
 have H := h
 clear h
 unfold eG at H
 have Ao := Zz.mk H
 clear H
 go_enter Tryd.func64, Tryd.ntmps64
 go_upto_region 1 with (first | ((with_reducible refine af (N := 3) rfl ?_); (try (refine el (by rfl) ?_; dsimp only)); refine xew 3 ?_; intro Ab w4 Aa Ah hb hg; have Ai := Ah; replace HB := xst hb; clear hb hg))
 repeat (go_quiet (first | ((with_reducible refine af (N := 3) rfl ?_); (try (refine el (by rfl) ?_; dsimp only)); refine xew 3 ?_; intro Ab w4 Aa Ah hb hg; have Ai := Ah; replace HB := xst hb; clear hb hg)); go_upto_region 1 with (first | ((with_reducible refine af (N := 3) rfl ?_); (try (refine el (by rfl) ?_; dsimp only)); refine xev 3 #[.bool Af, .string Ac, .string Ad, .bool Ag, .string Ae] 77 ?_; intro Ab hg w4 hbox hb; have Aa := Zz.mk (hbox); have Ah := xsz hg; have Ai := Ah; replace HB := xst hb; clear hb hbox hg)))
 (try simp only [Act.put, xl1, xl2, xl3])
 go_cut [5] (fun v5 wc => ∃ kq Aj, v5 = .bool Aj ∧ Zz (cP kq a0 Aj Af Ac Ad Ag Ae = some r) ∧ Zz (kq ≤ k) ∧ Zz (wc.heap[Ab]? = some (.cells #[.bool Af, .string Ac, .string Ad, .bool Ag, .string Ae] 77 (0, 0))) ∧ Zz (Below w.heap.size w wc))
 case first => (
 have H := Ao.out
 clear Ao
 refine xib H ?_ ?_ <;> clear H <;> rintro rfl H
 {
 replace H := xbd H
 obtain ⟨Ap, A6, H⟩ := H
 try dsimp only at H
 replace H := xa H
 have Av := xz5 Aa.out
 go_wp2_with (first | (go_at_call 71; (with_reducible refine (en (w := _) (h := A6.out)).mono ?_); rintro e w8 ⟨rfl, hb⟩; replace Aa := xbb (g := Ab) (o := .cells #[.bool true, .string Ac, .string Ad, .bool Ag, .string Ae] 77 (0, 0)) hb; replace HB := xst hb; (try clear hb)))
 repeat (go_quiet (first | (go_at_call 71; (with_reducible refine (en (w := _) (h := A6.out)).mono ?_); rintro e w8 ⟨rfl, hb⟩; replace Aa := xbb (g := Ab) (o := .cells #[.bool true, .string Ac, .string Ad, .bool Ag, .string Ae] 77 (0, 0)) hb; replace HB := xst hb; (try clear hb))); try go_wp2_with (first | (go_at_call 71; (with_reducible refine (en (w := _) (h := A6.out)).mono ?_); rintro e w8 ⟨rfl, hb⟩; replace Aa := xbb (g := Ab) (o := .cells #[.bool true, .string Ac, .string Ad, .bool Ag, .string Ae] 77 (0, 0)) hb; replace HB := xst hb; (try clear hb))))
 go_meet
 case rel => exact ⟨_, (!Ap), xrr, H, ⟨xom⟩, ⟨xbk⟩, ⟨xbl⟩⟩
 }
 replace H := xa H
 have Aw := xz5 Aa.out
 go_wp2
 repeat (go_quiet (fail); try go_wp2)
 go_meet
 case rel => exact ⟨_, (false), xrr, H, ⟨xom⟩, ⟨xbk⟩, ⟨xbl⟩⟩
 )
 case rest => (
 clear Ao
 obtain ⟨kq, Aj, rfl, HA, HJ2, Aa, HB⟩ := hcut
 cases kq with
 | zero => exact absurd HA.out (by simp [cP])
 | succ kj2 => (
 have H := HA.out
 clear HA
 simp only [cP] at H
 refine xib H ?_ ?_ <;> clear H <;> rintro rfl H
 {
 obtain rfl := Option.some.inj H
 go_wp2
 repeat (go_quiet (fail); try go_wp2)
 go_ret
 exact ⟨xre, xbl⟩
 }
 replace H := xbd H
 obtain ⟨Aq, A11, H⟩ := H
 try dsimp only at H
 refine xid H ?_ ?_ <;> clear H <;> intro c12 H
 {
 obtain ⟨Ak, Al⟩ := xqe c12
 clear c12
 obtain rfl := Option.some.inj H
 have Ar := xz5 Aa.out
 go_wp2_with (first | (go_at_call 72; (with_reducible refine (cI (w := _) (hG := xG) (h := A11.out)).mono ?_); rintro e w14 ⟨rfl, hb⟩; replace Aa := xbb (g := Ab) (o := .cells #[.bool Af, .string Ac, .string Ad, .bool Ag, .string Ae] 77 (0, 0)) hb; replace HB := xst hb; (try clear hb)))
 repeat (go_quiet (first | (go_at_call 72; (with_reducible refine (cI (w := _) (hG := xG) (h := A11.out)).mono ?_); rintro e w14 ⟨rfl, hb⟩; replace Aa := xbb (g := Ab) (o := .cells #[.bool Af, .string Ac, .string Ad, .bool Ag, .string Ae] 77 (0, 0)) hb; replace HB := xst hb; (try clear hb))); try go_wp2_with (first | (go_at_call 72; (with_reducible refine (cI (w := _) (hG := xG) (h := A11.out)).mono ?_); rintro e w14 ⟨rfl, hb⟩; replace Aa := xbb (g := Ab) (o := .cells #[.bool Af, .string Ac, .string Ad, .bool Ag, .string Ae] 77 (0, 0)) hb; replace HB := xst hb; (try clear hb))))
 go_ret
 exact ⟨xre, xbl⟩
 }
 obtain ⟨Ak, Al⟩ := xqn c12
 refine xib H ?_ ?_ <;> clear H <;> rintro rfl H
 {
 replace H := xbd H
 obtain ⟨As, A16, H⟩ := H
 try dsimp only at H
 obtain rfl := Option.some.inj H
 have At := xz5 Aa.out
 go_wp2_with (first | (go_at_call 72; (with_reducible refine (cI (w := _) (hG := xG) (h := A11.out)).mono ?_); rintro e w18 ⟨rfl, hb⟩; replace Aa := xbb (g := Ab) (o := .cells #[.bool Af, .string Ac, .string Ad, .bool true, .string Ae] 77 (0, 0)) hb; replace HB := xst hb; (try clear hb); have Am := xz5 Aa.out) | (go_at_call 73; (with_reducible refine (eU (w := _) (h := A16.out)).mono ?_); rintro e w' ⟨rfl, ⟨nd, rfl⟩⟩; (try exact xdd)))
 repeat (go_quiet (first | (go_at_call 72; (with_reducible refine (cI (w := _) (hG := xG) (h := A11.out)).mono ?_); rintro e w18 ⟨rfl, hb⟩; replace Aa := xbb (g := Ab) (o := .cells #[.bool Af, .string Ac, .string Ad, .bool true, .string Ae] 77 (0, 0)) hb; replace HB := xst hb; (try clear hb); have Am := xz5 Aa.out) | (go_at_call 73; (with_reducible refine (eU (w := _) (h := A16.out)).mono ?_); rintro e w' ⟨rfl, ⟨nd, rfl⟩⟩; (try exact xdd))); try go_wp2_with (first | (go_at_call 72; (with_reducible refine (cI (w := _) (hG := xG) (h := A11.out)).mono ?_); rintro e w18 ⟨rfl, hb⟩; replace Aa := xbb (g := Ab) (o := .cells #[.bool Af, .string Ac, .string Ad, .bool true, .string Ae] 77 (0, 0)) hb; replace HB := xst hb; (try clear hb); have Am := xz5 Aa.out) | (go_at_call 73; (with_reducible refine (eU (w := _) (h := A16.out)).mono ?_); rintro e w' ⟨rfl, ⟨nd, rfl⟩⟩; (try exact xdd))))
 go_ret
 exact ⟨xre, xbl⟩
 }
 obtain rfl := Option.some.inj H
 have Au := xz5 Aa.out
 go_wp2_with (first | (go_at_call 72; (with_reducible refine (cI (w := _) (hG := xG) (h := A11.out)).mono ?_); rintro e w21 ⟨rfl, hb⟩; replace Aa := xbb (g := Ab) (o := .cells #[.bool Af, .string Ac, .string Ad, .bool false, .string Ae] 77 (0, 0)) hb; replace HB := xst hb; (try clear hb); have An := xz5 Aa.out))
 repeat (go_quiet (first | (go_at_call 72; (with_reducible refine (cI (w := _) (hG := xG) (h := A11.out)).mono ?_); rintro e w21 ⟨rfl, hb⟩; replace Aa := xbb (g := Ab) (o := .cells #[.bool Af, .string Ac, .string Ad, .bool false, .string Ae] 77 (0, 0)) hb; replace HB := xst hb; (try clear hb); have An := xz5 Aa.out)); try go_wp2_with (first | (go_at_call 72; (with_reducible refine (cI (w := _) (hG := xG) (h := A11.out)).mono ?_); rintro e w21 ⟨rfl, hb⟩; replace Aa := xbb (g := Ab) (o := .cells #[.bool Af, .string Ac, .string Ad, .bool false, .string Ae] 77 (0, 0)) hb; replace HB := xst hb; (try clear hb); have An := xz5 Aa.out)))
 go_ret
 exact ⟨xre, xbl⟩
 )
 )
def d7 (k : Nat) (a0 : Bool) (a1 : ByteArray) : Option (Bool × ByteArray × ByteArray × Bool × ByteArray × Bool) := (e8 k a1).bind fun Aa => ((eG k a0 Aa.1 Aa.2.1 Aa.2.2.1 Aa.2.2.2.1 Aa.2.2.2.2).bind fun Ab => (if Ab = true then (some (Aa.1, Aa.2.1, Aa.2.2.1, Aa.2.2.2.1, Aa.2.2.2.2, true)) else (some (false, (⟨#[]⟩ : ByteArray), (⟨#[]⟩ : ByteArray), false, (⟨#[]⟩ : ByteArray), false))))
theorem ka : ∀ a0 a1 k, LeO (d7 k a0 a1) (d7 (k + 1) a0 a1) := by
  intro a0 a1 k
  have m0 := @ko; have m1 := @kb
  unfold d7
  exact xmo
theorem eV (k : Nat) (a0 : Bool) (a1 : ByteArray) (r1 : Bool) (r2 : ByteArray) (r3 : ByteArray) (r4 : Bool) (r5 : ByteArray) (r6 : Bool) (w : World) (hG : GW w) (h : d7 k a0 a1 = some (r1, r2, r3, r4, r5, r6)) :
    Calls Tryd.prog 52 #[.bool a0, .string a1] w fun e w' => e = .returned (.tuple #[.agg #[.bool r1, .string r2, .string r3, .bool r4, .string r5], .bool r6]) ∧ Below w.heap.size w w' := by
 have hu77 := Tryd.underlying77
 have HB := Zz.mk (Below.refl w.heap.size w)
 have H := h
 clear h
 unfold d7 at H
 replace H := xbd H
 obtain ⟨⟨Ag, Ah, Ai, Aj, Ak⟩, A3, H⟩ := H
 try dsimp only at H
 replace H := xbd H
 obtain ⟨Ap, A4, H⟩ := H
 try dsimp only at H
 refine xib H ?_ ?_ <;> clear H <;> rintro rfl H
 {
 simp only [Option.some.injEq, Prod.mk.injEq] at H
 obtain ⟨rfl, rfl, rfl, rfl, rfl, rfl⟩ := H
 go_enter Tryd.func52, Tryd.ntmps52
 go_wp2_with (first | ((with_reducible refine af (N := 4) rfl ?_); refine xew 4 ?_; intro Aa w6 Ab Al hb hg; replace HB := xst hb; clear hb hg) | ((with_reducible refine xgc (f := 63) rfl ?_); refine xca 8 Tryd.func63 (iI (w := _) (h := A3.out)) ?_; rintro w7 hb; replace Ab := xbb (g := Aa) (o := .cells #[.bool false, .string (⟨#[]⟩ : ByteArray), .string (⟨#[]⟩ : ByteArray), .bool false, .string (⟨#[]⟩ : ByteArray)] 77 (0, 0)) hb; replace HB := xst hb; (try clear hb)) | ((with_reducible refine af (N := 6) rfl ?_); refine xew 6 ?_; intro Af w8 Ae Am hb hg; have Ac := xlt (g := Aa) hg; have Ad := xgt (g := Aa) hg; replace Ab := xbb (g := Aa) (o := .cells #[.bool false, .string (⟨#[]⟩ : ByteArray), .string (⟨#[]⟩ : ByteArray), .bool false, .string (⟨#[]⟩ : ByteArray)] 77 (0, 0)) hb; replace HB := xst hb; clear hb hg; have Aq := Ad.out; have Ar := Ac.out; have As := xz5 Ae.out) | ((with_reducible refine xgc (f := 64) rfl ?_); refine xca 11 Tryd.func64 (ii (w := _) (hG := xG) (h := A4.out)) ?_; rintro w11 hb; replace Ab := xbb (g := Aa) (o := .cells #[.bool false, .string (⟨#[]⟩ : ByteArray), .string (⟨#[]⟩ : ByteArray), .bool false, .string (⟨#[]⟩ : ByteArray)] 77 (0, 0)) hb; replace Ae := xbb (g := Af) (o := .cells #[.bool Ag, .string Ah, .string Ai, .bool Aj, .string Ak] 77 (0, 0)) hb; replace HB := xst hb; (try clear hb); have At := xz5 Ae.out; have Au := xz5 Ab.out))
 refine bodyPost_ret (av rfl _ _ Aa 77 #[.bool Ag, .string Ah, .string Ai, .bool Aj, .string Ak] (0, 0) _ rfl xbk Tryd.underlying77 rfl (by kernel_rfl)) rfl ?_
 exact ⟨xre, xbl⟩
 }
 simp only [Option.some.injEq, Prod.mk.injEq] at H
 obtain ⟨rfl, rfl, rfl, rfl, rfl, rfl⟩ := H
 go_enter Tryd.func52, Tryd.ntmps52
 go_wp2_with (first | ((with_reducible refine af (N := 4) rfl ?_); refine xew 4 ?_; intro Aa w14 Ab Al hb hg; replace HB := xst hb; clear hb hg) | ((with_reducible refine xgc (f := 63) rfl ?_); refine xca 8 Tryd.func63 (iI (w := _) (h := A3.out)) ?_; rintro w15 hb; replace Ab := xbb (g := Aa) (o := .cells #[.bool false, .string (⟨#[]⟩ : ByteArray), .string (⟨#[]⟩ : ByteArray), .bool false, .string (⟨#[]⟩ : ByteArray)] 77 (0, 0)) hb; replace HB := xst hb; (try clear hb)) | ((with_reducible refine af (N := 6) rfl ?_); refine xew 6 ?_; intro Af w16 Ae Am hb hg; have Ac := xlt (g := Aa) hg; have Ad := xgt (g := Aa) hg; replace Ab := xbb (g := Aa) (o := .cells #[.bool false, .string (⟨#[]⟩ : ByteArray), .string (⟨#[]⟩ : ByteArray), .bool false, .string (⟨#[]⟩ : ByteArray)] 77 (0, 0)) hb; replace HB := xst hb; clear hb hg; have An := Ad.out; have Ao := Ac.out; have Av := xz5 Ae.out) | ((with_reducible refine xgc (f := 64) rfl ?_); refine xca 11 Tryd.func64 (ii (w := _) (hG := xG) (h := A4.out)) ?_; rintro w19 hb; replace Ab := xbb (g := Aa) (o := .cells #[.bool false, .string (⟨#[]⟩ : ByteArray), .string (⟨#[]⟩ : ByteArray), .bool false, .string (⟨#[]⟩ : ByteArray)] 77 (0, 0)) hb; replace Ae := xbb (g := Af) (o := .cells #[.bool Ag, .string Ah, .string Ai, .bool Aj, .string Ak] 77 (0, 0)) hb; replace HB := xst hb; (try clear hb); have Aw := xz5 Ab.out))
 refine bodyPost_ret (av rfl _ _ Aa 77 #[.bool false, .string (⟨#[]⟩ : ByteArray), .string (⟨#[]⟩ : ByteArray), .bool false, .string (⟨#[]⟩ : ByteArray)] (0, 0) _ rfl xbk Tryd.underlying77 rfl (by kernel_rfl)) rfl ?_
 exact ⟨xre, xbl⟩
def aU (k : Nat) (Af : ByteArray) (Ag : Int) (Ah : Bool) (Ai : ByteArray) (Aj : Bool) (Ak : ByteArray) (Al : ByteArray) (Am : Bool) (An : ByteArray) (Ao : Bool) (Ac : ByteArray) : Option (Bool × ByteArray × Int × Bool × ByteArray × Bool × ByteArray × ByteArray × Bool × ByteArray × Bool × ByteArray) := (dF Af Ag Ah Ai Aj Ak Al Am An Ao Ac (⟨#[47, 47]⟩ : ByteArray)).bind fun Aa => (if Aa.1 = true then ((cG k Aa.2.1 Aa.2.2.1 (⟨#[47, 63, 35]⟩ : ByteArray)).bind fun Ab => (if Ab < 0 then (if 0 ≤ Aa.2.2.1 then (if Aa.2.2.1 ≤ (Aa.2.1.size : Int) then (if (Aa.2.1.size : Int) ≤ (Aa.2.1.size : Int) then ((d7 k Aa.2.2.2.1 (Aa.2.1.extract (Aa.2.2.1 : Int).toNat ((Aa.2.1.size : Int) : Int).toNat)).bind fun Ad => (some (Ad.2.2.2.2.2, Aa.2.1, (Aa.2.1.size : Int), Aa.2.2.2.1, Aa.2.2.2.2.1, true, Aa.2.1.extract (Aa.2.2.1 : Int).toNat ((Aa.2.1.size : Int) : Int).toNat, Aa.2.2.2.2.2.2.2.1, Aa.2.2.2.2.2.2.2.2.1, Aa.2.2.2.2.2.2.2.2.2.1, Aa.2.2.2.2.2.2.2.2.2.2.1, Aa.2.2.2.2.2.2.2.2.2.2.2))) else (none)) else (none)) else (none)) else (if 0 ≤ Aa.2.2.1 then (if Aa.2.2.1 ≤ Ab then (if Ab ≤ (Aa.2.1.size : Int) then ((d7 k Aa.2.2.2.1 (Aa.2.1.extract (Aa.2.2.1 : Int).toNat (Ab : Int).toNat)).bind fun Ae => (some (Ae.2.2.2.2.2, Aa.2.1, Ab, Aa.2.2.2.1, Aa.2.2.2.2.1, true, Aa.2.1.extract (Aa.2.2.1 : Int).toNat (Ab : Int).toNat, Aa.2.2.2.2.2.2.2.1, Aa.2.2.2.2.2.2.2.2.1, Aa.2.2.2.2.2.2.2.2.2.1, Aa.2.2.2.2.2.2.2.2.2.2.1, Aa.2.2.2.2.2.2.2.2.2.2.2))) else (none)) else (none)) else (none)))) else (some (true, Aa.2.1, Aa.2.2.1, Aa.2.2.2.1, Aa.2.2.2.2.1, Aa.2.2.2.2.2.1, Aa.2.2.2.2.2.2.1, Aa.2.2.2.2.2.2.2.1, Aa.2.2.2.2.2.2.2.2.1, Aa.2.2.2.2.2.2.2.2.2.1, Aa.2.2.2.2.2.2.2.2.2.2.1, Aa.2.2.2.2.2.2.2.2.2.2.2)))
theorem gT : ∀ a0 a1 a2 a3 a4 a5 a6 a7 a8 a9 a10 k, LeO (aU k a0 a1 a2 a3 a4 a5 a6 a7 a8 a9 a10) (aU (k + 1) a0 a1 a2 a3 a4 a5 a6 a7 a8 a9 a10) := by
  intro a0 a1 a2 a3 a4 a5 a6 a7 a8 a9 a10 k
  have m0 := @er; have m1 := @ka
  unfold aU
  exact xmo
theorem ao (k : Nat) (g : Nat) (AP : ByteArray) (AQ : Int) (AR : Bool) (AS : ByteArray) (AT : Bool) (AU : ByteArray) (AV : ByteArray) (AW : Bool) (AX : ByteArray) (AY : Bool) (AB : ByteArray) (r1 : Bool) (r2 : ByteArray) (r3 : Int) (r4 : Bool) (r5 : ByteArray) (r6 : Bool) (r7 : ByteArray) (r8 : ByteArray) (r9 : Bool) (r10 : ByteArray) (r11 : Bool) (r12 : ByteArray) (w0 w : World) (hI : IsS68 w0 w g AP AQ AR AS AT AU AV AW AX AY AB) (hB : Below w0.heap.size w0 w) (hG : GW w0) (h : aU k AP AQ AR AS AT AU AV AW AX AY AB = some (r1, r2, r3, r4, r5, r6, r7, r8, r9, r10, r11, r12)) :
    Calls Tryd.prog 40 #[.pointer (some ⟨g, 0, none⟩)] w fun e w' => e = .returned (.bool r1) ∧ IsS68 w0 w' g r2 r3 r4 r5 r6 r7 r8 r9 r10 r11 r12 ∧ Below w0.heap.size w0 w' ∧ KeepBut w w' g none := by
 have hu77 := Tryd.underlying77
 have HI0 := Zz.mk hI
 have HK := Zz.mk (KeepBut.refl w g none)
 have HL := Zz.mk hB.size
 clear hI
 have HW0 := Zz.mk hB.size
 have HB := Zz.mk hB
 clear hB
 have H := h
 clear h
 unfold aU at H
 replace H := xbd H
 obtain ⟨⟨Bm, Ae, Az, Af, Ag, Bn, AA, Ah, Ai, Aj, Ak, Al⟩, A2, H⟩ := H
 try dsimp only at H
 refine xib H ?_ ?_ <;> clear H <;> rintro rfl H
 {
 replace H := xbd H
 obtain ⟨Ap, A4, H⟩ := H
 try dsimp only at H
 refine xid H ?_ ?_ <;> clear H <;> intro c5 H
 {
 have A0 := xdt c5
 clear c5
 refine xin H ?_; clear H; intro c6 H
 obtain ⟨Bo, Bp⟩ := xcp c6
 clear c6
 refine xin H ?_; clear H; intro c7 H
 obtain ⟨Bq, Br⟩ := xcp c7
 clear c7
 rw [if_pos (by first | rfl | omega)] at H
 obtain ⟨Au, Ar⟩ : ∃ j_ : ByteArray, (Ae.extract (Az : Int).toNat ((Ae.size : Int) : Int).toNat) = j_ := ⟨_, rfl⟩
 try (have AZ := Ar; simp only [Int.toNat_natCast] at AZ)
 first | rw [Ar] at H | simp only [Ar] at H | skip
 (try rw [Ar] at A2)
 (try rw [Ar] at A4)
 replace H := xbd H
 obtain ⟨⟨AC, AD, AE, AF, AG, AH⟩, A9, H⟩ := H
 try dsimp only at H
 simp only [Option.some.injEq, Prod.mk.injEq] at H
 obtain ⟨rfl, rfl, rfl, rfl, rfl, rfl, rfl, rfl, rfl, rfl, rfl, rfl⟩ := H
 go_enter Tryd.func40, Tryd.ntmps40
 try go_wp2_with (first | ((with_reducible refine xgc (f := 51) rfl ?_); refine xca 7 Tryd.func51 (cg (w := _) (hI := am) (hB := aj) (h := A2.out)) ?_; rintro w10 ⟨hi, hb, hk⟩; replace HK := Zz.mk (KeepBut.trans xk hk (.inl rfl)); replace HB := Zz.mk (hb); replace HI0 := Zz.mk (hi); (try clear hb)))
 replace HI0 := Zz.mk (IsS68.drew HI0.out)
 replace HK := Zz.mk (cp HK.out)
 replace HB := Zz.mk (aw HB.out)
 refine xsr 10 [] (dG HI0.out.1) (fun hHeld => ?_)
 generalize w10.drew = w11 at HI0 HK HB hHeld ⊢
 refine xpu 0 9 ?_
 refine xpu 1 10 ?_
 refine xpu 2 11 ?_
 refine xpu 4 13 ?_
 refine xpu 5 14 ?_
 refine xpu 6 15 ?_
 refine xtk 3 12 ?_
 refine xtk 7 16 ?_
 refine xon 8 17 Tryd.func49 (b8 (w := _) (h := A4.out)) ?_
 rintro w12 hb
 replace HK := Zz.mk (KeepBut.trans xk (KeepBut.of_below hb g none) (.inl rfl))
 replace HB := Zz.mk (bq aj hb)
 replace HI0 := Zz.mk (IsS68.below am hb)
 (try clear hb)
 refine ⟨dG HI0.out.1, fun hHeld => ?_⟩
 refine xpu 9 3 ?_
 refine xdn ?_
 have Bs := cA HI0.out.1
 try go_wp2
 have n0_ : Zz (IsS68 w0 (w12.setCell ⟨g, 4, none⟩ (.bool true)) g Ae Az Af Ag true AA Ah Ai Aj Ak Al) := ⟨am⟩
 have n1_ : Zz (KeepBut w (w12.setCell ⟨g, 4, none⟩ (.bool true)) g none) := ⟨xk⟩
 have n2_ : Zz (Below w0.heap.size w0 (w12.setCell ⟨g, 4, none⟩ (.bool true))) := ⟨aj⟩
 (try clear HI0)
 (try clear HK)
 (try clear HB)
 try simp only [Ar]
 try (have hx_ := Ar; simp only [Int.toNat_natCast] at hx_; simp only [hx_]; clear hx_)
 try simp only [show ∀ (w_ : World) (n_ : Nat) (a_ : Addr) (v_ : Value), (w_.drewN n_).setCell a_ v_ = (w_.setCell a_ v_).drewN n_ from fun _ _ _ _ => rfl]
 generalize (w12.setCell ⟨g, 4, none⟩ (.bool true)) = w14 at n0_ n1_ n2_ ⊢
 have HI0 := n0_
 have HK := n1_
 have HB := n2_
 clear n0_ n1_ n2_
 replace HI0 := Zz.mk (IsS68.drew HI0.out)
 replace HK := Zz.mk (cp HK.out)
 replace HB := Zz.mk (aw HB.out)
 refine xsr 15 [14] (dG HI0.out.1) (fun hHeld => ?_)
 generalize w14.drew = w15 at HI0 HK HB hHeld ⊢
 refine xpu 0 29 ?_
 refine xpu 1 30 ?_
 refine xpu 2 31 ?_
 refine xpu 3 32 ?_
 refine xpu 5 34 ?_
 refine xpu 6 35 ?_
 refine xpu 7 36 ?_
 refine xpu 9 38 ?_
 refine xtk 4 33 ?_
 refine xtk 8 37 ?_
 refine xpu 10 39 ?_
 refine xpu 11 40 ?_
 refine xpu 12 41 ?_
 refine xpu 13 42 ?_
 have hs16 : w15.cell? ⟨g, 5, none⟩ = some (.string AA) := (ab HI0.out.1 5).trans rfl
 have A1 := b6 HI0.out.1 5
 refine xls 14 ?_
 refine xdn ?_
 have Bt := cA HI0.out.1
 try go_wp2
 have n0_ : Zz (IsS68 w0 ((w15.setCell ⟨g, 5, none⟩ (.string Au)).setCell ⟨g, 1, none⟩ (.int .i64 (Ae.size : Int))) g Ae (Ae.size : Int) Af Ag true Au Ah Ai Aj Ak Al) := ⟨am⟩
 have n1_ : Zz (KeepBut w ((w15.setCell ⟨g, 5, none⟩ (.string Au)).setCell ⟨g, 1, none⟩ (.int .i64 (Ae.size : Int))) g none) := ⟨xk⟩
 have n2_ : Zz (Below w0.heap.size w0 ((w15.setCell ⟨g, 5, none⟩ (.string Au)).setCell ⟨g, 1, none⟩ (.int .i64 (Ae.size : Int)))) := ⟨aj⟩
 (try clear HI0)
 (try clear HK)
 (try clear HB)
 try simp only [Ar]
 try (have hx_ := Ar; simp only [Int.toNat_natCast] at hx_; simp only [hx_]; clear hx_)
 try simp only [show ∀ (w_ : World) (n_ : Nat) (a_ : Addr) (v_ : Value), (w_.drewN n_).setCell a_ v_ = (w_.setCell a_ v_).drewN n_ from fun _ _ _ _ => rfl]
 generalize ((w15.setCell ⟨g, 5, none⟩ (.string Au)).setCell ⟨g, 1, none⟩ (.int .i64 (Ae.size : Int))) = w18 at n0_ n1_ n2_ ⊢
 have HI0 := n0_
 have HK := n1_
 have HB := n2_
 clear n0_ n1_ n2_
 replace HI0 := Zz.mk (IsS68.drew HI0.out)
 replace HK := Zz.mk (cp HK.out)
 replace HB := Zz.mk (aw HB.out)
 refine xsr 16 [] (dG HI0.out.1) (fun hHeld => ?_)
 generalize w18.drew = w19 at HI0 HK HB hHeld ⊢
 refine xpu 0 48 ?_
 refine xpu 1 49 ?_
 refine xpu 2 50 ?_
 refine xpu 4 52 ?_
 refine xpu 5 53 ?_
 refine xpu 6 54 ?_
 refine xpu 7 55 ?_
 refine xtk 3 51 ?_
 refine xtk 8 56 ?_
 refine nA (σ := Nat) 2 #[true, true, true, true, true, true, true, true, true, true, true, true, true, true, false, false] (fun s_ => [(57, .tuple #[.agg #[.bool AC, .string AD, .string AE, .bool AF, .string AG], .bool AH]), (4, .pointer (some ⟨s_, 0, none⟩)), (47, .tuple #[.agg #[.bool AC, .string AD, .string AE, .bool AF, .string AG], .bool AH]), (58, .agg #[.bool AC, .string AD, .string AE, .bool AF, .string AG]), (59, .bool AH)]) (fun s_ w' => (w'.cell? ⟨g, 0, none⟩ = some (.string Ae) ∧ w'.cell? ⟨g, 1, none⟩ = some (.int .i64 (Ae.size : Int)) ∧ w'.cell? ⟨g, 2, none⟩ = some (.bool Af) ∧ w'.cell? ⟨g, 3, none⟩ = some (.string Ag) ∧ w'.cell? ⟨g, 4, none⟩ = some (.bool true) ∧ w'.cell? ⟨g, 5, none⟩ = some (.string Au) ∧ w'.cell? ⟨g, 6, none⟩ = some (.string Ah) ∧ w'.cell? ⟨g, 7, none⟩ = some (.bool Ai) ∧ w'.cell? ⟨g, 8, none⟩ = some (.string Aj) ∧ w'.cell? ⟨g, 9, none⟩ = some (.bool Ak) ∧ w'.cell? ⟨g, 10, none⟩ = some (.string Al)) ∧ (w'.heap[s_]? = some (.cells #[.bool false, .string (⟨#[]⟩ : ByteArray), .string (⟨#[]⟩ : ByteArray), .bool false, .string (⟨#[]⟩ : ByteArray)] 77 (0, 0))) ∧ (w.heap.size ≤ s_) ∧ (w0.heap.size ≤ s_) ∧ (g ≠ s_) ∧ (s_ ≠ g) ∧ (IsS68 w0 w' g Ae (Ae.size : Int) Af Ag true Au Ah Ai Aj Ak Al) ∧ (KeepBut w w' g none) ∧ (Below w0.heap.size w0 w')) ?_ ?_
 rotate_left
 {
 intro hCont
 refine nZ (i := 9) (j := 13) (Ni := some 57) (Nj := some 4) #[true, true, true, true, true, true, true, true, true, true, false, false, false, false, false, false] #[true, true, true, true, true, true, true, true, true, false, false, false, false, true, false, false] rfl rfl rfl rfl (na rfl (by kernel_rfl)) (by decide) (by decide) (fun K hK => ?_) (fun K hK => ?_)
 {
 skip
 refine jD Tryd.func52 (by kernel_rfl) rfl #[.bool Af, .string Au] (by rfl) rfl rfl (by (try simp only [List.map_toArray, List.map_cons, List.map_nil]); first | done | (simp only [Ar]; rfl) | rfl | (simp only [List.length_drop, List.length_take]; rfl)) ?_
 (with_reducible refine (eV (w := _) (hG := eH) (h := A9.out)).mono ?_)
 rintro e w20 ⟨rfl, hb⟩
 refine ⟨_, rfl, ?_⟩
 replace HK := Zz.mk (KeepBut.trans xk (KeepBut.of_below hb g none) (.inl rfl))
 replace HB := Zz.mk (bq aj hb)
 replace HI0 := Zz.mk (IsS68.below am hb)
 (try clear hb)
 refine hK.out _ _ (dG HI0.out.1) (fun hHeld => ?_)
 clear hK K
 refine eR (a' := ?_) ?_ ?_
 rotate_left
 {
 show Act.put _ (some 57) _ = _
 simp only [Act.put, xl1, xl2, xl3, an, au]
 rfl
 }
 refine xpu 10 47 ?_
 refine xpu 11 58 ?_
 refine xpu 12 59 ?_
 refine fv (i := 13) (N := some 4) #[true, true, true, true, true, true, true, true, true, true, true, true, true, true, false, false] rfl rfl (e4 rfl (by kernel_rfl)) (by decide) (fun K hK => ?_)
 refine jb ?hg (N := 4) ?hd (cs := #[.bool false, .string (⟨#[]⟩ : ByteArray), .string (⟨#[]⟩ : ByteArray), .bool false, .string (⟨#[]⟩ : ByteArray)]) (t := 77) ?hr ?_; (case hd => rfl); (case hg => rfl); (case hr => first | (go_simp; done) | (go_simp; rfl))
 intro Ac hg w21 hbox hb
 replace HB := Zz.mk (bq aj hb)
 have Am := Zz.mk (hbox)
 have Av := Zz.mk ((by rw [hg]; exact (eK (w := w) (g := g) (row := none) xk) : w.heap.size ≤ Ac))
 have Aw := Zz.mk ((Nat.le_trans HW0.out (by rw [hg]; exact (eK (w := w) (g := g) (row := none) xk) : w.heap.size ≤ Ac) : w0.heap.size ≤ Ac))
 replace HK := Zz.mk (KeepBut.trans xk (KeepBut.of_below hb g none) (.inl rfl))
 have Aa := Zz.mk ((by rw [hg]; exact Nat.ne_of_lt (IsS68.lt (show IsS68 w0 _ g Ae (Ae.size : Int) Af Ag true Au Ah Ai Aj Ak Al from am)) : g ≠ Ac))
 have As := Zz.mk ((by rw [hg]; exact Nat.ne_of_gt (IsS68.lt (show IsS68 w0 _ g Ae (Ae.size : Int) Af Ag true Au Ah Ai Aj Ak Al from am)) : Ac ≠ g))
 replace HI0 := Zz.mk (IsS68.below am hb)
 clear hb hbox hg
 refine hK.out _ _ (dG HI0.out.1) (fun hHeld => ?_)
 clear hK K
 refine eR (a' := ?_) ?_ ?_
 rotate_left
 {
 show Act.put _ (some 4) _ = _
 simp only [Act.put, xl1, xl2, xl3, an, au]
 rfl
 }
 exact eR (by simp only [gn, Act.put, xl1, xl2, xl3]) (hCont (Ac) _ ⟨hHeld, xbk, Av.out, Aw.out, Aa.out, As.out, am, xk, aj⟩)
 }
 {
 skip
 refine jb ?hg (N := 4) ?hd (cs := #[.bool false, .string (⟨#[]⟩ : ByteArray), .string (⟨#[]⟩ : ByteArray), .bool false, .string (⟨#[]⟩ : ByteArray)]) (t := 77) ?hr ?_; (case hd => rfl); (case hg => rfl); (case hr => first | (go_simp; done) | (go_simp; rfl))
 intro Ac hg w20 hbox hb
 replace HB := Zz.mk (bq aj hb)
 have Am := Zz.mk (hbox)
 have Av := Zz.mk ((by rw [hg]; exact (eK (w := w) (g := g) (row := none) xk) : w.heap.size ≤ Ac))
 have Aw := Zz.mk ((Nat.le_trans HW0.out (by rw [hg]; exact (eK (w := w) (g := g) (row := none) xk) : w.heap.size ≤ Ac) : w0.heap.size ≤ Ac))
 replace HK := Zz.mk (KeepBut.trans xk (KeepBut.of_below hb g none) (.inl rfl))
 have Aa := Zz.mk ((by rw [hg]; exact Nat.ne_of_lt (IsS68.lt (show IsS68 w0 _ g Ae (Ae.size : Int) Af Ag true Au Ah Ai Aj Ak Al from am)) : g ≠ Ac))
 have As := Zz.mk ((by rw [hg]; exact Nat.ne_of_gt (IsS68.lt (show IsS68 w0 _ g Ae (Ae.size : Int) Af Ag true Au Ah Ai Aj Ak Al from am)) : Ac ≠ g))
 replace HI0 := Zz.mk (IsS68.below am hb)
 clear hb hbox hg
 refine hK.out _ _ (dG HI0.out.1) (fun hHeld => ?_)
 clear hK K
 refine eR (a' := ?_) ?_ ?_
 rotate_left
 {
 show Act.put _ (some 4) _ = _
 simp only [Act.put, xl1, xl2, xl3, an, au]
 rfl
 }
 refine xon 9 57 Tryd.func52 (eV (w := _) (hG := eH) (h := A9.out)) ?_ (hargs := by (try simp only [xm1, xm2, xm3]); first | done | (simp only [Ar]; rfl) | rfl)
 rintro w21 hb
 replace Am := xbb (g := Ac) (o := .cells #[.bool false, .string (⟨#[]⟩ : ByteArray), .string (⟨#[]⟩ : ByteArray), .bool false, .string (⟨#[]⟩ : ByteArray)] 77 (0, 0)) hb
 replace HK := Zz.mk (KeepBut.trans xk (KeepBut.of_below hb g none) (.inl rfl))
 replace HB := Zz.mk (bq aj hb)
 replace HI0 := Zz.mk (IsS68.below am hb)
 (try clear hb)
 refine ⟨dG HI0.out.1, fun hHeld => ?_⟩
 refine xpu 10 47 ?_
 refine xpu 11 58 ?_
 refine xpu 12 59 ?_
 exact eR (by simp only [gn, Act.put, xl1, xl2, xl3]) (hCont (Ac) _ ⟨hHeld, xbk, Av.out, Aw.out, Aa.out, As.out, am, xk, aj⟩)
 }
 }
 rintro Ac w22 ⟨hS_, h0_, h1_, h2_, h3_, h4_, h5_, h6_, h7_⟩
 have n0_ : Zz (w22.heap[Ac]? = some (.cells #[.bool false, .string (⟨#[]⟩ : ByteArray), .string (⟨#[]⟩ : ByteArray), .bool false, .string (⟨#[]⟩ : ByteArray)] 77 (0, 0))) := ⟨h0_⟩
 have n1_ : Zz (w.heap.size ≤ Ac) := ⟨h1_⟩
 have n2_ : Zz (w0.heap.size ≤ Ac) := ⟨h2_⟩
 have n3_ : Zz (g ≠ Ac) := ⟨h3_⟩
 have n4_ : Zz (Ac ≠ g) := ⟨h4_⟩
 have n5_ : Zz (IsS68 w0 w22 g Ae (Ae.size : Int) Af Ag true Au Ah Ai Aj Ak Al) := ⟨h5_⟩
 have n6_ : Zz (KeepBut w w22 g none) := ⟨h6_⟩
 have n7_ : Zz (Below w0.heap.size w0 w22) := ⟨h7_⟩
 clear HI0
 clear HK
 clear HB
 clear h0_ h1_ h2_ h3_ h4_ h5_ h6_ h7_
 have Am := n0_
 have Av := n1_
 have Aw := n2_
 have Aa := n3_
 have As := n4_
 have HI0 := n5_
 have HK := n6_
 have HB := n7_
 clear n0_ n1_ n2_ n3_ n4_ n5_ n6_ n7_
 have hHeld : w22.cell? ⟨g, 0, none⟩ = some (.string Ae) ∧ w22.cell? ⟨g, 1, none⟩ = some (.int .i64 (Ae.size : Int)) ∧ w22.cell? ⟨g, 2, none⟩ = some (.bool Af) ∧ w22.cell? ⟨g, 3, none⟩ = some (.string Ag) ∧ w22.cell? ⟨g, 4, none⟩ = some (.bool true) ∧ w22.cell? ⟨g, 5, none⟩ = some (.string Au) ∧ w22.cell? ⟨g, 6, none⟩ = some (.string Ah) ∧ w22.cell? ⟨g, 7, none⟩ = some (.bool Ai) ∧ w22.cell? ⟨g, 8, none⟩ = some (.string Aj) ∧ w22.cell? ⟨g, 9, none⟩ = some (.bool Ak) ∧ w22.cell? ⟨g, 10, none⟩ = some (.string Al) := hS_
 refine eR (a' := ?_) ?_ ?_
 rotate_left
 {
 simp only [gn, Act.put, xl1, xl2, xl3]
 rfl
 }
 refine fv (i := 14) (N := none) #[true, true, true, true, true, true, true, true, true, true, true, true, true, true, true, false] rfl rfl (e4 rfl (by kernel_rfl)) (by decide) (fun K hK => ?_)
 have hs23 : w22.cell? ⟨Ac, 0, none⟩ = some (.bool false) := (ab Am.out 0).trans rfl
 have A3 := xf Am 0
 have hs24 : w22.cell? ⟨Ac, 1, none⟩ = some (.string (⟨#[]⟩ : ByteArray)) := (ab Am.out 1).trans rfl
 have A5 := xf Am 1
 have hs25 : w22.cell? ⟨Ac, 2, none⟩ = some (.string (⟨#[]⟩ : ByteArray)) := (ab Am.out 2).trans rfl
 have A6 := xf Am 2
 have hs26 : w22.cell? ⟨Ac, 3, none⟩ = some (.bool false) := (ab Am.out 3).trans rfl
 have A7 := xf Am 3
 have hs27 : w22.cell? ⟨Ac, 4, none⟩ = some (.string (⟨#[]⟩ : ByteArray)) := (ab Am.out 4).trans rfl
 have A8 := xf Am 4
 refine fU (w1 := ?_) (by rfl) rfl ?_ ?_
 rotate_left
 {
 go_simp
 rfl
 }
 refine hK.out _ _ ⟨((aa (p := ⟨Ac, _, none⟩) Aa.out _).trans (((aa (p := ⟨Ac, _, none⟩) Aa.out _).trans (((aa (p := ⟨Ac, _, none⟩) Aa.out _).trans (((aa (p := ⟨Ac, _, none⟩) Aa.out _).trans (((aa (p := ⟨Ac, _, none⟩) Aa.out _).trans (hHeld.1)))))))))), ((aa (p := ⟨Ac, _, none⟩) Aa.out _).trans (((aa (p := ⟨Ac, _, none⟩) Aa.out _).trans (((aa (p := ⟨Ac, _, none⟩) Aa.out _).trans (((aa (p := ⟨Ac, _, none⟩) Aa.out _).trans (((aa (p := ⟨Ac, _, none⟩) Aa.out _).trans (hHeld.2.1)))))))))), ((aa (p := ⟨Ac, _, none⟩) Aa.out _).trans (((aa (p := ⟨Ac, _, none⟩) Aa.out _).trans (((aa (p := ⟨Ac, _, none⟩) Aa.out _).trans (((aa (p := ⟨Ac, _, none⟩) Aa.out _).trans (((aa (p := ⟨Ac, _, none⟩) Aa.out _).trans (hHeld.2.2.1)))))))))), ((aa (p := ⟨Ac, _, none⟩) Aa.out _).trans (((aa (p := ⟨Ac, _, none⟩) Aa.out _).trans (((aa (p := ⟨Ac, _, none⟩) Aa.out _).trans (((aa (p := ⟨Ac, _, none⟩) Aa.out _).trans (((aa (p := ⟨Ac, _, none⟩) Aa.out _).trans (hHeld.2.2.2.1)))))))))), ((aa (p := ⟨Ac, _, none⟩) Aa.out _).trans (((aa (p := ⟨Ac, _, none⟩) Aa.out _).trans (((aa (p := ⟨Ac, _, none⟩) Aa.out _).trans (((aa (p := ⟨Ac, _, none⟩) Aa.out _).trans (((aa (p := ⟨Ac, _, none⟩) Aa.out _).trans (hHeld.2.2.2.2.1)))))))))), ((aa (p := ⟨Ac, _, none⟩) Aa.out _).trans (((aa (p := ⟨Ac, _, none⟩) Aa.out _).trans (((aa (p := ⟨Ac, _, none⟩) Aa.out _).trans (((aa (p := ⟨Ac, _, none⟩) Aa.out _).trans (((aa (p := ⟨Ac, _, none⟩) Aa.out _).trans (hHeld.2.2.2.2.2.1)))))))))), ((aa (p := ⟨Ac, _, none⟩) Aa.out _).trans (((aa (p := ⟨Ac, _, none⟩) Aa.out _).trans (((aa (p := ⟨Ac, _, none⟩) Aa.out _).trans (((aa (p := ⟨Ac, _, none⟩) Aa.out _).trans (((aa (p := ⟨Ac, _, none⟩) Aa.out _).trans (hHeld.2.2.2.2.2.2.1)))))))))), ((aa (p := ⟨Ac, _, none⟩) Aa.out _).trans (((aa (p := ⟨Ac, _, none⟩) Aa.out _).trans (((aa (p := ⟨Ac, _, none⟩) Aa.out _).trans (((aa (p := ⟨Ac, _, none⟩) Aa.out _).trans (((aa (p := ⟨Ac, _, none⟩) Aa.out _).trans (hHeld.2.2.2.2.2.2.2.1)))))))))), ((aa (p := ⟨Ac, _, none⟩) Aa.out _).trans (((aa (p := ⟨Ac, _, none⟩) Aa.out _).trans (((aa (p := ⟨Ac, _, none⟩) Aa.out _).trans (((aa (p := ⟨Ac, _, none⟩) Aa.out _).trans (((aa (p := ⟨Ac, _, none⟩) Aa.out _).trans (hHeld.2.2.2.2.2.2.2.2.1)))))))))), ((aa (p := ⟨Ac, _, none⟩) Aa.out _).trans (((aa (p := ⟨Ac, _, none⟩) Aa.out _).trans (((aa (p := ⟨Ac, _, none⟩) Aa.out _).trans (((aa (p := ⟨Ac, _, none⟩) Aa.out _).trans (((aa (p := ⟨Ac, _, none⟩) Aa.out _).trans (hHeld.2.2.2.2.2.2.2.2.2.1)))))))))), ((aa (p := ⟨Ac, _, none⟩) Aa.out _).trans (((aa (p := ⟨Ac, _, none⟩) Aa.out _).trans (((aa (p := ⟨Ac, _, none⟩) Aa.out _).trans (((aa (p := ⟨Ac, _, none⟩) Aa.out _).trans (((aa (p := ⟨Ac, _, none⟩) Aa.out _).trans (hHeld.2.2.2.2.2.2.2.2.2.2))))))))))⟩ (fun hHeld => ?_)
 clear hK K
 refine xpu 15 5 ?_
 refine xdn ?_
 try go_wp2
 go_ret
 exact ⟨by first | exact xrd | (simp only [← Ar]; exact xrd) | exact xre, am, aj, xk⟩
 }
 have A0 := xdf c5
 clear c5
 refine xin H ?_; clear H; intro c28 H
 obtain ⟨Ba, Bb⟩ := xcp c28
 clear c28
 refine xin H ?_; clear H; intro c29 H
 obtain ⟨Bc, Bd⟩ := xcp c29
 clear c29
 refine xin H ?_; clear H; intro c30 H
 obtain ⟨Be, Bf⟩ := xcp c30
 clear c30
 obtain ⟨Aq, Ao⟩ : ∃ j_ : ByteArray, (Ae.extract (Az : Int).toNat (Ap : Int).toNat) = j_ := ⟨_, rfl⟩
 try (have AI := Ao; simp only [Int.toNat_natCast] at AI)
 first | rw [Ao] at H | simp only [Ao] at H | skip
 (try rw [Ao] at A2)
 (try rw [Ao] at A4)
 replace H := xbd H
 obtain ⟨⟨AJ, AK, AL, AM, AN, AO⟩, A32, H⟩ := H
 try dsimp only at H
 simp only [Option.some.injEq, Prod.mk.injEq] at H
 obtain ⟨rfl, rfl, rfl, rfl, rfl, rfl, rfl, rfl, rfl, rfl, rfl, rfl⟩ := H
 go_enter Tryd.func40, Tryd.ntmps40
 try go_wp2_with (first | ((with_reducible refine xgc (f := 51) rfl ?_); refine xca 7 Tryd.func51 (cg (w := _) (hI := am) (hB := aj) (h := A2.out)) ?_; rintro w33 ⟨hi, hb, hk⟩; replace HK := Zz.mk (KeepBut.trans xk hk (.inl rfl)); replace HB := Zz.mk (hb); replace HI0 := Zz.mk (hi); (try clear hb)))
 replace HI0 := Zz.mk (IsS68.drew HI0.out)
 replace HK := Zz.mk (cp HK.out)
 replace HB := Zz.mk (aw HB.out)
 refine xsr 10 [] (dG HI0.out.1) (fun hHeld => ?_)
 generalize w33.drew = w34 at HI0 HK HB hHeld ⊢
 refine xpu 0 9 ?_
 refine xpu 1 10 ?_
 refine xpu 2 11 ?_
 refine xpu 4 13 ?_
 refine xpu 5 14 ?_
 refine xpu 6 15 ?_
 refine xtk 3 12 ?_
 refine xtk 7 16 ?_
 refine xon 8 17 Tryd.func49 (b8 (w := _) (h := A4.out)) ?_
 rintro w35 hb
 replace HK := Zz.mk (KeepBut.trans xk (KeepBut.of_below hb g none) (.inl rfl))
 replace HB := Zz.mk (bq aj hb)
 replace HI0 := Zz.mk (IsS68.below am hb)
 (try clear hb)
 refine ⟨dG HI0.out.1, fun hHeld => ?_⟩
 refine xpu 9 3 ?_
 refine xdn ?_
 have Bu := cA HI0.out.1
 try go_wp2
 have n0_ : Zz (IsS68 w0 (w35.setCell ⟨g, 4, none⟩ (.bool true)) g Ae Az Af Ag true AA Ah Ai Aj Ak Al) := ⟨am⟩
 have n1_ : Zz (KeepBut w (w35.setCell ⟨g, 4, none⟩ (.bool true)) g none) := ⟨xk⟩
 have n2_ : Zz (Below w0.heap.size w0 (w35.setCell ⟨g, 4, none⟩ (.bool true))) := ⟨aj⟩
 (try clear HI0)
 (try clear HK)
 (try clear HB)
 try simp only [Ao]
 try (have hx_ := Ao; simp only [Int.toNat_natCast] at hx_; simp only [hx_]; clear hx_)
 try simp only [show ∀ (w_ : World) (n_ : Nat) (a_ : Addr) (v_ : Value), (w_.drewN n_).setCell a_ v_ = (w_.setCell a_ v_).drewN n_ from fun _ _ _ _ => rfl]
 generalize (w35.setCell ⟨g, 4, none⟩ (.bool true)) = w37 at n0_ n1_ n2_ ⊢
 have HI0 := n0_
 have HK := n1_
 have HB := n2_
 clear n0_ n1_ n2_
 replace HI0 := Zz.mk (IsS68.drew HI0.out)
 replace HK := Zz.mk (cp HK.out)
 replace HB := Zz.mk (aw HB.out)
 refine xsr 15 [14] (dG HI0.out.1) (fun hHeld => ?_)
 generalize w37.drew = w38 at HI0 HK HB hHeld ⊢
 refine xpu 0 29 ?_
 refine xpu 1 30 ?_
 refine xpu 2 31 ?_
 refine xpu 3 32 ?_
 refine xpu 5 34 ?_
 refine xpu 6 35 ?_
 refine xpu 7 36 ?_
 refine xpu 9 38 ?_
 refine xtk 4 33 ?_
 refine xtk 8 37 ?_
 refine xpu 10 39 ?_
 refine xpu 11 40 ?_
 refine xpu 12 41 ?_
 refine xpu 13 42 ?_
 have hs39 : w38.cell? ⟨g, 5, none⟩ = some (.string AA) := (ab HI0.out.1 5).trans rfl
 have Bg := b6 HI0.out.1 5
 refine xls 14 ?_
 refine xdn ?_
 have Bv := cA HI0.out.1
 try go_wp2
 have n0_ : Zz (IsS68 w0 ((w38.setCell ⟨g, 5, none⟩ (.string Aq)).setCell ⟨g, 1, none⟩ (.int .i64 Ap)) g Ae Ap Af Ag true Aq Ah Ai Aj Ak Al) := ⟨am⟩
 have n1_ : Zz (KeepBut w ((w38.setCell ⟨g, 5, none⟩ (.string Aq)).setCell ⟨g, 1, none⟩ (.int .i64 Ap)) g none) := ⟨xk⟩
 have n2_ : Zz (Below w0.heap.size w0 ((w38.setCell ⟨g, 5, none⟩ (.string Aq)).setCell ⟨g, 1, none⟩ (.int .i64 Ap))) := ⟨aj⟩
 (try clear HI0)
 (try clear HK)
 (try clear HB)
 try simp only [Ao]
 try (have hx_ := Ao; simp only [Int.toNat_natCast] at hx_; simp only [hx_]; clear hx_)
 try simp only [show ∀ (w_ : World) (n_ : Nat) (a_ : Addr) (v_ : Value), (w_.drewN n_).setCell a_ v_ = (w_.setCell a_ v_).drewN n_ from fun _ _ _ _ => rfl]
 generalize ((w38.setCell ⟨g, 5, none⟩ (.string Aq)).setCell ⟨g, 1, none⟩ (.int .i64 Ap)) = w41 at n0_ n1_ n2_ ⊢
 have HI0 := n0_
 have HK := n1_
 have HB := n2_
 clear n0_ n1_ n2_
 replace HI0 := Zz.mk (IsS68.drew HI0.out)
 replace HK := Zz.mk (cp HK.out)
 replace HB := Zz.mk (aw HB.out)
 refine xsr 16 [] (dG HI0.out.1) (fun hHeld => ?_)
 generalize w41.drew = w42 at HI0 HK HB hHeld ⊢
 refine xpu 0 48 ?_
 refine xpu 1 49 ?_
 refine xpu 2 50 ?_
 refine xpu 4 52 ?_
 refine xpu 5 53 ?_
 refine xpu 6 54 ?_
 refine xpu 7 55 ?_
 refine xtk 3 51 ?_
 refine xtk 8 56 ?_
 refine nA (σ := Nat) 2 #[true, true, true, true, true, true, true, true, true, true, true, true, true, true, false, false] (fun s_ => [(57, .tuple #[.agg #[.bool AJ, .string AK, .string AL, .bool AM, .string AN], .bool AO]), (4, .pointer (some ⟨s_, 0, none⟩)), (47, .tuple #[.agg #[.bool AJ, .string AK, .string AL, .bool AM, .string AN], .bool AO]), (58, .agg #[.bool AJ, .string AK, .string AL, .bool AM, .string AN]), (59, .bool AO)]) (fun s_ w' => (w'.cell? ⟨g, 0, none⟩ = some (.string Ae) ∧ w'.cell? ⟨g, 1, none⟩ = some (.int .i64 Ap) ∧ w'.cell? ⟨g, 2, none⟩ = some (.bool Af) ∧ w'.cell? ⟨g, 3, none⟩ = some (.string Ag) ∧ w'.cell? ⟨g, 4, none⟩ = some (.bool true) ∧ w'.cell? ⟨g, 5, none⟩ = some (.string Aq) ∧ w'.cell? ⟨g, 6, none⟩ = some (.string Ah) ∧ w'.cell? ⟨g, 7, none⟩ = some (.bool Ai) ∧ w'.cell? ⟨g, 8, none⟩ = some (.string Aj) ∧ w'.cell? ⟨g, 9, none⟩ = some (.bool Ak) ∧ w'.cell? ⟨g, 10, none⟩ = some (.string Al)) ∧ (w'.heap[s_]? = some (.cells #[.bool false, .string (⟨#[]⟩ : ByteArray), .string (⟨#[]⟩ : ByteArray), .bool false, .string (⟨#[]⟩ : ByteArray)] 77 (0, 0))) ∧ (w.heap.size ≤ s_) ∧ (w0.heap.size ≤ s_) ∧ (g ≠ s_) ∧ (s_ ≠ g) ∧ (IsS68 w0 w' g Ae Ap Af Ag true Aq Ah Ai Aj Ak Al) ∧ (KeepBut w w' g none) ∧ (Below w0.heap.size w0 w')) ?_ ?_
 rotate_left
 {
 intro hCont
 refine nZ (i := 9) (j := 13) (Ni := some 57) (Nj := some 4) #[true, true, true, true, true, true, true, true, true, true, false, false, false, false, false, false] #[true, true, true, true, true, true, true, true, true, false, false, false, false, true, false, false] rfl rfl rfl rfl (na rfl (by kernel_rfl)) (by decide) (by decide) (fun K hK => ?_) (fun K hK => ?_)
 {
 skip
 refine jD Tryd.func52 (by kernel_rfl) rfl #[.bool Af, .string Aq] (by rfl) rfl rfl (by (try simp only [List.map_toArray, List.map_cons, List.map_nil]); first | done | (simp only [Ao]; rfl) | rfl | (simp only [List.length_drop, List.length_take]; rfl)) ?_
 (with_reducible refine (eV (w := _) (hG := eH) (h := A32.out)).mono ?_)
 rintro e w43 ⟨rfl, hb⟩
 refine ⟨_, rfl, ?_⟩
 replace HK := Zz.mk (KeepBut.trans xk (KeepBut.of_below hb g none) (.inl rfl))
 replace HB := Zz.mk (bq aj hb)
 replace HI0 := Zz.mk (IsS68.below am hb)
 (try clear hb)
 refine hK.out _ _ (dG HI0.out.1) (fun hHeld => ?_)
 clear hK K
 refine eR (a' := ?_) ?_ ?_
 rotate_left
 {
 show Act.put _ (some 57) _ = _
 simp only [Act.put, xl1, xl2, xl3, an, au]
 rfl
 }
 refine xpu 10 47 ?_
 refine xpu 11 58 ?_
 refine xpu 12 59 ?_
 refine fv (i := 13) (N := some 4) #[true, true, true, true, true, true, true, true, true, true, true, true, true, true, false, false] rfl rfl (e4 rfl (by kernel_rfl)) (by decide) (fun K hK => ?_)
 refine jb ?hg (N := 4) ?hd (cs := #[.bool false, .string (⟨#[]⟩ : ByteArray), .string (⟨#[]⟩ : ByteArray), .bool false, .string (⟨#[]⟩ : ByteArray)]) (t := 77) ?hr ?_; (case hd => rfl); (case hg => rfl); (case hr => first | (go_simp; done) | (go_simp; rfl))
 intro Ad hg w44 hbox hb
 replace HB := Zz.mk (bq aj hb)
 have An := Zz.mk (hbox)
 have Ax := Zz.mk ((by rw [hg]; exact (eK (w := w) (g := g) (row := none) xk) : w.heap.size ≤ Ad))
 have Ay := Zz.mk ((Nat.le_trans HW0.out (by rw [hg]; exact (eK (w := w) (g := g) (row := none) xk) : w.heap.size ≤ Ad) : w0.heap.size ≤ Ad))
 replace HK := Zz.mk (KeepBut.trans xk (KeepBut.of_below hb g none) (.inl rfl))
 have Ab := Zz.mk ((by rw [hg]; exact Nat.ne_of_lt (IsS68.lt (show IsS68 w0 _ g Ae Ap Af Ag true Aq Ah Ai Aj Ak Al from am)) : g ≠ Ad))
 have At := Zz.mk ((by rw [hg]; exact Nat.ne_of_gt (IsS68.lt (show IsS68 w0 _ g Ae Ap Af Ag true Aq Ah Ai Aj Ak Al from am)) : Ad ≠ g))
 replace HI0 := Zz.mk (IsS68.below am hb)
 clear hb hbox hg
 refine hK.out _ _ (dG HI0.out.1) (fun hHeld => ?_)
 clear hK K
 refine eR (a' := ?_) ?_ ?_
 rotate_left
 {
 show Act.put _ (some 4) _ = _
 simp only [Act.put, xl1, xl2, xl3, an, au]
 rfl
 }
 exact eR (by simp only [gn, Act.put, xl1, xl2, xl3]) (hCont (Ad) _ ⟨hHeld, xbk, Ax.out, Ay.out, Ab.out, At.out, am, xk, aj⟩)
 }
 {
 skip
 refine jb ?hg (N := 4) ?hd (cs := #[.bool false, .string (⟨#[]⟩ : ByteArray), .string (⟨#[]⟩ : ByteArray), .bool false, .string (⟨#[]⟩ : ByteArray)]) (t := 77) ?hr ?_; (case hd => rfl); (case hg => rfl); (case hr => first | (go_simp; done) | (go_simp; rfl))
 intro Ad hg w43 hbox hb
 replace HB := Zz.mk (bq aj hb)
 have An := Zz.mk (hbox)
 have Ax := Zz.mk ((by rw [hg]; exact (eK (w := w) (g := g) (row := none) xk) : w.heap.size ≤ Ad))
 have Ay := Zz.mk ((Nat.le_trans HW0.out (by rw [hg]; exact (eK (w := w) (g := g) (row := none) xk) : w.heap.size ≤ Ad) : w0.heap.size ≤ Ad))
 replace HK := Zz.mk (KeepBut.trans xk (KeepBut.of_below hb g none) (.inl rfl))
 have Ab := Zz.mk ((by rw [hg]; exact Nat.ne_of_lt (IsS68.lt (show IsS68 w0 _ g Ae Ap Af Ag true Aq Ah Ai Aj Ak Al from am)) : g ≠ Ad))
 have At := Zz.mk ((by rw [hg]; exact Nat.ne_of_gt (IsS68.lt (show IsS68 w0 _ g Ae Ap Af Ag true Aq Ah Ai Aj Ak Al from am)) : Ad ≠ g))
 replace HI0 := Zz.mk (IsS68.below am hb)
 clear hb hbox hg
 refine hK.out _ _ (dG HI0.out.1) (fun hHeld => ?_)
 clear hK K
 refine eR (a' := ?_) ?_ ?_
 rotate_left
 {
 show Act.put _ (some 4) _ = _
 simp only [Act.put, xl1, xl2, xl3, an, au]
 rfl
 }
 refine xon 9 57 Tryd.func52 (eV (w := _) (hG := eH) (h := A32.out)) ?_ (hargs := by (try simp only [xm1, xm2, xm3]); first | done | (simp only [Ao]; rfl) | rfl)
 rintro w44 hb
 replace An := xbb (g := Ad) (o := .cells #[.bool false, .string (⟨#[]⟩ : ByteArray), .string (⟨#[]⟩ : ByteArray), .bool false, .string (⟨#[]⟩ : ByteArray)] 77 (0, 0)) hb
 replace HK := Zz.mk (KeepBut.trans xk (KeepBut.of_below hb g none) (.inl rfl))
 replace HB := Zz.mk (bq aj hb)
 replace HI0 := Zz.mk (IsS68.below am hb)
 (try clear hb)
 refine ⟨dG HI0.out.1, fun hHeld => ?_⟩
 refine xpu 10 47 ?_
 refine xpu 11 58 ?_
 refine xpu 12 59 ?_
 exact eR (by simp only [gn, Act.put, xl1, xl2, xl3]) (hCont (Ad) _ ⟨hHeld, xbk, Ax.out, Ay.out, Ab.out, At.out, am, xk, aj⟩)
 }
 }
 rintro Ad w45 ⟨hS_, h0_, h1_, h2_, h3_, h4_, h5_, h6_, h7_⟩
 have n0_ : Zz (w45.heap[Ad]? = some (.cells #[.bool false, .string (⟨#[]⟩ : ByteArray), .string (⟨#[]⟩ : ByteArray), .bool false, .string (⟨#[]⟩ : ByteArray)] 77 (0, 0))) := ⟨h0_⟩
 have n1_ : Zz (w.heap.size ≤ Ad) := ⟨h1_⟩
 have n2_ : Zz (w0.heap.size ≤ Ad) := ⟨h2_⟩
 have n3_ : Zz (g ≠ Ad) := ⟨h3_⟩
 have n4_ : Zz (Ad ≠ g) := ⟨h4_⟩
 have n5_ : Zz (IsS68 w0 w45 g Ae Ap Af Ag true Aq Ah Ai Aj Ak Al) := ⟨h5_⟩
 have n6_ : Zz (KeepBut w w45 g none) := ⟨h6_⟩
 have n7_ : Zz (Below w0.heap.size w0 w45) := ⟨h7_⟩
 clear HI0
 clear HK
 clear HB
 clear h0_ h1_ h2_ h3_ h4_ h5_ h6_ h7_
 have An := n0_
 have Ax := n1_
 have Ay := n2_
 have Ab := n3_
 have At := n4_
 have HI0 := n5_
 have HK := n6_
 have HB := n7_
 clear n0_ n1_ n2_ n3_ n4_ n5_ n6_ n7_
 have hHeld : w45.cell? ⟨g, 0, none⟩ = some (.string Ae) ∧ w45.cell? ⟨g, 1, none⟩ = some (.int .i64 Ap) ∧ w45.cell? ⟨g, 2, none⟩ = some (.bool Af) ∧ w45.cell? ⟨g, 3, none⟩ = some (.string Ag) ∧ w45.cell? ⟨g, 4, none⟩ = some (.bool true) ∧ w45.cell? ⟨g, 5, none⟩ = some (.string Aq) ∧ w45.cell? ⟨g, 6, none⟩ = some (.string Ah) ∧ w45.cell? ⟨g, 7, none⟩ = some (.bool Ai) ∧ w45.cell? ⟨g, 8, none⟩ = some (.string Aj) ∧ w45.cell? ⟨g, 9, none⟩ = some (.bool Ak) ∧ w45.cell? ⟨g, 10, none⟩ = some (.string Al) := hS_
 refine eR (a' := ?_) ?_ ?_
 rotate_left
 {
 simp only [gn, Act.put, xl1, xl2, xl3]
 rfl
 }
 refine fv (i := 14) (N := none) #[true, true, true, true, true, true, true, true, true, true, true, true, true, true, true, false] rfl rfl (e4 rfl (by kernel_rfl)) (by decide) (fun K hK => ?_)
 have hs46 : w45.cell? ⟨Ad, 0, none⟩ = some (.bool false) := (ab An.out 0).trans rfl
 have Bh := xf An 0
 have hs47 : w45.cell? ⟨Ad, 1, none⟩ = some (.string (⟨#[]⟩ : ByteArray)) := (ab An.out 1).trans rfl
 have Bi := xf An 1
 have hs48 : w45.cell? ⟨Ad, 2, none⟩ = some (.string (⟨#[]⟩ : ByteArray)) := (ab An.out 2).trans rfl
 have Bj := xf An 2
 have hs49 : w45.cell? ⟨Ad, 3, none⟩ = some (.bool false) := (ab An.out 3).trans rfl
 have Bk := xf An 3
 have hs50 : w45.cell? ⟨Ad, 4, none⟩ = some (.string (⟨#[]⟩ : ByteArray)) := (ab An.out 4).trans rfl
 have Bl := xf An 4
 refine fU (w1 := ?_) (by rfl) rfl ?_ ?_
 rotate_left
 {
 go_simp
 rfl
 }
 refine hK.out _ _ ⟨((aa (p := ⟨Ad, _, none⟩) Ab.out _).trans (((aa (p := ⟨Ad, _, none⟩) Ab.out _).trans (((aa (p := ⟨Ad, _, none⟩) Ab.out _).trans (((aa (p := ⟨Ad, _, none⟩) Ab.out _).trans (((aa (p := ⟨Ad, _, none⟩) Ab.out _).trans (hHeld.1)))))))))), ((aa (p := ⟨Ad, _, none⟩) Ab.out _).trans (((aa (p := ⟨Ad, _, none⟩) Ab.out _).trans (((aa (p := ⟨Ad, _, none⟩) Ab.out _).trans (((aa (p := ⟨Ad, _, none⟩) Ab.out _).trans (((aa (p := ⟨Ad, _, none⟩) Ab.out _).trans (hHeld.2.1)))))))))), ((aa (p := ⟨Ad, _, none⟩) Ab.out _).trans (((aa (p := ⟨Ad, _, none⟩) Ab.out _).trans (((aa (p := ⟨Ad, _, none⟩) Ab.out _).trans (((aa (p := ⟨Ad, _, none⟩) Ab.out _).trans (((aa (p := ⟨Ad, _, none⟩) Ab.out _).trans (hHeld.2.2.1)))))))))), ((aa (p := ⟨Ad, _, none⟩) Ab.out _).trans (((aa (p := ⟨Ad, _, none⟩) Ab.out _).trans (((aa (p := ⟨Ad, _, none⟩) Ab.out _).trans (((aa (p := ⟨Ad, _, none⟩) Ab.out _).trans (((aa (p := ⟨Ad, _, none⟩) Ab.out _).trans (hHeld.2.2.2.1)))))))))), ((aa (p := ⟨Ad, _, none⟩) Ab.out _).trans (((aa (p := ⟨Ad, _, none⟩) Ab.out _).trans (((aa (p := ⟨Ad, _, none⟩) Ab.out _).trans (((aa (p := ⟨Ad, _, none⟩) Ab.out _).trans (((aa (p := ⟨Ad, _, none⟩) Ab.out _).trans (hHeld.2.2.2.2.1)))))))))), ((aa (p := ⟨Ad, _, none⟩) Ab.out _).trans (((aa (p := ⟨Ad, _, none⟩) Ab.out _).trans (((aa (p := ⟨Ad, _, none⟩) Ab.out _).trans (((aa (p := ⟨Ad, _, none⟩) Ab.out _).trans (((aa (p := ⟨Ad, _, none⟩) Ab.out _).trans (hHeld.2.2.2.2.2.1)))))))))), ((aa (p := ⟨Ad, _, none⟩) Ab.out _).trans (((aa (p := ⟨Ad, _, none⟩) Ab.out _).trans (((aa (p := ⟨Ad, _, none⟩) Ab.out _).trans (((aa (p := ⟨Ad, _, none⟩) Ab.out _).trans (((aa (p := ⟨Ad, _, none⟩) Ab.out _).trans (hHeld.2.2.2.2.2.2.1)))))))))), ((aa (p := ⟨Ad, _, none⟩) Ab.out _).trans (((aa (p := ⟨Ad, _, none⟩) Ab.out _).trans (((aa (p := ⟨Ad, _, none⟩) Ab.out _).trans (((aa (p := ⟨Ad, _, none⟩) Ab.out _).trans (((aa (p := ⟨Ad, _, none⟩) Ab.out _).trans (hHeld.2.2.2.2.2.2.2.1)))))))))), ((aa (p := ⟨Ad, _, none⟩) Ab.out _).trans (((aa (p := ⟨Ad, _, none⟩) Ab.out _).trans (((aa (p := ⟨Ad, _, none⟩) Ab.out _).trans (((aa (p := ⟨Ad, _, none⟩) Ab.out _).trans (((aa (p := ⟨Ad, _, none⟩) Ab.out _).trans (hHeld.2.2.2.2.2.2.2.2.1)))))))))), ((aa (p := ⟨Ad, _, none⟩) Ab.out _).trans (((aa (p := ⟨Ad, _, none⟩) Ab.out _).trans (((aa (p := ⟨Ad, _, none⟩) Ab.out _).trans (((aa (p := ⟨Ad, _, none⟩) Ab.out _).trans (((aa (p := ⟨Ad, _, none⟩) Ab.out _).trans (hHeld.2.2.2.2.2.2.2.2.2.1)))))))))), ((aa (p := ⟨Ad, _, none⟩) Ab.out _).trans (((aa (p := ⟨Ad, _, none⟩) Ab.out _).trans (((aa (p := ⟨Ad, _, none⟩) Ab.out _).trans (((aa (p := ⟨Ad, _, none⟩) Ab.out _).trans (((aa (p := ⟨Ad, _, none⟩) Ab.out _).trans (hHeld.2.2.2.2.2.2.2.2.2.2))))))))))⟩ (fun hHeld => ?_)
 clear hK K
 refine xpu 15 5 ?_
 refine xdn ?_
 try go_wp2
 go_ret
 exact ⟨by first | exact xrd | (simp only [← Ao]; exact xrd) | exact xre, am, aj, xk⟩
 }
 simp only [Option.some.injEq, Prod.mk.injEq] at H
 obtain ⟨rfl, rfl, rfl, rfl, rfl, rfl, rfl, rfl, rfl, rfl, rfl, rfl⟩ := H
 go_enter Tryd.func40, Tryd.ntmps40
 go_wp2_with (first | ((with_reducible refine xgc (f := 51) rfl ?_); refine xca 7 Tryd.func51 (cg (w := _) (hI := am) (hB := aj) (h := A2.out)) ?_; rintro w51 ⟨hi, hb, hk⟩; replace HK := Zz.mk (KeepBut.trans xk hk (.inl rfl)); replace HB := Zz.mk (hb); replace HI0 := Zz.mk (hi); (try clear hb)))
 go_ret
 exact ⟨xre, am, aj, xk⟩
def bK (k : Nat) (Ab : ByteArray) (Aa : Int) (Ad : Bool) (Af : ByteArray) (Ag : Bool) (Ah : ByteArray) (Ai : ByteArray) (Aj : Bool) (Ak : ByteArray) (Al : Bool) (Ae : ByteArray) (a1 : Int) : Option (ByteArray × ByteArray × Int × Bool × ByteArray × Bool × ByteArray × ByteArray × Bool × ByteArray × Bool × ByteArray) := if 0 ≤ Aa then (if Aa ≤ (Ab.size : Int) then ((dZ k a1 Ad (Ab.extract (Aa : Int).toNat Ab.size)).bind fun Ac => (if Aa ≤ (wrap64 (Aa + Ac)) then (if (wrap64 (Aa + Ac)) ≤ (Ab.size : Int) then (some (Ab.extract (Aa : Int).toNat ((wrap64 (Aa + Ac)) : Int).toNat, Ab, wrap64 (Aa + Ac), Ad, Af, Ag, Ah, Ai, Aj, Ak, Al, Ae)) else (none)) else (none))) else (none)) else (none)
theorem dJ : ∀ a0 a1 a2 a3 a4 a5 a6 a7 a8 a9 a10 a11 k, LeO (bK k a0 a1 a2 a3 a4 a5 a6 a7 a8 a9 a10 a11) (bK (k + 1) a0 a1 a2 a3 a4 a5 a6 a7 a8 a9 a10 a11) := by
  intro a0 a1 a2 a3 a4 a5 a6 a7 a8 a9 a10 a11 k
  have m0 := @iD
  unfold bK
  exact xmo
theorem bo (k : Nat) (g : Nat) (Ae : ByteArray) (Ab : Int) (Ag : Bool) (Ah : ByteArray) (Ai : Bool) (Aj : ByteArray) (Ak : ByteArray) (Al : Bool) (Am : ByteArray) (An : Bool) (Af : ByteArray) (a1 : Int) (r1 : ByteArray) (r2 : ByteArray) (r3 : Int) (r4 : Bool) (r5 : ByteArray) (r6 : Bool) (r7 : ByteArray) (r8 : ByteArray) (r9 : Bool) (r10 : ByteArray) (r11 : Bool) (r12 : ByteArray) (w0 w : World) (hI : IsS68 w0 w g Ae Ab Ag Ah Ai Aj Ak Al Am An Af) (hB : Below w0.heap.size w0 w) (h : bK k Ae Ab Ag Ah Ai Aj Ak Al Am An Af a1 = some (r1, r2, r3, r4, r5, r6, r7, r8, r9, r10, r11, r12)) :
    Calls Tryd.prog 53 #[.pointer (some ⟨g, 0, none⟩), .int .i64 a1] w fun e w' => e = .returned (.string r1) ∧ IsS68 w0 w' g r2 r3 r4 r5 r6 r7 r8 r9 r10 r11 r12 ∧ Below w0.heap.size w0 w' ∧ KeepBut w w' g none := by
 have HI0 := Zz.mk hI
 have HK := Zz.mk (KeepBut.refl w g none)
 have HL := Zz.mk hB.size
 clear hI
 have HW0 := Zz.mk hB.size
 have HB := Zz.mk hB
 clear hB
 have H := h
 clear h
 unfold bK at H
 refine xin H ?_; clear H; intro c3 H
 obtain ⟨Aw, Ax⟩ := xcp c3
 clear c3
 refine xin H ?_; clear H; intro c4 H
 obtain ⟨Ay, Az⟩ := xcp c4
 clear c4
 obtain ⟨AF, Ac⟩ : ∃ j_ : ByteArray, (Ae.extract (Ab : Int).toNat Ae.size) = j_ := ⟨_, rfl⟩
 try (have Aq := Ac; simp only [Int.toNat_natCast] at Aq)
 first | rw [Ac] at H | simp only [Ac] at H | skip
 replace H := xbd H
 obtain ⟨Ar, A6, H⟩ := H
 try dsimp only at H
 have AA := eq_true (xod : 0 ≤ Ab)
 obtain ⟨Ao, Ad⟩ : ∃ j_ : Int, (wrap64 (Ab + Ar)) = j_ := ⟨_, rfl⟩
 first | rw [Ad] at H | simp only [Ad] at H | skip
 (try rw [Ad] at A6)
 have As : (IntKind.i64.wrap (Ab + Ar)) = Ao := (an _).trans Ad
 refine xin H ?_; clear H; intro c9 H
 obtain ⟨AB, AC⟩ := xcp c9
 clear c9
 refine xin H ?_; clear H; intro c10 H
 obtain ⟨At, Au⟩ := xcp c10
 clear c10
 obtain ⟨AD, Aa⟩ : ∃ j_ : ByteArray, (Ae.extract (Ab : Int).toNat ((Ao) : Int).toNat) = j_ := ⟨_, rfl⟩
 try (have Ap := Aa; simp only [Int.toNat_natCast] at Ap)
 first | rw [Aa] at H | simp only [Aa] at H | skip
 (try rw [Aa] at A6)
 simp only [Option.some.injEq, Prod.mk.injEq] at H
 obtain ⟨rfl, rfl, rfl, rfl, rfl, rfl, rfl, rfl, rfl, rfl, rfl, rfl⟩ := H
 have AE := cA HI0.out.1
 go_enter Tryd.func53, Tryd.ntmps53
 try go_wp2
 replace HI0 := Zz.mk (IsS68.drew HI0.out)
 replace HK := Zz.mk (cp HK.out)
 replace HB := Zz.mk (aw HB.out)
 refine xsr 23 [22] (dG HI0.out.1) (fun hHeld => ?_)
 generalize w.drew = w13 at HI0 HK HB hHeld ⊢
 refine xpu 0 10 ?_
 refine xpu 1 11 ?_
 refine xpu 2 12 ?_
 refine xpu 4 14 ?_
 refine xpu 5 15 ?_
 refine xpu 6 16 ?_
 refine xpu 7 17 ?_
 refine xpu 9 19 ?_
 refine xpu 10 20 ?_
 refine xpu 11 21 ?_
 refine xpu 13 23 ?_
 refine xpu 14 24 ?_
 refine xpu 15 25 ?_
 refine xtk 3 13 ?_
 refine xtk 8 18 ?_
 refine xtk 12 22 ?_
 refine xtk 16 26 ?_
 refine xpu 17 27 ?_
 refine xon 18 28 Tryd.func65 (ib (w := _) (h := A6.out)) ?_ (hargs := by (try simp only [xm1, xm2, xm3]); first | done | (simp only [Ac]; rfl) | rfl)
 rintro w14 hb
 replace HK := Zz.mk (KeepBut.trans xk (KeepBut.of_below hb g none) (.inl rfl))
 replace HB := Zz.mk (bq aj hb)
 replace HI0 := Zz.mk (IsS68.below am hb)
 (try clear hb)
 refine ⟨dG HI0.out.1, fun hHeld => ?_⟩
 refine xpu 19 29 ?_
 refine xpu 20 30 ?_
 refine xpu 21 31 ?_
 have hs15 : w14.cell? ⟨g, 1, none⟩ = some (.int .i64 Ab) := (ab HI0.out.1 1).trans rfl
 have Av := b6 HI0.out.1 1
 refine xls 22 ?_
 refine xdn ?_
 try go_wp2
 have n0_ : Zz (IsS68 w0 (w14.setCell ⟨g, 1, none⟩ (.int .i64 Ao)) g Ae Ao Ag Ah Ai Aj Ak Al Am An Af) := ⟨am⟩
 have n1_ : Zz (KeepBut w (w14.setCell ⟨g, 1, none⟩ (.int .i64 Ao)) g none) := ⟨xk⟩
 have n2_ : Zz (Below w0.heap.size w0 (w14.setCell ⟨g, 1, none⟩ (.int .i64 Ao))) := ⟨aj⟩
 (try clear HI0)
 (try clear HK)
 (try clear HB)
 try simp only [Ac]
 try (have hx_ := Ac; simp only [Int.toNat_natCast] at hx_; simp only [hx_]; clear hx_)
 try simp only [Ad]
 try (have hx_ := Ad; simp only [Int.toNat_natCast] at hx_; simp only [hx_]; clear hx_)
 try simp only [Aa]
 try (have hx_ := Aa; simp only [Int.toNat_natCast] at hx_; simp only [hx_]; clear hx_)
 try simp only [show ∀ (w_ : World) (n_ : Nat) (a_ : Addr) (v_ : Value), (w_.drewN n_).setCell a_ v_ = (w_.setCell a_ v_).drewN n_ from fun _ _ _ _ => rfl]
 generalize (w14.setCell ⟨g, 1, none⟩ (.int .i64 Ao)) = w16 at n0_ n1_ n2_ ⊢
 have HI0 := n0_
 have HK := n1_
 have HB := n2_
 clear n0_ n1_ n2_
 replace HI0 := Zz.mk (IsS68.drew HI0.out)
 replace HK := Zz.mk (cp HK.out)
 replace HB := Zz.mk (aw HB.out)
 refine xsr 11 [] (dG HI0.out.1) (fun hHeld => ?_)
 generalize w16.drew = w17 at HI0 HK HB hHeld ⊢
 refine xpu 0 32 ?_
 refine xpu 1 33 ?_
 refine xpu 2 34 ?_
 refine xpu 4 36 ?_
 refine xpu 5 37 ?_
 refine xpu 6 38 ?_
 refine xpu 7 39 ?_
 refine xtk 3 35 ?_
 refine xtk 8 40 ?_
 refine xpu 9 41 ?_
 refine xpu 10 4 ?_
 refine xdn ?_
 try go_wp2
 go_ret
 exact ⟨by first | exact xrd | (simp only [← Ac, ← Ad, ← Aa]; exact xrd) | exact xre, am, aj, xk⟩
mutual
def bs : Nat → Int → Bool → ByteArray → Int → Bool → ByteArray → Bool → ByteArray → ByteArray → Bool → ByteArray → Bool → ByteArray → Option (Bool × ByteArray × Int × Bool × ByteArray × Bool × ByteArray × ByteArray × Bool × ByteArray × Bool × ByteArray)
  | 0, _, _, _, _, _, _, _, _, _, _, _, _, _ => none
  | k + 1, x3, Am, Ab, Ac, Ad, Ae, Af, Ag, Ah, Ai, Aj, Ak, Al => if Am = true then ((bK k Ab Ac Ad Ae Af Ag Ah Ai Aj Ak Al 4).bind fun Aa => (if Aa.2.2.1 < (Aa.2.1.size : Int) then (if 0 ≤ Aa.2.2.1 then (if (bt Aa.2.1 Aa.2.2.1) = 58 then (some (false, Aa.2.1, Aa.2.2.1, Aa.2.2.2.1, Aa.2.2.2.2.1, Aa.2.2.2.2.2.1, Aa.2.2.2.2.2.2.1, Aa.2.2.2.2.2.2.2.1, Aa.2.2.2.2.2.2.2.2.1, Aa.2.2.2.2.2.2.2.2.2.1, Aa.2.2.2.2.2.2.2.2.2.2.1, Aa.2.2.2.2.2.2.2.2.2.2.2)) else (bf k x3 Aa.2.1 Aa.2.2.1 Aa.2.2.2.1 Aa.2.2.2.2.1 Aa.2.2.2.2.2.1 Aa.2.2.2.2.2.2.1 Aa.2.2.2.2.2.2.2.1 Aa.2.2.2.2.2.2.2.2.1 Aa.2.2.2.2.2.2.2.2.2.1 Aa.2.2.2.2.2.2.2.2.2.2.1 Aa.2.2.2.2.2.2.2.2.2.2.2)) else (none)) else (bf k x3 Aa.2.1 Aa.2.2.1 Aa.2.2.2.1 Aa.2.2.2.2.1 Aa.2.2.2.2.2.1 Aa.2.2.2.2.2.2.1 Aa.2.2.2.2.2.2.2.1 Aa.2.2.2.2.2.2.2.2.1 Aa.2.2.2.2.2.2.2.2.2.1 Aa.2.2.2.2.2.2.2.2.2.2.1 Aa.2.2.2.2.2.2.2.2.2.2.2))) else (bf k x3 Ab Ac Ad Ae Af Ag Ah Ai Aj Ak Al)
def bf : Nat → Int → ByteArray → Int → Bool → ByteArray → Bool → ByteArray → ByteArray → Bool → ByteArray → Bool → ByteArray → Option (Bool × ByteArray × Int × Bool × ByteArray × Bool × ByteArray × ByteArray × Bool × ByteArray × Bool × ByteArray)
  | 0, _, _, _, _, _, _, _, _, _, _, _, _ => none
  | k + 1, x3, Ab, Ac, Ad, Ae, Af, Ag, Ah, Ai, Aj, Ak, Al => (bK k Ab Ac Ad Ae Af Ag Ah Ai Aj Ak Al 5).bind fun Aa => (if 0 ≤ x3 then (if x3 ≤ Aa.2.2.1 then (if Aa.2.2.1 ≤ (Aa.2.1.size : Int) then (if Aa.2.2.2.2.2.1 = true then (if (Aa.2.1.extract (x3 : Int).toNat (Aa.2.2.1 : Int).toNat).toList = ([] : List UInt8) then (some (true, Aa.2.1, Aa.2.2.1, Aa.2.2.2.1, Aa.2.2.2.2.1, Aa.2.2.2.2.2.1, Aa.2.2.2.2.2.2.1, Aa.2.1.extract (x3 : Int).toNat (Aa.2.2.1 : Int).toNat, Aa.2.2.2.2.2.2.2.2.1, Aa.2.2.2.2.2.2.2.2.2.1, Aa.2.2.2.2.2.2.2.2.2.2.1, Aa.2.2.2.2.2.2.2.2.2.2.2)) else (if 0 < ((Aa.2.1.extract (x3 : Int).toNat (Aa.2.2.1 : Int).toNat).size : Int) then (some (((bt (Aa.2.1.extract (x3 : Int).toNat (Aa.2.2.1 : Int).toNat) 0) == 47), Aa.2.1, Aa.2.2.1, Aa.2.2.2.1, Aa.2.2.2.2.1, Aa.2.2.2.2.2.1, Aa.2.2.2.2.2.2.1, Aa.2.1.extract (x3 : Int).toNat (Aa.2.2.1 : Int).toNat, Aa.2.2.2.2.2.2.2.2.1, Aa.2.2.2.2.2.2.2.2.2.1, Aa.2.2.2.2.2.2.2.2.2.2.1, Aa.2.2.2.2.2.2.2.2.2.2.2)) else (none))) else ((dp (Aa.2.1.extract (x3 : Int).toNat (Aa.2.2.1 : Int).toNat) (⟨#[47, 47]⟩ : ByteArray)).bind fun Am => (some (!Am, Aa.2.1, Aa.2.2.1, Aa.2.2.2.1, Aa.2.2.2.2.1, Aa.2.2.2.2.2.1, Aa.2.2.2.2.2.2.1, Aa.2.1.extract (x3 : Int).toNat (Aa.2.2.1 : Int).toNat, Aa.2.2.2.2.2.2.2.2.1, Aa.2.2.2.2.2.2.2.2.2.1, Aa.2.2.2.2.2.2.2.2.2.2.1, Aa.2.2.2.2.2.2.2.2.2.2.2)))) else (none)) else (none)) else (none))
end
def bJ (k : Nat) (Ae : ByteArray) (Aa : Int) (Af : Bool) (Ac : ByteArray) (Ad : Bool) (Ag : ByteArray) (Ah : ByteArray) (Ai : Bool) (Aj : ByteArray) (Ak : Bool) (Ab : ByteArray) : Option (Bool × ByteArray × Int × Bool × ByteArray × Bool × ByteArray × ByteArray × Bool × ByteArray × Bool × ByteArray) := if Ac.toList = ([] : List UInt8) then (bs k Aa (!Ad) Ae Aa Af Ac Ad Ag Ah Ai Aj Ak Ab) else (bs k Aa false Ae Aa Af Ac Ad Ag Ah Ai Aj Ak Ab)
theorem fK : ∀ k, (∀ y0 y1 y2 y3 y4 y5 y6 y7 y8 y9 y10 y11 y12, LeO (bs k y0 y1 y2 y3 y4 y5 y6 y7 y8 y9 y10 y11 y12) (bs (k + 1) y0 y1 y2 y3 y4 y5 y6 y7 y8 y9 y10 y11 y12)) ∧ (∀ y0 y1 y2 y3 y4 y5 y6 y7 y8 y9 y10 y11, LeO (bf k y0 y1 y2 y3 y4 y5 y6 y7 y8 y9 y10 y11) (bf (k + 1) y0 y1 y2 y3 y4 y5 y6 y7 y8 y9 y10 y11))
  | 0 => ⟨fun _ _ _ _ _ _ _ _ _ _ _ _ _ r h => by simp [bs] at h, fun _ _ _ _ _ _ _ _ _ _ _ _ r h => by simp [bf] at h⟩
  | k + 1 => by
    obtain ⟨ih0, ih1⟩ := fK k
    have m0 := @dJ
    refine ⟨?_, ?_⟩
    · intro y0 y1 y2 y3 y4 y5 y6 y7 y8 y9 y10 y11 y12
      unfold bs
      exact xmo
    · intro y0 y1 y2 y3 y4 y5 y6 y7 y8 y9 y10 y11
      unfold bf
      exact xmo
theorem i2 : ∀ a0 a1 a2 a3 a4 a5 a6 a7 a8 a9 a10 k, LeO (bJ k a0 a1 a2 a3 a4 a5 a6 a7 a8 a9 a10) (bJ (k + 1) a0 a1 a2 a3 a4 a5 a6 a7 a8 a9 a10) := by
  intro a0 a1 a2 a3 a4 a5 a6 a7 a8 a9 a10 k
  obtain ⟨ih0, ih1⟩ := fK k
  have m0 := @dJ
  unfold bJ
  exact xmo
theorem aI (k : Nat) (g : Nat) (Ar : ByteArray) (Am : Int) (As : Bool) (Ap : ByteArray) (Aq : Bool) (At : ByteArray) (Au : ByteArray) (Av : Bool) (Aw : ByteArray) (Ax : Bool) (An : ByteArray) (r1 : Bool) (r2 : ByteArray) (r3 : Int) (r4 : Bool) (r5 : ByteArray) (r6 : Bool) (r7 : ByteArray) (r8 : ByteArray) (r9 : Bool) (r10 : ByteArray) (r11 : Bool) (r12 : ByteArray) (w0 w : World) (hI : IsS68 w0 w g Ar Am As Ap Aq At Au Av Aw Ax An) (hB : Below w0.heap.size w0 w) (h : bJ k Ar Am As Ap Aq At Au Av Aw Ax An = some (r1, r2, r3, r4, r5, r6, r7, r8, r9, r10, r11, r12)) :
    Calls Tryd.prog 41 #[.pointer (some ⟨g, 0, none⟩)] w fun e w' => e = .returned (.bool r1) ∧ IsS68 w0 w' g r2 r3 r4 r5 r6 r7 r8 r9 r10 r11 r12 ∧ Below w0.heap.size w0 w' ∧ KeepBut w w' g none := by
 have HI0 := Zz.mk hI
 have HK := Zz.mk (KeepBut.refl w g none)
 have HL := Zz.mk hB.size
 clear hI
 have HW0 := Zz.mk hB.size
 have HB := Zz.mk hB
 clear hB
 have H := h
 clear h
 unfold bJ at H
 have AY := Zz.mk H
 clear H
 have Bv := cA HI0.out.1
 go_enter Tryd.func41, Tryd.ntmps41
 go_upto_region 2 with (fail)
 go_cut [21] (fun v21 wc => ∃ kq Ay, v21 = .bool Ay ∧ Zz (bs kq Am Ay Ar Am As Ap Aq At Au Av Aw Ax An = some (r1, r2, r3, r4, r5, r6, r7, r8, r9, r10, r11, r12)) ∧ Zz (kq ≤ k) ∧ Zz (IsS68 w0 wc g Ar Am As Ap Aq At Au Av Aw Ax An) ∧ Zz (KeepBut w wc g none) ∧ Zz (Below w0.heap.size w0 wc))
 case first => (
 have H := AY.out
 clear AY
 refine xid H ?_ ?_ <;> clear H <;> intro c4 H
 {
 obtain ⟨Az, AD⟩ := xqe c4
 (try (have AE : Ap.toList.isEmpty = true := by simpa using c4))
 clear c4
 (first | rw [Az] | (simp only [an, au]; rw [Az]) | (rw [AE]; (try simp only [Bool.not_false, Bool.not_true])) | (rw [AZ]; (try simp only [Bool.not_false, Bool.not_true])) | rw [AD] | skip)
 replace H := xa H
 have Bw := cA HI0.out.1
 go_wp2
 go_meet
 case rel => exact ⟨_, (!Aq), xrr, H, ⟨xom⟩, ⟨am⟩, ⟨xk⟩, ⟨aj⟩⟩
 }
 obtain ⟨Az, AD⟩ := xqn c4
 (try (have AE : Ap.toList.isEmpty = false := by simpa using c4))
 (first | rw [Az] | (simp only [an, au]; rw [Az]) | (rw [AE]; (try simp only [Bool.not_false, Bool.not_true])) | (rw [AZ]; (try simp only [Bool.not_false, Bool.not_true])) | rw [AD] | skip)
 replace H := xa H
 have Bx := cA HI0.out.1
 go_wp2
 go_meet
 case rel => exact ⟨_, (false), xrr, H, ⟨xom⟩, ⟨am⟩, ⟨xk⟩, ⟨aj⟩⟩
 )
 case rest => (
 clear AY
 obtain ⟨kq, Ay, rfl, HA, HJ1, HI0, HK, HB⟩ := hcut
 cases kq with
 | zero => exact absurd HA.out (by simp [bs])
 | succ kj1 => (
 have H := HA.out
 clear HA
 simp only [bs] at H
 have A0 := Zz.mk H
 clear H
 go_upto_if 21 with (fail)
 go_cut [] (fun wc => ∃ kq Ab Ac Ad Ae Af Ag Ah Ai Aj Ak Al, Zz (bf kq Am Ab Ac Ad Ae Af Ag Ah Ai Aj Ak Al = some (r1, r2, r3, r4, r5, r6, r7, r8, r9, r10, r11, r12)) ∧ Zz (kq ≤ kj1) ∧ Zz (IsS68 w0 wc g Ab Ac Ad Ae Af Ag Ah Ai Aj Ak Al) ∧ Zz (KeepBut w wc g none) ∧ Zz (Below w0.heap.size w0 wc))
 case first => (
 have H := A0.out
 clear A0
 refine xib H ?_ ?_ <;> clear H <;> rintro rfl H
 {
 replace H := xbd H
 obtain ⟨⟨Bg, AA, AB, AH, AI, AJ, AK, AL, AM, AN, AO, AP⟩, A9, H⟩ := H
 try dsimp only at H
 refine xid H ?_ ?_ <;> clear H <;> intro c10 H
 {
 have Ao := xdt c10
 clear c10
 (first | rw [Ao] | (simp only [an, au]; rw [Ao]) | (rw [AQ]; (try simp only [Bool.not_false, Bool.not_true])) | (rw [AR]; (try simp only [Bool.not_false, Bool.not_true])) | rw [AS] | skip)
 refine xin H ?_; clear H; intro c11 H
 have A3 := xdt c11
 clear c11
 refine xid H ?_ ?_ <;> clear H <;> intro c13 H
 {
 obtain ⟨AT, AU⟩ := xqe c13
 clear c13
 simp only [Option.some.injEq, Prod.mk.injEq] at H
 obtain ⟨rfl, rfl, rfl, rfl, rfl, rfl, rfl, rfl, rfl, rfl, rfl, rfl⟩ := H
 try go_wp2_with (first | ((with_reducible refine xgc (f := 53) rfl ?_); refine xca 23 Tryd.func53 (bo (w := _) (hI := am) (hB := aj) (h := A9.out)) ?_; rintro w14 ⟨hi, hb, hk⟩; replace HK := Zz.mk (KeepBut.trans xk hk (.inl rfl)); replace HB := Zz.mk (hb); replace HI0 := Zz.mk (hi); (try clear hb)))
 replace HI0 := Zz.mk (IsS68.drew HI0.out)
 replace HK := Zz.mk (cp HK.out)
 replace HB := Zz.mk (aw HB.out)
 obtain ⟨p12, q12, hx12⟩ := xiv AA AB xod xod
 refine xsr 22 [] (dG HI0.out.1) (fun hHeld => ?_)
 generalize w14.drew = w15 at HI0 HK HB hHeld ⊢
 refine xpu 0 24 ?_
 refine xpu 1 25 ?_
 refine xpu 2 26 ?_
 refine xpu 4 28 ?_
 refine xpu 5 29 ?_
 refine xpu 6 30 ?_
 refine xtk 3 27 ?_
 refine xtk 7 31 ?_
 refine xpu 8 32 ?_
 refine xpu 9 33 ?_
 refine xpu 10 34 ?_
 refine xpu 11 35 ?_
 refine xpu 12 36 ?_
 refine xpu 13 37 ?_
 refine xpu 15 39 ?_
 refine xpu 16 40 ?_
 refine xpu 17 41 ?_
 refine xtk 14 38 ?_
 refine xtk 18 42 ?_
 refine xtk 19 43 ?_
 refine xpu 20 44 ?_
 refine xpu 21 45 ?_
 refine xdn ?_
 try go_wp2
 go_ret
 exact ⟨xre, am, aj, xk⟩
 }
 obtain ⟨AT, AU⟩ := xqn c13
 replace H := xa H
 try go_wp2_with (first | ((with_reducible refine xgc (f := 53) rfl ?_); refine xca 23 Tryd.func53 (bo (w := _) (hI := am) (hB := aj) (h := A9.out)) ?_; rintro w16 ⟨hi, hb, hk⟩; replace HK := Zz.mk (KeepBut.trans xk hk (.inl rfl)); replace HB := Zz.mk (hb); replace HI0 := Zz.mk (hi); (try clear hb)))
 replace HI0 := Zz.mk (IsS68.drew HI0.out)
 replace HK := Zz.mk (cp HK.out)
 replace HB := Zz.mk (aw HB.out)
 obtain ⟨p12, q12, hx12⟩ := xiv AA AB xod xod
 refine xsr 22 [] (dG HI0.out.1) (fun hHeld => ?_)
 generalize w16.drew = w17 at HI0 HK HB hHeld ⊢
 refine xpu 0 24 ?_
 refine xpu 1 25 ?_
 refine xpu 2 26 ?_
 refine xpu 4 28 ?_
 refine xpu 5 29 ?_
 refine xpu 6 30 ?_
 refine xtk 3 27 ?_
 refine xtk 7 31 ?_
 refine xpu 8 32 ?_
 refine xpu 9 33 ?_
 refine xpu 10 34 ?_
 refine xpu 11 35 ?_
 refine xpu 12 36 ?_
 refine xpu 13 37 ?_
 refine xpu 15 39 ?_
 refine xpu 16 40 ?_
 refine xpu 17 41 ?_
 refine xtk 14 38 ?_
 refine xtk 18 42 ?_
 refine xtk 19 43 ?_
 refine xpu 20 44 ?_
 refine xpu 21 45 ?_
 refine xdn ?_
 try go_wp2
 go_meet
 case rel => exact ⟨_, (AA), (AB), (AH), (AI), (AJ), (AK), (AL), (AM), (AN), (AO), (AP), H, ⟨xoj HJ1⟩, ⟨am⟩, ⟨xk⟩, ⟨aj⟩⟩
 }
 have Ao := xdf c10
 clear c10
 (first | rw [Ao] | (simp only [an, au]; rw [Ao]) | (rw [AQ]; (try simp only [Bool.not_false, Bool.not_true])) | (rw [AR]; (try simp only [Bool.not_false, Bool.not_true])) | rw [AS] | skip)
 replace H := xa H
 try go_wp2_with (first | ((with_reducible refine xgc (f := 53) rfl ?_); refine xca 23 Tryd.func53 (bo (w := _) (hI := am) (hB := aj) (h := A9.out)) ?_; rintro w18 ⟨hi, hb, hk⟩; replace HK := Zz.mk (KeepBut.trans xk hk (.inl rfl)); replace HB := Zz.mk (hb); replace HI0 := Zz.mk (hi); (try clear hb)))
 replace HI0 := Zz.mk (IsS68.drew HI0.out)
 replace HK := Zz.mk (cp HK.out)
 replace HB := Zz.mk (aw HB.out)
 refine xsr 22 [] (dG HI0.out.1) (fun hHeld => ?_)
 generalize w18.drew = w19 at HI0 HK HB hHeld ⊢
 refine xpu 0 24 ?_
 refine xpu 1 25 ?_
 refine xpu 2 26 ?_
 refine xpu 4 28 ?_
 refine xpu 5 29 ?_
 refine xpu 6 30 ?_
 refine xtk 3 27 ?_
 refine xtk 7 31 ?_
 refine xpu 8 32 ?_
 refine xpu 9 33 ?_
 refine xpu 10 34 ?_
 refine xpo 11 35 ?_
 refine xpo 12 36 ?_
 refine xpo 13 37 ?_
 refine xpo 14 38 ?_
 refine xpo 15 39 ?_
 refine xpo 16 40 ?_
 refine xpo 17 41 ?_
 refine xpo 18 42 ?_
 refine xpo 19 43 ?_
 refine xpo 20 44 ?_
 refine xpu 21 45 ?_
 refine xdn ?_
 try go_wp2
 go_meet
 case rel => exact ⟨_, (AA), (AB), (AH), (AI), (AJ), (AK), (AL), (AM), (AN), (AO), (AP), H, ⟨xoj HJ1⟩, ⟨am⟩, ⟨xk⟩, ⟨aj⟩⟩
 }
 replace H := xa H
 go_wp2
 go_meet
 case rel => exact ⟨_, (Ar), (Am), (As), (Ap), (Aq), (At), (Au), (Av), (Aw), (Ax), (An), H, ⟨xoj HJ1⟩, ⟨am⟩, ⟨xk⟩, ⟨aj⟩⟩
 )
 case rest => (
 clear A0
 obtain ⟨kq, Ab, Ac, Ad, Ae, Af, Ag, Ah, Ai, Aj, Ak, Al, HA, HJ6, HI0, HK, HB⟩ := hcut
 cases kq with
 | zero => exact absurd HA.out (by simp [bf])
 | succ kj6 => (
 have H := HA.out
 clear HA
 simp only [bf] at H
 replace H := xbd H
 obtain ⟨⟨Bh, A1, A2, Bi, Bj, Bk, Bl, AF, Bm, Bn, Bo, Bp⟩, A20, H⟩ := H
 try dsimp only at H
 refine xin H ?_; clear H; intro c21 H
 obtain ⟨A4, A5⟩ := xcp c21
 clear c21
 refine xin H ?_; clear H; intro c22 H
 obtain ⟨A6, A7⟩ := xcp c22
 clear c22
 refine xin H ?_; clear H; intro c23 H
 obtain ⟨A8, Ba⟩ := xcp c23
 clear c23
 obtain ⟨AC, Aa⟩ : ∃ j_ : ByteArray, (A1.extract (Am : Int).toNat (A2 : Int).toNat) = j_ := ⟨_, rfl⟩
 try (have AG := Aa; simp only [Int.toNat_natCast] at AG)
 first | rw [Aa] at H | simp only [Aa] at H | skip
 (try rw [Aa] at A20)
 refine xib H ?_ ?_ <;> clear H <;> rintro rfl H
 {
 refine xid H ?_ ?_ <;> clear H <;> intro c26 H
 {
 obtain ⟨AV, AW⟩ := xqe c26
 (try (have AX : (AC).toList.isEmpty = true := by simpa using c26))
 clear c26
 simp only [Option.some.injEq, Prod.mk.injEq] at H
 obtain ⟨rfl, rfl, rfl, rfl, rfl, rfl, rfl, rfl, rfl, rfl, rfl, rfl⟩ := H
 try go_wp2_with (first | ((with_reducible refine xgc (f := 53) rfl ?_); refine xca 47 Tryd.func53 (bo (w := _) (hI := am) (hB := aj) (h := A20.out)) ?_; rintro w27 ⟨hi, hb, hk⟩; replace HK := Zz.mk (KeepBut.trans xk hk (.inl rfl)); replace HB := Zz.mk (hb); replace HI0 := Zz.mk (hi); (try clear hb)))
 replace HI0 := Zz.mk (IsS68.drew HI0.out)
 replace HK := Zz.mk (cp HK.out)
 replace HB := Zz.mk (aw HB.out)
 refine xsr 15 [14] (dG HI0.out.1) (fun hHeld => ?_)
 generalize w27.drew = w28 at HI0 HK HB hHeld ⊢
 refine xpu 0 48 ?_
 refine xpu 1 49 ?_
 refine xpu 2 50 ?_
 refine xpu 3 51 ?_
 refine xpu 5 53 ?_
 refine xpu 6 54 ?_
 refine xpu 7 55 ?_
 refine xpu 8 56 ?_
 refine xtk 4 52 ?_
 refine xtk 9 57 ?_
 refine xpu 10 58 ?_
 refine xpu 11 59 ?_
 refine xpu 12 60 ?_
 refine xpu 13 61 ?_
 have hs29 : w28.cell? ⟨g, 6, none⟩ = some (.string AF) := (ab HI0.out.1 6).trans rfl
 have Bb := b6 HI0.out.1 6
 refine xls 14 ?_
 refine xdn ?_
 have Bq := cA HI0.out.1
 try go_wp2
 go_ret
 exact ⟨by first | exact xrd | (simp only [← Aa]; exact xrd) | exact xre, am, aj, xk⟩
 }
 obtain ⟨AV, AW⟩ := xqn c26
 (try (have AX : (AC).toList.isEmpty = false := by simpa using c26))
 refine xin H ?_; clear H; intro c31 H
 have Bc := xdt c31
 have Bd : decide (0 < (AC).size) = true := decide_eq_true (by omega)
 clear c31
 simp only [Option.some.injEq, Prod.mk.injEq] at H
 obtain ⟨rfl, rfl, rfl, rfl, rfl, rfl, rfl, rfl, rfl, rfl, rfl, rfl⟩ := H
 try go_wp2_with (first | ((with_reducible refine xgc (f := 53) rfl ?_); refine xca 47 Tryd.func53 (bo (w := _) (hI := am) (hB := aj) (h := A20.out)) ?_; rintro w33 ⟨hi, hb, hk⟩; replace HK := Zz.mk (KeepBut.trans xk hk (.inl rfl)); replace HB := Zz.mk (hb); replace HI0 := Zz.mk (hi); (try clear hb)))
 replace HI0 := Zz.mk (IsS68.drew HI0.out)
 replace HK := Zz.mk (cp HK.out)
 replace HB := Zz.mk (aw HB.out)
 refine xsr 15 [14] (dG HI0.out.1) (fun hHeld => ?_)
 generalize w33.drew = w34 at HI0 HK HB hHeld ⊢
 refine xpu 0 48 ?_
 refine xpu 1 49 ?_
 refine xpu 2 50 ?_
 refine xpu 3 51 ?_
 refine xpu 5 53 ?_
 refine xpu 6 54 ?_
 refine xpu 7 55 ?_
 refine xpu 8 56 ?_
 refine xtk 4 52 ?_
 refine xtk 9 57 ?_
 refine xpu 10 58 ?_
 refine xpu 11 59 ?_
 refine xpu 12 60 ?_
 refine xpu 13 61 ?_
 have hs35 : w34.cell? ⟨g, 6, none⟩ = some (.string AF) := (ab HI0.out.1 6).trans rfl
 have Be := b6 HI0.out.1 6
 refine xls 14 ?_
 refine xdn ?_
 have Br := cA HI0.out.1
 obtain ⟨q32, Bs, hx32⟩ := xi0 AC xod
 try go_wp2
 go_ret
 exact ⟨by first | exact xrd | (simp only [← Aa]; exact xrd) | exact xre, am, aj, xk⟩
 }
 replace H := xbd H
 obtain ⟨Bt, A37, H⟩ := H
 try dsimp only at H
 simp only [Option.some.injEq, Prod.mk.injEq] at H
 obtain ⟨rfl, rfl, rfl, rfl, rfl, rfl, rfl, rfl, rfl, rfl, rfl, rfl⟩ := H
 try go_wp2_with (first | ((with_reducible refine xgc (f := 53) rfl ?_); refine xca 47 Tryd.func53 (bo (w := _) (hI := am) (hB := aj) (h := A20.out)) ?_; rintro w38 ⟨hi, hb, hk⟩; replace HK := Zz.mk (KeepBut.trans xk hk (.inl rfl)); replace HB := Zz.mk (hb); replace HI0 := Zz.mk (hi); (try clear hb)))
 replace HI0 := Zz.mk (IsS68.drew HI0.out)
 replace HK := Zz.mk (cp HK.out)
 replace HB := Zz.mk (aw HB.out)
 refine xsr 15 [14] (dG HI0.out.1) (fun hHeld => ?_)
 generalize w38.drew = w39 at HI0 HK HB hHeld ⊢
 refine xpu 0 48 ?_
 refine xpu 1 49 ?_
 refine xpu 2 50 ?_
 refine xpu 3 51 ?_
 refine xpu 5 53 ?_
 refine xpu 6 54 ?_
 refine xpu 7 55 ?_
 refine xpu 8 56 ?_
 refine xtk 4 52 ?_
 refine xtk 9 57 ?_
 refine xpu 10 58 ?_
 refine xpu 11 59 ?_
 refine xpu 12 60 ?_
 refine xpu 13 61 ?_
 have hs40 : w39.cell? ⟨g, 6, none⟩ = some (.string AF) := (ab HI0.out.1 6).trans rfl
 have Bf := b6 HI0.out.1 6
 refine xls 14 ?_
 refine xdn ?_
 have Bu := cA HI0.out.1
 try go_wp2_with (first | ((with_reducible refine xgc (f := 54) rfl ?_); refine xca 87 Tryd.func54 (ak (w := _) (h := A37.out)) ?_ (hargs := by (try simp only [xm1, xm2, xm3]); first | done | (simp only [Aa]; rfl) | rfl); rintro w' ⟨nd, rfl⟩))
 go_ret
 exact ⟨by first | exact xrd | (simp only [← Aa]; exact xrd) | exact xre, am, aj, xk⟩
 )
 )
 )
 )
end Go.Proofs.YtojdiklegmhakaaDoor.X
