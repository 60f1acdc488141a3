/- Texts that the law's proof needs, joined by a program of this session. -/
import Derived.Test.YtpmflpeckoeooaaGreatDoorZSyntaxParses1
import Derived.Test.YtpmflpeckoeooaaGreatDoorZSyntaxParses2
set_option maxHeartbeats 8000000
set_option maxRecDepth 100000
set_option linter.unusedSimpArgs false
set_option linter.unusedVariables false
namespace Go.Proofs.YtpmflpeckoeooaaGreatDoor.X
open Go.RowKit Go.Proofs.YtpmflpeckoeooaaGreatDoorW.PrintWords Go.Proofs.YtpmflpeckoeooaaGreatDoorW.PrintLast Go.Proofs.YtpmflpeckoeooaaGreatDoorW.PrintMore
attribute [local go_sem] ez ea gJ iY dq ir cv ia ic iU iV gz gA ib ie
def ew : Nat → ByteArray → Int → ByteArray → Bool → Option (ByteArray × ByteArray)
  | 0, _, _, _, _ => none
  | k + 1, x0, x4, x5, x23 => if x23 = true then (if 0 ≤ (wrap64 (x4 + 1)) then (if (wrap64 (x4 + 1)) ≤ (x0.size : Int) then (some (x0.extract 0 ((wrap64 (x4 + 1)) : Int).toNat, x5)) else (none)) else (none)) else (some (x0, (⟨#[]⟩ : ByteArray)))
def gt (k : Nat) (a0 : ByteArray) : Option (ByteArray × ByteArray) := (cM a0 (⟨#[91]⟩ : ByteArray)).bind fun Ad => (if Ad = true then ((dv a0 93).bind fun Aa => (if Aa ≥ 0 then (if 0 ≤ (wrap64 (Aa + 1)) then (if (wrap64 (Aa + 1)) ≤ (a0.size : Int) then (if (a0.extract ((wrap64 (Aa + 1)) : Int).toNat a0.size).toList = ([] : List UInt8) then (ew k a0 Aa (a0.extract ((wrap64 (Aa + 1)) : Int).toNat a0.size) true) else (if 0 < ((a0.extract ((wrap64 (Aa + 1)) : Int).toNat a0.size).size : Int) then (ew k a0 Aa (a0.extract ((wrap64 (Aa + 1)) : Int).toNat a0.size) ((bt (a0.extract ((wrap64 (Aa + 1)) : Int).toNat a0.size) 0) == 58)) else (none))) else (none)) else (none)) else ((dv a0 58).bind fun Ab => (if Ab ≥ 0 then (if 0 ≤ Ab then (if Ab ≤ (a0.size : Int) then (some (a0.extract 0 (Ab : Int).toNat, a0.extract (Ab : Int).toNat a0.size)) else (none)) else (none)) else (some (a0, (⟨#[]⟩ : ByteArray))))))) else ((dv a0 58).bind fun Ac => (if Ac ≥ 0 then (if 0 ≤ Ac then (if Ac ≤ (a0.size : Int) then (some (a0.extract 0 (Ac : Int).toNat, a0.extract (Ac : Int).toNat a0.size)) else (none)) else (none)) else (some (a0, (⟨#[]⟩ : ByteArray))))))
theorem mr : ∀ k, (∀ y0 y1 y2 y3, LeO (ew k y0 y1 y2 y3) (ew (k + 1) y0 y1 y2 y3))
  | 0 => fun _ _ _ _ r h => by simp [ew] at h
  | k + 1 => by
    have ih0 := mr k
    · intro y0 y1 y2 y3
      unfold ew
      exact xmo
theorem pY : ∀ a0 k, LeO (gt k a0) (gt (k + 1) a0) := by
  intro a0 k
  have ih0 := mr k
  unfold gt
  exact xmo
theorem ju (k : Nat) (a0 : ByteArray) (r1 : ByteArray) (r2 : ByteArray) (w : World) (h : gt k a0 = some (r1, r2)) :
    Calls Tryz.prog 76 #[.string a0] w fun e w' => e = .returned (.tuple #[.string r1, .string r2]) ∧ Drawn0 w w' := by
 have H := h
 clear h
 unfold gt at H
 replace H := xbd H
 obtain ⟨AV, A2, H⟩ := H
 try dsimp only at H
 refine xib H ?_ ?_ <;> clear H <;> rintro rfl H
 {
 replace H := xbd H
 obtain ⟨Ak, A4, H⟩ := H
 try dsimp only at H
 refine xid H ?_ ?_ <;> clear H <;> intro c5 H
 {
 have At := xdt c5
 clear c5
 obtain ⟨Ax, Ac⟩ : ∃ j_ : Int, (wrap64 (Ak + 1)) = j_ := ⟨_, rfl⟩
 first | rw [Ac] at H | simp only [Ac] at H | skip
 (try rw [Ac] at A2)
 (try rw [Ac] at A4)
 have AC : (IntKind.i64.wrap (Ak + 1)) = Ax := (ag _).trans Ac
 refine xin H ?_; clear H; intro c7 H
 obtain ⟨Ay, Az⟩ := xcp c7
 clear c7
 refine xin H ?_; clear H; intro c8 H
 obtain ⟨AA, AB⟩ := xcp c8
 clear c8
 obtain ⟨As, Ag⟩ : ∃ j_ : ByteArray, (a0.extract ((Ax) : Int).toNat a0.size) = j_ := ⟨_, rfl⟩
 first | rw [Ag] at H | simp only [Ag] at H | skip
 (try rw [Ag] at A2)
 (try rw [Ag] at A4)
 have An := Zz.mk H
 clear H
 go_enter Tryz.func76, Tryz.ntmps76
 go_upto_region 5 with (first | (go_at_call 25; (with_reducible refine (av (w := _) (h := A2.out)).mono ?_); rintro e w' ⟨rfl, ⟨nd, rfl⟩⟩; (try exact xdd)) | (go_at_call 69; (with_reducible refine (aD (w := _) (h := A4.out)).mono ?_); rintro e w' ⟨rfl, ⟨nd, rfl⟩⟩; (try exact xdd)))
 repeat (go_quiet (first | (go_at_call 25; (with_reducible refine (av (w := _) (h := A2.out)).mono ?_); rintro e w' ⟨rfl, ⟨nd, rfl⟩⟩; (try exact xdd)) | (go_at_call 69; (with_reducible refine (aD (w := _) (h := A4.out)).mono ?_); rintro e w' ⟨rfl, ⟨nd, rfl⟩⟩; (try exact xdd))); go_upto_region 5 with (first | (go_at_call 25; (with_reducible refine (av a0 (⟨#[91]⟩ : ByteArray) true _ A2.out).mono ?_); rintro e w' ⟨rfl, ⟨nd, rfl⟩⟩; (try exact xdd)) | (go_at_call 69; (with_reducible refine (aD a0 93 Ak _ A4.out).mono ?_); rintro e w' ⟨rfl, ⟨nd, rfl⟩⟩; (try exact xdd))))
 (try simp only [Act.put, xl1, xl2, xl3])
 go_cut [23] (fun v23 wc => ∃ kq Ah, v23 = .bool Ah ∧ Zz (ew kq a0 Ak As Ah = some (r1, r2)) ∧ Zz (kq ≤ k) ∧ Drawn0 w wc)
 case first => (
 have H := An.out
 clear An
 refine xid H ?_ ?_ <;> clear H <;> intro c11 H
 {
 obtain ⟨Af, Au⟩ := xqe c11
 (try (have Ai : (As).toList.isEmpty = true := by simpa using c11))
 clear c11
 (first | rw [Af] | (simp only [ag, ak]; rw [Af]) | (rw [Ai]; (try simp only [Bool.not_false, Bool.not_true])) | skip)
 replace H := xa H
 go_wp2
 repeat (go_quiet (fail); try go_wp2)
 go_meet
 case rel => exact ⟨_, (true), xrr, H, ⟨xom⟩, xdr⟩
 }
 obtain ⟨Af, Au⟩ := xqn c11
 (try (have Ai : (As).toList.isEmpty = false := by simpa using c11))
 (first | rw [Af] | (simp only [ag, ak]; rw [Af]) | (rw [Ai]; (try simp only [Bool.not_false, Bool.not_true])) | skip)
 refine xin H ?_; clear H; intro c12 H
 have AD := xdt c12
 have AE : decide (0 < (As).size) = true := decide_eq_true (by omega)
 clear c12
 replace H := xa H
 obtain ⟨q13, AW, hx13⟩ := xi0 As xod
 go_wp2
 repeat (go_quiet (fail); try go_wp2)
 go_meet
 case rel => exact ⟨_, (((bt (As) 0) == 58)), (by first | exact xrs | (simp only [← Ag] <;> (first | rfl | simp)) | exact xrr), H, ⟨xom⟩, xdr⟩
 )
 case rest => (
 clear An
 clear At Ay Az AA AB
 obtain ⟨kq, Ah, rfl, HA, HJ9, ⟨mc9, rfl⟩⟩ := hcut
 cases kq with
 | zero => exact absurd HA.out (by simp [ew])
 | succ kj9 => (
 have H := HA.out
 clear HA
 simp only [ew] at H
 refine xib H ?_ ?_ <;> clear H <;> rintro rfl H
 {
 first | rw [Ac] at H | simp only [Ac] at H | skip
 refine xin H ?_; clear H; intro c15 H
 obtain ⟨AF, AG⟩ := xcp c15
 clear c15
 refine xin H ?_; clear H; intro c16 H
 obtain ⟨AH, AI⟩ := xcp c16
 clear c16
 obtain ⟨AX, Aj⟩ : ∃ j_ : ByteArray, (a0.extract 0 ((Ax) : Int).toNat) = j_ := ⟨_, rfl⟩
 first | rw [Aj] at H | simp only [Aj] at H | skip
 simp only [Option.some.injEq, Prod.mk.injEq] at H
 obtain ⟨rfl, rfl⟩ := H
 go_wp2
 repeat (go_quiet (fail); try go_wp2)
 go_ret2
 exact ⟨by first | exact xrs | (simp only [← Ac, ← Ag, ← Ac, ← Aj] <;> (first | rfl | simp)) | exact xrr, xdr⟩
 }
 simp only [Option.some.injEq, Prod.mk.injEq] at H
 obtain ⟨rfl, rfl⟩ := H
 go_wp2
 repeat (go_quiet (fail); try go_wp2)
 go_ret2
 exact ⟨by first | exact xrs | (simp only [← Ac, ← Ag] <;> (first | rfl | simp)) | exact xrr, xdr⟩
 )
 )
 }
 have At := xdf c5
 clear c5
 replace H := xbd H
 obtain ⟨Al, A18, H⟩ := H
 try dsimp only at H
 refine xid H ?_ ?_ <;> clear H <;> intro c19 H
 {
 have Av := xdt c19
 clear c19
 refine xin H ?_; clear H; intro c20 H
 obtain ⟨AJ, AK⟩ := xcp c20
 clear c20
 refine xin H ?_; clear H; intro c21 H
 obtain ⟨AL, AM⟩ := xcp c21
 clear c21
 obtain ⟨AY, Aa⟩ : ∃ j_ : ByteArray, (a0.extract 0 (Al : Int).toNat) = j_ := ⟨_, rfl⟩
 try (have Ao := Aa; simp only [Int.toNat_natCast] at Ao)
 first | rw [Aa] at H | simp only [Aa] at H | skip
 (try rw [Aa] at A2)
 (try rw [Aa] at A4)
 (try rw [Aa] at A18)
 have AN := eq_true (xod : 0 ≤ Al)
 have AO := eq_true (xod : Al ≤ (a0.size : Int))
 obtain ⟨AZ, Ab⟩ : ∃ j_ : ByteArray, (a0.extract (Al : Int).toNat a0.size) = j_ := ⟨_, rfl⟩
 try (have Ap := Ab; simp only [Int.toNat_natCast] at Ap)
 first | rw [Ab] at H | simp only [Ab] at H | skip
 (try rw [Ab] at A2)
 (try rw [Ab] at A4)
 (try rw [Ab] at A18)
 simp only [Option.some.injEq, Prod.mk.injEq] at H
 obtain ⟨rfl, rfl⟩ := H
 go_enter Tryz.func76, Tryz.ntmps76
 go_wp2_with (first | (go_at_call 25; (with_reducible refine (av (w := _) (h := A2.out)).mono ?_); rintro e w' ⟨rfl, ⟨nd, rfl⟩⟩; (try exact xdd)) | (go_at_call 69; (with_reducible refine (aD (w := _) (h := A4.out)).mono ?_); rintro e w' ⟨rfl, ⟨nd, rfl⟩⟩; (try exact xdd)) | (go_at_call 69; (with_reducible refine (aD (w := _) (h := A18.out)).mono ?_); rintro e w' ⟨rfl, ⟨nd, rfl⟩⟩; (try exact xdd)))
 repeat (go_quiet (first | (go_at_call 25; (with_reducible refine (av (w := _) (h := A2.out)).mono ?_); rintro e w' ⟨rfl, ⟨nd, rfl⟩⟩; (try exact xdd)) | (go_at_call 69; (with_reducible refine (aD (w := _) (h := A4.out)).mono ?_); rintro e w' ⟨rfl, ⟨nd, rfl⟩⟩; (try exact xdd)) | (go_at_call 69; (with_reducible refine (aD (w := _) (h := A18.out)).mono ?_); rintro e w' ⟨rfl, ⟨nd, rfl⟩⟩; (try exact xdd))); try go_wp2_with (first | (go_at_call 25; (with_reducible refine (av (w := _) (h := A2.out)).mono ?_); rintro e w' ⟨rfl, ⟨nd, rfl⟩⟩; (try exact xdd)) | (go_at_call 69; (with_reducible refine (aD (w := _) (h := A4.out)).mono ?_); rintro e w' ⟨rfl, ⟨nd, rfl⟩⟩; (try exact xdd)) | (go_at_call 69; (with_reducible refine (aD (w := _) (h := A18.out)).mono ?_); rintro e w' ⟨rfl, ⟨nd, rfl⟩⟩; (try exact xdd))))
 go_ret2
 exact ⟨by first | exact xrs | (simp only [← Aa, ← Ab] <;> (first | rfl | simp)) | exact xrr, xdr⟩
 }
 have Av := xdf c19
 clear c19
 simp only [Option.some.injEq, Prod.mk.injEq] at H
 obtain ⟨rfl, rfl⟩ := H
 go_enter Tryz.func76, Tryz.ntmps76
 go_wp2_with (first | (go_at_call 25; (with_reducible refine (av (w := _) (h := A2.out)).mono ?_); rintro e w' ⟨rfl, ⟨nd, rfl⟩⟩; (try exact xdd)) | (go_at_call 69; (with_reducible refine (aD (w := _) (h := A4.out)).mono ?_); rintro e w' ⟨rfl, ⟨nd, rfl⟩⟩; (try exact xdd)) | (go_at_call 69; (with_reducible refine (aD (w := _) (h := A18.out)).mono ?_); rintro e w' ⟨rfl, ⟨nd, rfl⟩⟩; (try exact xdd)))
 repeat (go_quiet (first | (go_at_call 25; (with_reducible refine (av (w := _) (h := A2.out)).mono ?_); rintro e w' ⟨rfl, ⟨nd, rfl⟩⟩; (try exact xdd)) | (go_at_call 69; (with_reducible refine (aD (w := _) (h := A4.out)).mono ?_); rintro e w' ⟨rfl, ⟨nd, rfl⟩⟩; (try exact xdd)) | (go_at_call 69; (with_reducible refine (aD (w := _) (h := A18.out)).mono ?_); rintro e w' ⟨rfl, ⟨nd, rfl⟩⟩; (try exact xdd))); try go_wp2_with (first | (go_at_call 25; (with_reducible refine (av (w := _) (h := A2.out)).mono ?_); rintro e w' ⟨rfl, ⟨nd, rfl⟩⟩; (try exact xdd)) | (go_at_call 69; (with_reducible refine (aD (w := _) (h := A4.out)).mono ?_); rintro e w' ⟨rfl, ⟨nd, rfl⟩⟩; (try exact xdd)) | (go_at_call 69; (with_reducible refine (aD (w := _) (h := A18.out)).mono ?_); rintro e w' ⟨rfl, ⟨nd, rfl⟩⟩; (try exact xdd))))
 go_ret2
 exact ⟨xrr, xdr⟩
 }
 replace H := xbd H
 obtain ⟨Am, A26, H⟩ := H
 try dsimp only at H
 refine xid H ?_ ?_ <;> clear H <;> intro c27 H
 {
 have Aw := xdt c27
 clear c27
 refine xin H ?_; clear H; intro c28 H
 obtain ⟨AP, AQ⟩ := xcp c28
 clear c28
 refine xin H ?_; clear H; intro c29 H
 obtain ⟨AR, AS⟩ := xcp c29
 clear c29
 obtain ⟨A0, Ad⟩ : ∃ j_ : ByteArray, (a0.extract 0 (Am : Int).toNat) = j_ := ⟨_, rfl⟩
 try (have Aq := Ad; simp only [Int.toNat_natCast] at Aq)
 first | rw [Ad] at H | simp only [Ad] at H | skip
 (try rw [Ad] at A2)
 (try rw [Ad] at A26)
 have AT := eq_true (xod : 0 ≤ Am)
 have AU := eq_true (xod : Am ≤ (a0.size : Int))
 obtain ⟨A1, Ae⟩ : ∃ j_ : ByteArray, (a0.extract (Am : Int).toNat a0.size) = j_ := ⟨_, rfl⟩
 try (have Ar := Ae; simp only [Int.toNat_natCast] at Ar)
 first | rw [Ae] at H | simp only [Ae] at H | skip
 (try rw [Ae] at A2)
 (try rw [Ae] at A26)
 simp only [Option.some.injEq, Prod.mk.injEq] at H
 obtain ⟨rfl, rfl⟩ := H
 go_enter Tryz.func76, Tryz.ntmps76
 go_wp2_with (first | (go_at_call 25; (with_reducible refine (av (w := _) (h := A2.out)).mono ?_); rintro e w' ⟨rfl, ⟨nd, rfl⟩⟩; (try exact xdd)) | (go_at_call 69; (with_reducible refine (aD (w := _) (h := A26.out)).mono ?_); rintro e w' ⟨rfl, ⟨nd, rfl⟩⟩; (try exact xdd)))
 repeat (go_quiet (first | (go_at_call 25; (with_reducible refine (av (w := _) (h := A2.out)).mono ?_); rintro e w' ⟨rfl, ⟨nd, rfl⟩⟩; (try exact xdd)) | (go_at_call 69; (with_reducible refine (aD (w := _) (h := A26.out)).mono ?_); rintro e w' ⟨rfl, ⟨nd, rfl⟩⟩; (try exact xdd))); try go_wp2_with (first | (go_at_call 25; (with_reducible refine (av (w := _) (h := A2.out)).mono ?_); rintro e w' ⟨rfl, ⟨nd, rfl⟩⟩; (try exact xdd)) | (go_at_call 69; (with_reducible refine (aD (w := _) (h := A26.out)).mono ?_); rintro e w' ⟨rfl, ⟨nd, rfl⟩⟩; (try exact xdd))))
 go_ret2
 exact ⟨by first | exact xrs | (simp only [← Ad, ← Ae] <;> (first | rfl | simp)) | exact xrr, xdr⟩
 }
 have Aw := xdf c27
 clear c27
 simp only [Option.some.injEq, Prod.mk.injEq] at H
 obtain ⟨rfl, rfl⟩ := H
 go_enter Tryz.func76, Tryz.ntmps76
 go_wp2_with (first | (go_at_call 25; (with_reducible refine (av (w := _) (h := A2.out)).mono ?_); rintro e w' ⟨rfl, ⟨nd, rfl⟩⟩; (try exact xdd)) | (go_at_call 69; (with_reducible refine (aD (w := _) (h := A26.out)).mono ?_); rintro e w' ⟨rfl, ⟨nd, rfl⟩⟩; (try exact xdd)))
 repeat (go_quiet (first | (go_at_call 25; (with_reducible refine (av (w := _) (h := A2.out)).mono ?_); rintro e w' ⟨rfl, ⟨nd, rfl⟩⟩; (try exact xdd)) | (go_at_call 69; (with_reducible refine (aD (w := _) (h := A26.out)).mono ?_); rintro e w' ⟨rfl, ⟨nd, rfl⟩⟩; (try exact xdd))); try go_wp2_with (first | (go_at_call 25; (with_reducible refine (av (w := _) (h := A2.out)).mono ?_); rintro e w' ⟨rfl, ⟨nd, rfl⟩⟩; (try exact xdd)) | (go_at_call 69; (with_reducible refine (aD (w := _) (h := A26.out)).mono ?_); rintro e w' ⟨rfl, ⟨nd, rfl⟩⟩; (try exact xdd))))
 go_ret2
 exact ⟨xrr, xdr⟩
def g8 (k : Nat) (a0 : ByteArray) : Option (Bool × ByteArray × ByteArray × Bool × ByteArray) := (cU k a0 64).bind fun Ac => (if Ac ≥ 0 then (if 0 ≤ Ac then (if Ac ≤ (a0.size : Int) then (if 0 ≤ (wrap64 (Ac + 1)) then (if (wrap64 (Ac + 1)) ≤ (a0.size : Int) then ((gt k (a0.extract ((wrap64 (Ac + 1)) : Int).toNat a0.size)).bind fun Aa => (if Aa.2.toList = ([] : List UInt8) then (some (true, a0.extract 0 (Ac : Int).toNat, Aa.1, false, (⟨#[]⟩ : ByteArray))) else (if 1 ≤ (Aa.2.size : Int) then (some (true, a0.extract 0 (Ac : Int).toNat, Aa.1, true, Aa.2.extract 1 Aa.2.size)) else (none)))) else (none)) else (none)) else (none)) else (none)) else ((gt k a0).bind fun Ab => (if Ab.2.toList = ([] : List UInt8) then (some (false, (⟨#[]⟩ : ByteArray), Ab.1, false, (⟨#[]⟩ : ByteArray))) else (if 1 ≤ (Ab.2.size : Int) then (some (false, (⟨#[]⟩ : ByteArray), Ab.1, true, Ab.2.extract 1 Ab.2.size)) else (none)))))
theorem pX : ∀ a0 k, LeO (g8 k a0) (g8 (k + 1) a0) := by
  intro a0 k
  have m0 := @pY; have m1 := @lz
  unfold g8
  exact xmo
theorem mP (k : Nat) (a0 : ByteArray) (r1 : Bool) (r2 : ByteArray) (r3 : ByteArray) (r4 : Bool) (r5 : ByteArray) (w : World) (h : g8 k a0 = some (r1, r2, r3, r4, r5)) :
    Calls Tryz.prog 62 #[.string a0] w fun e w' => e = .returned (.agg #[.bool r1, .string r2, .string r3, .bool r4, .string r5]) ∧ Below w.heap.size w w' := by
 have hu67 := Tryz.underlying67
 have HB := Zz.mk (Below.refl w.heap.size w)
 have H := h
 clear h
 unfold g8 at H
 replace H := xbd H
 obtain ⟨As, A2, H⟩ := H
 try dsimp only at H
 refine xid H ?_ ?_ <;> clear H <;> intro c3 H
 {
 have AI := xdt c3
 clear c3
 refine xin H ?_; clear H; intro c4 H
 obtain ⟨A8, A9⟩ := xcp c4
 clear c4
 refine xin H ?_; clear H; intro c5 H
 obtain ⟨Ba, Bb⟩ := xcp c5
 clear c5
 obtain ⟨Ar, Aj⟩ : ∃ j_ : ByteArray, (a0.extract 0 (As : Int).toNat) = j_ := ⟨_, rfl⟩
 try (have At := Aj; simp only [Int.toNat_natCast] at At)
 first | rw [Aj] at H | simp only [Aj] at H | skip
 (try rw [Aj] at A2)
 obtain ⟨AL, Ak⟩ : ∃ j_ : Int, (wrap64 (As + 1)) = j_ := ⟨_, rfl⟩
 first | rw [Ak] at H | simp only [Ak] at H | skip
 (try rw [Ak] at A2)
 have AM : (IntKind.i64.wrap (As + 1)) = AL := (ag _).trans Ak
 refine xin H ?_; clear H; intro c8 H
 obtain ⟨Bc, Bd⟩ := xcp c8
 clear c8
 refine xin H ?_; clear H; intro c9 H
 obtain ⟨Be, Bf⟩ := xcp c9
 clear c9
 obtain ⟨Bg, Ag⟩ : ∃ j_ : ByteArray, (a0.extract ((AL) : Int).toNat a0.size) = j_ := ⟨_, rfl⟩
 first | rw [Ag] at H | simp only [Ag] at H | skip
 (try rw [Ag] at A2)
 replace H := xbd H
 obtain ⟨⟨Al, Ap⟩, A11, H⟩ := H
 try dsimp only at H
 refine xid H ?_ ?_ <;> clear H <;> intro c12 H
 {
 obtain ⟨Au, Av⟩ := xqe c12
 (try (have Aw : Ap.toList.isEmpty = true := by simpa using c12))
 clear c12
 simp only [Option.some.injEq, Prod.mk.injEq] at H
 obtain ⟨rfl, rfl, rfl, rfl, rfl⟩ := H
 go_enter Tryz.func62, Tryz.ntmps62
 try go_wp2_with (first | ((with_reducible refine aj (N := 2) rfl ?_); refine xew 2 ?_; intro Af w13 Ab An hb hg; replace HB := xst hb; clear hb hg) | ((with_reducible refine aj (N := 3) rfl ?_); refine xew 3 ?_; intro Ae w14 Aa Ao hb hg; have Ac := xlt (g := Af) hg; have Ad := xgt (g := Af) hg; replace Ab := xbq Af hb; replace HB := xst hb; clear hb hg) | ((with_reducible refine xgc (f := 75) rfl ?_); refine xca 6 Tryz.func75 (e9 (w := _) (h := A2.out)) ?_; rintro w' ⟨nd, rfl⟩; (try (rw [aW w14]; generalize hq_ : World.drewN w14 _ = w14; have n0_ := xbr Af hq_; have n1_ := xbr Ae hq_; have n2_ : Zz (Below w.heap.size w w14) := ⟨by rw [← hq_]; exact xbl⟩; clear Ab Aa HB hq_; have Ab := n0_; have Aa := n1_; have HB := n2_; clear n0_ n1_ n2_))))
 replace Ab := Zz.mk (bc Ab.out)
 replace Aa := Zz.mk (bc Aa.out)
 replace HB := Zz.mk (aA HB.out)
 refine xsr 12 (S := fun _ => True) [] trivial (fun hHeld => ?_)
 generalize w14.drew = w15 at Ab Aa HB hHeld ⊢
 refine xpu 0 9 ?_
 refine xpu 1 10 ?_
 refine xpu 2 11 ?_
 refine xpu 3 12 ?_
 refine xpu 4 13 ?_
 refine xpu 5 14 ?_
 refine xpu 6 15 ?_
 refine xpu 7 16 ?_
 have hs16 : w15.cell? ⟨Ae, 0, none⟩ = some (.bool false) := (ao Aa.out 0).trans rfl
 have AN := xf Aa 0
 have AA := Ac.out
 have hms16_0 := Ad.out
 refine xos 8 ⟨trivial, fun hHeld => ?_⟩
 refine xpu 9 17 ?_
 have hs17 : w15.cell? ⟨Ae, 1, none⟩ = some (.string (⟨#[]⟩ : ByteArray)) := (ao Aa.out 1).trans rfl
 have AO := xf Aa 1
 have AB := Ac.out
 have hms17_0 := Ad.out
 refine xos 10 ⟨trivial, fun hHeld => ?_⟩
 refine xpu 11 0 ?_
 refine xdn ?_
 try go_wp2_with (first | ((with_reducible refine xgc (f := 76) rfl ?_); refine xca 20 Tryz.func76 (ju (w := _) (h := A11.out)) ?_ (hargs := by (try simp only [xm1, xm2, xm3]); first | done | (simp only [Ag]; rfl) | rfl); rintro w' ⟨nd, rfl⟩; have AP := Ad.out; have AQ := Ac.out; have Bh := xz5 Aa.out; have Bi := xz5 Ab.out))
 refine bodyPost_ret (results_cell_row rfl _ _ Af 67 #[.bool true, .string Ar, .string Al, .bool false, .string (⟨#[]⟩ : ByteArray)] (0, 0) _ rfl xbk Tryz.underlying67 rfl (by kernel_rfl)) rfl ?_
 exact ⟨by first | exact xrd | (simp only [← Aj, ← Ak, ← Ag]; exact xrd) | exact xre, xbl⟩
 }
 obtain ⟨Au, Av⟩ := xqn c12
 (try (have Aw : Ap.toList.isEmpty = false := by simpa using c12))
 refine xin H ?_; clear H; intro c21 H
 obtain ⟨AR, AS⟩ := xcp c21
 clear c21
 obtain ⟨AJ, Ah⟩ : ∃ j_ : ByteArray, (Ap.extract 1 Ap.size) = j_ := ⟨_, rfl⟩
 first | rw [Ah] at H | simp only [Ah] at H | skip
 (try rw [Ah] at A2)
 (try rw [Ah] at A11)
 simp only [Option.some.injEq, Prod.mk.injEq] at H
 obtain ⟨rfl, rfl, rfl, rfl, rfl⟩ := H
 go_enter Tryz.func62, Tryz.ntmps62
 try go_wp2_with (first | ((with_reducible refine aj (N := 2) rfl ?_); refine xew 2 ?_; intro Af w23 Ab An hb hg; replace HB := xst hb; clear hb hg) | ((with_reducible refine aj (N := 3) rfl ?_); refine xew 3 ?_; intro Ae w24 Aa Ao hb hg; have Ac := xlt (g := Af) hg; have Ad := xgt (g := Af) hg; replace Ab := xbq Af hb; replace HB := xst hb; clear hb hg) | ((with_reducible refine xgc (f := 75) rfl ?_); refine xca 6 Tryz.func75 (e9 (w := _) (h := A2.out)) ?_; rintro w' ⟨nd, rfl⟩; (try (rw [aW w24]; generalize hq_ : World.drewN w24 _ = w24; have n0_ := xbr Af hq_; have n1_ := xbr Ae hq_; have n2_ : Zz (Below w.heap.size w w24) := ⟨by rw [← hq_]; exact xbl⟩; clear Ab Aa HB hq_; have Ab := n0_; have Aa := n1_; have HB := n2_; clear n0_ n1_ n2_))))
 replace Ab := Zz.mk (bc Ab.out)
 replace Aa := Zz.mk (bc Aa.out)
 replace HB := Zz.mk (aA HB.out)
 refine xsr 12 (S := fun _ => True) [] trivial (fun hHeld => ?_)
 generalize w24.drew = w25 at Ab Aa HB hHeld ⊢
 refine xpu 0 9 ?_
 refine xpu 1 10 ?_
 refine xpu 2 11 ?_
 refine xpu 3 12 ?_
 refine xpu 4 13 ?_
 refine xpu 5 14 ?_
 refine xpu 6 15 ?_
 refine xpu 7 16 ?_
 have hs26 : w25.cell? ⟨Ae, 0, none⟩ = some (.bool false) := (ao Aa.out 0).trans rfl
 have AT := xf Aa 0
 have AC := Ac.out
 have hms26_0 := Ad.out
 refine xos 8 ⟨trivial, fun hHeld => ?_⟩
 refine xpu 9 17 ?_
 have hs27 : w25.cell? ⟨Ae, 1, none⟩ = some (.string (⟨#[]⟩ : ByteArray)) := (ao Aa.out 1).trans rfl
 have AU := xf Aa 1
 have AD := Ac.out
 have hms27_0 := Ad.out
 refine xos 10 ⟨trivial, fun hHeld => ?_⟩
 refine xpu 11 0 ?_
 refine xdn ?_
 try go_wp2_with (first | ((with_reducible refine xgc (f := 76) rfl ?_); refine xca 20 Tryz.func76 (ju (w := _) (h := A11.out)) ?_ (hargs := by (try simp only [xm1, xm2, xm3]); first | done | (simp only [Ag]; rfl) | rfl); rintro w' ⟨nd, rfl⟩; have AV := Ad.out; have AW := Ac.out; have Bj := xz5 Aa.out))
 have n0_ : Zz ((((w25.setCell ⟨Ae, 0, none⟩ (.bool true)).setCell ⟨Ae, 1, none⟩ (.string Ar)).setCell ⟨Ae, 2, none⟩ (.string Al)).heap[Af]? = some (.cells #[.bool false, .string (⟨#[]⟩ : ByteArray), .string (⟨#[]⟩ : ByteArray), .bool false, .string (⟨#[]⟩ : ByteArray)] 67 (0, 0))) := ⟨xbK⟩
 have n1_ : Zz ((((w25.setCell ⟨Ae, 0, none⟩ (.bool true)).setCell ⟨Ae, 1, none⟩ (.string Ar)).setCell ⟨Ae, 2, none⟩ (.string Al)).heap[Ae]? = some (.cells #[.bool true, .string Ar, .string Al, .bool false, .string (⟨#[]⟩ : ByteArray)] 67 (0, 0))) := ⟨xbK⟩
 have n2_ : Zz (Below w.heap.size w (((w25.setCell ⟨Ae, 0, none⟩ (.bool true)).setCell ⟨Ae, 1, none⟩ (.string Ar)).setCell ⟨Ae, 2, none⟩ (.string Al))) := ⟨xbl⟩
 (try clear Ab)
 (try clear Aa)
 (try clear HB)
 try simp only [Aj]
 try (have hx_ := Aj; simp only [Int.toNat_natCast] at hx_; simp only [hx_]; clear hx_)
 try simp only [Ak]
 try (have hx_ := Ak; simp only [Int.toNat_natCast] at hx_; simp only [hx_]; clear hx_)
 try simp only [Ag]
 try (have hx_ := Ag; simp only [Int.toNat_natCast] at hx_; simp only [hx_]; clear hx_)
 try simp only [Ah]
 try (have hx_ := Ah; simp only [Int.toNat_natCast] at hx_; simp only [hx_]; clear hx_)
 try simp only [show ∀ (w_ : World) (n_ : Nat) (a_ : Addr) (v_ : Value), (w_.drewN n_).setCell a_ v_ = (w_.setCell a_ v_).drewN n_ from fun _ _ _ _ => rfl]
 generalize (((w25.setCell ⟨Ae, 0, none⟩ (.bool true)).setCell ⟨Ae, 1, none⟩ (.string Ar)).setCell ⟨Ae, 2, none⟩ (.string Al)) = w30 at n0_ n1_ n2_ ⊢
 have Ab := n0_
 have Aa := n1_
 have HB := n2_
 clear n0_ n1_ n2_
 (try (rw [aW w30]; generalize hq_ : World.drewN w30 _ = w30; have n0_ : Zz (w30.heap[Af]? = some (.cells #[.bool false, .string (⟨#[]⟩ : ByteArray), .string (⟨#[]⟩ : ByteArray), .bool false, .string (⟨#[]⟩ : ByteArray)] 67 (0, 0))) := ⟨by rw [← hq_]; exact xbk⟩; have n1_ : Zz (w30.heap[Ae]? = some (.cells #[.bool true, .string Ar, .string Al, .bool false, .string (⟨#[]⟩ : ByteArray)] 67 (0, 0))) := ⟨by rw [← hq_]; exact xbk⟩; have n2_ : Zz (Below w.heap.size w w30) := ⟨by rw [← hq_]; exact xbl⟩; clear Ab Aa HB hq_; have Ab := n0_; have Aa := n1_; have HB := n2_; clear n0_ n1_ n2_))
 replace Ab := Zz.mk (bc Ab.out)
 replace Aa := Zz.mk (bc Aa.out)
 replace HB := Zz.mk (aA HB.out)
 refine io (n := 6) (S := fun w' => True) (ds := []) #[false, false, false, false, false, false] (by kernel_rfl) rfl rfl trivial (fun hHeld => ?_)
 generalize w30.drew = w31 at Ab Aa HB hHeld ⊢
 refine ct (i := 0) (N := some 26) (v := ?_) (a' := ?_) #[true, false, false, false, false, false] rfl rfl (by kernel_rfl) (fun _ _ _ h => h) (Or.inl ⟨by rfl, ?_⟩) ?_ ?_
 rotate_left
 {
 intro w'
 go_simp
 with_reducible rfl
 }
 rotate_left
 {
 simp only [Act.put, xl1, xl2, xl3, ag, ak]
 rfl
 }
 refine ct (i := 1) (N := some 27) (v := ?_) (a' := ?_) #[true, true, false, false, false, false] rfl rfl (by kernel_rfl) (fun _ _ _ h => h) (Or.inl ⟨by rfl, ?_⟩) ?_ ?_
 rotate_left
 {
 intro w'
 go_simp
 with_reducible rfl
 }
 rotate_left
 {
 simp only [Act.put, xl1, xl2, xl3, ag, ak]
 rfl
 }
 refine ct (i := 2) (N := some 28) (v := ?_) (a' := ?_) #[true, true, true, false, false, false] rfl rfl (by kernel_rfl) (fun _ _ _ h => h) (Or.inl ⟨by rfl, ?_⟩) ?_ ?_
 rotate_left
 {
 intro w'
 go_simp
 with_reducible rfl
 }
 rotate_left
 {
 simp only [Act.put, xl1, xl2, xl3, ag, ak]
 rfl
 }
 refine dm (i := 3) (N := none) #[true, true, true, true, false, false] rfl rfl (by kernel_rfl) (by decide) (fun K hK => ?_)
 have hs32 : w31.cell? ⟨Ae, 3, none⟩ = some (.bool false) := (ao Aa.out 3).trans rfl
 have AX := xf Aa 3
 have AE := Ac.out
 have hms32_0 := Ad.out
 refine lV (w1 := ?_) (by rfl) rfl ?_ ?_
 rotate_left
 {
 go_simp
 rfl
 }
 refine hK.out _ _ trivial (fun hHeld => ?_)
 clear hK K
 refine ct (i := 4) (N := some 29) (v := ?_) (a' := ?_) #[true, true, true, true, true, false] rfl rfl (by kernel_rfl) (fun _ _ _ h => h) (Or.inl ⟨by rfl, ?_⟩) ?_ ?_
 rotate_left
 {
 intro w'
 go_simp
 with_reducible rfl
 }
 rotate_left
 {
 simp only [Act.put, xl1, xl2, xl3, ag, ak]
 rfl
 }
 refine dm (i := 5) (N := none) #[true, true, true, true, true, true] rfl rfl (by kernel_rfl) (by decide) (fun K hK => ?_)
 have hs33 : w31.cell? ⟨Ae, 4, none⟩ = some (.string (⟨#[]⟩ : ByteArray)) := (ao Aa.out 4).trans rfl
 have AY := xf Aa 4
 have AF := Ac.out
 have hms33_0 := Ad.out
 refine lV (w1 := ?_) (by rfl) rfl ?_ ?_
 rotate_left
 {
 go_simp
 rfl
 }
 refine hK.out _ _ trivial (fun hHeld => ?_)
 clear hK K
 refine kA (by kernel_rfl) ?_
 have Bk := xz5 Aa.out
 have Bl := xz5 Ab.out
 try go_wp2
 refine bodyPost_ret (results_cell_row rfl _ _ Af 67 #[.bool true, .string Ar, .string Al, .bool true, .string AJ] (0, 0) _ rfl xbk Tryz.underlying67 rfl (by kernel_rfl)) rfl ?_
 exact ⟨by first | exact xrd | (simp only [← Aj, ← Ak, ← Ag, ← Ah]; exact xrd) | exact xre, xbl⟩
 }
 have AI := xdf c3
 clear c3
 replace H := xbd H
 obtain ⟨⟨Am, Aq⟩, A36, H⟩ := H
 try dsimp only at H
 refine xid H ?_ ?_ <;> clear H <;> intro c37 H
 {
 obtain ⟨Ax, Ay⟩ := xqe c37
 (try (have Az : Aq.toList.isEmpty = true := by simpa using c37))
 clear c37
 simp only [Option.some.injEq, Prod.mk.injEq] at H
 obtain ⟨rfl, rfl, rfl, rfl, rfl⟩ := H
 go_enter Tryz.func62, Tryz.ntmps62
 go_wp2_with (first | ((with_reducible refine aj (N := 2) rfl ?_); refine xew 2 ?_; intro Af w38 Ab An hb hg; replace HB := xst hb; clear hb hg) | ((with_reducible refine aj (N := 3) rfl ?_); refine xew 3 ?_; intro Ae w39 Aa Ao hb hg; have Ac := xlt (g := Af) hg; have Ad := xgt (g := Af) hg; replace Ab := xbq Af hb; replace HB := xst hb; clear hb hg) | ((with_reducible refine xgc (f := 75) rfl ?_); refine xca 6 Tryz.func75 (e9 (w := _) (h := A2.out)) ?_; rintro w' ⟨nd, rfl⟩; (try (rw [aW w39]; generalize hq_ : World.drewN w39 _ = w39; have n0_ := xbr Af hq_; have n1_ := xbr Ae hq_; have n2_ : Zz (Below w.heap.size w w39) := ⟨by rw [← hq_]; exact xbl⟩; clear Ab Aa HB hq_; have Ab := n0_; have Aa := n1_; have HB := n2_; clear n0_ n1_ n2_))) | ((with_reducible refine xgc (f := 76) rfl ?_); refine xca 20 Tryz.func76 (ju (w := _) (h := A36.out)) ?_; rintro w' ⟨nd, rfl⟩; (try (rw [aW w39]; generalize hq_ : World.drewN w39 _ = w39; have n0_ := xbr Af hq_; have n1_ := xbr Ae hq_; have n2_ : Zz (Below w.heap.size w w39) := ⟨by rw [← hq_]; exact xbl⟩; clear Ab Aa HB hq_; have Ab := n0_; have Aa := n1_; have HB := n2_; clear n0_ n1_ n2_)); have AZ := Ad.out; have A0 := Ac.out; have Bm := xz5 Aa.out; have Bn := xz5 Ab.out))
 refine bodyPost_ret (results_cell_row rfl _ _ Af 67 #[.bool false, .string (⟨#[]⟩ : ByteArray), .string Am, .bool false, .string (⟨#[]⟩ : ByteArray)] (0, 0) _ rfl xbk Tryz.underlying67 rfl (by kernel_rfl)) rfl ?_
 exact ⟨xre, xbl⟩
 }
 obtain ⟨Ax, Ay⟩ := xqn c37
 (try (have Az : Aq.toList.isEmpty = false := by simpa using c37))
 refine xin H ?_; clear H; intro c43 H
 obtain ⟨A1, A3⟩ := xcp c43
 clear c43
 obtain ⟨AK, Ai⟩ : ∃ j_ : ByteArray, (Aq.extract 1 Aq.size) = j_ := ⟨_, rfl⟩
 first | rw [Ai] at H | simp only [Ai] at H | skip
 (try rw [Ai] at A2)
 (try rw [Ai] at A36)
 simp only [Option.some.injEq, Prod.mk.injEq] at H
 obtain ⟨rfl, rfl, rfl, rfl, rfl⟩ := H
 go_enter Tryz.func62, Tryz.ntmps62
 try go_wp2_with (first | ((with_reducible refine aj (N := 2) rfl ?_); refine xew 2 ?_; intro Af w45 Ab An hb hg; replace HB := xst hb; clear hb hg) | ((with_reducible refine aj (N := 3) rfl ?_); refine xew 3 ?_; intro Ae w46 Aa Ao hb hg; have Ac := xlt (g := Af) hg; have Ad := xgt (g := Af) hg; replace Ab := xbq Af hb; replace HB := xst hb; clear hb hg) | ((with_reducible refine xgc (f := 75) rfl ?_); refine xca 6 Tryz.func75 (e9 (w := _) (h := A2.out)) ?_; rintro w' ⟨nd, rfl⟩; (try (rw [aW w46]; generalize hq_ : World.drewN w46 _ = w46; have n0_ := xbr Af hq_; have n1_ := xbr Ae hq_; have n2_ : Zz (Below w.heap.size w w46) := ⟨by rw [← hq_]; exact xbl⟩; clear Ab Aa HB hq_; have Ab := n0_; have Aa := n1_; have HB := n2_; clear n0_ n1_ n2_))) | ((with_reducible refine xgc (f := 76) rfl ?_); refine xca 20 Tryz.func76 (ju (w := _) (h := A36.out)) ?_; rintro w' ⟨nd, rfl⟩; (try (rw [aW w46]; generalize hq_ : World.drewN w46 _ = w46; have n0_ := xbr Af hq_; have n1_ := xbr Ae hq_; have n2_ : Zz (Below w.heap.size w w46) := ⟨by rw [← hq_]; exact xbl⟩; clear Ab Aa HB hq_; have Ab := n0_; have Aa := n1_; have HB := n2_; clear n0_ n1_ n2_)); have A4 := Ad.out; have A5 := Ac.out; have Bo := xz5 Aa.out))
 have n0_ : Zz ((w46.setCell ⟨Ae, 2, none⟩ (.string Am)).heap[Af]? = some (.cells #[.bool false, .string (⟨#[]⟩ : ByteArray), .string (⟨#[]⟩ : ByteArray), .bool false, .string (⟨#[]⟩ : ByteArray)] 67 (0, 0))) := ⟨xbK⟩
 have n1_ : Zz ((w46.setCell ⟨Ae, 2, none⟩ (.string Am)).heap[Ae]? = some (.cells #[.bool false, .string (⟨#[]⟩ : ByteArray), .string Am, .bool false, .string (⟨#[]⟩ : ByteArray)] 67 (0, 0))) := ⟨xbK⟩
 have n2_ : Zz (Below w.heap.size w (w46.setCell ⟨Ae, 2, none⟩ (.string Am))) := ⟨xbl⟩
 (try clear Ab)
 (try clear Aa)
 (try clear HB)
 try simp only [Ai]
 try (have hx_ := Ai; simp only [Int.toNat_natCast] at hx_; simp only [hx_]; clear hx_)
 try simp only [show ∀ (w_ : World) (n_ : Nat) (a_ : Addr) (v_ : Value), (w_.drewN n_).setCell a_ v_ = (w_.setCell a_ v_).drewN n_ from fun _ _ _ _ => rfl]
 generalize (w46.setCell ⟨Ae, 2, none⟩ (.string Am)) = w49 at n0_ n1_ n2_ ⊢
 have Ab := n0_
 have Aa := n1_
 have HB := n2_
 clear n0_ n1_ n2_
 replace Ab := Zz.mk (bc Ab.out)
 replace Aa := Zz.mk (bc Aa.out)
 replace HB := Zz.mk (aA HB.out)
 refine io (n := 6) (S := fun w' => True) (ds := []) #[false, false, false, false, false, false] (by kernel_rfl) rfl rfl trivial (fun hHeld => ?_)
 generalize w49.drew = w50 at Ab Aa HB hHeld ⊢
 refine ct (i := 0) (N := some 26) (v := ?_) (a' := ?_) #[true, false, false, false, false, false] rfl rfl (by kernel_rfl) (fun _ _ _ h => h) (Or.inl ⟨by rfl, ?_⟩) ?_ ?_
 rotate_left
 {
 intro w'
 go_simp
 with_reducible rfl
 }
 rotate_left
 {
 simp only [Act.put, xl1, xl2, xl3, ag, ak]
 rfl
 }
 refine ct (i := 1) (N := some 27) (v := ?_) (a' := ?_) #[true, true, false, false, false, false] rfl rfl (by kernel_rfl) (fun _ _ _ h => h) (Or.inl ⟨by rfl, ?_⟩) ?_ ?_
 rotate_left
 {
 intro w'
 go_simp
 with_reducible rfl
 }
 rotate_left
 {
 simp only [Act.put, xl1, xl2, xl3, ag, ak]
 rfl
 }
 refine ct (i := 2) (N := some 28) (v := ?_) (a' := ?_) #[true, true, true, false, false, false] rfl rfl (by kernel_rfl) (fun _ _ _ h => h) (Or.inl ⟨by rfl, ?_⟩) ?_ ?_
 rotate_left
 {
 intro w'
 go_simp
 with_reducible rfl
 }
 rotate_left
 {
 simp only [Act.put, xl1, xl2, xl3, ag, ak]
 rfl
 }
 refine dm (i := 3) (N := none) #[true, true, true, true, false, false] rfl rfl (by kernel_rfl) (by decide) (fun K hK => ?_)
 have hs51 : w50.cell? ⟨Ae, 3, none⟩ = some (.bool false) := (ao Aa.out 3).trans rfl
 have A6 := xf Aa 3
 have AG := Ac.out
 have hms51_0 := Ad.out
 refine lV (w1 := ?_) (by rfl) rfl ?_ ?_
 rotate_left
 {
 go_simp
 rfl
 }
 refine hK.out _ _ trivial (fun hHeld => ?_)
 clear hK K
 refine ct (i := 4) (N := some 29) (v := ?_) (a' := ?_) #[true, true, true, true, true, false] rfl rfl (by kernel_rfl) (fun _ _ _ h => h) (Or.inl ⟨by rfl, ?_⟩) ?_ ?_
 rotate_left
 {
 intro w'
 go_simp
 with_reducible rfl
 }
 rotate_left
 {
 simp only [Act.put, xl1, xl2, xl3, ag, ak]
 rfl
 }
 refine dm (i := 5) (N := none) #[true, true, true, true, true, true] rfl rfl (by kernel_rfl) (by decide) (fun K hK => ?_)
 have hs52 : w50.cell? ⟨Ae, 4, none⟩ = some (.string (⟨#[]⟩ : ByteArray)) := (ao Aa.out 4).trans rfl
 have A7 := xf Aa 4
 have AH := Ac.out
 have hms52_0 := Ad.out
 refine lV (w1 := ?_) (by rfl) rfl ?_ ?_
 rotate_left
 {
 go_simp
 rfl
 }
 refine hK.out _ _ trivial (fun hHeld => ?_)
 clear hK K
 refine kA (by kernel_rfl) ?_
 have Bp := xz5 Aa.out
 have Bq := xz5 Ab.out
 try go_wp2
 refine bodyPost_ret (results_cell_row rfl _ _ Af 67 #[.bool false, .string (⟨#[]⟩ : ByteArray), .string Am, .bool true, .string AK] (0, 0) _ rfl xbk Tryz.underlying67 rfl (by kernel_rfl)) rfl ?_
 exact ⟨by first | exact xrd | (simp only [← Ai]; exact xrd) | exact xre, xbl⟩
def gU (a0 : Int) : Option (ByteArray × Bool) := if a0 = 1 then (some ((⟨#[58]⟩ : ByteArray), true)) else (if a0 = 2 then (some ((⟨#[]⟩ : ByteArray), true)) else (if a0 = 3 then (some ((⟨#[58, 64]⟩ : ByteArray), true)) else (if a0 = 4 then (some ((⟨#[64]⟩ : ByteArray), true)) else (if a0 = 5 then (some ((⟨#[58, 64, 47]⟩ : ByteArray), true)) else (if a0 = 6 then (some ((⟨#[58, 64, 47, 63]⟩ : ByteArray), true)) else (if a0 = 7 then (some ((⟨#[58, 64, 47, 63]⟩ : ByteArray), true)) else (some ((⟨#[]⟩ : ByteArray), false))))))))
theorem dw (a0 : Int) (r1 : ByteArray) (r2 : Bool) (w : World) (h : gU a0 = some (r1, r2)) :
    Calls Tryz.prog 80 #[.int .i64 a0] w fun e w' => e = .returned (.tuple #[.string r1, .bool r2]) ∧ Drawn0 w w' := by
 have H := h
 clear h
 unfold gU at H
 refine xid H ?_ ?_ <;> clear H <;> intro c2 H
 {
 obtain ⟨Aa, Ab⟩ := xqe c2
 clear c2
 simp only [Option.some.injEq, Prod.mk.injEq] at H
 obtain ⟨rfl, rfl⟩ := H
 go_enter Tryz.func80, Tryz.ntmps80
 go_wp2
 go_ret2
 exact ⟨xrr, xdr⟩
 }
 obtain ⟨Aa, Ab⟩ := xqn c2
 refine xid H ?_ ?_ <;> clear H <;> intro c3 H
 {
 obtain ⟨Ac, Ad⟩ := xqe c3
 clear c3
 simp only [Option.some.injEq, Prod.mk.injEq] at H
 obtain ⟨rfl, rfl⟩ := H
 go_enter Tryz.func80, Tryz.ntmps80
 go_wp2
 go_ret2
 exact ⟨xrr, xdr⟩
 }
 obtain ⟨Ac, Ad⟩ := xqn c3
 refine xid H ?_ ?_ <;> clear H <;> intro c4 H
 {
 obtain ⟨Ae, Af⟩ := xqe c4
 clear c4
 simp only [Option.some.injEq, Prod.mk.injEq] at H
 obtain ⟨rfl, rfl⟩ := H
 go_enter Tryz.func80, Tryz.ntmps80
 go_wp2
 go_ret2
 exact ⟨xrr, xdr⟩
 }
 obtain ⟨Ae, Af⟩ := xqn c4
 refine xid H ?_ ?_ <;> clear H <;> intro c5 H
 {
 obtain ⟨Ag, Ah⟩ := xqe c5
 clear c5
 simp only [Option.some.injEq, Prod.mk.injEq] at H
 obtain ⟨rfl, rfl⟩ := H
 go_enter Tryz.func80, Tryz.ntmps80
 go_wp2
 go_ret2
 exact ⟨xrr, xdr⟩
 }
 obtain ⟨Ag, Ah⟩ := xqn c5
 refine xid H ?_ ?_ <;> clear H <;> intro c6 H
 {
 obtain ⟨Ai, Aj⟩ := xqe c6
 clear c6
 simp only [Option.some.injEq, Prod.mk.injEq] at H
 obtain ⟨rfl, rfl⟩ := H
 go_enter Tryz.func80, Tryz.ntmps80
 go_wp2
 go_ret2
 exact ⟨xrr, xdr⟩
 }
 obtain ⟨Ai, Aj⟩ := xqn c6
 refine xid H ?_ ?_ <;> clear H <;> intro c7 H
 {
 obtain ⟨Ak, Al⟩ := xqe c7
 clear c7
 simp only [Option.some.injEq, Prod.mk.injEq] at H
 obtain ⟨rfl, rfl⟩ := H
 go_enter Tryz.func80, Tryz.ntmps80
 go_wp2
 go_ret2
 exact ⟨xrr, xdr⟩
 }
 obtain ⟨Ak, Al⟩ := xqn c7
 refine xid H ?_ ?_ <;> clear H <;> intro c8 H
 {
 obtain ⟨Am, An⟩ := xqe c8
 clear c8
 simp only [Option.some.injEq, Prod.mk.injEq] at H
 obtain ⟨rfl, rfl⟩ := H
 go_enter Tryz.func80, Tryz.ntmps80
 go_wp2
 go_ret2
 exact ⟨xrr, xdr⟩
 }
 obtain ⟨Am, An⟩ := xqn c8
 simp only [Option.some.injEq, Prod.mk.injEq] at H
 obtain ⟨rfl, rfl⟩ := H
 go_enter Tryz.func80, Tryz.ntmps80
 go_wp2
 go_ret2
 exact ⟨xrr, xdr⟩
def mW (a0 : Int) : Option (Int) := if a0 ≥ 65 then (if a0 ≤ 90 then (some (Go.bits .or .u8 a0 32)) else (some a0)) else (some a0)
theorem po (a0 : Int) (r : Int) (w : World) (h : mW a0 = some r) :
    Calls Tryz.prog 108 #[.int .u8 a0] w fun e w' => e = .returned (.int .u8 r) ∧ Drawn0 w w' := by
 have H := h
 clear h
 unfold mW at H
 refine xid H ?_ ?_ <;> clear H <;> intro c2 H
 {
 have c2b0 := xdt c2
 clear c2
 refine xid H ?_ ?_ <;> clear H <;> intro c3 H
 {
 have c3b0 := xdt c3
 clear c3
 obtain rfl := Option.some.inj H
 go_enter Tryz.func108, Tryz.ntmps108
 go_wp2
 go_ret
 exact ⟨xrr, xdr⟩
 }
 have c3b0 := xdf c3
 clear c3
 obtain rfl := Option.some.inj H
 go_enter Tryz.func108, Tryz.ntmps108
 go_wp2
 go_ret
 exact ⟨xrr, xdr⟩
 }
 have c2b0 := xdf c2
 clear c2
 obtain rfl := Option.some.inj H
 go_enter Tryz.func108, Tryz.ntmps108
 go_wp2
 go_ret
 exact ⟨xrr, xdr⟩
def eO : Nat → Int → Bool → Option (Int × Bool)
  | 0, _, _ => none
  | k + 1, x0, x4 => if x4 = true then (some ((x0 - 48) % 256, true)) else ((fq k x0 32).bind fun t131 => (if t131 = true then ((mW x0).bind fun t132 => (some (((t132 - 97) % 256) + 10, true))) else (some (0, false))))
def eD (k : Nat) (a0 : Int) : Option (Int × Bool) := if a0 ≥ 48 then (eO k a0 (decide (a0 ≤ 57))) else (eO k a0 false)
theorem lh : ∀ k, (∀ y0 y1, LeO (eO k y0 y1) (eO (k + 1) y0 y1))
  | 0 => fun _ _ r h => by simp [eO] at h
  | k + 1 => by
    have ih0 := lh k
    have m0 := @ft
    · intro y0 y1
      unfold eO
      exact xmo
theorem ij : ∀ a0 k, LeO (eD k a0) (eD (k + 1) a0) := by
  intro a0 k
  have ih0 := lh k
  have m0 := @ft
  unfold eD
  exact xmo
theorem ei (k : Nat) (a0 : Int) (r1 : Int) (r2 : Bool) (w : World) (h : eD k a0 = some (r1, r2)) :
    Calls Tryz.prog 96 #[.int .u8 a0] w fun e w' => e = .returned (.tuple #[.int .i64 r1, .bool r2]) ∧ Drawn0 w w' := by
 have H := h
 clear h
 unfold eD at H
 have Ac := Zz.mk H
 clear H
 go_enter Tryz.func96, Tryz.ntmps96
 go_upto_region 1 with (fail)
 go_cut [4] (fun v4 wc => ∃ kq Ab, v4 = .bool Ab ∧ Zz (eO kq a0 Ab = some (r1, r2)) ∧ Zz (kq ≤ k) ∧ Drawn0 w wc)
 case first => (
 have H := Ac.out
 clear Ac
 refine xid H ?_ ?_ <;> clear H <;> intro c3 H
 {
 have Aa := xdt c3
 clear c3
 (first | rw [Aa] | (simp only [ag, ak]; rw [Aa]) | skip)
 replace H := xa H
 go_wp2
 go_meet
 case rel => exact ⟨_, (decide (a0 ≤ 57)), xrr, H, ⟨xom⟩, xdr⟩
 }
 have Aa := xdf c3
 clear c3
 (first | rw [Aa] | (simp only [ag, ak]; rw [Aa]) | skip)
 replace H := xa H
 go_wp2
 go_meet
 case rel => exact ⟨_, (false), xrr, H, ⟨xom⟩, xdr⟩
 )
 case rest => (
 clear Ac
 obtain ⟨kq, Ab, rfl, HA, HJ1, ⟨mc1, rfl⟩⟩ := hcut
 cases kq with
 | zero => exact absurd HA.out (by simp [eO])
 | succ kj1 => (
 have H := HA.out
 clear HA
 simp only [eO] at H
 refine xib H ?_ ?_ <;> clear H <;> rintro rfl H
 {
 simp only [Option.some.injEq, Prod.mk.injEq] at H
 obtain ⟨rfl, rfl⟩ := H
 go_wp2
 go_ret2
 exact ⟨xrr, xdr⟩
 }
 replace H := xbd H
 obtain ⟨Ad, A5, H⟩ := H
 try dsimp only at H
 refine xib H ?_ ?_ <;> clear H <;> rintro rfl H
 {
 replace H := xbd H
 obtain ⟨Ae, A7, H⟩ := H
 try dsimp only at H
 simp only [Option.some.injEq, Prod.mk.injEq] at H
 obtain ⟨rfl, rfl⟩ := H
 go_wp2_with (first | ((with_reducible refine xgc (f := 61) rfl ?_); refine xca 16 Tryz.func61 (cX (w := _) (h := A5.out)) ?_; rintro w' ⟨nd, rfl⟩) | ((with_reducible refine xgc (f := 108) rfl ?_); refine xca 18 Tryz.func108 (po (w := _) (h := A7.out)) ?_; rintro w' ⟨nd, rfl⟩))
 go_ret2
 exact ⟨xrr, xdr⟩
 }
 simp only [Option.some.injEq, Prod.mk.injEq] at H
 obtain ⟨rfl, rfl⟩ := H
 go_wp2_with (first | ((with_reducible refine xgc (f := 61) rfl ?_); refine xca 16 Tryz.func61 (cX (w := _) (h := A5.out)) ?_; rintro w' ⟨nd, rfl⟩))
 go_ret2
 exact ⟨xrr, xdr⟩
 )
 )
def dB : Nat → ByteArray → Int → Bool → Option (Int × Bool)
  | 0, _, _, _ => none
  | k + 1, x0, x1, x24 => if x24 = true then (some (0, false)) else (if 0 ≤ (wrap64 (x1 + 1)) then (if (wrap64 (x1 + 1)) < (x0.size : Int) then ((eD k (bt x0 (wrap64 (x1 + 1)))).bind fun bt133 => (if 0 ≤ (wrap64 (x1 + 2)) then (if (wrap64 (x1 + 2)) < (x0.size : Int) then ((eD k (bt x0 (wrap64 (x1 + 2)))).bind fun bt135 => (if bt133.2 = true then (if bt135.2 = true then (some ((Go.bits .or .i64 (wrap64 (bt133.1 * 16)) bt135.1) % 256, true)) else (some (0, false))) else (some (0, false)))) else (none)) else (none))) else (none)) else (none))
def g5 (k : Nat) (a0 : ByteArray) (a1 : Int) : Option (Int × Bool) := if a1 < 0 then (dB k a0 a1 true) else (if a1 > (wrap64 ((a0.size : Int) - 3)) then (dB k a0 a1 true) else (if 0 ≤ a1 then (if a1 < (a0.size : Int) then (dB k a0 a1 ((bt a0 a1) != 37)) else (none)) else (none)))
theorem l7 : ∀ k, (∀ y0 y1 y2, LeO (dB k y0 y1 y2) (dB (k + 1) y0 y1 y2))
  | 0 => fun _ _ _ r h => by simp [dB] at h
  | k + 1 => by
    have ih0 := l7 k
    have m0 := @ij
    · intro y0 y1 y2
      unfold dB
      exact xmo
theorem mY : ∀ a0 a1 k, LeO (g5 k a0 a1) (g5 (k + 1) a0 a1) := by
  intro a0 a1 k
  have ih0 := l7 k
  have m0 := @ij
  unfold g5
  exact xmo
theorem jn (k : Nat) (a0 : ByteArray) (a1 : Int) (r1 : Int) (r2 : Bool) (w : World) (h : g5 k a0 a1 = some (r1, r2)) :
    Calls Tryz.prog 81 #[.string a0, .int .i64 a1] w fun e w' => e = .returned (.tuple #[.int .u8 r1, .bool r2]) ∧ Drawn0 w w' := by
 have H := h
 clear h
 unfold g5 at H
 have Ag := Zz.mk H
 clear H
 go_enter Tryz.func81, Tryz.ntmps81
 go_upto_region 1 with (fail)
 go_cut [24] (fun v24 wc => ∃ kq Ac, v24 = .bool Ac ∧ Zz (dB kq a0 a1 Ac = some (r1, r2)) ∧ Zz (kq ≤ k) ∧ Drawn0 w wc)
 case first => (
 have H := Ag.out
 clear Ag
 refine xid H ?_ ?_ <;> clear H <;> intro c4 H
 {
 have Ad := xdt c4
 clear c4
 (first | rw [Ad] | (simp only [ag, ak]; rw [Ad]) | skip)
 replace H := xa H
 go_wp2
 go_meet
 case rel => exact ⟨_, (true), xrr, H, ⟨xom⟩, xdr⟩
 }
 have Ad := xdf c4
 clear c4
 (first | rw [Ad] | (simp only [ag, ak]; rw [Ad]) | skip)
 refine xid H ?_ ?_ <;> clear H <;> intro c5 H
 {
 have Ah := xdt c5
 clear c5
 replace H := xa H
 go_wp2
 go_meet
 case rel => exact ⟨_, (true), xrr, H, ⟨xom⟩, xdr⟩
 }
 have Ah := xdf c5
 clear c5
 refine xin H ?_; clear H; intro c6 H
 have Ao := xdt c6
 clear c6
 refine xin H ?_; clear H; intro c7 H
 have Ap := xdt c7
 clear c7
 replace H := xa H
 obtain ⟨p8, q8, hx8⟩ := xiv a0 a1 xod xod
 go_wp2
 go_meet
 case rel => exact ⟨_, (((bt a0 a1) != 37)), xrr, H, ⟨xom⟩, xdr⟩
 )
 case rest => (
 clear Ag
 obtain ⟨kq, Ac, rfl, HA, HJ2, ⟨mc2, rfl⟩⟩ := hcut
 cases kq with
 | zero => exact absurd HA.out (by simp [dB])
 | succ kj2 => (
 have H := HA.out
 clear HA
 simp only [dB] at H
 refine xib H ?_ ?_ <;> clear H <;> rintro rfl H
 {
 simp only [Option.some.injEq, Prod.mk.injEq] at H
 obtain ⟨rfl, rfl⟩ := H
 go_wp2
 go_ret2
 exact ⟨xrr, xdr⟩
 }
 obtain ⟨Ae, Ab⟩ : ∃ j_ : Int, (wrap64 (a1 + 1)) = j_ := ⟨_, rfl⟩
 first | rw [Ab] at H | simp only [Ab] at H | skip
 have Ai : (IntKind.i64.wrap (a1 + 1)) = Ae := (ag _).trans Ab
 refine xin H ?_; clear H; intro c11 H
 have Ak := xdt c11
 clear c11
 refine xin H ?_; clear H; intro c12 H
 have Al := xdt c12
 clear c12
 replace H := xbd H
 obtain ⟨⟨Aq, Ar⟩, A14, H⟩ := H
 try dsimp only at H
 obtain ⟨Af, Aa⟩ : ∃ j_ : Int, (wrap64 (a1 + 2)) = j_ := ⟨_, rfl⟩
 first | rw [Aa] at H | simp only [Aa] at H | skip
 (try rw [Aa] at A14)
 have Aj : (IntKind.i64.wrap (a1 + 2)) = Af := (ag _).trans Aa
 refine xin H ?_; clear H; intro c16 H
 have Am := xdt c16
 clear c16
 refine xin H ?_; clear H; intro c17 H
 have An := xdt c17
 clear c17
 replace H := xbd H
 obtain ⟨⟨As, At⟩, A19, H⟩ := H
 try dsimp only at H
 refine xib H ?_ ?_ <;> clear H <;> rintro rfl H
 {
 refine xib H ?_ ?_ <;> clear H <;> rintro rfl H
 {
 simp only [Option.some.injEq, Prod.mk.injEq] at H
 obtain ⟨rfl, rfl⟩ := H
 obtain ⟨p13, q13, hx13⟩ := xiv a0 (Ae) xod xod
 go_wp2_with (first | ((with_reducible refine xgc (f := 96) rfl ?_); refine xca 30 Tryz.func96 (ei (w := _) (h := A14.out)) ?_ (hargs := by (try simp only [xm1, xm2, xm3]); first | done | (simp only [Ab]; rfl) | rfl); rintro w' ⟨nd, rfl⟩; obtain ⟨p18, q18, hx18⟩ := xiv a0 (Af) xod xod) | ((with_reducible refine xgc (f := 96) rfl ?_); refine xca 38 Tryz.func96 (ei (w := _) (h := A19.out)) ?_ (hargs := by (try simp only [xm1, xm2, xm3]); first | done | (simp only [Aa]; rfl) | rfl); rintro w' ⟨nd, rfl⟩))
 go_ret2
 exact ⟨by first | exact xrs | (simp only [← Ab, ← Aa] <;> (first | rfl | simp)) | exact xrr, xdr⟩
 }
 simp only [Option.some.injEq, Prod.mk.injEq] at H
 obtain ⟨rfl, rfl⟩ := H
 obtain ⟨p13, q13, hx13⟩ := xiv a0 (Ae) xod xod
 go_wp2_with (first | ((with_reducible refine xgc (f := 96) rfl ?_); refine xca 30 Tryz.func96 (ei (w := _) (h := A14.out)) ?_ (hargs := by (try simp only [xm1, xm2, xm3]); first | done | (simp only [Ab]; rfl) | rfl); rintro w' ⟨nd, rfl⟩; obtain ⟨p18, q18, hx18⟩ := xiv a0 (Af) xod xod) | ((with_reducible refine xgc (f := 96) rfl ?_); refine xca 38 Tryz.func96 (ei (w := _) (h := A19.out)) ?_ (hargs := by (try simp only [xm1, xm2, xm3]); first | done | (simp only [Aa]; rfl) | rfl); rintro w' ⟨nd, rfl⟩))
 go_ret2
 exact ⟨by first | exact xrs | (simp only [← Ab, ← Aa] <;> (first | rfl | simp)) | exact xrr, xdr⟩
 }
 simp only [Option.some.injEq, Prod.mk.injEq] at H
 obtain ⟨rfl, rfl⟩ := H
 obtain ⟨p13, q13, hx13⟩ := xiv a0 (Ae) xod xod
 go_wp2_with (first | ((with_reducible refine xgc (f := 96) rfl ?_); refine xca 30 Tryz.func96 (ei (w := _) (h := A14.out)) ?_ (hargs := by (try simp only [xm1, xm2, xm3]); first | done | (simp only [Ab]; rfl) | rfl); rintro w' ⟨nd, rfl⟩; obtain ⟨p18, q18, hx18⟩ := xiv a0 (Af) xod xod) | ((with_reducible refine xgc (f := 96) rfl ?_); refine xca 38 Tryz.func96 (ei (w := _) (h := A19.out)) ?_ (hargs := by (try simp only [xm1, xm2, xm3]); first | done | (simp only [Aa]; rfl) | rfl); rintro w' ⟨nd, rfl⟩))
 go_ret2
 exact ⟨by first | exact xrs | (simp only [← Ab, ← Aa] <;> (first | rfl | simp)) | exact xrr, xdr⟩
 )
 )
def d6 (k : Nat) (a0 : Int) (a1 : Int) : Option (Bool) := (gU a0).bind fun bt137 => (if bt137.2 = true then ((fq k a1 15).bind fun t139 => (if t139 = true then (some true) else ((dg k bt137.1 0 (strOfNums (([a1] : List Int)))).bind fun t143 => (some (decide (t143 ≥ 0)))))) else (some false))
theorem hZ : ∀ a0 a1 k, LeO (d6 k a0 a1) (d6 (k + 1) a0 a1) := by
  intro a0 a1 k
  have m0 := @iI; have m1 := @ft
  unfold d6
  exact xmo
theorem jU (k : Nat) (a0 : Int) (a1 : Int) (r : Bool) (w : World) (h : d6 k a0 a1 = some r) :
    Calls Tryz.prog 97 #[.int .i64 a0, .int .u8 a1] w fun e w' => e = .returned (.bool r) ∧ Below w.heap.size w w' := by
 have HB := Zz.mk (Below.refl w.heap.size w)
 have H := h
 clear h
 unfold d6 at H
 replace H := xbd H
 obtain ⟨⟨Ae, Ag⟩, A3, H⟩ := H
 try dsimp only at H
 refine xib H ?_ ?_ <;> clear H <;> rintro rfl H
 {
 replace H := xbd H
 obtain ⟨Ah, A5, H⟩ := H
 try dsimp only at H
 refine xib H ?_ ?_ <;> clear H <;> rintro rfl H
 {
 obtain rfl := Option.some.inj H
 go_enter Tryz.func97, Tryz.ntmps97
 go_wp2_with (first | ((with_reducible refine xgc (f := 80) rfl ?_); refine xca 9 Tryz.func80 (dw (w := _) (h := A3.out)) ?_; rintro w' ⟨nd, rfl⟩) | ((with_reducible refine xgc (f := 61) rfl ?_); refine xca 15 Tryz.func61 (cX (w := _) (h := A5.out)) ?_; rintro w' ⟨nd, rfl⟩))
 go_ret
 exact ⟨xre, xbl⟩
 }
 obtain ⟨Af, Aa⟩ : ∃ y_ : List Int, y_ = (([a1] : List Int)) := ⟨_, rfl⟩
 replace H : ((dg k Ae 0 (strOfNums Af)).bind fun Ad => (some (decide (Ad ≥ 0)))) = some r := by first | (rw [Aa]; with_reducible exact H) | (have H2_ := (Option.bind_some _ _).symm.trans H; rw [Aa]; with_reducible exact H2_) | (have H2_ := (Option.bind_some _ _).symm.trans H; with_reducible exact H2_) | with_reducible exact H | (rw [Aa]; exact H) | exact H
 have Ac := Zz.mk Aa
 clear Aa
 replace H := xbd H
 obtain ⟨Ad, A7, H⟩ := H
 try dsimp only at H
 obtain rfl := Option.some.inj H
 go_enter Tryz.func97, Tryz.ntmps97
 go_wp2_with (first | ((with_reducible refine xgc (f := 80) rfl ?_); refine xca 9 Tryz.func80 (dw (w := _) (h := A3.out)) ?_; rintro w' ⟨nd, rfl⟩) | ((with_reducible refine xgc (f := 61) rfl ?_); refine xca 15 Tryz.func61 (cX (w := _) (h := A5.out)) ?_; rintro w' ⟨nd, rfl⟩) | ((with_reducible refine aj (N := 19) rfl ?_); (try (refine cb (by rfl) ?_; dsimp only)); refine Kd.R_lit (Kd.int .u8) _ 5 ?hg (N := 19) ?hd (xs := ([a1] : List Int)) (inner := [.int .u8 a1]) (ok := fun _ => True) (okp := fun _ => True) ?hr ?hp (fun _ hk => hk) trivial (Below.refl _ _) (Nat.le_refl _) (by simp) ?_; (case hd => rfl); (case hg => rfl); (case hr => first | (go_simp; done) | (go_simp; rfl)); (case hp => exact (Reps.one (show Kd.M (Kd.int .u8) _ _ _ a1 [.int .u8 a1] from rfl) (Reps.none _ _))); intro v141 w8 ho9 hb hg_ hnew_; clear hg_ hnew_; (first | rw [← Ac.out] at ho9 | (simp only [Int.reduceToNat] at ho9; rw [← Ac.out] at ho9)); have Ab := Zz.mk (Kd.R_lower ho9 (aq xbl)); replace HB := xst hb; clear hb ho9; have hcv10 := kG (P := Tryz.prog) Tryz.underlying45 Tryz.underlying5 Tryz.underlying9 (Kd.own_of_R Ab.out)) | (go_at_call 45; (with_reducible refine (dY (w := _) (h := A7.out)).mono ?_); rintro e w11 ⟨rfl, hb⟩; replace Ab := Zz.mk (Kd.R_below (xkd Ab) hb); replace HB := xst hb; (try clear hb)))
 go_ret
 exact ⟨xre, xbl⟩
 }
 obtain rfl := Option.some.inj H
 go_enter Tryz.func97, Tryz.ntmps97
 go_wp2_with (first | ((with_reducible refine xgc (f := 80) rfl ?_); refine xca 9 Tryz.func80 (dw (w := _) (h := A3.out)) ?_; rintro w' ⟨nd, rfl⟩))
 go_ret
 exact ⟨xre, xbl⟩
def bF : Nat → Int → Bool → Option (Bool)
  | 0, _, _ => none
  | k + 1, x0, x6 => if x6 = true then (some true) else (if x0 < 65536 then (some false) else (if x0 > 983037 then (some false) else (if (Go.bits .and .i32 x0 65535) ≤ 65533 then (if x0 < 917504 then (some true) else (some (decide (x0 ≥ 921600)))) else (some false))))
def fA (k : Nat) (a0 : Int) : Option (Bool) := if a0 < 160 then (some false) else (if a0 ≤ 55295 then (bF k a0 (decide (a0 ≤ 55295))) else (if a0 ≥ 63744 then (if a0 ≤ 64975 then (bF k a0 (decide (a0 ≤ 64975))) else (if a0 ≥ 65008 then (bF k a0 (decide (a0 ≤ 65519))) else (bF k a0 false))) else (if a0 ≥ 65008 then (bF k a0 (decide (a0 ≤ 65519))) else (bF k a0 false))))
theorem kP : ∀ k, (∀ y0 y1, LeO (bF k y0 y1) (bF (k + 1) y0 y1))
  | 0 => fun _ _ r h => by simp [bF] at h
  | k + 1 => by
    have ih0 := kP k
    · intro y0 y1
      unfold bF
      exact xmo
theorem lC : ∀ a0 k, LeO (fA k a0) (fA (k + 1) a0) := by
  intro a0 k
  have ih0 := kP k
  unfold fA
  exact xmo
theorem jC (k : Nat) (a0 : Int) (r : Bool) (w : World) (h : fA k a0 = some r) :
    Calls Tryz.prog 98 #[.int .i32 a0] w fun e w' => e = .returned (.bool r) ∧ Drawn0 w w' := by
 have H := h
 clear h
 unfold fA at H
 refine xid H ?_ ?_ <;> clear H <;> intro c2 H
 {
 have Ac := xdt c2
 clear c2
 obtain rfl := Option.some.inj H
 go_enter Tryz.func98, Tryz.ntmps98
 go_wp2
 go_ret
 exact ⟨xrr, xdr⟩
 }
 have Ac := xdf c2
 clear c2
 have Ah := Zz.mk H
 clear H
 go_enter Tryz.func98, Tryz.ntmps98
 go_upto_if 6 with (fail)
 go_cut [6] (fun v6 wc => ∃ kq Ab, v6 = .bool Ab ∧ Zz (bF kq a0 Ab = some r) ∧ Zz (kq ≤ k) ∧ Drawn0 w wc)
 case first => (
 have H := Ah.out
 clear Ah
 refine xid H ?_ ?_ <;> clear H <;> intro c4 H
 {
 have Aa := xdt c4
 clear c4
 (first | rw [Aa] | (simp only [ag, ak]; rw [Aa]) | skip)
 replace H := xa H
 go_wp2
 go_meet
 case rel => exact ⟨_, (decide (a0 ≤ 55295)), xrr, H, ⟨xom⟩, xdr⟩
 }
 have Aa := xdf c4
 clear c4
 (first | rw [Aa] | (simp only [ag, ak]; rw [Aa]) | skip)
 refine xid H ?_ ?_ <;> clear H <;> intro c5 H
 {
 have Ai := xdt c5
 clear c5
 refine xid H ?_ ?_ <;> clear H <;> intro c6 H
 {
 have Aj := xdt c6
 clear c6
 replace H := xa H
 go_wp2
 go_meet
 case rel => exact ⟨_, (decide (a0 ≤ 64975)), xrr, H, ⟨xom⟩, xdr⟩
 }
 have Aj := xdf c6
 clear c6
 refine xid H ?_ ?_ <;> clear H <;> intro c7 H
 {
 have Ak := xdt c7
 clear c7
 replace H := xa H
 go_wp2
 go_meet
 case rel => exact ⟨_, (decide (a0 ≤ 65519)), xrr, H, ⟨xom⟩, xdr⟩
 }
 have Ak := xdf c7
 clear c7
 replace H := xa H
 go_wp2
 go_meet
 case rel => exact ⟨_, (false), xrr, H, ⟨xom⟩, xdr⟩
 }
 have Ai := xdf c5
 clear c5
 refine xid H ?_ ?_ <;> clear H <;> intro c8 H
 {
 have Al := xdt c8
 clear c8
 replace H := xa H
 go_wp2
 go_meet
 case rel => exact ⟨_, (decide (a0 ≤ 65519)), xrr, H, ⟨xom⟩, xdr⟩
 }
 have Al := xdf c8
 clear c8
 replace H := xa H
 go_wp2
 go_meet
 case rel => exact ⟨_, (false), xrr, H, ⟨xom⟩, xdr⟩
 )
 case rest => (
 clear Ah
 clear Ac
 obtain ⟨kq, Ab, rfl, HA, HJ2, ⟨mc2, rfl⟩⟩ := hcut
 cases kq with
 | zero => exact absurd HA.out (by simp [bF])
 | succ kj2 => (
 have H := HA.out
 clear HA
 simp only [bF] at H
 refine xib H ?_ ?_ <;> clear H <;> rintro rfl H
 {
 obtain rfl := Option.some.inj H
 go_wp2
 go_ret
 exact ⟨xrr, xdr⟩
 }
 refine xid H ?_ ?_ <;> clear H <;> intro c10 H
 {
 have Ad := xdt c10
 clear c10
 obtain rfl := Option.some.inj H
 go_wp2
 go_ret
 exact ⟨xrr, xdr⟩
 }
 have Ad := xdf c10
 clear c10
 refine xid H ?_ ?_ <;> clear H <;> intro c11 H
 {
 have Ae := xdt c11
 clear c11
 obtain rfl := Option.some.inj H
 go_wp2
 go_ret
 exact ⟨xrr, xdr⟩
 }
 have Ae := xdf c11
 clear c11
 refine xid H ?_ ?_ <;> clear H <;> intro c12 H
 {
 have Af := xdt c12
 clear c12
 refine xid H ?_ ?_ <;> clear H <;> intro c13 H
 {
 have Ag := xdt c13
 clear c13
 obtain rfl := Option.some.inj H
 go_wp2
 go_ret
 exact ⟨xrr, xdr⟩
 }
 have Ag := xdf c13
 clear c13
 obtain rfl := Option.some.inj H
 go_wp2
 go_ret
 exact ⟨xrr, xdr⟩
 }
 have Af := xdf c12
 clear c12
 obtain rfl := Option.some.inj H
 go_wp2
 go_ret
 exact ⟨xrr, xdr⟩
 )
 )
def iH (a0 : Int) : Option (Bool) := if a0 ≥ 57344 then (if a0 ≤ 63743 then (some true) else (if a0 ≥ 983040 then (if a0 ≤ 1048573 then (some true) else (if a0 ≥ 1048576 then (some (decide (a0 ≤ 1114109))) else (some false))) else (if a0 ≥ 1048576 then (some (decide (a0 ≤ 1114109))) else (some false)))) else (if a0 ≥ 983040 then (if a0 ≤ 1048573 then (some true) else (if a0 ≥ 1048576 then (some (decide (a0 ≤ 1114109))) else (some false))) else (if a0 ≥ 1048576 then (some (decide (a0 ≤ 1114109))) else (some false)))
theorem nT (a0 : Int) (r : Bool) (w : World) (h : iH a0 = some r) :
    Calls Tryz.prog 99 #[.int .i32 a0] w fun e w' => e = .returned (.bool r) ∧ Drawn0 w w' := by
 have H := h
 clear h
 unfold iH at H
 refine xid H ?_ ?_ <;> clear H <;> intro c2 H
 {
 have Ac := xdt c2
 clear c2
 refine xid H ?_ ?_ <;> clear H <;> intro c3 H
 {
 have Ad := xdt c3
 clear c3
 obtain rfl := Option.some.inj H
 go_enter Tryz.func99, Tryz.ntmps99
 go_wp2
 go_ret
 exact ⟨xrr, xdr⟩
 }
 have Ad := xdf c3
 clear c3
 refine xid H ?_ ?_ <;> clear H <;> intro c4 H
 {
 have Ae := xdt c4
 clear c4
 refine xid H ?_ ?_ <;> clear H <;> intro c5 H
 {
 have Af := xdt c5
 clear c5
 obtain rfl := Option.some.inj H
 go_enter Tryz.func99, Tryz.ntmps99
 go_wp2
 go_ret
 exact ⟨xrr, xdr⟩
 }
 have Af := xdf c5
 clear c5
 refine xid H ?_ ?_ <;> clear H <;> intro c6 H
 {
 have Ag := xdt c6
 clear c6
 obtain rfl := Option.some.inj H
 go_enter Tryz.func99, Tryz.ntmps99
 go_wp2
 go_ret
 exact ⟨xrr, xdr⟩
 }
 have Ag := xdf c6
 clear c6
 obtain rfl := Option.some.inj H
 go_enter Tryz.func99, Tryz.ntmps99
 go_wp2
 go_ret
 exact ⟨xrr, xdr⟩
 }
 have Ae := xdf c4
 clear c4
 refine xid H ?_ ?_ <;> clear H <;> intro c7 H
 {
 have Ah := xdt c7
 clear c7
 obtain rfl := Option.some.inj H
 go_enter Tryz.func99, Tryz.ntmps99
 go_wp2
 go_ret
 exact ⟨xrr, xdr⟩
 }
 have Ah := xdf c7
 clear c7
 obtain rfl := Option.some.inj H
 go_enter Tryz.func99, Tryz.ntmps99
 go_wp2
 go_ret
 exact ⟨xrr, xdr⟩
 }
 have Ac := xdf c2
 clear c2
 refine xid H ?_ ?_ <;> clear H <;> intro c8 H
 {
 have Ai := xdt c8
 clear c8
 refine xid H ?_ ?_ <;> clear H <;> intro c9 H
 {
 have Aj := xdt c9
 clear c9
 obtain rfl := Option.some.inj H
 go_enter Tryz.func99, Tryz.ntmps99
 go_wp2
 go_ret
 exact ⟨xrr, xdr⟩
 }
 have Aj := xdf c9
 clear c9
 refine xid H ?_ ?_ <;> clear H <;> intro c10 H
 {
 have Aa := xdt c10
 clear c10
 obtain rfl := Option.some.inj H
 go_enter Tryz.func99, Tryz.ntmps99
 go_wp2
 go_ret
 exact ⟨xrr, xdr⟩
 }
 have Aa := xdf c10
 clear c10
 obtain rfl := Option.some.inj H
 go_enter Tryz.func99, Tryz.ntmps99
 go_wp2
 go_ret
 exact ⟨xrr, xdr⟩
 }
 have Ai := xdf c8
 clear c8
 refine xid H ?_ ?_ <;> clear H <;> intro c11 H
 {
 have Ab := xdt c11
 clear c11
 obtain rfl := Option.some.inj H
 go_enter Tryz.func99, Tryz.ntmps99
 go_wp2
 go_ret
 exact ⟨xrr, xdr⟩
 }
 have Ab := xdf c11
 clear c11
 obtain rfl := Option.some.inj H
 go_enter Tryz.func99, Tryz.ntmps99
 go_wp2
 go_ret
 exact ⟨xrr, xdr⟩
mutual
def ff : Nat → Int → Bool → Int → Bool → Option (Bool)
  | 0, _, _, _, _ => none
  | k + 1, x0, x1, x2, x14 => if x14 = true then ((d6 k x0 ((x2) % 256)).bind fun t144 => (some t144)) else ((gU x0).bind fun bt145 => (if bt145.2 = true then (er k x0 x2 (!x1)) else (er k x0 x2 true)))
def er : Nat → Int → Int → Bool → Option (Bool)
  | 0, _, _, _ => none
  | k + 1, x0, x2, x29 => if x29 = true then (some false) else ((fA k x2).bind fun t147 => (if t147 = true then (some true) else (if x0 = 6 then ((iH x2).bind fun t148 => (some t148)) else (some false))))
end
def g7 (k : Nat) (a0 : Int) (a1 : Bool) (a2 : Int) : Option (Bool) := if a2 ≥ 0 then (ff k a0 a1 a2 (decide (a2 < 128))) else (ff k a0 a1 a2 false)
theorem mc : ∀ k, (∀ y0 y1 y2 y3, LeO (ff k y0 y1 y2 y3) (ff (k + 1) y0 y1 y2 y3)) ∧ (∀ y0 y1 y2, LeO (er k y0 y1 y2) (er (k + 1) y0 y1 y2))
  | 0 => ⟨fun _ _ _ _ r h => by simp [ff] at h, fun _ _ _ r h => by simp [er] at h⟩
  | k + 1 => by
    obtain ⟨ih0, ih1⟩ := mc k
    have m0 := @lC; have m1 := @hZ
    refine ⟨?_, ?_⟩
    · intro y0 y1 y2 y3
      unfold ff
      exact xmo
    · intro y0 y1 y2
      unfold er
      exact xmo
theorem ng : ∀ a0 a1 a2 k, LeO (g7 k a0 a1 a2) (g7 (k + 1) a0 a1 a2) := by
  intro a0 a1 a2 k
  obtain ⟨ih0, ih1⟩ := mc k
  have m0 := @lC; have m1 := @hZ
  unfold g7
  exact xmo
theorem mJ (k : Nat) (a0 : Int) (a1 : Bool) (a2 : Int) (r : Bool) (w : World) (h : g7 k a0 a1 a2 = some r) :
    Calls Tryz.prog 82 #[.int .i64 a0, .bool a1, .int .i32 a2] w fun e w' => e = .returned (.bool r) ∧ Below w.heap.size w w' := by
 have HB := Zz.mk (Below.refl w.heap.size w)
 have H := h
 clear h
 unfold g7 at H
 have Ag := Zz.mk H
 clear H
 go_enter Tryz.func82, Tryz.ntmps82
 go_upto_region 1 with (fail)
 go_cut [14] (fun v14 wc => ∃ kq Aa, v14 = .bool Aa ∧ Zz (ff kq a0 a1 a2 Aa = some r) ∧ Zz (kq ≤ k) ∧ Zz (Below w.heap.size w wc))
 case first => (
 have H := Ag.out
 clear Ag
 refine xid H ?_ ?_ <;> clear H <;> intro c5 H
 {
 have Ab := xdt c5
 clear c5
 (first | rw [Ab] | (simp only [ag, ak]; rw [Ab]) | skip)
 replace H := xa H
 go_wp2
 go_meet
 case rel => exact ⟨_, (decide (a2 < 128)), xrr, H, ⟨xom⟩, ⟨xbl⟩⟩
 }
 have Ab := xdf c5
 clear c5
 (first | rw [Ab] | (simp only [ag, ak]; rw [Ab]) | skip)
 replace H := xa H
 go_wp2
 go_meet
 case rel => exact ⟨_, (false), xrr, H, ⟨xom⟩, ⟨xbl⟩⟩
 )
 case rest => (
 clear Ag
 obtain ⟨kq, Aa, rfl, HA, HJ3, HB⟩ := hcut
 cases kq with
 | zero => exact absurd HA.out (by simp [ff])
 | succ kj3 => (
 have H := HA.out
 clear HA
 simp only [ff] at H
 refine xib H ?_ ?_ <;> clear H <;> rintro rfl H
 {
 replace H := xbd H
 obtain ⟨Ah, A7, H⟩ := H
 try dsimp only at H
 obtain rfl := Option.some.inj H
 go_wp2_with (first | ((with_reducible refine xgc (f := 97) rfl ?_); refine xca 18 Tryz.func97 (jU (w := _) (h := A7.out)) ?_; rintro w8 hb; replace HB := xst hb; (try clear hb)))
 go_ret
 exact ⟨xre, xbl⟩
 }
 replace H := xbd H
 obtain ⟨⟨Ai, Aj⟩, A9, H⟩ := H
 try dsimp only at H
 have Ad := Zz.mk H
 clear H
 go_upto_region 4 with (first | ((with_reducible refine xgc (f := 80) rfl ?_); refine xca 21 Tryz.func80 (dw (w := _) (h := A9.out)) ?_; rintro w' ⟨nd, rfl⟩))
 (try simp only [Act.put, xl1, xl2, xl3])
 go_cut [29] (fun v29 wc => ∃ kq Ac, v29 = .bool Ac ∧ Zz (er kq a0 a2 Ac = some r) ∧ Zz (kq ≤ kj3) ∧ Zz (Below w.heap.size w wc))
 case first => (
 have H := Ad.out
 clear Ad
 refine xib H ?_ ?_ <;> clear H <;> rintro rfl H
 {
 replace H := xa H
 go_wp2
 go_meet
 case rel => exact ⟨_, (!a1), xrr, H, ⟨xoj HJ3⟩, ⟨xbl⟩⟩
 }
 replace H := xa H
 go_wp2
 go_meet
 case rel => exact ⟨_, (true), xrr, H, ⟨xoj HJ3⟩, ⟨xbl⟩⟩
 )
 case rest => (
 clear Ad
 obtain ⟨kq, Ac, rfl, HA, HJ9, HB⟩ := hcut
 cases kq with
 | zero => exact absurd HA.out (by simp [er])
 | succ kj9 => (
 have H := HA.out
 clear HA
 simp only [er] at H
 refine xib H ?_ ?_ <;> clear H <;> rintro rfl H
 {
 obtain rfl := Option.some.inj H
 go_wp2
 go_ret
 exact ⟨xre, xbl⟩
 }
 replace H := xbd H
 obtain ⟨Ak, A13, H⟩ := H
 try dsimp only at H
 refine xib H ?_ ?_ <;> clear H <;> rintro rfl H
 {
 obtain rfl := Option.some.inj H
 go_wp2_with (first | ((with_reducible refine xgc (f := 98) rfl ?_); refine xca 31 Tryz.func98 (jC (w := _) (h := A13.out)) ?_; rintro w' ⟨nd, rfl⟩))
 go_ret
 exact ⟨xre, xbl⟩
 }
 refine xid H ?_ ?_ <;> clear H <;> intro c15 H
 {
 obtain ⟨Ae, Af⟩ := xqe c15
 clear c15
 replace H := xbd H
 obtain ⟨Al, A16, H⟩ := H
 try dsimp only at H
 obtain rfl := Option.some.inj H
 go_wp2_with (first | ((with_reducible refine xgc (f := 98) rfl ?_); refine xca 31 Tryz.func98 (jC (w := _) (h := A13.out)) ?_; rintro w' ⟨nd, rfl⟩) | (go_at_call 99; (with_reducible refine (nT (w := _) (h := A16.out)).mono ?_); rintro e w' ⟨rfl, ⟨nd, rfl⟩⟩))
 go_ret
 exact ⟨xre, xbl⟩
 }
 obtain ⟨Ae, Af⟩ := xqn c15
 obtain rfl := Option.some.inj H
 go_wp2_with (first | ((with_reducible refine xgc (f := 98) rfl ?_); refine xca 31 Tryz.func98 (jC (w := _) (h := A13.out)) ?_; rintro w' ⟨nd, rfl⟩))
 go_ret
 exact ⟨xre, xbl⟩
 )
 )
 )
 )
def cW : Nat → Int → Bool → ByteArray → Int → Option (Int)
  | 0, _, _, _, _ => none
  | k + 1, x0, x1, x2, x7 => if x7 < (x2.size : Int) then ((gU x0).bind fun Ab => (if Ab.2 = true then ((g5 k x2 x7).bind fun Ac => (if Ac.2 = true then (cW k x0 x1 x2 (wrap64 (x7 + 3))) else (if 0 ≤ x7 then (if x7 ≤ (x2.size : Int) then ((fT k (x2.extract (x7 : Int).toNat x2.size)).bind fun Aa => (if Aa.2.2 = true then ((g7 k x0 x1 Aa.1).bind fun Ad => (if Ad = true then (cW k x0 x1 x2 (wrap64 (x7 + Aa.2.1))) else (some x7))) else (some x7))) else (none)) else (none)))) else (some 0))) else (some x7)
def fL (k : Nat) (a0 : Int) (a1 : Bool) (a2 : ByteArray) : Option (Int) := cW k a0 a1 a2 0
theorem lD : ∀ k, (∀ y0 y1 y2 y3, LeO (cW k y0 y1 y2 y3) (cW (k + 1) y0 y1 y2 y3))
  | 0 => fun _ _ _ _ r h => by simp [cW] at h
  | k + 1 => by
    have ih0 := lD k
    have m0 := @mY; have m1 := @ng; have m2 := @kM
    · intro y0 y1 y2 y3
      unfold cW
      exact xmo
theorem mK : ∀ a0 a1 a2 k, LeO (fL k a0 a1 a2) (fL (k + 1) a0 a1 a2) := by
  intro a0 a1 a2 k
  have ih0 := lD k
  have m0 := @mY; have m1 := @ng; have m2 := @kM
  unfold fL
  exact xmo
theorem me (k : Nat) (a0 : Int) (a1 : Bool) (a2 : ByteArray) (r : Int) (w : World) (h : fL k a0 a1 a2 = some r) :
    Calls Tryz.prog 64 #[.int .i64 a0, .bool a1, .string a2] w fun e w' => e = .returned (.int .i64 r) ∧ Below w.heap.size w w' := by
 have HB := Zz.mk (Below.refl w.heap.size w)
 have H := h
 clear h
 unfold fL at H
 have H' := Zz.mk H
 clear H
 go_enter Tryz.func64, Tryz.ntmps64
 go_wp2
 go_loopg [7] k (fun kq v7 w' => ∃ Ab, v7 = .int .i64 Ab ∧ Zz (cW kq a0 a1 a2 Ab = some r) ∧ Zz (kq ≤ k) ∧ Zz (Below w.heap.size w w'))
 case atStart => exact ⟨(0), xrr, H', ⟨Nat.le_refl _⟩, ⟨xbl⟩⟩
 case round => (
 clear H'
 obtain ⟨Ab, rfl, HA, HK1, HB⟩ := hrel
 cases gk with
 | zero => exact absurd HA.out (by simp [cW])
 | succ k1 => (
 have H := HA.out
 clear HA
 simp only [cW] at H
 refine xid H ?_ ?_ <;> clear H <;> intro c4 H
 {
 have Ad := xdt c4
 clear c4
 replace H := xbd H
 obtain ⟨⟨Ah, Ai⟩, A5, H⟩ := H
 try dsimp only at H
 refine xib H ?_ ?_ <;> clear H <;> rintro rfl H
 {
 replace H := xbd H
 obtain ⟨⟨Aj, Ak⟩, A7, H⟩ := H
 try dsimp only at H
 refine xib H ?_ ?_ <;> clear H <;> rintro rfl H
 {
 replace H := xa H
 go_wp2_with (first | ((with_reducible refine xgc (f := 80) rfl ?_); refine xca 21 Tryz.func80 (dw (w := _) (h := A5.out)) ?_; rintro w' ⟨nd, rfl⟩) | ((with_reducible refine xgc (f := 81) rfl ?_); refine xca 29 Tryz.func81 (jn (w := _) (h := A7.out)) ?_; rintro w' ⟨nd, rfl⟩))
 go_roundg k1
 case measure => have := HK1.out; omega
 case rel => exact ⟨(wrap64 (Ab + 3)), xrr, H, ⟨by have := HK1.out; omega⟩, ⟨xbl⟩⟩
 }
 refine xin H ?_; clear H; intro c9 H
 obtain ⟨Al, Am⟩ := xcp c9
 clear c9
 refine xin H ?_; clear H; intro c10 H
 obtain ⟨Af, Ag⟩ := xcp c10
 clear c10
 obtain ⟨An, Aa⟩ : ∃ j_ : ByteArray, (a2.extract (Ab : Int).toNat a2.size) = j_ := ⟨_, rfl⟩
 try (have Ac := Aa; simp only [Int.toNat_natCast] at Ac)
 first | rw [Aa] at H | simp only [Aa] at H | skip
 (try rw [Aa] at A5)
 (try rw [Aa] at A7)
 replace H := xbd H
 obtain ⟨⟨Ao, Ae, Ap⟩, A12, H⟩ := H
 try dsimp only at H
 refine xib H ?_ ?_ <;> clear H <;> rintro rfl H
 {
 replace H := xbd H
 obtain ⟨Aq, A14, H⟩ := H
 try dsimp only at H
 refine xib H ?_ ?_ <;> clear H <;> rintro rfl H
 {
 replace H := xa H
 go_wp2_with (first | ((with_reducible refine xgc (f := 80) rfl ?_); refine xca 21 Tryz.func80 (dw (w := _) (h := A5.out)) ?_; rintro w' ⟨nd, rfl⟩) | ((with_reducible refine xgc (f := 81) rfl ?_); refine xca 29 Tryz.func81 (jn (w := _) (h := A7.out)) ?_; rintro w' ⟨nd, rfl⟩) | ((with_reducible refine xgc (f := 44) rfl ?_); refine xca 39 Tryz.func44 (iq (w := _) (h := A12.out)) ?_ (hargs := by (try simp only [xm1, xm2, xm3]); first | done | (simp only [Aa]; rfl) | rfl); rintro w16 hb; replace HB := xst hb; (try clear hb)) | (go_at_call 82; (with_reducible refine (mJ (w := _) (h := A14.out)).mono ?_); rintro e w17 ⟨rfl, hb⟩; replace HB := xst hb; (try clear hb)))
 first | go_roundg k1 | (simp only [← Aa]; go_roundg k1)
 case measure => have := HK1.out; omega
 case rel => exact ⟨(wrap64 (Ab + Ae)), xrr, H, ⟨by have := HK1.out; omega⟩, ⟨xbl⟩⟩
 }
 obtain rfl := Option.some.inj H
 go_wp2_with (first | ((with_reducible refine xgc (f := 80) rfl ?_); refine xca 21 Tryz.func80 (dw (w := _) (h := A5.out)) ?_; rintro w' ⟨nd, rfl⟩) | ((with_reducible refine xgc (f := 81) rfl ?_); refine xca 29 Tryz.func81 (jn (w := _) (h := A7.out)) ?_; rintro w' ⟨nd, rfl⟩) | ((with_reducible refine xgc (f := 44) rfl ?_); refine xca 39 Tryz.func44 (iq (w := _) (h := A12.out)) ?_ (hargs := by (try simp only [xm1, xm2, xm3]); first | done | (simp only [Aa]; rfl) | rfl); rintro w18 hb; replace HB := xst hb; (try clear hb)) | (go_at_call 82; (with_reducible refine (mJ (w := _) (h := A14.out)).mono ?_); rintro e w19 ⟨rfl, hb⟩; replace HB := xst hb; (try clear hb)))
 go_ret
 exact ⟨by first | exact xrd | (simp only [← Aa]; exact xrd) | exact xre, xbl⟩
 }
 obtain rfl := Option.some.inj H
 go_wp2_with (first | ((with_reducible refine xgc (f := 80) rfl ?_); refine xca 21 Tryz.func80 (dw (w := _) (h := A5.out)) ?_; rintro w' ⟨nd, rfl⟩) | ((with_reducible refine xgc (f := 81) rfl ?_); refine xca 29 Tryz.func81 (jn (w := _) (h := A7.out)) ?_; rintro w' ⟨nd, rfl⟩) | ((with_reducible refine xgc (f := 44) rfl ?_); refine xca 39 Tryz.func44 (iq (w := _) (h := A12.out)) ?_ (hargs := by (try simp only [xm1, xm2, xm3]); first | done | (simp only [Aa]; rfl) | rfl); rintro w20 hb; replace HB := xst hb; (try clear hb)))
 go_ret
 exact ⟨by first | exact xrd | (simp only [← Aa]; exact xrd) | exact xre, xbl⟩
 }
 obtain rfl := Option.some.inj H
 go_wp2_with (first | ((with_reducible refine xgc (f := 80) rfl ?_); refine xca 21 Tryz.func80 (dw (w := _) (h := A5.out)) ?_; rintro w' ⟨nd, rfl⟩))
 go_ret
 exact ⟨xre, xbl⟩
 }
 have Ad := xdf c4
 clear c4
 obtain rfl := Option.some.inj H
 go_wp2
 go_ret
 exact ⟨xre, xbl⟩
 )
 )
def gq (k : Nat) (a0 : Int) (a1 : Bool) (a2 : ByteArray) : Option (Bool) := (fL k a0 a1 a2).bind fun t157 => (some (t157 == (a2.size : Int)))
theorem jL : ∀ a0 a1 a2 k, LeO (gq k a0 a1 a2) (gq (k + 1) a0 a1 a2) := by
  intro a0 a1 a2 k
  have m0 := @mK
  unfold gq
  exact xmo
theorem iG (k : Nat) (a0 : Int) (a1 : Bool) (a2 : ByteArray) (r : Bool) (w : World) (h : gq k a0 a1 a2 = some r) :
    Calls Tryz.prog 77 #[.int .i64 a0, .bool a1, .string a2] w fun e w' => e = .returned (.bool r) ∧ Below w.heap.size w w' := by
 have HB := Zz.mk (Below.refl w.heap.size w)
 have H := h
 clear h
 unfold gq at H
 replace H := xbd H
 obtain ⟨t157, A4, H⟩ := H
 try dsimp only at H
 obtain rfl := Option.some.inj H
 go_enter Tryz.func77, Tryz.ntmps77
 go_wp2_with (first | ((with_reducible refine xgc (f := 64) rfl ?_); refine xca 10 Tryz.func64 (me (w := _) (h := A4.out)) ?_; rintro w5 hb; replace HB := xst hb; (try clear hb)))
 go_ret
 exact ⟨xre, xbl⟩
def it (a0 : ByteArray) (a1 : ByteArray) : Option (Int) := if a0.size < 4294967281 then some (Go.Lib.index a0.data.toList a1.data.toList) else none
theorem dR (a0 : ByteArray) (a1 : ByteArray) (r : Int) (w : World) (hG : GW w) (h : it a0 a1 = some r) :
    Calls Tryz.prog 113 #[.string a0, .string a1] w fun e w' => e = .returned (.int .i64 r) ∧ Drawn0 w w' := by
 unfold it at h
 by_cases hs : a0.size < 4294967281
 · rw [if_pos hs] at h
   obtain rfl := Option.some.inj h
   obtain ⟨m, hm⟩ := hG.maxLen
   refine (Tryz.stringslite_Index a0 a1 m w hs hm).mono ?_
   rintro e w' ⟨rfl, rfl⟩
   exact ⟨rfl, Drawn0.refl _⟩
 · rw [if_neg hs] at h; cases h
def iR (a0 : ByteArray) (a1 : ByteArray) : Option (ByteArray × ByteArray × Bool) := (it a0 a1).bind fun t158 => (if t158 ≥ 0 then (if 0 ≤ t158 then (if t158 ≤ (a0.size : Int) then (if 0 ≤ (wrap64 (t158 + (a1.size : Int))) then (if (wrap64 (t158 + (a1.size : Int))) ≤ (a0.size : Int) then (some (a0.extract 0 (t158 : Int).toNat, a0.extract ((wrap64 (t158 + (a1.size : Int))) : Int).toNat a0.size, true)) else (none)) else (none)) else (none)) else (none)) else (some (a0, (⟨#[]⟩ : ByteArray), false)))
theorem nm (a0 : ByteArray) (a1 : ByteArray) (r1 : ByteArray) (r2 : ByteArray) (r3 : Bool) (w : World) (hG : GW w) (h : iR a0 a1 = some (r1, r2, r3)) :
    Calls Tryz.prog 110 #[.string a0, .string a1] w fun e w' => e = .returned (.tuple #[.string r1, .string r2, .bool r3]) ∧ Drawn0 w w' := by
 have H := h
 clear h
 unfold iR at H
 replace H := xbd H
 obtain ⟨Aa, A3, H⟩ := H
 try dsimp only at H
 refine xid H ?_ ?_ <;> clear H <;> intro c4 H
 {
 have Af := xdt c4
 clear c4
 refine xin H ?_; clear H; intro c5 H
 obtain ⟨Ak, Al⟩ := xcp c5
 clear c5
 refine xin H ?_; clear H; intro c6 H
 obtain ⟨Am, An⟩ := xcp c6
 clear c6
 obtain ⟨Ar, Ac⟩ : ∃ j_ : ByteArray, (a0.extract 0 (Aa : Int).toNat) = j_ := ⟨_, rfl⟩
 try (have Ae := Ac; simp only [Int.toNat_natCast] at Ae)
 first | rw [Ac] at H | simp only [Ac] at H | skip
 (try rw [Ac] at A3)
 obtain ⟨Ag, Ad⟩ : ∃ j_ : Int, (wrap64 (Aa + (a1.size : Int))) = j_ := ⟨_, rfl⟩
 first | rw [Ad] at H | simp only [Ad] at H | skip
 (try rw [Ad] at A3)
 have Ah : (IntKind.i64.wrap (Aa + (a1.size : Int))) = Ag := (ag _).trans Ad
 refine xin H ?_; clear H; intro c9 H
 obtain ⟨Ao, Ap⟩ := xcp c9
 clear c9
 refine xin H ?_; clear H; intro c10 H
 obtain ⟨Ai, Aj⟩ := xcp c10
 clear c10
 obtain ⟨Aq, Ab⟩ : ∃ j_ : ByteArray, (a0.extract ((Ag) : Int).toNat a0.size) = j_ := ⟨_, rfl⟩
 first | rw [Ab] at H | simp only [Ab] at H | skip
 (try rw [Ab] at A3)
 simp only [Option.some.injEq, Prod.mk.injEq] at H
 obtain ⟨rfl, rfl, rfl⟩ := H
 go_enter Tryz.func110, Tryz.ntmps110
 go_wp2_with (first | (go_at_call 113; (with_reducible refine (dR a0 a1 Aa _ ?side1 A3.out).mono ?_); (case side1 => first | (with_reducible exact hG) | exact nu hG (by repeat (first | exact Drawn0.refl _ | apply Drawn0.step))); rintro e w' ⟨rfl, ⟨nd, rfl⟩⟩; (try exact xdd)))
 repeat (go_quiet (first | (go_at_call 113; (with_reducible refine (dR a0 a1 Aa _ ?side1 A3.out).mono ?_); (case side1 => first | (with_reducible exact hG) | exact nu hG (by repeat (first | exact Drawn0.refl _ | apply Drawn0.step))); rintro e w' ⟨rfl, ⟨nd, rfl⟩⟩; (try exact xdd))); try go_wp2_with (first | (go_at_call 113; (with_reducible refine (dR a0 a1 Aa _ ?side1 A3.out).mono ?_); (case side1 => first | (with_reducible exact hG) | exact nu hG (by repeat (first | exact Drawn0.refl _ | apply Drawn0.step))); rintro e w' ⟨rfl, ⟨nd, rfl⟩⟩; (try exact xdd))))
 go_ret3
 exact ⟨by first | exact xrs | (simp only [← Ac, ← Ad, ← Ab] <;> (first | rfl | simp)) | exact xrr, xdr⟩
 }
 have Af := xdf c4
 clear c4
 simp only [Option.some.injEq, Prod.mk.injEq] at H
 obtain ⟨rfl, rfl, rfl⟩ := H
 go_enter Tryz.func110, Tryz.ntmps110
 go_wp2_with (first | (go_at_call 113; (with_reducible refine (dR a0 a1 Aa _ ?side1 A3.out).mono ?_); (case side1 => first | (with_reducible exact hG) | exact nu hG (by repeat (first | exact Drawn0.refl _ | apply Drawn0.step))); rintro e w' ⟨rfl, ⟨nd, rfl⟩⟩; (try exact xdd)))
 repeat (go_quiet (first | (go_at_call 113; (with_reducible refine (dR a0 a1 Aa _ ?side1 A3.out).mono ?_); (case side1 => first | (with_reducible exact hG) | exact nu hG (by repeat (first | exact Drawn0.refl _ | apply Drawn0.step))); rintro e w' ⟨rfl, ⟨nd, rfl⟩⟩; (try exact xdd))); try go_wp2_with (first | (go_at_call 113; (with_reducible refine (dR a0 a1 Aa _ ?side1 A3.out).mono ?_); (case side1 => first | (with_reducible exact hG) | exact nu hG (by repeat (first | exact Drawn0.refl _ | apply Drawn0.step))); rintro e w' ⟨rfl, ⟨nd, rfl⟩⟩; (try exact xdd))))
 go_ret3
 exact ⟨xrr, xdr⟩
def dz (a0 : ByteArray) (a1 : ByteArray) : Option (ByteArray × ByteArray × Bool) := (iR a0 a1).bind fun bt159 => (some (bt159.1, bt159.2.1, bt159.2.2))
theorem eX (a0 : ByteArray) (a1 : ByteArray) (r1 : ByteArray) (r2 : ByteArray) (r3 : Bool) (w : World) (hG : GW w) (h : dz a0 a1 = some (r1, r2, r3)) :
    Calls Tryz.prog 104 #[.string a0, .string a1] w fun e w' => e = .returned (.tuple #[.string r1, .string r2, .bool r3]) ∧ Drawn0 w w' := by
 have H := h
 clear h
 unfold dz at H
 replace H := xbd H
 obtain ⟨⟨t159, t160, t161⟩, A3, H⟩ := H
 try dsimp only at H
 simp only [Option.some.injEq, Prod.mk.injEq] at H
 obtain ⟨rfl, rfl, rfl⟩ := H
 go_enter Tryz.func104, Tryz.ntmps104
 go_wp2_with (first | ((with_reducible refine xgc (f := 110) rfl ?_); refine xgl 9 Tryz.func110 #[.string a0, .string a1] ?_; (with_reducible refine (nm a0 a1 t159 t160 t161 _ ?side1 A3.out).mono ?_); (case side1 => first | (with_reducible exact hG) | exact nu hG (by repeat (first | exact Drawn0.refl _ | apply Drawn0.step))); rintro e w' ⟨rfl, ⟨nd, rfl⟩⟩; refine ⟨_, rfl, ?_⟩))
 go_ret3
 exact ⟨xrr, xdr⟩
def gQ (a0 : ByteArray) (a1 : ByteArray) : Option (List ByteArray) := if a0.size < 4294967281 ∧ 1 ≤ a1.size then some (Go.Lib.splitB a1 0 (Go.Lib.countB a0 a1) a0) else none
theorem jl (a0 : ByteArray) (a1 : ByteArray) (r : List ByteArray) (w : World) (hG : GW w) (h : gQ a0 a1 = some r) :
    Calls Tryz.prog 106 #[.string a0, .string a1] w fun e w' => ∃ v0_ : Value, e = .returned (v0_) ∧ Kd.R Kd.string 9 w' w.heap.size (fun _ => True) v0_ r ∧ Below w.heap.size w w' := by
 unfold gQ at h
 by_cases hs : a0.size < 4294967281 ∧ 1 ≤ a1.size
 · rw [if_pos hs] at h
   obtain rfl := Option.some.inj h
   obtain ⟨m, hm⟩ := hG.maxLen
   refine (Tryz.strings_Split a0 a1 m w hs.1 hm hs.2).mono ?_
   rintro e w' ⟨rfl, rfl⟩
   have hl := Go.Lib.splitB_all a1 hs.2 0 _ a0 rfl
   have hc := Go.Lib.countB_le a1 hs.2 a0.size a0 (Nat.le_refl _)
   refine ⟨_, rfl, ?_, (Below.refl _ _).alloc (Nat.le_refl _) _⟩
   refine Kd.R_of_own ⟨by simp [iu], .inr ⟨w.heap.size, _, _, by rw [hl], Nat.le_refl _, heap_alloc_new _ _, by rw [hl]; exact Nat.le_refl _, ?_, ?_, ?_⟩⟩ (fun _ _ => trivial)
   · have : maxLen = 9223372036854775807 := rfl
     omega
   · simp [hl]
   · simp only [iu, Nat.mul_one, List.toList_toArray]
     exact List.take_of_length_le (by simp)
 · rw [if_neg hs] at h; cases h
mutual
def cr : Nat → ByteArray → Bool → Option (Int × Bool)
  | 0, _, _ => none
  | k + 1, x0, x23 => if x23 = true then (some (0, false)) else (dy k x0 0 (x0.size : Int) 0)
def dy : Nat → ByteArray → Int → Int → Int → Option (Int × Bool)
  | 0, _, _, _, _ => none
  | k + 1, x0, x4, x25, x26 => if x26 < x25 then (if 0 ≤ x26 then (if x26 < (x0.size : Int) then ((fq k (bt x0 x26) 2).bind fun t162 => (if t162 = true then (dy k x0 (wrap64 ((wrap64 (10 * x4)) + (((bt x0 x26) - 48) % 256))) x25 (wrap64 (x26 + 1))) else (some (0, false)))) else (none)) else (none)) else (some ((x4) % 256, decide (x4 ≤ 255)))
end
def fe (k : Nat) (a0 : ByteArray) : Option (Int × Bool) := if (a0.size : Int) = 0 then (cr k a0 true) else (if (a0.size : Int) > 3 then (cr k a0 true) else (if (a0.size : Int) > 1 then (if 0 < (a0.size : Int) then (cr k a0 ((bt a0 0) == 48)) else (none)) else (cr k a0 false)))
theorem lB : ∀ k, (∀ y0 y1, LeO (cr k y0 y1) (cr (k + 1) y0 y1)) ∧ (∀ y0 y1 y2 y3, LeO (dy k y0 y1 y2 y3) (dy (k + 1) y0 y1 y2 y3))
  | 0 => ⟨fun _ _ r h => by simp [cr] at h, fun _ _ _ _ r h => by simp [dy] at h⟩
  | k + 1 => by
    obtain ⟨ih0, ih1⟩ := lB k
    have m0 := @ft
    refine ⟨?_, ?_⟩
    · intro y0 y1
      unfold cr
      exact xmo
    · intro y0 y1 y2 y3
      unfold dy
      exact xmo
theorem mH : ∀ a0 k, LeO (fe k a0) (fe (k + 1) a0) := by
  intro a0 k
  obtain ⟨ih0, ih1⟩ := lB k
  have m0 := @ft
  unfold fe
  exact xmo
theorem hY (k : Nat) (a0 : ByteArray) (r1 : Int) (r2 : Bool) (w : World) (h : fe k a0 = some (r1, r2)) :
    Calls Tryz.prog 107 #[.string a0] w fun e w' => e = .returned (.tuple #[.int .u8 r1, .bool r2]) ∧ Drawn0 w w' := by
 have H := h
 clear h
 unfold fe at H
 have Ae := Zz.mk H
 clear H
 go_enter Tryz.func107, Tryz.ntmps107
 go_upto_region 1 with (fail)
 go_cut [23] (fun v23 wc => ∃ kq Ab, v23 = .bool Ab ∧ Zz (cr kq a0 Ab = some (r1, r2)) ∧ Zz (kq ≤ k) ∧ Drawn0 w wc)
 case first => (
 have H := Ae.out
 clear Ae
 refine xid H ?_ ?_ <;> clear H <;> intro c3 H
 {
 obtain ⟨Ac, Af⟩ := xqe c3
 clear c3
 (first | rw [Ac] | (simp only [ag, ak]; rw [Ac]) | skip)
 replace H := xa H
 go_wp2
 go_meet
 case rel => exact ⟨_, (true), xrr, H, ⟨xom⟩, xdr⟩
 }
 obtain ⟨Ac, Af⟩ := xqn c3
 (first | rw [Ac] | (simp only [ag, ak]; rw [Ac]) | skip)
 refine xid H ?_ ?_ <;> clear H <;> intro c4 H
 {
 have Ag := xdt c4
 have Ah : decide (3 < a0.size) = true := decide_eq_true (by omega)
 clear c4
 replace H := xa H
 go_wp2
 go_meet
 case rel => exact ⟨_, (true), xrr, H, ⟨xom⟩, xdr⟩
 }
 have Ag := xdf c4
 have Ah : decide (3 < a0.size) = false := decide_eq_false (by omega)
 clear c4
 refine xid H ?_ ?_ <;> clear H <;> intro c5 H
 {
 have Ai := xdt c5
 have Aj : decide (1 < a0.size) = true := decide_eq_true (by omega)
 clear c5
 refine xin H ?_; clear H; intro c6 H
 have An := xdt c6
 have Ao : decide (0 < a0.size) = true := decide_eq_true (by omega)
 clear c6
 replace H := xa H
 obtain ⟨q7, Aq, hx7⟩ := xi0 a0 xod
 go_wp2
 go_meet
 case rel => exact ⟨_, (((bt a0 0) == 48)), xrr, H, ⟨xom⟩, xdr⟩
 }
 have Ai := xdf c5
 have Aj : decide (1 < a0.size) = false := decide_eq_false (by omega)
 clear c5
 replace H := xa H
 go_wp2
 go_meet
 case rel => exact ⟨_, (false), xrr, H, ⟨xom⟩, xdr⟩
 )
 case rest => (
 clear Ae
 obtain ⟨kq, Ab, rfl, HA, HJ1, ⟨mc1, rfl⟩⟩ := hcut
 cases kq with
 | zero => exact absurd HA.out (by simp [cr])
 | succ kj1 => (
 have H := HA.out
 clear HA
 simp only [cr] at H
 refine xib H ?_ ?_ <;> clear H <;> rintro rfl H
 {
 simp only [Option.some.injEq, Prod.mk.injEq] at H
 obtain ⟨rfl, rfl⟩ := H
 go_wp2
 go_ret2
 exact ⟨xrr, xdr⟩
 }
 have H' := Zz.mk H
 clear H
 go_wp2
 go_loopg [4, 26] kj1 (fun kq v4 v26 w' => ∃ Ad Aa, v4 = .int .i64 Ad ∧ v26 = .int .i64 Aa ∧ Zz (dy kq a0 Ad (a0.size : Int) Aa = some (r1, r2)) ∧ Zz (kq ≤ kj1) ∧ Drawn0 w w')
 case atStart => exact ⟨(0), (0), xrr, xrr, H', ⟨Nat.le_refl _⟩, xdr⟩
 case round => (
 clear H'
 obtain ⟨Ad, Aa, rfl, rfl, HA, HK2, ⟨m2, rfl⟩⟩ := hrel
 cases gk with
 | zero => exact absurd HA.out (by simp [dy])
 | succ k2 => (
 have H := HA.out
 clear HA
 simp only [dy] at H
 refine xid H ?_ ?_ <;> clear H <;> intro c9 H
 {
 have Ak := xdt c9
 clear c9
 refine xin H ?_; clear H; intro c10 H
 have Al := xdt c10
 clear c10
 refine xin H ?_; clear H; intro c11 H
 have Am := xdt c11
 clear c11
 replace H := xbd H
 obtain ⟨Ap, A13, H⟩ := H
 try dsimp only at H
 refine xib H ?_ ?_ <;> clear H <;> rintro rfl H
 {
 replace H := xa H
 obtain ⟨p12, q12, hx12⟩ := xiv a0 Aa xod xod
 go_wp2_with (first | ((with_reducible refine xgc (f := 61) rfl ?_); refine xca 32 Tryz.func61 (cX (w := _) (h := A13.out)) ?_; rintro w' ⟨nd, rfl⟩; obtain ⟨p15, q15, hx15⟩ := xiv a0 Aa xod xod))
 go_roundg k2
 case measure => have := HJ1.out; have := HK2.out; omega
 case rel => exact ⟨(wrap64 ((wrap64 (10 * Ad)) + (((bt a0 Aa) - 48) % 256))), (wrap64 (Aa + 1)), xrr, xrr, H, ⟨by have := HJ1.out; have := HK2.out; omega⟩, xdr⟩
 }
 simp only [Option.some.injEq, Prod.mk.injEq] at H
 obtain ⟨rfl, rfl⟩ := H
 obtain ⟨p12, q12, hx12⟩ := xiv a0 Aa xod xod
 go_wp2_with (first | ((with_reducible refine xgc (f := 61) rfl ?_); refine xca 32 Tryz.func61 (cX (w := _) (h := A13.out)) ?_; rintro w' ⟨nd, rfl⟩))
 go_ret2
 exact ⟨xrr, xdr⟩
 }
 have Ak := xdf c9
 clear c9
 simp only [Option.some.injEq, Prod.mk.injEq] at H
 obtain ⟨rfl, rfl⟩ := H
 go_wp2
 go_ret2
 exact ⟨xrr, xdr⟩
 )
 )
 )
 )
end Go.Proofs.YtpmflpeckoeooaaGreatDoor.X
