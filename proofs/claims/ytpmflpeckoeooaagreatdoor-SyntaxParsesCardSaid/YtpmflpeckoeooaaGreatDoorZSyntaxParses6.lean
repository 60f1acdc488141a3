/- Texts that the law's proof needs, joined by a program of this session. -/
import Derived.Test.YtpmflpeckoeooaaGreatDoorZSyntaxParses1
import Derived.Test.YtpmflpeckoeooaaGreatDoorZSyntaxParses2
import Derived.Test.YtpmflpeckoeooaaGreatDoorZSyntaxParses5
set_option maxHeartbeats 8000000
set_option maxRecDepth 100000
set_option linter.unusedSimpArgs false
set_option linter.unusedVariables false
namespace Go.Proofs.YtpmflpeckoeooaaGreatDoor.X
open Go.RowKit Go.Proofs.YtpmflpeckoeooaaGreatDoorW.PrintWords Go.Proofs.YtpmflpeckoeooaaGreatDoorW.PrintLast Go.Proofs.YtpmflpeckoeooaaGreatDoorW.PrintMore
attribute [local go_sem] ez ea gJ iY dq ir cv ia ic iU iV gz gA ib ie
def bU : Nat → Bool → ByteArray → Int → Bool → ByteArray → Bool → ByteArray → ByteArray → Bool → ByteArray → Bool → ByteArray → Option (ByteArray × Int × Bool × ByteArray × Bool × ByteArray × ByteArray × Bool × ByteArray × Bool × ByteArray)
  | 0, _, _, _, _, _, _, _, _, _, _, _, _ => none
  | k + 1, x1, Ac, Ad, Ae, Af, Ag, Ah, Ai, Aj, Ak, Al, Am => if x1 = true then ((ex Ac Ad Ae Af Ag Ah Ai Aj Ak Al Am (⟨#[35]⟩ : ByteArray)).bind fun Aa => (if Aa.1 = true then ((b9 k Aa.2.1 Aa.2.2.1 Aa.2.2.2.1 Aa.2.2.2.2.1 Aa.2.2.2.2.2.1 Aa.2.2.2.2.2.2.1 Aa.2.2.2.2.2.2.2.1 Aa.2.2.2.2.2.2.2.2.1 Aa.2.2.2.2.2.2.2.2.2.1 true Aa.2.2.2.2.2.2.2.2.2.2.2 7).bind fun Ab => (some (Ab.2.1, Ab.2.2.1, Ab.2.2.2.1, Ab.2.2.2.2.1, Ab.2.2.2.2.2.1, Ab.2.2.2.2.2.2.1, Ab.2.2.2.2.2.2.2.1, Ab.2.2.2.2.2.2.2.2.1, Ab.2.2.2.2.2.2.2.2.2.1, Ab.2.2.2.2.2.2.2.2.2.2.1, Ab.1))) else (some (Aa.2.1, Aa.2.2.1, Aa.2.2.2.1, Aa.2.2.2.2.1, Aa.2.2.2.2.2.1, Aa.2.2.2.2.2.2.1, Aa.2.2.2.2.2.2.2.1, Aa.2.2.2.2.2.2.2.2.1, Aa.2.2.2.2.2.2.2.2.2.1, Aa.2.2.2.2.2.2.2.2.2.2.1, Aa.2.2.2.2.2.2.2.2.2.2.2)))) else (some (Ac, Ad, Ae, Af, Ag, Ah, Ai, Aj, Ak, Al, Am))
def bA (k : Nat) (Ad : ByteArray) (Ae : Int) (Af : Bool) (Ag : ByteArray) (Ah : Bool) (Ai : ByteArray) (Aj : ByteArray) (Ak : Bool) (Al : ByteArray) (Am : Bool) (Ac : ByteArray) (a1 : Bool) : Option (ByteArray × Int × Bool × ByteArray × Bool × ByteArray × ByteArray × Bool × ByteArray × Bool × ByteArray) := (ex Ad Ae Af Ag Ah Ai Aj Ak Al Am Ac (⟨#[63]⟩ : ByteArray)).bind fun Aa => (if Aa.1 = true then ((b9 k Aa.2.1 Aa.2.2.1 Aa.2.2.2.1 Aa.2.2.2.2.1 Aa.2.2.2.2.2.1 Aa.2.2.2.2.2.2.1 Aa.2.2.2.2.2.2.2.1 true Aa.2.2.2.2.2.2.2.2.2.1 Aa.2.2.2.2.2.2.2.2.2.2.1 Aa.2.2.2.2.2.2.2.2.2.2.2 6).bind fun Ab => (bU k a1 Ab.2.1 Ab.2.2.1 Ab.2.2.2.1 Ab.2.2.2.2.1 Ab.2.2.2.2.2.1 Ab.2.2.2.2.2.2.1 Ab.2.2.2.2.2.2.2.1 Ab.2.2.2.2.2.2.2.2.1 Ab.1 Ab.2.2.2.2.2.2.2.2.2.2.1 Ab.2.2.2.2.2.2.2.2.2.2.2)) else (bU k a1 Aa.2.1 Aa.2.2.1 Aa.2.2.2.1 Aa.2.2.2.2.1 Aa.2.2.2.2.2.1 Aa.2.2.2.2.2.2.1 Aa.2.2.2.2.2.2.2.1 Aa.2.2.2.2.2.2.2.2.1 Aa.2.2.2.2.2.2.2.2.2.1 Aa.2.2.2.2.2.2.2.2.2.2.1 Aa.2.2.2.2.2.2.2.2.2.2.2))
theorem jT : ∀ k, (∀ y0 y1 y2 y3 y4 y5 y6 y7 y8 y9 y10 y11, LeO (bU k y0 y1 y2 y3 y4 y5 y6 y7 y8 y9 y10 y11) (bU (k + 1) y0 y1 y2 y3 y4 y5 y6 y7 y8 y9 y10 y11))
  | 0 => fun _ _ _ _ _ _ _ _ _ _ _ _ r h => by simp [bU] at h
  | k + 1 => by
    have ih0 := jT k
    have m0 := @gR
    · intro y0 y1 y2 y3 y4 y5 y6 y7 y8 y9 y10 y11
      unfold bU
      exact xmo
theorem np : ∀ a0 a1 a2 a3 a4 a5 a6 a7 a8 a9 a10 a11 k, LeO (bA k a0 a1 a2 a3 a4 a5 a6 a7 a8 a9 a10 a11) (bA (k + 1) a0 a1 a2 a3 a4 a5 a6 a7 a8 a9 a10 a11) := by
  intro a0 a1 a2 a3 a4 a5 a6 a7 a8 a9 a10 a11 k
  have ih0 := jT k
  have m0 := @gR
  unfold bA
  exact xmo
theorem cE (k : Nat) (g : Nat) (Am : ByteArray) (An : Int) (Ao : Bool) (Ap : ByteArray) (Aq : Bool) (Ar : ByteArray) (As : ByteArray) (At : Bool) (Au : ByteArray) (Av : Bool) (Al : ByteArray) (a1 : Bool) (r1 : ByteArray) (r2 : Int) (r3 : Bool) (r4 : ByteArray) (r5 : Bool) (r6 : ByteArray) (r7 : ByteArray) (r8 : Bool) (r9 : ByteArray) (r10 : Bool) (r11 : ByteArray) (w0 w : World) (hI : IsS53 w0 w g Am An Ao Ap Aq Ar As At Au Av Al) (hB : Below w0.heap.size w0 w) (h : bA k Am An Ao Ap Aq Ar As At Au Av Al a1 = some (r1, r2, r3, r4, r5, r6, r7, r8, r9, r10, r11)) :
    Calls Tryz.prog 31 #[.pointer (some ⟨g, 0, none⟩), .bool a1] w fun e w' => e = .returned (.tuple #[]) ∧ IsS53 w0 w' g r1 r2 r3 r4 r5 r6 r7 r8 r9 r10 r11 ∧ Below w0.heap.size w0 w' ∧ KeepBut w w' g none := by
 have HI0 := Zz.mk hI
 have HK := Zz.mk (KeepBut.refl w g none)
 have HL := Zz.mk hB.size
 clear hI
 have HW0 := Zz.mk hB.size
 have HB := Zz.mk hB
 clear hB
 have H := h
 clear h
 unfold bA at H
 replace H := xbd H
 obtain ⟨⟨AT, Aw, Ax, Ay, Az, AA, AB, AC, AD, AE, AF, AG⟩, A3, H⟩ := H
 try dsimp only at H
 have AH := Zz.mk H
 clear H
 go_enter Tryz.func31, Tryz.ntmps31
 go_upto_if 5 with (first | ((with_reducible refine xgc (f := 47) rfl ?_); refine xca 5 Tryz.func47 (eh (w := _) (hI := aE) (hB := ax) (h := A3.out)) ?_; rintro w5 ⟨hi, hb, hk⟩; replace HK := Zz.mk (KeepBut.trans xk hk (.inl rfl)); replace HB := Zz.mk (hb); replace HI0 := Zz.mk (hi); (try clear hb)))
 (try simp only [Act.put, xl1, xl2, xl3])
 go_cut [] (fun wc => ∃ kq Aa Ab Ac Ad Ae Af Ag Ah Ai Aj Ak, Zz (bU kq a1 Aa Ab Ac Ad Ae Af Ag Ah Ai Aj Ak = some (r1, r2, r3, r4, r5, r6, r7, r8, r9, r10, r11)) ∧ Zz (kq ≤ k) ∧ Zz (IsS53 w0 wc g Aa Ab Ac Ad Ae Af Ag Ah Ai Aj Ak) ∧ Zz (KeepBut w wc g none) ∧ Zz (Below w0.heap.size w0 wc))
 case first => (
 have H := AH.out
 clear AH
 refine xib H ?_ ?_ <;> clear H <;> rintro rfl H
 {
 replace H := xbd H
 obtain ⟨⟨AI, AJ, AK, AL, AM, AN, AO, AP, AQ, AU, AR, AS⟩, A7, H⟩ := H
 try dsimp only at H
 replace H := xa H
 have Bo := eY HI0.out.1
 go_wp2_with (first | ((with_reducible refine xgc (f := 49) rfl ?_); refine xca 12 Tryz.func49 (cD (w := _) (hI := aE) (hB := ax) (h := A7.out)) ?_; rintro w9 ⟨hi, hb, hk⟩; replace HK := Zz.mk (KeepBut.trans xk hk (.inl rfl)); replace HB := Zz.mk (hb); replace HI0 := Zz.mk (hi); (try clear hb); have AV := eY HI0.out.1))
 go_meet
 case rel => exact ⟨_, (AJ), (AK), (AL), (AM), (AN), (AO), (AP), (AQ), (AI), (AR), (AS), H, ⟨xom⟩, ⟨aE⟩, ⟨xk⟩, ⟨ax⟩⟩
 }
 replace H := xa H
 go_wp2
 go_meet
 case rel => exact ⟨_, (Aw), (Ax), (Ay), (Az), (AA), (AB), (AC), (AD), (AE), (AF), (AG), H, ⟨xom⟩, ⟨aE⟩, ⟨xk⟩, ⟨ax⟩⟩
 )
 case rest => (
 clear AH
 obtain ⟨kq, Aa, Ab, Ac, Ad, Ae, Af, Ag, Ah, Ai, Aj, Ak, HA, HJ3, HI0, HK, HB⟩ := hcut
 cases kq with
 | zero => exact absurd HA.out (by simp [bU])
 | succ kj3 => (
 have H := HA.out
 clear HA
 simp only [bU] at H
 refine xib H ?_ ?_ <;> clear H <;> rintro rfl H
 {
 replace H := xbd H
 obtain ⟨⟨AW, AX, AY, AZ, A0, A1, A2, A4, A5, A6, A8, A9⟩, A12, H⟩ := H
 try dsimp only at H
 refine xib H ?_ ?_ <;> clear H <;> rintro rfl H
 {
 replace H := xbd H
 obtain ⟨⟨Ba, Bb, Bc, Bd, Be, Bf, Bg, Bh, Bi, Bj, Bk, Bl⟩, A14, H⟩ := H
 try dsimp only at H
 simp only [Option.some.injEq, Prod.mk.injEq] at H
 obtain ⟨rfl, rfl, rfl, rfl, rfl, rfl, rfl, rfl, rfl, rfl, rfl⟩ := H
 go_wp2_with (first | (go_at_call 47; (with_reducible refine (eh (w := _) (hI := aE) (hB := ax) (h := A12.out)).mono ?_); rintro e w15 ⟨rfl, hi, hb, hk⟩; replace HK := Zz.mk (KeepBut.trans xk hk (.inl rfl)); replace HB := Zz.mk (hb); replace HI0 := Zz.mk (hi); (try clear hb); have Bm := eY HI0.out.1) | ((with_reducible refine xgc (f := 49) rfl ?_); refine xca 27 Tryz.func49 (cD (w := _) (hI := aE) (hB := ax) (h := A14.out)) ?_; rintro w17 ⟨hi, hb, hk⟩; replace HK := Zz.mk (KeepBut.trans xk hk (.inl rfl)); replace HB := Zz.mk (hb); replace HI0 := Zz.mk (hi); (try clear hb); have Bn := eY HI0.out.1))
 first | go_end0 | ((try simp only [Exit.inBlock, Exit.then]); refine bodyPost_ret (results_none rfl _ _ _) rfl ?_)
 exact ⟨xre, aE, ax, xk⟩
 }
 simp only [Option.some.injEq, Prod.mk.injEq] at H
 obtain ⟨rfl, rfl, rfl, rfl, rfl, rfl, rfl, rfl, rfl, rfl, rfl⟩ := H
 go_wp2_with (first | (go_at_call 47; (with_reducible refine (eh (w := _) (hI := aE) (hB := ax) (h := A12.out)).mono ?_); rintro e w19 ⟨rfl, hi, hb, hk⟩; replace HK := Zz.mk (KeepBut.trans xk hk (.inl rfl)); replace HB := Zz.mk (hb); replace HI0 := Zz.mk (hi); (try clear hb)))
 first | go_end0 | ((try simp only [Exit.inBlock, Exit.then]); refine bodyPost_ret (results_none rfl _ _ _) rfl ?_)
 exact ⟨xre, aE, ax, xk⟩
 }
 simp only [Option.some.injEq, Prod.mk.injEq] at H
 obtain ⟨rfl, rfl, rfl, rfl, rfl, rfl, rfl, rfl, rfl, rfl, rfl⟩ := H
 go_wp2
 first | go_end0 | ((try simp only [Exit.inBlock, Exit.then]); refine bodyPost_ret (results_none rfl _ _ _) rfl ?_)
 exact ⟨xre, aE, ax, xk⟩
 )
 )
def fZ (k : Nat) (a0 : Int) (a1 : ByteArray) : Option (ByteArray × Bool × ByteArray × ByteArray × Bool × ByteArray × Bool × ByteArray × Bool) := (eR a0).bind fun Ao => (if a0 = 2 then ((cy k a1 0 Ao (⟨#[]⟩ : ByteArray) false (⟨#[]⟩ : ByteArray) (⟨#[]⟩ : ByteArray) false (⟨#[]⟩ : ByteArray) false (⟨#[]⟩ : ByteArray)).bind fun Aa => (if Aa.1 = true then ((bl k Aa.2.1 Aa.2.2.1 Aa.2.2.2.1 Aa.2.2.2.2.1 Aa.2.2.2.2.2.1 Aa.2.2.2.2.2.2.1 Aa.2.2.2.2.2.2.2.1 Aa.2.2.2.2.2.2.2.2.1 Aa.2.2.2.2.2.2.2.2.2.1 Aa.2.2.2.2.2.2.2.2.2.2.1 Aa.2.2.2.2.2.2.2.2.2.2.2).bind fun Ac => (if Ac.1 = true then ((bz k Ac.2.1 Ac.2.2.1 Ac.2.2.2.1 Ac.2.2.2.2.1 Ac.2.2.2.2.2.1 Ac.2.2.2.2.2.2.1 Ac.2.2.2.2.2.2.2.1 Ac.2.2.2.2.2.2.2.2.1 Ac.2.2.2.2.2.2.2.2.2.1 Ac.2.2.2.2.2.2.2.2.2.2.1 Ac.2.2.2.2.2.2.2.2.2.2.2).bind fun Ad => (if Ad.1 = true then ((bA k Ad.2.1 Ad.2.2.1 Ad.2.2.2.1 Ad.2.2.2.2.1 Ad.2.2.2.2.2.1 Ad.2.2.2.2.2.2.1 Ad.2.2.2.2.2.2.2.1 Ad.2.2.2.2.2.2.2.2.1 Ad.2.2.2.2.2.2.2.2.2.1 Ad.2.2.2.2.2.2.2.2.2.2.1 Ad.2.2.2.2.2.2.2.2.2.2.2 (a0 != 3)).bind fun Ak => (if Ak.2.1 = (a1.size : Int) then (some (Ak.2.2.2.1, Ak.2.2.2.2.1, Ak.2.2.2.2.2.1, Ak.2.2.2.2.2.2.1, Ak.2.2.2.2.2.2.2.1, Ak.2.2.2.2.2.2.2.2.1, Ak.2.2.2.2.2.2.2.2.2.1, Ak.2.2.2.2.2.2.2.2.2.2, true)) else (some ((⟨#[]⟩ : ByteArray), false, (⟨#[]⟩ : ByteArray), (⟨#[]⟩ : ByteArray), false, (⟨#[]⟩ : ByteArray), false, (⟨#[]⟩ : ByteArray), false)))) else (some ((⟨#[]⟩ : ByteArray), false, (⟨#[]⟩ : ByteArray), (⟨#[]⟩ : ByteArray), false, (⟨#[]⟩ : ByteArray), false, (⟨#[]⟩ : ByteArray), false)))) else (some ((⟨#[]⟩ : ByteArray), false, (⟨#[]⟩ : ByteArray), (⟨#[]⟩ : ByteArray), false, (⟨#[]⟩ : ByteArray), false, (⟨#[]⟩ : ByteArray), false)))) else ((bl k Aa.2.1 Aa.2.2.1 Aa.2.2.2.1 Aa.2.2.2.2.1 Aa.2.2.2.2.2.1 Aa.2.2.2.2.2.2.1 Aa.2.2.2.2.2.2.2.1 Aa.2.2.2.2.2.2.2.2.1 Aa.2.2.2.2.2.2.2.2.2.1 Aa.2.2.2.2.2.2.2.2.2.2.1 Aa.2.2.2.2.2.2.2.2.2.2.2).bind fun Ae => (if Ae.1 = true then ((bz k Ae.2.1 Ae.2.2.1 Ae.2.2.2.1 Ae.2.2.2.2.1 Ae.2.2.2.2.2.1 Ae.2.2.2.2.2.2.1 Ae.2.2.2.2.2.2.2.1 Ae.2.2.2.2.2.2.2.2.1 Ae.2.2.2.2.2.2.2.2.2.1 Ae.2.2.2.2.2.2.2.2.2.2.1 Ae.2.2.2.2.2.2.2.2.2.2.2).bind fun Af => (if Af.1 = true then ((bA k Af.2.1 Af.2.2.1 Af.2.2.2.1 Af.2.2.2.2.1 Af.2.2.2.2.2.1 Af.2.2.2.2.2.2.1 Af.2.2.2.2.2.2.2.1 Af.2.2.2.2.2.2.2.2.1 Af.2.2.2.2.2.2.2.2.2.1 Af.2.2.2.2.2.2.2.2.2.2.1 Af.2.2.2.2.2.2.2.2.2.2.2 (a0 != 3)).bind fun Al => (if Al.2.1 = (a1.size : Int) then (some (Al.2.2.2.1, Al.2.2.2.2.1, Al.2.2.2.2.2.1, Al.2.2.2.2.2.2.1, Al.2.2.2.2.2.2.2.1, Al.2.2.2.2.2.2.2.2.1, Al.2.2.2.2.2.2.2.2.2.1, Al.2.2.2.2.2.2.2.2.2.2, true)) else (some ((⟨#[]⟩ : ByteArray), false, (⟨#[]⟩ : ByteArray), (⟨#[]⟩ : ByteArray), false, (⟨#[]⟩ : ByteArray), false, (⟨#[]⟩ : ByteArray), false)))) else (some ((⟨#[]⟩ : ByteArray), false, (⟨#[]⟩ : ByteArray), (⟨#[]⟩ : ByteArray), false, (⟨#[]⟩ : ByteArray), false, (⟨#[]⟩ : ByteArray), false)))) else (some ((⟨#[]⟩ : ByteArray), false, (⟨#[]⟩ : ByteArray), (⟨#[]⟩ : ByteArray), false, (⟨#[]⟩ : ByteArray), false, (⟨#[]⟩ : ByteArray), false)))))) else ((cy k a1 0 Ao (⟨#[]⟩ : ByteArray) false (⟨#[]⟩ : ByteArray) (⟨#[]⟩ : ByteArray) false (⟨#[]⟩ : ByteArray) false (⟨#[]⟩ : ByteArray)).bind fun Ab => (if Ab.1 = true then ((bl k Ab.2.1 Ab.2.2.1 Ab.2.2.2.1 Ab.2.2.2.2.1 Ab.2.2.2.2.2.1 Ab.2.2.2.2.2.2.1 Ab.2.2.2.2.2.2.2.1 Ab.2.2.2.2.2.2.2.2.1 Ab.2.2.2.2.2.2.2.2.2.1 Ab.2.2.2.2.2.2.2.2.2.2.1 Ab.2.2.2.2.2.2.2.2.2.2.2).bind fun Ag => (if Ag.1 = true then ((bz k Ag.2.1 Ag.2.2.1 Ag.2.2.2.1 Ag.2.2.2.2.1 Ag.2.2.2.2.2.1 Ag.2.2.2.2.2.2.1 Ag.2.2.2.2.2.2.2.1 Ag.2.2.2.2.2.2.2.2.1 Ag.2.2.2.2.2.2.2.2.2.1 Ag.2.2.2.2.2.2.2.2.2.2.1 Ag.2.2.2.2.2.2.2.2.2.2.2).bind fun Ah => (if Ah.1 = true then ((bA k Ah.2.1 Ah.2.2.1 Ah.2.2.2.1 Ah.2.2.2.2.1 Ah.2.2.2.2.2.1 Ah.2.2.2.2.2.2.1 Ah.2.2.2.2.2.2.2.1 Ah.2.2.2.2.2.2.2.2.1 Ah.2.2.2.2.2.2.2.2.2.1 Ah.2.2.2.2.2.2.2.2.2.2.1 Ah.2.2.2.2.2.2.2.2.2.2.2 (a0 != 3)).bind fun Am => (if Am.2.1 = (a1.size : Int) then (some (Am.2.2.2.1, Am.2.2.2.2.1, Am.2.2.2.2.2.1, Am.2.2.2.2.2.2.1, Am.2.2.2.2.2.2.2.1, Am.2.2.2.2.2.2.2.2.1, Am.2.2.2.2.2.2.2.2.2.1, Am.2.2.2.2.2.2.2.2.2.2, true)) else (some ((⟨#[]⟩ : ByteArray), false, (⟨#[]⟩ : ByteArray), (⟨#[]⟩ : ByteArray), false, (⟨#[]⟩ : ByteArray), false, (⟨#[]⟩ : ByteArray), false)))) else (some ((⟨#[]⟩ : ByteArray), false, (⟨#[]⟩ : ByteArray), (⟨#[]⟩ : ByteArray), false, (⟨#[]⟩ : ByteArray), false, (⟨#[]⟩ : ByteArray), false)))) else (some ((⟨#[]⟩ : ByteArray), false, (⟨#[]⟩ : ByteArray), (⟨#[]⟩ : ByteArray), false, (⟨#[]⟩ : ByteArray), false, (⟨#[]⟩ : ByteArray), false)))) else (if a0 = 5 then ((bl k Ab.2.1 Ab.2.2.1 Ab.2.2.2.1 Ab.2.2.2.2.1 Ab.2.2.2.2.2.1 Ab.2.2.2.2.2.2.1 Ab.2.2.2.2.2.2.2.1 Ab.2.2.2.2.2.2.2.2.1 Ab.2.2.2.2.2.2.2.2.2.1 Ab.2.2.2.2.2.2.2.2.2.2.1 Ab.2.2.2.2.2.2.2.2.2.2.2).bind fun Ai => (if Ai.1 = true then ((bz k Ai.2.1 Ai.2.2.1 Ai.2.2.2.1 Ai.2.2.2.2.1 Ai.2.2.2.2.2.1 Ai.2.2.2.2.2.2.1 Ai.2.2.2.2.2.2.2.1 Ai.2.2.2.2.2.2.2.2.1 Ai.2.2.2.2.2.2.2.2.2.1 Ai.2.2.2.2.2.2.2.2.2.2.1 Ai.2.2.2.2.2.2.2.2.2.2.2).bind fun Aj => (if Aj.1 = true then ((bA k Aj.2.1 Aj.2.2.1 Aj.2.2.2.1 Aj.2.2.2.2.1 Aj.2.2.2.2.2.1 Aj.2.2.2.2.2.2.1 Aj.2.2.2.2.2.2.2.1 Aj.2.2.2.2.2.2.2.2.1 Aj.2.2.2.2.2.2.2.2.2.1 Aj.2.2.2.2.2.2.2.2.2.2.1 Aj.2.2.2.2.2.2.2.2.2.2.2 (a0 != 3)).bind fun An => (if An.2.1 = (a1.size : Int) then (some (An.2.2.2.1, An.2.2.2.2.1, An.2.2.2.2.2.1, An.2.2.2.2.2.2.1, An.2.2.2.2.2.2.2.1, An.2.2.2.2.2.2.2.2.1, An.2.2.2.2.2.2.2.2.2.1, An.2.2.2.2.2.2.2.2.2.2, true)) else (some ((⟨#[]⟩ : ByteArray), false, (⟨#[]⟩ : ByteArray), (⟨#[]⟩ : ByteArray), false, (⟨#[]⟩ : ByteArray), false, (⟨#[]⟩ : ByteArray), false)))) else (some ((⟨#[]⟩ : ByteArray), false, (⟨#[]⟩ : ByteArray), (⟨#[]⟩ : ByteArray), false, (⟨#[]⟩ : ByteArray), false, (⟨#[]⟩ : ByteArray), false)))) else (some ((⟨#[]⟩ : ByteArray), false, (⟨#[]⟩ : ByteArray), (⟨#[]⟩ : ByteArray), false, (⟨#[]⟩ : ByteArray), false, (⟨#[]⟩ : ByteArray), false)))) else (some ((⟨#[]⟩ : ByteArray), false, (⟨#[]⟩ : ByteArray), (⟨#[]⟩ : ByteArray), false, (⟨#[]⟩ : ByteArray), false, (⟨#[]⟩ : ByteArray), false))))))
theorem mt : ∀ a0 a1 k, LeO (fZ k a0 a1) (fZ (k + 1) a0 a1) := by
  intro a0 a1 k
  have m0 := @lA; have m1 := @nn; have m2 := @mB; have m3 := @np
  unfold fZ
  exact xmo
theorem lI (k : Nat) (a0 : Int) (a1 : ByteArray) (r1 : ByteArray) (r2 : Bool) (r3 : ByteArray) (r4 : ByteArray) (r5 : Bool) (r6 : ByteArray) (r7 : Bool) (r8 : ByteArray) (r9 : Bool) (w : World) (hG : GW w) (h : fZ k a0 a1 = some (r1, r2, r3, r4, r5, r6, r7, r8, r9)) :
    Calls Tryz.prog 19 #[.int .i64 a0, .string a1] w fun e w' => e = .returned (.tuple #[.agg #[.string r1, .bool r2, .string r3, .string r4, .bool r5, .string r6, .bool r7, .string r8], .bool r9]) ∧ Below w.heap.size w w' := by
 have hu24 := Tryz.underlying24
 have hu53 := Tryz.underlying53
 have HB := Zz.mk (Below.refl w.heap.size w)
 have H := h
 clear h
 unfold fZ at H
 replace H := xbd H
 obtain ⟨Ah, A3, H⟩ := H
 try dsimp only at H
 refine xid H ?_ ?_ <;> clear H <;> intro c4 H
 {
 obtain ⟨At, Au⟩ := xqe c4
 clear c4
 replace H := xbd H
 obtain ⟨⟨BP, BQ, BR, BS, BT, BU, BV, BW, BX, BY, BZ, B0⟩, A5, H⟩ := H
 try dsimp only at H
 refine xib H ?_ ?_ <;> clear H <;> rintro rfl H
 {
 replace H := xbd H
 obtain ⟨⟨B1, B2, B3, B4, B5, B6, B7, B8, B9, Ca, Cb, Cc⟩, A7, H⟩ := H
 try dsimp only at H
 refine xib H ?_ ?_ <;> clear H <;> rintro rfl H
 {
 replace H := xbd H
 obtain ⟨⟨Cd, Ce, Cf, Cg, Ch, Ci, Cj, Ck, Cl, Cm, Cn, Co⟩, A9, H⟩ := H
 try dsimp only at H
 refine xib H ?_ ?_ <;> clear H <;> rintro rfl H
 {
 replace H := xbd H
 obtain ⟨⟨Cp, Cq, Cr, Av, Aw, Ax, Ay, Az, AA, AB, AC⟩, A11, H⟩ := H
 try dsimp only at H
 refine xid H ?_ ?_ <;> clear H <;> intro c12 H
 {
 obtain ⟨An, Ao⟩ := xqe c12
 clear c12
 simp only [Option.some.injEq, Prod.mk.injEq] at H
 obtain ⟨rfl, rfl, rfl, rfl, rfl, rfl, rfl, rfl, rfl⟩ := H
 go_enter Tryz.func19, Tryz.ntmps19
 go_wp2_with (first | (refine gL 0 rfl ?_) | (refine wp_goto ?_) | (refine wp_label ?_) | (refine Eq.mpr (cv (l := 0)) ?_) | ((with_reducible refine be (t := 24) (p := 4) rfl ?_); refine xwr 24 4 48 8 Aa Ae ?_; intro wz_ Aa HB) | ((with_reducible refine be (t := 24) (p := 4) rfl ?_); refine xwr 24 4 49 8 Aa Ae ?_; intro wz_ Aa HB) | ((with_reducible refine aj (N := 4) rfl ?_); refine xew 4 ?_; intro Ac w13 Aa Ae hb hg; replace HB := xst hb; clear hb hg) | ((with_reducible refine xgc (f := 15) rfl ?_); refine xca 10 Tryz.func15 (aM (w := _) (h := A3.out)) ?_; rintro w' ⟨nd, rfl⟩; (try (rw [aW w13]; generalize hq_ : World.drewN w13 _ = w13; have n0_ := xbr Ac hq_; have n1_ : Zz (Below w.heap.size w w13) := ⟨by rw [← hq_]; exact xbl⟩; clear Aa HB hq_; have Aa := n0_; have HB := n1_; clear n0_ n1_))) | ((with_reducible refine aj (N := 12) rfl ?_); refine xev 12 #[.string a1, .int .i64 0, .bool Ah, .string (⟨#[]⟩ : ByteArray), .bool false, .string (⟨#[]⟩ : ByteArray), .string (⟨#[]⟩ : ByteArray), .bool false, .string (⟨#[]⟩ : ByteArray), .bool false, .string (⟨#[]⟩ : ByteArray)] 53 ?_; intro Af hg w14 hbox hb; have Ag := xsz hg; have Ai := Ag; have Ab := xlt (g := Ac) hg; have Ad := xgt (g := Ac) hg; have HI330 := Zz.mk ((show IsS53 w w14 Af a1 0 Ah (⟨#[]⟩ : ByteArray) false (⟨#[]⟩ : ByteArray) (⟨#[]⟩ : ByteArray) false (⟨#[]⟩ : ByteArray) false (⟨#[]⟩ : ByteArray) from ⟨hbox, (by rw [hg]; exact (aq xbl) : w.heap.size ≤ Af)⟩)); replace Aa := xbq Ac hb; replace HB := xst hb; clear hb hbox hg) | ((with_reducible refine xgc (f := 28) rfl ?_); refine xca 20 Tryz.func28 (aN (w := _) (hI := aE) (hB := ax) (h := A5.out)) ?_; rintro w15 ⟨hi, hb, hk⟩; replace Aa := ca Ac hk Ab; replace HB := Zz.mk (hb); replace HI330 := Zz.mk (hi); (try clear hb)) | ((with_reducible refine xgc (f := 29) rfl ?_); refine xca 27 Tryz.func29 (aI (w := _) (hI := aE) (hB := ax) (hG := iX) (h := A7.out)) ?_; rintro w16 ⟨hi, hb, hk⟩; replace Aa := ca Ac hk Ab; replace HB := Zz.mk (hb); replace HI330 := Zz.mk (hi); (try clear hb)) | (go_at_call 30; (with_reducible refine (bq (w := _) (hI := aE) (hB := ax) (h := A9.out)).mono ?_); rintro e w17 ⟨rfl, hi, hb, hk⟩; replace Aa := ca Ac hk Ab; replace HB := Zz.mk (hb); replace HI330 := Zz.mk (hi); (try clear hb)) | ((with_reducible refine xgc (f := 31) rfl ?_); refine xca 37 Tryz.func31 (cE (w := _) (hI := aE) (hB := ax) (h := A11.out)) ?_; rintro w18 ⟨hi, hb, hk⟩; replace Aa := ca Ac hk Ab; replace HB := Zz.mk (hb); replace HI330 := Zz.mk (hi); (try clear hb); have Cs := eY HI330.out.1; have Bl := Ab.out; have Bm := Ad.out; have Ct := xz8 Aa.out))
 (try simp only [dq])
 refine bodyPost_ret (aH rfl _ _ Ac 24 #[.string Av, .bool Aw, .string Ax, .string Ay, .bool Az, .string AA, .bool AB, .string AC] (0, 0) _ rfl xbk Tryz.underlying24 rfl (by kernel_rfl)) rfl ?_
 exact ⟨xre, ax⟩
 }
 obtain ⟨An, Ao⟩ := xqn c12
 simp only [Option.some.injEq, Prod.mk.injEq] at H
 obtain ⟨rfl, rfl, rfl, rfl, rfl, rfl, rfl, rfl, rfl⟩ := H
 go_enter Tryz.func19, Tryz.ntmps19
 go_wp2_with (first | (refine gL 0 rfl ?_) | (refine wp_goto ?_) | (refine wp_label ?_) | (refine Eq.mpr (cv (l := 0)) ?_) | ((with_reducible refine be (t := 24) (p := 4) rfl ?_); refine xwr 24 4 48 8 Aa Ae ?_; intro wz_ Aa HB) | ((with_reducible refine be (t := 24) (p := 4) rfl ?_); refine xwr 24 4 49 8 Aa Ae ?_; intro wz_ Aa HB) | ((with_reducible refine aj (N := 4) rfl ?_); refine xew 4 ?_; intro Ac w22 Aa Ae hb hg; replace HB := xst hb; clear hb hg) | ((with_reducible refine xgc (f := 15) rfl ?_); refine xca 10 Tryz.func15 (aM (w := _) (h := A3.out)) ?_; rintro w' ⟨nd, rfl⟩; (try (rw [aW w22]; generalize hq_ : World.drewN w22 _ = w22; have n0_ := xbr Ac hq_; have n1_ : Zz (Below w.heap.size w w22) := ⟨by rw [← hq_]; exact xbl⟩; clear Aa HB hq_; have Aa := n0_; have HB := n1_; clear n0_ n1_))) | ((with_reducible refine aj (N := 12) rfl ?_); refine xev 12 #[.string a1, .int .i64 0, .bool Ah, .string (⟨#[]⟩ : ByteArray), .bool false, .string (⟨#[]⟩ : ByteArray), .string (⟨#[]⟩ : ByteArray), .bool false, .string (⟨#[]⟩ : ByteArray), .bool false, .string (⟨#[]⟩ : ByteArray)] 53 ?_; intro Af hg w23 hbox hb; have Ag := xsz hg; have Ai := Ag; have Ab := xlt (g := Ac) hg; have Ad := xgt (g := Ac) hg; have HI330 := Zz.mk ((show IsS53 w w23 Af a1 0 Ah (⟨#[]⟩ : ByteArray) false (⟨#[]⟩ : ByteArray) (⟨#[]⟩ : ByteArray) false (⟨#[]⟩ : ByteArray) false (⟨#[]⟩ : ByteArray) from ⟨hbox, (by rw [hg]; exact (aq xbl) : w.heap.size ≤ Af)⟩)); replace Aa := xbq Ac hb; replace HB := xst hb; clear hb hbox hg) | ((with_reducible refine xgc (f := 28) rfl ?_); refine xca 20 Tryz.func28 (aN (w := _) (hI := aE) (hB := ax) (h := A5.out)) ?_; rintro w24 ⟨hi, hb, hk⟩; replace Aa := ca Ac hk Ab; replace HB := Zz.mk (hb); replace HI330 := Zz.mk (hi); (try clear hb)) | ((with_reducible refine xgc (f := 29) rfl ?_); refine xca 27 Tryz.func29 (aI (w := _) (hI := aE) (hB := ax) (hG := iX) (h := A7.out)) ?_; rintro w25 ⟨hi, hb, hk⟩; replace Aa := ca Ac hk Ab; replace HB := Zz.mk (hb); replace HI330 := Zz.mk (hi); (try clear hb)) | (go_at_call 30; (with_reducible refine (bq (w := _) (hI := aE) (hB := ax) (h := A9.out)).mono ?_); rintro e w26 ⟨rfl, hi, hb, hk⟩; replace Aa := ca Ac hk Ab; replace HB := Zz.mk (hb); replace HI330 := Zz.mk (hi); (try clear hb)) | ((with_reducible refine xgc (f := 31) rfl ?_); refine xca 37 Tryz.func31 (cE (w := _) (hI := aE) (hB := ax) (h := A11.out)) ?_; rintro w27 ⟨hi, hb, hk⟩; replace Aa := ca Ac hk Ab; replace HB := Zz.mk (hb); replace HI330 := Zz.mk (hi); (try clear hb); have Cu := eY HI330.out.1; have Bn := Ab.out; have Bo := Ad.out; have Cv := xz8 Aa.out))
 (try simp only [dq])
 refine bodyPost_ret (aH rfl _ _ Ac 24 #[.string (⟨#[]⟩ : ByteArray), .bool false, .string (⟨#[]⟩ : ByteArray), .string (⟨#[]⟩ : ByteArray), .bool false, .string (⟨#[]⟩ : ByteArray), .bool false, .string (⟨#[]⟩ : ByteArray)] (0, 0) _ rfl xbk Tryz.underlying24 rfl (by kernel_rfl)) rfl ?_
 exact ⟨xre, ax⟩
 }
 simp only [Option.some.injEq, Prod.mk.injEq] at H
 obtain ⟨rfl, rfl, rfl, rfl, rfl, rfl, rfl, rfl, rfl⟩ := H
 go_enter Tryz.func19, Tryz.ntmps19
 go_wp2_with (first | (refine gL 0 rfl ?_) | (refine wp_goto ?_) | (refine wp_label ?_) | (refine Eq.mpr (cv (l := 0)) ?_) | ((with_reducible refine be (t := 24) (p := 4) rfl ?_); refine xwr 24 4 48 8 Aa Ae ?_; intro wz_ Aa HB) | ((with_reducible refine be (t := 24) (p := 4) rfl ?_); refine xwr 24 4 49 8 Aa Ae ?_; intro wz_ Aa HB) | ((with_reducible refine aj (N := 4) rfl ?_); refine xew 4 ?_; intro Ac w31 Aa Ae hb hg; replace HB := xst hb; clear hb hg) | ((with_reducible refine xgc (f := 15) rfl ?_); refine xca 10 Tryz.func15 (aM (w := _) (h := A3.out)) ?_; rintro w' ⟨nd, rfl⟩; (try (rw [aW w31]; generalize hq_ : World.drewN w31 _ = w31; have n0_ := xbr Ac hq_; have n1_ : Zz (Below w.heap.size w w31) := ⟨by rw [← hq_]; exact xbl⟩; clear Aa HB hq_; have Aa := n0_; have HB := n1_; clear n0_ n1_))) | ((with_reducible refine aj (N := 12) rfl ?_); refine xev 12 #[.string a1, .int .i64 0, .bool Ah, .string (⟨#[]⟩ : ByteArray), .bool false, .string (⟨#[]⟩ : ByteArray), .string (⟨#[]⟩ : ByteArray), .bool false, .string (⟨#[]⟩ : ByteArray), .bool false, .string (⟨#[]⟩ : ByteArray)] 53 ?_; intro Af hg w32 hbox hb; have Ag := xsz hg; have Ai := Ag; have Ab := xlt (g := Ac) hg; have Ad := xgt (g := Ac) hg; have HI330 := Zz.mk ((show IsS53 w w32 Af a1 0 Ah (⟨#[]⟩ : ByteArray) false (⟨#[]⟩ : ByteArray) (⟨#[]⟩ : ByteArray) false (⟨#[]⟩ : ByteArray) false (⟨#[]⟩ : ByteArray) from ⟨hbox, (by rw [hg]; exact (aq xbl) : w.heap.size ≤ Af)⟩)); replace Aa := xbq Ac hb; replace HB := xst hb; clear hb hbox hg) | ((with_reducible refine xgc (f := 28) rfl ?_); refine xca 20 Tryz.func28 (aN (w := _) (hI := aE) (hB := ax) (h := A5.out)) ?_; rintro w33 ⟨hi, hb, hk⟩; replace Aa := ca Ac hk Ab; replace HB := Zz.mk (hb); replace HI330 := Zz.mk (hi); (try clear hb)) | ((with_reducible refine xgc (f := 29) rfl ?_); refine xca 27 Tryz.func29 (aI (w := _) (hI := aE) (hB := ax) (hG := iX) (h := A7.out)) ?_; rintro w34 ⟨hi, hb, hk⟩; replace Aa := ca Ac hk Ab; replace HB := Zz.mk (hb); replace HI330 := Zz.mk (hi); (try clear hb)) | (go_at_call 30; (with_reducible refine (bq (w := _) (hI := aE) (hB := ax) (h := A9.out)).mono ?_); rintro e w35 ⟨rfl, hi, hb, hk⟩; replace Aa := ca Ac hk Ab; replace HB := Zz.mk (hb); replace HI330 := Zz.mk (hi); (try clear hb); have Bp := Ab.out; have Bq := Ad.out; have Cw := xz8 Aa.out))
 (try simp only [dq])
 refine bodyPost_ret (aH rfl _ _ Ac 24 #[.string (⟨#[]⟩ : ByteArray), .bool false, .string (⟨#[]⟩ : ByteArray), .string (⟨#[]⟩ : ByteArray), .bool false, .string (⟨#[]⟩ : ByteArray), .bool false, .string (⟨#[]⟩ : ByteArray)] (0, 0) _ rfl xbk Tryz.underlying24 rfl (by kernel_rfl)) rfl ?_
 exact ⟨xre, ax⟩
 }
 simp only [Option.some.injEq, Prod.mk.injEq] at H
 obtain ⟨rfl, rfl, rfl, rfl, rfl, rfl, rfl, rfl, rfl⟩ := H
 go_enter Tryz.func19, Tryz.ntmps19
 go_wp2_with (first | (refine gL 0 rfl ?_) | (refine wp_goto ?_) | (refine wp_label ?_) | (refine Eq.mpr (cv (l := 0)) ?_) | ((with_reducible refine be (t := 24) (p := 4) rfl ?_); refine xwr 24 4 48 8 Aa Ae ?_; intro wz_ Aa HB) | ((with_reducible refine be (t := 24) (p := 4) rfl ?_); refine xwr 24 4 49 8 Aa Ae ?_; intro wz_ Aa HB) | ((with_reducible refine aj (N := 4) rfl ?_); refine xew 4 ?_; intro Ac w38 Aa Ae hb hg; replace HB := xst hb; clear hb hg) | ((with_reducible refine xgc (f := 15) rfl ?_); refine xca 10 Tryz.func15 (aM (w := _) (h := A3.out)) ?_; rintro w' ⟨nd, rfl⟩; (try (rw [aW w38]; generalize hq_ : World.drewN w38 _ = w38; have n0_ := xbr Ac hq_; have n1_ : Zz (Below w.heap.size w w38) := ⟨by rw [← hq_]; exact xbl⟩; clear Aa HB hq_; have Aa := n0_; have HB := n1_; clear n0_ n1_))) | ((with_reducible refine aj (N := 12) rfl ?_); refine xev 12 #[.string a1, .int .i64 0, .bool Ah, .string (⟨#[]⟩ : ByteArray), .bool false, .string (⟨#[]⟩ : ByteArray), .string (⟨#[]⟩ : ByteArray), .bool false, .string (⟨#[]⟩ : ByteArray), .bool false, .string (⟨#[]⟩ : ByteArray)] 53 ?_; intro Af hg w39 hbox hb; have Ag := xsz hg; have Ai := Ag; have Ab := xlt (g := Ac) hg; have Ad := xgt (g := Ac) hg; have HI330 := Zz.mk ((show IsS53 w w39 Af a1 0 Ah (⟨#[]⟩ : ByteArray) false (⟨#[]⟩ : ByteArray) (⟨#[]⟩ : ByteArray) false (⟨#[]⟩ : ByteArray) false (⟨#[]⟩ : ByteArray) from ⟨hbox, (by rw [hg]; exact (aq xbl) : w.heap.size ≤ Af)⟩)); replace Aa := xbq Ac hb; replace HB := xst hb; clear hb hbox hg) | ((with_reducible refine xgc (f := 28) rfl ?_); refine xca 20 Tryz.func28 (aN (w := _) (hI := aE) (hB := ax) (h := A5.out)) ?_; rintro w40 ⟨hi, hb, hk⟩; replace Aa := ca Ac hk Ab; replace HB := Zz.mk (hb); replace HI330 := Zz.mk (hi); (try clear hb)) | ((with_reducible refine xgc (f := 29) rfl ?_); refine xca 27 Tryz.func29 (aI (w := _) (hI := aE) (hB := ax) (hG := iX) (h := A7.out)) ?_; rintro w41 ⟨hi, hb, hk⟩; replace Aa := ca Ac hk Ab; replace HB := Zz.mk (hb); replace HI330 := Zz.mk (hi); (try clear hb); have Br := Ab.out; have Bs := Ad.out; have Cx := xz8 Aa.out))
 (try simp only [dq])
 refine bodyPost_ret (aH rfl _ _ Ac 24 #[.string (⟨#[]⟩ : ByteArray), .bool false, .string (⟨#[]⟩ : ByteArray), .string (⟨#[]⟩ : ByteArray), .bool false, .string (⟨#[]⟩ : ByteArray), .bool false, .string (⟨#[]⟩ : ByteArray)] (0, 0) _ rfl xbk Tryz.underlying24 rfl (by kernel_rfl)) rfl ?_
 exact ⟨xre, ax⟩
 }
 replace H := xbd H
 obtain ⟨⟨Cy, Cz, CA, CB, CC, CD, CE, CF, CG, CH, CI, CJ⟩, A44, H⟩ := H
 try dsimp only at H
 refine xib H ?_ ?_ <;> clear H <;> rintro rfl H
 {
 replace H := xbd H
 obtain ⟨⟨CK, CL, CM, CN, CO, CP, CQ, CR, CS, CT, CU, CV⟩, A46, H⟩ := H
 try dsimp only at H
 refine xib H ?_ ?_ <;> clear H <;> rintro rfl H
 {
 replace H := xbd H
 obtain ⟨⟨CW, CX, CY, AD, AE, AF, AG, AH, AI, AJ, AK⟩, A48, H⟩ := H
 try dsimp only at H
 refine xid H ?_ ?_ <;> clear H <;> intro c49 H
 {
 obtain ⟨Ap, Aq⟩ := xqe c49
 clear c49
 simp only [Option.some.injEq, Prod.mk.injEq] at H
 obtain ⟨rfl, rfl, rfl, rfl, rfl, rfl, rfl, rfl, rfl⟩ := H
 go_enter Tryz.func19, Tryz.ntmps19
 go_wp2_with (first | (refine gL 0 rfl ?_) | (refine wp_goto ?_) | (refine wp_label ?_) | (refine Eq.mpr (cv (l := 0)) ?_) | ((with_reducible refine be (t := 24) (p := 4) rfl ?_); refine xwr 24 4 48 8 Aa Ae ?_; intro wz_ Aa HB) | ((with_reducible refine be (t := 24) (p := 4) rfl ?_); refine xwr 24 4 49 8 Aa Ae ?_; intro wz_ Aa HB) | ((with_reducible refine aj (N := 4) rfl ?_); refine xew 4 ?_; intro Ac w50 Aa Ae hb hg; replace HB := xst hb; clear hb hg) | ((with_reducible refine xgc (f := 15) rfl ?_); refine xca 10 Tryz.func15 (aM (w := _) (h := A3.out)) ?_; rintro w' ⟨nd, rfl⟩; (try (rw [aW w50]; generalize hq_ : World.drewN w50 _ = w50; have n0_ := xbr Ac hq_; have n1_ : Zz (Below w.heap.size w w50) := ⟨by rw [← hq_]; exact xbl⟩; clear Aa HB hq_; have Aa := n0_; have HB := n1_; clear n0_ n1_))) | ((with_reducible refine aj (N := 12) rfl ?_); refine xev 12 #[.string a1, .int .i64 0, .bool Ah, .string (⟨#[]⟩ : ByteArray), .bool false, .string (⟨#[]⟩ : ByteArray), .string (⟨#[]⟩ : ByteArray), .bool false, .string (⟨#[]⟩ : ByteArray), .bool false, .string (⟨#[]⟩ : ByteArray)] 53 ?_; intro Af hg w51 hbox hb; have Ag := xsz hg; have Ai := Ag; have Ab := xlt (g := Ac) hg; have Ad := xgt (g := Ac) hg; have HI330 := Zz.mk ((show IsS53 w w51 Af a1 0 Ah (⟨#[]⟩ : ByteArray) false (⟨#[]⟩ : ByteArray) (⟨#[]⟩ : ByteArray) false (⟨#[]⟩ : ByteArray) false (⟨#[]⟩ : ByteArray) from ⟨hbox, (by rw [hg]; exact (aq xbl) : w.heap.size ≤ Af)⟩)); replace Aa := xbq Ac hb; replace HB := xst hb; clear hb hbox hg) | ((with_reducible refine xgc (f := 28) rfl ?_); refine xca 20 Tryz.func28 (aN (w := _) (hI := aE) (hB := ax) (h := A5.out)) ?_; rintro w52 ⟨hi, hb, hk⟩; replace Aa := ca Ac hk Ab; replace HB := Zz.mk (hb); replace HI330 := Zz.mk (hi); (try clear hb)) | ((with_reducible refine xgc (f := 29) rfl ?_); refine xca 27 Tryz.func29 (aI (w := _) (hI := aE) (hB := ax) (hG := iX) (h := A44.out)) ?_; rintro w53 ⟨hi, hb, hk⟩; replace Aa := ca Ac hk Ab; replace HB := Zz.mk (hb); replace HI330 := Zz.mk (hi); (try clear hb)) | (go_at_call 30; (with_reducible refine (bq (w := _) (hI := aE) (hB := ax) (h := A46.out)).mono ?_); rintro e w54 ⟨rfl, hi, hb, hk⟩; replace Aa := ca Ac hk Ab; replace HB := Zz.mk (hb); replace HI330 := Zz.mk (hi); (try clear hb)) | ((with_reducible refine xgc (f := 31) rfl ?_); refine xca 37 Tryz.func31 (cE (w := _) (hI := aE) (hB := ax) (h := A48.out)) ?_; rintro w55 ⟨hi, hb, hk⟩; replace Aa := ca Ac hk Ab; replace HB := Zz.mk (hb); replace HI330 := Zz.mk (hi); (try clear hb); have CZ := eY HI330.out.1; have Bt := Ab.out; have Bu := Ad.out; have C0 := xz8 Aa.out))
 (try simp only [dq])
 refine bodyPost_ret (aH rfl _ _ Ac 24 #[.string AD, .bool AE, .string AF, .string AG, .bool AH, .string AI, .bool AJ, .string AK] (0, 0) _ rfl xbk Tryz.underlying24 rfl (by kernel_rfl)) rfl ?_
 exact ⟨xre, ax⟩
 }
 obtain ⟨Ap, Aq⟩ := xqn c49
 simp only [Option.some.injEq, Prod.mk.injEq] at H
 obtain ⟨rfl, rfl, rfl, rfl, rfl, rfl, rfl, rfl, rfl⟩ := H
 go_enter Tryz.func19, Tryz.ntmps19
 go_wp2_with (first | (refine gL 0 rfl ?_) | (refine wp_goto ?_) | (refine wp_label ?_) | (refine Eq.mpr (cv (l := 0)) ?_) | ((with_reducible refine be (t := 24) (p := 4) rfl ?_); refine xwr 24 4 48 8 Aa Ae ?_; intro wz_ Aa HB) | ((with_reducible refine be (t := 24) (p := 4) rfl ?_); refine xwr 24 4 49 8 Aa Ae ?_; intro wz_ Aa HB) | ((with_reducible refine aj (N := 4) rfl ?_); refine xew 4 ?_; intro Ac w59 Aa Ae hb hg; replace HB := xst hb; clear hb hg) | ((with_reducible refine xgc (f := 15) rfl ?_); refine xca 10 Tryz.func15 (aM (w := _) (h := A3.out)) ?_; rintro w' ⟨nd, rfl⟩; (try (rw [aW w59]; generalize hq_ : World.drewN w59 _ = w59; have n0_ := xbr Ac hq_; have n1_ : Zz (Below w.heap.size w w59) := ⟨by rw [← hq_]; exact xbl⟩; clear Aa HB hq_; have Aa := n0_; have HB := n1_; clear n0_ n1_))) | ((with_reducible refine aj (N := 12) rfl ?_); refine xev 12 #[.string a1, .int .i64 0, .bool Ah, .string (⟨#[]⟩ : ByteArray), .bool false, .string (⟨#[]⟩ : ByteArray), .string (⟨#[]⟩ : ByteArray), .bool false, .string (⟨#[]⟩ : ByteArray), .bool false, .string (⟨#[]⟩ : ByteArray)] 53 ?_; intro Af hg w60 hbox hb; have Ag := xsz hg; have Ai := Ag; have Ab := xlt (g := Ac) hg; have Ad := xgt (g := Ac) hg; have HI330 := Zz.mk ((show IsS53 w w60 Af a1 0 Ah (⟨#[]⟩ : ByteArray) false (⟨#[]⟩ : ByteArray) (⟨#[]⟩ : ByteArray) false (⟨#[]⟩ : ByteArray) false (⟨#[]⟩ : ByteArray) from ⟨hbox, (by rw [hg]; exact (aq xbl) : w.heap.size ≤ Af)⟩)); replace Aa := xbq Ac hb; replace HB := xst hb; clear hb hbox hg) | ((with_reducible refine xgc (f := 28) rfl ?_); refine xca 20 Tryz.func28 (aN (w := _) (hI := aE) (hB := ax) (h := A5.out)) ?_; rintro w61 ⟨hi, hb, hk⟩; replace Aa := ca Ac hk Ab; replace HB := Zz.mk (hb); replace HI330 := Zz.mk (hi); (try clear hb)) | ((with_reducible refine xgc (f := 29) rfl ?_); refine xca 27 Tryz.func29 (aI (w := _) (hI := aE) (hB := ax) (hG := iX) (h := A44.out)) ?_; rintro w62 ⟨hi, hb, hk⟩; replace Aa := ca Ac hk Ab; replace HB := Zz.mk (hb); replace HI330 := Zz.mk (hi); (try clear hb)) | (go_at_call 30; (with_reducible refine (bq (w := _) (hI := aE) (hB := ax) (h := A46.out)).mono ?_); rintro e w63 ⟨rfl, hi, hb, hk⟩; replace Aa := ca Ac hk Ab; replace HB := Zz.mk (hb); replace HI330 := Zz.mk (hi); (try clear hb)) | ((with_reducible refine xgc (f := 31) rfl ?_); refine xca 37 Tryz.func31 (cE (w := _) (hI := aE) (hB := ax) (h := A48.out)) ?_; rintro w64 ⟨hi, hb, hk⟩; replace Aa := ca Ac hk Ab; replace HB := Zz.mk (hb); replace HI330 := Zz.mk (hi); (try clear hb); have C1 := eY HI330.out.1; have Bv := Ab.out; have Bw := Ad.out; have C2 := xz8 Aa.out))
 (try simp only [dq])
 refine bodyPost_ret (aH rfl _ _ Ac 24 #[.string (⟨#[]⟩ : ByteArray), .bool false, .string (⟨#[]⟩ : ByteArray), .string (⟨#[]⟩ : ByteArray), .bool false, .string (⟨#[]⟩ : ByteArray), .bool false, .string (⟨#[]⟩ : ByteArray)] (0, 0) _ rfl xbk Tryz.underlying24 rfl (by kernel_rfl)) rfl ?_
 exact ⟨xre, ax⟩
 }
 simp only [Option.some.injEq, Prod.mk.injEq] at H
 obtain ⟨rfl, rfl, rfl, rfl, rfl, rfl, rfl, rfl, rfl⟩ := H
 go_enter Tryz.func19, Tryz.ntmps19
 go_wp2_with (first | (refine gL 0 rfl ?_) | (refine wp_goto ?_) | (refine wp_label ?_) | (refine Eq.mpr (cv (l := 0)) ?_) | ((with_reducible refine be (t := 24) (p := 4) rfl ?_); refine xwr 24 4 48 8 Aa Ae ?_; intro wz_ Aa HB) | ((with_reducible refine be (t := 24) (p := 4) rfl ?_); refine xwr 24 4 49 8 Aa Ae ?_; intro wz_ Aa HB) | ((with_reducible refine aj (N := 4) rfl ?_); refine xew 4 ?_; intro Ac w68 Aa Ae hb hg; replace HB := xst hb; clear hb hg) | ((with_reducible refine xgc (f := 15) rfl ?_); refine xca 10 Tryz.func15 (aM (w := _) (h := A3.out)) ?_; rintro w' ⟨nd, rfl⟩; (try (rw [aW w68]; generalize hq_ : World.drewN w68 _ = w68; have n0_ := xbr Ac hq_; have n1_ : Zz (Below w.heap.size w w68) := ⟨by rw [← hq_]; exact xbl⟩; clear Aa HB hq_; have Aa := n0_; have HB := n1_; clear n0_ n1_))) | ((with_reducible refine aj (N := 12) rfl ?_); refine xev 12 #[.string a1, .int .i64 0, .bool Ah, .string (⟨#[]⟩ : ByteArray), .bool false, .string (⟨#[]⟩ : ByteArray), .string (⟨#[]⟩ : ByteArray), .bool false, .string (⟨#[]⟩ : ByteArray), .bool false, .string (⟨#[]⟩ : ByteArray)] 53 ?_; intro Af hg w69 hbox hb; have Ag := xsz hg; have Ai := Ag; have Ab := xlt (g := Ac) hg; have Ad := xgt (g := Ac) hg; have HI330 := Zz.mk ((show IsS53 w w69 Af a1 0 Ah (⟨#[]⟩ : ByteArray) false (⟨#[]⟩ : ByteArray) (⟨#[]⟩ : ByteArray) false (⟨#[]⟩ : ByteArray) false (⟨#[]⟩ : ByteArray) from ⟨hbox, (by rw [hg]; exact (aq xbl) : w.heap.size ≤ Af)⟩)); replace Aa := xbq Ac hb; replace HB := xst hb; clear hb hbox hg) | ((with_reducible refine xgc (f := 28) rfl ?_); refine xca 20 Tryz.func28 (aN (w := _) (hI := aE) (hB := ax) (h := A5.out)) ?_; rintro w70 ⟨hi, hb, hk⟩; replace Aa := ca Ac hk Ab; replace HB := Zz.mk (hb); replace HI330 := Zz.mk (hi); (try clear hb)) | ((with_reducible refine xgc (f := 29) rfl ?_); refine xca 27 Tryz.func29 (aI (w := _) (hI := aE) (hB := ax) (hG := iX) (h := A44.out)) ?_; rintro w71 ⟨hi, hb, hk⟩; replace Aa := ca Ac hk Ab; replace HB := Zz.mk (hb); replace HI330 := Zz.mk (hi); (try clear hb)) | (go_at_call 30; (with_reducible refine (bq (w := _) (hI := aE) (hB := ax) (h := A46.out)).mono ?_); rintro e w72 ⟨rfl, hi, hb, hk⟩; replace Aa := ca Ac hk Ab; replace HB := Zz.mk (hb); replace HI330 := Zz.mk (hi); (try clear hb); have Bx := Ab.out; have By := Ad.out; have C3 := xz8 Aa.out))
 (try simp only [dq])
 refine bodyPost_ret (aH rfl _ _ Ac 24 #[.string (⟨#[]⟩ : ByteArray), .bool false, .string (⟨#[]⟩ : ByteArray), .string (⟨#[]⟩ : ByteArray), .bool false, .string (⟨#[]⟩ : ByteArray), .bool false, .string (⟨#[]⟩ : ByteArray)] (0, 0) _ rfl xbk Tryz.underlying24 rfl (by kernel_rfl)) rfl ?_
 exact ⟨xre, ax⟩
 }
 simp only [Option.some.injEq, Prod.mk.injEq] at H
 obtain ⟨rfl, rfl, rfl, rfl, rfl, rfl, rfl, rfl, rfl⟩ := H
 go_enter Tryz.func19, Tryz.ntmps19
 go_wp2_with (first | (refine gL 0 rfl ?_) | (refine wp_goto ?_) | (refine wp_label ?_) | (refine Eq.mpr (cv (l := 0)) ?_) | ((with_reducible refine be (t := 24) (p := 4) rfl ?_); refine xwr 24 4 48 8 Aa Ae ?_; intro wz_ Aa HB) | ((with_reducible refine be (t := 24) (p := 4) rfl ?_); refine xwr 24 4 49 8 Aa Ae ?_; intro wz_ Aa HB) | ((with_reducible refine aj (N := 4) rfl ?_); refine xew 4 ?_; intro Ac w75 Aa Ae hb hg; replace HB := xst hb; clear hb hg) | ((with_reducible refine xgc (f := 15) rfl ?_); refine xca 10 Tryz.func15 (aM (w := _) (h := A3.out)) ?_; rintro w' ⟨nd, rfl⟩; (try (rw [aW w75]; generalize hq_ : World.drewN w75 _ = w75; have n0_ := xbr Ac hq_; have n1_ : Zz (Below w.heap.size w w75) := ⟨by rw [← hq_]; exact xbl⟩; clear Aa HB hq_; have Aa := n0_; have HB := n1_; clear n0_ n1_))) | ((with_reducible refine aj (N := 12) rfl ?_); refine xev 12 #[.string a1, .int .i64 0, .bool Ah, .string (⟨#[]⟩ : ByteArray), .bool false, .string (⟨#[]⟩ : ByteArray), .string (⟨#[]⟩ : ByteArray), .bool false, .string (⟨#[]⟩ : ByteArray), .bool false, .string (⟨#[]⟩ : ByteArray)] 53 ?_; intro Af hg w76 hbox hb; have Ag := xsz hg; have Ai := Ag; have Ab := xlt (g := Ac) hg; have Ad := xgt (g := Ac) hg; have HI330 := Zz.mk ((show IsS53 w w76 Af a1 0 Ah (⟨#[]⟩ : ByteArray) false (⟨#[]⟩ : ByteArray) (⟨#[]⟩ : ByteArray) false (⟨#[]⟩ : ByteArray) false (⟨#[]⟩ : ByteArray) from ⟨hbox, (by rw [hg]; exact (aq xbl) : w.heap.size ≤ Af)⟩)); replace Aa := xbq Ac hb; replace HB := xst hb; clear hb hbox hg) | ((with_reducible refine xgc (f := 28) rfl ?_); refine xca 20 Tryz.func28 (aN (w := _) (hI := aE) (hB := ax) (h := A5.out)) ?_; rintro w77 ⟨hi, hb, hk⟩; replace Aa := ca Ac hk Ab; replace HB := Zz.mk (hb); replace HI330 := Zz.mk (hi); (try clear hb)) | ((with_reducible refine xgc (f := 29) rfl ?_); refine xca 27 Tryz.func29 (aI (w := _) (hI := aE) (hB := ax) (hG := iX) (h := A44.out)) ?_; rintro w78 ⟨hi, hb, hk⟩; replace Aa := ca Ac hk Ab; replace HB := Zz.mk (hb); replace HI330 := Zz.mk (hi); (try clear hb); have Bz := Ab.out; have BA := Ad.out; have C4 := xz8 Aa.out))
 (try simp only [dq])
 refine bodyPost_ret (aH rfl _ _ Ac 24 #[.string (⟨#[]⟩ : ByteArray), .bool false, .string (⟨#[]⟩ : ByteArray), .string (⟨#[]⟩ : ByteArray), .bool false, .string (⟨#[]⟩ : ByteArray), .bool false, .string (⟨#[]⟩ : ByteArray)] (0, 0) _ rfl xbk Tryz.underlying24 rfl (by kernel_rfl)) rfl ?_
 exact ⟨xre, ax⟩
 }
 obtain ⟨At, Au⟩ := xqn c4
 replace H := xbd H
 obtain ⟨⟨C5, C6, C7, C8, C9, Da, Db, Dc, Dd, De, Df, Dg⟩, A81, H⟩ := H
 try dsimp only at H
 refine xib H ?_ ?_ <;> clear H <;> rintro rfl H
 {
 replace H := xbd H
 obtain ⟨⟨Dh, Di, Dj, Dk, Dl, Dm, Dn, Do, Dp, Dq, Dr, Ds⟩, A83, H⟩ := H
 try dsimp only at H
 refine xib H ?_ ?_ <;> clear H <;> rintro rfl H
 {
 replace H := xbd H
 obtain ⟨⟨Dt, Du, Dv, Dw, Dx, Dy, Dz, DA, DB, DC, DD, DE⟩, A85, H⟩ := H
 try dsimp only at H
 refine xib H ?_ ?_ <;> clear H <;> rintro rfl H
 {
 replace H := xbd H
 obtain ⟨⟨DF, DG, DH, AL, AM, AN, AO, AP, AQ, AR, AS⟩, A87, H⟩ := H
 try dsimp only at H
 refine xid H ?_ ?_ <;> clear H <;> intro c88 H
 {
 obtain ⟨Ar, As⟩ := xqe c88
 clear c88
 simp only [Option.some.injEq, Prod.mk.injEq] at H
 obtain ⟨rfl, rfl, rfl, rfl, rfl, rfl, rfl, rfl, rfl⟩ := H
 go_enter Tryz.func19, Tryz.ntmps19
 go_wp2_with (first | (refine gL 0 rfl ?_) | (refine wp_goto ?_) | (refine wp_label ?_) | (refine Eq.mpr (cv (l := 0)) ?_) | ((with_reducible refine be (t := 24) (p := 4) rfl ?_); refine xwr 24 4 48 8 Aa Ae ?_; intro wz_ Aa HB) | ((with_reducible refine be (t := 24) (p := 4) rfl ?_); refine xwr 24 4 49 8 Aa Ae ?_; intro wz_ Aa HB) | ((with_reducible refine aj (N := 4) rfl ?_); refine xew 4 ?_; intro Ac w89 Aa Ae hb hg; replace HB := xst hb; clear hb hg) | ((with_reducible refine xgc (f := 15) rfl ?_); refine xca 10 Tryz.func15 (aM (w := _) (h := A3.out)) ?_; rintro w' ⟨nd, rfl⟩; (try (rw [aW w89]; generalize hq_ : World.drewN w89 _ = w89; have n0_ := xbr Ac hq_; have n1_ : Zz (Below w.heap.size w w89) := ⟨by rw [← hq_]; exact xbl⟩; clear Aa HB hq_; have Aa := n0_; have HB := n1_; clear n0_ n1_))) | ((with_reducible refine aj (N := 12) rfl ?_); refine xev 12 #[.string a1, .int .i64 0, .bool Ah, .string (⟨#[]⟩ : ByteArray), .bool false, .string (⟨#[]⟩ : ByteArray), .string (⟨#[]⟩ : ByteArray), .bool false, .string (⟨#[]⟩ : ByteArray), .bool false, .string (⟨#[]⟩ : ByteArray)] 53 ?_; intro Af hg w90 hbox hb; have Ag := xsz hg; have Ai := Ag; have Ab := xlt (g := Ac) hg; have Ad := xgt (g := Ac) hg; have HI330 := Zz.mk ((show IsS53 w w90 Af a1 0 Ah (⟨#[]⟩ : ByteArray) false (⟨#[]⟩ : ByteArray) (⟨#[]⟩ : ByteArray) false (⟨#[]⟩ : ByteArray) false (⟨#[]⟩ : ByteArray) from ⟨hbox, (by rw [hg]; exact (aq xbl) : w.heap.size ≤ Af)⟩)); replace Aa := xbq Ac hb; replace HB := xst hb; clear hb hbox hg) | ((with_reducible refine xgc (f := 28) rfl ?_); refine xca 20 Tryz.func28 (aN (w := _) (hI := aE) (hB := ax) (h := A81.out)) ?_; rintro w91 ⟨hi, hb, hk⟩; replace Aa := ca Ac hk Ab; replace HB := Zz.mk (hb); replace HI330 := Zz.mk (hi); (try clear hb)) | ((with_reducible refine xgc (f := 29) rfl ?_); refine xca 27 Tryz.func29 (aI (w := _) (hI := aE) (hB := ax) (hG := iX) (h := A83.out)) ?_; rintro w92 ⟨hi, hb, hk⟩; replace Aa := ca Ac hk Ab; replace HB := Zz.mk (hb); replace HI330 := Zz.mk (hi); (try clear hb)) | (go_at_call 30; (with_reducible refine (bq (w := _) (hI := aE) (hB := ax) (h := A85.out)).mono ?_); rintro e w93 ⟨rfl, hi, hb, hk⟩; replace Aa := ca Ac hk Ab; replace HB := Zz.mk (hb); replace HI330 := Zz.mk (hi); (try clear hb)) | ((with_reducible refine xgc (f := 31) rfl ?_); refine xca 37 Tryz.func31 (cE (w := _) (hI := aE) (hB := ax) (h := A87.out)) ?_; rintro w94 ⟨hi, hb, hk⟩; replace Aa := ca Ac hk Ab; replace HB := Zz.mk (hb); replace HI330 := Zz.mk (hi); (try clear hb); have DI := eY HI330.out.1; have BB := Ab.out; have BC := Ad.out; have DJ := xz8 Aa.out))
 (try simp only [dq])
 refine bodyPost_ret (aH rfl _ _ Ac 24 #[.string AL, .bool AM, .string AN, .string AO, .bool AP, .string AQ, .bool AR, .string AS] (0, 0) _ rfl xbk Tryz.underlying24 rfl (by kernel_rfl)) rfl ?_
 exact ⟨xre, ax⟩
 }
 obtain ⟨Ar, As⟩ := xqn c88
 simp only [Option.some.injEq, Prod.mk.injEq] at H
 obtain ⟨rfl, rfl, rfl, rfl, rfl, rfl, rfl, rfl, rfl⟩ := H
 go_enter Tryz.func19, Tryz.ntmps19
 go_wp2_with (first | (refine gL 0 rfl ?_) | (refine wp_goto ?_) | (refine wp_label ?_) | (refine Eq.mpr (cv (l := 0)) ?_) | ((with_reducible refine be (t := 24) (p := 4) rfl ?_); refine xwr 24 4 48 8 Aa Ae ?_; intro wz_ Aa HB) | ((with_reducible refine be (t := 24) (p := 4) rfl ?_); refine xwr 24 4 49 8 Aa Ae ?_; intro wz_ Aa HB) | ((with_reducible refine aj (N := 4) rfl ?_); refine xew 4 ?_; intro Ac w98 Aa Ae hb hg; replace HB := xst hb; clear hb hg) | ((with_reducible refine xgc (f := 15) rfl ?_); refine xca 10 Tryz.func15 (aM (w := _) (h := A3.out)) ?_; rintro w' ⟨nd, rfl⟩; (try (rw [aW w98]; generalize hq_ : World.drewN w98 _ = w98; have n0_ := xbr Ac hq_; have n1_ : Zz (Below w.heap.size w w98) := ⟨by rw [← hq_]; exact xbl⟩; clear Aa HB hq_; have Aa := n0_; have HB := n1_; clear n0_ n1_))) | ((with_reducible refine aj (N := 12) rfl ?_); refine xev 12 #[.string a1, .int .i64 0, .bool Ah, .string (⟨#[]⟩ : ByteArray), .bool false, .string (⟨#[]⟩ : ByteArray), .string (⟨#[]⟩ : ByteArray), .bool false, .string (⟨#[]⟩ : ByteArray), .bool false, .string (⟨#[]⟩ : ByteArray)] 53 ?_; intro Af hg w99 hbox hb; have Ag := xsz hg; have Ai := Ag; have Ab := xlt (g := Ac) hg; have Ad := xgt (g := Ac) hg; have HI330 := Zz.mk ((show IsS53 w w99 Af a1 0 Ah (⟨#[]⟩ : ByteArray) false (⟨#[]⟩ : ByteArray) (⟨#[]⟩ : ByteArray) false (⟨#[]⟩ : ByteArray) false (⟨#[]⟩ : ByteArray) from ⟨hbox, (by rw [hg]; exact (aq xbl) : w.heap.size ≤ Af)⟩)); replace Aa := xbq Ac hb; replace HB := xst hb; clear hb hbox hg) | ((with_reducible refine xgc (f := 28) rfl ?_); refine xca 20 Tryz.func28 (aN (w := _) (hI := aE) (hB := ax) (h := A81.out)) ?_; rintro w100 ⟨hi, hb, hk⟩; replace Aa := ca Ac hk Ab; replace HB := Zz.mk (hb); replace HI330 := Zz.mk (hi); (try clear hb)) | ((with_reducible refine xgc (f := 29) rfl ?_); refine xca 27 Tryz.func29 (aI (w := _) (hI := aE) (hB := ax) (hG := iX) (h := A83.out)) ?_; rintro w101 ⟨hi, hb, hk⟩; replace Aa := ca Ac hk Ab; replace HB := Zz.mk (hb); replace HI330 := Zz.mk (hi); (try clear hb)) | (go_at_call 30; (with_reducible refine (bq (w := _) (hI := aE) (hB := ax) (h := A85.out)).mono ?_); rintro e w102 ⟨rfl, hi, hb, hk⟩; replace Aa := ca Ac hk Ab; replace HB := Zz.mk (hb); replace HI330 := Zz.mk (hi); (try clear hb)) | ((with_reducible refine xgc (f := 31) rfl ?_); refine xca 37 Tryz.func31 (cE (w := _) (hI := aE) (hB := ax) (h := A87.out)) ?_; rintro w103 ⟨hi, hb, hk⟩; replace Aa := ca Ac hk Ab; replace HB := Zz.mk (hb); replace HI330 := Zz.mk (hi); (try clear hb); have BD := eY HI330.out.1; have AT := Ab.out; have AU := Ad.out; have BE := xz8 Aa.out))
 (try simp only [dq])
 refine bodyPost_ret (aH rfl _ _ Ac 24 #[.string (⟨#[]⟩ : ByteArray), .bool false, .string (⟨#[]⟩ : ByteArray), .string (⟨#[]⟩ : ByteArray), .bool false, .string (⟨#[]⟩ : ByteArray), .bool false, .string (⟨#[]⟩ : ByteArray)] (0, 0) _ rfl xbk Tryz.underlying24 rfl (by kernel_rfl)) rfl ?_
 exact ⟨xre, ax⟩
 }
 simp only [Option.some.injEq, Prod.mk.injEq] at H
 obtain ⟨rfl, rfl, rfl, rfl, rfl, rfl, rfl, rfl, rfl⟩ := H
 go_enter Tryz.func19, Tryz.ntmps19
 go_wp2_with (first | (refine gL 0 rfl ?_) | (refine wp_goto ?_) | (refine wp_label ?_) | (refine Eq.mpr (cv (l := 0)) ?_) | ((with_reducible refine be (t := 24) (p := 4) rfl ?_); refine xwr 24 4 48 8 Aa Ae ?_; intro wz_ Aa HB) | ((with_reducible refine be (t := 24) (p := 4) rfl ?_); refine xwr 24 4 49 8 Aa Ae ?_; intro wz_ Aa HB) | ((with_reducible refine aj (N := 4) rfl ?_); refine xew 4 ?_; intro Ac w107 Aa Ae hb hg; replace HB := xst hb; clear hb hg) | ((with_reducible refine xgc (f := 15) rfl ?_); refine xca 10 Tryz.func15 (aM (w := _) (h := A3.out)) ?_; rintro w' ⟨nd, rfl⟩; (try (rw [aW w107]; generalize hq_ : World.drewN w107 _ = w107; have n0_ := xbr Ac hq_; have n1_ : Zz (Below w.heap.size w w107) := ⟨by rw [← hq_]; exact xbl⟩; clear Aa HB hq_; have Aa := n0_; have HB := n1_; clear n0_ n1_))) | ((with_reducible refine aj (N := 12) rfl ?_); refine xev 12 #[.string a1, .int .i64 0, .bool Ah, .string (⟨#[]⟩ : ByteArray), .bool false, .string (⟨#[]⟩ : ByteArray), .string (⟨#[]⟩ : ByteArray), .bool false, .string (⟨#[]⟩ : ByteArray), .bool false, .string (⟨#[]⟩ : ByteArray)] 53 ?_; intro Af hg w108 hbox hb; have Ag := xsz hg; have Ai := Ag; have Ab := xlt (g := Ac) hg; have Ad := xgt (g := Ac) hg; have HI330 := Zz.mk ((show IsS53 w w108 Af a1 0 Ah (⟨#[]⟩ : ByteArray) false (⟨#[]⟩ : ByteArray) (⟨#[]⟩ : ByteArray) false (⟨#[]⟩ : ByteArray) false (⟨#[]⟩ : ByteArray) from ⟨hbox, (by rw [hg]; exact (aq xbl) : w.heap.size ≤ Af)⟩)); replace Aa := xbq Ac hb; replace HB := xst hb; clear hb hbox hg) | ((with_reducible refine xgc (f := 28) rfl ?_); refine xca 20 Tryz.func28 (aN (w := _) (hI := aE) (hB := ax) (h := A81.out)) ?_; rintro w109 ⟨hi, hb, hk⟩; replace Aa := ca Ac hk Ab; replace HB := Zz.mk (hb); replace HI330 := Zz.mk (hi); (try clear hb)) | ((with_reducible refine xgc (f := 29) rfl ?_); refine xca 27 Tryz.func29 (aI (w := _) (hI := aE) (hB := ax) (hG := iX) (h := A83.out)) ?_; rintro w110 ⟨hi, hb, hk⟩; replace Aa := ca Ac hk Ab; replace HB := Zz.mk (hb); replace HI330 := Zz.mk (hi); (try clear hb)) | (go_at_call 30; (with_reducible refine (bq (w := _) (hI := aE) (hB := ax) (h := A85.out)).mono ?_); rintro e w111 ⟨rfl, hi, hb, hk⟩; replace Aa := ca Ac hk Ab; replace HB := Zz.mk (hb); replace HI330 := Zz.mk (hi); (try clear hb); have AV := Ab.out; have AW := Ad.out; have BF := xz8 Aa.out))
 (try simp only [dq])
 refine bodyPost_ret (aH rfl _ _ Ac 24 #[.string (⟨#[]⟩ : ByteArray), .bool false, .string (⟨#[]⟩ : ByteArray), .string (⟨#[]⟩ : ByteArray), .bool false, .string (⟨#[]⟩ : ByteArray), .bool false, .string (⟨#[]⟩ : ByteArray)] (0, 0) _ rfl xbk Tryz.underlying24 rfl (by kernel_rfl)) rfl ?_
 exact ⟨xre, ax⟩
 }
 simp only [Option.some.injEq, Prod.mk.injEq] at H
 obtain ⟨rfl, rfl, rfl, rfl, rfl, rfl, rfl, rfl, rfl⟩ := H
 go_enter Tryz.func19, Tryz.ntmps19
 go_wp2_with (first | (refine gL 0 rfl ?_) | (refine wp_goto ?_) | (refine wp_label ?_) | (refine Eq.mpr (cv (l := 0)) ?_) | ((with_reducible refine be (t := 24) (p := 4) rfl ?_); refine xwr 24 4 48 8 Aa Ae ?_; intro wz_ Aa HB) | ((with_reducible refine be (t := 24) (p := 4) rfl ?_); refine xwr 24 4 49 8 Aa Ae ?_; intro wz_ Aa HB) | ((with_reducible refine aj (N := 4) rfl ?_); refine xew 4 ?_; intro Ac w114 Aa Ae hb hg; replace HB := xst hb; clear hb hg) | ((with_reducible refine xgc (f := 15) rfl ?_); refine xca 10 Tryz.func15 (aM (w := _) (h := A3.out)) ?_; rintro w' ⟨nd, rfl⟩; (try (rw [aW w114]; generalize hq_ : World.drewN w114 _ = w114; have n0_ := xbr Ac hq_; have n1_ : Zz (Below w.heap.size w w114) := ⟨by rw [← hq_]; exact xbl⟩; clear Aa HB hq_; have Aa := n0_; have HB := n1_; clear n0_ n1_))) | ((with_reducible refine aj (N := 12) rfl ?_); refine xev 12 #[.string a1, .int .i64 0, .bool Ah, .string (⟨#[]⟩ : ByteArray), .bool false, .string (⟨#[]⟩ : ByteArray), .string (⟨#[]⟩ : ByteArray), .bool false, .string (⟨#[]⟩ : ByteArray), .bool false, .string (⟨#[]⟩ : ByteArray)] 53 ?_; intro Af hg w115 hbox hb; have Ag := xsz hg; have Ai := Ag; have Ab := xlt (g := Ac) hg; have Ad := xgt (g := Ac) hg; have HI330 := Zz.mk ((show IsS53 w w115 Af a1 0 Ah (⟨#[]⟩ : ByteArray) false (⟨#[]⟩ : ByteArray) (⟨#[]⟩ : ByteArray) false (⟨#[]⟩ : ByteArray) false (⟨#[]⟩ : ByteArray) from ⟨hbox, (by rw [hg]; exact (aq xbl) : w.heap.size ≤ Af)⟩)); replace Aa := xbq Ac hb; replace HB := xst hb; clear hb hbox hg) | ((with_reducible refine xgc (f := 28) rfl ?_); refine xca 20 Tryz.func28 (aN (w := _) (hI := aE) (hB := ax) (h := A81.out)) ?_; rintro w116 ⟨hi, hb, hk⟩; replace Aa := ca Ac hk Ab; replace HB := Zz.mk (hb); replace HI330 := Zz.mk (hi); (try clear hb)) | ((with_reducible refine xgc (f := 29) rfl ?_); refine xca 27 Tryz.func29 (aI (w := _) (hI := aE) (hB := ax) (hG := iX) (h := A83.out)) ?_; rintro w117 ⟨hi, hb, hk⟩; replace Aa := ca Ac hk Ab; replace HB := Zz.mk (hb); replace HI330 := Zz.mk (hi); (try clear hb); have AX := Ab.out; have AY := Ad.out; have BG := xz8 Aa.out))
 (try simp only [dq])
 refine bodyPost_ret (aH rfl _ _ Ac 24 #[.string (⟨#[]⟩ : ByteArray), .bool false, .string (⟨#[]⟩ : ByteArray), .string (⟨#[]⟩ : ByteArray), .bool false, .string (⟨#[]⟩ : ByteArray), .bool false, .string (⟨#[]⟩ : ByteArray)] (0, 0) _ rfl xbk Tryz.underlying24 rfl (by kernel_rfl)) rfl ?_
 exact ⟨xre, ax⟩
 }
 refine xid H ?_ ?_ <;> clear H <;> intro c120 H
 {
 obtain ⟨Aj, Ak⟩ := xqe c120
 clear c120
 replace H := xbd H
 obtain ⟨⟨DK, DL, DM, DN, DO, DP, DQ, DR, DS, DT, DU, DV⟩, A121, H⟩ := H
 try dsimp only at H
 refine xib H ?_ ?_ <;> clear H <;> rintro rfl H
 {
 replace H := xbd H
 obtain ⟨⟨DW, DX, DY, DZ, D0, D1, D2, D3, D4, D5, D6, D7⟩, A123, H⟩ := H
 try dsimp only at H
 refine xib H ?_ ?_ <;> clear H <;> rintro rfl H
 {
 replace H := xbd H
 obtain ⟨⟨D8, D9, Ea, AZ, A0, A1, A2, A4, A6, A8, Ba⟩, A125, H⟩ := H
 try dsimp only at H
 refine xid H ?_ ?_ <;> clear H <;> intro c126 H
 {
 obtain ⟨Al, Am⟩ := xqe c126
 clear c126
 simp only [Option.some.injEq, Prod.mk.injEq] at H
 obtain ⟨rfl, rfl, rfl, rfl, rfl, rfl, rfl, rfl, rfl⟩ := H
 go_enter Tryz.func19, Tryz.ntmps19
 go_wp2_with (first | (refine gL 0 rfl ?_) | (refine wp_goto ?_) | (refine wp_label ?_) | (refine Eq.mpr (cv (l := 0)) ?_) | ((with_reducible refine be (t := 24) (p := 4) rfl ?_); refine xwr 24 4 48 8 Aa Ae ?_; intro wz_ Aa HB) | ((with_reducible refine be (t := 24) (p := 4) rfl ?_); refine xwr 24 4 49 8 Aa Ae ?_; intro wz_ Aa HB) | ((with_reducible refine aj (N := 4) rfl ?_); refine xew 4 ?_; intro Ac w127 Aa Ae hb hg; replace HB := xst hb; clear hb hg) | ((with_reducible refine xgc (f := 15) rfl ?_); refine xca 10 Tryz.func15 (aM (w := _) (h := A3.out)) ?_; rintro w' ⟨nd, rfl⟩; (try (rw [aW w127]; generalize hq_ : World.drewN w127 _ = w127; have n0_ := xbr Ac hq_; have n1_ : Zz (Below w.heap.size w w127) := ⟨by rw [← hq_]; exact xbl⟩; clear Aa HB hq_; have Aa := n0_; have HB := n1_; clear n0_ n1_))) | ((with_reducible refine aj (N := 12) rfl ?_); refine xev 12 #[.string a1, .int .i64 0, .bool Ah, .string (⟨#[]⟩ : ByteArray), .bool false, .string (⟨#[]⟩ : ByteArray), .string (⟨#[]⟩ : ByteArray), .bool false, .string (⟨#[]⟩ : ByteArray), .bool false, .string (⟨#[]⟩ : ByteArray)] 53 ?_; intro Af hg w128 hbox hb; have Ag := xsz hg; have Ai := Ag; have Ab := xlt (g := Ac) hg; have Ad := xgt (g := Ac) hg; have HI330 := Zz.mk ((show IsS53 w w128 Af a1 0 Ah (⟨#[]⟩ : ByteArray) false (⟨#[]⟩ : ByteArray) (⟨#[]⟩ : ByteArray) false (⟨#[]⟩ : ByteArray) false (⟨#[]⟩ : ByteArray) from ⟨hbox, (by rw [hg]; exact (aq xbl) : w.heap.size ≤ Af)⟩)); replace Aa := xbq Ac hb; replace HB := xst hb; clear hb hbox hg) | ((with_reducible refine xgc (f := 28) rfl ?_); refine xca 20 Tryz.func28 (aN (w := _) (hI := aE) (hB := ax) (h := A81.out)) ?_; rintro w129 ⟨hi, hb, hk⟩; replace Aa := ca Ac hk Ab; replace HB := Zz.mk (hb); replace HI330 := Zz.mk (hi); (try clear hb)) | ((with_reducible refine xgc (f := 29) rfl ?_); refine xca 27 Tryz.func29 (aI (w := _) (hI := aE) (hB := ax) (hG := iX) (h := A121.out)) ?_; rintro w130 ⟨hi, hb, hk⟩; replace Aa := ca Ac hk Ab; replace HB := Zz.mk (hb); replace HI330 := Zz.mk (hi); (try clear hb)) | (go_at_call 30; (with_reducible refine (bq (w := _) (hI := aE) (hB := ax) (h := A123.out)).mono ?_); rintro e w131 ⟨rfl, hi, hb, hk⟩; replace Aa := ca Ac hk Ab; replace HB := Zz.mk (hb); replace HI330 := Zz.mk (hi); (try clear hb)) | ((with_reducible refine xgc (f := 31) rfl ?_); refine xca 37 Tryz.func31 (cE (w := _) (hI := aE) (hB := ax) (h := A125.out)) ?_; rintro w132 ⟨hi, hb, hk⟩; replace Aa := ca Ac hk Ab; replace HB := Zz.mk (hb); replace HI330 := Zz.mk (hi); (try clear hb); have BH := eY HI330.out.1; have Bb := Ab.out; have Bc := Ad.out; have BI := xz8 Aa.out))
 (try simp only [dq])
 refine bodyPost_ret (aH rfl _ _ Ac 24 #[.string AZ, .bool A0, .string A1, .string A2, .bool A4, .string A6, .bool A8, .string Ba] (0, 0) _ rfl xbk Tryz.underlying24 rfl (by kernel_rfl)) rfl ?_
 exact ⟨xre, ax⟩
 }
 obtain ⟨Al, Am⟩ := xqn c126
 simp only [Option.some.injEq, Prod.mk.injEq] at H
 obtain ⟨rfl, rfl, rfl, rfl, rfl, rfl, rfl, rfl, rfl⟩ := H
 go_enter Tryz.func19, Tryz.ntmps19
 go_wp2_with (first | (refine gL 0 rfl ?_) | (refine wp_goto ?_) | (refine wp_label ?_) | (refine Eq.mpr (cv (l := 0)) ?_) | ((with_reducible refine be (t := 24) (p := 4) rfl ?_); refine xwr 24 4 48 8 Aa Ae ?_; intro wz_ Aa HB) | ((with_reducible refine be (t := 24) (p := 4) rfl ?_); refine xwr 24 4 49 8 Aa Ae ?_; intro wz_ Aa HB) | ((with_reducible refine aj (N := 4) rfl ?_); refine xew 4 ?_; intro Ac w136 Aa Ae hb hg; replace HB := xst hb; clear hb hg) | ((with_reducible refine xgc (f := 15) rfl ?_); refine xca 10 Tryz.func15 (aM (w := _) (h := A3.out)) ?_; rintro w' ⟨nd, rfl⟩; (try (rw [aW w136]; generalize hq_ : World.drewN w136 _ = w136; have n0_ := xbr Ac hq_; have n1_ : Zz (Below w.heap.size w w136) := ⟨by rw [← hq_]; exact xbl⟩; clear Aa HB hq_; have Aa := n0_; have HB := n1_; clear n0_ n1_))) | ((with_reducible refine aj (N := 12) rfl ?_); refine xev 12 #[.string a1, .int .i64 0, .bool Ah, .string (⟨#[]⟩ : ByteArray), .bool false, .string (⟨#[]⟩ : ByteArray), .string (⟨#[]⟩ : ByteArray), .bool false, .string (⟨#[]⟩ : ByteArray), .bool false, .string (⟨#[]⟩ : ByteArray)] 53 ?_; intro Af hg w137 hbox hb; have Ag := xsz hg; have Ai := Ag; have Ab := xlt (g := Ac) hg; have Ad := xgt (g := Ac) hg; have HI330 := Zz.mk ((show IsS53 w w137 Af a1 0 Ah (⟨#[]⟩ : ByteArray) false (⟨#[]⟩ : ByteArray) (⟨#[]⟩ : ByteArray) false (⟨#[]⟩ : ByteArray) false (⟨#[]⟩ : ByteArray) from ⟨hbox, (by rw [hg]; exact (aq xbl) : w.heap.size ≤ Af)⟩)); replace Aa := xbq Ac hb; replace HB := xst hb; clear hb hbox hg) | ((with_reducible refine xgc (f := 28) rfl ?_); refine xca 20 Tryz.func28 (aN (w := _) (hI := aE) (hB := ax) (h := A81.out)) ?_; rintro w138 ⟨hi, hb, hk⟩; replace Aa := ca Ac hk Ab; replace HB := Zz.mk (hb); replace HI330 := Zz.mk (hi); (try clear hb)) | ((with_reducible refine xgc (f := 29) rfl ?_); refine xca 27 Tryz.func29 (aI (w := _) (hI := aE) (hB := ax) (hG := iX) (h := A121.out)) ?_; rintro w139 ⟨hi, hb, hk⟩; replace Aa := ca Ac hk Ab; replace HB := Zz.mk (hb); replace HI330 := Zz.mk (hi); (try clear hb)) | (go_at_call 30; (with_reducible refine (bq (w := _) (hI := aE) (hB := ax) (h := A123.out)).mono ?_); rintro e w140 ⟨rfl, hi, hb, hk⟩; replace Aa := ca Ac hk Ab; replace HB := Zz.mk (hb); replace HI330 := Zz.mk (hi); (try clear hb)) | ((with_reducible refine xgc (f := 31) rfl ?_); refine xca 37 Tryz.func31 (cE (w := _) (hI := aE) (hB := ax) (h := A125.out)) ?_; rintro w141 ⟨hi, hb, hk⟩; replace Aa := ca Ac hk Ab; replace HB := Zz.mk (hb); replace HI330 := Zz.mk (hi); (try clear hb); have BJ := eY HI330.out.1; have Bd := Ab.out; have Be := Ad.out; have BL := xz8 Aa.out))
 (try simp only [dq])
 refine bodyPost_ret (aH rfl _ _ Ac 24 #[.string (⟨#[]⟩ : ByteArray), .bool false, .string (⟨#[]⟩ : ByteArray), .string (⟨#[]⟩ : ByteArray), .bool false, .string (⟨#[]⟩ : ByteArray), .bool false, .string (⟨#[]⟩ : ByteArray)] (0, 0) _ rfl xbk Tryz.underlying24 rfl (by kernel_rfl)) rfl ?_
 exact ⟨xre, ax⟩
 }
 simp only [Option.some.injEq, Prod.mk.injEq] at H
 obtain ⟨rfl, rfl, rfl, rfl, rfl, rfl, rfl, rfl, rfl⟩ := H
 go_enter Tryz.func19, Tryz.ntmps19
 go_wp2_with (first | (refine gL 0 rfl ?_) | (refine wp_goto ?_) | (refine wp_label ?_) | (refine Eq.mpr (cv (l := 0)) ?_) | ((with_reducible refine be (t := 24) (p := 4) rfl ?_); refine xwr 24 4 48 8 Aa Ae ?_; intro wz_ Aa HB) | ((with_reducible refine be (t := 24) (p := 4) rfl ?_); refine xwr 24 4 49 8 Aa Ae ?_; intro wz_ Aa HB) | ((with_reducible refine aj (N := 4) rfl ?_); refine xew 4 ?_; intro Ac w145 Aa Ae hb hg; replace HB := xst hb; clear hb hg) | ((with_reducible refine xgc (f := 15) rfl ?_); refine xca 10 Tryz.func15 (aM (w := _) (h := A3.out)) ?_; rintro w' ⟨nd, rfl⟩; (try (rw [aW w145]; generalize hq_ : World.drewN w145 _ = w145; have n0_ := xbr Ac hq_; have n1_ : Zz (Below w.heap.size w w145) := ⟨by rw [← hq_]; exact xbl⟩; clear Aa HB hq_; have Aa := n0_; have HB := n1_; clear n0_ n1_))) | ((with_reducible refine aj (N := 12) rfl ?_); refine xev 12 #[.string a1, .int .i64 0, .bool Ah, .string (⟨#[]⟩ : ByteArray), .bool false, .string (⟨#[]⟩ : ByteArray), .string (⟨#[]⟩ : ByteArray), .bool false, .string (⟨#[]⟩ : ByteArray), .bool false, .string (⟨#[]⟩ : ByteArray)] 53 ?_; intro Af hg w146 hbox hb; have Ag := xsz hg; have Ai := Ag; have Ab := xlt (g := Ac) hg; have Ad := xgt (g := Ac) hg; have HI330 := Zz.mk ((show IsS53 w w146 Af a1 0 Ah (⟨#[]⟩ : ByteArray) false (⟨#[]⟩ : ByteArray) (⟨#[]⟩ : ByteArray) false (⟨#[]⟩ : ByteArray) false (⟨#[]⟩ : ByteArray) from ⟨hbox, (by rw [hg]; exact (aq xbl) : w.heap.size ≤ Af)⟩)); replace Aa := xbq Ac hb; replace HB := xst hb; clear hb hbox hg) | ((with_reducible refine xgc (f := 28) rfl ?_); refine xca 20 Tryz.func28 (aN (w := _) (hI := aE) (hB := ax) (h := A81.out)) ?_; rintro w147 ⟨hi, hb, hk⟩; replace Aa := ca Ac hk Ab; replace HB := Zz.mk (hb); replace HI330 := Zz.mk (hi); (try clear hb)) | ((with_reducible refine xgc (f := 29) rfl ?_); refine xca 27 Tryz.func29 (aI (w := _) (hI := aE) (hB := ax) (hG := iX) (h := A121.out)) ?_; rintro w148 ⟨hi, hb, hk⟩; replace Aa := ca Ac hk Ab; replace HB := Zz.mk (hb); replace HI330 := Zz.mk (hi); (try clear hb)) | (go_at_call 30; (with_reducible refine (bq (w := _) (hI := aE) (hB := ax) (h := A123.out)).mono ?_); rintro e w149 ⟨rfl, hi, hb, hk⟩; replace Aa := ca Ac hk Ab; replace HB := Zz.mk (hb); replace HI330 := Zz.mk (hi); (try clear hb); have Bf := Ab.out; have Bg := Ad.out; have BM := xz8 Aa.out))
 (try simp only [dq])
 refine bodyPost_ret (aH rfl _ _ Ac 24 #[.string (⟨#[]⟩ : ByteArray), .bool false, .string (⟨#[]⟩ : ByteArray), .string (⟨#[]⟩ : ByteArray), .bool false, .string (⟨#[]⟩ : ByteArray), .bool false, .string (⟨#[]⟩ : ByteArray)] (0, 0) _ rfl xbk Tryz.underlying24 rfl (by kernel_rfl)) rfl ?_
 exact ⟨xre, ax⟩
 }
 simp only [Option.some.injEq, Prod.mk.injEq] at H
 obtain ⟨rfl, rfl, rfl, rfl, rfl, rfl, rfl, rfl, rfl⟩ := H
 go_enter Tryz.func19, Tryz.ntmps19
 go_wp2_with (first | (refine gL 0 rfl ?_) | (refine wp_goto ?_) | (refine wp_label ?_) | (refine Eq.mpr (cv (l := 0)) ?_) | ((with_reducible refine be (t := 24) (p := 4) rfl ?_); refine xwr 24 4 48 8 Aa Ae ?_; intro wz_ Aa HB) | ((with_reducible refine be (t := 24) (p := 4) rfl ?_); refine xwr 24 4 49 8 Aa Ae ?_; intro wz_ Aa HB) | ((with_reducible refine aj (N := 4) rfl ?_); refine xew 4 ?_; intro Ac w152 Aa Ae hb hg; replace HB := xst hb; clear hb hg) | ((with_reducible refine xgc (f := 15) rfl ?_); refine xca 10 Tryz.func15 (aM (w := _) (h := A3.out)) ?_; rintro w' ⟨nd, rfl⟩; (try (rw [aW w152]; generalize hq_ : World.drewN w152 _ = w152; have n0_ := xbr Ac hq_; have n1_ : Zz (Below w.heap.size w w152) := ⟨by rw [← hq_]; exact xbl⟩; clear Aa HB hq_; have Aa := n0_; have HB := n1_; clear n0_ n1_))) | ((with_reducible refine aj (N := 12) rfl ?_); refine xev 12 #[.string a1, .int .i64 0, .bool Ah, .string (⟨#[]⟩ : ByteArray), .bool false, .string (⟨#[]⟩ : ByteArray), .string (⟨#[]⟩ : ByteArray), .bool false, .string (⟨#[]⟩ : ByteArray), .bool false, .string (⟨#[]⟩ : ByteArray)] 53 ?_; intro Af hg w153 hbox hb; have Ag := xsz hg; have Ai := Ag; have Ab := xlt (g := Ac) hg; have Ad := xgt (g := Ac) hg; have HI330 := Zz.mk ((show IsS53 w w153 Af a1 0 Ah (⟨#[]⟩ : ByteArray) false (⟨#[]⟩ : ByteArray) (⟨#[]⟩ : ByteArray) false (⟨#[]⟩ : ByteArray) false (⟨#[]⟩ : ByteArray) from ⟨hbox, (by rw [hg]; exact (aq xbl) : w.heap.size ≤ Af)⟩)); replace Aa := xbq Ac hb; replace HB := xst hb; clear hb hbox hg) | ((with_reducible refine xgc (f := 28) rfl ?_); refine xca 20 Tryz.func28 (aN (w := _) (hI := aE) (hB := ax) (h := A81.out)) ?_; rintro w154 ⟨hi, hb, hk⟩; replace Aa := ca Ac hk Ab; replace HB := Zz.mk (hb); replace HI330 := Zz.mk (hi); (try clear hb)) | ((with_reducible refine xgc (f := 29) rfl ?_); refine xca 27 Tryz.func29 (aI (w := _) (hI := aE) (hB := ax) (hG := iX) (h := A121.out)) ?_; rintro w155 ⟨hi, hb, hk⟩; replace Aa := ca Ac hk Ab; replace HB := Zz.mk (hb); replace HI330 := Zz.mk (hi); (try clear hb); have Bh := Ab.out; have Bi := Ad.out; have BN := xz8 Aa.out))
 (try simp only [dq])
 refine bodyPost_ret (aH rfl _ _ Ac 24 #[.string (⟨#[]⟩ : ByteArray), .bool false, .string (⟨#[]⟩ : ByteArray), .string (⟨#[]⟩ : ByteArray), .bool false, .string (⟨#[]⟩ : ByteArray), .bool false, .string (⟨#[]⟩ : ByteArray)] (0, 0) _ rfl xbk Tryz.underlying24 rfl (by kernel_rfl)) rfl ?_
 exact ⟨xre, ax⟩
 }
 obtain ⟨Aj, Ak⟩ := xqn c120
 simp only [Option.some.injEq, Prod.mk.injEq] at H
 obtain ⟨rfl, rfl, rfl, rfl, rfl, rfl, rfl, rfl, rfl⟩ := H
 go_enter Tryz.func19, Tryz.ntmps19
 go_wp2_with (first | (refine gL 0 rfl ?_) | (refine wp_goto ?_) | (refine wp_label ?_) | (refine Eq.mpr (cv (l := 0)) ?_) | ((with_reducible refine be (t := 24) (p := 4) rfl ?_); refine xwr 24 4 48 8 Aa Ae ?_; intro wz_ Aa HB) | ((with_reducible refine be (t := 24) (p := 4) rfl ?_); refine xwr 24 4 49 8 Aa Ae ?_; intro wz_ Aa HB) | ((with_reducible refine aj (N := 4) rfl ?_); refine xew 4 ?_; intro Ac w158 Aa Ae hb hg; replace HB := xst hb; clear hb hg) | ((with_reducible refine xgc (f := 15) rfl ?_); refine xca 10 Tryz.func15 (aM (w := _) (h := A3.out)) ?_; rintro w' ⟨nd, rfl⟩; (try (rw [aW w158]; generalize hq_ : World.drewN w158 _ = w158; have n0_ := xbr Ac hq_; have n1_ : Zz (Below w.heap.size w w158) := ⟨by rw [← hq_]; exact xbl⟩; clear Aa HB hq_; have Aa := n0_; have HB := n1_; clear n0_ n1_))) | ((with_reducible refine aj (N := 12) rfl ?_); refine xev 12 #[.string a1, .int .i64 0, .bool Ah, .string (⟨#[]⟩ : ByteArray), .bool false, .string (⟨#[]⟩ : ByteArray), .string (⟨#[]⟩ : ByteArray), .bool false, .string (⟨#[]⟩ : ByteArray), .bool false, .string (⟨#[]⟩ : ByteArray)] 53 ?_; intro Af hg w159 hbox hb; have Ag := xsz hg; have Ai := Ag; have Ab := xlt (g := Ac) hg; have Ad := xgt (g := Ac) hg; have HI330 := Zz.mk ((show IsS53 w w159 Af a1 0 Ah (⟨#[]⟩ : ByteArray) false (⟨#[]⟩ : ByteArray) (⟨#[]⟩ : ByteArray) false (⟨#[]⟩ : ByteArray) false (⟨#[]⟩ : ByteArray) from ⟨hbox, (by rw [hg]; exact (aq xbl) : w.heap.size ≤ Af)⟩)); replace Aa := xbq Ac hb; replace HB := xst hb; clear hb hbox hg) | ((with_reducible refine xgc (f := 28) rfl ?_); refine xca 20 Tryz.func28 (aN (w := _) (hI := aE) (hB := ax) (h := A81.out)) ?_; rintro w160 ⟨hi, hb, hk⟩; replace Aa := ca Ac hk Ab; replace HB := Zz.mk (hb); replace HI330 := Zz.mk (hi); (try clear hb); have Bj := Ab.out; have Bk := Ad.out; have BO := xz8 Aa.out))
 (try simp only [dq])
 refine bodyPost_ret (aH rfl _ _ Ac 24 #[.string (⟨#[]⟩ : ByteArray), .bool false, .string (⟨#[]⟩ : ByteArray), .string (⟨#[]⟩ : ByteArray), .bool false, .string (⟨#[]⟩ : ByteArray), .bool false, .string (⟨#[]⟩ : ByteArray)] (0, 0) _ rfl xbk Tryz.underlying24 rfl (by kernel_rfl)) rfl ?_
 exact ⟨xre, ax⟩
mutual
def cH : Nat → Int → ByteArray → Bool → Option (ByteArray × Bool × ByteArray × ByteArray × Bool × ByteArray × Bool × ByteArray × Int)
  | 0, _, _, _ => none
  | k + 1, x0, x1, x8 => if x8 = true then (some ((⟨#[]⟩ : ByteArray), false, (⟨#[]⟩ : ByteArray), (⟨#[]⟩ : ByteArray), false, (⟨#[]⟩ : ByteArray), false, (⟨#[]⟩ : ByteArray), 1)) else (if (x1.size : Int) > 65535 then (some ((⟨#[]⟩ : ByteArray), false, (⟨#[]⟩ : ByteArray), (⟨#[]⟩ : ByteArray), false, (⟨#[]⟩ : ByteArray), false, (⟨#[]⟩ : ByteArray), 2)) else ((eR x0).bind fun t496 => (if t496 = true then ((iN k x1).bind fun t497 => (di k x0 x1 (!t497))) else (di k x0 x1 false))))
def di : Nat → Int → ByteArray → Bool → Option (ByteArray × Bool × ByteArray × ByteArray × Bool × ByteArray × Bool × ByteArray × Int)
  | 0, _, _, _ => none
  | k + 1, x0, x1, Ab => if Ab = true then (some ((⟨#[]⟩ : ByteArray), false, (⟨#[]⟩ : ByteArray), (⟨#[]⟩ : ByteArray), false, (⟨#[]⟩ : ByteArray), false, (⟨#[]⟩ : ByteArray), 3)) else ((fZ k x0 x1).bind fun Aa => (if Aa.2.2.2.2.2.2.2.2 = true then (some (Aa.1, Aa.2.1, Aa.2.2.1, Aa.2.2.2.1, Aa.2.2.2.2.1, Aa.2.2.2.2.2.1, Aa.2.2.2.2.2.2.1, Aa.2.2.2.2.2.2.2.1, 0)) else (some ((⟨#[]⟩ : ByteArray), false, (⟨#[]⟩ : ByteArray), (⟨#[]⟩ : ByteArray), false, (⟨#[]⟩ : ByteArray), false, (⟨#[]⟩ : ByteArray), 4))))
end
def eS (k : Nat) (a0 : Int) (a1 : ByteArray) : Option (ByteArray × Bool × ByteArray × ByteArray × Bool × ByteArray × Bool × ByteArray × Int) := if a0 < 1 then (cH k a0 a1 true) else (cH k a0 a1 (decide (a0 > 5)))
theorem kT : ∀ k, (∀ y0 y1 y2, LeO (cH k y0 y1 y2) (cH (k + 1) y0 y1 y2)) ∧ (∀ y0 y1 y2, LeO (di k y0 y1 y2) (di (k + 1) y0 y1 y2))
  | 0 => ⟨fun _ _ _ r h => by simp [cH] at h, fun _ _ _ r h => by simp [di] at h⟩
  | k + 1 => by
    obtain ⟨ih0, ih1⟩ := kT k
    have m0 := @mt; have m1 := @nr
    refine ⟨?_, ?_⟩
    · intro y0 y1 y2
      unfold cH
      exact xmo
    · intro y0 y1 y2
      unfold di
      exact xmo
theorem oC : ∀ a0 a1 k, LeO (eS k a0 a1) (eS (k + 1) a0 a1) := by
  intro a0 a1 k
  obtain ⟨ih0, ih1⟩ := kT k
  have m0 := @mt; have m1 := @nr
  unfold eS
  exact xmo
theorem gI (k : Nat) (a0 : Int) (a1 : ByteArray) (r1 : ByteArray) (r2 : Bool) (r3 : ByteArray) (r4 : ByteArray) (r5 : Bool) (r6 : ByteArray) (r7 : Bool) (r8 : ByteArray) (r9 : Int) (w : World) (hG : GW w) (h : eS k a0 a1 = some (r1, r2, r3, r4, r5, r6, r7, r8, r9)) :
    Calls Tryz.prog 7 #[.int .i64 a0, .string a1] w fun e w' => e = .returned (.tuple #[.agg #[.string r1, .bool r2, .string r3, .string r4, .bool r5, .string r6, .bool r7, .string r8], .int .i64 r9]) ∧ Below w.heap.size w w' := by
 have hu24 := Tryz.underlying24
 have HB := Zz.mk (Below.refl w.heap.size w)
 have H := h
 clear h
 unfold eS at H
 have An := Zz.mk H
 clear H
 go_enter Tryz.func7, Tryz.ntmps7
 go_upto_region 1 with (first | ((with_reducible refine aj (N := 4) rfl ?_); refine xew 4 ?_; intro Aa w4 Ab Ax hb hg; replace HB := xst hb; clear hb hg))
 (try simp only [Act.put, xl1, xl2, xl3])
 go_cut [8] (fun v8 wc => ∃ kq Ah, v8 = .bool Ah ∧ Zz (cH kq a0 a1 Ah = some (r1, r2, r3, r4, r5, r6, r7, r8, r9)) ∧ Zz (kq ≤ k) ∧ Zz (wc.heap[Aa]? = some (.cells #[.string (⟨#[]⟩ : ByteArray), .bool false, .string (⟨#[]⟩ : ByteArray), .string (⟨#[]⟩ : ByteArray), .bool false, .string (⟨#[]⟩ : ByteArray), .bool false, .string (⟨#[]⟩ : ByteArray)] 24 (0, 0))) ∧ Zz (Below w.heap.size w wc))
 case first => (
 have H := An.out
 clear An
 refine xid H ?_ ?_ <;> clear H <;> intro c5 H
 {
 have Ae := xdt c5
 clear c5
 (first | rw [Ae] | (simp only [ag, ak]; rw [Ae]) | skip)
 replace H := xa H
 go_wp2
 go_meet
 case rel => exact ⟨_, (true), xrr, H, ⟨xom⟩, ⟨xbk⟩, ⟨xbl⟩⟩
 }
 have Ae := xdf c5
 clear c5
 (first | rw [Ae] | (simp only [ag, ak]; rw [Ae]) | skip)
 replace H := xa H
 go_wp2
 go_meet
 case rel => exact ⟨_, (decide (a0 > 5)), xrr, H, ⟨xom⟩, ⟨xbk⟩, ⟨xbl⟩⟩
 )
 case rest => (
 clear An
 obtain ⟨kq, Ah, rfl, HA, HJ2, Ab, HB⟩ := hcut
 cases kq with
 | zero => exact absurd HA.out (by simp [cH])
 | succ kj2 => (
 have H := HA.out
 clear HA
 simp only [cH] at H
 refine xib H ?_ ?_ <;> clear H <;> rintro rfl H
 {
 simp only [Option.some.injEq, Prod.mk.injEq] at H
 obtain ⟨rfl, rfl, rfl, rfl, rfl, rfl, rfl, rfl, rfl⟩ := H
 have AJ := xz8 Ab.out
 go_wp2
 refine bodyPost_ret (aH rfl _ _ Aa 24 #[.string (⟨#[]⟩ : ByteArray), .bool false, .string (⟨#[]⟩ : ByteArray), .string (⟨#[]⟩ : ByteArray), .bool false, .string (⟨#[]⟩ : ByteArray), .bool false, .string (⟨#[]⟩ : ByteArray)] (0, 0) _ rfl xbk Tryz.underlying24 rfl (by kernel_rfl)) rfl ?_
 exact ⟨xre, xbl⟩
 }
 refine xid H ?_ ?_ <;> clear H <;> intro c8 H
 {
 have Aj := xdt c8
 have Ak : decide (65535 < a1.size) = true := decide_eq_true (by omega)
 clear c8
 simp only [Option.some.injEq, Prod.mk.injEq] at H
 obtain ⟨rfl, rfl, rfl, rfl, rfl, rfl, rfl, rfl, rfl⟩ := H
 have AK := xz8 Ab.out
 go_wp2
 refine bodyPost_ret (aH rfl _ _ Aa 24 #[.string (⟨#[]⟩ : ByteArray), .bool false, .string (⟨#[]⟩ : ByteArray), .string (⟨#[]⟩ : ByteArray), .bool false, .string (⟨#[]⟩ : ByteArray), .bool false, .string (⟨#[]⟩ : ByteArray)] (0, 0) _ rfl xbk Tryz.underlying24 rfl (by kernel_rfl)) rfl ?_
 exact ⟨xre, xbl⟩
 }
 have Aj := xdf c8
 have Ak : decide (65535 < a1.size) = false := decide_eq_false (by omega)
 clear c8
 have Ai := Zz.mk H
 clear H
 go_upto_region 5 with (fail)
 go_cut [21] (fun v21 wc => ∃ kq Af, v21 = .bool Af ∧ Zz (di kq a0 a1 Af = some (r1, r2, r3, r4, r5, r6, r7, r8, r9)) ∧ Zz (kq ≤ kj2) ∧ Zz (wc.heap[Aa]? = some (.cells #[.string (⟨#[]⟩ : ByteArray), .bool false, .string (⟨#[]⟩ : ByteArray), .string (⟨#[]⟩ : ByteArray), .bool false, .string (⟨#[]⟩ : ByteArray), .bool false, .string (⟨#[]⟩ : ByteArray)] 24 (0, 0))) ∧ Zz (Below w.heap.size w wc))
 case first => (
 have H := Ai.out
 clear Ai
 replace H := xbd H
 obtain ⟨AC, A11, H⟩ := H
 try dsimp only at H
 refine xib H ?_ ?_ <;> clear H <;> rintro rfl H
 {
 replace H := xbd H
 obtain ⟨Ao, A13, H⟩ := H
 try dsimp only at H
 replace H := xa H
 go_wp2_with (first | ((with_reducible refine xgc (f := 15) rfl ?_); refine xca 23 Tryz.func15 (aM (w := _) (h := A11.out)) ?_; rintro w' ⟨nd, rfl⟩) | (go_at_call 18; (with_reducible refine (pK (w := _) (h := A13.out)).mono ?_); rintro e w14 ⟨rfl, hb⟩; replace Ab := xbq Aa hb; replace HB := xst hb; (try clear hb)))
 go_meet
 case rel => exact ⟨_, (!Ao), xrr, H, ⟨xoj HJ2⟩, ⟨xbk⟩, ⟨xbl⟩⟩
 }
 replace H := xa H
 go_wp2_with (first | ((with_reducible refine xgc (f := 15) rfl ?_); refine xca 23 Tryz.func15 (aM (w := _) (h := A11.out)) ?_; rintro w' ⟨nd, rfl⟩))
 go_meet
 case rel => exact ⟨_, (false), xrr, H, ⟨xoj HJ2⟩, ⟨xbk⟩, ⟨xbl⟩⟩
 )
 case rest => (
 clear Ai
 clear Aj Ak
 obtain ⟨kq, Af, rfl, HA, HJ9, Ab, HB⟩ := hcut
 cases kq with
 | zero => exact absurd HA.out (by simp [di])
 | succ kj9 => (
 have H := HA.out
 clear HA
 simp only [di] at H
 refine xib H ?_ ?_ <;> clear H <;> rintro rfl H
 {
 simp only [Option.some.injEq, Prod.mk.injEq] at H
 obtain ⟨rfl, rfl, rfl, rfl, rfl, rfl, rfl, rfl, rfl⟩ := H
 have AD := xz8 Ab.out
 go_wp2
 refine bodyPost_ret (aH rfl _ _ Aa 24 #[.string (⟨#[]⟩ : ByteArray), .bool false, .string (⟨#[]⟩ : ByteArray), .string (⟨#[]⟩ : ByteArray), .bool false, .string (⟨#[]⟩ : ByteArray), .bool false, .string (⟨#[]⟩ : ByteArray)] (0, 0) _ rfl xbk Tryz.underlying24 rfl (by kernel_rfl)) rfl ?_
 exact ⟨xre, xbl⟩
 }
 replace H := xbd H
 obtain ⟨⟨Ap, Aq, Ar, As, At, Au, Av, Aw, AE⟩, A17, H⟩ := H
 try dsimp only at H
 refine xib H ?_ ?_ <;> clear H <;> rintro rfl H
 {
 simp only [Option.some.injEq, Prod.mk.injEq] at H
 obtain ⟨rfl, rfl, rfl, rfl, rfl, rfl, rfl, rfl, rfl⟩ := H
 go_wp2_with (first | ((with_reducible refine xgc (f := 19) rfl ?_); refine xca 33 Tryz.func19 (lI (w := _) (hG := xG) (h := A17.out)) ?_; rintro w19 hb; replace Ab := xbq Aa hb; replace HB := xst hb; (try clear hb)) | ((with_reducible refine aj (N := 6) rfl ?_); refine xew 6 ?_; intro Al w20 Ag Am hb hg; have Ac := xlt (g := Aa) hg; have Ad := xgt (g := Aa) hg; replace Ab := xbq Aa hb; replace HB := xst hb; clear hb hg; have Ay := Ad.out; have Az := Ac.out; have AF := xz8 Ag.out; have AG := xz8 Ab.out))
 refine bodyPost_ret (aH rfl _ _ Aa 24 #[.string Ap, .bool Aq, .string Ar, .string As, .bool At, .string Au, .bool Av, .string Aw] (0, 0) _ rfl xbk Tryz.underlying24 rfl (by kernel_rfl)) rfl ?_
 exact ⟨xre, xbl⟩
 }
 simp only [Option.some.injEq, Prod.mk.injEq] at H
 obtain ⟨rfl, rfl, rfl, rfl, rfl, rfl, rfl, rfl, rfl⟩ := H
 go_wp2_with (first | ((with_reducible refine xgc (f := 19) rfl ?_); refine xca 33 Tryz.func19 (lI (w := _) (hG := xG) (h := A17.out)) ?_; rintro w24 hb; replace Ab := xbq Aa hb; replace HB := xst hb; (try clear hb)) | ((with_reducible refine aj (N := 6) rfl ?_); refine xew 6 ?_; intro Al w25 Ag Am hb hg; have Ac := xlt (g := Aa) hg; have Ad := xgt (g := Aa) hg; replace Ab := xbq Aa hb; replace HB := xst hb; clear hb hg; have AA := Ad.out; have AB := Ac.out; have AH := xz8 Ag.out; have AI := xz8 Ab.out))
 refine bodyPost_ret (aH rfl _ _ Aa 24 #[.string (⟨#[]⟩ : ByteArray), .bool false, .string (⟨#[]⟩ : ByteArray), .string (⟨#[]⟩ : ByteArray), .bool false, .string (⟨#[]⟩ : ByteArray), .bool false, .string (⟨#[]⟩ : ByteArray)] (0, 0) _ rfl xbk Tryz.underlying24 rfl (by kernel_rfl)) rfl ?_
 exact ⟨xre, xbl⟩
 )
 )
 )
 )
def dn (k : Nat) (a0 : Int) (a1 : ByteArray) : Option (Bool) := (eS k a0 a1).bind fun bt508 => (some (bt508.2.2.2.2.2.2.2.2 == 0))
theorem jm : ∀ a0 a1 k, LeO (dn k a0 a1) (dn (k + 1) a0 a1) := by
  intro a0 a1 k
  have m0 := @oC
  unfold dn
  exact xmo
theorem dh (k : Nat) (a0 : Int) (a1 : ByteArray) (r : Bool) (w : World) (hG : GW w) (h : dn k a0 a1 = some r) :
    Calls Tryz.prog 14 #[.int .i64 a0, .string a1] w fun e w' => e = .returned (.bool r) ∧ Below w.heap.size w w' := by
 have hu24 := Tryz.underlying24
 have HB := Zz.mk (Below.refl w.heap.size w)
 have H := h
 clear h
 unfold dn at H
 replace H := xbd H
 obtain ⟨⟨Ad, Ae, Af, Ag, Ah, Ai, Aj, Ak, Al⟩, A3, H⟩ := H
 try dsimp only at H
 obtain rfl := Option.some.inj H
 go_enter Tryz.func14, Tryz.ntmps14
 go_wp2_with (first | ((with_reducible refine xgc (f := 7) rfl ?_); refine xca 10 Tryz.func7 (gI (w := _) (hG := xG) (h := A3.out)) ?_; rintro w4 hb; replace HB := xst hb; (try clear hb)) | ((with_reducible refine aj (N := 5) rfl ?_); refine xew 5 ?_; intro Ab w5 Aa Ac hb hg; replace HB := xst hb; clear hb hg; have Am := xz8 Aa.out))
 go_ret
 exact ⟨xre, xbl⟩
def dO : Nat → ByteArray → Int → Int → Option (Int)
  | 0, _, _, _ => none
  | k + 1, x0, x3, x4 => if x4 ≤ 5 then ((dn k x4 x0).bind fun t518 => (if t518 = true then (if 0 ≤ x4 then (dO k x0 (Go.bits .or .i64 x3 (shl .i64 1 x4)) (wrap64 (x4 + 1))) else (none)) else (dO k x0 x3 (wrap64 (x4 + 1))))) else (some x3)
def eQ (k : Nat) (a0 : ByteArray) : Option (Int) := dO k a0 0 1
theorem kR : ∀ k, (∀ y0 y1 y2, LeO (dO k y0 y1 y2) (dO (k + 1) y0 y1 y2))
  | 0 => fun _ _ _ r h => by simp [dO] at h
  | k + 1 => by
    have ih0 := kR k
    have m0 := @jm
    · intro y0 y1 y2
      unfold dO
      exact xmo
theorem oB : ∀ a0 k, LeO (eQ k a0) (eQ (k + 1) a0) := by
  intro a0 k
  have ih0 := kR k
  have m0 := @jm
  unfold eQ
  exact xmo
theorem bx (k : Nat) (a0 : ByteArray) (r : Int) (w : World) (hG : GW w) (h : eQ k a0 = some r) :
    Calls Tryz.prog 11 #[.string a0] w fun e w' => e = .returned (.int .i64 r) ∧ Below w.heap.size w w' := by
 have HB := Zz.mk (Below.refl w.heap.size w)
 have H := h
 clear h
 unfold eQ at H
 have H' := Zz.mk H
 clear H
 go_enter Tryz.func11, Tryz.ntmps11
 go_wp2
 go_loopg [3, 4] k (fun kq v3 v4 w' => ∃ Ac Aa, v3 = .int .i64 Ac ∧ v4 = .int .i64 Aa ∧ Zz (dO kq a0 Ac Aa = some r) ∧ Zz (kq ≤ k) ∧ Zz (Below w.heap.size w w'))
 case atStart => exact ⟨(0), (1), xrr, xrr, H', ⟨Nat.le_refl _⟩, ⟨xbl⟩⟩
 case round => (
 clear H'
 obtain ⟨Ac, Aa, rfl, rfl, HA, HK1, HB⟩ := hrel
 cases gk with
 | zero => exact absurd HA.out (by simp [dO])
 | succ k1 => (
 have H := HA.out
 clear HA
 simp only [dO] at H
 refine xid H ?_ ?_ <;> clear H <;> intro c2 H
 {
 have Af := xdt c2
 clear c2
 replace H := xbd H
 obtain ⟨Ak, A3, H⟩ := H
 try dsimp only at H
 refine xib H ?_ ?_ <;> clear H <;> rintro rfl H
 {
 refine xin H ?_; clear H; intro c5 H
 obtain ⟨Al, Am⟩ := xcp c5
 clear c5
 obtain ⟨Ae, Ab⟩ : ∃ j_ : Int, (shl .i64 1 Aa) = j_ := ⟨_, rfl⟩
 first | rw [Ab] at H | simp only [Ab] at H | skip
 (try rw [Ab] at A3)
 have hji6_ : (IntKind.i64.wrap (1 * 2 ^ min Aa.toNat 64)) = Ae := Ab
 have Ad : Aa ≤ 64 → (IntKind.i64.wrap (1 * 2 ^ Aa.toNat)) = Ae := vT Ab
 have Ag : (IntKind.i64.wrap (2 ^ min Aa.toNat 64)) = Ae := by have h_ := hji6_; rw [Int.one_mul] at h_; exact h_
 have Ah : Aa ≤ 64 → (IntKind.i64.wrap (2 ^ Aa.toNat)) = Ae := fun hle_ => by have h_ := Ad hle_; rw [Int.one_mul] at h_; exact h_
 have Ai : (wrap64 (1 * 2 ^ min Aa.toNat 64)) = Ae := (ag _).symm.trans hji6_
 have Aj : Aa ≤ 64 → (wrap64 (1 * 2 ^ Aa.toNat)) = Ae := fun h_ => (ag _).symm.trans (Ad h_)
 replace H := xa H
 go_wp2_with (first | ((with_reducible refine xgc (f := 14) rfl ?_); refine xca 11 Tryz.func14 (dh (w := _) (hG := xG) (h := A3.out)) ?_; rintro w7 hb; replace HB := xst hb; (try clear hb)))
 first | go_roundg k1 | (simp only [← Ab]; go_roundg k1)
 case measure => have := HK1.out; omega
 case rel => exact ⟨(Go.bits .or .i64 Ac (Ae)), (wrap64 (Aa + 1)), (by first | exact xrs | (simp only [← Ab] <;> (first | rfl | simp)) | exact xrr), xrr, H, ⟨by have := HK1.out; omega⟩, ⟨xbl⟩⟩
 }
 replace H := xa H
 go_wp2_with (first | ((with_reducible refine xgc (f := 14) rfl ?_); refine xca 11 Tryz.func14 (dh (w := _) (hG := xG) (h := A3.out)) ?_; rintro w8 hb; replace HB := xst hb; (try clear hb)))
 go_roundg k1
 case measure => have := HK1.out; omega
 case rel => exact ⟨(Ac), (wrap64 (Aa + 1)), xrr, xrr, H, ⟨by have := HK1.out; omega⟩, ⟨xbl⟩⟩
 }
 have Af := xdf c2
 clear c2
 obtain rfl := Option.some.inj H
 go_wp2
 go_ret
 exact ⟨xre, xbl⟩
 )
 )
end Go.Proofs.YtpmflpeckoeooaaGreatDoor.X
