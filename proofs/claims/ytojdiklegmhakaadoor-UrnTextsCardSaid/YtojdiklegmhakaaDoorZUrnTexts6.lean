/- Texts that the law's proof needs, joined by a program of this session. -/
import Derived.Test.YtojdiklegmhakaaDoorZUrnTexts1
import Derived.Test.YtojdiklegmhakaaDoorZUrnTexts2
import Derived.Test.YtojdiklegmhakaaDoorZUrnTexts3
import Derived.Test.YtojdiklegmhakaaDoorZUrnTexts5
set_option maxHeartbeats 8000000
set_option maxRecDepth 100000
set_option linter.unusedSimpArgs false
set_option linter.unusedVariables false
namespace Go.Proofs.YtojdiklegmhakaaDoor.X
open Go.RowKit Go.Proofs.YtojdiklegmhakaaDoorW.PrintWords Go.Proofs.YtojdiklegmhakaaDoorW.PrintLast Go.Proofs.YtojdiklegmhakaaDoorW.PrintMore
attribute [local go_sem] di cR eu fH bY eW bv eN eP fB fC eo ep eO eQ
def bu : Nat → Bool → ByteArray → Int → Bool → ByteArray → Bool → ByteArray → ByteArray → Bool → ByteArray → Bool → ByteArray → Option (ByteArray × Int × Bool × ByteArray × Bool × ByteArray × ByteArray × Bool × ByteArray × Bool × ByteArray)
  | 0, _, _, _, _, _, _, _, _, _, _, _, _ => none
  | k + 1, x1, Ac, Ad, Ae, Af, Ag, Ah, Ai, Aj, Ak, Al, Am => if x1 = true then ((dF Ac Ad Ae Af Ag Ah Ai Aj Ak Al Am (⟨#[35]⟩ : ByteArray)).bind fun Aa => (if Aa.1 = true then ((bK k Aa.2.1 Aa.2.2.1 Aa.2.2.2.1 Aa.2.2.2.2.1 Aa.2.2.2.2.2.1 Aa.2.2.2.2.2.2.1 Aa.2.2.2.2.2.2.2.1 Aa.2.2.2.2.2.2.2.2.1 Aa.2.2.2.2.2.2.2.2.2.1 true Aa.2.2.2.2.2.2.2.2.2.2.2 7).bind fun Ab => (some (Ab.2.1, Ab.2.2.1, Ab.2.2.2.1, Ab.2.2.2.2.1, Ab.2.2.2.2.2.1, Ab.2.2.2.2.2.2.1, Ab.2.2.2.2.2.2.2.1, Ab.2.2.2.2.2.2.2.2.1, Ab.2.2.2.2.2.2.2.2.2.1, Ab.2.2.2.2.2.2.2.2.2.2.1, Ab.1))) else (some (Aa.2.1, Aa.2.2.1, Aa.2.2.2.1, Aa.2.2.2.2.1, Aa.2.2.2.2.2.1, Aa.2.2.2.2.2.2.1, Aa.2.2.2.2.2.2.2.1, Aa.2.2.2.2.2.2.2.2.1, Aa.2.2.2.2.2.2.2.2.2.1, Aa.2.2.2.2.2.2.2.2.2.2.1, Aa.2.2.2.2.2.2.2.2.2.2.2)))) else (some (Ac, Ad, Ae, Af, Ag, Ah, Ai, Aj, Ak, Al, Am))
def bM (k : Nat) (Ad : ByteArray) (Ae : Int) (Af : Bool) (Ag : ByteArray) (Ah : Bool) (Ai : ByteArray) (Aj : ByteArray) (Ak : Bool) (Al : ByteArray) (Am : Bool) (Ac : ByteArray) (a1 : Bool) : Option (ByteArray × Int × Bool × ByteArray × Bool × ByteArray × ByteArray × Bool × ByteArray × Bool × ByteArray) := (dF Ad Ae Af Ag Ah Ai Aj Ak Al Am Ac (⟨#[63]⟩ : ByteArray)).bind fun Aa => (if Aa.1 = true then ((bK k Aa.2.1 Aa.2.2.1 Aa.2.2.2.1 Aa.2.2.2.2.1 Aa.2.2.2.2.2.1 Aa.2.2.2.2.2.2.1 Aa.2.2.2.2.2.2.2.1 true Aa.2.2.2.2.2.2.2.2.2.1 Aa.2.2.2.2.2.2.2.2.2.2.1 Aa.2.2.2.2.2.2.2.2.2.2.2 6).bind fun Ab => (bu k a1 Ab.2.1 Ab.2.2.1 Ab.2.2.2.1 Ab.2.2.2.2.1 Ab.2.2.2.2.2.1 Ab.2.2.2.2.2.2.1 Ab.2.2.2.2.2.2.2.1 Ab.2.2.2.2.2.2.2.2.1 Ab.1 Ab.2.2.2.2.2.2.2.2.2.2.1 Ab.2.2.2.2.2.2.2.2.2.2.2)) else (bu k a1 Aa.2.1 Aa.2.2.1 Aa.2.2.2.1 Aa.2.2.2.2.1 Aa.2.2.2.2.2.1 Aa.2.2.2.2.2.2.1 Aa.2.2.2.2.2.2.2.1 Aa.2.2.2.2.2.2.2.2.1 Aa.2.2.2.2.2.2.2.2.2.1 Aa.2.2.2.2.2.2.2.2.2.2.1 Aa.2.2.2.2.2.2.2.2.2.2.2))
theorem fL : ∀ k, (∀ y0 y1 y2 y3 y4 y5 y6 y7 y8 y9 y10 y11, LeO (bu k y0 y1 y2 y3 y4 y5 y6 y7 y8 y9 y10 y11) (bu (k + 1) y0 y1 y2 y3 y4 y5 y6 y7 y8 y9 y10 y11))
  | 0 => fun _ _ _ _ _ _ _ _ _ _ _ _ r h => by simp [bu] at h
  | k + 1 => by
    have ih0 := fL k
    have m0 := @dJ
    · intro y0 y1 y2 y3 y4 y5 y6 y7 y8 y9 y10 y11
      unfold bu
      exact xmo
theorem i3 : ∀ a0 a1 a2 a3 a4 a5 a6 a7 a8 a9 a10 a11 k, LeO (bM k a0 a1 a2 a3 a4 a5 a6 a7 a8 a9 a10 a11) (bM (k + 1) a0 a1 a2 a3 a4 a5 a6 a7 a8 a9 a10 a11) := by
  intro a0 a1 a2 a3 a4 a5 a6 a7 a8 a9 a10 a11 k
  have ih0 := fL k
  have m0 := @dJ
  unfold bM
  exact xmo
theorem bp (k : Nat) (g : Nat) (Am : ByteArray) (An : Int) (Ao : Bool) (Ap : ByteArray) (Aq : Bool) (Ar : ByteArray) (As : ByteArray) (At : Bool) (Au : ByteArray) (Av : Bool) (Al : ByteArray) (a1 : Bool) (r1 : ByteArray) (r2 : Int) (r3 : Bool) (r4 : ByteArray) (r5 : Bool) (r6 : ByteArray) (r7 : ByteArray) (r8 : Bool) (r9 : ByteArray) (r10 : Bool) (r11 : ByteArray) (w0 w : World) (hI : IsS68 w0 w g Am An Ao Ap Aq Ar As At Au Av Al) (hB : Below w0.heap.size w0 w) (h : bM k Am An Ao Ap Aq Ar As At Au Av Al a1 = some (r1, r2, r3, r4, r5, r6, r7, r8, r9, r10, r11)) :
    Calls Tryd.prog 42 #[.pointer (some ⟨g, 0, none⟩), .bool a1] w fun e w' => e = .returned (.tuple #[]) ∧ IsS68 w0 w' g r1 r2 r3 r4 r5 r6 r7 r8 r9 r10 r11 ∧ Below w0.heap.size w0 w' ∧ KeepBut w w' g none := by
 have HI0 := Zz.mk hI
 have HK := Zz.mk (KeepBut.refl w g none)
 have HL := Zz.mk hB.size
 clear hI
 have HW0 := Zz.mk hB.size
 have HB := Zz.mk hB
 clear hB
 have H := h
 clear h
 unfold bM at H
 replace H := xbd H
 obtain ⟨⟨AT, Aw, Ax, Ay, Az, AA, AB, AC, AD, AE, AF, AG⟩, A3, H⟩ := H
 try dsimp only at H
 have AH := Zz.mk H
 clear H
 go_enter Tryd.func42, Tryd.ntmps42
 go_upto_if 5 with (first | ((with_reducible refine xgc (f := 51) rfl ?_); refine xca 5 Tryd.func51 (cg (w := _) (hI := am) (hB := aj) (h := A3.out)) ?_; rintro w5 ⟨hi, hb, hk⟩; replace HK := Zz.mk (KeepBut.trans xk hk (.inl rfl)); replace HB := Zz.mk (hb); replace HI0 := Zz.mk (hi); (try clear hb)))
 (try simp only [Act.put, xl1, xl2, xl3])
 go_cut [] (fun wc => ∃ kq Aa Ab Ac Ad Ae Af Ag Ah Ai Aj Ak, Zz (bu kq a1 Aa Ab Ac Ad Ae Af Ag Ah Ai Aj Ak = some (r1, r2, r3, r4, r5, r6, r7, r8, r9, r10, r11)) ∧ Zz (kq ≤ k) ∧ Zz (IsS68 w0 wc g Aa Ab Ac Ad Ae Af Ag Ah Ai Aj Ak) ∧ Zz (KeepBut w wc g none) ∧ Zz (Below w0.heap.size w0 wc))
 case first => (
 have H := AH.out
 clear AH
 refine xib H ?_ ?_ <;> clear H <;> rintro rfl H
 {
 replace H := xbd H
 obtain ⟨⟨AI, AJ, AK, AL, AM, AN, AO, AP, AQ, AU, AR, AS⟩, A7, H⟩ := H
 try dsimp only at H
 replace H := xa H
 have Bo := cA HI0.out.1
 go_wp2_with (first | ((with_reducible refine xgc (f := 53) rfl ?_); refine xca 12 Tryd.func53 (bo (w := _) (hI := am) (hB := aj) (h := A7.out)) ?_; rintro w9 ⟨hi, hb, hk⟩; replace HK := Zz.mk (KeepBut.trans xk hk (.inl rfl)); replace HB := Zz.mk (hb); replace HI0 := Zz.mk (hi); (try clear hb); have AV := cA HI0.out.1))
 go_meet
 case rel => exact ⟨_, (AJ), (AK), (AL), (AM), (AN), (AO), (AP), (AQ), (AI), (AR), (AS), H, ⟨xom⟩, ⟨am⟩, ⟨xk⟩, ⟨aj⟩⟩
 }
 replace H := xa H
 go_wp2
 go_meet
 case rel => exact ⟨_, (Aw), (Ax), (Ay), (Az), (AA), (AB), (AC), (AD), (AE), (AF), (AG), H, ⟨xom⟩, ⟨am⟩, ⟨xk⟩, ⟨aj⟩⟩
 )
 case rest => (
 clear AH
 obtain ⟨kq, Aa, Ab, Ac, Ad, Ae, Af, Ag, Ah, Ai, Aj, Ak, HA, HJ3, HI0, HK, HB⟩ := hcut
 cases kq with
 | zero => exact absurd HA.out (by simp [bu])
 | succ kj3 => (
 have H := HA.out
 clear HA
 simp only [bu] at H
 refine xib H ?_ ?_ <;> clear H <;> rintro rfl H
 {
 replace H := xbd H
 obtain ⟨⟨AW, AX, AY, AZ, A0, A1, A2, A4, A5, A6, A8, A9⟩, A12, H⟩ := H
 try dsimp only at H
 refine xib H ?_ ?_ <;> clear H <;> rintro rfl H
 {
 replace H := xbd H
 obtain ⟨⟨Ba, Bb, Bc, Bd, Be, Bf, Bg, Bh, Bi, Bj, Bk, Bl⟩, A14, H⟩ := H
 try dsimp only at H
 simp only [Option.some.injEq, Prod.mk.injEq] at H
 obtain ⟨rfl, rfl, rfl, rfl, rfl, rfl, rfl, rfl, rfl, rfl, rfl⟩ := H
 go_wp2_with (first | (go_at_call 51; (with_reducible refine (cg (w := _) (hI := am) (hB := aj) (h := A12.out)).mono ?_); rintro e w15 ⟨rfl, hi, hb, hk⟩; replace HK := Zz.mk (KeepBut.trans xk hk (.inl rfl)); replace HB := Zz.mk (hb); replace HI0 := Zz.mk (hi); (try clear hb); have Bm := cA HI0.out.1) | ((with_reducible refine xgc (f := 53) rfl ?_); refine xca 27 Tryd.func53 (bo (w := _) (hI := am) (hB := aj) (h := A14.out)) ?_; rintro w17 ⟨hi, hb, hk⟩; replace HK := Zz.mk (KeepBut.trans xk hk (.inl rfl)); replace HB := Zz.mk (hb); replace HI0 := Zz.mk (hi); (try clear hb); have Bn := cA HI0.out.1))
 first | go_end0 | ((try simp only [Exit.inBlock, Exit.then]); refine bodyPost_ret (results_none rfl _ _ _) rfl ?_)
 exact ⟨xre, am, aj, xk⟩
 }
 simp only [Option.some.injEq, Prod.mk.injEq] at H
 obtain ⟨rfl, rfl, rfl, rfl, rfl, rfl, rfl, rfl, rfl, rfl, rfl⟩ := H
 go_wp2_with (first | (go_at_call 51; (with_reducible refine (cg (w := _) (hI := am) (hB := aj) (h := A12.out)).mono ?_); rintro e w19 ⟨rfl, hi, hb, hk⟩; replace HK := Zz.mk (KeepBut.trans xk hk (.inl rfl)); replace HB := Zz.mk (hb); replace HI0 := Zz.mk (hi); (try clear hb)))
 first | go_end0 | ((try simp only [Exit.inBlock, Exit.then]); refine bodyPost_ret (results_none rfl _ _ _) rfl ?_)
 exact ⟨xre, am, aj, xk⟩
 }
 simp only [Option.some.injEq, Prod.mk.injEq] at H
 obtain ⟨rfl, rfl, rfl, rfl, rfl, rfl, rfl, rfl, rfl, rfl, rfl⟩ := H
 go_wp2
 first | go_end0 | ((try simp only [Exit.inBlock, Exit.then]); refine bodyPost_ret (results_none rfl _ _ _) rfl ?_)
 exact ⟨xre, am, aj, xk⟩
 )
 )
def ei (k : Nat) (a0 : Int) (a1 : ByteArray) : Option (ByteArray × Bool × ByteArray × ByteArray × Bool × ByteArray × Bool × ByteArray × Bool) := (fE a0).bind fun Ao => (if a0 = 2 then ((b9 k a1 0 Ao (⟨#[]⟩ : ByteArray) false (⟨#[]⟩ : ByteArray) (⟨#[]⟩ : ByteArray) false (⟨#[]⟩ : ByteArray) false (⟨#[]⟩ : ByteArray)).bind fun Aa => (if Aa.1 = true then ((aU k Aa.2.1 Aa.2.2.1 Aa.2.2.2.1 Aa.2.2.2.2.1 Aa.2.2.2.2.2.1 Aa.2.2.2.2.2.2.1 Aa.2.2.2.2.2.2.2.1 Aa.2.2.2.2.2.2.2.2.1 Aa.2.2.2.2.2.2.2.2.2.1 Aa.2.2.2.2.2.2.2.2.2.2.1 Aa.2.2.2.2.2.2.2.2.2.2.2).bind fun Ac => (if Ac.1 = true then ((bJ k Ac.2.1 Ac.2.2.1 Ac.2.2.2.1 Ac.2.2.2.2.1 Ac.2.2.2.2.2.1 Ac.2.2.2.2.2.2.1 Ac.2.2.2.2.2.2.2.1 Ac.2.2.2.2.2.2.2.2.1 Ac.2.2.2.2.2.2.2.2.2.1 Ac.2.2.2.2.2.2.2.2.2.2.1 Ac.2.2.2.2.2.2.2.2.2.2.2).bind fun Ad => (if Ad.1 = true then ((bM k Ad.2.1 Ad.2.2.1 Ad.2.2.2.1 Ad.2.2.2.2.1 Ad.2.2.2.2.2.1 Ad.2.2.2.2.2.2.1 Ad.2.2.2.2.2.2.2.1 Ad.2.2.2.2.2.2.2.2.1 Ad.2.2.2.2.2.2.2.2.2.1 Ad.2.2.2.2.2.2.2.2.2.2.1 Ad.2.2.2.2.2.2.2.2.2.2.2 (a0 != 3)).bind fun Ak => (if Ak.2.1 = (a1.size : Int) then (some (Ak.2.2.2.1, Ak.2.2.2.2.1, Ak.2.2.2.2.2.1, Ak.2.2.2.2.2.2.1, Ak.2.2.2.2.2.2.2.1, Ak.2.2.2.2.2.2.2.2.1, Ak.2.2.2.2.2.2.2.2.2.1, Ak.2.2.2.2.2.2.2.2.2.2, true)) else (some ((⟨#[]⟩ : ByteArray), false, (⟨#[]⟩ : ByteArray), (⟨#[]⟩ : ByteArray), false, (⟨#[]⟩ : ByteArray), false, (⟨#[]⟩ : ByteArray), false)))) else (some ((⟨#[]⟩ : ByteArray), false, (⟨#[]⟩ : ByteArray), (⟨#[]⟩ : ByteArray), false, (⟨#[]⟩ : ByteArray), false, (⟨#[]⟩ : ByteArray), false)))) else (some ((⟨#[]⟩ : ByteArray), false, (⟨#[]⟩ : ByteArray), (⟨#[]⟩ : ByteArray), false, (⟨#[]⟩ : ByteArray), false, (⟨#[]⟩ : ByteArray), false)))) else ((aU k Aa.2.1 Aa.2.2.1 Aa.2.2.2.1 Aa.2.2.2.2.1 Aa.2.2.2.2.2.1 Aa.2.2.2.2.2.2.1 Aa.2.2.2.2.2.2.2.1 Aa.2.2.2.2.2.2.2.2.1 Aa.2.2.2.2.2.2.2.2.2.1 Aa.2.2.2.2.2.2.2.2.2.2.1 Aa.2.2.2.2.2.2.2.2.2.2.2).bind fun Ae => (if Ae.1 = true then ((bJ k Ae.2.1 Ae.2.2.1 Ae.2.2.2.1 Ae.2.2.2.2.1 Ae.2.2.2.2.2.1 Ae.2.2.2.2.2.2.1 Ae.2.2.2.2.2.2.2.1 Ae.2.2.2.2.2.2.2.2.1 Ae.2.2.2.2.2.2.2.2.2.1 Ae.2.2.2.2.2.2.2.2.2.2.1 Ae.2.2.2.2.2.2.2.2.2.2.2).bind fun Af => (if Af.1 = true then ((bM k Af.2.1 Af.2.2.1 Af.2.2.2.1 Af.2.2.2.2.1 Af.2.2.2.2.2.1 Af.2.2.2.2.2.2.1 Af.2.2.2.2.2.2.2.1 Af.2.2.2.2.2.2.2.2.1 Af.2.2.2.2.2.2.2.2.2.1 Af.2.2.2.2.2.2.2.2.2.2.1 Af.2.2.2.2.2.2.2.2.2.2.2 (a0 != 3)).bind fun Al => (if Al.2.1 = (a1.size : Int) then (some (Al.2.2.2.1, Al.2.2.2.2.1, Al.2.2.2.2.2.1, Al.2.2.2.2.2.2.1, Al.2.2.2.2.2.2.2.1, Al.2.2.2.2.2.2.2.2.1, Al.2.2.2.2.2.2.2.2.2.1, Al.2.2.2.2.2.2.2.2.2.2, true)) else (some ((⟨#[]⟩ : ByteArray), false, (⟨#[]⟩ : ByteArray), (⟨#[]⟩ : ByteArray), false, (⟨#[]⟩ : ByteArray), false, (⟨#[]⟩ : ByteArray), false)))) else (some ((⟨#[]⟩ : ByteArray), false, (⟨#[]⟩ : ByteArray), (⟨#[]⟩ : ByteArray), false, (⟨#[]⟩ : ByteArray), false, (⟨#[]⟩ : ByteArray), false)))) else (some ((⟨#[]⟩ : ByteArray), false, (⟨#[]⟩ : ByteArray), (⟨#[]⟩ : ByteArray), false, (⟨#[]⟩ : ByteArray), false, (⟨#[]⟩ : ByteArray), false)))))) else ((b9 k a1 0 Ao (⟨#[]⟩ : ByteArray) false (⟨#[]⟩ : ByteArray) (⟨#[]⟩ : ByteArray) false (⟨#[]⟩ : ByteArray) false (⟨#[]⟩ : ByteArray)).bind fun Ab => (if Ab.1 = true then ((aU k Ab.2.1 Ab.2.2.1 Ab.2.2.2.1 Ab.2.2.2.2.1 Ab.2.2.2.2.2.1 Ab.2.2.2.2.2.2.1 Ab.2.2.2.2.2.2.2.1 Ab.2.2.2.2.2.2.2.2.1 Ab.2.2.2.2.2.2.2.2.2.1 Ab.2.2.2.2.2.2.2.2.2.2.1 Ab.2.2.2.2.2.2.2.2.2.2.2).bind fun Ag => (if Ag.1 = true then ((bJ k Ag.2.1 Ag.2.2.1 Ag.2.2.2.1 Ag.2.2.2.2.1 Ag.2.2.2.2.2.1 Ag.2.2.2.2.2.2.1 Ag.2.2.2.2.2.2.2.1 Ag.2.2.2.2.2.2.2.2.1 Ag.2.2.2.2.2.2.2.2.2.1 Ag.2.2.2.2.2.2.2.2.2.2.1 Ag.2.2.2.2.2.2.2.2.2.2.2).bind fun Ah => (if Ah.1 = true then ((bM k Ah.2.1 Ah.2.2.1 Ah.2.2.2.1 Ah.2.2.2.2.1 Ah.2.2.2.2.2.1 Ah.2.2.2.2.2.2.1 Ah.2.2.2.2.2.2.2.1 Ah.2.2.2.2.2.2.2.2.1 Ah.2.2.2.2.2.2.2.2.2.1 Ah.2.2.2.2.2.2.2.2.2.2.1 Ah.2.2.2.2.2.2.2.2.2.2.2 (a0 != 3)).bind fun Am => (if Am.2.1 = (a1.size : Int) then (some (Am.2.2.2.1, Am.2.2.2.2.1, Am.2.2.2.2.2.1, Am.2.2.2.2.2.2.1, Am.2.2.2.2.2.2.2.1, Am.2.2.2.2.2.2.2.2.1, Am.2.2.2.2.2.2.2.2.2.1, Am.2.2.2.2.2.2.2.2.2.2, true)) else (some ((⟨#[]⟩ : ByteArray), false, (⟨#[]⟩ : ByteArray), (⟨#[]⟩ : ByteArray), false, (⟨#[]⟩ : ByteArray), false, (⟨#[]⟩ : ByteArray), false)))) else (some ((⟨#[]⟩ : ByteArray), false, (⟨#[]⟩ : ByteArray), (⟨#[]⟩ : ByteArray), false, (⟨#[]⟩ : ByteArray), false, (⟨#[]⟩ : ByteArray), false)))) else (some ((⟨#[]⟩ : ByteArray), false, (⟨#[]⟩ : ByteArray), (⟨#[]⟩ : ByteArray), false, (⟨#[]⟩ : ByteArray), false, (⟨#[]⟩ : ByteArray), false)))) else (if a0 = 5 then ((aU k Ab.2.1 Ab.2.2.1 Ab.2.2.2.1 Ab.2.2.2.2.1 Ab.2.2.2.2.2.1 Ab.2.2.2.2.2.2.1 Ab.2.2.2.2.2.2.2.1 Ab.2.2.2.2.2.2.2.2.1 Ab.2.2.2.2.2.2.2.2.2.1 Ab.2.2.2.2.2.2.2.2.2.2.1 Ab.2.2.2.2.2.2.2.2.2.2.2).bind fun Ai => (if Ai.1 = true then ((bJ k Ai.2.1 Ai.2.2.1 Ai.2.2.2.1 Ai.2.2.2.2.1 Ai.2.2.2.2.2.1 Ai.2.2.2.2.2.2.1 Ai.2.2.2.2.2.2.2.1 Ai.2.2.2.2.2.2.2.2.1 Ai.2.2.2.2.2.2.2.2.2.1 Ai.2.2.2.2.2.2.2.2.2.2.1 Ai.2.2.2.2.2.2.2.2.2.2.2).bind fun Aj => (if Aj.1 = true then ((bM k Aj.2.1 Aj.2.2.1 Aj.2.2.2.1 Aj.2.2.2.2.1 Aj.2.2.2.2.2.1 Aj.2.2.2.2.2.2.1 Aj.2.2.2.2.2.2.2.1 Aj.2.2.2.2.2.2.2.2.1 Aj.2.2.2.2.2.2.2.2.2.1 Aj.2.2.2.2.2.2.2.2.2.2.1 Aj.2.2.2.2.2.2.2.2.2.2.2 (a0 != 3)).bind fun An => (if An.2.1 = (a1.size : Int) then (some (An.2.2.2.1, An.2.2.2.2.1, An.2.2.2.2.2.1, An.2.2.2.2.2.2.1, An.2.2.2.2.2.2.2.1, An.2.2.2.2.2.2.2.2.1, An.2.2.2.2.2.2.2.2.2.1, An.2.2.2.2.2.2.2.2.2.2, true)) else (some ((⟨#[]⟩ : ByteArray), false, (⟨#[]⟩ : ByteArray), (⟨#[]⟩ : ByteArray), false, (⟨#[]⟩ : ByteArray), false, (⟨#[]⟩ : ByteArray), false)))) else (some ((⟨#[]⟩ : ByteArray), false, (⟨#[]⟩ : ByteArray), (⟨#[]⟩ : ByteArray), false, (⟨#[]⟩ : ByteArray), false, (⟨#[]⟩ : ByteArray), false)))) else (some ((⟨#[]⟩ : ByteArray), false, (⟨#[]⟩ : ByteArray), (⟨#[]⟩ : ByteArray), false, (⟨#[]⟩ : ByteArray), false, (⟨#[]⟩ : ByteArray), false)))) else (some ((⟨#[]⟩ : ByteArray), false, (⟨#[]⟩ : ByteArray), (⟨#[]⟩ : ByteArray), false, (⟨#[]⟩ : ByteArray), false, (⟨#[]⟩ : ByteArray), false))))))
theorem il : ∀ a0 a1 k, LeO (ei k a0 a1) (ei (k + 1) a0 a1) := by
  intro a0 a1 k
  have m0 := @gT; have m1 := @i2; have m2 := @ix; have m3 := @i3
  unfold ei
  exact xmo
theorem g8 (k : Nat) (a0 : Int) (a1 : ByteArray) (r1 : ByteArray) (r2 : Bool) (r3 : ByteArray) (r4 : ByteArray) (r5 : Bool) (r6 : ByteArray) (r7 : Bool) (r8 : ByteArray) (r9 : Bool) (w : World) (hG : GW w) (h : ei k a0 a1 = some (r1, r2, r3, r4, r5, r6, r7, r8, r9)) :
    Calls Tryd.prog 30 #[.int .i64 a0, .string a1] w fun e w' => e = .returned (.tuple #[.agg #[.string r1, .bool r2, .string r3, .string r4, .bool r5, .string r6, .bool r7, .string r8], .bool r9]) ∧ Below w.heap.size w w' := by
 have hu37 := Tryd.underlying37
 have hu68 := Tryd.underlying68
 have HB := Zz.mk (Below.refl w.heap.size w)
 have H := h
 clear h
 unfold ei at H
 replace H := xbd H
 obtain ⟨Ah, A3, H⟩ := H
 try dsimp only at H
 refine xid H ?_ ?_ <;> clear H <;> intro c4 H
 {
 obtain ⟨At, Au⟩ := xqe c4
 clear c4
 replace H := xbd H
 obtain ⟨⟨BP, BQ, BR, BS, BT, BU, BV, BW, BX, BY, BZ, B0⟩, A5, H⟩ := H
 try dsimp only at H
 refine xib H ?_ ?_ <;> clear H <;> rintro rfl H
 {
 replace H := xbd H
 obtain ⟨⟨B1, B2, B3, B4, B5, B6, B7, B8, B9, Ca, Cb, Cc⟩, A7, H⟩ := H
 try dsimp only at H
 refine xib H ?_ ?_ <;> clear H <;> rintro rfl H
 {
 replace H := xbd H
 obtain ⟨⟨Cd, Ce, Cf, Cg, Ch, Ci, Cj, Ck, Cl, Cm, Cn, Co⟩, A9, H⟩ := H
 try dsimp only at H
 refine xib H ?_ ?_ <;> clear H <;> rintro rfl H
 {
 replace H := xbd H
 obtain ⟨⟨Cp, Cq, Cr, Av, Aw, Ax, Ay, Az, AA, AB, AC⟩, A11, H⟩ := H
 try dsimp only at H
 refine xid H ?_ ?_ <;> clear H <;> intro c12 H
 {
 obtain ⟨An, Ao⟩ := xqe c12
 clear c12
 simp only [Option.some.injEq, Prod.mk.injEq] at H
 obtain ⟨rfl, rfl, rfl, rfl, rfl, rfl, rfl, rfl, rfl⟩ := H
 go_enter Tryd.func30, Tryd.ntmps30
 go_wp2_with (first | (refine dH 0 rfl ?_) | (refine wp_goto ?_) | (refine wp_label ?_) | (refine Eq.mpr (bv (l := 0)) ?_) | ((with_reducible refine az (t := 37) (p := 4) rfl ?_); refine xwr 37 4 48 8 Aa Ae ?_; intro wz_ Aa HB) | ((with_reducible refine az (t := 37) (p := 4) rfl ?_); refine xwr 37 4 49 8 Aa Ae ?_; intro wz_ Aa HB) | ((with_reducible refine af (N := 4) rfl ?_); refine xew 4 ?_; intro Ac w13 Aa Ae hb hg; replace HB := xst hb; clear hb hg) | ((with_reducible refine xgc (f := 28) rfl ?_); refine xca 10 Tryd.func28 (ay (w := _) (h := A3.out)) ?_; rintro w' ⟨nd, rfl⟩; (try (rw [aG w13]; generalize hq_ : World.drewN w13 _ = w13; have n0_ := xbr Ac hq_; have n1_ : Zz (Below w.heap.size w w13) := ⟨by rw [← hq_]; exact xbl⟩; clear Aa HB hq_; have Aa := n0_; have HB := n1_; clear n0_ n1_))) | ((with_reducible refine af (N := 12) rfl ?_); refine xev 12 #[.string a1, .int .i64 0, .bool Ah, .string (⟨#[]⟩ : ByteArray), .bool false, .string (⟨#[]⟩ : ByteArray), .string (⟨#[]⟩ : ByteArray), .bool false, .string (⟨#[]⟩ : ByteArray), .bool false, .string (⟨#[]⟩ : ByteArray)] 68 ?_; intro Af hg w14 hbox hb; have Ag := xsz hg; have Ai := Ag; have Ab := xlt (g := Ac) hg; have Ad := xgt (g := Ac) hg; have HI330 := Zz.mk ((show IsS68 w w14 Af a1 0 Ah (⟨#[]⟩ : ByteArray) false (⟨#[]⟩ : ByteArray) (⟨#[]⟩ : ByteArray) false (⟨#[]⟩ : ByteArray) false (⟨#[]⟩ : ByteArray) from ⟨hbox, (by rw [hg]; exact (aD xbl) : w.heap.size ≤ Af)⟩)); replace Aa := xbq Ac hb; replace HB := xst hb; clear hb hbox hg) | ((with_reducible refine xgc (f := 39) rfl ?_); refine xca 20 Tryd.func39 (ar (w := _) (hI := am) (hB := aj) (h := A5.out)) ?_; rintro w15 ⟨hi, hb, hk⟩; replace Aa := aW Ac hk Ab; replace HB := Zz.mk (hb); replace HI330 := Zz.mk (hi); (try clear hb)) | ((with_reducible refine xgc (f := 40) rfl ?_); refine xca 27 Tryd.func40 (ao (w := _) (hI := am) (hB := aj) (hG := eH) (h := A7.out)) ?_; rintro w16 ⟨hi, hb, hk⟩; replace Aa := aW Ac hk Ab; replace HB := Zz.mk (hb); replace HI330 := Zz.mk (hi); (try clear hb)) | (go_at_call 41; (with_reducible refine (aI (w := _) (hI := am) (hB := aj) (h := A9.out)).mono ?_); rintro e w17 ⟨rfl, hi, hb, hk⟩; replace Aa := aW Ac hk Ab; replace HB := Zz.mk (hb); replace HI330 := Zz.mk (hi); (try clear hb)) | ((with_reducible refine xgc (f := 42) rfl ?_); refine xca 37 Tryd.func42 (bp (w := _) (hI := am) (hB := aj) (h := A11.out)) ?_; rintro w18 ⟨hi, hb, hk⟩; replace Aa := aW Ac hk Ab; replace HB := Zz.mk (hb); replace HI330 := Zz.mk (hi); (try clear hb); have Cs := cA HI330.out.1; have Bl := Ab.out; have Bm := Ad.out; have Ct := xz8 Aa.out))
 (try simp only [bY])
 refine bodyPost_ret (av rfl _ _ Ac 37 #[.string Av, .bool Aw, .string Ax, .string Ay, .bool Az, .string AA, .bool AB, .string AC] (0, 0) _ rfl xbk Tryd.underlying37 rfl (by kernel_rfl)) rfl ?_
 exact ⟨xre, aj⟩
 }
 obtain ⟨An, Ao⟩ := xqn c12
 simp only [Option.some.injEq, Prod.mk.injEq] at H
 obtain ⟨rfl, rfl, rfl, rfl, rfl, rfl, rfl, rfl, rfl⟩ := H
 go_enter Tryd.func30, Tryd.ntmps30
 go_wp2_with (first | (refine dH 0 rfl ?_) | (refine wp_goto ?_) | (refine wp_label ?_) | (refine Eq.mpr (bv (l := 0)) ?_) | ((with_reducible refine az (t := 37) (p := 4) rfl ?_); refine xwr 37 4 48 8 Aa Ae ?_; intro wz_ Aa HB) | ((with_reducible refine az (t := 37) (p := 4) rfl ?_); refine xwr 37 4 49 8 Aa Ae ?_; intro wz_ Aa HB) | ((with_reducible refine af (N := 4) rfl ?_); refine xew 4 ?_; intro Ac w22 Aa Ae hb hg; replace HB := xst hb; clear hb hg) | ((with_reducible refine xgc (f := 28) rfl ?_); refine xca 10 Tryd.func28 (ay (w := _) (h := A3.out)) ?_; rintro w' ⟨nd, rfl⟩; (try (rw [aG w22]; generalize hq_ : World.drewN w22 _ = w22; have n0_ := xbr Ac hq_; have n1_ : Zz (Below w.heap.size w w22) := ⟨by rw [← hq_]; exact xbl⟩; clear Aa HB hq_; have Aa := n0_; have HB := n1_; clear n0_ n1_))) | ((with_reducible refine af (N := 12) rfl ?_); refine xev 12 #[.string a1, .int .i64 0, .bool Ah, .string (⟨#[]⟩ : ByteArray), .bool false, .string (⟨#[]⟩ : ByteArray), .string (⟨#[]⟩ : ByteArray), .bool false, .string (⟨#[]⟩ : ByteArray), .bool false, .string (⟨#[]⟩ : ByteArray)] 68 ?_; intro Af hg w23 hbox hb; have Ag := xsz hg; have Ai := Ag; have Ab := xlt (g := Ac) hg; have Ad := xgt (g := Ac) hg; have HI330 := Zz.mk ((show IsS68 w w23 Af a1 0 Ah (⟨#[]⟩ : ByteArray) false (⟨#[]⟩ : ByteArray) (⟨#[]⟩ : ByteArray) false (⟨#[]⟩ : ByteArray) false (⟨#[]⟩ : ByteArray) from ⟨hbox, (by rw [hg]; exact (aD xbl) : w.heap.size ≤ Af)⟩)); replace Aa := xbq Ac hb; replace HB := xst hb; clear hb hbox hg) | ((with_reducible refine xgc (f := 39) rfl ?_); refine xca 20 Tryd.func39 (ar (w := _) (hI := am) (hB := aj) (h := A5.out)) ?_; rintro w24 ⟨hi, hb, hk⟩; replace Aa := aW Ac hk Ab; replace HB := Zz.mk (hb); replace HI330 := Zz.mk (hi); (try clear hb)) | ((with_reducible refine xgc (f := 40) rfl ?_); refine xca 27 Tryd.func40 (ao (w := _) (hI := am) (hB := aj) (hG := eH) (h := A7.out)) ?_; rintro w25 ⟨hi, hb, hk⟩; replace Aa := aW Ac hk Ab; replace HB := Zz.mk (hb); replace HI330 := Zz.mk (hi); (try clear hb)) | (go_at_call 41; (with_reducible refine (aI (w := _) (hI := am) (hB := aj) (h := A9.out)).mono ?_); rintro e w26 ⟨rfl, hi, hb, hk⟩; replace Aa := aW Ac hk Ab; replace HB := Zz.mk (hb); replace HI330 := Zz.mk (hi); (try clear hb)) | ((with_reducible refine xgc (f := 42) rfl ?_); refine xca 37 Tryd.func42 (bp (w := _) (hI := am) (hB := aj) (h := A11.out)) ?_; rintro w27 ⟨hi, hb, hk⟩; replace Aa := aW Ac hk Ab; replace HB := Zz.mk (hb); replace HI330 := Zz.mk (hi); (try clear hb); have Cu := cA HI330.out.1; have Bn := Ab.out; have Bo := Ad.out; have Cv := xz8 Aa.out))
 (try simp only [bY])
 refine bodyPost_ret (av rfl _ _ Ac 37 #[.string (⟨#[]⟩ : ByteArray), .bool false, .string (⟨#[]⟩ : ByteArray), .string (⟨#[]⟩ : ByteArray), .bool false, .string (⟨#[]⟩ : ByteArray), .bool false, .string (⟨#[]⟩ : ByteArray)] (0, 0) _ rfl xbk Tryd.underlying37 rfl (by kernel_rfl)) rfl ?_
 exact ⟨xre, aj⟩
 }
 simp only [Option.some.injEq, Prod.mk.injEq] at H
 obtain ⟨rfl, rfl, rfl, rfl, rfl, rfl, rfl, rfl, rfl⟩ := H
 go_enter Tryd.func30, Tryd.ntmps30
 go_wp2_with (first | (refine dH 0 rfl ?_) | (refine wp_goto ?_) | (refine wp_label ?_) | (refine Eq.mpr (bv (l := 0)) ?_) | ((with_reducible refine az (t := 37) (p := 4) rfl ?_); refine xwr 37 4 48 8 Aa Ae ?_; intro wz_ Aa HB) | ((with_reducible refine az (t := 37) (p := 4) rfl ?_); refine xwr 37 4 49 8 Aa Ae ?_; intro wz_ Aa HB) | ((with_reducible refine af (N := 4) rfl ?_); refine xew 4 ?_; intro Ac w31 Aa Ae hb hg; replace HB := xst hb; clear hb hg) | ((with_reducible refine xgc (f := 28) rfl ?_); refine xca 10 Tryd.func28 (ay (w := _) (h := A3.out)) ?_; rintro w' ⟨nd, rfl⟩; (try (rw [aG w31]; generalize hq_ : World.drewN w31 _ = w31; have n0_ := xbr Ac hq_; have n1_ : Zz (Below w.heap.size w w31) := ⟨by rw [← hq_]; exact xbl⟩; clear Aa HB hq_; have Aa := n0_; have HB := n1_; clear n0_ n1_))) | ((with_reducible refine af (N := 12) rfl ?_); refine xev 12 #[.string a1, .int .i64 0, .bool Ah, .string (⟨#[]⟩ : ByteArray), .bool false, .string (⟨#[]⟩ : ByteArray), .string (⟨#[]⟩ : ByteArray), .bool false, .string (⟨#[]⟩ : ByteArray), .bool false, .string (⟨#[]⟩ : ByteArray)] 68 ?_; intro Af hg w32 hbox hb; have Ag := xsz hg; have Ai := Ag; have Ab := xlt (g := Ac) hg; have Ad := xgt (g := Ac) hg; have HI330 := Zz.mk ((show IsS68 w w32 Af a1 0 Ah (⟨#[]⟩ : ByteArray) false (⟨#[]⟩ : ByteArray) (⟨#[]⟩ : ByteArray) false (⟨#[]⟩ : ByteArray) false (⟨#[]⟩ : ByteArray) from ⟨hbox, (by rw [hg]; exact (aD xbl) : w.heap.size ≤ Af)⟩)); replace Aa := xbq Ac hb; replace HB := xst hb; clear hb hbox hg) | ((with_reducible refine xgc (f := 39) rfl ?_); refine xca 20 Tryd.func39 (ar (w := _) (hI := am) (hB := aj) (h := A5.out)) ?_; rintro w33 ⟨hi, hb, hk⟩; replace Aa := aW Ac hk Ab; replace HB := Zz.mk (hb); replace HI330 := Zz.mk (hi); (try clear hb)) | ((with_reducible refine xgc (f := 40) rfl ?_); refine xca 27 Tryd.func40 (ao (w := _) (hI := am) (hB := aj) (hG := eH) (h := A7.out)) ?_; rintro w34 ⟨hi, hb, hk⟩; replace Aa := aW Ac hk Ab; replace HB := Zz.mk (hb); replace HI330 := Zz.mk (hi); (try clear hb)) | (go_at_call 41; (with_reducible refine (aI (w := _) (hI := am) (hB := aj) (h := A9.out)).mono ?_); rintro e w35 ⟨rfl, hi, hb, hk⟩; replace Aa := aW Ac hk Ab; replace HB := Zz.mk (hb); replace HI330 := Zz.mk (hi); (try clear hb); have Bp := Ab.out; have Bq := Ad.out; have Cw := xz8 Aa.out))
 (try simp only [bY])
 refine bodyPost_ret (av rfl _ _ Ac 37 #[.string (⟨#[]⟩ : ByteArray), .bool false, .string (⟨#[]⟩ : ByteArray), .string (⟨#[]⟩ : ByteArray), .bool false, .string (⟨#[]⟩ : ByteArray), .bool false, .string (⟨#[]⟩ : ByteArray)] (0, 0) _ rfl xbk Tryd.underlying37 rfl (by kernel_rfl)) rfl ?_
 exact ⟨xre, aj⟩
 }
 simp only [Option.some.injEq, Prod.mk.injEq] at H
 obtain ⟨rfl, rfl, rfl, rfl, rfl, rfl, rfl, rfl, rfl⟩ := H
 go_enter Tryd.func30, Tryd.ntmps30
 go_wp2_with (first | (refine dH 0 rfl ?_) | (refine wp_goto ?_) | (refine wp_label ?_) | (refine Eq.mpr (bv (l := 0)) ?_) | ((with_reducible refine az (t := 37) (p := 4) rfl ?_); refine xwr 37 4 48 8 Aa Ae ?_; intro wz_ Aa HB) | ((with_reducible refine az (t := 37) (p := 4) rfl ?_); refine xwr 37 4 49 8 Aa Ae ?_; intro wz_ Aa HB) | ((with_reducible refine af (N := 4) rfl ?_); refine xew 4 ?_; intro Ac w38 Aa Ae hb hg; replace HB := xst hb; clear hb hg) | ((with_reducible refine xgc (f := 28) rfl ?_); refine xca 10 Tryd.func28 (ay (w := _) (h := A3.out)) ?_; rintro w' ⟨nd, rfl⟩; (try (rw [aG w38]; generalize hq_ : World.drewN w38 _ = w38; have n0_ := xbr Ac hq_; have n1_ : Zz (Below w.heap.size w w38) := ⟨by rw [← hq_]; exact xbl⟩; clear Aa HB hq_; have Aa := n0_; have HB := n1_; clear n0_ n1_))) | ((with_reducible refine af (N := 12) rfl ?_); refine xev 12 #[.string a1, .int .i64 0, .bool Ah, .string (⟨#[]⟩ : ByteArray), .bool false, .string (⟨#[]⟩ : ByteArray), .string (⟨#[]⟩ : ByteArray), .bool false, .string (⟨#[]⟩ : ByteArray), .bool false, .string (⟨#[]⟩ : ByteArray)] 68 ?_; intro Af hg w39 hbox hb; have Ag := xsz hg; have Ai := Ag; have Ab := xlt (g := Ac) hg; have Ad := xgt (g := Ac) hg; have HI330 := Zz.mk ((show IsS68 w w39 Af a1 0 Ah (⟨#[]⟩ : ByteArray) false (⟨#[]⟩ : ByteArray) (⟨#[]⟩ : ByteArray) false (⟨#[]⟩ : ByteArray) false (⟨#[]⟩ : ByteArray) from ⟨hbox, (by rw [hg]; exact (aD xbl) : w.heap.size ≤ Af)⟩)); replace Aa := xbq Ac hb; replace HB := xst hb; clear hb hbox hg) | ((with_reducible refine xgc (f := 39) rfl ?_); refine xca 20 Tryd.func39 (ar (w := _) (hI := am) (hB := aj) (h := A5.out)) ?_; rintro w40 ⟨hi, hb, hk⟩; replace Aa := aW Ac hk Ab; replace HB := Zz.mk (hb); replace HI330 := Zz.mk (hi); (try clear hb)) | ((with_reducible refine xgc (f := 40) rfl ?_); refine xca 27 Tryd.func40 (ao (w := _) (hI := am) (hB := aj) (hG := eH) (h := A7.out)) ?_; rintro w41 ⟨hi, hb, hk⟩; replace Aa := aW Ac hk Ab; replace HB := Zz.mk (hb); replace HI330 := Zz.mk (hi); (try clear hb); have Br := Ab.out; have Bs := Ad.out; have Cx := xz8 Aa.out))
 (try simp only [bY])
 refine bodyPost_ret (av rfl _ _ Ac 37 #[.string (⟨#[]⟩ : ByteArray), .bool false, .string (⟨#[]⟩ : ByteArray), .string (⟨#[]⟩ : ByteArray), .bool false, .string (⟨#[]⟩ : ByteArray), .bool false, .string (⟨#[]⟩ : ByteArray)] (0, 0) _ rfl xbk Tryd.underlying37 rfl (by kernel_rfl)) rfl ?_
 exact ⟨xre, aj⟩
 }
 replace H := xbd H
 obtain ⟨⟨Cy, Cz, CA, CB, CC, CD, CE, CF, CG, CH, CI, CJ⟩, A44, H⟩ := H
 try dsimp only at H
 refine xib H ?_ ?_ <;> clear H <;> rintro rfl H
 {
 replace H := xbd H
 obtain ⟨⟨CK, CL, CM, CN, CO, CP, CQ, CR, CS, CT, CU, CV⟩, A46, H⟩ := H
 try dsimp only at H
 refine xib H ?_ ?_ <;> clear H <;> rintro rfl H
 {
 replace H := xbd H
 obtain ⟨⟨CW, CX, CY, AD, AE, AF, AG, AH, AI, AJ, AK⟩, A48, H⟩ := H
 try dsimp only at H
 refine xid H ?_ ?_ <;> clear H <;> intro c49 H
 {
 obtain ⟨Ap, Aq⟩ := xqe c49
 clear c49
 simp only [Option.some.injEq, Prod.mk.injEq] at H
 obtain ⟨rfl, rfl, rfl, rfl, rfl, rfl, rfl, rfl, rfl⟩ := H
 go_enter Tryd.func30, Tryd.ntmps30
 go_wp2_with (first | (refine dH 0 rfl ?_) | (refine wp_goto ?_) | (refine wp_label ?_) | (refine Eq.mpr (bv (l := 0)) ?_) | ((with_reducible refine az (t := 37) (p := 4) rfl ?_); refine xwr 37 4 48 8 Aa Ae ?_; intro wz_ Aa HB) | ((with_reducible refine az (t := 37) (p := 4) rfl ?_); refine xwr 37 4 49 8 Aa Ae ?_; intro wz_ Aa HB) | ((with_reducible refine af (N := 4) rfl ?_); refine xew 4 ?_; intro Ac w50 Aa Ae hb hg; replace HB := xst hb; clear hb hg) | ((with_reducible refine xgc (f := 28) rfl ?_); refine xca 10 Tryd.func28 (ay (w := _) (h := A3.out)) ?_; rintro w' ⟨nd, rfl⟩; (try (rw [aG w50]; generalize hq_ : World.drewN w50 _ = w50; have n0_ := xbr Ac hq_; have n1_ : Zz (Below w.heap.size w w50) := ⟨by rw [← hq_]; exact xbl⟩; clear Aa HB hq_; have Aa := n0_; have HB := n1_; clear n0_ n1_))) | ((with_reducible refine af (N := 12) rfl ?_); refine xev 12 #[.string a1, .int .i64 0, .bool Ah, .string (⟨#[]⟩ : ByteArray), .bool false, .string (⟨#[]⟩ : ByteArray), .string (⟨#[]⟩ : ByteArray), .bool false, .string (⟨#[]⟩ : ByteArray), .bool false, .string (⟨#[]⟩ : ByteArray)] 68 ?_; intro Af hg w51 hbox hb; have Ag := xsz hg; have Ai := Ag; have Ab := xlt (g := Ac) hg; have Ad := xgt (g := Ac) hg; have HI330 := Zz.mk ((show IsS68 w w51 Af a1 0 Ah (⟨#[]⟩ : ByteArray) false (⟨#[]⟩ : ByteArray) (⟨#[]⟩ : ByteArray) false (⟨#[]⟩ : ByteArray) false (⟨#[]⟩ : ByteArray) from ⟨hbox, (by rw [hg]; exact (aD xbl) : w.heap.size ≤ Af)⟩)); replace Aa := xbq Ac hb; replace HB := xst hb; clear hb hbox hg) | ((with_reducible refine xgc (f := 39) rfl ?_); refine xca 20 Tryd.func39 (ar (w := _) (hI := am) (hB := aj) (h := A5.out)) ?_; rintro w52 ⟨hi, hb, hk⟩; replace Aa := aW Ac hk Ab; replace HB := Zz.mk (hb); replace HI330 := Zz.mk (hi); (try clear hb)) | ((with_reducible refine xgc (f := 40) rfl ?_); refine xca 27 Tryd.func40 (ao (w := _) (hI := am) (hB := aj) (hG := eH) (h := A44.out)) ?_; rintro w53 ⟨hi, hb, hk⟩; replace Aa := aW Ac hk Ab; replace HB := Zz.mk (hb); replace HI330 := Zz.mk (hi); (try clear hb)) | (go_at_call 41; (with_reducible refine (aI (w := _) (hI := am) (hB := aj) (h := A46.out)).mono ?_); rintro e w54 ⟨rfl, hi, hb, hk⟩; replace Aa := aW Ac hk Ab; replace HB := Zz.mk (hb); replace HI330 := Zz.mk (hi); (try clear hb)) | ((with_reducible refine xgc (f := 42) rfl ?_); refine xca 37 Tryd.func42 (bp (w := _) (hI := am) (hB := aj) (h := A48.out)) ?_; rintro w55 ⟨hi, hb, hk⟩; replace Aa := aW Ac hk Ab; replace HB := Zz.mk (hb); replace HI330 := Zz.mk (hi); (try clear hb); have CZ := cA HI330.out.1; have Bt := Ab.out; have Bu := Ad.out; have C0 := xz8 Aa.out))
 (try simp only [bY])
 refine bodyPost_ret (av rfl _ _ Ac 37 #[.string AD, .bool AE, .string AF, .string AG, .bool AH, .string AI, .bool AJ, .string AK] (0, 0) _ rfl xbk Tryd.underlying37 rfl (by kernel_rfl)) rfl ?_
 exact ⟨xre, aj⟩
 }
 obtain ⟨Ap, Aq⟩ := xqn c49
 simp only [Option.some.injEq, Prod.mk.injEq] at H
 obtain ⟨rfl, rfl, rfl, rfl, rfl, rfl, rfl, rfl, rfl⟩ := H
 go_enter Tryd.func30, Tryd.ntmps30
 go_wp2_with (first | (refine dH 0 rfl ?_) | (refine wp_goto ?_) | (refine wp_label ?_) | (refine Eq.mpr (bv (l := 0)) ?_) | ((with_reducible refine az (t := 37) (p := 4) rfl ?_); refine xwr 37 4 48 8 Aa Ae ?_; intro wz_ Aa HB) | ((with_reducible refine az (t := 37) (p := 4) rfl ?_); refine xwr 37 4 49 8 Aa Ae ?_; intro wz_ Aa HB) | ((with_reducible refine af (N := 4) rfl ?_); refine xew 4 ?_; intro Ac w59 Aa Ae hb hg; replace HB := xst hb; clear hb hg) | ((with_reducible refine xgc (f := 28) rfl ?_); refine xca 10 Tryd.func28 (ay (w := _) (h := A3.out)) ?_; rintro w' ⟨nd, rfl⟩; (try (rw [aG w59]; generalize hq_ : World.drewN w59 _ = w59; have n0_ := xbr Ac hq_; have n1_ : Zz (Below w.heap.size w w59) := ⟨by rw [← hq_]; exact xbl⟩; clear Aa HB hq_; have Aa := n0_; have HB := n1_; clear n0_ n1_))) | ((with_reducible refine af (N := 12) rfl ?_); refine xev 12 #[.string a1, .int .i64 0, .bool Ah, .string (⟨#[]⟩ : ByteArray), .bool false, .string (⟨#[]⟩ : ByteArray), .string (⟨#[]⟩ : ByteArray), .bool false, .string (⟨#[]⟩ : ByteArray), .bool false, .string (⟨#[]⟩ : ByteArray)] 68 ?_; intro Af hg w60 hbox hb; have Ag := xsz hg; have Ai := Ag; have Ab := xlt (g := Ac) hg; have Ad := xgt (g := Ac) hg; have HI330 := Zz.mk ((show IsS68 w w60 Af a1 0 Ah (⟨#[]⟩ : ByteArray) false (⟨#[]⟩ : ByteArray) (⟨#[]⟩ : ByteArray) false (⟨#[]⟩ : ByteArray) false (⟨#[]⟩ : ByteArray) from ⟨hbox, (by rw [hg]; exact (aD xbl) : w.heap.size ≤ Af)⟩)); replace Aa := xbq Ac hb; replace HB := xst hb; clear hb hbox hg) | ((with_reducible refine xgc (f := 39) rfl ?_); refine xca 20 Tryd.func39 (ar (w := _) (hI := am) (hB := aj) (h := A5.out)) ?_; rintro w61 ⟨hi, hb, hk⟩; replace Aa := aW Ac hk Ab; replace HB := Zz.mk (hb); replace HI330 := Zz.mk (hi); (try clear hb)) | ((with_reducible refine xgc (f := 40) rfl ?_); refine xca 27 Tryd.func40 (ao (w := _) (hI := am) (hB := aj) (hG := eH) (h := A44.out)) ?_; rintro w62 ⟨hi, hb, hk⟩; replace Aa := aW Ac hk Ab; replace HB := Zz.mk (hb); replace HI330 := Zz.mk (hi); (try clear hb)) | (go_at_call 41; (with_reducible refine (aI (w := _) (hI := am) (hB := aj) (h := A46.out)).mono ?_); rintro e w63 ⟨rfl, hi, hb, hk⟩; replace Aa := aW Ac hk Ab; replace HB := Zz.mk (hb); replace HI330 := Zz.mk (hi); (try clear hb)) | ((with_reducible refine xgc (f := 42) rfl ?_); refine xca 37 Tryd.func42 (bp (w := _) (hI := am) (hB := aj) (h := A48.out)) ?_; rintro w64 ⟨hi, hb, hk⟩; replace Aa := aW Ac hk Ab; replace HB := Zz.mk (hb); replace HI330 := Zz.mk (hi); (try clear hb); have C1 := cA HI330.out.1; have Bv := Ab.out; have Bw := Ad.out; have C2 := xz8 Aa.out))
 (try simp only [bY])
 refine bodyPost_ret (av rfl _ _ Ac 37 #[.string (⟨#[]⟩ : ByteArray), .bool false, .string (⟨#[]⟩ : ByteArray), .string (⟨#[]⟩ : ByteArray), .bool false, .string (⟨#[]⟩ : ByteArray), .bool false, .string (⟨#[]⟩ : ByteArray)] (0, 0) _ rfl xbk Tryd.underlying37 rfl (by kernel_rfl)) rfl ?_
 exact ⟨xre, aj⟩
 }
 simp only [Option.some.injEq, Prod.mk.injEq] at H
 obtain ⟨rfl, rfl, rfl, rfl, rfl, rfl, rfl, rfl, rfl⟩ := H
 go_enter Tryd.func30, Tryd.ntmps30
 go_wp2_with (first | (refine dH 0 rfl ?_) | (refine wp_goto ?_) | (refine wp_label ?_) | (refine Eq.mpr (bv (l := 0)) ?_) | ((with_reducible refine az (t := 37) (p := 4) rfl ?_); refine xwr 37 4 48 8 Aa Ae ?_; intro wz_ Aa HB) | ((with_reducible refine az (t := 37) (p := 4) rfl ?_); refine xwr 37 4 49 8 Aa Ae ?_; intro wz_ Aa HB) | ((with_reducible refine af (N := 4) rfl ?_); refine xew 4 ?_; intro Ac w68 Aa Ae hb hg; replace HB := xst hb; clear hb hg) | ((with_reducible refine xgc (f := 28) rfl ?_); refine xca 10 Tryd.func28 (ay (w := _) (h := A3.out)) ?_; rintro w' ⟨nd, rfl⟩; (try (rw [aG w68]; generalize hq_ : World.drewN w68 _ = w68; have n0_ := xbr Ac hq_; have n1_ : Zz (Below w.heap.size w w68) := ⟨by rw [← hq_]; exact xbl⟩; clear Aa HB hq_; have Aa := n0_; have HB := n1_; clear n0_ n1_))) | ((with_reducible refine af (N := 12) rfl ?_); refine xev 12 #[.string a1, .int .i64 0, .bool Ah, .string (⟨#[]⟩ : ByteArray), .bool false, .string (⟨#[]⟩ : ByteArray), .string (⟨#[]⟩ : ByteArray), .bool false, .string (⟨#[]⟩ : ByteArray), .bool false, .string (⟨#[]⟩ : ByteArray)] 68 ?_; intro Af hg w69 hbox hb; have Ag := xsz hg; have Ai := Ag; have Ab := xlt (g := Ac) hg; have Ad := xgt (g := Ac) hg; have HI330 := Zz.mk ((show IsS68 w w69 Af a1 0 Ah (⟨#[]⟩ : ByteArray) false (⟨#[]⟩ : ByteArray) (⟨#[]⟩ : ByteArray) false (⟨#[]⟩ : ByteArray) false (⟨#[]⟩ : ByteArray) from ⟨hbox, (by rw [hg]; exact (aD xbl) : w.heap.size ≤ Af)⟩)); replace Aa := xbq Ac hb; replace HB := xst hb; clear hb hbox hg) | ((with_reducible refine xgc (f := 39) rfl ?_); refine xca 20 Tryd.func39 (ar (w := _) (hI := am) (hB := aj) (h := A5.out)) ?_; rintro w70 ⟨hi, hb, hk⟩; replace Aa := aW Ac hk Ab; replace HB := Zz.mk (hb); replace HI330 := Zz.mk (hi); (try clear hb)) | ((with_reducible refine xgc (f := 40) rfl ?_); refine xca 27 Tryd.func40 (ao (w := _) (hI := am) (hB := aj) (hG := eH) (h := A44.out)) ?_; rintro w71 ⟨hi, hb, hk⟩; replace Aa := aW Ac hk Ab; replace HB := Zz.mk (hb); replace HI330 := Zz.mk (hi); (try clear hb)) | (go_at_call 41; (with_reducible refine (aI (w := _) (hI := am) (hB := aj) (h := A46.out)).mono ?_); rintro e w72 ⟨rfl, hi, hb, hk⟩; replace Aa := aW Ac hk Ab; replace HB := Zz.mk (hb); replace HI330 := Zz.mk (hi); (try clear hb); have Bx := Ab.out; have By := Ad.out; have C3 := xz8 Aa.out))
 (try simp only [bY])
 refine bodyPost_ret (av rfl _ _ Ac 37 #[.string (⟨#[]⟩ : ByteArray), .bool false, .string (⟨#[]⟩ : ByteArray), .string (⟨#[]⟩ : ByteArray), .bool false, .string (⟨#[]⟩ : ByteArray), .bool false, .string (⟨#[]⟩ : ByteArray)] (0, 0) _ rfl xbk Tryd.underlying37 rfl (by kernel_rfl)) rfl ?_
 exact ⟨xre, aj⟩
 }
 simp only [Option.some.injEq, Prod.mk.injEq] at H
 obtain ⟨rfl, rfl, rfl, rfl, rfl, rfl, rfl, rfl, rfl⟩ := H
 go_enter Tryd.func30, Tryd.ntmps30
 go_wp2_with (first | (refine dH 0 rfl ?_) | (refine wp_goto ?_) | (refine wp_label ?_) | (refine Eq.mpr (bv (l := 0)) ?_) | ((with_reducible refine az (t := 37) (p := 4) rfl ?_); refine xwr 37 4 48 8 Aa Ae ?_; intro wz_ Aa HB) | ((with_reducible refine az (t := 37) (p := 4) rfl ?_); refine xwr 37 4 49 8 Aa Ae ?_; intro wz_ Aa HB) | ((with_reducible refine af (N := 4) rfl ?_); refine xew 4 ?_; intro Ac w75 Aa Ae hb hg; replace HB := xst hb; clear hb hg) | ((with_reducible refine xgc (f := 28) rfl ?_); refine xca 10 Tryd.func28 (ay (w := _) (h := A3.out)) ?_; rintro w' ⟨nd, rfl⟩; (try (rw [aG w75]; generalize hq_ : World.drewN w75 _ = w75; have n0_ := xbr Ac hq_; have n1_ : Zz (Below w.heap.size w w75) := ⟨by rw [← hq_]; exact xbl⟩; clear Aa HB hq_; have Aa := n0_; have HB := n1_; clear n0_ n1_))) | ((with_reducible refine af (N := 12) rfl ?_); refine xev 12 #[.string a1, .int .i64 0, .bool Ah, .string (⟨#[]⟩ : ByteArray), .bool false, .string (⟨#[]⟩ : ByteArray), .string (⟨#[]⟩ : ByteArray), .bool false, .string (⟨#[]⟩ : ByteArray), .bool false, .string (⟨#[]⟩ : ByteArray)] 68 ?_; intro Af hg w76 hbox hb; have Ag := xsz hg; have Ai := Ag; have Ab := xlt (g := Ac) hg; have Ad := xgt (g := Ac) hg; have HI330 := Zz.mk ((show IsS68 w w76 Af a1 0 Ah (⟨#[]⟩ : ByteArray) false (⟨#[]⟩ : ByteArray) (⟨#[]⟩ : ByteArray) false (⟨#[]⟩ : ByteArray) false (⟨#[]⟩ : ByteArray) from ⟨hbox, (by rw [hg]; exact (aD xbl) : w.heap.size ≤ Af)⟩)); replace Aa := xbq Ac hb; replace HB := xst hb; clear hb hbox hg) | ((with_reducible refine xgc (f := 39) rfl ?_); refine xca 20 Tryd.func39 (ar (w := _) (hI := am) (hB := aj) (h := A5.out)) ?_; rintro w77 ⟨hi, hb, hk⟩; replace Aa := aW Ac hk Ab; replace HB := Zz.mk (hb); replace HI330 := Zz.mk (hi); (try clear hb)) | ((with_reducible refine xgc (f := 40) rfl ?_); refine xca 27 Tryd.func40 (ao (w := _) (hI := am) (hB := aj) (hG := eH) (h := A44.out)) ?_; rintro w78 ⟨hi, hb, hk⟩; replace Aa := aW Ac hk Ab; replace HB := Zz.mk (hb); replace HI330 := Zz.mk (hi); (try clear hb); have Bz := Ab.out; have BA := Ad.out; have C4 := xz8 Aa.out))
 (try simp only [bY])
 refine bodyPost_ret (av rfl _ _ Ac 37 #[.string (⟨#[]⟩ : ByteArray), .bool false, .string (⟨#[]⟩ : ByteArray), .string (⟨#[]⟩ : ByteArray), .bool false, .string (⟨#[]⟩ : ByteArray), .bool false, .string (⟨#[]⟩ : ByteArray)] (0, 0) _ rfl xbk Tryd.underlying37 rfl (by kernel_rfl)) rfl ?_
 exact ⟨xre, aj⟩
 }
 obtain ⟨At, Au⟩ := xqn c4
 replace H := xbd H
 obtain ⟨⟨C5, C6, C7, C8, C9, Da, Db, Dc, Dd, De, Df, Dg⟩, A81, H⟩ := H
 try dsimp only at H
 refine xib H ?_ ?_ <;> clear H <;> rintro rfl H
 {
 replace H := xbd H
 obtain ⟨⟨Dh, Di, Dj, Dk, Dl, Dm, Dn, Do, Dp, Dq, Dr, Ds⟩, A83, H⟩ := H
 try dsimp only at H
 refine xib H ?_ ?_ <;> clear H <;> rintro rfl H
 {
 replace H := xbd H
 obtain ⟨⟨Dt, Du, Dv, Dw, Dx, Dy, Dz, DA, DB, DC, DD, DE⟩, A85, H⟩ := H
 try dsimp only at H
 refine xib H ?_ ?_ <;> clear H <;> rintro rfl H
 {
 replace H := xbd H
 obtain ⟨⟨DF, DG, DH, AL, AM, AN, AO, AP, AQ, AR, AS⟩, A87, H⟩ := H
 try dsimp only at H
 refine xid H ?_ ?_ <;> clear H <;> intro c88 H
 {
 obtain ⟨Ar, As⟩ := xqe c88
 clear c88
 simp only [Option.some.injEq, Prod.mk.injEq] at H
 obtain ⟨rfl, rfl, rfl, rfl, rfl, rfl, rfl, rfl, rfl⟩ := H
 go_enter Tryd.func30, Tryd.ntmps30
 go_wp2_with (first | (refine dH 0 rfl ?_) | (refine wp_goto ?_) | (refine wp_label ?_) | (refine Eq.mpr (bv (l := 0)) ?_) | ((with_reducible refine az (t := 37) (p := 4) rfl ?_); refine xwr 37 4 48 8 Aa Ae ?_; intro wz_ Aa HB) | ((with_reducible refine az (t := 37) (p := 4) rfl ?_); refine xwr 37 4 49 8 Aa Ae ?_; intro wz_ Aa HB) | ((with_reducible refine af (N := 4) rfl ?_); refine xew 4 ?_; intro Ac w89 Aa Ae hb hg; replace HB := xst hb; clear hb hg) | ((with_reducible refine xgc (f := 28) rfl ?_); refine xca 10 Tryd.func28 (ay (w := _) (h := A3.out)) ?_; rintro w' ⟨nd, rfl⟩; (try (rw [aG w89]; generalize hq_ : World.drewN w89 _ = w89; have n0_ := xbr Ac hq_; have n1_ : Zz (Below w.heap.size w w89) := ⟨by rw [← hq_]; exact xbl⟩; clear Aa HB hq_; have Aa := n0_; have HB := n1_; clear n0_ n1_))) | ((with_reducible refine af (N := 12) rfl ?_); refine xev 12 #[.string a1, .int .i64 0, .bool Ah, .string (⟨#[]⟩ : ByteArray), .bool false, .string (⟨#[]⟩ : ByteArray), .string (⟨#[]⟩ : ByteArray), .bool false, .string (⟨#[]⟩ : ByteArray), .bool false, .string (⟨#[]⟩ : ByteArray)] 68 ?_; intro Af hg w90 hbox hb; have Ag := xsz hg; have Ai := Ag; have Ab := xlt (g := Ac) hg; have Ad := xgt (g := Ac) hg; have HI330 := Zz.mk ((show IsS68 w w90 Af a1 0 Ah (⟨#[]⟩ : ByteArray) false (⟨#[]⟩ : ByteArray) (⟨#[]⟩ : ByteArray) false (⟨#[]⟩ : ByteArray) false (⟨#[]⟩ : ByteArray) from ⟨hbox, (by rw [hg]; exact (aD xbl) : w.heap.size ≤ Af)⟩)); replace Aa := xbq Ac hb; replace HB := xst hb; clear hb hbox hg) | ((with_reducible refine xgc (f := 39) rfl ?_); refine xca 20 Tryd.func39 (ar (w := _) (hI := am) (hB := aj) (h := A81.out)) ?_; rintro w91 ⟨hi, hb, hk⟩; replace Aa := aW Ac hk Ab; replace HB := Zz.mk (hb); replace HI330 := Zz.mk (hi); (try clear hb)) | ((with_reducible refine xgc (f := 40) rfl ?_); refine xca 27 Tryd.func40 (ao (w := _) (hI := am) (hB := aj) (hG := eH) (h := A83.out)) ?_; rintro w92 ⟨hi, hb, hk⟩; replace Aa := aW Ac hk Ab; replace HB := Zz.mk (hb); replace HI330 := Zz.mk (hi); (try clear hb)) | (go_at_call 41; (with_reducible refine (aI (w := _) (hI := am) (hB := aj) (h := A85.out)).mono ?_); rintro e w93 ⟨rfl, hi, hb, hk⟩; replace Aa := aW Ac hk Ab; replace HB := Zz.mk (hb); replace HI330 := Zz.mk (hi); (try clear hb)) | ((with_reducible refine xgc (f := 42) rfl ?_); refine xca 37 Tryd.func42 (bp (w := _) (hI := am) (hB := aj) (h := A87.out)) ?_; rintro w94 ⟨hi, hb, hk⟩; replace Aa := aW Ac hk Ab; replace HB := Zz.mk (hb); replace HI330 := Zz.mk (hi); (try clear hb); have DI := cA HI330.out.1; have BB := Ab.out; have BC := Ad.out; have DJ := xz8 Aa.out))
 (try simp only [bY])
 refine bodyPost_ret (av rfl _ _ Ac 37 #[.string AL, .bool AM, .string AN, .string AO, .bool AP, .string AQ, .bool AR, .string AS] (0, 0) _ rfl xbk Tryd.underlying37 rfl (by kernel_rfl)) rfl ?_
 exact ⟨xre, aj⟩
 }
 obtain ⟨Ar, As⟩ := xqn c88
 simp only [Option.some.injEq, Prod.mk.injEq] at H
 obtain ⟨rfl, rfl, rfl, rfl, rfl, rfl, rfl, rfl, rfl⟩ := H
 go_enter Tryd.func30, Tryd.ntmps30
 go_wp2_with (first | (refine dH 0 rfl ?_) | (refine wp_goto ?_) | (refine wp_label ?_) | (refine Eq.mpr (bv (l := 0)) ?_) | ((with_reducible refine az (t := 37) (p := 4) rfl ?_); refine xwr 37 4 48 8 Aa Ae ?_; intro wz_ Aa HB) | ((with_reducible refine az (t := 37) (p := 4) rfl ?_); refine xwr 37 4 49 8 Aa Ae ?_; intro wz_ Aa HB) | ((with_reducible refine af (N := 4) rfl ?_); refine xew 4 ?_; intro Ac w98 Aa Ae hb hg; replace HB := xst hb; clear hb hg) | ((with_reducible refine xgc (f := 28) rfl ?_); refine xca 10 Tryd.func28 (ay (w := _) (h := A3.out)) ?_; rintro w' ⟨nd, rfl⟩; (try (rw [aG w98]; generalize hq_ : World.drewN w98 _ = w98; have n0_ := xbr Ac hq_; have n1_ : Zz (Below w.heap.size w w98) := ⟨by rw [← hq_]; exact xbl⟩; clear Aa HB hq_; have Aa := n0_; have HB := n1_; clear n0_ n1_))) | ((with_reducible refine af (N := 12) rfl ?_); refine xev 12 #[.string a1, .int .i64 0, .bool Ah, .string (⟨#[]⟩ : ByteArray), .bool false, .string (⟨#[]⟩ : ByteArray), .string (⟨#[]⟩ : ByteArray), .bool false, .string (⟨#[]⟩ : ByteArray), .bool false, .string (⟨#[]⟩ : ByteArray)] 68 ?_; intro Af hg w99 hbox hb; have Ag := xsz hg; have Ai := Ag; have Ab := xlt (g := Ac) hg; have Ad := xgt (g := Ac) hg; have HI330 := Zz.mk ((show IsS68 w w99 Af a1 0 Ah (⟨#[]⟩ : ByteArray) false (⟨#[]⟩ : ByteArray) (⟨#[]⟩ : ByteArray) false (⟨#[]⟩ : ByteArray) false (⟨#[]⟩ : ByteArray) from ⟨hbox, (by rw [hg]; exact (aD xbl) : w.heap.size ≤ Af)⟩)); replace Aa := xbq Ac hb; replace HB := xst hb; clear hb hbox hg) | ((with_reducible refine xgc (f := 39) rfl ?_); refine xca 20 Tryd.func39 (ar (w := _) (hI := am) (hB := aj) (h := A81.out)) ?_; rintro w100 ⟨hi, hb, hk⟩; replace Aa := aW Ac hk Ab; replace HB := Zz.mk (hb); replace HI330 := Zz.mk (hi); (try clear hb)) | ((with_reducible refine xgc (f := 40) rfl ?_); refine xca 27 Tryd.func40 (ao (w := _) (hI := am) (hB := aj) (hG := eH) (h := A83.out)) ?_; rintro w101 ⟨hi, hb, hk⟩; replace Aa := aW Ac hk Ab; replace HB := Zz.mk (hb); replace HI330 := Zz.mk (hi); (try clear hb)) | (go_at_call 41; (with_reducible refine (aI (w := _) (hI := am) (hB := aj) (h := A85.out)).mono ?_); rintro e w102 ⟨rfl, hi, hb, hk⟩; replace Aa := aW Ac hk Ab; replace HB := Zz.mk (hb); replace HI330 := Zz.mk (hi); (try clear hb)) | ((with_reducible refine xgc (f := 42) rfl ?_); refine xca 37 Tryd.func42 (bp (w := _) (hI := am) (hB := aj) (h := A87.out)) ?_; rintro w103 ⟨hi, hb, hk⟩; replace Aa := aW Ac hk Ab; replace HB := Zz.mk (hb); replace HI330 := Zz.mk (hi); (try clear hb); have BD := cA HI330.out.1; have AT := Ab.out; have AU := Ad.out; have BE := xz8 Aa.out))
 (try simp only [bY])
 refine bodyPost_ret (av rfl _ _ Ac 37 #[.string (⟨#[]⟩ : ByteArray), .bool false, .string (⟨#[]⟩ : ByteArray), .string (⟨#[]⟩ : ByteArray), .bool false, .string (⟨#[]⟩ : ByteArray), .bool false, .string (⟨#[]⟩ : ByteArray)] (0, 0) _ rfl xbk Tryd.underlying37 rfl (by kernel_rfl)) rfl ?_
 exact ⟨xre, aj⟩
 }
 simp only [Option.some.injEq, Prod.mk.injEq] at H
 obtain ⟨rfl, rfl, rfl, rfl, rfl, rfl, rfl, rfl, rfl⟩ := H
 go_enter Tryd.func30, Tryd.ntmps30
 go_wp2_with (first | (refine dH 0 rfl ?_) | (refine wp_goto ?_) | (refine wp_label ?_) | (refine Eq.mpr (bv (l := 0)) ?_) | ((with_reducible refine az (t := 37) (p := 4) rfl ?_); refine xwr 37 4 48 8 Aa Ae ?_; intro wz_ Aa HB) | ((with_reducible refine az (t := 37) (p := 4) rfl ?_); refine xwr 37 4 49 8 Aa Ae ?_; intro wz_ Aa HB) | ((with_reducible refine af (N := 4) rfl ?_); refine xew 4 ?_; intro Ac w107 Aa Ae hb hg; replace HB := xst hb; clear hb hg) | ((with_reducible refine xgc (f := 28) rfl ?_); refine xca 10 Tryd.func28 (ay (w := _) (h := A3.out)) ?_; rintro w' ⟨nd, rfl⟩; (try (rw [aG w107]; generalize hq_ : World.drewN w107 _ = w107; have n0_ := xbr Ac hq_; have n1_ : Zz (Below w.heap.size w w107) := ⟨by rw [← hq_]; exact xbl⟩; clear Aa HB hq_; have Aa := n0_; have HB := n1_; clear n0_ n1_))) | ((with_reducible refine af (N := 12) rfl ?_); refine xev 12 #[.string a1, .int .i64 0, .bool Ah, .string (⟨#[]⟩ : ByteArray), .bool false, .string (⟨#[]⟩ : ByteArray), .string (⟨#[]⟩ : ByteArray), .bool false, .string (⟨#[]⟩ : ByteArray), .bool false, .string (⟨#[]⟩ : ByteArray)] 68 ?_; intro Af hg w108 hbox hb; have Ag := xsz hg; have Ai := Ag; have Ab := xlt (g := Ac) hg; have Ad := xgt (g := Ac) hg; have HI330 := Zz.mk ((show IsS68 w w108 Af a1 0 Ah (⟨#[]⟩ : ByteArray) false (⟨#[]⟩ : ByteArray) (⟨#[]⟩ : ByteArray) false (⟨#[]⟩ : ByteArray) false (⟨#[]⟩ : ByteArray) from ⟨hbox, (by rw [hg]; exact (aD xbl) : w.heap.size ≤ Af)⟩)); replace Aa := xbq Ac hb; replace HB := xst hb; clear hb hbox hg) | ((with_reducible refine xgc (f := 39) rfl ?_); refine xca 20 Tryd.func39 (ar (w := _) (hI := am) (hB := aj) (h := A81.out)) ?_; rintro w109 ⟨hi, hb, hk⟩; replace Aa := aW Ac hk Ab; replace HB := Zz.mk (hb); replace HI330 := Zz.mk (hi); (try clear hb)) | ((with_reducible refine xgc (f := 40) rfl ?_); refine xca 27 Tryd.func40 (ao (w := _) (hI := am) (hB := aj) (hG := eH) (h := A83.out)) ?_; rintro w110 ⟨hi, hb, hk⟩; replace Aa := aW Ac hk Ab; replace HB := Zz.mk (hb); replace HI330 := Zz.mk (hi); (try clear hb)) | (go_at_call 41; (with_reducible refine (aI (w := _) (hI := am) (hB := aj) (h := A85.out)).mono ?_); rintro e w111 ⟨rfl, hi, hb, hk⟩; replace Aa := aW Ac hk Ab; replace HB := Zz.mk (hb); replace HI330 := Zz.mk (hi); (try clear hb); have AV := Ab.out; have AW := Ad.out; have BF := xz8 Aa.out))
 (try simp only [bY])
 refine bodyPost_ret (av rfl _ _ Ac 37 #[.string (⟨#[]⟩ : ByteArray), .bool false, .string (⟨#[]⟩ : ByteArray), .string (⟨#[]⟩ : ByteArray), .bool false, .string (⟨#[]⟩ : ByteArray), .bool false, .string (⟨#[]⟩ : ByteArray)] (0, 0) _ rfl xbk Tryd.underlying37 rfl (by kernel_rfl)) rfl ?_
 exact ⟨xre, aj⟩
 }
 simp only [Option.some.injEq, Prod.mk.injEq] at H
 obtain ⟨rfl, rfl, rfl, rfl, rfl, rfl, rfl, rfl, rfl⟩ := H
 go_enter Tryd.func30, Tryd.ntmps30
 go_wp2_with (first | (refine dH 0 rfl ?_) | (refine wp_goto ?_) | (refine wp_label ?_) | (refine Eq.mpr (bv (l := 0)) ?_) | ((with_reducible refine az (t := 37) (p := 4) rfl ?_); refine xwr 37 4 48 8 Aa Ae ?_; intro wz_ Aa HB) | ((with_reducible refine az (t := 37) (p := 4) rfl ?_); refine xwr 37 4 49 8 Aa Ae ?_; intro wz_ Aa HB) | ((with_reducible refine af (N := 4) rfl ?_); refine xew 4 ?_; intro Ac w114 Aa Ae hb hg; replace HB := xst hb; clear hb hg) | ((with_reducible refine xgc (f := 28) rfl ?_); refine xca 10 Tryd.func28 (ay (w := _) (h := A3.out)) ?_; rintro w' ⟨nd, rfl⟩; (try (rw [aG w114]; generalize hq_ : World.drewN w114 _ = w114; have n0_ := xbr Ac hq_; have n1_ : Zz (Below w.heap.size w w114) := ⟨by rw [← hq_]; exact xbl⟩; clear Aa HB hq_; have Aa := n0_; have HB := n1_; clear n0_ n1_))) | ((with_reducible refine af (N := 12) rfl ?_); refine xev 12 #[.string a1, .int .i64 0, .bool Ah, .string (⟨#[]⟩ : ByteArray), .bool false, .string (⟨#[]⟩ : ByteArray), .string (⟨#[]⟩ : ByteArray), .bool false, .string (⟨#[]⟩ : ByteArray), .bool false, .string (⟨#[]⟩ : ByteArray)] 68 ?_; intro Af hg w115 hbox hb; have Ag := xsz hg; have Ai := Ag; have Ab := xlt (g := Ac) hg; have Ad := xgt (g := Ac) hg; have HI330 := Zz.mk ((show IsS68 w w115 Af a1 0 Ah (⟨#[]⟩ : ByteArray) false (⟨#[]⟩ : ByteArray) (⟨#[]⟩ : ByteArray) false (⟨#[]⟩ : ByteArray) false (⟨#[]⟩ : ByteArray) from ⟨hbox, (by rw [hg]; exact (aD xbl) : w.heap.size ≤ Af)⟩)); replace Aa := xbq Ac hb; replace HB := xst hb; clear hb hbox hg) | ((with_reducible refine xgc (f := 39) rfl ?_); refine xca 20 Tryd.func39 (ar (w := _) (hI := am) (hB := aj) (h := A81.out)) ?_; rintro w116 ⟨hi, hb, hk⟩; replace Aa := aW Ac hk Ab; replace HB := Zz.mk (hb); replace HI330 := Zz.mk (hi); (try clear hb)) | ((with_reducible refine xgc (f := 40) rfl ?_); refine xca 27 Tryd.func40 (ao (w := _) (hI := am) (hB := aj) (hG := eH) (h := A83.out)) ?_; rintro w117 ⟨hi, hb, hk⟩; replace Aa := aW Ac hk Ab; replace HB := Zz.mk (hb); replace HI330 := Zz.mk (hi); (try clear hb); have AX := Ab.out; have AY := Ad.out; have BG := xz8 Aa.out))
 (try simp only [bY])
 refine bodyPost_ret (av rfl _ _ Ac 37 #[.string (⟨#[]⟩ : ByteArray), .bool false, .string (⟨#[]⟩ : ByteArray), .string (⟨#[]⟩ : ByteArray), .bool false, .string (⟨#[]⟩ : ByteArray), .bool false, .string (⟨#[]⟩ : ByteArray)] (0, 0) _ rfl xbk Tryd.underlying37 rfl (by kernel_rfl)) rfl ?_
 exact ⟨xre, aj⟩
 }
 refine xid H ?_ ?_ <;> clear H <;> intro c120 H
 {
 obtain ⟨Aj, Ak⟩ := xqe c120
 clear c120
 replace H := xbd H
 obtain ⟨⟨DK, DL, DM, DN, DO, DP, DQ, DR, DS, DT, DU, DV⟩, A121, H⟩ := H
 try dsimp only at H
 refine xib H ?_ ?_ <;> clear H <;> rintro rfl H
 {
 replace H := xbd H
 obtain ⟨⟨DW, DX, DY, DZ, D0, D1, D2, D3, D4, D5, D6, D7⟩, A123, H⟩ := H
 try dsimp only at H
 refine xib H ?_ ?_ <;> clear H <;> rintro rfl H
 {
 replace H := xbd H
 obtain ⟨⟨D8, D9, Ea, AZ, A0, A1, A2, A4, A6, A8, Ba⟩, A125, H⟩ := H
 try dsimp only at H
 refine xid H ?_ ?_ <;> clear H <;> intro c126 H
 {
 obtain ⟨Al, Am⟩ := xqe c126
 clear c126
 simp only [Option.some.injEq, Prod.mk.injEq] at H
 obtain ⟨rfl, rfl, rfl, rfl, rfl, rfl, rfl, rfl, rfl⟩ := H
 go_enter Tryd.func30, Tryd.ntmps30
 go_wp2_with (first | (refine dH 0 rfl ?_) | (refine wp_goto ?_) | (refine wp_label ?_) | (refine Eq.mpr (bv (l := 0)) ?_) | ((with_reducible refine az (t := 37) (p := 4) rfl ?_); refine xwr 37 4 48 8 Aa Ae ?_; intro wz_ Aa HB) | ((with_reducible refine az (t := 37) (p := 4) rfl ?_); refine xwr 37 4 49 8 Aa Ae ?_; intro wz_ Aa HB) | ((with_reducible refine af (N := 4) rfl ?_); refine xew 4 ?_; intro Ac w127 Aa Ae hb hg; replace HB := xst hb; clear hb hg) | ((with_reducible refine xgc (f := 28) rfl ?_); refine xca 10 Tryd.func28 (ay (w := _) (h := A3.out)) ?_; rintro w' ⟨nd, rfl⟩; (try (rw [aG w127]; generalize hq_ : World.drewN w127 _ = w127; have n0_ := xbr Ac hq_; have n1_ : Zz (Below w.heap.size w w127) := ⟨by rw [← hq_]; exact xbl⟩; clear Aa HB hq_; have Aa := n0_; have HB := n1_; clear n0_ n1_))) | ((with_reducible refine af (N := 12) rfl ?_); refine xev 12 #[.string a1, .int .i64 0, .bool Ah, .string (⟨#[]⟩ : ByteArray), .bool false, .string (⟨#[]⟩ : ByteArray), .string (⟨#[]⟩ : ByteArray), .bool false, .string (⟨#[]⟩ : ByteArray), .bool false, .string (⟨#[]⟩ : ByteArray)] 68 ?_; intro Af hg w128 hbox hb; have Ag := xsz hg; have Ai := Ag; have Ab := xlt (g := Ac) hg; have Ad := xgt (g := Ac) hg; have HI330 := Zz.mk ((show IsS68 w w128 Af a1 0 Ah (⟨#[]⟩ : ByteArray) false (⟨#[]⟩ : ByteArray) (⟨#[]⟩ : ByteArray) false (⟨#[]⟩ : ByteArray) false (⟨#[]⟩ : ByteArray) from ⟨hbox, (by rw [hg]; exact (aD xbl) : w.heap.size ≤ Af)⟩)); replace Aa := xbq Ac hb; replace HB := xst hb; clear hb hbox hg) | ((with_reducible refine xgc (f := 39) rfl ?_); refine xca 20 Tryd.func39 (ar (w := _) (hI := am) (hB := aj) (h := A81.out)) ?_; rintro w129 ⟨hi, hb, hk⟩; replace Aa := aW Ac hk Ab; replace HB := Zz.mk (hb); replace HI330 := Zz.mk (hi); (try clear hb)) | ((with_reducible refine xgc (f := 40) rfl ?_); refine xca 27 Tryd.func40 (ao (w := _) (hI := am) (hB := aj) (hG := eH) (h := A121.out)) ?_; rintro w130 ⟨hi, hb, hk⟩; replace Aa := aW Ac hk Ab; replace HB := Zz.mk (hb); replace HI330 := Zz.mk (hi); (try clear hb)) | (go_at_call 41; (with_reducible refine (aI (w := _) (hI := am) (hB := aj) (h := A123.out)).mono ?_); rintro e w131 ⟨rfl, hi, hb, hk⟩; replace Aa := aW Ac hk Ab; replace HB := Zz.mk (hb); replace HI330 := Zz.mk (hi); (try clear hb)) | ((with_reducible refine xgc (f := 42) rfl ?_); refine xca 37 Tryd.func42 (bp (w := _) (hI := am) (hB := aj) (h := A125.out)) ?_; rintro w132 ⟨hi, hb, hk⟩; replace Aa := aW Ac hk Ab; replace HB := Zz.mk (hb); replace HI330 := Zz.mk (hi); (try clear hb); have BH := cA HI330.out.1; have Bb := Ab.out; have Bc := Ad.out; have BI := xz8 Aa.out))
 (try simp only [bY])
 refine bodyPost_ret (av rfl _ _ Ac 37 #[.string AZ, .bool A0, .string A1, .string A2, .bool A4, .string A6, .bool A8, .string Ba] (0, 0) _ rfl xbk Tryd.underlying37 rfl (by kernel_rfl)) rfl ?_
 exact ⟨xre, aj⟩
 }
 obtain ⟨Al, Am⟩ := xqn c126
 simp only [Option.some.injEq, Prod.mk.injEq] at H
 obtain ⟨rfl, rfl, rfl, rfl, rfl, rfl, rfl, rfl, rfl⟩ := H
 go_enter Tryd.func30, Tryd.ntmps30
 go_wp2_with (first | (refine dH 0 rfl ?_) | (refine wp_goto ?_) | (refine wp_label ?_) | (refine Eq.mpr (bv (l := 0)) ?_) | ((with_reducible refine az (t := 37) (p := 4) rfl ?_); refine xwr 37 4 48 8 Aa Ae ?_; intro wz_ Aa HB) | ((with_reducible refine az (t := 37) (p := 4) rfl ?_); refine xwr 37 4 49 8 Aa Ae ?_; intro wz_ Aa HB) | ((with_reducible refine af (N := 4) rfl ?_); refine xew 4 ?_; intro Ac w136 Aa Ae hb hg; replace HB := xst hb; clear hb hg) | ((with_reducible refine xgc (f := 28) rfl ?_); refine xca 10 Tryd.func28 (ay (w := _) (h := A3.out)) ?_; rintro w' ⟨nd, rfl⟩; (try (rw [aG w136]; generalize hq_ : World.drewN w136 _ = w136; have n0_ := xbr Ac hq_; have n1_ : Zz (Below w.heap.size w w136) := ⟨by rw [← hq_]; exact xbl⟩; clear Aa HB hq_; have Aa := n0_; have HB := n1_; clear n0_ n1_))) | ((with_reducible refine af (N := 12) rfl ?_); refine xev 12 #[.string a1, .int .i64 0, .bool Ah, .string (⟨#[]⟩ : ByteArray), .bool false, .string (⟨#[]⟩ : ByteArray), .string (⟨#[]⟩ : ByteArray), .bool false, .string (⟨#[]⟩ : ByteArray), .bool false, .string (⟨#[]⟩ : ByteArray)] 68 ?_; intro Af hg w137 hbox hb; have Ag := xsz hg; have Ai := Ag; have Ab := xlt (g := Ac) hg; have Ad := xgt (g := Ac) hg; have HI330 := Zz.mk ((show IsS68 w w137 Af a1 0 Ah (⟨#[]⟩ : ByteArray) false (⟨#[]⟩ : ByteArray) (⟨#[]⟩ : ByteArray) false (⟨#[]⟩ : ByteArray) false (⟨#[]⟩ : ByteArray) from ⟨hbox, (by rw [hg]; exact (aD xbl) : w.heap.size ≤ Af)⟩)); replace Aa := xbq Ac hb; replace HB := xst hb; clear hb hbox hg) | ((with_reducible refine xgc (f := 39) rfl ?_); refine xca 20 Tryd.func39 (ar (w := _) (hI := am) (hB := aj) (h := A81.out)) ?_; rintro w138 ⟨hi, hb, hk⟩; replace Aa := aW Ac hk Ab; replace HB := Zz.mk (hb); replace HI330 := Zz.mk (hi); (try clear hb)) | ((with_reducible refine xgc (f := 40) rfl ?_); refine xca 27 Tryd.func40 (ao (w := _) (hI := am) (hB := aj) (hG := eH) (h := A121.out)) ?_; rintro w139 ⟨hi, hb, hk⟩; replace Aa := aW Ac hk Ab; replace HB := Zz.mk (hb); replace HI330 := Zz.mk (hi); (try clear hb)) | (go_at_call 41; (with_reducible refine (aI (w := _) (hI := am) (hB := aj) (h := A123.out)).mono ?_); rintro e w140 ⟨rfl, hi, hb, hk⟩; replace Aa := aW Ac hk Ab; replace HB := Zz.mk (hb); replace HI330 := Zz.mk (hi); (try clear hb)) | ((with_reducible refine xgc (f := 42) rfl ?_); refine xca 37 Tryd.func42 (bp (w := _) (hI := am) (hB := aj) (h := A125.out)) ?_; rintro w141 ⟨hi, hb, hk⟩; replace Aa := aW Ac hk Ab; replace HB := Zz.mk (hb); replace HI330 := Zz.mk (hi); (try clear hb); have BJ := cA HI330.out.1; have Bd := Ab.out; have Be := Ad.out; have BL := xz8 Aa.out))
 (try simp only [bY])
 refine bodyPost_ret (av rfl _ _ Ac 37 #[.string (⟨#[]⟩ : ByteArray), .bool false, .string (⟨#[]⟩ : ByteArray), .string (⟨#[]⟩ : ByteArray), .bool false, .string (⟨#[]⟩ : ByteArray), .bool false, .string (⟨#[]⟩ : ByteArray)] (0, 0) _ rfl xbk Tryd.underlying37 rfl (by kernel_rfl)) rfl ?_
 exact ⟨xre, aj⟩
 }
 simp only [Option.some.injEq, Prod.mk.injEq] at H
 obtain ⟨rfl, rfl, rfl, rfl, rfl, rfl, rfl, rfl, rfl⟩ := H
 go_enter Tryd.func30, Tryd.ntmps30
 go_wp2_with (first | (refine dH 0 rfl ?_) | (refine wp_goto ?_) | (refine wp_label ?_) | (refine Eq.mpr (bv (l := 0)) ?_) | ((with_reducible refine az (t := 37) (p := 4) rfl ?_); refine xwr 37 4 48 8 Aa Ae ?_; intro wz_ Aa HB) | ((with_reducible refine az (t := 37) (p := 4) rfl ?_); refine xwr 37 4 49 8 Aa Ae ?_; intro wz_ Aa HB) | ((with_reducible refine af (N := 4) rfl ?_); refine xew 4 ?_; intro Ac w145 Aa Ae hb hg; replace HB := xst hb; clear hb hg) | ((with_reducible refine xgc (f := 28) rfl ?_); refine xca 10 Tryd.func28 (ay (w := _) (h := A3.out)) ?_; rintro w' ⟨nd, rfl⟩; (try (rw [aG w145]; generalize hq_ : World.drewN w145 _ = w145; have n0_ := xbr Ac hq_; have n1_ : Zz (Below w.heap.size w w145) := ⟨by rw [← hq_]; exact xbl⟩; clear Aa HB hq_; have Aa := n0_; have HB := n1_; clear n0_ n1_))) | ((with_reducible refine af (N := 12) rfl ?_); refine xev 12 #[.string a1, .int .i64 0, .bool Ah, .string (⟨#[]⟩ : ByteArray), .bool false, .string (⟨#[]⟩ : ByteArray), .string (⟨#[]⟩ : ByteArray), .bool false, .string (⟨#[]⟩ : ByteArray), .bool false, .string (⟨#[]⟩ : ByteArray)] 68 ?_; intro Af hg w146 hbox hb; have Ag := xsz hg; have Ai := Ag; have Ab := xlt (g := Ac) hg; have Ad := xgt (g := Ac) hg; have HI330 := Zz.mk ((show IsS68 w w146 Af a1 0 Ah (⟨#[]⟩ : ByteArray) false (⟨#[]⟩ : ByteArray) (⟨#[]⟩ : ByteArray) false (⟨#[]⟩ : ByteArray) false (⟨#[]⟩ : ByteArray) from ⟨hbox, (by rw [hg]; exact (aD xbl) : w.heap.size ≤ Af)⟩)); replace Aa := xbq Ac hb; replace HB := xst hb; clear hb hbox hg) | ((with_reducible refine xgc (f := 39) rfl ?_); refine xca 20 Tryd.func39 (ar (w := _) (hI := am) (hB := aj) (h := A81.out)) ?_; rintro w147 ⟨hi, hb, hk⟩; replace Aa := aW Ac hk Ab; replace HB := Zz.mk (hb); replace HI330 := Zz.mk (hi); (try clear hb)) | ((with_reducible refine xgc (f := 40) rfl ?_); refine xca 27 Tryd.func40 (ao (w := _) (hI := am) (hB := aj) (hG := eH) (h := A121.out)) ?_; rintro w148 ⟨hi, hb, hk⟩; replace Aa := aW Ac hk Ab; replace HB := Zz.mk (hb); replace HI330 := Zz.mk (hi); (try clear hb)) | (go_at_call 41; (with_reducible refine (aI (w := _) (hI := am) (hB := aj) (h := A123.out)).mono ?_); rintro e w149 ⟨rfl, hi, hb, hk⟩; replace Aa := aW Ac hk Ab; replace HB := Zz.mk (hb); replace HI330 := Zz.mk (hi); (try clear hb); have Bf := Ab.out; have Bg := Ad.out; have BM := xz8 Aa.out))
 (try simp only [bY])
 refine bodyPost_ret (av rfl _ _ Ac 37 #[.string (⟨#[]⟩ : ByteArray), .bool false, .string (⟨#[]⟩ : ByteArray), .string (⟨#[]⟩ : ByteArray), .bool false, .string (⟨#[]⟩ : ByteArray), .bool false, .string (⟨#[]⟩ : ByteArray)] (0, 0) _ rfl xbk Tryd.underlying37 rfl (by kernel_rfl)) rfl ?_
 exact ⟨xre, aj⟩
 }
 simp only [Option.some.injEq, Prod.mk.injEq] at H
 obtain ⟨rfl, rfl, rfl, rfl, rfl, rfl, rfl, rfl, rfl⟩ := H
 go_enter Tryd.func30, Tryd.ntmps30
 go_wp2_with (first | (refine dH 0 rfl ?_) | (refine wp_goto ?_) | (refine wp_label ?_) | (refine Eq.mpr (bv (l := 0)) ?_) | ((with_reducible refine az (t := 37) (p := 4) rfl ?_); refine xwr 37 4 48 8 Aa Ae ?_; intro wz_ Aa HB) | ((with_reducible refine az (t := 37) (p := 4) rfl ?_); refine xwr 37 4 49 8 Aa Ae ?_; intro wz_ Aa HB) | ((with_reducible refine af (N := 4) rfl ?_); refine xew 4 ?_; intro Ac w152 Aa Ae hb hg; replace HB := xst hb; clear hb hg) | ((with_reducible refine xgc (f := 28) rfl ?_); refine xca 10 Tryd.func28 (ay (w := _) (h := A3.out)) ?_; rintro w' ⟨nd, rfl⟩; (try (rw [aG w152]; generalize hq_ : World.drewN w152 _ = w152; have n0_ := xbr Ac hq_; have n1_ : Zz (Below w.heap.size w w152) := ⟨by rw [← hq_]; exact xbl⟩; clear Aa HB hq_; have Aa := n0_; have HB := n1_; clear n0_ n1_))) | ((with_reducible refine af (N := 12) rfl ?_); refine xev 12 #[.string a1, .int .i64 0, .bool Ah, .string (⟨#[]⟩ : ByteArray), .bool false, .string (⟨#[]⟩ : ByteArray), .string (⟨#[]⟩ : ByteArray), .bool false, .string (⟨#[]⟩ : ByteArray), .bool false, .string (⟨#[]⟩ : ByteArray)] 68 ?_; intro Af hg w153 hbox hb; have Ag := xsz hg; have Ai := Ag; have Ab := xlt (g := Ac) hg; have Ad := xgt (g := Ac) hg; have HI330 := Zz.mk ((show IsS68 w w153 Af a1 0 Ah (⟨#[]⟩ : ByteArray) false (⟨#[]⟩ : ByteArray) (⟨#[]⟩ : ByteArray) false (⟨#[]⟩ : ByteArray) false (⟨#[]⟩ : ByteArray) from ⟨hbox, (by rw [hg]; exact (aD xbl) : w.heap.size ≤ Af)⟩)); replace Aa := xbq Ac hb; replace HB := xst hb; clear hb hbox hg) | ((with_reducible refine xgc (f := 39) rfl ?_); refine xca 20 Tryd.func39 (ar (w := _) (hI := am) (hB := aj) (h := A81.out)) ?_; rintro w154 ⟨hi, hb, hk⟩; replace Aa := aW Ac hk Ab; replace HB := Zz.mk (hb); replace HI330 := Zz.mk (hi); (try clear hb)) | ((with_reducible refine xgc (f := 40) rfl ?_); refine xca 27 Tryd.func40 (ao (w := _) (hI := am) (hB := aj) (hG := eH) (h := A121.out)) ?_; rintro w155 ⟨hi, hb, hk⟩; replace Aa := aW Ac hk Ab; replace HB := Zz.mk (hb); replace HI330 := Zz.mk (hi); (try clear hb); have Bh := Ab.out; have Bi := Ad.out; have BN := xz8 Aa.out))
 (try simp only [bY])
 refine bodyPost_ret (av rfl _ _ Ac 37 #[.string (⟨#[]⟩ : ByteArray), .bool false, .string (⟨#[]⟩ : ByteArray), .string (⟨#[]⟩ : ByteArray), .bool false, .string (⟨#[]⟩ : ByteArray), .bool false, .string (⟨#[]⟩ : ByteArray)] (0, 0) _ rfl xbk Tryd.underlying37 rfl (by kernel_rfl)) rfl ?_
 exact ⟨xre, aj⟩
 }
 obtain ⟨Aj, Ak⟩ := xqn c120
 simp only [Option.some.injEq, Prod.mk.injEq] at H
 obtain ⟨rfl, rfl, rfl, rfl, rfl, rfl, rfl, rfl, rfl⟩ := H
 go_enter Tryd.func30, Tryd.ntmps30
 go_wp2_with (first | (refine dH 0 rfl ?_) | (refine wp_goto ?_) | (refine wp_label ?_) | (refine Eq.mpr (bv (l := 0)) ?_) | ((with_reducible refine az (t := 37) (p := 4) rfl ?_); refine xwr 37 4 48 8 Aa Ae ?_; intro wz_ Aa HB) | ((with_reducible refine az (t := 37) (p := 4) rfl ?_); refine xwr 37 4 49 8 Aa Ae ?_; intro wz_ Aa HB) | ((with_reducible refine af (N := 4) rfl ?_); refine xew 4 ?_; intro Ac w158 Aa Ae hb hg; replace HB := xst hb; clear hb hg) | ((with_reducible refine xgc (f := 28) rfl ?_); refine xca 10 Tryd.func28 (ay (w := _) (h := A3.out)) ?_; rintro w' ⟨nd, rfl⟩; (try (rw [aG w158]; generalize hq_ : World.drewN w158 _ = w158; have n0_ := xbr Ac hq_; have n1_ : Zz (Below w.heap.size w w158) := ⟨by rw [← hq_]; exact xbl⟩; clear Aa HB hq_; have Aa := n0_; have HB := n1_; clear n0_ n1_))) | ((with_reducible refine af (N := 12) rfl ?_); refine xev 12 #[.string a1, .int .i64 0, .bool Ah, .string (⟨#[]⟩ : ByteArray), .bool false, .string (⟨#[]⟩ : ByteArray), .string (⟨#[]⟩ : ByteArray), .bool false, .string (⟨#[]⟩ : ByteArray), .bool false, .string (⟨#[]⟩ : ByteArray)] 68 ?_; intro Af hg w159 hbox hb; have Ag := xsz hg; have Ai := Ag; have Ab := xlt (g := Ac) hg; have Ad := xgt (g := Ac) hg; have HI330 := Zz.mk ((show IsS68 w w159 Af a1 0 Ah (⟨#[]⟩ : ByteArray) false (⟨#[]⟩ : ByteArray) (⟨#[]⟩ : ByteArray) false (⟨#[]⟩ : ByteArray) false (⟨#[]⟩ : ByteArray) from ⟨hbox, (by rw [hg]; exact (aD xbl) : w.heap.size ≤ Af)⟩)); replace Aa := xbq Ac hb; replace HB := xst hb; clear hb hbox hg) | ((with_reducible refine xgc (f := 39) rfl ?_); refine xca 20 Tryd.func39 (ar (w := _) (hI := am) (hB := aj) (h := A81.out)) ?_; rintro w160 ⟨hi, hb, hk⟩; replace Aa := aW Ac hk Ab; replace HB := Zz.mk (hb); replace HI330 := Zz.mk (hi); (try clear hb); have Bj := Ab.out; have Bk := Ad.out; have BO := xz8 Aa.out))
 (try simp only [bY])
 refine bodyPost_ret (av rfl _ _ Ac 37 #[.string (⟨#[]⟩ : ByteArray), .bool false, .string (⟨#[]⟩ : ByteArray), .string (⟨#[]⟩ : ByteArray), .bool false, .string (⟨#[]⟩ : ByteArray), .bool false, .string (⟨#[]⟩ : ByteArray)] (0, 0) _ rfl xbk Tryd.underlying37 rfl (by kernel_rfl)) rfl ?_
 exact ⟨xre, aj⟩
mutual
def cm : Nat → Int → ByteArray → Bool → Option (ByteArray × Bool × ByteArray × ByteArray × Bool × ByteArray × Bool × ByteArray × Int)
  | 0, _, _, _ => none
  | k + 1, x0, x1, x8 => if x8 = true then (some ((⟨#[]⟩ : ByteArray), false, (⟨#[]⟩ : ByteArray), (⟨#[]⟩ : ByteArray), false, (⟨#[]⟩ : ByteArray), false, (⟨#[]⟩ : ByteArray), 1)) else (if (x1.size : Int) > 65535 then (some ((⟨#[]⟩ : ByteArray), false, (⟨#[]⟩ : ByteArray), (⟨#[]⟩ : ByteArray), false, (⟨#[]⟩ : ByteArray), false, (⟨#[]⟩ : ByteArray), 2)) else ((fE x0).bind fun t496 => (if t496 = true then ((fa k x1).bind fun t497 => (cn k x0 x1 (!t497))) else (cn k x0 x1 false))))
def cn : Nat → Int → ByteArray → Bool → Option (ByteArray × Bool × ByteArray × ByteArray × Bool × ByteArray × Bool × ByteArray × Int)
  | 0, _, _, _ => none
  | k + 1, x0, x1, Ab => if Ab = true then (some ((⟨#[]⟩ : ByteArray), false, (⟨#[]⟩ : ByteArray), (⟨#[]⟩ : ByteArray), false, (⟨#[]⟩ : ByteArray), false, (⟨#[]⟩ : ByteArray), 3)) else ((ei k x0 x1).bind fun Aa => (if Aa.2.2.2.2.2.2.2.2 = true then (some (Aa.1, Aa.2.1, Aa.2.2.1, Aa.2.2.2.1, Aa.2.2.2.2.1, Aa.2.2.2.2.2.1, Aa.2.2.2.2.2.2.1, Aa.2.2.2.2.2.2.2.1, 0)) else (some ((⟨#[]⟩ : ByteArray), false, (⟨#[]⟩ : ByteArray), (⟨#[]⟩ : ByteArray), false, (⟨#[]⟩ : ByteArray), false, (⟨#[]⟩ : ByteArray), 4))))
end
def dX (k : Nat) (a0 : Int) (a1 : ByteArray) : Option (ByteArray × Bool × ByteArray × ByteArray × Bool × ByteArray × Bool × ByteArray × Int) := if a0 < 1 then (cm k a0 a1 true) else (cm k a0 a1 (decide (a0 > 5)))
theorem gz : ∀ k, (∀ y0 y1 y2, LeO (cm k y0 y1 y2) (cm (k + 1) y0 y1 y2)) ∧ (∀ y0 y1 y2, LeO (cn k y0 y1 y2) (cn (k + 1) y0 y1 y2))
  | 0 => ⟨fun _ _ _ r h => by simp [cm] at h, fun _ _ _ r h => by simp [cn] at h⟩
  | k + 1 => by
    obtain ⟨ih0, ih1⟩ := gz k
    have m0 := @il; have m1 := @i6
    refine ⟨?_, ?_⟩
    · intro y0 y1 y2
      unfold cm
      exact xmo
    · intro y0 y1 y2
      unfold cn
      exact xmo
theorem g7 : ∀ a0 a1 k, LeO (dX k a0 a1) (dX (k + 1) a0 a1) := by
  intro a0 a1 k
  obtain ⟨ih0, ih1⟩ := gz k
  have m0 := @il; have m1 := @i6
  unfold dX
  exact xmo
theorem gR (k : Nat) (a0 : Int) (a1 : ByteArray) (r1 : ByteArray) (r2 : Bool) (r3 : ByteArray) (r4 : ByteArray) (r5 : Bool) (r6 : ByteArray) (r7 : Bool) (r8 : ByteArray) (r9 : Int) (w : World) (hG : GW w) (h : dX k a0 a1 = some (r1, r2, r3, r4, r5, r6, r7, r8, r9)) :
    Calls Tryd.prog 15 #[.int .i64 a0, .string a1] w fun e w' => e = .returned (.tuple #[.agg #[.string r1, .bool r2, .string r3, .string r4, .bool r5, .string r6, .bool r7, .string r8], .int .i64 r9]) ∧ Below w.heap.size w w' := by
 have hu37 := Tryd.underlying37
 have HB := Zz.mk (Below.refl w.heap.size w)
 have H := h
 clear h
 unfold dX at H
 have An := Zz.mk H
 clear H
 go_enter Tryd.func15, Tryd.ntmps15
 go_upto_region 1 with (first | ((with_reducible refine af (N := 4) rfl ?_); refine xew 4 ?_; intro Aa w4 Ab AA hb hg; replace HB := xst hb; clear hb hg))
 (try simp only [Act.put, xl1, xl2, xl3])
 go_cut [8] (fun v8 wc => ∃ kq Ah, v8 = .bool Ah ∧ Zz (cm kq a0 a1 Ah = some (r1, r2, r3, r4, r5, r6, r7, r8, r9)) ∧ Zz (kq ≤ k) ∧ Zz (wc.heap[Aa]? = some (.cells #[.string (⟨#[]⟩ : ByteArray), .bool false, .string (⟨#[]⟩ : ByteArray), .string (⟨#[]⟩ : ByteArray), .bool false, .string (⟨#[]⟩ : ByteArray), .bool false, .string (⟨#[]⟩ : ByteArray)] 37 (0, 0))) ∧ Zz (Below w.heap.size w wc))
 case first => (
 have H := An.out
 clear An
 refine xid H ?_ ?_ <;> clear H <;> intro c5 H
 {
 have Ae := xdt c5
 clear c5
 (first | rw [Ae] | (simp only [an, au]; rw [Ae]) | (rw [Ao]; (try simp only [Bool.not_false, Bool.not_true])) | (rw [Ap]; (try simp only [Bool.not_false, Bool.not_true])) | rw [Aq] | skip)
 replace H := xa H
 go_wp2
 go_meet
 case rel => exact ⟨_, (true), xrr, H, ⟨xom⟩, ⟨xbk⟩, ⟨xbl⟩⟩
 }
 have Ae := xdf c5
 clear c5
 (first | rw [Ae] | (simp only [an, au]; rw [Ae]) | (rw [Ao]; (try simp only [Bool.not_false, Bool.not_true])) | (rw [Ap]; (try simp only [Bool.not_false, Bool.not_true])) | rw [Aq] | skip)
 replace H := xa H
 go_wp2
 go_meet
 case rel => exact ⟨_, (decide (a0 > 5)), xrr, H, ⟨xom⟩, ⟨xbk⟩, ⟨xbl⟩⟩
 )
 case rest => (
 clear An
 obtain ⟨kq, Ah, rfl, HA, HJ2, Ab, HB⟩ := hcut
 cases kq with
 | zero => exact absurd HA.out (by simp [cm])
 | succ kj2 => (
 have H := HA.out
 clear HA
 simp only [cm] at H
 refine xib H ?_ ?_ <;> clear H <;> rintro rfl H
 {
 simp only [Option.some.injEq, Prod.mk.injEq] at H
 obtain ⟨rfl, rfl, rfl, rfl, rfl, rfl, rfl, rfl, rfl⟩ := H
 have AM := xz8 Ab.out
 go_wp2
 refine bodyPost_ret (av rfl _ _ Aa 37 #[.string (⟨#[]⟩ : ByteArray), .bool false, .string (⟨#[]⟩ : ByteArray), .string (⟨#[]⟩ : ByteArray), .bool false, .string (⟨#[]⟩ : ByteArray), .bool false, .string (⟨#[]⟩ : ByteArray)] (0, 0) _ rfl xbk Tryd.underlying37 rfl (by kernel_rfl)) rfl ?_
 exact ⟨xre, xbl⟩
 }
 refine xid H ?_ ?_ <;> clear H <;> intro c8 H
 {
 have Aj := xdt c8
 have Ak : decide (65535 < a1.size) = true := decide_eq_true (by omega)
 clear c8
 simp only [Option.some.injEq, Prod.mk.injEq] at H
 obtain ⟨rfl, rfl, rfl, rfl, rfl, rfl, rfl, rfl, rfl⟩ := H
 have AN := xz8 Ab.out
 go_wp2
 refine bodyPost_ret (av rfl _ _ Aa 37 #[.string (⟨#[]⟩ : ByteArray), .bool false, .string (⟨#[]⟩ : ByteArray), .string (⟨#[]⟩ : ByteArray), .bool false, .string (⟨#[]⟩ : ByteArray), .bool false, .string (⟨#[]⟩ : ByteArray)] (0, 0) _ rfl xbk Tryd.underlying37 rfl (by kernel_rfl)) rfl ?_
 exact ⟨xre, xbl⟩
 }
 have Aj := xdf c8
 have Ak : decide (65535 < a1.size) = false := decide_eq_false (by omega)
 clear c8
 have Ai := Zz.mk H
 clear H
 go_upto_region 5 with (fail)
 go_cut [21] (fun v21 wc => ∃ kq Af, v21 = .bool Af ∧ Zz (cn kq a0 a1 Af = some (r1, r2, r3, r4, r5, r6, r7, r8, r9)) ∧ Zz (kq ≤ kj2) ∧ Zz (wc.heap[Aa]? = some (.cells #[.string (⟨#[]⟩ : ByteArray), .bool false, .string (⟨#[]⟩ : ByteArray), .string (⟨#[]⟩ : ByteArray), .bool false, .string (⟨#[]⟩ : ByteArray), .bool false, .string (⟨#[]⟩ : ByteArray)] 37 (0, 0))) ∧ Zz (Below w.heap.size w wc))
 case first => (
 have H := Ai.out
 clear Ai
 replace H := xbd H
 obtain ⟨AF, A11, H⟩ := H
 try dsimp only at H
 refine xib H ?_ ?_ <;> clear H <;> rintro rfl H
 {
 replace H := xbd H
 obtain ⟨Ar, A13, H⟩ := H
 try dsimp only at H
 replace H := xa H
 go_wp2_with (first | ((with_reducible refine xgc (f := 28) rfl ?_); refine xca 23 Tryd.func28 (ay (w := _) (h := A11.out)) ?_; rintro w' ⟨nd, rfl⟩) | (go_at_call 29; (with_reducible refine (kh (w := _) (h := A13.out)).mono ?_); rintro e w14 ⟨rfl, hb⟩; replace Ab := xbq Aa hb; replace HB := xst hb; (try clear hb)))
 go_meet
 case rel => exact ⟨_, (!Ar), xrr, H, ⟨xoj HJ2⟩, ⟨xbk⟩, ⟨xbl⟩⟩
 }
 replace H := xa H
 go_wp2_with (first | ((with_reducible refine xgc (f := 28) rfl ?_); refine xca 23 Tryd.func28 (ay (w := _) (h := A11.out)) ?_; rintro w' ⟨nd, rfl⟩))
 go_meet
 case rel => exact ⟨_, (false), xrr, H, ⟨xoj HJ2⟩, ⟨xbk⟩, ⟨xbl⟩⟩
 )
 case rest => (
 clear Ai
 clear Aj Ak
 obtain ⟨kq, Af, rfl, HA, HJ9, Ab, HB⟩ := hcut
 cases kq with
 | zero => exact absurd HA.out (by simp [cn])
 | succ kj9 => (
 have H := HA.out
 clear HA
 simp only [cn] at H
 refine xib H ?_ ?_ <;> clear H <;> rintro rfl H
 {
 simp only [Option.some.injEq, Prod.mk.injEq] at H
 obtain ⟨rfl, rfl, rfl, rfl, rfl, rfl, rfl, rfl, rfl⟩ := H
 have AG := xz8 Ab.out
 go_wp2
 refine bodyPost_ret (av rfl _ _ Aa 37 #[.string (⟨#[]⟩ : ByteArray), .bool false, .string (⟨#[]⟩ : ByteArray), .string (⟨#[]⟩ : ByteArray), .bool false, .string (⟨#[]⟩ : ByteArray), .bool false, .string (⟨#[]⟩ : ByteArray)] (0, 0) _ rfl xbk Tryd.underlying37 rfl (by kernel_rfl)) rfl ?_
 exact ⟨xre, xbl⟩
 }
 replace H := xbd H
 obtain ⟨⟨As, At, Au, Av, Aw, Ax, Ay, Az, AH⟩, A17, H⟩ := H
 try dsimp only at H
 refine xib H ?_ ?_ <;> clear H <;> rintro rfl H
 {
 simp only [Option.some.injEq, Prod.mk.injEq] at H
 obtain ⟨rfl, rfl, rfl, rfl, rfl, rfl, rfl, rfl, rfl⟩ := H
 go_wp2_with (first | ((with_reducible refine xgc (f := 30) rfl ?_); refine xca 33 Tryd.func30 (g8 (w := _) (hG := xG) (h := A17.out)) ?_; rintro w19 hb; replace Ab := xbq Aa hb; replace HB := xst hb; (try clear hb)) | ((with_reducible refine af (N := 6) rfl ?_); refine xew 6 ?_; intro Al w20 Ag Am hb hg; have Ac := xlt (g := Aa) hg; have Ad := xgt (g := Aa) hg; replace Ab := xbq Aa hb; replace HB := xst hb; clear hb hg; have AB := Ad.out; have AC := Ac.out; have AI := xz8 Ag.out; have AJ := xz8 Ab.out))
 refine bodyPost_ret (av rfl _ _ Aa 37 #[.string As, .bool At, .string Au, .string Av, .bool Aw, .string Ax, .bool Ay, .string Az] (0, 0) _ rfl xbk Tryd.underlying37 rfl (by kernel_rfl)) rfl ?_
 exact ⟨xre, xbl⟩
 }
 simp only [Option.some.injEq, Prod.mk.injEq] at H
 obtain ⟨rfl, rfl, rfl, rfl, rfl, rfl, rfl, rfl, rfl⟩ := H
 go_wp2_with (first | ((with_reducible refine xgc (f := 30) rfl ?_); refine xca 33 Tryd.func30 (g8 (w := _) (hG := xG) (h := A17.out)) ?_; rintro w24 hb; replace Ab := xbq Aa hb; replace HB := xst hb; (try clear hb)) | ((with_reducible refine af (N := 6) rfl ?_); refine xew 6 ?_; intro Al w25 Ag Am hb hg; have Ac := xlt (g := Aa) hg; have Ad := xgt (g := Aa) hg; replace Ab := xbq Aa hb; replace HB := xst hb; clear hb hg; have AD := Ad.out; have AE := Ac.out; have AK := xz8 Ag.out; have AL := xz8 Ab.out))
 refine bodyPost_ret (av rfl _ _ Aa 37 #[.string (⟨#[]⟩ : ByteArray), .bool false, .string (⟨#[]⟩ : ByteArray), .string (⟨#[]⟩ : ByteArray), .bool false, .string (⟨#[]⟩ : ByteArray), .bool false, .string (⟨#[]⟩ : ByteArray)] (0, 0) _ rfl xbk Tryd.underlying37 rfl (by kernel_rfl)) rfl ?_
 exact ⟨xre, xbl⟩
 )
 )
 )
 )
def cN : Nat → ByteArray → ByteArray → Int → Int → Option (Bool)
  | 0, _, _, _, _ => none
  | k + 1, x0, x1, x12, x13 => if x13 < x12 then (if 0 ≤ x13 then (if x13 < (x0.size : Int) then ((dy (bt x0 x13)).bind fun t508 => (if x13 < (x1.size : Int) then ((dy (bt x1 x13)).bind fun t509 => (if t508 = t509 then (cN k x0 x1 x12 (wrap64 (x13 + 1))) else (some false))) else (none))) else (none)) else (none)) else (some true)
def eF (k : Nat) (a0 : ByteArray) (a1 : ByteArray) : Option (Bool) := if (a0.size : Int) = (a1.size : Int) then (cN k a0 a1 (a0.size : Int) 0) else (some false)
theorem gY : ∀ k, (∀ y0 y1 y2 y3, LeO (cN k y0 y1 y2 y3) (cN (k + 1) y0 y1 y2 y3))
  | 0 => fun _ _ _ _ r h => by simp [cN] at h
  | k + 1 => by
    have ih0 := gY k
    · intro y0 y1 y2 y3
      unfold cN
      exact xmo
theorem iE : ∀ a0 a1 k, LeO (eF k a0 a1) (eF (k + 1) a0 a1) := by
  intro a0 a1 k
  have ih0 := gY k
  unfold eF
  exact xmo
theorem eT (k : Nat) (a0 : ByteArray) (a1 : ByteArray) (r : Bool) (w : World) (h : eF k a0 a1 = some r) :
    Calls Tryd.prog 17 #[.string a0, .string a1] w fun e w' => e = .returned (.bool r) ∧ Drawn0 w w' := by
 have H := h
 clear h
 unfold eF at H
 refine xid H ?_ ?_ <;> clear H <;> intro c3 H
 {
 obtain ⟨Ab, Ac⟩ := xqe c3
 have Ad : (a0.size == a1.size) = true := by first | simpa using c3 | (simp at c3 ⊢; omega)
 clear c3
 have H' := Zz.mk H
 clear H
 go_enter Tryd.func17, Tryd.ntmps17
 go_wp2
 repeat (go_quiet (fail); try go_wp2)
 go_loopg [13] k (fun kq v13 w' => ∃ Aa, v13 = .int .i64 Aa ∧ Zz (cN kq a0 a1 (a0.size : Int) Aa = some r) ∧ Zz (kq ≤ k) ∧ Drawn0 w w')
 case atStart => exact ⟨(0), xrr, H', ⟨Nat.le_refl _⟩, xdr⟩
 case round => (
 clear H'
 clear Ab Ac Ad
 obtain ⟨Aa, rfl, HA, HK1, ⟨m1, rfl⟩⟩ := hrel
 cases gk with
 | zero => exact absurd HA.out (by simp [cN])
 | succ k1 => (
 have H := HA.out
 clear HA
 simp only [cN] at H
 refine xid H ?_ ?_ <;> clear H <;> intro c4 H
 {
 have Ag := xdt c4
 clear c4
 refine xin H ?_; clear H; intro c5 H
 have Ah := xdt c5
 clear c5
 refine xin H ?_; clear H; intro c6 H
 have Ai := xdt c6
 clear c6
 replace H := xbd H
 obtain ⟨Aj, A8, H⟩ := H
 try dsimp only at H
 refine xin H ?_; clear H; intro c9 H
 have Ak := xdt c9
 clear c9
 replace H := xbd H
 obtain ⟨Al, A11, H⟩ := H
 try dsimp only at H
 refine xid H ?_ ?_ <;> clear H <;> intro c12 H
 {
 obtain ⟨Ae, Af⟩ := xqe c12
 clear c12
 replace H := xa H
 obtain ⟨p7, q7, hx7⟩ := xiv a0 Aa xod xod
 go_wp2_with (first | (go_at_call 20; (with_reducible refine (aV (w := _) (h := A8.out)).mono ?_); rintro e w' ⟨rfl, ⟨nd, rfl⟩⟩; (try exact xdd); obtain ⟨p10, q10, hx10⟩ := xiv a1 Aa xod xod) | (go_at_call 20; (with_reducible refine (aV (w := _) (h := A11.out)).mono ?_); rintro e w' ⟨rfl, ⟨nd, rfl⟩⟩; (try exact xdd)))
 repeat (go_quiet (first | (go_at_call 20; (with_reducible refine (aV (w := _) (h := A8.out)).mono ?_); rintro e w' ⟨rfl, ⟨nd, rfl⟩⟩; (try exact xdd); obtain ⟨p10, q10, hx10⟩ := xiv a1 Aa xod xod) | (go_at_call 20; (with_reducible refine (aV (w := _) (h := A11.out)).mono ?_); rintro e w' ⟨rfl, ⟨nd, rfl⟩⟩; (try exact xdd))); try go_wp2_with (first | (go_at_call 20; (with_reducible refine (aV (w := _) (h := A8.out)).mono ?_); rintro e w' ⟨rfl, ⟨nd, rfl⟩⟩; (try exact xdd); obtain ⟨p10, q10, hx10⟩ := xiv a1 Aa xod xod) | (go_at_call 20; (with_reducible refine (aV (w := _) (h := A11.out)).mono ?_); rintro e w' ⟨rfl, ⟨nd, rfl⟩⟩; (try exact xdd))))
 go_roundg k1
 case measure => have := HK1.out; omega
 case rel => exact ⟨(wrap64 (Aa + 1)), xrr, H, ⟨by have := HK1.out; omega⟩, xdr⟩
 }
 obtain ⟨Ae, Af⟩ := xqn c12
 obtain rfl := Option.some.inj H
 obtain ⟨p7, q7, hx7⟩ := xiv a0 Aa xod xod
 go_wp2_with (first | (go_at_call 20; (with_reducible refine (aV (w := _) (h := A8.out)).mono ?_); rintro e w' ⟨rfl, ⟨nd, rfl⟩⟩; (try exact xdd); obtain ⟨p10, q10, hx10⟩ := xiv a1 Aa xod xod) | (go_at_call 20; (with_reducible refine (aV (w := _) (h := A11.out)).mono ?_); rintro e w' ⟨rfl, ⟨nd, rfl⟩⟩; (try exact xdd)))
 repeat (go_quiet (first | (go_at_call 20; (with_reducible refine (aV (w := _) (h := A8.out)).mono ?_); rintro e w' ⟨rfl, ⟨nd, rfl⟩⟩; (try exact xdd); obtain ⟨p10, q10, hx10⟩ := xiv a1 Aa xod xod) | (go_at_call 20; (with_reducible refine (aV (w := _) (h := A11.out)).mono ?_); rintro e w' ⟨rfl, ⟨nd, rfl⟩⟩; (try exact xdd))); try go_wp2_with (first | (go_at_call 20; (with_reducible refine (aV (w := _) (h := A8.out)).mono ?_); rintro e w' ⟨rfl, ⟨nd, rfl⟩⟩; (try exact xdd); obtain ⟨p10, q10, hx10⟩ := xiv a1 Aa xod xod) | (go_at_call 20; (with_reducible refine (aV (w := _) (h := A11.out)).mono ?_); rintro e w' ⟨rfl, ⟨nd, rfl⟩⟩; (try exact xdd))))
 go_ret
 exact ⟨xrr, xdr⟩
 }
 have Ag := xdf c4
 clear c4
 obtain rfl := Option.some.inj H
 go_wp2
 repeat (go_quiet (fail); try go_wp2)
 go_ret
 exact ⟨xrr, xdr⟩
 )
 )
 }
 obtain ⟨Ab, Ac⟩ := xqn c3
 have Ad : (a0.size == a1.size) = false := by first | simpa using c3 | (simp at c3 ⊢; omega)
 obtain rfl := Option.some.inj H
 go_enter Tryd.func17, Tryd.ntmps17
 go_wp2
 repeat (go_quiet (fail); try go_wp2)
 go_ret
 exact ⟨xrr, xdr⟩
end Go.Proofs.YtojdiklegmhakaaDoor.X
