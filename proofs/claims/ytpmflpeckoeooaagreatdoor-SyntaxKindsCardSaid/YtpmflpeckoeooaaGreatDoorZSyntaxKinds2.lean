/- Texts that the law's proof needs, joined by a program of this session. -/
import Derived.Test.YtpmflpeckoeooaaGreatDoorZSyntaxKinds1
set_option maxHeartbeats 8000000
set_option maxRecDepth 100000
set_option linter.unusedSimpArgs false
set_option linter.unusedVariables false
namespace Go.Proofs.YtpmflpeckoeooaaGreatDoor.X
open Go.RowKit Go.Proofs.YtpmflpeckoeooaaGreatDoorW.PrintWords Go.Proofs.YtpmflpeckoeooaaGreatDoorW.PrintLast Go.Proofs.YtpmflpeckoeooaaGreatDoorW.PrintMore
attribute [local go_sem] fd eu gU i9 dJ iw cE ip ir i4 i5 gP gQ iq it
mutual
def dx : Nat → ByteArray → Int → Int → Bool → Option (Int × Int × Bool)
  | 0, _, _, _, _ => none
  | k + 1, x0, x5, x6, x20 => if x20 = true then (some (0, x5, false)) else (if 0 < (x0.size : Int) then (if 0 ≤ x6 then (if x6 = 0 then (aX k x0 (wrap32 (Go.bits .and .u8 (bt x0 0) 0)) x6 1) else (if x6 = 1 then (aX k x0 (wrap32 (Go.bits .and .u8 (bt x0 0) 127)) x6 1) else (if x6 = 2 then (aX k x0 (wrap32 (Go.bits .and .u8 (bt x0 0) 31)) x6 1) else (if x6 = 3 then (aX k x0 (wrap32 (Go.bits .and .u8 (bt x0 0) 15)) x6 1) else (if x6 = 4 then (aX k x0 (wrap32 (Go.bits .and .u8 (bt x0 0) 7)) x6 1) else (none)))))) else (none)) else (none))
def aX : Nat → ByteArray → Int → Int → Int → Option (Int × Int × Bool)
  | 0, _, _, _, _ => none
  | k + 1, x0, x2, x6, x8 => if x8 < x6 then (if 0 ≤ x8 then (if x8 < (x0.size : Int) then (aX k x0 (Go.bits .or .i32 (wrap32 (x2 * 64)) (wrap32 (Go.bits .and .u8 (bt x0 x8) 63))) x6 (wrap64 (x8 + 1))) else (none)) else (none)) else (some (x2, x6, true))
end
def fG (k : Nat) (a0 : ByteArray) : Option (Int × Int × Bool) := (gS k a0).bind fun Aa => (if Aa.2 = 0 then (dx k a0 Aa.1 Aa.2 true) else (dx k a0 Aa.1 Aa.2 (decide (Aa.1 < Aa.2))))
theorem lw : ∀ k, (∀ y0 y1 y2 y3, LeO (dx k y0 y1 y2 y3) (dx (k + 1) y0 y1 y2 y3)) ∧ (∀ y0 y1 y2 y3, LeO (aX k y0 y1 y2 y3) (aX (k + 1) y0 y1 y2 y3))
  | 0 => ⟨fun _ _ _ _ r h => by simp [dx] at h, fun _ _ _ _ r h => by simp [aX] at h⟩
  | k + 1 => by
    obtain ⟨ih0, ih1⟩ := lw k
    have m0 := @na
    refine ⟨?_, ?_⟩
    · intro y0 y1 y2 y3
      unfold dx
      exact xmo
    · intro y0 y1 y2 y3
      unfold aX
      exact xmo
theorem kv : ∀ a0 k, LeO (fG k a0) (fG (k + 1) a0) := by
  intro a0 k
  obtain ⟨ih0, ih1⟩ := lw k
  have m0 := @na
  unfold fG
  exact xmo
theorem hH (k : Nat) (a0 : ByteArray) (r1 : Int) (r2 : Int) (r3 : Bool) (w : World) (h : fG k a0 = some (r1, r2, r3)) :
    Calls Tryz.prog 44 #[.string a0] w fun e w' => e = .returned (.tuple #[.int .i32 r1, .int .i64 r2, .bool r3]) ∧ Below w.heap.size w w' := by
 have hu86 := Tryz.underlying86
 have HB := Zz.mk (Below.refl w.heap.size w)
 have H := h
 clear h
 unfold fG at H
 replace H := xbd H
 obtain ⟨⟨Aj, Ag⟩, A2, H⟩ := H
 try dsimp only at H
 have Au := Zz.mk H
 clear H
 go_enter Tryz.func44, Tryz.ntmps44
 go_upto_region 2 with (first | (go_at_call 60; (with_reducible refine (kw (w := _) (h := A2.out)).mono ?_); rintro e w' ⟨rfl, ⟨nd, rfl⟩⟩; (try exact xdd)))
 repeat (go_quiet (first | (go_at_call 60; (with_reducible refine (kw (w := _) (h := A2.out)).mono ?_); rintro e w' ⟨rfl, ⟨nd, rfl⟩⟩; (try exact xdd))); go_upto_region 2 with (first | (go_at_call 60; (with_reducible refine (kw k a0 Aj Ag _ A2.out).mono ?_); rintro e w' ⟨rfl, ⟨nd, rfl⟩⟩; (try exact xdd))))
 (try simp only [Act.put, xl1, xl2, xl3])
 go_cut [20] (fun v20 wc => ∃ kq Ah, v20 = .bool Ah ∧ Zz (dx kq a0 Aj Ag Ah = some (r1, r2, r3)) ∧ Zz (kq ≤ k) ∧ Zz (Below w.heap.size w wc))
 case first => (
 have H := Au.out
 clear Au
 refine xid H ?_ ?_ <;> clear H <;> intro c4 H
 {
 obtain ⟨Ai, Av⟩ := xqe c4
 clear c4
 (first | rw [Ai] | (simp only [am, ao]; rw [Ai]) | skip)
 replace H := xa H
 go_wp2
 repeat (go_quiet (fail); try go_wp2)
 go_meet
 case rel => exact ⟨_, (true), xrr, H, ⟨xom⟩, ⟨xbl⟩⟩
 }
 obtain ⟨Ai, Av⟩ := xqn c4
 (first | rw [Ai] | (simp only [am, ao]; rw [Ai]) | skip)
 replace H := xa H
 go_wp2
 repeat (go_quiet (fail); try go_wp2)
 go_meet
 case rel => exact ⟨_, (decide (Aj < Ag)), xrr, H, ⟨xom⟩, ⟨xbl⟩⟩
 )
 case rest => (
 clear Au
 obtain ⟨kq, Ah, rfl, HA, HJ2, HB⟩ := hcut
 cases kq with
 | zero => exact absurd HA.out (by simp [dx])
 | succ kj2 => (
 have H := HA.out
 clear HA
 simp only [dx] at H
 refine xib H ?_ ?_ <;> clear H <;> rintro rfl H
 {
 simp only [Option.some.injEq, Prod.mk.injEq] at H
 obtain ⟨rfl, rfl, rfl⟩ := H
 go_wp2
 repeat (go_quiet (fail); try go_wp2)
 go_ret3
 exact ⟨xre, xbl⟩
 }
 refine xin H ?_; clear H; intro c6 H
 have Aw := xdt c6
 have Ax : decide (0 < a0.size) = true := decide_eq_true (by omega)
 clear c6
 refine xin H ?_; clear H; intro c8 H
 have Ay := xdt c8
 clear c8
 by_cases c9 : Ag = 0
 {
 subst c9
 rw [if_pos rfl] at H
 have H' := Zz.mk H
 clear H
 go_wp2_with (first | ((with_reducible refine ai (N := 7) rfl ?_); refine xew 7 ?_; intro Ac w10 Aa Ae hb hg; replace HB := xst hb; clear hb hg; have Ak := xz5 Aa.out; obtain ⟨q7, Af, hx7⟩ := xi0 a0 xod))
 repeat (go_quiet (first | ((with_reducible refine ai (N := 7) rfl ?_); refine xew 7 ?_; intro Ac w10 Aa Ae hb hg; replace HB := xst hb; clear hb hg; have Ak := xz5 Aa.out; obtain ⟨q7, Af, hx7⟩ := xi0 a0 xod)); try go_wp2_with (first | ((with_reducible refine ai (N := 7) rfl ?_); refine xew 7 ?_; intro Ac w10 Aa Ae hb hg; replace HB := xst hb; clear hb hg; have Ak := xz5 Aa.out; obtain ⟨q7, Af, hx7⟩ := xi0 a0 xod)))
 go_loopg [2, 8] kj2 (fun kq v2 v8 w' => ∃ Ad Ab, v2 = .int .i32 Ad ∧ v8 = .int .i64 Ab ∧ Zz (aX kq a0 Ad 0 Ab = some (r1, r2, r3)) ∧ Zz (kq ≤ kj2) ∧ Zz (w'.heap[Ac]? = some (.cells #[.int .u8 0, .int .u8 127, .int .u8 31, .int .u8 15, .int .u8 7] 86 (0, 0))) ∧ Zz (Below w.heap.size w w'))
 case atStart => exact ⟨(wrap32 (Go.bits .and .u8 (bt a0 0) 0)), (1), xrr, xrr, H', ⟨Nat.le_refl _⟩, ⟨xbK⟩, ⟨xbl⟩⟩
 case round => (
 clear H'
 clear Aw Ax Ay
 try clear p7
 try clear q7
 try clear hx7
 try clear Af
 obtain ⟨Ad, Ab, rfl, rfl, HA, HK2, Aa, HB⟩ := hrel
 cases gk with
 | zero => exact absurd HA.out (by simp [aX])
 | succ k2 => (
 have H := HA.out
 clear HA
 simp only [aX] at H
 refine xid H ?_ ?_ <;> clear H <;> intro c12 H
 {
 have Al := xdt c12
 clear c12
 refine xin H ?_; clear H; intro c13 H
 have Az := xdt c13
 clear c13
 refine xin H ?_; clear H; intro c14 H
 have AA := xdt c14
 clear c14
 replace H := xa H
 obtain ⟨p15, q15, hx15⟩ := xiv a0 Ab xod xod
 go_wp2
 repeat (go_quiet (fail); try go_wp2)
 go_roundg k2
 case measure => have := HJ2.out; have := HK2.out; omega
 case rel => exact ⟨(Go.bits .or .i32 (wrap32 (Ad * 64)) (wrap32 (Go.bits .and .u8 (bt a0 Ab) 63))), (wrap64 (Ab + 1)), xrr, xrr, H, ⟨by have := HJ2.out; have := HK2.out; omega⟩, ⟨xbk⟩, ⟨xbl⟩⟩
 }
 have Al := xdf c12
 clear c12
 simp only [Option.some.injEq, Prod.mk.injEq] at H
 obtain ⟨rfl, rfl, rfl⟩ := H
 go_wp2
 repeat (go_quiet (fail); try go_wp2)
 go_ret3
 exact ⟨xre, xbl⟩
 )
 )
 }
 {
 rw [if_neg c9] at H
 clear c9
 by_cases c16 : Ag = 1
 {
 subst c16
 rw [if_pos rfl] at H
 have H' := Zz.mk H
 clear H
 go_wp2_with (first | ((with_reducible refine ai (N := 7) rfl ?_); refine xew 7 ?_; intro Ac w17 Aa Ae hb hg; replace HB := xst hb; clear hb hg; have Am := xz5 Aa.out; obtain ⟨q7, Af, hx7⟩ := xi0 a0 xod))
 repeat (go_quiet (first | ((with_reducible refine ai (N := 7) rfl ?_); refine xew 7 ?_; intro Ac w17 Aa Ae hb hg; replace HB := xst hb; clear hb hg; have Am := xz5 Aa.out; obtain ⟨q7, Af, hx7⟩ := xi0 a0 xod)); try go_wp2_with (first | ((with_reducible refine ai (N := 7) rfl ?_); refine xew 7 ?_; intro Ac w17 Aa Ae hb hg; replace HB := xst hb; clear hb hg; have Am := xz5 Aa.out; obtain ⟨q7, Af, hx7⟩ := xi0 a0 xod)))
 go_loopg [2, 8] kj2 (fun kq v2 v8 w' => ∃ Ad Ab, v2 = .int .i32 Ad ∧ v8 = .int .i64 Ab ∧ Zz (aX kq a0 Ad 1 Ab = some (r1, r2, r3)) ∧ Zz (kq ≤ kj2) ∧ Zz (w'.heap[Ac]? = some (.cells #[.int .u8 0, .int .u8 127, .int .u8 31, .int .u8 15, .int .u8 7] 86 (0, 0))) ∧ Zz (Below w.heap.size w w'))
 case atStart => exact ⟨(wrap32 (Go.bits .and .u8 (bt a0 0) 127)), (1), xrr, xrr, H', ⟨Nat.le_refl _⟩, ⟨xbK⟩, ⟨xbl⟩⟩
 case round => (
 clear H'
 try clear p7
 try clear q7
 try clear hx7
 try clear Af
 obtain ⟨Ad, Ab, rfl, rfl, HA, HK2, Aa, HB⟩ := hrel
 cases gk with
 | zero => exact absurd HA.out (by simp [aX])
 | succ k2 => (
 have H := HA.out
 clear HA
 simp only [aX] at H
 refine xid H ?_ ?_ <;> clear H <;> intro c19 H
 {
 have An := xdt c19
 clear c19
 refine xin H ?_; clear H; intro c20 H
 have AB := xdt c20
 clear c20
 refine xin H ?_; clear H; intro c21 H
 have AC := xdt c21
 clear c21
 replace H := xa H
 obtain ⟨p22, q22, hx22⟩ := xiv a0 Ab xod xod
 go_wp2
 repeat (go_quiet (fail); try go_wp2)
 go_roundg k2
 case measure => have := HJ2.out; have := HK2.out; omega
 case rel => exact ⟨(Go.bits .or .i32 (wrap32 (Ad * 64)) (wrap32 (Go.bits .and .u8 (bt a0 Ab) 63))), (wrap64 (Ab + 1)), xrr, xrr, H, ⟨by have := HJ2.out; have := HK2.out; omega⟩, ⟨xbk⟩, ⟨xbl⟩⟩
 }
 have An := xdf c19
 clear c19
 simp only [Option.some.injEq, Prod.mk.injEq] at H
 obtain ⟨rfl, rfl, rfl⟩ := H
 go_wp2
 repeat (go_quiet (fail); try go_wp2)
 go_ret3
 exact ⟨xre, xbl⟩
 )
 )
 }
 {
 rw [if_neg c16] at H
 clear c16
 by_cases c23 : Ag = 2
 {
 subst c23
 rw [if_pos rfl] at H
 have H' := Zz.mk H
 clear H
 go_wp2_with (first | ((with_reducible refine ai (N := 7) rfl ?_); refine xew 7 ?_; intro Ac w24 Aa Ae hb hg; replace HB := xst hb; clear hb hg; have Ao := xz5 Aa.out; obtain ⟨q7, Af, hx7⟩ := xi0 a0 xod))
 repeat (go_quiet (first | ((with_reducible refine ai (N := 7) rfl ?_); refine xew 7 ?_; intro Ac w24 Aa Ae hb hg; replace HB := xst hb; clear hb hg; have Ao := xz5 Aa.out; obtain ⟨q7, Af, hx7⟩ := xi0 a0 xod)); try go_wp2_with (first | ((with_reducible refine ai (N := 7) rfl ?_); refine xew 7 ?_; intro Ac w24 Aa Ae hb hg; replace HB := xst hb; clear hb hg; have Ao := xz5 Aa.out; obtain ⟨q7, Af, hx7⟩ := xi0 a0 xod)))
 go_loopg [2, 8] kj2 (fun kq v2 v8 w' => ∃ Ad Ab, v2 = .int .i32 Ad ∧ v8 = .int .i64 Ab ∧ Zz (aX kq a0 Ad 2 Ab = some (r1, r2, r3)) ∧ Zz (kq ≤ kj2) ∧ Zz (w'.heap[Ac]? = some (.cells #[.int .u8 0, .int .u8 127, .int .u8 31, .int .u8 15, .int .u8 7] 86 (0, 0))) ∧ Zz (Below w.heap.size w w'))
 case atStart => exact ⟨(wrap32 (Go.bits .and .u8 (bt a0 0) 31)), (1), xrr, xrr, H', ⟨Nat.le_refl _⟩, ⟨xbK⟩, ⟨xbl⟩⟩
 case round => (
 clear H'
 try clear p7
 try clear q7
 try clear hx7
 try clear Af
 obtain ⟨Ad, Ab, rfl, rfl, HA, HK2, Aa, HB⟩ := hrel
 cases gk with
 | zero => exact absurd HA.out (by simp [aX])
 | succ k2 => (
 have H := HA.out
 clear HA
 simp only [aX] at H
 refine xid H ?_ ?_ <;> clear H <;> intro c26 H
 {
 have Ap := xdt c26
 clear c26
 refine xin H ?_; clear H; intro c27 H
 have AD := xdt c27
 clear c27
 refine xin H ?_; clear H; intro c28 H
 have AE := xdt c28
 clear c28
 replace H := xa H
 obtain ⟨p29, q29, hx29⟩ := xiv a0 Ab xod xod
 go_wp2
 repeat (go_quiet (fail); try go_wp2)
 go_roundg k2
 case measure => have := HJ2.out; have := HK2.out; omega
 case rel => exact ⟨(Go.bits .or .i32 (wrap32 (Ad * 64)) (wrap32 (Go.bits .and .u8 (bt a0 Ab) 63))), (wrap64 (Ab + 1)), xrr, xrr, H, ⟨by have := HJ2.out; have := HK2.out; omega⟩, ⟨xbk⟩, ⟨xbl⟩⟩
 }
 have Ap := xdf c26
 clear c26
 simp only [Option.some.injEq, Prod.mk.injEq] at H
 obtain ⟨rfl, rfl, rfl⟩ := H
 go_wp2
 repeat (go_quiet (fail); try go_wp2)
 go_ret3
 exact ⟨xre, xbl⟩
 )
 )
 }
 {
 rw [if_neg c23] at H
 clear c23
 by_cases c30 : Ag = 3
 {
 subst c30
 rw [if_pos rfl] at H
 have H' := Zz.mk H
 clear H
 go_wp2_with (first | ((with_reducible refine ai (N := 7) rfl ?_); refine xew 7 ?_; intro Ac w31 Aa Ae hb hg; replace HB := xst hb; clear hb hg; have Aq := xz5 Aa.out; obtain ⟨q7, Af, hx7⟩ := xi0 a0 xod))
 repeat (go_quiet (first | ((with_reducible refine ai (N := 7) rfl ?_); refine xew 7 ?_; intro Ac w31 Aa Ae hb hg; replace HB := xst hb; clear hb hg; have Aq := xz5 Aa.out; obtain ⟨q7, Af, hx7⟩ := xi0 a0 xod)); try go_wp2_with (first | ((with_reducible refine ai (N := 7) rfl ?_); refine xew 7 ?_; intro Ac w31 Aa Ae hb hg; replace HB := xst hb; clear hb hg; have Aq := xz5 Aa.out; obtain ⟨q7, Af, hx7⟩ := xi0 a0 xod)))
 go_loopg [2, 8] kj2 (fun kq v2 v8 w' => ∃ Ad Ab, v2 = .int .i32 Ad ∧ v8 = .int .i64 Ab ∧ Zz (aX kq a0 Ad 3 Ab = some (r1, r2, r3)) ∧ Zz (kq ≤ kj2) ∧ Zz (w'.heap[Ac]? = some (.cells #[.int .u8 0, .int .u8 127, .int .u8 31, .int .u8 15, .int .u8 7] 86 (0, 0))) ∧ Zz (Below w.heap.size w w'))
 case atStart => exact ⟨(wrap32 (Go.bits .and .u8 (bt a0 0) 15)), (1), xrr, xrr, H', ⟨Nat.le_refl _⟩, ⟨xbK⟩, ⟨xbl⟩⟩
 case round => (
 clear H'
 try clear p7
 try clear q7
 try clear hx7
 try clear Af
 obtain ⟨Ad, Ab, rfl, rfl, HA, HK2, Aa, HB⟩ := hrel
 cases gk with
 | zero => exact absurd HA.out (by simp [aX])
 | succ k2 => (
 have H := HA.out
 clear HA
 simp only [aX] at H
 refine xid H ?_ ?_ <;> clear H <;> intro c33 H
 {
 have Ar := xdt c33
 clear c33
 refine xin H ?_; clear H; intro c34 H
 have AF := xdt c34
 clear c34
 refine xin H ?_; clear H; intro c35 H
 have AG := xdt c35
 clear c35
 replace H := xa H
 obtain ⟨p36, q36, hx36⟩ := xiv a0 Ab xod xod
 go_wp2
 repeat (go_quiet (fail); try go_wp2)
 go_roundg k2
 case measure => have := HJ2.out; have := HK2.out; omega
 case rel => exact ⟨(Go.bits .or .i32 (wrap32 (Ad * 64)) (wrap32 (Go.bits .and .u8 (bt a0 Ab) 63))), (wrap64 (Ab + 1)), xrr, xrr, H, ⟨by have := HJ2.out; have := HK2.out; omega⟩, ⟨xbk⟩, ⟨xbl⟩⟩
 }
 have Ar := xdf c33
 clear c33
 simp only [Option.some.injEq, Prod.mk.injEq] at H
 obtain ⟨rfl, rfl, rfl⟩ := H
 go_wp2
 repeat (go_quiet (fail); try go_wp2)
 go_ret3
 exact ⟨xre, xbl⟩
 )
 )
 }
 {
 rw [if_neg c30] at H
 clear c30
 by_cases c37 : Ag = 4
 {
 subst c37
 rw [if_pos rfl] at H
 have H' := Zz.mk H
 clear H
 go_wp2_with (first | ((with_reducible refine ai (N := 7) rfl ?_); refine xew 7 ?_; intro Ac w38 Aa Ae hb hg; replace HB := xst hb; clear hb hg; have As := xz5 Aa.out; obtain ⟨q7, Af, hx7⟩ := xi0 a0 xod))
 repeat (go_quiet (first | ((with_reducible refine ai (N := 7) rfl ?_); refine xew 7 ?_; intro Ac w38 Aa Ae hb hg; replace HB := xst hb; clear hb hg; have As := xz5 Aa.out; obtain ⟨q7, Af, hx7⟩ := xi0 a0 xod)); try go_wp2_with (first | ((with_reducible refine ai (N := 7) rfl ?_); refine xew 7 ?_; intro Ac w38 Aa Ae hb hg; replace HB := xst hb; clear hb hg; have As := xz5 Aa.out; obtain ⟨q7, Af, hx7⟩ := xi0 a0 xod)))
 go_loopg [2, 8] kj2 (fun kq v2 v8 w' => ∃ Ad Ab, v2 = .int .i32 Ad ∧ v8 = .int .i64 Ab ∧ Zz (aX kq a0 Ad 4 Ab = some (r1, r2, r3)) ∧ Zz (kq ≤ kj2) ∧ Zz (w'.heap[Ac]? = some (.cells #[.int .u8 0, .int .u8 127, .int .u8 31, .int .u8 15, .int .u8 7] 86 (0, 0))) ∧ Zz (Below w.heap.size w w'))
 case atStart => exact ⟨(wrap32 (Go.bits .and .u8 (bt a0 0) 7)), (1), xrr, xrr, H', ⟨Nat.le_refl _⟩, ⟨xbK⟩, ⟨xbl⟩⟩
 case round => (
 clear H'
 try clear p7
 try clear q7
 try clear hx7
 try clear Af
 obtain ⟨Ad, Ab, rfl, rfl, HA, HK2, Aa, HB⟩ := hrel
 cases gk with
 | zero => exact absurd HA.out (by simp [aX])
 | succ k2 => (
 have H := HA.out
 clear HA
 simp only [aX] at H
 refine xid H ?_ ?_ <;> clear H <;> intro c40 H
 {
 have At := xdt c40
 clear c40
 refine xin H ?_; clear H; intro c41 H
 have AH := xdt c41
 clear c41
 refine xin H ?_; clear H; intro c42 H
 have AI := xdt c42
 clear c42
 replace H := xa H
 obtain ⟨p43, q43, hx43⟩ := xiv a0 Ab xod xod
 go_wp2
 repeat (go_quiet (fail); try go_wp2)
 go_roundg k2
 case measure => have := HJ2.out; have := HK2.out; omega
 case rel => exact ⟨(Go.bits .or .i32 (wrap32 (Ad * 64)) (wrap32 (Go.bits .and .u8 (bt a0 Ab) 63))), (wrap64 (Ab + 1)), xrr, xrr, H, ⟨by have := HJ2.out; have := HK2.out; omega⟩, ⟨xbk⟩, ⟨xbl⟩⟩
 }
 have At := xdf c40
 clear c40
 simp only [Option.some.injEq, Prod.mk.injEq] at H
 obtain ⟨rfl, rfl, rfl⟩ := H
 go_wp2
 repeat (go_quiet (fail); try go_wp2)
 go_ret3
 exact ⟨xre, xbl⟩
 )
 )
 }
 {
 rw [if_neg c37] at H
 clear c37
 exact absurd H (by simp)
 }
 }
 }
 }
 }
 )
 )
def dI : Nat → ByteArray → Nat → Option Int
  | 0, _, _ => none
  | k + 1, s, pos => if pos < s.size then (if ((Utf8.decode s pos).1 : Int) = 65533 then (fG k (s.extract pos s.size)).bind fun d => (if d.2.2 = true then dI k s (pos + (Utf8.decode s pos).2) else some (pos : Int)) else dI k s (pos + (Utf8.decode s pos).2)) else some (-1)
def jV (k : Nat) (a0 : ByteArray) : Option Int := dI k a0 0
theorem j5 : ∀ k y0 y1, LeO (dI k y0 y1) (dI (k + 1) y0 y1)
  | 0 => fun _ _ r h => by simp [dI] at h
  | k + 1 => by
    intro y0 y1
    unfold dI
    exact LeO.ite (LeO.ite (LeO.bind (kv _ _) (fun d => LeO.ite (j5 k _ _) (LeO.refl _))) (j5 k _ _)) (LeO.refl _)
theorem pS : ∀ a0 k, LeO (jV k a0) (jV (k + 1) a0) := fun a0 k => j5 k a0 0
set_option maxHeartbeats 4000000 in
theorem pw (k : Nat) (a0 : ByteArray) (r : Int) (w : World) (h : jV k a0 = some r) :
    Calls Tryz.prog 27 #[.string a0] w fun e w' => e = .returned (.int .i64 r) ∧ Below w.heap.size w w' := by
 have H' := Zz.mk (show dI k a0 0 = some r from h)
 clear h
 go_enter Tryz.func27, Tryz.ntmps27
 go_wp2
 go_loopg [3] k (fun kq v3 wr => ∃ pos : Nat, Zz (dI kq a0 pos = some r) ∧ Zz (kq ≤ k) ∧ Zz (wr.heap[w.heap.size]? = some (.stringIter a0 pos)) ∧ Zz (Below w.heap.size w wr))
 case atStart => exact ⟨0, H', ⟨Nat.le_refl _⟩, ⟨World.iter_heap w a0 0⟩, ⟨(Below.refl _ _).alloc (Nat.le_refl _) _⟩⟩
 case round =>
  clear H'
  obtain ⟨pos, HA, HK, HI, HB⟩ := hrel
  cases gk with
  | zero => exact absurd HA.out (by simp [dI])
  | succ k1 =>
   have H := HA.out
   clear HA
   simp only [dI] at H
   by_cases hp : pos < a0.size
   · rw [if_pos hp] at H
     have hnx : ∀ ty, (Instr.next (.pointer (some ⟨w.heap.size, 0, none⟩)) true ty).run Tryz.prog wr = _ := fun ty => Lib.run_next_any_at wr w.heap.size a0 pos ty HI.out hp
     have HI2 := Zz.mk (Lib.iterAt_heap wr w.heap.size a0 pos (pos + (Utf8.decode a0 pos).2) HI.out)
     have HB2 := Zz.mk (Lib.below_iterAt HB.out (k := w.heap.size) (Nat.le_refl _) a0 (pos + (Utf8.decode a0 pos).2))
     obtain ⟨W1, hW1⟩ : ∃ W1, W1 = wr.iterAt w.heap.size a0 (pos + (Utf8.decode a0 pos).2) := ⟨_, rfl⟩
     rw [← hW1] at hnx HI2 HB2
     clear hW1 HI HB
     by_cases hc : ((Utf8.decode a0 pos).1 : Int) = 65533
     · rw [if_pos hc] at H
       obtain ⟨⟨d1, d2, d3⟩, HD0, H⟩ := Option.bind_eq_some_iff.1 H
       simp only at H
       have HD := Zz.mk HD0
       clear HD0
       have hq0 : (0 : Int) ≤ (pos : Int) := Int.natCast_nonneg _
       have hq1 : (pos : Int) ≤ (a0.size : Int) := by omega
       have hb0 : (((Utf8.decode a0 pos).1 : Int) == 65533) = true := beq_iff_eq.2 hc
       have hb1 : (((Utf8.decode a0 pos).1 : Int) != 65533) = false := by rw [bne, hb0]; rfl
       generalize ((Utf8.decode a0 pos).1 : Int) = cc at hnx hb0 hb1
       clear hc
       cases d3 with
       | true =>
        rw [if_pos rfl] at H
        replace H := xa H
        go_wp2_with (first | (go_at_call 44; (with_reducible refine (hH (w := _) (h := HD.out)).mono ?_); rintro e w2 ⟨rfl, hb⟩; replace HI2 := Zz.mk ((hb.block _ (by have := (Array.getElem?_eq_some_iff.1 HI2.out).1; omega)).trans HI2.out); replace HB2 := Zz.mk (HB2.out.trans (hb.mono HB2.out.size)); clear hb))
        go_roundg k1
        case measure => have := HK.out; omega
        case rel => exact ⟨_, H, ⟨by have := HK.out; omega⟩, HI2, HB2⟩
       | false =>
        rw [if_neg (by simp)] at H
        obtain rfl := Option.some.inj H
        go_wp2_with (first | (go_at_call 44; (with_reducible refine (hH (w := _) (h := HD.out)).mono ?_); rintro e w2 ⟨rfl, hb⟩; replace HB2 := Zz.mk (HB2.out.trans (hb.mono HB2.out.size)); clear hb))
        go_ret
        exact ⟨rfl, HB2.out⟩
     · rw [if_neg hc] at H
       have hb0 : (((Utf8.decode a0 pos).1 : Int) == 65533) = false := by simpa using hc
       have hb1 : (((Utf8.decode a0 pos).1 : Int) != 65533) = true := by rw [bne, hb0]; rfl
       generalize ((Utf8.decode a0 pos).1 : Int) = cc at hnx hb0 hb1
       clear hc
       replace H := xa H
       go_wp2
       go_roundg k1
       case measure => have := HK.out; omega
       case rel => exact ⟨_, H, ⟨by have := HK.out; omega⟩, HI2, HB2⟩
   · rw [if_neg hp] at H
     obtain rfl := Option.some.inj H
     have hnx : ∀ ty, (Instr.next (.pointer (some ⟨w.heap.size, 0, none⟩)) true ty).run Tryz.prog wr = _ := fun ty => Lib.run_next_end_at wr w.heap.size a0 pos ty HI.out hp
     go_wp2
     go_ret
     exact ⟨rfl, HB.out⟩
def iv (k : Nat) (a0 : ByteArray) : Option (Bool) := (jV k a0).bind fun t107 => (some (decide (t107 < 0)))
theorem mZ : ∀ a0 k, LeO (iv k a0) (iv (k + 1) a0) := by
  intro a0 k
  have m0 := @pS
  unfold iv
  exact xmo
theorem px (k : Nat) (a0 : ByteArray) (r : Bool) (w : World) (h : iv k a0 = some r) :
    Calls Tryz.prog 18 #[.string a0] w fun e w' => e = .returned (.bool r) ∧ Below w.heap.size w w' := by
 have HB := Zz.mk (Below.refl w.heap.size w)
 have H := h
 clear h
 unfold iv at H
 replace H := xbd H
 obtain ⟨t107, A2, H⟩ := H
 try dsimp only at H
 obtain rfl := Option.some.inj H
 go_enter Tryz.func18, Tryz.ntmps18
 go_wp2_with (first | ((with_reducible refine xgc (f := 27) rfl ?_); refine xca 4 Tryz.func27 (pw (w := _) (h := A2.out)) ?_; rintro w3 hb; replace HB := xst hb; (try clear hb)))
 go_ret
 exact ⟨xre, xbl⟩
mutual
def dZ : Nat → ByteArray → ByteArray → Int → Option (Int)
  | 0, _, _, _ => none
  | k + 1, x0, x2, x7 => if x7 < (x0.size : Int) then (er k x0 x2 x7 (x2.size : Int) 0) else (some (-1))
def er : Nat → ByteArray → ByteArray → Int → Int → Int → Option (Int)
  | 0, _, _, _, _, _ => none
  | k + 1, x0, x2, x7, x18, x19 => if x19 < x18 then (if 0 ≤ x7 then (if x7 < (x0.size : Int) then (if 0 ≤ x19 then (if x19 < (x2.size : Int) then (if (bt x0 x7) = (bt x2 x19) then (some x7) else (er k x0 x2 x7 x18 (wrap64 (x19 + 1)))) else (none)) else (none)) else (none)) else (none)) else (dZ k x0 x2 (wrap64 (x7 + 1)))
end
def df (k : Nat) (a0 : ByteArray) (a1 : Int) (a2 : ByteArray) : Option (Int) := dZ k a0 a2 (mx a1 0)
theorem lq : ∀ k, (∀ y0 y1 y2, LeO (dZ k y0 y1 y2) (dZ (k + 1) y0 y1 y2)) ∧ (∀ y0 y1 y2 y3 y4, LeO (er k y0 y1 y2 y3 y4) (er (k + 1) y0 y1 y2 y3 y4))
  | 0 => ⟨fun _ _ _ r h => by simp [dZ] at h, fun _ _ _ _ _ r h => by simp [er] at h⟩
  | k + 1 => by
    obtain ⟨ih0, ih1⟩ := lq k
    refine ⟨?_, ?_⟩
    · intro y0 y1 y2
      unfold dZ
      exact xmo
    · intro y0 y1 y2 y3 y4
      unfold er
      exact xmo
theorem il : ∀ a0 a1 a2 k, LeO (df k a0 a1 a2) (df (k + 1) a0 a1 a2) := by
  intro a0 a1 a2 k
  obtain ⟨ih0, ih1⟩ := lq k
  unfold df
  exact xmo
theorem dS (k : Nat) (a0 : ByteArray) (a1 : Int) (a2 : ByteArray) (r : Int) (w : World) (h : df k a0 a1 a2 = some r) :
    Calls Tryz.prog 45 #[.string a0, .int .i64 a1, .string a2] w fun e w' => e = .returned (.int .i64 r) ∧ Below w.heap.size w w' := by
 have HB := Zz.mk (Below.refl w.heap.size w)
 have H := h
 clear h
 unfold df at H
 obtain ⟨Ag, Ab⟩ : ∃ j_ : Int, (mx a1 0) = j_ := ⟨_, rfl⟩
 first | rw [Ab] at H | simp only [Ab] at H | skip
 (try (have Ai : 0 ≤ Ag := by (rw [← Ab]; unfold mx; (repeat' split) <;> omega)))
 (try (have Aj : 0 ≤ Ag := by omega))
 have hji4_ : (if a1 < 0 then 0 else a1) = Ag := Ab
 have H' := Zz.mk H
 clear H
 go_enter Tryz.func45, Tryz.ntmps45
 go_wp2
 repeat (go_quiet (fail); try go_wp2)
 go_loopg [7] k (fun kq v7 w' => ∃ Ac, v7 = .int .i64 Ac ∧ Zz (dZ kq a0 a2 Ac = some r) ∧ Zz (kq ≤ k) ∧ Zz (Below w.heap.size w w'))
 case atStart => exact ⟨(Ag), (by first | exact xrs | (simp only [← Ab] <;> (first | rfl | simp)) | exact xrr), H', ⟨Nat.le_refl _⟩, ⟨xbl⟩⟩
 case round => (
 clear H'
 obtain ⟨Ac, rfl, HA, HK1, HB⟩ := hrel
 cases gk with
 | zero => exact absurd HA.out (by simp [dZ])
 | succ k1 => (
 have H := HA.out
 clear HA
 simp only [dZ] at H
 refine xid H ?_ ?_ <;> clear H <;> intro c5 H
 {
 have Ad := xdt c5
 clear c5
 have H' := Zz.mk H
 clear H
 go_wp2
 repeat (go_quiet (fail); try go_wp2)
 go_loopg [19] k1 (fun kq v19 w' => ∃ Aa, v19 = .int .i64 Aa ∧ Zz (er kq a0 a2 Ac (a2.size : Int) Aa = some r) ∧ Zz (kq ≤ k1) ∧ Zz (Below w.heap.size w w'))
 case atStart => exact ⟨(0), xrr, H', ⟨Nat.le_refl _⟩, ⟨xbl⟩⟩
 case round => (
 clear H'
 clear Ad
 obtain ⟨Aa, rfl, HA, HK2, HB⟩ := hrel
 cases gk with
 | zero => exact absurd HA.out (by simp [er])
 | succ k2 => (
 have H := HA.out
 clear HA
 simp only [er] at H
 refine xid H ?_ ?_ <;> clear H <;> intro c6 H
 {
 have Ah := xdt c6
 clear c6
 refine xin H ?_; clear H; intro c7 H
 have Am := xdt c7
 clear c7
 refine xin H ?_; clear H; intro c8 H
 have An := xdt c8
 clear c8
 refine xin H ?_; clear H; intro c10 H
 have Ak := xdt c10
 clear c10
 refine xin H ?_; clear H; intro c11 H
 have Al := xdt c11
 clear c11
 refine xid H ?_ ?_ <;> clear H <;> intro c13 H
 {
 obtain ⟨Ae, Af⟩ := xqe c13
 clear c13
 obtain rfl := Option.some.inj H
 obtain ⟨p9, q9, hx9⟩ := xiv a0 Ac xod xod
 obtain ⟨p12, q12, hx12⟩ := xiv a2 Aa xod xod
 go_wp2
 repeat (go_quiet (fail); try go_wp2)
 go_ret
 exact ⟨by first | exact xrd | (simp only [← Ab]; exact xrd) | exact xre, xbl⟩
 }
 obtain ⟨Ae, Af⟩ := xqn c13
 replace H := xa H
 obtain ⟨p9, q9, hx9⟩ := xiv a0 Ac xod xod
 obtain ⟨p12, q12, hx12⟩ := xiv a2 Aa xod xod
 go_wp2
 repeat (go_quiet (fail); try go_wp2)
 go_roundg k2
 case measure => have := HK1.out; have := HK2.out; omega
 case rel => exact ⟨(wrap64 (Aa + 1)), xrr, H, ⟨by have := HK1.out; have := HK2.out; omega⟩, ⟨xbl⟩⟩
 }
 have Ah := xdf c6
 clear c6
 replace H := xa H
 go_wp2
 repeat (go_quiet (fail); try go_wp2)
 go_roundg k2
 case measure => have := HK1.out; have := HK2.out; omega
 case rel => exact ⟨(wrap64 (Ac + 1)), xrr, H, ⟨by have := HK1.out; have := HK2.out; omega⟩, ⟨xbl⟩⟩
 )
 )
 }
 have Ad := xdf c5
 clear c5
 obtain rfl := Option.some.inj H
 go_wp2
 repeat (go_quiet (fail); try go_wp2)
 go_ret
 exact ⟨by first | exact xrd | (simp only [← Ab]; exact xrd) | exact xre, xbl⟩
 )
 )
mutual
def d4 : Nat → Int → Bool → Option (Int)
  | 0, _, _ => none
  | k + 1, x3, x4 => if x4 = true then (some 4) else (if x3 = 33 then (bD k x3 (x3 == 33)) else (if x3 = 36 then (bD k x3 (x3 == 36)) else (if x3 = 38 then (bD k x3 (x3 == 38)) else (if x3 = 39 then (bD k x3 (x3 == 39)) else (if x3 = 40 then (bD k x3 (x3 == 40)) else (if x3 = 41 then (bD k x3 (x3 == 41)) else (if x3 = 42 then (bD k x3 (x3 == 42)) else (if x3 = 43 then (bD k x3 (x3 == 43)) else (if x3 = 44 then (bD k x3 (x3 == 44)) else (if x3 = 59 then (bD k x3 (x3 == 59)) else (bD k x3 (x3 == 61))))))))))))
def bD : Nat → Int → Bool → Option (Int)
  | 0, _, _ => none
  | k + 1, x3, x9 => if x9 = true then (some 8) else (if x3 = 58 then (some 16) else (if x3 = 47 then (some 16) else (if x3 = 63 then (some 16) else (if x3 = 35 then (some 16) else (if x3 = 91 then (some 16) else (if x3 = 93 then (some 16) else (if x3 = 64 then (some 16) else (some 0))))))))
end
def g9 (k : Nat) (a0 : Int) : Option (Int) := if a0 = 45 then (d4 k a0 (a0 == 45)) else (if a0 = 46 then (d4 k a0 (a0 == 46)) else (if a0 = 95 then (d4 k a0 (a0 == 95)) else (d4 k a0 (a0 == 126))))
theorem ls : ∀ k, (∀ y0 y1, LeO (d4 k y0 y1) (d4 (k + 1) y0 y1)) ∧ (∀ y0 y1, LeO (bD k y0 y1) (bD (k + 1) y0 y1))
  | 0 => ⟨fun _ _ r h => by simp [d4] at h, fun _ _ r h => by simp [bD] at h⟩
  | k + 1 => by
    obtain ⟨ih0, ih1⟩ := ls k
    refine ⟨?_, ?_⟩
    · intro y0 y1
      unfold d4
      exact xmo
    · intro y0 y1
      unfold bD
      exact xmo
theorem ms : ∀ a0 k, LeO (g9 k a0) (g9 (k + 1) a0) := by
  intro a0 k
  obtain ⟨ih0, ih1⟩ := ls k
  unfold g9
  exact xmo
theorem lW (k : Nat) (a0 : Int) (r : Int) (w : World) (h : g9 k a0 = some r) :
    Calls Tryz.prog 91 #[.int .u8 a0] w fun e w' => e = .returned (.int .i64 r) ∧ Drawn0 w w' := by
 have H := h
 clear h
 unfold g9 at H
 have AI := Zz.mk H
 clear H
 go_enter Tryz.func91, Tryz.ntmps91
 go_upto_if 4 with (fail)
 go_cut [4] (fun v4 wc => ∃ kq Ac, v4 = .bool Ac ∧ Zz (d4 kq a0 Ac = some r) ∧ Zz (kq ≤ k) ∧ Drawn0 w wc)
 case first => (
 have H := AI.out
 clear AI
 refine xid H ?_ ?_ <;> clear H <;> intro c3 H
 {
 obtain ⟨Aa, AJ⟩ := xqe c3
 clear c3
 (first | rw [Aa] | (simp only [am, ao]; rw [Aa]) | skip)
 replace H := xa H
 go_wp2
 go_meet
 case rel => exact ⟨_, ((a0 == 45)), xrr, H, ⟨xom⟩, xdr⟩
 }
 obtain ⟨Aa, AJ⟩ := xqn c3
 (first | rw [Aa] | (simp only [am, ao]; rw [Aa]) | skip)
 refine xid H ?_ ?_ <;> clear H <;> intro c4 H
 {
 obtain ⟨AK, AL⟩ := xqe c4
 clear c4
 replace H := xa H
 go_wp2
 go_meet
 case rel => exact ⟨_, ((a0 == 46)), xrr, H, ⟨xom⟩, xdr⟩
 }
 obtain ⟨AK, AL⟩ := xqn c4
 refine xid H ?_ ?_ <;> clear H <;> intro c5 H
 {
 obtain ⟨AM, AN⟩ := xqe c5
 clear c5
 replace H := xa H
 go_wp2
 go_meet
 case rel => exact ⟨_, ((a0 == 95)), xrr, H, ⟨xom⟩, xdr⟩
 }
 obtain ⟨AM, AN⟩ := xqn c5
 replace H := xa H
 go_wp2
 go_meet
 case rel => exact ⟨_, ((a0 == 126)), xrr, H, ⟨xom⟩, xdr⟩
 )
 case rest => (
 clear AI
 obtain ⟨kq, Ac, rfl, HA, HJ1, ⟨mc1, rfl⟩⟩ := hcut
 cases kq with
 | zero => exact absurd HA.out (by simp [d4])
 | succ kj1 => (
 have H := HA.out
 clear HA
 simp only [d4] at H
 refine xib H ?_ ?_ <;> clear H <;> rintro rfl H
 {
 obtain rfl := Option.some.inj H
 go_wp2
 go_ret
 exact ⟨xrr, xdr⟩
 }
 have AO := Zz.mk H
 clear H
 go_upto_if 9 with (fail)
 go_cut [9] (fun v9 wc => ∃ kq Ad, v9 = .bool Ad ∧ Zz (bD kq a0 Ad = some r) ∧ Zz (kq ≤ kj1) ∧ Drawn0 w wc)
 case first => (
 have H := AO.out
 clear AO
 refine xid H ?_ ?_ <;> clear H <;> intro c8 H
 {
 obtain ⟨Ab, AP⟩ := xqe c8
 clear c8
 (first | rw [Ab] | (simp only [am, ao]; rw [Ab]) | skip)
 replace H := xa H
 go_wp2
 go_meet
 case rel => exact ⟨_, ((a0 == 33)), xrr, H, ⟨xoj HJ1⟩, xdr⟩
 }
 obtain ⟨Ab, AP⟩ := xqn c8
 (first | rw [Ab] | (simp only [am, ao]; rw [Ab]) | skip)
 refine xid H ?_ ?_ <;> clear H <;> intro c9 H
 {
 obtain ⟨AQ, AR⟩ := xqe c9
 clear c9
 replace H := xa H
 go_wp2
 go_meet
 case rel => exact ⟨_, ((a0 == 36)), xrr, H, ⟨xoj HJ1⟩, xdr⟩
 }
 obtain ⟨AQ, AR⟩ := xqn c9
 refine xid H ?_ ?_ <;> clear H <;> intro c10 H
 {
 obtain ⟨Ae, Af⟩ := xqe c10
 clear c10
 replace H := xa H
 go_wp2
 go_meet
 case rel => exact ⟨_, ((a0 == 38)), xrr, H, ⟨xoj HJ1⟩, xdr⟩
 }
 obtain ⟨Ae, Af⟩ := xqn c10
 refine xid H ?_ ?_ <;> clear H <;> intro c11 H
 {
 obtain ⟨Ag, Ah⟩ := xqe c11
 clear c11
 replace H := xa H
 go_wp2
 go_meet
 case rel => exact ⟨_, ((a0 == 39)), xrr, H, ⟨xoj HJ1⟩, xdr⟩
 }
 obtain ⟨Ag, Ah⟩ := xqn c11
 refine xid H ?_ ?_ <;> clear H <;> intro c12 H
 {
 obtain ⟨Ai, Aj⟩ := xqe c12
 clear c12
 replace H := xa H
 go_wp2
 go_meet
 case rel => exact ⟨_, ((a0 == 40)), xrr, H, ⟨xoj HJ1⟩, xdr⟩
 }
 obtain ⟨Ai, Aj⟩ := xqn c12
 refine xid H ?_ ?_ <;> clear H <;> intro c13 H
 {
 obtain ⟨Ak, Al⟩ := xqe c13
 clear c13
 replace H := xa H
 go_wp2
 go_meet
 case rel => exact ⟨_, ((a0 == 41)), xrr, H, ⟨xoj HJ1⟩, xdr⟩
 }
 obtain ⟨Ak, Al⟩ := xqn c13
 refine xid H ?_ ?_ <;> clear H <;> intro c14 H
 {
 obtain ⟨Am, An⟩ := xqe c14
 clear c14
 replace H := xa H
 go_wp2
 go_meet
 case rel => exact ⟨_, ((a0 == 42)), xrr, H, ⟨xoj HJ1⟩, xdr⟩
 }
 obtain ⟨Am, An⟩ := xqn c14
 refine xid H ?_ ?_ <;> clear H <;> intro c15 H
 {
 obtain ⟨Ao, Ap⟩ := xqe c15
 clear c15
 replace H := xa H
 go_wp2
 go_meet
 case rel => exact ⟨_, ((a0 == 43)), xrr, H, ⟨xoj HJ1⟩, xdr⟩
 }
 obtain ⟨Ao, Ap⟩ := xqn c15
 refine xid H ?_ ?_ <;> clear H <;> intro c16 H
 {
 obtain ⟨Aq, Ar⟩ := xqe c16
 clear c16
 replace H := xa H
 go_wp2
 go_meet
 case rel => exact ⟨_, ((a0 == 44)), xrr, H, ⟨xoj HJ1⟩, xdr⟩
 }
 obtain ⟨Aq, Ar⟩ := xqn c16
 refine xid H ?_ ?_ <;> clear H <;> intro c17 H
 {
 obtain ⟨As, At⟩ := xqe c17
 clear c17
 replace H := xa H
 go_wp2
 go_meet
 case rel => exact ⟨_, ((a0 == 59)), xrr, H, ⟨xoj HJ1⟩, xdr⟩
 }
 obtain ⟨As, At⟩ := xqn c17
 replace H := xa H
 go_wp2
 go_meet
 case rel => exact ⟨_, ((a0 == 61)), xrr, H, ⟨xoj HJ1⟩, xdr⟩
 )
 case rest => (
 clear AO
 obtain ⟨kq, Ad, rfl, HA, HJ6, ⟨mc6, rfl⟩⟩ := hcut
 cases kq with
 | zero => exact absurd HA.out (by simp [bD])
 | succ kj6 => (
 have H := HA.out
 clear HA
 simp only [bD] at H
 refine xib H ?_ ?_ <;> clear H <;> rintro rfl H
 {
 obtain rfl := Option.some.inj H
 go_wp2
 go_ret
 exact ⟨xrr, xdr⟩
 }
 refine xid H ?_ ?_ <;> clear H <;> intro c19 H
 {
 obtain ⟨Au, Av⟩ := xqe c19
 clear c19
 obtain rfl := Option.some.inj H
 go_wp2
 go_ret
 exact ⟨xrr, xdr⟩
 }
 obtain ⟨Au, Av⟩ := xqn c19
 refine xid H ?_ ?_ <;> clear H <;> intro c20 H
 {
 obtain ⟨Aw, Ax⟩ := xqe c20
 clear c20
 obtain rfl := Option.some.inj H
 go_wp2
 go_ret
 exact ⟨xrr, xdr⟩
 }
 obtain ⟨Aw, Ax⟩ := xqn c20
 refine xid H ?_ ?_ <;> clear H <;> intro c21 H
 {
 obtain ⟨Ay, Az⟩ := xqe c21
 clear c21
 obtain rfl := Option.some.inj H
 go_wp2
 go_ret
 exact ⟨xrr, xdr⟩
 }
 obtain ⟨Ay, Az⟩ := xqn c21
 refine xid H ?_ ?_ <;> clear H <;> intro c22 H
 {
 obtain ⟨AA, AB⟩ := xqe c22
 clear c22
 obtain rfl := Option.some.inj H
 go_wp2
 go_ret
 exact ⟨xrr, xdr⟩
 }
 obtain ⟨AA, AB⟩ := xqn c22
 refine xid H ?_ ?_ <;> clear H <;> intro c23 H
 {
 obtain ⟨AC, AD⟩ := xqe c23
 clear c23
 obtain rfl := Option.some.inj H
 go_wp2
 go_ret
 exact ⟨xrr, xdr⟩
 }
 obtain ⟨AC, AD⟩ := xqn c23
 refine xid H ?_ ?_ <;> clear H <;> intro c24 H
 {
 obtain ⟨AE, AF⟩ := xqe c24
 clear c24
 obtain rfl := Option.some.inj H
 go_wp2
 go_ret
 exact ⟨xrr, xdr⟩
 }
 obtain ⟨AE, AF⟩ := xqn c24
 refine xid H ?_ ?_ <;> clear H <;> intro c25 H
 {
 obtain ⟨AG, AH⟩ := xqe c25
 clear c25
 obtain rfl := Option.some.inj H
 go_wp2
 go_ret
 exact ⟨xrr, xdr⟩
 }
 obtain ⟨AG, AH⟩ := xqn c25
 obtain rfl := Option.some.inj H
 go_wp2
 go_ret
 exact ⟨xrr, xdr⟩
 )
 )
 )
 )
mutual
def eC : Nat → Int → Bool → Option (Int)
  | 0, _, _ => none
  | k + 1, x0, x3 => if x3 = true then (some 34) else (if x0 ≥ 97 then (eD k x0 (decide (x0 ≤ 102))) else (eD k x0 false))
def eD : Nat → Int → Bool → Option (Int)
  | 0, _, _ => none
  | k + 1, x0, x10 => if x10 = true then (ea k x0 x10) else (if x0 ≥ 65 then (ea k x0 (decide (x0 ≤ 70))) else (ea k x0 false))
def ea : Nat → Int → Bool → Option (Int)
  | 0, _, _ => none
  | k + 1, x0, x10 => if x10 = true then (some 33) else (if x0 ≥ 103 then (eF k x0 (decide (x0 ≤ 122))) else (eF k x0 false))
def eF : Nat → Int → Bool → Option (Int)
  | 0, _, _ => none
  | k + 1, x0, x23 => if x23 = true then (some 1) else (if x0 ≥ 71 then (if x0 ≤ 90 then (some 1) else ((g9 k x0).bind fun t108 => (some t108))) else ((g9 k x0).bind fun t109 => (some t109)))
end
def fN (k : Nat) (a0 : Int) : Option (Int) := if a0 ≥ 48 then (eC k a0 (decide (a0 ≤ 57))) else (eC k a0 false)
theorem kW : ∀ k, (∀ y0 y1, LeO (eC k y0 y1) (eC (k + 1) y0 y1)) ∧ (∀ y0 y1, LeO (eD k y0 y1) (eD (k + 1) y0 y1)) ∧ (∀ y0 y1, LeO (ea k y0 y1) (ea (k + 1) y0 y1)) ∧ (∀ y0 y1, LeO (eF k y0 y1) (eF (k + 1) y0 y1))
  | 0 => ⟨fun _ _ r h => by simp [eC] at h, fun _ _ r h => by simp [eD] at h, fun _ _ r h => by simp [ea] at h, fun _ _ r h => by simp [eF] at h⟩
  | k + 1 => by
    obtain ⟨ih0, ih1, ih2, ih3⟩ := kW k
    have m0 := @ms
    refine ⟨?_, ?_, ?_, ?_⟩
    · intro y0 y1
      unfold eC
      exact xmo
    · intro y0 y1
      unfold eD
      exact xmo
    · intro y0 y1
      unfold ea
      exact xmo
    · intro y0 y1
      unfold eF
      exact xmo
theorem lV : ∀ a0 k, LeO (fN k a0) (fN (k + 1) a0) := by
  intro a0 k
  obtain ⟨ih0, ih1, ih2, ih3⟩ := kW k
  have m0 := @ms
  unfold fN
  exact xmo
theorem oh (k : Nat) (a0 : Int) (r : Int) (w : World) (h : fN k a0 = some r) :
    Calls Tryz.prog 74 #[.int .u8 a0] w fun e w' => e = .returned (.int .i64 r) ∧ Drawn0 w w' := by
 have H := h
 clear h
 unfold fN at H
 have Al := Zz.mk H
 clear H
 go_enter Tryz.func74, Tryz.ntmps74
 go_upto_region 1 with (fail)
 go_cut [3] (fun v3 wc => ∃ kq Ah, v3 = .bool Ah ∧ Zz (eC kq a0 Ah = some r) ∧ Zz (kq ≤ k) ∧ Drawn0 w wc)
 case first => (
 have H := Al.out
 clear Al
 refine xid H ?_ ?_ <;> clear H <;> intro c3 H
 {
 have Ac := xdt c3
 clear c3
 (first | rw [Ac] | (simp only [am, ao]; rw [Ac]) | skip)
 replace H := xa H
 go_wp2
 go_meet
 case rel => exact ⟨_, (decide (a0 ≤ 57)), xrr, H, ⟨xom⟩, xdr⟩
 }
 have Ac := xdf c3
 clear c3
 (first | rw [Ac] | (simp only [am, ao]; rw [Ac]) | skip)
 replace H := xa H
 go_wp2
 go_meet
 case rel => exact ⟨_, (false), xrr, H, ⟨xom⟩, xdr⟩
 )
 case rest => (
 clear Al
 obtain ⟨kq, Ah, rfl, HA, HJ1, ⟨mc1, rfl⟩⟩ := hcut
 cases kq with
 | zero => exact absurd HA.out (by simp [eC])
 | succ kj1 => (
 have H := HA.out
 clear HA
 simp only [eC] at H
 refine xib H ?_ ?_ <;> clear H <;> rintro rfl H
 {
 obtain rfl := Option.some.inj H
 go_wp2
 go_ret
 exact ⟨xrr, xdr⟩
 }
 have Am := Zz.mk H
 clear H
 go_upto_region 3 with (fail)
 go_cut [10] (fun v10 wc => ∃ kq Ad, v10 = .bool Ad ∧ Zz (eD kq a0 Ad = some r) ∧ Zz (kq ≤ kj1) ∧ Drawn0 w wc)
 case first => (
 have H := Am.out
 clear Am
 refine xid H ?_ ?_ <;> clear H <;> intro c6 H
 {
 have Ae := xdt c6
 clear c6
 (first | rw [Ae] | (simp only [am, ao]; rw [Ae]) | skip)
 replace H := xa H
 go_wp2
 go_meet
 case rel => exact ⟨_, (decide (a0 ≤ 102)), xrr, H, ⟨xoj HJ1⟩, xdr⟩
 }
 have Ae := xdf c6
 clear c6
 (first | rw [Ae] | (simp only [am, ao]; rw [Ae]) | skip)
 replace H := xa H
 go_wp2
 go_meet
 case rel => exact ⟨_, (false), xrr, H, ⟨xoj HJ1⟩, xdr⟩
 )
 case rest => (
 clear Am
 obtain ⟨kq, Ad, rfl, HA, HJ4, ⟨mc4, rfl⟩⟩ := hcut
 cases kq with
 | zero => exact absurd HA.out (by simp [eD])
 | succ kj4 => (
 have H := HA.out
 clear HA
 simp only [eD] at H
 have An := Zz.mk H
 clear H
 go_upto_if 10 with (fail)
 go_cut [10] (fun v10 wc => ∃ kq Af, v10 = .bool Af ∧ Zz (ea kq a0 Af = some r) ∧ Zz (kq ≤ kj4) ∧ Drawn0 w wc)
 case first => (
 have H := An.out
 clear An
 refine xib H ?_ ?_ <;> clear H <;> rintro rfl H
 {
 replace H := xa H
 go_wp2
 go_meet
 case rel => exact ⟨_, (true), xrr, H, ⟨xoJ HJ1 HJ4⟩, xdr⟩
 }
 refine xid H ?_ ?_ <;> clear H <;> intro c9 H
 {
 have Ag := xdt c9
 clear c9
 (first | rw [Ag] | (simp only [am, ao]; rw [Ag]) | skip)
 replace H := xa H
 go_wp2
 go_meet
 case rel => exact ⟨_, (decide (a0 ≤ 70)), xrr, H, ⟨xoJ HJ1 HJ4⟩, xdr⟩
 }
 have Ag := xdf c9
 clear c9
 (first | rw [Ag] | (simp only [am, ao]; rw [Ag]) | skip)
 replace H := xa H
 go_wp2
 go_meet
 case rel => exact ⟨_, (false), xrr, H, ⟨xoJ HJ1 HJ4⟩, xdr⟩
 )
 case rest => (
 clear An
 obtain ⟨kq, Af, rfl, HA, HJ6, ⟨mc6, rfl⟩⟩ := hcut
 cases kq with
 | zero => exact absurd HA.out (by simp [ea])
 | succ kj6 => (
 have H := HA.out
 clear HA
 simp only [ea] at H
 refine xib H ?_ ?_ <;> clear H <;> rintro rfl H
 {
 obtain rfl := Option.some.inj H
 go_wp2
 go_ret
 exact ⟨xrr, xdr⟩
 }
 have Ai := Zz.mk H
 clear H
 go_upto_region 6 with (fail)
 go_cut [23] (fun v23 wc => ∃ kq Ab, v23 = .bool Ab ∧ Zz (eF kq a0 Ab = some r) ∧ Zz (kq ≤ kj6) ∧ Drawn0 w wc)
 case first => (
 have H := Ai.out
 clear Ai
 refine xid H ?_ ?_ <;> clear H <;> intro c12 H
 {
 have Aa := xdt c12
 clear c12
 (first | rw [Aa] | (simp only [am, ao]; rw [Aa]) | skip)
 replace H := xa H
 go_wp2
 go_meet
 case rel => exact ⟨_, (decide (a0 ≤ 122)), xrr, H, ⟨by have := HJ1.out; have := HJ4.out; have := HJ6.out; first | omega | exact Nat.le_refl _⟩, xdr⟩
 }
 have Aa := xdf c12
 clear c12
 (first | rw [Aa] | (simp only [am, ao]; rw [Aa]) | skip)
 replace H := xa H
 go_wp2
 go_meet
 case rel => exact ⟨_, (false), xrr, H, ⟨by have := HJ1.out; have := HJ4.out; have := HJ6.out; first | omega | exact Nat.le_refl _⟩, xdr⟩
 )
 case rest => (
 clear Ai
 obtain ⟨kq, Ab, rfl, HA, HJ10, ⟨mc10, rfl⟩⟩ := hcut
 cases kq with
 | zero => exact absurd HA.out (by simp [eF])
 | succ kj10 => (
 have H := HA.out
 clear HA
 simp only [eF] at H
 refine xib H ?_ ?_ <;> clear H <;> rintro rfl H
 {
 obtain rfl := Option.some.inj H
 go_wp2
 go_ret
 exact ⟨xrr, xdr⟩
 }
 refine xid H ?_ ?_ <;> clear H <;> intro c14 H
 {
 have Aj := xdt c14
 clear c14
 refine xid H ?_ ?_ <;> clear H <;> intro c15 H
 {
 have Ak := xdt c15
 clear c15
 obtain rfl := Option.some.inj H
 go_wp2
 go_ret
 exact ⟨xrr, xdr⟩
 }
 have Ak := xdf c15
 clear c15
 replace H := xbd H
 obtain ⟨Ao, A16, H⟩ := H
 try dsimp only at H
 obtain rfl := Option.some.inj H
 go_wp2_with (first | ((with_reducible refine xgc (f := 91) rfl ?_); refine xca 37 Tryz.func91 (lW (w := _) (h := A16.out)) ?_; rintro w' ⟨nd, rfl⟩))
 go_ret
 exact ⟨xrr, xdr⟩
 }
 have Aj := xdf c14
 clear c14
 replace H := xbd H
 obtain ⟨Ap, A17, H⟩ := H
 try dsimp only at H
 obtain rfl := Option.some.inj H
 go_wp2_with (first | ((with_reducible refine xgc (f := 91) rfl ?_); refine xca 37 Tryz.func91 (lW (w := _) (h := A17.out)) ?_; rintro w' ⟨nd, rfl⟩))
 go_ret
 exact ⟨xrr, xdr⟩
 )
 )
 )
 )
 )
 )
 )
 )
def fi (k : Nat) (a0 : Int) (a1 : Int) : Option (Bool) := (fN k a0).bind fun t110 => (some ((Go.bits .and .i64 t110 a1) != 0))
theorem fj : ∀ a0 a1 k, LeO (fi k a0 a1) (fi (k + 1) a0 a1) := by
  intro a0 a1 k
  have m0 := @lV
  unfold fi
  exact xmo
theorem cU (k : Nat) (a0 : Int) (a1 : Int) (r : Bool) (w : World) (h : fi k a0 a1 = some r) :
    Calls Tryz.prog 61 #[.int .u8 a0, .int .i64 a1] w fun e w' => e = .returned (.bool r) ∧ Drawn0 w w' := by
 have H := h
 clear h
 unfold fi at H
 replace H := xbd H
 obtain ⟨t110, A3, H⟩ := H
 try dsimp only at H
 obtain rfl := Option.some.inj H
 go_enter Tryz.func61, Tryz.ntmps61
 go_wp2_with (first | ((with_reducible refine xgc (f := 74) rfl ?_); refine xca 6 Tryz.func74 (oh (w := _) (h := A3.out)) ?_; rintro w' ⟨nd, rfl⟩))
 go_ret
 exact ⟨xrr, xdr⟩
mutual
def cX : Nat → ByteArray → Bool → Option (Bool)
  | 0, _, _ => none
  | k + 1, x0, x11 => if x11 = true then (some false) else (cf k x0 (x0.size : Int) 0)
def cf : Nat → ByteArray → Int → Int → Option (Bool)
  | 0, _, _, _ => none
  | k + 1, x0, Ab, Aa => if Aa < Ab then (if 0 ≤ Aa then (if Aa < (x0.size : Int) then ((fi k (bt x0 Aa) 3).bind fun Ac => (if Ac = true then (cf k x0 Ab (wrap64 (Aa + 1))) else (if Aa ≤ (wrap64 (Aa + 1)) then (if (wrap64 (Aa + 1)) ≤ (x0.size : Int) then ((df k (⟨#[43, 45, 46]⟩ : ByteArray) 0 (x0.extract (Aa : Int).toNat ((wrap64 (Aa + 1)) : Int).toNat)).bind fun Ad => (if Ad < 0 then (some false) else (cf k x0 Ab (wrap64 (Aa + 1))))) else (none)) else (none)))) else (none)) else (none)) else (some true)
end
def fq (k : Nat) (a0 : ByteArray) : Option (Bool) := if a0.toList = ([] : List UInt8) then (cX k a0 true) else (if 0 < (a0.size : Int) then ((fi k (bt a0 0) 1).bind fun t111 => (cX k a0 (!t111))) else (none))
theorem kz : ∀ k, (∀ y0 y1, LeO (cX k y0 y1) (cX (k + 1) y0 y1)) ∧ (∀ y0 y1 y2, LeO (cf k y0 y1 y2) (cf (k + 1) y0 y1 y2))
  | 0 => ⟨fun _ _ r h => by simp [cX] at h, fun _ _ _ r h => by simp [cf] at h⟩
  | k + 1 => by
    obtain ⟨ih0, ih1⟩ := kz k
    have m0 := @il; have m1 := @fj
    refine ⟨?_, ?_⟩
    · intro y0 y1
      unfold cX
      exact xmo
    · intro y0 y1 y2
      unfold cf
      exact xmo
theorem og : ∀ a0 k, LeO (fq k a0) (fq (k + 1) a0) := by
  intro a0 k
  obtain ⟨ih0, ih1⟩ := kz k
  have m0 := @il; have m1 := @fj
  unfold fq
  exact xmo
theorem kV (k : Nat) (a0 : ByteArray) (r : Bool) (w : World) (h : fq k a0 = some r) :
    Calls Tryz.prog 46 #[.string a0] w fun e w' => e = .returned (.bool r) ∧ Below w.heap.size w w' := by
 have HB := Zz.mk (Below.refl w.heap.size w)
 have H := h
 clear h
 unfold fq at H
 have Aj := Zz.mk H
 clear H
 go_enter Tryz.func46, Tryz.ntmps46
 go_upto_region 1 with (fail)
 go_cut [11] (fun v11 wc => ∃ kq Ad, v11 = .bool Ad ∧ Zz (cX kq a0 Ad = some r) ∧ Zz (kq ≤ k) ∧ Zz (Below w.heap.size w wc))
 case first => (
 have H := Aj.out
 clear Aj
 refine xid H ?_ ?_ <;> clear H <;> intro c3 H
 {
 obtain ⟨Ae, Ak⟩ := xqe c3
 (try (have Af : a0.toList.isEmpty = true := by simpa using c3))
 clear c3
 (first | rw [Ae] | (simp only [am, ao]; rw [Ae]) | (rw [Af]; (try simp only [Bool.not_false, Bool.not_true])) | skip)
 replace H := xa H
 go_wp2
 go_meet
 case rel => exact ⟨_, (true), xrr, H, ⟨xom⟩, ⟨xbl⟩⟩
 }
 obtain ⟨Ae, Ak⟩ := xqn c3
 (try (have Af : a0.toList.isEmpty = false := by simpa using c3))
 (first | rw [Ae] | (simp only [am, ao]; rw [Ae]) | (rw [Af]; (try simp only [Bool.not_false, Bool.not_true])) | skip)
 refine xin H ?_; clear H; intro c4 H
 have Au := xdt c4
 have Av : decide (0 < a0.size) = true := decide_eq_true (by omega)
 clear c4
 replace H := xbd H
 obtain ⟨Al, A6, H⟩ := H
 try dsimp only at H
 replace H := xa H
 obtain ⟨q5, AA, hx5⟩ := xi0 a0 xod
 go_wp2_with (first | (go_at_call 61; (with_reducible refine (cU (w := _) (h := A6.out)).mono ?_); rintro e w' ⟨rfl, ⟨nd, rfl⟩⟩))
 go_meet
 case rel => exact ⟨_, (!Al), xrr, H, ⟨xom⟩, ⟨xbl⟩⟩
 )
 case rest => (
 clear Aj
 obtain ⟨kq, Ad, rfl, HA, HJ1, HB⟩ := hcut
 cases kq with
 | zero => exact absurd HA.out (by simp [cX])
 | succ kj1 => (
 have H := HA.out
 clear HA
 simp only [cX] at H
 refine xib H ?_ ?_ <;> clear H <;> rintro rfl H
 {
 obtain rfl := Option.some.inj H
 go_wp2
 go_ret
 exact ⟨xre, xbl⟩
 }
 have H' := Zz.mk H
 clear H
 go_wp2
 go_loopg [14] kj1 (fun kq v14 w' => ∃ Aa, v14 = .int .i64 Aa ∧ Zz (cf kq a0 (a0.size : Int) Aa = some r) ∧ Zz (kq ≤ kj1) ∧ Zz (Below w.heap.size w w'))
 case atStart => exact ⟨(0), xrr, H', ⟨Nat.le_refl _⟩, ⟨xbl⟩⟩
 case round => (
 clear H'
 obtain ⟨Aa, rfl, HA, HK2, HB⟩ := hrel
 cases gk with
 | zero => exact absurd HA.out (by simp [cf])
 | succ k2 => (
 have H := HA.out
 clear HA
 simp only [cf] at H
 refine xid H ?_ ?_ <;> clear H <;> intro c8 H
 {
 have Am := xdt c8
 clear c8
 refine xin H ?_; clear H; intro c9 H
 have Aw := xdt c9
 clear c9
 refine xin H ?_; clear H; intro c10 H
 have Ao := xdt c10
 clear c10
 replace H := xbd H
 obtain ⟨Ax, A12, H⟩ := H
 try dsimp only at H
 refine xib H ?_ ?_ <;> clear H <;> rintro rfl H
 {
 replace H := xa H
 obtain ⟨p11, q11, hx11⟩ := xiv a0 Aa xod xod
 go_wp2_with (first | ((with_reducible refine xgc (f := 61) rfl ?_); refine xca 20 Tryz.func61 (cU (w := _) (h := A12.out)) ?_; rintro w' ⟨nd, rfl⟩))
 go_roundg k2
 case measure => have := HJ1.out; have := HK2.out; omega
 case rel => exact ⟨(wrap64 (Aa + 1)), xrr, H, ⟨by have := HJ1.out; have := HK2.out; omega⟩, ⟨xbl⟩⟩
 }
 have Ap := eq_true (xod : 0 ≤ Aa)
 obtain ⟨Ag, Ab⟩ : ∃ j_ : Int, (wrap64 (Aa + 1)) = j_ := ⟨_, rfl⟩
 first | rw [Ab] at H | simp only [Ab] at H | skip
 (try rw [Ab] at A12)
 have An : (IntKind.i64.wrap (Aa + 1)) = Ag := (am _).trans Ab
 refine xin H ?_; clear H; intro c16 H
 obtain ⟨Aq, Ar⟩ := xcp c16
 clear c16
 refine xin H ?_; clear H; intro c17 H
 obtain ⟨As, At⟩ := xcp c17
 clear c17
 obtain ⟨Ay, Ac⟩ : ∃ j_ : ByteArray, (a0.extract (Aa : Int).toNat ((Ag) : Int).toNat) = j_ := ⟨_, rfl⟩
 try (have Ah := Ac; simp only [Int.toNat_natCast] at Ah)
 first | rw [Ac] at H | simp only [Ac] at H | skip
 (try rw [Ac] at A12)
 replace H := xbd H
 obtain ⟨Az, A19, H⟩ := H
 try dsimp only at H
 refine xid H ?_ ?_ <;> clear H <;> intro c20 H
 {
 have Ai := xdt c20
 clear c20
 obtain rfl := Option.some.inj H
 obtain ⟨p11, q11, hx11⟩ := xiv a0 Aa xod xod
 go_wp2_with (first | ((with_reducible refine xgc (f := 61) rfl ?_); refine xca 20 Tryz.func61 (cU (w := _) (h := A12.out)) ?_; rintro w' ⟨nd, rfl⟩) | (go_at_call 45; (with_reducible refine (dS (w := _) (h := A19.out)).mono ?_); rintro e w21 ⟨rfl, hb⟩; replace HB := xst hb; (try clear hb)))
 go_ret
 exact ⟨by first | exact xrd | (simp only [← Ab, ← Ac]; exact xrd) | exact xre, xbl⟩
 }
 have Ai := xdf c20
 clear c20
 replace H := xa H
 obtain ⟨p11, q11, hx11⟩ := xiv a0 Aa xod xod
 go_wp2_with (first | ((with_reducible refine xgc (f := 61) rfl ?_); refine xca 20 Tryz.func61 (cU (w := _) (h := A12.out)) ?_; rintro w' ⟨nd, rfl⟩) | (go_at_call 45; (with_reducible refine (dS (w := _) (h := A19.out)).mono ?_); rintro e w22 ⟨rfl, hb⟩; replace HB := xst hb; (try clear hb)))
 first | go_roundg k2 | (simp only [← Ab, ← Ac]; go_roundg k2)
 case measure => have := HJ1.out; have := HK2.out; omega
 case rel => exact ⟨(Ag), (by first | exact xrs | (simp only [← Ab] <;> (first | rfl | simp)) | exact xrr), H, ⟨by have := HJ1.out; have := HK2.out; omega⟩, ⟨xbl⟩⟩
 }
 have Am := xdf c8
 clear c8
 obtain rfl := Option.some.inj H
 go_wp2
 go_ret
 exact ⟨xre, xbl⟩
 )
 )
 )
 )
 
 
def IsS53 (w0 W : World) (g : Nat) (f0 : ByteArray) (f1 : Int) (f2 : Bool) (f3 : ByteArray) (f4 : Bool) (f5 : ByteArray) (f6 : ByteArray) (f7 : Bool) (f8 : ByteArray) (f9 : Bool) (f10 : ByteArray) : Prop := W.heap[g]? = some (.cells #[.string f0, .int .i64 f1, .bool f2, .string f3, .bool f4, .string f5, .string f6, .bool f7, .string f8, .bool f9, .string f10] 53 (0, 0)) ∧ w0.heap.size ≤ g
theorem IsS53.grown {w0 W : World} {g : Nat} {f0 : ByteArray} {f1 : Int} {f2 : Bool} {f3 : ByteArray} {f4 : Bool} {f5 : ByteArray} {f6 : ByteArray} {f7 : Bool} {f8 : ByteArray} {f9 : Bool} {f10 : ByteArray} {W1 : World} {row : Option Nat} (h : IsS53 w0 W g f0 f1 f2 f3 f4 f5 f6 f7 f8 f9 f10) (hw : W.grownBy W1 row) (hne : some g ≠ row) : IsS53 w0 W1 g f0 f1 f2 f3 f4 f5 f6 f7 f8 f9 f10 := by
  obtain ⟨hb, hg⟩ := h
  exact ⟨jm hb hw hne, hg⟩
theorem IsS53.kept {w0 W : World} {g : Nat} {f0 : ByteArray} {f1 : Int} {f2 : Bool} {f3 : ByteArray} {f4 : Bool} {f5 : ByteArray} {f6 : ByteArray} {f7 : Bool} {f8 : ByteArray} {f9 : Bool} {f10 : ByteArray} {W1 : World} {S : Nat → Prop} (h : IsS53 w0 W g f0 f1 f2 f3 f4 f5 f6 f7 f8 f9 f10) (hk : Kept W W1 S) (hne : ¬ S g) : IsS53 w0 W1 g f0 f1 f2 f3 f4 f5 f6 f7 f8 f9 f10 := by
  obtain ⟨hb, hg⟩ := h
  exact ⟨wb hb hk hne, hg⟩
theorem IsS53.below {w0 W : World} {g : Nat} {f0 : ByteArray} {f1 : Int} {f2 : Bool} {f3 : ByteArray} {f4 : Bool} {f5 : ByteArray} {f6 : ByteArray} {f7 : Bool} {f8 : ByteArray} {f9 : Bool} {f10 : ByteArray} {W1 : World} (h : IsS53 w0 W g f0 f1 f2 f3 f4 f5 f6 f7 f8 f9 f10) (hw : Below W.heap.size W W1) : IsS53 w0 W1 g f0 f1 f2 f3 f4 f5 f6 f7 f8 f9 f10 := h.grown (mL hw none) (by simp)
theorem IsS53.alloc {w0 W : World} {g : Nat} {f0 : ByteArray} {f1 : Int} {f2 : Bool} {f3 : ByteArray} {f4 : Bool} {f5 : ByteArray} {f6 : ByteArray} {f7 : Bool} {f8 : ByteArray} {f9 : Bool} {f10 : ByteArray} (h : IsS53 w0 W g f0 f1 f2 f3 f4 f5 f6 f7 f8 f9 f10) (o : Obj) : IsS53 w0 (W.alloc o) g f0 f1 f2 f3 f4 f5 f6 f7 f8 f9 f10 := h.below (d5 (Below.refl _ _) o)
theorem IsS53.drewN {w0 W : World} {g : Nat} {f0 : ByteArray} {f1 : Int} {f2 : Bool} {f3 : ByteArray} {f4 : Bool} {f5 : ByteArray} {f6 : ByteArray} {f7 : Bool} {f8 : ByteArray} {f9 : Bool} {f10 : ByteArray} (h : IsS53 w0 W g f0 f1 f2 f3 f4 f5 f6 f7 f8 f9 f10) (m : Nat) : IsS53 w0 (W.drewN m) g f0 f1 f2 f3 f4 f5 f6 f7 f8 f9 f10 := h
theorem IsS53.drew {w0 W : World} {g : Nat} {f0 : ByteArray} {f1 : Int} {f2 : Bool} {f3 : ByteArray} {f4 : Bool} {f5 : ByteArray} {f6 : ByteArray} {f7 : Bool} {f8 : ByteArray} {f9 : Bool} {f10 : ByteArray} (h : IsS53 w0 W g f0 f1 f2 f3 f4 f5 f6 f7 f8 f9 f10) : IsS53 w0 W.drew g f0 f1 f2 f3 f4 f5 f6 f7 f8 f9 f10 := h
theorem IsS53.at_ {w0 W : World} {g : Nat} {f0 : ByteArray} {f1 : Int} {f2 : Bool} {f3 : ByteArray} {f4 : Bool} {f5 : ByteArray} {f6 : ByteArray} {f7 : Bool} {f8 : ByteArray} {f9 : Bool} {f10 : ByteArray} {w' : World} {m : Nat} (hq : W.drewN m = w') (h : IsS53 w0 W g f0 f1 f2 f3 f4 f5 f6 f7 f8 f9 f10) : IsS53 w0 w' g f0 f1 f2 f3 f4 f5 f6 f7 f8 f9 f10 := by subst hq; exact IsS53.drewN h m
theorem IsS53.apart {w0 W : World} {g : Nat} {f0 : ByteArray} {f1 : Int} {f2 : Bool} {f3 : ByteArray} {f4 : Bool} {f5 : ByteArray} {f6 : ByteArray} {f7 : Bool} {f8 : ByteArray} {f9 : Bool} {f10 : ByteArray} {α : Type} {d : Kd α} {e : Nat} {base : Nat} {ok : Nat → Prop} {v : Value} {xs : List α} (h : IsS53 w0 W g f0 f1 f2 f3 f4 f5 f6 f7 f8 f9 f10) (ho : d.R e W base ok v xs) (ht : ∀ q, q ∈ e :: d.E → q ≠ 53) : d.R e W base (fun k => ok k ∧ k ≠ g) v xs := by
  obtain ⟨hb, hg⟩ := h
  exact Kd.R_types ho hb ht
theorem IsS53.own_ne {w0 W : World} {g : Nat} {f0 : ByteArray} {f1 : Int} {f2 : Bool} {f3 : ByteArray} {f4 : Bool} {f5 : ByteArray} {f6 : ByteArray} {f7 : Bool} {f8 : ByteArray} {f9 : Bool} {f10 : ByteArray} {α : Type} {d : Kd α} {e : Nat} {base : Nat} {ok : Nat → Prop} {v : Value} {xs : List α} (h : IsS53 w0 W g f0 f1 f2 f3 f4 f5 f6 f7 f8 f9 f10) (ho : d.R e W base ok v xs) (ht : e ≠ 53) : some g ≠ v.ownBlock := by
  obtain ⟨hb, hg⟩ := h
  exact Kd.R_ne ho hb ht
theorem IsS53.lt {w0 W : World} {g : Nat} {f0 : ByteArray} {f1 : Int} {f2 : Bool} {f3 : ByteArray} {f4 : Bool} {f5 : ByteArray} {f6 : ByteArray} {f7 : Bool} {f8 : ByteArray} {f9 : Bool} {f10 : ByteArray} (h : IsS53 w0 W g f0 f1 f2 f3 f4 f5 f6 f7 f8 f9 f10) : g < W.heap.size := by
  obtain ⟨hb, hg⟩ := h
  exact kg hb
theorem IsS53.ge {w0 W : World} {g : Nat} {f0 : ByteArray} {f1 : Int} {f2 : Bool} {f3 : ByteArray} {f4 : Bool} {f5 : ByteArray} {f6 : ByteArray} {f7 : Bool} {f8 : ByteArray} {f9 : Bool} {f10 : ByteArray} (h : IsS53 w0 W g f0 f1 f2 f3 f4 f5 f6 f7 f8 f9 f10) : w0.heap.size ≤ g := by
  obtain ⟨hb, hg⟩ := h
  exact hg
theorem IsS53.far {w0 W : World} {g : Nat} {f0 : ByteArray} {f1 : Int} {f2 : Bool} {f3 : ByteArray} {f4 : Bool} {f5 : ByteArray} {f6 : ByteArray} {f7 : Bool} {f8 : ByteArray} {f9 : Bool} {f10 : ByteArray} {p : Addr} (h : IsS53 w0 W g f0 f1 f2 f3 f4 f5 f6 f7 f8 f9 f10) (hne : g ≠ p.block) (u : Value) : IsS53 w0 (W.setCell p u) g f0 f1 f2 f3 f4 f5 f6 f7 f8 f9 f10 := by
  obtain ⟨hb, hg⟩ := h
  exact ⟨i2 hb hne u, hg⟩
theorem IsS53.set_0 {w0 W : World} {g : Nat} {f0 : ByteArray} {f1 : Int} {f2 : Bool} {f3 : ByteArray} {f4 : Bool} {f5 : ByteArray} {f6 : ByteArray} {f7 : Bool} {f8 : ByteArray} {f9 : Bool} {f10 : ByteArray} (h : IsS53 w0 W g f0 f1 f2 f3 f4 f5 f6 f7 f8 f9 f10) (x : ByteArray) : IsS53 w0 (W.setCell ⟨g, 0, none⟩ (.string x)) g x f1 f2 f3 f4 f5 f6 f7 f8 f9 f10 := by
  obtain ⟨hb, hg⟩ := h
  exact ⟨by simpa using fW hb 0 (.string x), hg⟩
theorem IsS53.set_1 {w0 W : World} {g : Nat} {f0 : ByteArray} {f1 : Int} {f2 : Bool} {f3 : ByteArray} {f4 : Bool} {f5 : ByteArray} {f6 : ByteArray} {f7 : Bool} {f8 : ByteArray} {f9 : Bool} {f10 : ByteArray} (h : IsS53 w0 W g f0 f1 f2 f3 f4 f5 f6 f7 f8 f9 f10) (x : Int) : IsS53 w0 (W.setCell ⟨g, 1, none⟩ (.int .i64 x)) g f0 x f2 f3 f4 f5 f6 f7 f8 f9 f10 := by
  obtain ⟨hb, hg⟩ := h
  exact ⟨by simpa using fW hb 1 (.int .i64 x), hg⟩
theorem IsS53.set_2 {w0 W : World} {g : Nat} {f0 : ByteArray} {f1 : Int} {f2 : Bool} {f3 : ByteArray} {f4 : Bool} {f5 : ByteArray} {f6 : ByteArray} {f7 : Bool} {f8 : ByteArray} {f9 : Bool} {f10 : ByteArray} (h : IsS53 w0 W g f0 f1 f2 f3 f4 f5 f6 f7 f8 f9 f10) (x : Bool) : IsS53 w0 (W.setCell ⟨g, 2, none⟩ (.bool x)) g f0 f1 x f3 f4 f5 f6 f7 f8 f9 f10 := by
  obtain ⟨hb, hg⟩ := h
  exact ⟨by simpa using fW hb 2 (.bool x), hg⟩
theorem IsS53.set_3 {w0 W : World} {g : Nat} {f0 : ByteArray} {f1 : Int} {f2 : Bool} {f3 : ByteArray} {f4 : Bool} {f5 : ByteArray} {f6 : ByteArray} {f7 : Bool} {f8 : ByteArray} {f9 : Bool} {f10 : ByteArray} (h : IsS53 w0 W g f0 f1 f2 f3 f4 f5 f6 f7 f8 f9 f10) (x : ByteArray) : IsS53 w0 (W.setCell ⟨g, 3, none⟩ (.string x)) g f0 f1 f2 x f4 f5 f6 f7 f8 f9 f10 := by
  obtain ⟨hb, hg⟩ := h
  exact ⟨by simpa using fW hb 3 (.string x), hg⟩
theorem IsS53.set_4 {w0 W : World} {g : Nat} {f0 : ByteArray} {f1 : Int} {f2 : Bool} {f3 : ByteArray} {f4 : Bool} {f5 : ByteArray} {f6 : ByteArray} {f7 : Bool} {f8 : ByteArray} {f9 : Bool} {f10 : ByteArray} (h : IsS53 w0 W g f0 f1 f2 f3 f4 f5 f6 f7 f8 f9 f10) (x : Bool) : IsS53 w0 (W.setCell ⟨g, 4, none⟩ (.bool x)) g f0 f1 f2 f3 x f5 f6 f7 f8 f9 f10 := by
  obtain ⟨hb, hg⟩ := h
  exact ⟨by simpa using fW hb 4 (.bool x), hg⟩
theorem IsS53.set_5 {w0 W : World} {g : Nat} {f0 : ByteArray} {f1 : Int} {f2 : Bool} {f3 : ByteArray} {f4 : Bool} {f5 : ByteArray} {f6 : ByteArray} {f7 : Bool} {f8 : ByteArray} {f9 : Bool} {f10 : ByteArray} (h : IsS53 w0 W g f0 f1 f2 f3 f4 f5 f6 f7 f8 f9 f10) (x : ByteArray) : IsS53 w0 (W.setCell ⟨g, 5, none⟩ (.string x)) g f0 f1 f2 f3 f4 x f6 f7 f8 f9 f10 := by
  obtain ⟨hb, hg⟩ := h
  exact ⟨by simpa using fW hb 5 (.string x), hg⟩
theorem IsS53.set_6 {w0 W : World} {g : Nat} {f0 : ByteArray} {f1 : Int} {f2 : Bool} {f3 : ByteArray} {f4 : Bool} {f5 : ByteArray} {f6 : ByteArray} {f7 : Bool} {f8 : ByteArray} {f9 : Bool} {f10 : ByteArray} (h : IsS53 w0 W g f0 f1 f2 f3 f4 f5 f6 f7 f8 f9 f10) (x : ByteArray) : IsS53 w0 (W.setCell ⟨g, 6, none⟩ (.string x)) g f0 f1 f2 f3 f4 f5 x f7 f8 f9 f10 := by
  obtain ⟨hb, hg⟩ := h
  exact ⟨by simpa using fW hb 6 (.string x), hg⟩
theorem IsS53.set_7 {w0 W : World} {g : Nat} {f0 : ByteArray} {f1 : Int} {f2 : Bool} {f3 : ByteArray} {f4 : Bool} {f5 : ByteArray} {f6 : ByteArray} {f7 : Bool} {f8 : ByteArray} {f9 : Bool} {f10 : ByteArray} (h : IsS53 w0 W g f0 f1 f2 f3 f4 f5 f6 f7 f8 f9 f10) (x : Bool) : IsS53 w0 (W.setCell ⟨g, 7, none⟩ (.bool x)) g f0 f1 f2 f3 f4 f5 f6 x f8 f9 f10 := by
  obtain ⟨hb, hg⟩ := h
  exact ⟨by simpa using fW hb 7 (.bool x), hg⟩
theorem IsS53.set_8 {w0 W : World} {g : Nat} {f0 : ByteArray} {f1 : Int} {f2 : Bool} {f3 : ByteArray} {f4 : Bool} {f5 : ByteArray} {f6 : ByteArray} {f7 : Bool} {f8 : ByteArray} {f9 : Bool} {f10 : ByteArray} (h : IsS53 w0 W g f0 f1 f2 f3 f4 f5 f6 f7 f8 f9 f10) (x : ByteArray) : IsS53 w0 (W.setCell ⟨g, 8, none⟩ (.string x)) g f0 f1 f2 f3 f4 f5 f6 f7 x f9 f10 := by
  obtain ⟨hb, hg⟩ := h
  exact ⟨by simpa using fW hb 8 (.string x), hg⟩
theorem IsS53.set_9 {w0 W : World} {g : Nat} {f0 : ByteArray} {f1 : Int} {f2 : Bool} {f3 : ByteArray} {f4 : Bool} {f5 : ByteArray} {f6 : ByteArray} {f7 : Bool} {f8 : ByteArray} {f9 : Bool} {f10 : ByteArray} (h : IsS53 w0 W g f0 f1 f2 f3 f4 f5 f6 f7 f8 f9 f10) (x : Bool) : IsS53 w0 (W.setCell ⟨g, 9, none⟩ (.bool x)) g f0 f1 f2 f3 f4 f5 f6 f7 f8 x f10 := by
  obtain ⟨hb, hg⟩ := h
  exact ⟨by simpa using fW hb 9 (.bool x), hg⟩
theorem IsS53.set_10 {w0 W : World} {g : Nat} {f0 : ByteArray} {f1 : Int} {f2 : Bool} {f3 : ByteArray} {f4 : Bool} {f5 : ByteArray} {f6 : ByteArray} {f7 : Bool} {f8 : ByteArray} {f9 : Bool} {f10 : ByteArray} (h : IsS53 w0 W g f0 f1 f2 f3 f4 f5 f6 f7 f8 f9 f10) (x : ByteArray) : IsS53 w0 (W.setCell ⟨g, 10, none⟩ (.string x)) g f0 f1 f2 f3 f4 f5 f6 f7 f8 f9 x := by
  obtain ⟨hb, hg⟩ := h
  exact ⟨by simpa using fW hb 10 (.string x), hg⟩
theorem iF {p : Prop} (h : p := by first | (with_reducible exact hG) | exact fZ hG (by repeat (first | (with_reducible first | exact HB.out | apply d5 | apply fv | apply aM | refine ie ?_ (IsS53.ge (Zz.out (by assumption))) | refine ie ?_ (Zz.out (by assumption))) | exact HB.out))) : p := h
theorem ay {p : Prop} (h : p := by repeat (first | (with_reducible first | exact Zz.out (by assumption) | apply IsS53.alloc | apply IsS53.drewN | apply IsS53.drew | apply IsS53.set_0 | apply IsS53.set_1 | apply IsS53.set_2 | apply IsS53.set_3 | apply IsS53.set_4 | apply IsS53.set_5 | apply IsS53.set_6 | apply IsS53.set_7 | apply IsS53.set_8 | apply IsS53.set_9 | apply IsS53.set_10 | refine IsS53.far ?_ (Zz.out (by assumption)) _) | exact HI0.out)) : p := h
theorem av {p : Prop} (h : p := by repeat (first | (with_reducible first | exact HB.out | apply d5 | apply fv | apply aM | refine ie ?_ (IsS53.ge (Zz.out (by assumption))) | refine ie ?_ (Zz.out (by assumption))) | exact HB.out)) : p := h
def cw (k : Nat) (Aa : ByteArray) (Ak : Int) (Ad : Bool) (Al : ByteArray) (Ae : Bool) (Af : ByteArray) (Ag : ByteArray) (Ah : Bool) (Ai : ByteArray) (Aj : Bool) (Ac : ByteArray) : Option (Bool × ByteArray × Int × Bool × ByteArray × Bool × ByteArray × ByteArray × Bool × ByteArray × Bool × ByteArray) := (df k Aa 0 (⟨#[58, 47, 63, 35]⟩ : ByteArray)).bind fun Ab => (if Ab < 0 then (some (false, Aa, Ak, Ad, Al, Ae, Af, Ag, Ah, Ai, Aj, Ac)) else (if 0 ≤ Ab then (if Ab < (Aa.size : Int) then (if (bt Aa Ab) = 58 then (if Ab ≤ (Aa.size : Int) then ((fq k (Aa.extract 0 (Ab : Int).toNat)).bind fun Am => (if Am = true then (some (true, Aa, wrap64 (Ab + 1), Ad, Aa.extract 0 (Ab : Int).toNat, Ae, Af, Ag, Ah, Ai, Aj, Ac)) else (some (false, Aa, Ak, Ad, Al, Ae, Af, Ag, Ah, Ai, Aj, Ac)))) else (none)) else (some (false, Aa, Ak, Ad, Al, Ae, Af, Ag, Ah, Ai, Aj, Ac))) else (none)) else (none)))
theorem me : ∀ a0 a1 a2 a3 a4 a5 a6 a7 a8 a9 a10 k, LeO (cw k a0 a1 a2 a3 a4 a5 a6 a7 a8 a9 a10) (cw (k + 1) a0 a1 a2 a3 a4 a5 a6 a7 a8 a9 a10) := by
  intro a0 a1 a2 a3 a4 a5 a6 a7 a8 a9 a10 k
  have m0 := @og; have m1 := @il
  unfold cw
  exact xmo
theorem aJ (k : Nat) (g : Nat) (Ab : ByteArray) (Af : Int) (Ag : Bool) (Ah : ByteArray) (Ai : Bool) (Aj : ByteArray) (Ak : ByteArray) (Al : Bool) (Am : ByteArray) (An : Bool) (Ad : ByteArray) (r1 : Bool) (r2 : ByteArray) (r3 : Int) (r4 : Bool) (r5 : ByteArray) (r6 : Bool) (r7 : ByteArray) (r8 : ByteArray) (r9 : Bool) (r10 : ByteArray) (r11 : Bool) (r12 : ByteArray) (w0 w : World) (hI : IsS53 w0 w g Ab Af Ag Ah Ai Aj Ak Al Am An Ad) (hB : Below w0.heap.size w0 w) (h : cw k Ab Af Ag Ah Ai Aj Ak Al Am An Ad = some (r1, r2, r3, r4, r5, r6, r7, r8, r9, r10, r11, r12)) :
    Calls Tryz.prog 28 #[.pointer (some ⟨g, 0, none⟩)] w fun e w' => e = .returned (.bool r1) ∧ IsS53 w0 w' g r2 r3 r4 r5 r6 r7 r8 r9 r10 r11 r12 ∧ Below w0.heap.size w0 w' ∧ KeepBut w w' g none := by
 have HI0 := Zz.mk hI
 have HK := Zz.mk (KeepBut.refl w g none)
 have HL := Zz.mk hB.size
 clear hI
 have HW0 := Zz.mk hB.size
 have HB := Zz.mk hB
 clear hB
 have H := h
 clear h
 unfold cw at H
 replace H := xbd H
 obtain ⟨Ac, A2, H⟩ := H
 try dsimp only at H
 refine xid H ?_ ?_ <;> clear H <;> intro c3 H
 {
 have Ao := xdt c3
 clear c3
 simp only [Option.some.injEq, Prod.mk.injEq] at H
 obtain ⟨rfl, rfl, rfl, rfl, rfl, rfl, rfl, rfl, rfl, rfl, rfl, rfl⟩ := H
 have AH := eN HI0.out.1
 go_enter Tryz.func28, Tryz.ntmps28
 go_wp2_with (first | ((with_reducible refine xgc (f := 45) rfl ?_); refine xca 8 Tryz.func45 (dS (w := _) (h := A2.out)) ?_; rintro w5 hb; replace HK := Zz.mk (KeepBut.trans xk (KeepBut.of_below hb g none) (.inl rfl)); replace HB := Zz.mk (cJ av hb); replace HI0 := Zz.mk (IsS53.below ay hb); (try clear hb)))
 go_ret
 exact ⟨xre, ay, av, xk⟩
 }
 have Ao := xdf c3
 clear c3
 refine xin H ?_; clear H; intro c6 H
 have Aw := xdt c6
 clear c6
 refine xin H ?_; clear H; intro c7 H
 have Ax := xdt c7
 clear c7
 refine xid H ?_ ?_ <;> clear H <;> intro c9 H
 {
 obtain ⟨Ap, Aq⟩ := xqe c9
 clear c9
 have Ar := eq_true (xod : 0 ≤ Ac)
 refine xin H ?_; clear H; intro c11 H
 obtain ⟨As, At⟩ := xcp c11
 clear c11
 obtain ⟨Ay, Aa⟩ : ∃ j_ : ByteArray, (Ab.extract 0 (Ac : Int).toNat) = j_ := ⟨_, rfl⟩
 try (have Ae := Aa; simp only [Int.toNat_natCast] at Ae)
 first | rw [Aa] at H | simp only [Aa] at H | skip
 (try rw [Aa] at A2)
 replace H := xbd H
 obtain ⟨Az, A13, H⟩ := H
 try dsimp only at H
 refine xib H ?_ ?_ <;> clear H <;> rintro rfl H
 {
 have Au := eq_true (xod : 0 ≤ Ac)
 have Av := eq_true (xod : Ac ≤ (Ab.size : Int))
 first | rw [Aa] at H | simp only [Aa] at H | skip
 (try rw [Aa] at A2)
 (try rw [Aa] at A13)
 simp only [Option.some.injEq, Prod.mk.injEq] at H
 obtain ⟨rfl, rfl, rfl, rfl, rfl, rfl, rfl, rfl, rfl, rfl, rfl, rfl⟩ := H
 have AA := eN HI0.out.1
 go_enter Tryz.func28, Tryz.ntmps28
 go_wp2_with (first | ((with_reducible refine xgc (f := 45) rfl ?_); refine xca 8 Tryz.func45 (dS (w := _) (h := A2.out)) ?_; rintro w18 hb; replace HK := Zz.mk (KeepBut.trans xk (KeepBut.of_below hb g none) (.inl rfl)); replace HB := Zz.mk (cJ av hb); replace HI0 := Zz.mk (IsS53.below ay hb); (try clear hb); have AB := eN HI0.out.1; obtain ⟨p8, q8, hx8⟩ := xiv Ab Ac xod xod) | (go_at_call 46; (with_reducible refine (kV (w := _) (h := A13.out)).mono ?_); rintro e w20 ⟨rfl, hb⟩; replace HK := Zz.mk (KeepBut.trans xk (KeepBut.of_below hb g none) (.inl rfl)); replace HB := Zz.mk (cJ av hb); replace HI0 := Zz.mk (IsS53.below ay hb); (try clear hb); have AC := eN HI0.out.1))
 go_ret
 exact ⟨by first | exact xrd | (simp only [← Aa, ← Aa]; exact xrd) | exact xre, ay, av, xk⟩
 }
 simp only [Option.some.injEq, Prod.mk.injEq] at H
 obtain ⟨rfl, rfl, rfl, rfl, rfl, rfl, rfl, rfl, rfl, rfl, rfl, rfl⟩ := H
 have AD := eN HI0.out.1
 go_enter Tryz.func28, Tryz.ntmps28
 go_wp2_with (first | ((with_reducible refine xgc (f := 45) rfl ?_); refine xca 8 Tryz.func45 (dS (w := _) (h := A2.out)) ?_; rintro w23 hb; replace HK := Zz.mk (KeepBut.trans xk (KeepBut.of_below hb g none) (.inl rfl)); replace HB := Zz.mk (cJ av hb); replace HI0 := Zz.mk (IsS53.below ay hb); (try clear hb); have AE := eN HI0.out.1; obtain ⟨p8, q8, hx8⟩ := xiv Ab Ac xod xod) | (go_at_call 46; (with_reducible refine (kV (w := _) (h := A13.out)).mono ?_); rintro e w25 ⟨rfl, hb⟩; replace HK := Zz.mk (KeepBut.trans xk (KeepBut.of_below hb g none) (.inl rfl)); replace HB := Zz.mk (cJ av hb); replace HI0 := Zz.mk (IsS53.below ay hb); (try clear hb)))
 go_ret
 exact ⟨by first | exact xrd | (simp only [← Aa]; exact xrd) | exact xre, ay, av, xk⟩
 }
 obtain ⟨Ap, Aq⟩ := xqn c9
 simp only [Option.some.injEq, Prod.mk.injEq] at H
 obtain ⟨rfl, rfl, rfl, rfl, rfl, rfl, rfl, rfl, rfl, rfl, rfl, rfl⟩ := H
 have AF := eN HI0.out.1
 go_enter Tryz.func28, Tryz.ntmps28
 go_wp2_with (first | ((with_reducible refine xgc (f := 45) rfl ?_); refine xca 8 Tryz.func45 (dS (w := _) (h := A2.out)) ?_; rintro w27 hb; replace HK := Zz.mk (KeepBut.trans xk (KeepBut.of_below hb g none) (.inl rfl)); replace HB := Zz.mk (cJ av hb); replace HI0 := Zz.mk (IsS53.below ay hb); (try clear hb); have AG := eN HI0.out.1; obtain ⟨p8, q8, hx8⟩ := xiv Ab Ac xod xod))
 go_ret
 exact ⟨xre, ay, av, xk⟩
def fR (a0 : ByteArray) (a1 : ByteArray) : Option (Bool) := if (a0.size : Int) ≥ (a1.size : Int) then (if 0 ≤ (a1.size : Int) then (if (a1.size : Int) ≤ (a0.size : Int) then (some ((a0.extract 0 ((a1.size : Int) : Int).toNat).toList == a1.toList)) else (none)) else (none)) else (some false)
theorem k6 (a0 : ByteArray) (a1 : ByteArray) (r : Bool) (w : World) (h : fR a0 a1 = some r) :
    Calls Tryz.prog 42 #[.string a0, .string a1] w fun e w' => e = .returned (.bool r) ∧ Drawn0 w w' := by
 have H := h
 clear h
 unfold fR at H
 refine xid H ?_ ?_ <;> clear H <;> intro c3 H
 {
 have Ac := xdt c3
 have Ad : decide (a1.size ≤ a0.size) = true := decide_eq_true (Int.ofNat_le.mp c3)
 clear c3
 refine xin H ?_; clear H; intro c4 H
 obtain ⟨Ae, Af⟩ := xcp c4
 clear c4
 refine xin H ?_; clear H; intro c5 H
 obtain ⟨Ag, Ah⟩ := xcp c5
 clear c5
 obtain ⟨Ai, Aa⟩ : ∃ j_ : ByteArray, (a0.extract 0 ((a1.size : Int) : Int).toNat) = j_ := ⟨_, rfl⟩
 try (have Ab := Aa; simp only [Int.toNat_natCast] at Ab)
 first | rw [Aa] at H | simp only [Aa] at H | skip
 obtain rfl := Option.some.inj H
 go_enter Tryz.func42, Tryz.ntmps42
 go_wp2
 go_ret
 exact ⟨by first | exact xrs | (simp only [← Aa] <;> (first | rfl | simp)) | exact xrr, xdr⟩
 }
 have Ac := xdf c3
 have Ad : decide (a1.size ≤ a0.size) = false := decide_eq_false (fun h => c3 (Int.ofNat_le.mpr h))
 clear c3
 obtain rfl := Option.some.inj H
 go_enter Tryz.func42, Tryz.ntmps42
 go_wp2
 go_ret
 exact ⟨xrr, xdr⟩
def eg (a0 : ByteArray) (a1 : ByteArray) : Option (Bool) := (fR a0 a1).bind fun t116 => (some t116)
theorem aw (a0 : ByteArray) (a1 : ByteArray) (r : Bool) (w : World) (h : eg a0 a1 = some r) :
    Calls Tryz.prog 25 #[.string a0, .string a1] w fun e w' => e = .returned (.bool r) ∧ Drawn0 w w' := by
 have H := h
 clear h
 unfold eg at H
 replace H := xbd H
 obtain ⟨t116, A3, H⟩ := H
 try dsimp only at H
 obtain rfl := Option.some.inj H
 go_enter Tryz.func25, Tryz.ntmps25
 go_wp2_with (first | ((with_reducible refine xgc (f := 42) rfl ?_); refine xca 7 Tryz.func42 (k6 (w := _) (h := A3.out)) ?_; rintro w' ⟨nd, rfl⟩))
 go_ret
 exact ⟨xrr, xdr⟩
def eq (Aa : ByteArray) (Ab : Int) (Ad : Bool) (Ae : ByteArray) (Af : Bool) (Ag : ByteArray) (Ah : ByteArray) (Ai : Bool) (Aj : ByteArray) (Ak : Bool) (Ac : ByteArray) (a1 : ByteArray) : Option (Bool × ByteArray × Int × Bool × ByteArray × Bool × ByteArray × ByteArray × Bool × ByteArray × Bool × ByteArray) := if 0 ≤ Ab then (if Ab ≤ (Aa.size : Int) then ((eg (Aa.extract (Ab : Int).toNat Aa.size) a1).bind fun Al => (if Al = true then (some (true, Aa, wrap64 (Ab + (a1.size : Int)), Ad, Ae, Af, Ag, Ah, Ai, Aj, Ak, Ac)) else (some (false, Aa, Ab, Ad, Ae, Af, Ag, Ah, Ai, Aj, Ak, Ac)))) else (none)) else (none)
theorem eb (g : Nat) (Ab : ByteArray) (Ad : Int) (Ae : Bool) (Af : ByteArray) (Ag : Bool) (Ah : ByteArray) (Ai : ByteArray) (Aj : Bool) (Ak : ByteArray) (Al : Bool) (Ac : ByteArray) (a1 : ByteArray) (r1 : Bool) (r2 : ByteArray) (r3 : Int) (r4 : Bool) (r5 : ByteArray) (r6 : Bool) (r7 : ByteArray) (r8 : ByteArray) (r9 : Bool) (r10 : ByteArray) (r11 : Bool) (r12 : ByteArray) (w0 w : World) (hI : IsS53 w0 w g Ab Ad Ae Af Ag Ah Ai Aj Ak Al Ac) (hB : Below w0.heap.size w0 w) (h : eq Ab Ad Ae Af Ag Ah Ai Aj Ak Al Ac a1 = some (r1, r2, r3, r4, r5, r6, r7, r8, r9, r10, r11, r12)) :
    Calls Tryz.prog 47 #[.pointer (some ⟨g, 0, none⟩), .string a1] w fun e w' => e = .returned (.bool r1) ∧ IsS53 w0 w' g r2 r3 r4 r5 r6 r7 r8 r9 r10 r11 r12 ∧ Below w0.heap.size w0 w' ∧ KeepBut w w' g none := by
 have HI0 := Zz.mk hI
 have HK := Zz.mk (KeepBut.refl w g none)
 have HL := Zz.mk hB.size
 clear hI
 have HW0 := Zz.mk hB.size
 have HB := Zz.mk hB
 clear hB
 have H := h
 clear h
 unfold eq at H
 refine xin H ?_; clear H; intro c3 H
 obtain ⟨An, Ao⟩ := xcp c3
 clear c3
 refine xin H ?_; clear H; intro c4 H
 obtain ⟨Ap, Aq⟩ := xcp c4
 clear c4
 obtain ⟨As, Aa⟩ : ∃ j_ : ByteArray, (Ab.extract (Ad : Int).toNat Ab.size) = j_ := ⟨_, rfl⟩
 try (have Am := Aa; simp only [Int.toNat_natCast] at Am)
 first | rw [Aa] at H | simp only [Aa] at H | skip
 replace H := xbd H
 obtain ⟨Ar, A6, H⟩ := H
 try dsimp only at H
 refine xib H ?_ ?_ <;> clear H <;> rintro rfl H
 {
 simp only [Option.some.injEq, Prod.mk.injEq] at H
 obtain ⟨rfl, rfl, rfl, rfl, rfl, rfl, rfl, rfl, rfl, rfl, rfl, rfl⟩ := H
 have At := eN HI0.out.1
 go_enter Tryz.func47, Tryz.ntmps47
 go_wp2_with (first | (go_at_call 25; (with_reducible refine (aw (w := _) (h := A6.out)).mono ?_); rintro e w' ⟨rfl, ⟨nd, rfl⟩⟩; (try exact xdd)))
 repeat (go_quiet (first | (go_at_call 25; (with_reducible refine (aw (w := _) (h := A6.out)).mono ?_); rintro e w' ⟨rfl, ⟨nd, rfl⟩⟩; (try exact xdd))); try go_wp2_with (first | (go_at_call 25; (with_reducible refine (aw (w := _) (h := A6.out)).mono ?_); rintro e w' ⟨rfl, ⟨nd, rfl⟩⟩; (try exact xdd))))
 go_ret
 exact ⟨by first | exact xrd | (simp only [← Aa]; exact xrd) | exact xre, ay, av, xk⟩
 }
 simp only [Option.some.injEq, Prod.mk.injEq] at H
 obtain ⟨rfl, rfl, rfl, rfl, rfl, rfl, rfl, rfl, rfl, rfl, rfl, rfl⟩ := H
 have Au := eN HI0.out.1
 go_enter Tryz.func47, Tryz.ntmps47
 go_wp2_with (first | (go_at_call 25; (with_reducible refine (aw (w := _) (h := A6.out)).mono ?_); rintro e w' ⟨rfl, ⟨nd, rfl⟩⟩; (try exact xdd)))
 repeat (go_quiet (first | (go_at_call 25; (with_reducible refine (aw (w := _) (h := A6.out)).mono ?_); rintro e w' ⟨rfl, ⟨nd, rfl⟩⟩; (try exact xdd))); try go_wp2_with (first | (go_at_call 25; (with_reducible refine (aw (w := _) (h := A6.out)).mono ?_); rintro e w' ⟨rfl, ⟨nd, rfl⟩⟩; (try exact xdd))))
 go_ret
 exact ⟨by first | exact xrd | (simp only [← Aa]; exact xrd) | exact xre, ay, av, xk⟩
def bf : Nat → ByteArray → Int → Int → Option (Int)
  | 0, _, _, _ => none
  | k + 1, x0, x1, x5 => if x5 ≥ 0 then (if 0 ≤ x5 then (if x5 < (x0.size : Int) then (if (bt x0 x5) = x1 then (some x5) else (bf k x0 x1 (wrap64 (x5 - 1)))) else (none)) else (none)) else (some (-1))
def bQ (k : Nat) (a0 : ByteArray) (a1 : Int) : Option (Int) := bf k a0 a1 (wrap64 ((a0.size : Int) - 1))
theorem gF : ∀ k, (∀ y0 y1 y2, LeO (bf k y0 y1 y2) (bf (k + 1) y0 y1 y2))
  | 0 => fun _ _ _ r h => by simp [bf] at h
  | k + 1 => by
    have ih0 := gF k
    · intro y0 y1 y2
      unfold bf
      exact xmo
theorem jX : ∀ a0 a1 k, LeO (bQ k a0 a1) (bQ (k + 1) a0 a1) := by
  intro a0 a1 k
  have ih0 := gF k
  unfold bQ
  exact xmo
theorem jN (k : Nat) (a0 : ByteArray) (a1 : Int) (r : Int) (w : World) (h : bQ k a0 a1 = some r) :
    Calls Tryz.prog 92 #[.string a0, .int .u8 a1] w fun e w' => e = .returned (.int .i64 r) ∧ Drawn0 w w' := by
 have H := h
 clear h
 unfold bQ at H
 have H' := Zz.mk H
 clear H
 go_enter Tryz.func92, Tryz.ntmps92
 go_wp2
 go_loopg [5] k (fun kq v5 w' => ∃ Aa, v5 = .int .i64 Aa ∧ Zz (bf kq a0 a1 Aa = some r) ∧ Zz (kq ≤ k) ∧ Drawn0 w w')
 case atStart => exact ⟨(wrap64 ((a0.size : Int) - 1)), xrr, H', ⟨Nat.le_refl _⟩, xdr⟩
 case round => (
 clear H'
 obtain ⟨Aa, rfl, HA, HK1, ⟨m1, rfl⟩⟩ := hrel
 cases gk with
 | zero => exact absurd HA.out (by simp [bf])
 | succ k1 => (
 have H := HA.out
 clear HA
 simp only [bf] at H
 refine xid H ?_ ?_ <;> clear H <;> intro c3 H
 {
 have Ab := xdt c3
 clear c3
 refine xin H ?_; clear H; intro c4 H
 have Ae := xdt c4
 clear c4
 refine xin H ?_; clear H; intro c5 H
 have Af := xdt c5
 clear c5
 refine xid H ?_ ?_ <;> clear H <;> intro c7 H
 {
 obtain ⟨Ac, Ad⟩ := xqe c7
 clear c7
 obtain rfl := Option.some.inj H
 obtain ⟨p6, q6, hx6⟩ := xiv a0 Aa xod xod
 go_wp2
 go_ret
 exact ⟨xrr, xdr⟩
 }
 obtain ⟨Ac, Ad⟩ := xqn c7
 replace H := xa H
 obtain ⟨p6, q6, hx6⟩ := xiv a0 Aa xod xod
 go_wp2
 go_roundg k1
 case measure => have := HK1.out; omega
 case rel => exact ⟨(wrap64 (Aa - 1)), xrr, H, ⟨by have := HK1.out; omega⟩, xdr⟩
 }
 have Ab := xdf c3
 clear c3
 obtain rfl := Option.some.inj H
 go_wp2
 go_ret
 exact ⟨xrr, xdr⟩
 )
 )
def cR (k : Nat) (a0 : ByteArray) (a1 : Int) : Option (Int) := (bQ k a0 a1).bind fun t118 => (some t118)
theorem lg : ∀ a0 a1 k, LeO (cR k a0 a1) (cR (k + 1) a0 a1) := by
  intro a0 a1 k
  have m0 := @jX
  unfold cR
  exact xmo
theorem eS (k : Nat) (a0 : ByteArray) (a1 : Int) (r : Int) (w : World) (h : cR k a0 a1 = some r) :
    Calls Tryz.prog 75 #[.string a0, .int .u8 a1] w fun e w' => e = .returned (.int .i64 r) ∧ Drawn0 w w' := by
 have H := h
 clear h
 unfold cR at H
 replace H := xbd H
 obtain ⟨t118, A3, H⟩ := H
 try dsimp only at H
 obtain rfl := Option.some.inj H
 go_enter Tryz.func75, Tryz.ntmps75
 go_wp2_with (first | ((with_reducible refine xgc (f := 92) rfl ?_); refine xca 7 Tryz.func92 (jN (w := _) (h := A3.out)) ?_; rintro w' ⟨nd, rfl⟩))
 go_ret
 exact ⟨xrr, xdr⟩
def ib (a0 : ByteArray) (a1 : Int) : Option (Int) := some (Go.Lib.indexByte a0.data.toList a1.toNat.toUInt8)
set_option maxHeartbeats 1000000 in
theorem k7 (a0 : ByteArray) (a1 : Int) (r : Int) (w : World) (h : ib a0 a1 = some r) :
    Calls Tryz.prog 90 #[.string a0, .int .u8 a1] w fun e w' => e = .returned (.int .i64 r) ∧ Drawn0 w w' := by
 obtain rfl := Option.some.inj h
 clear h
 go_enter Tryz.func90, Tryz.ntmps90
 go_wp2
 rw [run_callFunc_extern Tryz.func103 (by kernel_rfl) (by kernel_rfl) (by kernel_rfl) (e := Extern.BytealgIndexByte.indexByte) (by kernel_rfl), Lib.run_indexByteString]
 simp only [Result.andThen]
 rw [Oper.upon_value]
 go_wp2
 go_ret
 exact ⟨rfl, xdr⟩
def dq (a0 : ByteArray) (a1 : Int) : Option (Int) := (ib a0 a1).bind fun t119 => (some t119)
theorem ax (a0 : ByteArray) (a1 : Int) (r : Int) (w : World) (h : dq a0 a1 = some r) :
    Calls Tryz.prog 69 #[.string a0, .int .u8 a1] w fun e w' => e = .returned (.int .i64 r) ∧ Drawn0 w w' := by
 have H := h
 clear h
 unfold dq at H
 replace H := xbd H
 obtain ⟨t119, A3, H⟩ := H
 try dsimp only at H
 obtain rfl := Option.some.inj H
 go_enter Tryz.func69, Tryz.ntmps69
 go_wp2_with (first | ((with_reducible refine xgc (f := 90) rfl ?_); refine xca 7 Tryz.func90 (k7 (w := _) (h := A3.out)) ?_; rintro w' ⟨nd, rfl⟩))
 go_ret
 exact ⟨xrr, xdr⟩
def ep : Nat → ByteArray → Int → ByteArray → Bool → Option (ByteArray × ByteArray)
  | 0, _, _, _, _ => none
  | k + 1, x0, x4, x5, x23 => if x23 = true then (if 0 ≤ (wrap64 (x4 + 1)) then (if (wrap64 (x4 + 1)) ≤ (x0.size : Int) then (some (x0.extract 0 ((wrap64 (x4 + 1)) : Int).toNat, x5)) else (none)) else (none)) else (some (x0, (⟨#[]⟩ : ByteArray)))
def gh (k : Nat) (a0 : ByteArray) : Option (ByteArray × ByteArray) := (eg a0 (⟨#[91]⟩ : ByteArray)).bind fun Ad => (if Ad = true then ((dq a0 93).bind fun Aa => (if Aa ≥ 0 then (if 0 ≤ (wrap64 (Aa + 1)) then (if (wrap64 (Aa + 1)) ≤ (a0.size : Int) then (if (a0.extract ((wrap64 (Aa + 1)) : Int).toNat a0.size).toList = ([] : List UInt8) then (ep k a0 Aa (a0.extract ((wrap64 (Aa + 1)) : Int).toNat a0.size) true) else (if 0 < ((a0.extract ((wrap64 (Aa + 1)) : Int).toNat a0.size).size : Int) then (ep k a0 Aa (a0.extract ((wrap64 (Aa + 1)) : Int).toNat a0.size) ((bt (a0.extract ((wrap64 (Aa + 1)) : Int).toNat a0.size) 0) == 58)) else (none))) else (none)) else (none)) else ((dq a0 58).bind fun Ab => (if Ab ≥ 0 then (if 0 ≤ Ab then (if Ab ≤ (a0.size : Int) then (some (a0.extract 0 (Ab : Int).toNat, a0.extract (Ab : Int).toNat a0.size)) else (none)) else (none)) else (some (a0, (⟨#[]⟩ : ByteArray))))))) else ((dq a0 58).bind fun Ac => (if Ac ≥ 0 then (if 0 ≤ Ac then (if Ac ≤ (a0.size : Int) then (some (a0.extract 0 (Ac : Int).toNat, a0.extract (Ac : Int).toNat a0.size)) else (none)) else (none)) else (some (a0, (⟨#[]⟩ : ByteArray))))))
theorem l5 : ∀ k, (∀ y0 y1 y2 y3, LeO (ep k y0 y1 y2 y3) (ep (k + 1) y0 y1 y2 y3))
  | 0 => fun _ _ _ _ r h => by simp [ep] at h
  | k + 1 => by
    have ih0 := l5 k
    · intro y0 y1 y2 y3
      unfold ep
      exact xmo
theorem pO : ∀ a0 k, LeO (gh k a0) (gh (k + 1) a0) := by
  intro a0 k
  have ih0 := l5 k
  unfold gh
  exact xmo
theorem jk (k : Nat) (a0 : ByteArray) (r1 : ByteArray) (r2 : ByteArray) (w : World) (h : gh k a0 = some (r1, r2)) :
    Calls Tryz.prog 76 #[.string a0] w fun e w' => e = .returned (.tuple #[.string r1, .string r2]) ∧ Drawn0 w w' := by
 have H := h
 clear h
 unfold gh at H
 replace H := xbd H
 obtain ⟨AV, A2, H⟩ := H
 try dsimp only at H
 refine xib H ?_ ?_ <;> clear H <;> rintro rfl H
 {
 replace H := xbd H
 obtain ⟨Ak, A4, H⟩ := H
 try dsimp only at H
 refine xid H ?_ ?_ <;> clear H <;> intro c5 H
 {
 have At := xdt c5
 clear c5
 obtain ⟨Ax, Ac⟩ : ∃ j_ : Int, (wrap64 (Ak + 1)) = j_ := ⟨_, rfl⟩
 first | rw [Ac] at H | simp only [Ac] at H | skip
 (try rw [Ac] at A2)
 (try rw [Ac] at A4)
 have AC : (IntKind.i64.wrap (Ak + 1)) = Ax := (am _).trans Ac
 refine xin H ?_; clear H; intro c7 H
 obtain ⟨Ay, Az⟩ := xcp c7
 clear c7
 refine xin H ?_; clear H; intro c8 H
 obtain ⟨AA, AB⟩ := xcp c8
 clear c8
 obtain ⟨As, Ag⟩ : ∃ j_ : ByteArray, (a0.extract ((Ax) : Int).toNat a0.size) = j_ := ⟨_, rfl⟩
 first | rw [Ag] at H | simp only [Ag] at H | skip
 (try rw [Ag] at A2)
 (try rw [Ag] at A4)
 have An := Zz.mk H
 clear H
 go_enter Tryz.func76, Tryz.ntmps76
 go_upto_region 5 with (first | (go_at_call 25; (with_reducible refine (aw (w := _) (h := A2.out)).mono ?_); rintro e w' ⟨rfl, ⟨nd, rfl⟩⟩; (try exact xdd)) | (go_at_call 69; (with_reducible refine (ax (w := _) (h := A4.out)).mono ?_); rintro e w' ⟨rfl, ⟨nd, rfl⟩⟩; (try exact xdd)))
 repeat (go_quiet (first | (go_at_call 25; (with_reducible refine (aw (w := _) (h := A2.out)).mono ?_); rintro e w' ⟨rfl, ⟨nd, rfl⟩⟩; (try exact xdd)) | (go_at_call 69; (with_reducible refine (ax (w := _) (h := A4.out)).mono ?_); rintro e w' ⟨rfl, ⟨nd, rfl⟩⟩; (try exact xdd))); go_upto_region 5 with (first | (go_at_call 25; (with_reducible refine (aw a0 (⟨#[91]⟩ : ByteArray) true _ A2.out).mono ?_); rintro e w' ⟨rfl, ⟨nd, rfl⟩⟩; (try exact xdd)) | (go_at_call 69; (with_reducible refine (ax a0 93 Ak _ A4.out).mono ?_); rintro e w' ⟨rfl, ⟨nd, rfl⟩⟩; (try exact xdd))))
 (try simp only [Act.put, xl1, xl2, xl3])
 go_cut [23] (fun v23 wc => ∃ kq Ah, v23 = .bool Ah ∧ Zz (ep kq a0 Ak As Ah = some (r1, r2)) ∧ Zz (kq ≤ k) ∧ Drawn0 w wc)
 case first => (
 have H := An.out
 clear An
 refine xid H ?_ ?_ <;> clear H <;> intro c11 H
 {
 obtain ⟨Af, Au⟩ := xqe c11
 (try (have Ai : (As).toList.isEmpty = true := by simpa using c11))
 clear c11
 (first | rw [Af] | (simp only [am, ao]; rw [Af]) | (rw [Ai]; (try simp only [Bool.not_false, Bool.not_true])) | skip)
 replace H := xa H
 go_wp2
 repeat (go_quiet (fail); try go_wp2)
 go_meet
 case rel => exact ⟨_, (true), xrr, H, ⟨xom⟩, xdr⟩
 }
 obtain ⟨Af, Au⟩ := xqn c11
 (try (have Ai : (As).toList.isEmpty = false := by simpa using c11))
 (first | rw [Af] | (simp only [am, ao]; rw [Af]) | (rw [Ai]; (try simp only [Bool.not_false, Bool.not_true])) | skip)
 refine xin H ?_; clear H; intro c12 H
 have AD := xdt c12
 have AE : decide (0 < (As).size) = true := decide_eq_true (by omega)
 clear c12
 replace H := xa H
 obtain ⟨q13, AW, hx13⟩ := xi0 As xod
 go_wp2
 repeat (go_quiet (fail); try go_wp2)
 go_meet
 case rel => exact ⟨_, (((bt (As) 0) == 58)), (by first | exact xrs | (simp only [← Ag] <;> (first | rfl | simp)) | exact xrr), H, ⟨xom⟩, xdr⟩
 )
 case rest => (
 clear An
 clear At Ay Az AA AB
 obtain ⟨kq, Ah, rfl, HA, HJ9, ⟨mc9, rfl⟩⟩ := hcut
 cases kq with
 | zero => exact absurd HA.out (by simp [ep])
 | succ kj9 => (
 have H := HA.out
 clear HA
 simp only [ep] at H
 refine xib H ?_ ?_ <;> clear H <;> rintro rfl H
 {
 first | rw [Ac] at H | simp only [Ac] at H | skip
 refine xin H ?_; clear H; intro c15 H
 obtain ⟨AF, AG⟩ := xcp c15
 clear c15
 refine xin H ?_; clear H; intro c16 H
 obtain ⟨AH, AI⟩ := xcp c16
 clear c16
 obtain ⟨AX, Aj⟩ : ∃ j_ : ByteArray, (a0.extract 0 ((Ax) : Int).toNat) = j_ := ⟨_, rfl⟩
 first | rw [Aj] at H | simp only [Aj] at H | skip
 simp only [Option.some.injEq, Prod.mk.injEq] at H
 obtain ⟨rfl, rfl⟩ := H
 go_wp2
 repeat (go_quiet (fail); try go_wp2)
 go_ret2
 exact ⟨by first | exact xrs | (simp only [← Ac, ← Ag, ← Ac, ← Aj] <;> (first | rfl | simp)) | exact xrr, xdr⟩
 }
 simp only [Option.some.injEq, Prod.mk.injEq] at H
 obtain ⟨rfl, rfl⟩ := H
 go_wp2
 repeat (go_quiet (fail); try go_wp2)
 go_ret2
 exact ⟨by first | exact xrs | (simp only [← Ac, ← Ag] <;> (first | rfl | simp)) | exact xrr, xdr⟩
 )
 )
 }
 have At := xdf c5
 clear c5
 replace H := xbd H
 obtain ⟨Al, A18, H⟩ := H
 try dsimp only at H
 refine xid H ?_ ?_ <;> clear H <;> intro c19 H
 {
 have Av := xdt c19
 clear c19
 refine xin H ?_; clear H; intro c20 H
 obtain ⟨AJ, AK⟩ := xcp c20
 clear c20
 refine xin H ?_; clear H; intro c21 H
 obtain ⟨AL, AM⟩ := xcp c21
 clear c21
 obtain ⟨AY, Aa⟩ : ∃ j_ : ByteArray, (a0.extract 0 (Al : Int).toNat) = j_ := ⟨_, rfl⟩
 try (have Ao := Aa; simp only [Int.toNat_natCast] at Ao)
 first | rw [Aa] at H | simp only [Aa] at H | skip
 (try rw [Aa] at A2)
 (try rw [Aa] at A4)
 (try rw [Aa] at A18)
 have AN := eq_true (xod : 0 ≤ Al)
 have AO := eq_true (xod : Al ≤ (a0.size : Int))
 obtain ⟨AZ, Ab⟩ : ∃ j_ : ByteArray, (a0.extract (Al : Int).toNat a0.size) = j_ := ⟨_, rfl⟩
 try (have Ap := Ab; simp only [Int.toNat_natCast] at Ap)
 first | rw [Ab] at H | simp only [Ab] at H | skip
 (try rw [Ab] at A2)
 (try rw [Ab] at A4)
 (try rw [Ab] at A18)
 simp only [Option.some.injEq, Prod.mk.injEq] at H
 obtain ⟨rfl, rfl⟩ := H
 go_enter Tryz.func76, Tryz.ntmps76
 go_wp2_with (first | (go_at_call 25; (with_reducible refine (aw (w := _) (h := A2.out)).mono ?_); rintro e w' ⟨rfl, ⟨nd, rfl⟩⟩; (try exact xdd)) | (go_at_call 69; (with_reducible refine (ax (w := _) (h := A4.out)).mono ?_); rintro e w' ⟨rfl, ⟨nd, rfl⟩⟩; (try exact xdd)) | (go_at_call 69; (with_reducible refine (ax (w := _) (h := A18.out)).mono ?_); rintro e w' ⟨rfl, ⟨nd, rfl⟩⟩; (try exact xdd)))
 repeat (go_quiet (first | (go_at_call 25; (with_reducible refine (aw (w := _) (h := A2.out)).mono ?_); rintro e w' ⟨rfl, ⟨nd, rfl⟩⟩; (try exact xdd)) | (go_at_call 69; (with_reducible refine (ax (w := _) (h := A4.out)).mono ?_); rintro e w' ⟨rfl, ⟨nd, rfl⟩⟩; (try exact xdd)) | (go_at_call 69; (with_reducible refine (ax (w := _) (h := A18.out)).mono ?_); rintro e w' ⟨rfl, ⟨nd, rfl⟩⟩; (try exact xdd))); try go_wp2_with (first | (go_at_call 25; (with_reducible refine (aw (w := _) (h := A2.out)).mono ?_); rintro e w' ⟨rfl, ⟨nd, rfl⟩⟩; (try exact xdd)) | (go_at_call 69; (with_reducible refine (ax (w := _) (h := A4.out)).mono ?_); rintro e w' ⟨rfl, ⟨nd, rfl⟩⟩; (try exact xdd)) | (go_at_call 69; (with_reducible refine (ax (w := _) (h := A18.out)).mono ?_); rintro e w' ⟨rfl, ⟨nd, rfl⟩⟩; (try exact xdd))))
 go_ret2
 exact ⟨by first | exact xrs | (simp only [← Aa, ← Ab] <;> (first | rfl | simp)) | exact xrr, xdr⟩
 }
 have Av := xdf c19
 clear c19
 simp only [Option.some.injEq, Prod.mk.injEq] at H
 obtain ⟨rfl, rfl⟩ := H
 go_enter Tryz.func76, Tryz.ntmps76
 go_wp2_with (first | (go_at_call 25; (with_reducible refine (aw (w := _) (h := A2.out)).mono ?_); rintro e w' ⟨rfl, ⟨nd, rfl⟩⟩; (try exact xdd)) | (go_at_call 69; (with_reducible refine (ax (w := _) (h := A4.out)).mono ?_); rintro e w' ⟨rfl, ⟨nd, rfl⟩⟩; (try exact xdd)) | (go_at_call 69; (with_reducible refine (ax (w := _) (h := A18.out)).mono ?_); rintro e w' ⟨rfl, ⟨nd, rfl⟩⟩; (try exact xdd)))
 repeat (go_quiet (first | (go_at_call 25; (with_reducible refine (aw (w := _) (h := A2.out)).mono ?_); rintro e w' ⟨rfl, ⟨nd, rfl⟩⟩; (try exact xdd)) | (go_at_call 69; (with_reducible refine (ax (w := _) (h := A4.out)).mono ?_); rintro e w' ⟨rfl, ⟨nd, rfl⟩⟩; (try exact xdd)) | (go_at_call 69; (with_reducible refine (ax (w := _) (h := A18.out)).mono ?_); rintro e w' ⟨rfl, ⟨nd, rfl⟩⟩; (try exact xdd))); try go_wp2_with (first | (go_at_call 25; (with_reducible refine (aw (w := _) (h := A2.out)).mono ?_); rintro e w' ⟨rfl, ⟨nd, rfl⟩⟩; (try exact xdd)) | (go_at_call 69; (with_reducible refine (ax (w := _) (h := A4.out)).mono ?_); rintro e w' ⟨rfl, ⟨nd, rfl⟩⟩; (try exact xdd)) | (go_at_call 69; (with_reducible refine (ax (w := _) (h := A18.out)).mono ?_); rintro e w' ⟨rfl, ⟨nd, rfl⟩⟩; (try exact xdd))))
 go_ret2
 exact ⟨xrr, xdr⟩
 }
 replace H := xbd H
 obtain ⟨Am, A26, H⟩ := H
 try dsimp only at H
 refine xid H ?_ ?_ <;> clear H <;> intro c27 H
 {
 have Aw := xdt c27
 clear c27
 refine xin H ?_; clear H; intro c28 H
 obtain ⟨AP, AQ⟩ := xcp c28
 clear c28
 refine xin H ?_; clear H; intro c29 H
 obtain ⟨AR, AS⟩ := xcp c29
 clear c29
 obtain ⟨A0, Ad⟩ : ∃ j_ : ByteArray, (a0.extract 0 (Am : Int).toNat) = j_ := ⟨_, rfl⟩
 try (have Aq := Ad; simp only [Int.toNat_natCast] at Aq)
 first | rw [Ad] at H | simp only [Ad] at H | skip
 (try rw [Ad] at A2)
 (try rw [Ad] at A26)
 have AT := eq_true (xod : 0 ≤ Am)
 have AU := eq_true (xod : Am ≤ (a0.size : Int))
 obtain ⟨A1, Ae⟩ : ∃ j_ : ByteArray, (a0.extract (Am : Int).toNat a0.size) = j_ := ⟨_, rfl⟩
 try (have Ar := Ae; simp only [Int.toNat_natCast] at Ar)
 first | rw [Ae] at H | simp only [Ae] at H | skip
 (try rw [Ae] at A2)
 (try rw [Ae] at A26)
 simp only [Option.some.injEq, Prod.mk.injEq] at H
 obtain ⟨rfl, rfl⟩ := H
 go_enter Tryz.func76, Tryz.ntmps76
 go_wp2_with (first | (go_at_call 25; (with_reducible refine (aw (w := _) (h := A2.out)).mono ?_); rintro e w' ⟨rfl, ⟨nd, rfl⟩⟩; (try exact xdd)) | (go_at_call 69; (with_reducible refine (ax (w := _) (h := A26.out)).mono ?_); rintro e w' ⟨rfl, ⟨nd, rfl⟩⟩; (try exact xdd)))
 repeat (go_quiet (first | (go_at_call 25; (with_reducible refine (aw (w := _) (h := A2.out)).mono ?_); rintro e w' ⟨rfl, ⟨nd, rfl⟩⟩; (try exact xdd)) | (go_at_call 69; (with_reducible refine (ax (w := _) (h := A26.out)).mono ?_); rintro e w' ⟨rfl, ⟨nd, rfl⟩⟩; (try exact xdd))); try go_wp2_with (first | (go_at_call 25; (with_reducible refine (aw (w := _) (h := A2.out)).mono ?_); rintro e w' ⟨rfl, ⟨nd, rfl⟩⟩; (try exact xdd)) | (go_at_call 69; (with_reducible refine (ax (w := _) (h := A26.out)).mono ?_); rintro e w' ⟨rfl, ⟨nd, rfl⟩⟩; (try exact xdd))))
 go_ret2
 exact ⟨by first | exact xrs | (simp only [← Ad, ← Ae] <;> (first | rfl | simp)) | exact xrr, xdr⟩
 }
 have Aw := xdf c27
 clear c27
 simp only [Option.some.injEq, Prod.mk.injEq] at H
 obtain ⟨rfl, rfl⟩ := H
 go_enter Tryz.func76, Tryz.ntmps76
 go_wp2_with (first | (go_at_call 25; (with_reducible refine (aw (w := _) (h := A2.out)).mono ?_); rintro e w' ⟨rfl, ⟨nd, rfl⟩⟩; (try exact xdd)) | (go_at_call 69; (with_reducible refine (ax (w := _) (h := A26.out)).mono ?_); rintro e w' ⟨rfl, ⟨nd, rfl⟩⟩; (try exact xdd)))
 repeat (go_quiet (first | (go_at_call 25; (with_reducible refine (aw (w := _) (h := A2.out)).mono ?_); rintro e w' ⟨rfl, ⟨nd, rfl⟩⟩; (try exact xdd)) | (go_at_call 69; (with_reducible refine (ax (w := _) (h := A26.out)).mono ?_); rintro e w' ⟨rfl, ⟨nd, rfl⟩⟩; (try exact xdd))); try go_wp2_with (first | (go_at_call 25; (with_reducible refine (aw (w := _) (h := A2.out)).mono ?_); rintro e w' ⟨rfl, ⟨nd, rfl⟩⟩; (try exact xdd)) | (go_at_call 69; (with_reducible refine (ax (w := _) (h := A26.out)).mono ?_); rintro e w' ⟨rfl, ⟨nd, rfl⟩⟩; (try exact xdd))))
 go_ret2
 exact ⟨xrr, xdr⟩
end Go.Proofs.YtpmflpeckoeooaaGreatDoor.X
