/- Texts that the law's proof needs, joined by a program of this session. -/
import Derived.Test.YtojdiklegmhakaaDoorZUrnTexts1
set_option maxHeartbeats 8000000
set_option maxRecDepth 100000
set_option linter.unusedSimpArgs false
set_option linter.unusedVariables false
namespace Go.Proofs.YtojdiklegmhakaaDoor.X
open Go.RowKit Go.Proofs.YtojdiklegmhakaaDoorW.PrintWords Go.Proofs.YtojdiklegmhakaaDoorW.PrintLast Go.Proofs.YtojdiklegmhakaaDoorW.PrintMore
attribute [local go_sem] di cR eu fH bY eW bv eN eP fB fC eo ep eO eQ
mutual
def cQ : Nat → ByteArray → Int → Int → Bool → Option (Int × Int × Bool)
  | 0, _, _, _, _ => none
  | k + 1, x0, x5, x6, x20 => if x20 = true then (some (0, x5, false)) else (if 0 < (x0.size : Int) then (if 0 ≤ x6 then (if x6 = 0 then (aA k x0 (wrap32 (Go.bits .and .u8 (bt x0 0) 0)) x6 1) else (if x6 = 1 then (aA k x0 (wrap32 (Go.bits .and .u8 (bt x0 0) 127)) x6 1) else (if x6 = 2 then (aA k x0 (wrap32 (Go.bits .and .u8 (bt x0 0) 31)) x6 1) else (if x6 = 3 then (aA k x0 (wrap32 (Go.bits .and .u8 (bt x0 0) 15)) x6 1) else (if x6 = 4 then (aA k x0 (wrap32 (Go.bits .and .u8 (bt x0 0) 7)) x6 1) else (none)))))) else (none)) else (none))
def aA : Nat → ByteArray → Int → Int → Int → Option (Int × Int × Bool)
  | 0, _, _, _, _ => none
  | k + 1, x0, x2, x6, x8 => if x8 < x6 then (if 0 ≤ x8 then (if x8 < (x0.size : Int) then (aA k x0 (Go.bits .or .i32 (wrap32 (x2 * 64)) (wrap32 (Go.bits .and .u8 (bt x0 x8) 63))) x6 (wrap64 (x8 + 1))) else (none)) else (none)) else (some (x2, x6, true))
end
def ea (k : Nat) (a0 : ByteArray) : Option (Int × Int × Bool) := (fb k a0).bind fun Aa => (if Aa.2 = 0 then (cQ k a0 Aa.1 Aa.2 true) else (cQ k a0 Aa.1 Aa.2 (decide (Aa.1 < Aa.2))))
theorem g9 : ∀ k, (∀ y0 y1 y2 y3, LeO (cQ k y0 y1 y2 y3) (cQ (k + 1) y0 y1 y2 y3)) ∧ (∀ y0 y1 y2 y3, LeO (aA k y0 y1 y2 y3) (aA (k + 1) y0 y1 y2 y3))
  | 0 => ⟨fun _ _ _ _ r h => by simp [cQ] at h, fun _ _ _ _ r h => by simp [aA] at h⟩
  | k + 1 => by
    obtain ⟨ih0, ih1⟩ := g9 k
    have m0 := @i7
    refine ⟨?_, ?_⟩
    · intro y0 y1 y2 y3
      unfold cQ
      exact xmo
    · intro y0 y1 y2 y3
      unfold aA
      exact xmo
theorem gq : ∀ a0 k, LeO (ea k a0) (ea (k + 1) a0) := by
  intro a0 k
  obtain ⟨ih0, ih1⟩ := g9 k
  have m0 := @i7
  unfold ea
  exact xmo
theorem d9 (k : Nat) (a0 : ByteArray) (r1 : Int) (r2 : Int) (r3 : Bool) (w : World) (h : ea k a0 = some (r1, r2, r3)) :
    Calls Tryd.prog 48 #[.string a0] w fun e w' => e = .returned (.tuple #[.int .i32 r1, .int .i64 r2, .bool r3]) ∧ Below w.heap.size w w' := by
 have hu87 := Tryd.underlying87
 have HB := Zz.mk (Below.refl w.heap.size w)
 have H := h
 clear h
 unfold ea at H
 replace H := xbd H
 obtain ⟨⟨Aj, Ag⟩, A2, H⟩ := H
 try dsimp only at H
 have Av := Zz.mk H
 clear H
 go_enter Tryd.func48, Tryd.ntmps48
 go_upto_region 2 with (first | (go_at_call 62; (with_reducible refine (gr (w := _) (h := A2.out)).mono ?_); rintro e w' ⟨rfl, ⟨nd, rfl⟩⟩; (try exact xdd)))
 repeat (go_quiet (first | (go_at_call 62; (with_reducible refine (gr (w := _) (h := A2.out)).mono ?_); rintro e w' ⟨rfl, ⟨nd, rfl⟩⟩; (try exact xdd))); go_upto_region 2 with (first | (go_at_call 62; (with_reducible refine (gr k a0 Aj Ag _ A2.out).mono ?_); rintro e w' ⟨rfl, ⟨nd, rfl⟩⟩; (try exact xdd))))
 (try simp only [Act.put, xl1, xl2, xl3])
 go_cut [20] (fun v20 wc => ∃ kq Ah, v20 = .bool Ah ∧ Zz (cQ kq a0 Aj Ag Ah = some (r1, r2, r3)) ∧ Zz (kq ≤ k) ∧ Zz (Below w.heap.size w wc))
 case first => (
 have H := Av.out
 clear Av
 refine xid H ?_ ?_ <;> clear H <;> intro c4 H
 {
 obtain ⟨Ai, Ak⟩ := xqe c4
 clear c4
 (first | rw [Ai] | (simp only [an, au]; rw [Ai]) | (rw [Aw]; (try simp only [Bool.not_false, Bool.not_true])) | (rw [Ax]; (try simp only [Bool.not_false, Bool.not_true])) | rw [Ak] | skip)
 replace H := xa H
 go_wp2
 repeat (go_quiet (fail); try go_wp2)
 go_meet
 case rel => exact ⟨_, (true), xrr, H, ⟨xom⟩, ⟨xbl⟩⟩
 }
 obtain ⟨Ai, Ak⟩ := xqn c4
 (first | rw [Ai] | (simp only [an, au]; rw [Ai]) | (rw [Aw]; (try simp only [Bool.not_false, Bool.not_true])) | (rw [Ax]; (try simp only [Bool.not_false, Bool.not_true])) | rw [Ak] | skip)
 replace H := xa H
 go_wp2
 repeat (go_quiet (fail); try go_wp2)
 go_meet
 case rel => exact ⟨_, (decide (Aj < Ag)), xrr, H, ⟨xom⟩, ⟨xbl⟩⟩
 )
 case rest => (
 clear Av
 obtain ⟨kq, Ah, rfl, HA, HJ2, HB⟩ := hcut
 cases kq with
 | zero => exact absurd HA.out (by simp [cQ])
 | succ kj2 => (
 have H := HA.out
 clear HA
 simp only [cQ] at H
 refine xib H ?_ ?_ <;> clear H <;> rintro rfl H
 {
 simp only [Option.some.injEq, Prod.mk.injEq] at H
 obtain ⟨rfl, rfl, rfl⟩ := H
 go_wp2
 repeat (go_quiet (fail); try go_wp2)
 go_ret3
 exact ⟨xre, xbl⟩
 }
 refine xin H ?_; clear H; intro c6 H
 have Ay := xdt c6
 have Az : decide (0 < a0.size) = true := decide_eq_true (by omega)
 clear c6
 refine xin H ?_; clear H; intro c8 H
 have AA := xdt c8
 clear c8
 by_cases c9 : Ag = 0
 {
 subst c9
 rw [if_pos rfl] at H
 have H' := Zz.mk H
 clear H
 go_wp2_with (first | ((with_reducible refine af (N := 7) rfl ?_); refine xew 7 ?_; intro Ac w10 Aa Ae hb hg; replace HB := xst hb; clear hb hg; have Al := xz5 Aa.out; obtain ⟨q7, Af, hx7⟩ := xi0 a0 xod))
 repeat (go_quiet (first | ((with_reducible refine af (N := 7) rfl ?_); refine xew 7 ?_; intro Ac w10 Aa Ae hb hg; replace HB := xst hb; clear hb hg; have Al := xz5 Aa.out; obtain ⟨q7, Af, hx7⟩ := xi0 a0 xod)); try go_wp2_with (first | ((with_reducible refine af (N := 7) rfl ?_); refine xew 7 ?_; intro Ac w10 Aa Ae hb hg; replace HB := xst hb; clear hb hg; have Al := xz5 Aa.out; obtain ⟨q7, Af, hx7⟩ := xi0 a0 xod)))
 go_loopg [2, 8] kj2 (fun kq v2 v8 w' => ∃ Ad Ab, v2 = .int .i32 Ad ∧ v8 = .int .i64 Ab ∧ Zz (aA kq a0 Ad 0 Ab = some (r1, r2, r3)) ∧ Zz (kq ≤ kj2) ∧ Zz (w'.heap[Ac]? = some (.cells #[.int .u8 0, .int .u8 127, .int .u8 31, .int .u8 15, .int .u8 7] 87 (0, 0))) ∧ Zz (Below w.heap.size w w'))
 case atStart => exact ⟨(wrap32 (Go.bits .and .u8 (bt a0 0) 0)), (1), xrr, xrr, H', ⟨Nat.le_refl _⟩, ⟨xbK⟩, ⟨xbl⟩⟩
 case round => (
 clear H'
 clear Ay Az AA
 try clear p7
 try clear q7
 try clear hx7
 try clear Af
 obtain ⟨Ad, Ab, rfl, rfl, HA, HK2, Aa, HB⟩ := hrel
 cases gk with
 | zero => exact absurd HA.out (by simp [aA])
 | succ k2 => (
 have H := HA.out
 clear HA
 simp only [aA] at H
 refine xid H ?_ ?_ <;> clear H <;> intro c12 H
 {
 have Am := xdt c12
 clear c12
 refine xin H ?_; clear H; intro c13 H
 have AB := xdt c13
 clear c13
 refine xin H ?_; clear H; intro c14 H
 have AC := xdt c14
 clear c14
 replace H := xa H
 obtain ⟨p15, q15, hx15⟩ := xiv a0 Ab xod xod
 go_wp2
 repeat (go_quiet (fail); try go_wp2)
 go_roundg k2
 case measure => have := HJ2.out; have := HK2.out; omega
 case rel => exact ⟨(Go.bits .or .i32 (wrap32 (Ad * 64)) (wrap32 (Go.bits .and .u8 (bt a0 Ab) 63))), (wrap64 (Ab + 1)), xrr, xrr, H, ⟨by have := HJ2.out; have := HK2.out; omega⟩, ⟨xbk⟩, ⟨xbl⟩⟩
 }
 have Am := xdf c12
 clear c12
 simp only [Option.some.injEq, Prod.mk.injEq] at H
 obtain ⟨rfl, rfl, rfl⟩ := H
 go_wp2
 repeat (go_quiet (fail); try go_wp2)
 go_ret3
 exact ⟨xre, xbl⟩
 )
 )
 }
 {
 rw [if_neg c9] at H
 clear c9
 by_cases c16 : Ag = 1
 {
 subst c16
 rw [if_pos rfl] at H
 have H' := Zz.mk H
 clear H
 go_wp2_with (first | ((with_reducible refine af (N := 7) rfl ?_); refine xew 7 ?_; intro Ac w17 Aa Ae hb hg; replace HB := xst hb; clear hb hg; have An := xz5 Aa.out; obtain ⟨q7, Af, hx7⟩ := xi0 a0 xod))
 repeat (go_quiet (first | ((with_reducible refine af (N := 7) rfl ?_); refine xew 7 ?_; intro Ac w17 Aa Ae hb hg; replace HB := xst hb; clear hb hg; have An := xz5 Aa.out; obtain ⟨q7, Af, hx7⟩ := xi0 a0 xod)); try go_wp2_with (first | ((with_reducible refine af (N := 7) rfl ?_); refine xew 7 ?_; intro Ac w17 Aa Ae hb hg; replace HB := xst hb; clear hb hg; have An := xz5 Aa.out; obtain ⟨q7, Af, hx7⟩ := xi0 a0 xod)))
 go_loopg [2, 8] kj2 (fun kq v2 v8 w' => ∃ Ad Ab, v2 = .int .i32 Ad ∧ v8 = .int .i64 Ab ∧ Zz (aA kq a0 Ad 1 Ab = some (r1, r2, r3)) ∧ Zz (kq ≤ kj2) ∧ Zz (w'.heap[Ac]? = some (.cells #[.int .u8 0, .int .u8 127, .int .u8 31, .int .u8 15, .int .u8 7] 87 (0, 0))) ∧ Zz (Below w.heap.size w w'))
 case atStart => exact ⟨(wrap32 (Go.bits .and .u8 (bt a0 0) 127)), (1), xrr, xrr, H', ⟨Nat.le_refl _⟩, ⟨xbK⟩, ⟨xbl⟩⟩
 case round => (
 clear H'
 try clear p7
 try clear q7
 try clear hx7
 try clear Af
 obtain ⟨Ad, Ab, rfl, rfl, HA, HK2, Aa, HB⟩ := hrel
 cases gk with
 | zero => exact absurd HA.out (by simp [aA])
 | succ k2 => (
 have H := HA.out
 clear HA
 simp only [aA] at H
 refine xid H ?_ ?_ <;> clear H <;> intro c19 H
 {
 have Ao := xdt c19
 clear c19
 refine xin H ?_; clear H; intro c20 H
 have AD := xdt c20
 clear c20
 refine xin H ?_; clear H; intro c21 H
 have AE := xdt c21
 clear c21
 replace H := xa H
 obtain ⟨p22, q22, hx22⟩ := xiv a0 Ab xod xod
 go_wp2
 repeat (go_quiet (fail); try go_wp2)
 go_roundg k2
 case measure => have := HJ2.out; have := HK2.out; omega
 case rel => exact ⟨(Go.bits .or .i32 (wrap32 (Ad * 64)) (wrap32 (Go.bits .and .u8 (bt a0 Ab) 63))), (wrap64 (Ab + 1)), xrr, xrr, H, ⟨by have := HJ2.out; have := HK2.out; omega⟩, ⟨xbk⟩, ⟨xbl⟩⟩
 }
 have Ao := xdf c19
 clear c19
 simp only [Option.some.injEq, Prod.mk.injEq] at H
 obtain ⟨rfl, rfl, rfl⟩ := H
 go_wp2
 repeat (go_quiet (fail); try go_wp2)
 go_ret3
 exact ⟨xre, xbl⟩
 )
 )
 }
 {
 rw [if_neg c16] at H
 clear c16
 by_cases c23 : Ag = 2
 {
 subst c23
 rw [if_pos rfl] at H
 have H' := Zz.mk H
 clear H
 go_wp2_with (first | ((with_reducible refine af (N := 7) rfl ?_); refine xew 7 ?_; intro Ac w24 Aa Ae hb hg; replace HB := xst hb; clear hb hg; have Ap := xz5 Aa.out; obtain ⟨q7, Af, hx7⟩ := xi0 a0 xod))
 repeat (go_quiet (first | ((with_reducible refine af (N := 7) rfl ?_); refine xew 7 ?_; intro Ac w24 Aa Ae hb hg; replace HB := xst hb; clear hb hg; have Ap := xz5 Aa.out; obtain ⟨q7, Af, hx7⟩ := xi0 a0 xod)); try go_wp2_with (first | ((with_reducible refine af (N := 7) rfl ?_); refine xew 7 ?_; intro Ac w24 Aa Ae hb hg; replace HB := xst hb; clear hb hg; have Ap := xz5 Aa.out; obtain ⟨q7, Af, hx7⟩ := xi0 a0 xod)))
 go_loopg [2, 8] kj2 (fun kq v2 v8 w' => ∃ Ad Ab, v2 = .int .i32 Ad ∧ v8 = .int .i64 Ab ∧ Zz (aA kq a0 Ad 2 Ab = some (r1, r2, r3)) ∧ Zz (kq ≤ kj2) ∧ Zz (w'.heap[Ac]? = some (.cells #[.int .u8 0, .int .u8 127, .int .u8 31, .int .u8 15, .int .u8 7] 87 (0, 0))) ∧ Zz (Below w.heap.size w w'))
 case atStart => exact ⟨(wrap32 (Go.bits .and .u8 (bt a0 0) 31)), (1), xrr, xrr, H', ⟨Nat.le_refl _⟩, ⟨xbK⟩, ⟨xbl⟩⟩
 case round => (
 clear H'
 try clear p7
 try clear q7
 try clear hx7
 try clear Af
 obtain ⟨Ad, Ab, rfl, rfl, HA, HK2, Aa, HB⟩ := hrel
 cases gk with
 | zero => exact absurd HA.out (by simp [aA])
 | succ k2 => (
 have H := HA.out
 clear HA
 simp only [aA] at H
 refine xid H ?_ ?_ <;> clear H <;> intro c26 H
 {
 have Aq := xdt c26
 clear c26
 refine xin H ?_; clear H; intro c27 H
 have AF := xdt c27
 clear c27
 refine xin H ?_; clear H; intro c28 H
 have AG := xdt c28
 clear c28
 replace H := xa H
 obtain ⟨p29, q29, hx29⟩ := xiv a0 Ab xod xod
 go_wp2
 repeat (go_quiet (fail); try go_wp2)
 go_roundg k2
 case measure => have := HJ2.out; have := HK2.out; omega
 case rel => exact ⟨(Go.bits .or .i32 (wrap32 (Ad * 64)) (wrap32 (Go.bits .and .u8 (bt a0 Ab) 63))), (wrap64 (Ab + 1)), xrr, xrr, H, ⟨by have := HJ2.out; have := HK2.out; omega⟩, ⟨xbk⟩, ⟨xbl⟩⟩
 }
 have Aq := xdf c26
 clear c26
 simp only [Option.some.injEq, Prod.mk.injEq] at H
 obtain ⟨rfl, rfl, rfl⟩ := H
 go_wp2
 repeat (go_quiet (fail); try go_wp2)
 go_ret3
 exact ⟨xre, xbl⟩
 )
 )
 }
 {
 rw [if_neg c23] at H
 clear c23
 by_cases c30 : Ag = 3
 {
 subst c30
 rw [if_pos rfl] at H
 have H' := Zz.mk H
 clear H
 go_wp2_with (first | ((with_reducible refine af (N := 7) rfl ?_); refine xew 7 ?_; intro Ac w31 Aa Ae hb hg; replace HB := xst hb; clear hb hg; have Ar := xz5 Aa.out; obtain ⟨q7, Af, hx7⟩ := xi0 a0 xod))
 repeat (go_quiet (first | ((with_reducible refine af (N := 7) rfl ?_); refine xew 7 ?_; intro Ac w31 Aa Ae hb hg; replace HB := xst hb; clear hb hg; have Ar := xz5 Aa.out; obtain ⟨q7, Af, hx7⟩ := xi0 a0 xod)); try go_wp2_with (first | ((with_reducible refine af (N := 7) rfl ?_); refine xew 7 ?_; intro Ac w31 Aa Ae hb hg; replace HB := xst hb; clear hb hg; have Ar := xz5 Aa.out; obtain ⟨q7, Af, hx7⟩ := xi0 a0 xod)))
 go_loopg [2, 8] kj2 (fun kq v2 v8 w' => ∃ Ad Ab, v2 = .int .i32 Ad ∧ v8 = .int .i64 Ab ∧ Zz (aA kq a0 Ad 3 Ab = some (r1, r2, r3)) ∧ Zz (kq ≤ kj2) ∧ Zz (w'.heap[Ac]? = some (.cells #[.int .u8 0, .int .u8 127, .int .u8 31, .int .u8 15, .int .u8 7] 87 (0, 0))) ∧ Zz (Below w.heap.size w w'))
 case atStart => exact ⟨(wrap32 (Go.bits .and .u8 (bt a0 0) 15)), (1), xrr, xrr, H', ⟨Nat.le_refl _⟩, ⟨xbK⟩, ⟨xbl⟩⟩
 case round => (
 clear H'
 try clear p7
 try clear q7
 try clear hx7
 try clear Af
 obtain ⟨Ad, Ab, rfl, rfl, HA, HK2, Aa, HB⟩ := hrel
 cases gk with
 | zero => exact absurd HA.out (by simp [aA])
 | succ k2 => (
 have H := HA.out
 clear HA
 simp only [aA] at H
 refine xid H ?_ ?_ <;> clear H <;> intro c33 H
 {
 have As := xdt c33
 clear c33
 refine xin H ?_; clear H; intro c34 H
 have AH := xdt c34
 clear c34
 refine xin H ?_; clear H; intro c35 H
 have AI := xdt c35
 clear c35
 replace H := xa H
 obtain ⟨p36, q36, hx36⟩ := xiv a0 Ab xod xod
 go_wp2
 repeat (go_quiet (fail); try go_wp2)
 go_roundg k2
 case measure => have := HJ2.out; have := HK2.out; omega
 case rel => exact ⟨(Go.bits .or .i32 (wrap32 (Ad * 64)) (wrap32 (Go.bits .and .u8 (bt a0 Ab) 63))), (wrap64 (Ab + 1)), xrr, xrr, H, ⟨by have := HJ2.out; have := HK2.out; omega⟩, ⟨xbk⟩, ⟨xbl⟩⟩
 }
 have As := xdf c33
 clear c33
 simp only [Option.some.injEq, Prod.mk.injEq] at H
 obtain ⟨rfl, rfl, rfl⟩ := H
 go_wp2
 repeat (go_quiet (fail); try go_wp2)
 go_ret3
 exact ⟨xre, xbl⟩
 )
 )
 }
 {
 rw [if_neg c30] at H
 clear c30
 by_cases c37 : Ag = 4
 {
 subst c37
 rw [if_pos rfl] at H
 have H' := Zz.mk H
 clear H
 go_wp2_with (first | ((with_reducible refine af (N := 7) rfl ?_); refine xew 7 ?_; intro Ac w38 Aa Ae hb hg; replace HB := xst hb; clear hb hg; have At := xz5 Aa.out; obtain ⟨q7, Af, hx7⟩ := xi0 a0 xod))
 repeat (go_quiet (first | ((with_reducible refine af (N := 7) rfl ?_); refine xew 7 ?_; intro Ac w38 Aa Ae hb hg; replace HB := xst hb; clear hb hg; have At := xz5 Aa.out; obtain ⟨q7, Af, hx7⟩ := xi0 a0 xod)); try go_wp2_with (first | ((with_reducible refine af (N := 7) rfl ?_); refine xew 7 ?_; intro Ac w38 Aa Ae hb hg; replace HB := xst hb; clear hb hg; have At := xz5 Aa.out; obtain ⟨q7, Af, hx7⟩ := xi0 a0 xod)))
 go_loopg [2, 8] kj2 (fun kq v2 v8 w' => ∃ Ad Ab, v2 = .int .i32 Ad ∧ v8 = .int .i64 Ab ∧ Zz (aA kq a0 Ad 4 Ab = some (r1, r2, r3)) ∧ Zz (kq ≤ kj2) ∧ Zz (w'.heap[Ac]? = some (.cells #[.int .u8 0, .int .u8 127, .int .u8 31, .int .u8 15, .int .u8 7] 87 (0, 0))) ∧ Zz (Below w.heap.size w w'))
 case atStart => exact ⟨(wrap32 (Go.bits .and .u8 (bt a0 0) 7)), (1), xrr, xrr, H', ⟨Nat.le_refl _⟩, ⟨xbK⟩, ⟨xbl⟩⟩
 case round => (
 clear H'
 try clear p7
 try clear q7
 try clear hx7
 try clear Af
 obtain ⟨Ad, Ab, rfl, rfl, HA, HK2, Aa, HB⟩ := hrel
 cases gk with
 | zero => exact absurd HA.out (by simp [aA])
 | succ k2 => (
 have H := HA.out
 clear HA
 simp only [aA] at H
 refine xid H ?_ ?_ <;> clear H <;> intro c40 H
 {
 have Au := xdt c40
 clear c40
 refine xin H ?_; clear H; intro c41 H
 have AJ := xdt c41
 clear c41
 refine xin H ?_; clear H; intro c42 H
 have AK := xdt c42
 clear c42
 replace H := xa H
 obtain ⟨p43, q43, hx43⟩ := xiv a0 Ab xod xod
 go_wp2
 repeat (go_quiet (fail); try go_wp2)
 go_roundg k2
 case measure => have := HJ2.out; have := HK2.out; omega
 case rel => exact ⟨(Go.bits .or .i32 (wrap32 (Ad * 64)) (wrap32 (Go.bits .and .u8 (bt a0 Ab) 63))), (wrap64 (Ab + 1)), xrr, xrr, H, ⟨by have := HJ2.out; have := HK2.out; omega⟩, ⟨xbk⟩, ⟨xbl⟩⟩
 }
 have Au := xdf c40
 clear c40
 simp only [Option.some.injEq, Prod.mk.injEq] at H
 obtain ⟨rfl, rfl, rfl⟩ := H
 go_wp2
 repeat (go_quiet (fail); try go_wp2)
 go_ret3
 exact ⟨xre, xbl⟩
 )
 )
 }
 {
 rw [if_neg c37] at H
 clear c37
 exact absurd H (by simp)
 }
 }
 }
 }
 }
 )
 )
def cr : Nat → ByteArray → Nat → Option Int
  | 0, _, _ => none
  | k + 1, s, pos => if pos < s.size then (if ((Utf8.decode s pos).1 : Int) = 65533 then (ea k (s.extract pos s.size)).bind fun d => (if d.2.2 = true then cr k s (pos + (Utf8.decode s pos).2) else some (pos : Int)) else cr k s (pos + (Utf8.decode s pos).2)) else some (-1)
def gI (k : Nat) (a0 : ByteArray) : Option Int := cr k a0 0
theorem fY : ∀ k y0 y1, LeO (cr k y0 y1) (cr (k + 1) y0 y1)
  | 0 => fun _ _ r h => by simp [cr] at h
  | k + 1 => by
    intro y0 y1
    unfold cr
    exact LeO.ite (LeO.ite (LeO.bind (gq _ _) (fun d => LeO.ite (fY k _ _) (LeO.refl _))) (fY k _ _)) (LeO.refl _)
theorem kr : ∀ a0 k, LeO (gI k a0) (gI (k + 1) a0) := fun a0 k => fY k a0 0
set_option maxHeartbeats 4000000 in
theorem kg (k : Nat) (a0 : ByteArray) (r : Int) (w : World) (h : gI k a0 = some r) :
    Calls Tryd.prog 38 #[.string a0] w fun e w' => e = .returned (.int .i64 r) ∧ Below w.heap.size w w' := by
 have H' := Zz.mk (show cr k a0 0 = some r from h)
 clear h
 go_enter Tryd.func38, Tryd.ntmps38
 go_wp2
 go_loopg [3] k (fun kq v3 wr => ∃ pos : Nat, Zz (cr kq a0 pos = some r) ∧ Zz (kq ≤ k) ∧ Zz (wr.heap[w.heap.size]? = some (.stringIter a0 pos)) ∧ Zz (Below w.heap.size w wr))
 case atStart => exact ⟨0, H', ⟨Nat.le_refl _⟩, ⟨World.iter_heap w a0 0⟩, ⟨(Below.refl _ _).alloc (Nat.le_refl _) _⟩⟩
 case round =>
  clear H'
  obtain ⟨pos, HA, HK, HI, HB⟩ := hrel
  cases gk with
  | zero => exact absurd HA.out (by simp [cr])
  | succ k1 =>
   have H := HA.out
   clear HA
   simp only [cr] at H
   by_cases hp : pos < a0.size
   · rw [if_pos hp] at H
     have hnx : ∀ ty, (Instr.next (.pointer (some ⟨w.heap.size, 0, none⟩)) true ty).run Tryd.prog wr = _ := fun ty => Lib.run_next_any_at wr w.heap.size a0 pos ty HI.out hp
     have HI2 := Zz.mk (Lib.iterAt_heap wr w.heap.size a0 pos (pos + (Utf8.decode a0 pos).2) HI.out)
     have HB2 := Zz.mk (Lib.below_iterAt HB.out (k := w.heap.size) (Nat.le_refl _) a0 (pos + (Utf8.decode a0 pos).2))
     obtain ⟨W1, hW1⟩ : ∃ W1, W1 = wr.iterAt w.heap.size a0 (pos + (Utf8.decode a0 pos).2) := ⟨_, rfl⟩
     rw [← hW1] at hnx HI2 HB2
     clear hW1 HI HB
     by_cases hc : ((Utf8.decode a0 pos).1 : Int) = 65533
     · rw [if_pos hc] at H
       obtain ⟨⟨d1, d2, d3⟩, HD0, H⟩ := Option.bind_eq_some_iff.1 H
       simp only at H
       have HD := Zz.mk HD0
       clear HD0
       have hq0 : (0 : Int) ≤ (pos : Int) := Int.natCast_nonneg _
       have hq1 : (pos : Int) ≤ (a0.size : Int) := by omega
       have hb0 : (((Utf8.decode a0 pos).1 : Int) == 65533) = true := beq_iff_eq.2 hc
       have hb1 : (((Utf8.decode a0 pos).1 : Int) != 65533) = false := by rw [bne, hb0]; rfl
       generalize ((Utf8.decode a0 pos).1 : Int) = cc at hnx hb0 hb1
       clear hc
       cases d3 with
       | true =>
        rw [if_pos rfl] at H
        replace H := xa H
        go_wp2_with (first | (go_at_call 48; (with_reducible refine (d9 (w := _) (h := HD.out)).mono ?_); rintro e w2 ⟨rfl, hb⟩; replace HI2 := Zz.mk ((hb.block _ (by have := (Array.getElem?_eq_some_iff.1 HI2.out).1; omega)).trans HI2.out); replace HB2 := Zz.mk (HB2.out.trans (hb.mono HB2.out.size)); clear hb))
        go_roundg k1
        case measure => have := HK.out; omega
        case rel => exact ⟨_, H, ⟨by have := HK.out; omega⟩, HI2, HB2⟩
       | false =>
        rw [if_neg (by simp)] at H
        obtain rfl := Option.some.inj H
        go_wp2_with (first | (go_at_call 48; (with_reducible refine (d9 (w := _) (h := HD.out)).mono ?_); rintro e w2 ⟨rfl, hb⟩; replace HB2 := Zz.mk (HB2.out.trans (hb.mono HB2.out.size)); clear hb))
        go_ret
        exact ⟨rfl, HB2.out⟩
     · rw [if_neg hc] at H
       have hb0 : (((Utf8.decode a0 pos).1 : Int) == 65533) = false := by simpa using hc
       have hb1 : (((Utf8.decode a0 pos).1 : Int) != 65533) = true := by rw [bne, hb0]; rfl
       generalize ((Utf8.decode a0 pos).1 : Int) = cc at hnx hb0 hb1
       clear hc
       replace H := xa H
       go_wp2
       go_roundg k1
       case measure => have := HK.out; omega
       case rel => exact ⟨_, H, ⟨by have := HK.out; omega⟩, HI2, HB2⟩
   · rw [if_neg hp] at H
     obtain rfl := Option.some.inj H
     have hnx : ∀ ty, (Instr.next (.pointer (some ⟨w.heap.size, 0, none⟩)) true ty).run Tryd.prog wr = _ := fun ty => Lib.run_next_end_at wr w.heap.size a0 pos ty HI.out hp
     go_wp2
     go_ret
     exact ⟨rfl, HB.out⟩
def fa (k : Nat) (a0 : ByteArray) : Option (Bool) := (gI k a0).bind fun t107 => (some (decide (t107 < 0)))
theorem i6 : ∀ a0 k, LeO (fa k a0) (fa (k + 1) a0) := by
  intro a0 k
  have m0 := @kr
  unfold fa
  exact xmo
theorem kh (k : Nat) (a0 : ByteArray) (r : Bool) (w : World) (h : fa k a0 = some r) :
    Calls Tryd.prog 29 #[.string a0] w fun e w' => e = .returned (.bool r) ∧ Below w.heap.size w w' := by
 have HB := Zz.mk (Below.refl w.heap.size w)
 have H := h
 clear h
 unfold fa at H
 replace H := xbd H
 obtain ⟨t107, A2, H⟩ := H
 try dsimp only at H
 obtain rfl := Option.some.inj H
 go_enter Tryd.func29, Tryd.ntmps29
 go_wp2_with (first | ((with_reducible refine xgc (f := 38) rfl ?_); refine xca 4 Tryd.func38 (kg (w := _) (h := A2.out)) ?_; rintro w3 hb; replace HB := xst hb; (try clear hb)))
 go_ret
 exact ⟨xre, xbl⟩
mutual
def cK : Nat → ByteArray → ByteArray → Int → Option (Int)
  | 0, _, _, _ => none
  | k + 1, x0, x2, x7 => if x7 < (x0.size : Int) then (cL k x0 x2 x7 (x2.size : Int) 0) else (some (-1))
def cL : Nat → ByteArray → ByteArray → Int → Int → Int → Option (Int)
  | 0, _, _, _, _, _ => none
  | k + 1, x0, x2, x7, x18, x19 => if x19 < x18 then (if 0 ≤ x7 then (if x7 < (x0.size : Int) then (if 0 ≤ x19 then (if x19 < (x2.size : Int) then (if (bt x0 x7) = (bt x2 x19) then (some x7) else (cL k x0 x2 x7 x18 (wrap64 (x19 + 1)))) else (none)) else (none)) else (none)) else (none)) else (cK k x0 x2 (wrap64 (x7 + 1)))
end
def cG (k : Nat) (a0 : ByteArray) (a1 : Int) (a2 : ByteArray) : Option (Int) := cK k a0 a2 (mx a1 0)
theorem gX : ∀ k, (∀ y0 y1 y2, LeO (cK k y0 y1 y2) (cK (k + 1) y0 y1 y2)) ∧ (∀ y0 y1 y2 y3 y4, LeO (cL k y0 y1 y2 y3 y4) (cL (k + 1) y0 y1 y2 y3 y4))
  | 0 => ⟨fun _ _ _ r h => by simp [cK] at h, fun _ _ _ _ _ r h => by simp [cL] at h⟩
  | k + 1 => by
    obtain ⟨ih0, ih1⟩ := gX k
    refine ⟨?_, ?_⟩
    · intro y0 y1 y2
      unfold cK
      exact xmo
    · intro y0 y1 y2 y3 y4
      unfold cL
      exact xmo
theorem er : ∀ a0 a1 a2 k, LeO (cG k a0 a1 a2) (cG (k + 1) a0 a1 a2) := by
  intro a0 a1 a2 k
  obtain ⟨ih0, ih1⟩ := gX k
  unfold cG
  exact xmo
theorem b8 (k : Nat) (a0 : ByteArray) (a1 : Int) (a2 : ByteArray) (r : Int) (w : World) (h : cG k a0 a1 a2 = some r) :
    Calls Tryd.prog 49 #[.string a0, .int .i64 a1, .string a2] w fun e w' => e = .returned (.int .i64 r) ∧ Below w.heap.size w w' := by
 have HB := Zz.mk (Below.refl w.heap.size w)
 have H := h
 clear h
 unfold cG at H
 obtain ⟨Ag, Ab⟩ : ∃ j_ : Int, (mx a1 0) = j_ := ⟨_, rfl⟩
 first | rw [Ab] at H | simp only [Ab] at H | skip
 (try (have Ai : 0 ≤ Ag := by (rw [← Ab]; unfold mx; (repeat' split) <;> omega)))
 (try (have Aj : 0 ≤ Ag := by omega))
 have hji4_ : (if a1 < 0 then 0 else a1) = Ag := Ab
 have H' := Zz.mk H
 clear H
 go_enter Tryd.func49, Tryd.ntmps49
 go_wp2
 repeat (go_quiet (fail); try go_wp2)
 go_loopg [7] k (fun kq v7 w' => ∃ Ac, v7 = .int .i64 Ac ∧ Zz (cK kq a0 a2 Ac = some r) ∧ Zz (kq ≤ k) ∧ Zz (Below w.heap.size w w'))
 case atStart => exact ⟨(Ag), (by first | rfl | (simp; done) | (simp only [← Ab] <;> (first | rfl | (rw [Int.tdiv_eq_ediv_of_nonneg (by unfold mx; split <;> omega)]; done) | simp)) | (simp [*]; done) | (simp [wrap64]; done)), H', ⟨Nat.le_refl _⟩, ⟨xbl⟩⟩
 case round => (
 clear H'
 obtain ⟨Ac, rfl, HA, HK1, HB⟩ := hrel
 cases gk with
 | zero => exact absurd HA.out (by simp [cK])
 | succ k1 => (
 have H := HA.out
 clear HA
 simp only [cK] at H
 refine xid H ?_ ?_ <;> clear H <;> intro c5 H
 {
 have Ad := xdt c5
 clear c5
 have H' := Zz.mk H
 clear H
 go_wp2
 repeat (go_quiet (fail); try go_wp2)
 go_loopg [19] k1 (fun kq v19 w' => ∃ Aa, v19 = .int .i64 Aa ∧ Zz (cL kq a0 a2 Ac (a2.size : Int) Aa = some r) ∧ Zz (kq ≤ k1) ∧ Zz (Below w.heap.size w w'))
 case atStart => exact ⟨(0), xrr, H', ⟨Nat.le_refl _⟩, ⟨xbl⟩⟩
 case round => (
 clear H'
 clear Ad
 obtain ⟨Aa, rfl, HA, HK2, HB⟩ := hrel
 cases gk with
 | zero => exact absurd HA.out (by simp [cL])
 | succ k2 => (
 have H := HA.out
 clear HA
 simp only [cL] at H
 refine xid H ?_ ?_ <;> clear H <;> intro c6 H
 {
 have Ah := xdt c6
 clear c6
 refine xin H ?_; clear H; intro c7 H
 have Am := xdt c7
 clear c7
 refine xin H ?_; clear H; intro c8 H
 have An := xdt c8
 clear c8
 refine xin H ?_; clear H; intro c10 H
 have Ak := xdt c10
 clear c10
 refine xin H ?_; clear H; intro c11 H
 have Al := xdt c11
 clear c11
 refine xid H ?_ ?_ <;> clear H <;> intro c13 H
 {
 obtain ⟨Ae, Af⟩ := xqe c13
 clear c13
 obtain rfl := Option.some.inj H
 obtain ⟨p9, q9, hx9⟩ := xiv a0 Ac xod xod
 obtain ⟨p12, q12, hx12⟩ := xiv a2 Aa xod xod
 go_wp2
 repeat (go_quiet (fail); try go_wp2)
 go_ret
 exact ⟨by first | exact xrd | (simp only [← Ab]; exact xrd) | exact xre, xbl⟩
 }
 obtain ⟨Ae, Af⟩ := xqn c13
 replace H := xa H
 obtain ⟨p9, q9, hx9⟩ := xiv a0 Ac xod xod
 obtain ⟨p12, q12, hx12⟩ := xiv a2 Aa xod xod
 go_wp2
 repeat (go_quiet (fail); try go_wp2)
 go_roundg k2
 case measure => have := HK1.out; have := HK2.out; omega
 case rel => exact ⟨(wrap64 (Aa + 1)), xrr, H, ⟨by have := HK1.out; have := HK2.out; omega⟩, ⟨xbl⟩⟩
 }
 have Ah := xdf c6
 clear c6
 replace H := xa H
 go_wp2
 repeat (go_quiet (fail); try go_wp2)
 go_roundg k2
 case measure => have := HK1.out; have := HK2.out; omega
 case rel => exact ⟨(wrap64 (Ac + 1)), xrr, H, ⟨by have := HK1.out; have := HK2.out; omega⟩, ⟨xbl⟩⟩
 )
 )
 }
 have Ad := xdf c5
 clear c5
 obtain rfl := Option.some.inj H
 go_wp2
 repeat (go_quiet (fail); try go_wp2)
 go_ret
 exact ⟨by first | exact xrd | (simp only [← Ab]; exact xrd) | exact xre, xbl⟩
 )
 )
mutual
def ce : Nat → Int → Bool → Option (Int)
  | 0, _, _ => none
  | k + 1, x3, x4 => if x4 = true then (some 4) else (if x3 = 33 then (aQ k x3 (x3 == 33)) else (if x3 = 36 then (aQ k x3 (x3 == 36)) else (if x3 = 38 then (aQ k x3 (x3 == 38)) else (if x3 = 39 then (aQ k x3 (x3 == 39)) else (if x3 = 40 then (aQ k x3 (x3 == 40)) else (if x3 = 41 then (aQ k x3 (x3 == 41)) else (if x3 = 42 then (aQ k x3 (x3 == 42)) else (if x3 = 43 then (aQ k x3 (x3 == 43)) else (if x3 = 44 then (aQ k x3 (x3 == 44)) else (if x3 = 59 then (aQ k x3 (x3 == 59)) else (aQ k x3 (x3 == 61))))))))))))
def aQ : Nat → Int → Bool → Option (Int)
  | 0, _, _ => none
  | k + 1, x3, x9 => if x9 = true then (some 8) else (if x3 = 58 then (some 16) else (if x3 = 47 then (some 16) else (if x3 = 63 then (some 16) else (if x3 = 35 then (some 16) else (if x3 = 91 then (some 16) else (if x3 = 93 then (some 16) else (if x3 = 64 then (some 16) else (some 0))))))))
end
def d6 (k : Nat) (a0 : Int) : Option (Int) := if a0 = 45 then (ce k a0 (a0 == 45)) else (if a0 = 46 then (ce k a0 (a0 == 46)) else (if a0 = 95 then (ce k a0 (a0 == 95)) else (ce k a0 (a0 == 126))))
theorem g5 : ∀ k, (∀ y0 y1, LeO (ce k y0 y1) (ce (k + 1) y0 y1)) ∧ (∀ y0 y1, LeO (aQ k y0 y1) (aQ (k + 1) y0 y1))
  | 0 => ⟨fun _ _ r h => by simp [ce] at h, fun _ _ r h => by simp [aQ] at h⟩
  | k + 1 => by
    obtain ⟨ih0, ih1⟩ := g5 k
    refine ⟨?_, ?_⟩
    · intro y0 y1
      unfold ce
      exact xmo
    · intro y0 y1
      unfold aQ
      exact xmo
theorem iF : ∀ a0 k, LeO (d6 k a0) (d6 (k + 1) a0) := by
  intro a0 k
  obtain ⟨ih0, ih1⟩ := g5 k
  unfold d6
  exact xmo
theorem ig (k : Nat) (a0 : Int) (r : Int) (w : World) (h : d6 k a0 = some r) :
    Calls Tryd.prog 59 #[.int .u8 a0] w fun e w' => e = .returned (.int .i64 r) ∧ Drawn0 w w' := by
 have H := h
 clear h
 unfold d6 at H
 have AK := Zz.mk H
 clear H
 go_enter Tryd.func59, Tryd.ntmps59
 go_upto_if 4 with (fail)
 go_cut [4] (fun v4 wc => ∃ kq Ac, v4 = .bool Ac ∧ Zz (ce kq a0 Ac = some r) ∧ Zz (kq ≤ k) ∧ Drawn0 w wc)
 case first => (
 have H := AK.out
 clear AK
 refine xid H ?_ ?_ <;> clear H <;> intro c3 H
 {
 obtain ⟨Aa, Ad⟩ := xqe c3
 clear c3
 (first | rw [Aa] | (simp only [an, au]; rw [Aa]) | (rw [AL]; (try simp only [Bool.not_false, Bool.not_true])) | (rw [AM]; (try simp only [Bool.not_false, Bool.not_true])) | rw [Ad] | skip)
 replace H := xa H
 go_wp2
 go_meet
 case rel => exact ⟨_, ((a0 == 45)), xrr, H, ⟨xom⟩, xdr⟩
 }
 obtain ⟨Aa, Ad⟩ := xqn c3
 (first | rw [Aa] | (simp only [an, au]; rw [Aa]) | (rw [AL]; (try simp only [Bool.not_false, Bool.not_true])) | (rw [AM]; (try simp only [Bool.not_false, Bool.not_true])) | rw [Ad] | skip)
 refine xid H ?_ ?_ <;> clear H <;> intro c4 H
 {
 obtain ⟨AN, AO⟩ := xqe c4
 clear c4
 replace H := xa H
 go_wp2
 go_meet
 case rel => exact ⟨_, ((a0 == 46)), xrr, H, ⟨xom⟩, xdr⟩
 }
 obtain ⟨AN, AO⟩ := xqn c4
 refine xid H ?_ ?_ <;> clear H <;> intro c5 H
 {
 obtain ⟨AP, AQ⟩ := xqe c5
 clear c5
 replace H := xa H
 go_wp2
 go_meet
 case rel => exact ⟨_, ((a0 == 95)), xrr, H, ⟨xom⟩, xdr⟩
 }
 obtain ⟨AP, AQ⟩ := xqn c5
 replace H := xa H
 go_wp2
 go_meet
 case rel => exact ⟨_, ((a0 == 126)), xrr, H, ⟨xom⟩, xdr⟩
 )
 case rest => (
 clear AK
 obtain ⟨kq, Ac, rfl, HA, HJ1, ⟨mc1, rfl⟩⟩ := hcut
 cases kq with
 | zero => exact absurd HA.out (by simp [ce])
 | succ kj1 => (
 have H := HA.out
 clear HA
 simp only [ce] at H
 refine xib H ?_ ?_ <;> clear H <;> rintro rfl H
 {
 obtain rfl := Option.some.inj H
 go_wp2
 go_ret
 exact ⟨xrr, xdr⟩
 }
 have AR := Zz.mk H
 clear H
 go_upto_if 9 with (fail)
 go_cut [9] (fun v9 wc => ∃ kq Ae, v9 = .bool Ae ∧ Zz (aQ kq a0 Ae = some r) ∧ Zz (kq ≤ kj1) ∧ Drawn0 w wc)
 case first => (
 have H := AR.out
 clear AR
 refine xid H ?_ ?_ <;> clear H <;> intro c8 H
 {
 obtain ⟨Ab, Af⟩ := xqe c8
 clear c8
 (first | rw [Ab] | (simp only [an, au]; rw [Ab]) | (rw [AS]; (try simp only [Bool.not_false, Bool.not_true])) | (rw [AT]; (try simp only [Bool.not_false, Bool.not_true])) | rw [Af] | skip)
 replace H := xa H
 go_wp2
 go_meet
 case rel => exact ⟨_, ((a0 == 33)), xrr, H, ⟨xoj HJ1⟩, xdr⟩
 }
 obtain ⟨Ab, Af⟩ := xqn c8
 (first | rw [Ab] | (simp only [an, au]; rw [Ab]) | (rw [AS]; (try simp only [Bool.not_false, Bool.not_true])) | (rw [AT]; (try simp only [Bool.not_false, Bool.not_true])) | rw [Af] | skip)
 refine xid H ?_ ?_ <;> clear H <;> intro c9 H
 {
 obtain ⟨AU, AV⟩ := xqe c9
 clear c9
 replace H := xa H
 go_wp2
 go_meet
 case rel => exact ⟨_, ((a0 == 36)), xrr, H, ⟨xoj HJ1⟩, xdr⟩
 }
 obtain ⟨AU, AV⟩ := xqn c9
 refine xid H ?_ ?_ <;> clear H <;> intro c10 H
 {
 obtain ⟨Ag, Ah⟩ := xqe c10
 clear c10
 replace H := xa H
 go_wp2
 go_meet
 case rel => exact ⟨_, ((a0 == 38)), xrr, H, ⟨xoj HJ1⟩, xdr⟩
 }
 obtain ⟨Ag, Ah⟩ := xqn c10
 refine xid H ?_ ?_ <;> clear H <;> intro c11 H
 {
 obtain ⟨Ai, Aj⟩ := xqe c11
 clear c11
 replace H := xa H
 go_wp2
 go_meet
 case rel => exact ⟨_, ((a0 == 39)), xrr, H, ⟨xoj HJ1⟩, xdr⟩
 }
 obtain ⟨Ai, Aj⟩ := xqn c11
 refine xid H ?_ ?_ <;> clear H <;> intro c12 H
 {
 obtain ⟨Ak, Al⟩ := xqe c12
 clear c12
 replace H := xa H
 go_wp2
 go_meet
 case rel => exact ⟨_, ((a0 == 40)), xrr, H, ⟨xoj HJ1⟩, xdr⟩
 }
 obtain ⟨Ak, Al⟩ := xqn c12
 refine xid H ?_ ?_ <;> clear H <;> intro c13 H
 {
 obtain ⟨Am, An⟩ := xqe c13
 clear c13
 replace H := xa H
 go_wp2
 go_meet
 case rel => exact ⟨_, ((a0 == 41)), xrr, H, ⟨xoj HJ1⟩, xdr⟩
 }
 obtain ⟨Am, An⟩ := xqn c13
 refine xid H ?_ ?_ <;> clear H <;> intro c14 H
 {
 obtain ⟨Ao, Ap⟩ := xqe c14
 clear c14
 replace H := xa H
 go_wp2
 go_meet
 case rel => exact ⟨_, ((a0 == 42)), xrr, H, ⟨xoj HJ1⟩, xdr⟩
 }
 obtain ⟨Ao, Ap⟩ := xqn c14
 refine xid H ?_ ?_ <;> clear H <;> intro c15 H
 {
 obtain ⟨Aq, Ar⟩ := xqe c15
 clear c15
 replace H := xa H
 go_wp2
 go_meet
 case rel => exact ⟨_, ((a0 == 43)), xrr, H, ⟨xoj HJ1⟩, xdr⟩
 }
 obtain ⟨Aq, Ar⟩ := xqn c15
 refine xid H ?_ ?_ <;> clear H <;> intro c16 H
 {
 obtain ⟨As, At⟩ := xqe c16
 clear c16
 replace H := xa H
 go_wp2
 go_meet
 case rel => exact ⟨_, ((a0 == 44)), xrr, H, ⟨xoj HJ1⟩, xdr⟩
 }
 obtain ⟨As, At⟩ := xqn c16
 refine xid H ?_ ?_ <;> clear H <;> intro c17 H
 {
 obtain ⟨Au, Av⟩ := xqe c17
 clear c17
 replace H := xa H
 go_wp2
 go_meet
 case rel => exact ⟨_, ((a0 == 59)), xrr, H, ⟨xoj HJ1⟩, xdr⟩
 }
 obtain ⟨Au, Av⟩ := xqn c17
 replace H := xa H
 go_wp2
 go_meet
 case rel => exact ⟨_, ((a0 == 61)), xrr, H, ⟨xoj HJ1⟩, xdr⟩
 )
 case rest => (
 clear AR
 obtain ⟨kq, Ae, rfl, HA, HJ6, ⟨mc6, rfl⟩⟩ := hcut
 cases kq with
 | zero => exact absurd HA.out (by simp [aQ])
 | succ kj6 => (
 have H := HA.out
 clear HA
 simp only [aQ] at H
 refine xib H ?_ ?_ <;> clear H <;> rintro rfl H
 {
 obtain rfl := Option.some.inj H
 go_wp2
 go_ret
 exact ⟨xrr, xdr⟩
 }
 refine xid H ?_ ?_ <;> clear H <;> intro c19 H
 {
 obtain ⟨Aw, Ax⟩ := xqe c19
 clear c19
 obtain rfl := Option.some.inj H
 go_wp2
 go_ret
 exact ⟨xrr, xdr⟩
 }
 obtain ⟨Aw, Ax⟩ := xqn c19
 refine xid H ?_ ?_ <;> clear H <;> intro c20 H
 {
 obtain ⟨Ay, Az⟩ := xqe c20
 clear c20
 obtain rfl := Option.some.inj H
 go_wp2
 go_ret
 exact ⟨xrr, xdr⟩
 }
 obtain ⟨Ay, Az⟩ := xqn c20
 refine xid H ?_ ?_ <;> clear H <;> intro c21 H
 {
 obtain ⟨AA, AB⟩ := xqe c21
 clear c21
 obtain rfl := Option.some.inj H
 go_wp2
 go_ret
 exact ⟨xrr, xdr⟩
 }
 obtain ⟨AA, AB⟩ := xqn c21
 refine xid H ?_ ?_ <;> clear H <;> intro c22 H
 {
 obtain ⟨AC, AD⟩ := xqe c22
 clear c22
 obtain rfl := Option.some.inj H
 go_wp2
 go_ret
 exact ⟨xrr, xdr⟩
 }
 obtain ⟨AC, AD⟩ := xqn c22
 refine xid H ?_ ?_ <;> clear H <;> intro c23 H
 {
 obtain ⟨AE, AF⟩ := xqe c23
 clear c23
 obtain rfl := Option.some.inj H
 go_wp2
 go_ret
 exact ⟨xrr, xdr⟩
 }
 obtain ⟨AE, AF⟩ := xqn c23
 refine xid H ?_ ?_ <;> clear H <;> intro c24 H
 {
 obtain ⟨AG, AH⟩ := xqe c24
 clear c24
 obtain rfl := Option.some.inj H
 go_wp2
 go_ret
 exact ⟨xrr, xdr⟩
 }
 obtain ⟨AG, AH⟩ := xqn c24
 refine xid H ?_ ?_ <;> clear H <;> intro c25 H
 {
 obtain ⟨AI, AJ⟩ := xqe c25
 clear c25
 obtain rfl := Option.some.inj H
 go_wp2
 go_ret
 exact ⟨xrr, xdr⟩
 }
 obtain ⟨AI, AJ⟩ := xqn c25
 obtain rfl := Option.some.inj H
 go_wp2
 go_ret
 exact ⟨xrr, xdr⟩
 )
 )
 )
 )
mutual
def cw : Nat → Int → Bool → Option (Int)
  | 0, _, _ => none
  | k + 1, x0, x3 => if x3 = true then (some 34) else (if x0 ≥ 97 then (cx k x0 (decide (x0 ≤ 102))) else (cx k x0 false))
def cx : Nat → Int → Bool → Option (Int)
  | 0, _, _ => none
  | k + 1, x0, x10 => if x10 = true then (cf k x0 x10) else (if x0 ≥ 65 then (cf k x0 (decide (x0 ≤ 70))) else (cf k x0 false))
def cf : Nat → Int → Bool → Option (Int)
  | 0, _, _ => none
  | k + 1, x0, x10 => if x10 = true then (some 33) else (if x0 ≥ 103 then (cy k x0 (decide (x0 ≤ 122))) else (cy k x0 false))
def cy : Nat → Int → Bool → Option (Int)
  | 0, _, _ => none
  | k + 1, x0, x23 => if x23 = true then (some 1) else (if x0 ≥ 71 then (if x0 ≤ 90 then (some 1) else ((d6 k x0).bind fun t108 => (some t108))) else ((d6 k x0).bind fun t109 => (some t109)))
end
def eg (k : Nat) (a0 : Int) : Option (Int) := if a0 ≥ 48 then (cw k a0 (decide (a0 ≤ 57))) else (cw k a0 false)
theorem gL : ∀ k, (∀ y0 y1, LeO (cw k y0 y1) (cw (k + 1) y0 y1)) ∧ (∀ y0 y1, LeO (cx k y0 y1) (cx (k + 1) y0 y1)) ∧ (∀ y0 y1, LeO (cf k y0 y1) (cf (k + 1) y0 y1)) ∧ (∀ y0 y1, LeO (cy k y0 y1) (cy (k + 1) y0 y1))
  | 0 => ⟨fun _ _ r h => by simp [cw] at h, fun _ _ r h => by simp [cx] at h, fun _ _ r h => by simp [cf] at h, fun _ _ r h => by simp [cy] at h⟩
  | k + 1 => by
    obtain ⟨ih0, ih1, ih2, ih3⟩ := gL k
    have m0 := @iF
    refine ⟨?_, ?_, ?_, ?_⟩
    · intro y0 y1
      unfold cw
      exact xmo
    · intro y0 y1
      unfold cx
      exact xmo
    · intro y0 y1
      unfold cf
      exact xmo
    · intro y0 y1
      unfold cy
      exact xmo
theorem jP : ∀ a0 k, LeO (eg k a0) (eg (k + 1) a0) := by
  intro a0 k
  obtain ⟨ih0, ih1, ih2, ih3⟩ := gL k
  have m0 := @iF
  unfold eg
  exact xmo
theorem jH (k : Nat) (a0 : Int) (r : Int) (w : World) (h : eg k a0 = some r) :
    Calls Tryd.prog 44 #[.int .u8 a0] w fun e w' => e = .returned (.int .i64 r) ∧ Drawn0 w w' := by
 have H := h
 clear h
 unfold eg at H
 have Ao := Zz.mk H
 clear H
 go_enter Tryd.func44, Tryd.ntmps44
 go_upto_region 1 with (fail)
 go_cut [3] (fun v3 wc => ∃ kq Ah, v3 = .bool Ah ∧ Zz (cw kq a0 Ah = some r) ∧ Zz (kq ≤ k) ∧ Drawn0 w wc)
 case first => (
 have H := Ao.out
 clear Ao
 refine xid H ?_ ?_ <;> clear H <;> intro c3 H
 {
 have Ac := xdt c3
 clear c3
 (first | rw [Ac] | (simp only [an, au]; rw [Ac]) | (rw [Ap]; (try simp only [Bool.not_false, Bool.not_true])) | (rw [Aq]; (try simp only [Bool.not_false, Bool.not_true])) | rw [Ar] | skip)
 replace H := xa H
 go_wp2
 go_meet
 case rel => exact ⟨_, (decide (a0 ≤ 57)), xrr, H, ⟨xom⟩, xdr⟩
 }
 have Ac := xdf c3
 clear c3
 (first | rw [Ac] | (simp only [an, au]; rw [Ac]) | (rw [Ap]; (try simp only [Bool.not_false, Bool.not_true])) | (rw [Aq]; (try simp only [Bool.not_false, Bool.not_true])) | rw [Ar] | skip)
 replace H := xa H
 go_wp2
 go_meet
 case rel => exact ⟨_, (false), xrr, H, ⟨xom⟩, xdr⟩
 )
 case rest => (
 clear Ao
 obtain ⟨kq, Ah, rfl, HA, HJ1, ⟨mc1, rfl⟩⟩ := hcut
 cases kq with
 | zero => exact absurd HA.out (by simp [cw])
 | succ kj1 => (
 have H := HA.out
 clear HA
 simp only [cw] at H
 refine xib H ?_ ?_ <;> clear H <;> rintro rfl H
 {
 obtain rfl := Option.some.inj H
 go_wp2
 go_ret
 exact ⟨xrr, xdr⟩
 }
 have As := Zz.mk H
 clear H
 go_upto_region 3 with (fail)
 go_cut [10] (fun v10 wc => ∃ kq Ad, v10 = .bool Ad ∧ Zz (cx kq a0 Ad = some r) ∧ Zz (kq ≤ kj1) ∧ Drawn0 w wc)
 case first => (
 have H := As.out
 clear As
 refine xid H ?_ ?_ <;> clear H <;> intro c6 H
 {
 have Ae := xdt c6
 clear c6
 (first | rw [Ae] | (simp only [an, au]; rw [Ae]) | (rw [At]; (try simp only [Bool.not_false, Bool.not_true])) | (rw [Au]; (try simp only [Bool.not_false, Bool.not_true])) | rw [Av] | skip)
 replace H := xa H
 go_wp2
 go_meet
 case rel => exact ⟨_, (decide (a0 ≤ 102)), xrr, H, ⟨xoj HJ1⟩, xdr⟩
 }
 have Ae := xdf c6
 clear c6
 (first | rw [Ae] | (simp only [an, au]; rw [Ae]) | (rw [At]; (try simp only [Bool.not_false, Bool.not_true])) | (rw [Au]; (try simp only [Bool.not_false, Bool.not_true])) | rw [Av] | skip)
 replace H := xa H
 go_wp2
 go_meet
 case rel => exact ⟨_, (false), xrr, H, ⟨xoj HJ1⟩, xdr⟩
 )
 case rest => (
 clear As
 obtain ⟨kq, Ad, rfl, HA, HJ4, ⟨mc4, rfl⟩⟩ := hcut
 cases kq with
 | zero => exact absurd HA.out (by simp [cx])
 | succ kj4 => (
 have H := HA.out
 clear HA
 simp only [cx] at H
 have Aw := Zz.mk H
 clear H
 go_upto_if 10 with (fail)
 go_cut [10] (fun v10 wc => ∃ kq Af, v10 = .bool Af ∧ Zz (cf kq a0 Af = some r) ∧ Zz (kq ≤ kj4) ∧ Drawn0 w wc)
 case first => (
 have H := Aw.out
 clear Aw
 refine xib H ?_ ?_ <;> clear H <;> rintro rfl H
 {
 replace H := xa H
 go_wp2
 go_meet
 case rel => exact ⟨_, (true), xrr, H, ⟨xoJ HJ1 HJ4⟩, xdr⟩
 }
 refine xid H ?_ ?_ <;> clear H <;> intro c9 H
 {
 have Ag := xdt c9
 clear c9
 (first | rw [Ag] | (simp only [an, au]; rw [Ag]) | (rw [Ax]; (try simp only [Bool.not_false, Bool.not_true])) | (rw [Ay]; (try simp only [Bool.not_false, Bool.not_true])) | rw [Az] | skip)
 replace H := xa H
 go_wp2
 go_meet
 case rel => exact ⟨_, (decide (a0 ≤ 70)), xrr, H, ⟨xoJ HJ1 HJ4⟩, xdr⟩
 }
 have Ag := xdf c9
 clear c9
 (first | rw [Ag] | (simp only [an, au]; rw [Ag]) | (rw [Ax]; (try simp only [Bool.not_false, Bool.not_true])) | (rw [Ay]; (try simp only [Bool.not_false, Bool.not_true])) | rw [Az] | skip)
 replace H := xa H
 go_wp2
 go_meet
 case rel => exact ⟨_, (false), xrr, H, ⟨xoJ HJ1 HJ4⟩, xdr⟩
 )
 case rest => (
 clear Aw
 obtain ⟨kq, Af, rfl, HA, HJ6, ⟨mc6, rfl⟩⟩ := hcut
 cases kq with
 | zero => exact absurd HA.out (by simp [cf])
 | succ kj6 => (
 have H := HA.out
 clear HA
 simp only [cf] at H
 refine xib H ?_ ?_ <;> clear H <;> rintro rfl H
 {
 obtain rfl := Option.some.inj H
 go_wp2
 go_ret
 exact ⟨xrr, xdr⟩
 }
 have Ai := Zz.mk H
 clear H
 go_upto_region 6 with (fail)
 go_cut [23] (fun v23 wc => ∃ kq Ab, v23 = .bool Ab ∧ Zz (cy kq a0 Ab = some r) ∧ Zz (kq ≤ kj6) ∧ Drawn0 w wc)
 case first => (
 have H := Ai.out
 clear Ai
 refine xid H ?_ ?_ <;> clear H <;> intro c12 H
 {
 have Aa := xdt c12
 clear c12
 (first | rw [Aa] | (simp only [an, au]; rw [Aa]) | (rw [Aj]; (try simp only [Bool.not_false, Bool.not_true])) | (rw [Ak]; (try simp only [Bool.not_false, Bool.not_true])) | rw [Al] | skip)
 replace H := xa H
 go_wp2
 go_meet
 case rel => exact ⟨_, (decide (a0 ≤ 122)), xrr, H, ⟨by have := HJ1.out; have := HJ4.out; have := HJ6.out; first | omega | exact Nat.le_refl _⟩, xdr⟩
 }
 have Aa := xdf c12
 clear c12
 (first | rw [Aa] | (simp only [an, au]; rw [Aa]) | (rw [Aj]; (try simp only [Bool.not_false, Bool.not_true])) | (rw [Ak]; (try simp only [Bool.not_false, Bool.not_true])) | rw [Al] | skip)
 replace H := xa H
 go_wp2
 go_meet
 case rel => exact ⟨_, (false), xrr, H, ⟨by have := HJ1.out; have := HJ4.out; have := HJ6.out; first | omega | exact Nat.le_refl _⟩, xdr⟩
 )
 case rest => (
 clear Ai
 obtain ⟨kq, Ab, rfl, HA, HJ10, ⟨mc10, rfl⟩⟩ := hcut
 cases kq with
 | zero => exact absurd HA.out (by simp [cy])
 | succ kj10 => (
 have H := HA.out
 clear HA
 simp only [cy] at H
 refine xib H ?_ ?_ <;> clear H <;> rintro rfl H
 {
 obtain rfl := Option.some.inj H
 go_wp2
 go_ret
 exact ⟨xrr, xdr⟩
 }
 refine xid H ?_ ?_ <;> clear H <;> intro c14 H
 {
 have Am := xdt c14
 clear c14
 refine xid H ?_ ?_ <;> clear H <;> intro c15 H
 {
 have An := xdt c15
 clear c15
 obtain rfl := Option.some.inj H
 go_wp2
 go_ret
 exact ⟨xrr, xdr⟩
 }
 have An := xdf c15
 clear c15
 replace H := xbd H
 obtain ⟨AA, A16, H⟩ := H
 try dsimp only at H
 obtain rfl := Option.some.inj H
 go_wp2_with (first | ((with_reducible refine xgc (f := 59) rfl ?_); refine xca 37 Tryd.func59 (ig (w := _) (h := A16.out)) ?_; rintro w' ⟨nd, rfl⟩))
 go_ret
 exact ⟨xrr, xdr⟩
 }
 have Am := xdf c14
 clear c14
 replace H := xbd H
 obtain ⟨AB, A17, H⟩ := H
 try dsimp only at H
 obtain rfl := Option.some.inj H
 go_wp2_with (first | ((with_reducible refine xgc (f := 59) rfl ?_); refine xca 37 Tryd.func59 (ig (w := _) (h := A17.out)) ?_; rintro w' ⟨nd, rfl⟩))
 go_ret
 exact ⟨xrr, xdr⟩
 )
 )
 )
 )
 )
 )
 )
 )
def cM (k : Nat) (a0 : Int) (a1 : Int) : Option (Bool) := (eg k a0).bind fun t110 => (some ((Go.bits .and .i64 t110 a1) != 0))
theorem cd : ∀ a0 a1 k, LeO (cM k a0 a1) (cM (k + 1) a0 a1) := by
  intro a0 a1 k
  have m0 := @jP
  unfold cM
  exact xmo
theorem be (k : Nat) (a0 : Int) (a1 : Int) (r : Bool) (w : World) (h : cM k a0 a1 = some r) :
    Calls Tryd.prog 32 #[.int .u8 a0, .int .i64 a1] w fun e w' => e = .returned (.bool r) ∧ Drawn0 w w' := by
 have H := h
 clear h
 unfold cM at H
 replace H := xbd H
 obtain ⟨t110, A3, H⟩ := H
 try dsimp only at H
 obtain rfl := Option.some.inj H
 go_enter Tryd.func32, Tryd.ntmps32
 go_wp2_with (first | ((with_reducible refine xgc (f := 44) rfl ?_); refine xca 6 Tryd.func44 (jH (w := _) (h := A3.out)) ?_; rintro w' ⟨nd, rfl⟩))
 go_ret
 exact ⟨xrr, xdr⟩
mutual
def ck : Nat → ByteArray → Bool → Option (Bool)
  | 0, _, _ => none
  | k + 1, x0, x11 => if x11 = true then (some false) else (bX k x0 (x0.size : Int) 0)
def bX : Nat → ByteArray → Int → Int → Option (Bool)
  | 0, _, _, _ => none
  | k + 1, x0, Ab, Aa => if Aa < Ab then (if 0 ≤ Aa then (if Aa < (x0.size : Int) then ((cM k (bt x0 Aa) 3).bind fun Ac => (if Ac = true then (bX k x0 Ab (wrap64 (Aa + 1))) else (if Aa ≤ (wrap64 (Aa + 1)) then (if (wrap64 (Aa + 1)) ≤ (x0.size : Int) then ((cG k (⟨#[43, 45, 46]⟩ : ByteArray) 0 (x0.extract (Aa : Int).toNat ((wrap64 (Aa + 1)) : Int).toNat)).bind fun Ad => (if Ad < 0 then (some false) else (bX k x0 Ab (wrap64 (Aa + 1))))) else (none)) else (none)))) else (none)) else (none)) else (some true)
end
def dW (k : Nat) (a0 : ByteArray) : Option (Bool) := if a0.toList = ([] : List UInt8) then (ck k a0 true) else (if 0 < (a0.size : Int) then ((cM k (bt a0 0) 1).bind fun t111 => (ck k a0 (!t111))) else (none))
theorem gx : ∀ k, (∀ y0 y1, LeO (ck k y0 y1) (ck (k + 1) y0 y1)) ∧ (∀ y0 y1 y2, LeO (bX k y0 y1 y2) (bX (k + 1) y0 y1 y2))
  | 0 => ⟨fun _ _ r h => by simp [ck] at h, fun _ _ _ r h => by simp [bX] at h⟩
  | k + 1 => by
    obtain ⟨ih0, ih1⟩ := gx k
    have m0 := @er; have m1 := @cd
    refine ⟨?_, ?_⟩
    · intro y0 y1
      unfold ck
      exact xmo
    · intro y0 y1 y2
      unfold bX
      exact xmo
theorem jG : ∀ a0 k, LeO (dW k a0) (dW (k + 1) a0) := by
  intro a0 k
  obtain ⟨ih0, ih1⟩ := gx k
  have m0 := @er; have m1 := @cd
  unfold dW
  exact xmo
theorem gJ (k : Nat) (a0 : ByteArray) (r : Bool) (w : World) (h : dW k a0 = some r) :
    Calls Tryd.prog 50 #[.string a0] w fun e w' => e = .returned (.bool r) ∧ Below w.heap.size w w' := by
 have HB := Zz.mk (Below.refl w.heap.size w)
 have H := h
 clear h
 unfold dW at H
 have Ak := Zz.mk H
 clear H
 go_enter Tryd.func50, Tryd.ntmps50
 go_upto_region 1 with (fail)
 go_cut [11] (fun v11 wc => ∃ kq Ad, v11 = .bool Ad ∧ Zz (ck kq a0 Ad = some r) ∧ Zz (kq ≤ k) ∧ Zz (Below w.heap.size w wc))
 case first => (
 have H := Ak.out
 clear Ak
 refine xid H ?_ ?_ <;> clear H <;> intro c3 H
 {
 obtain ⟨Ae, Af⟩ := xqe c3
 (try (have Ag : a0.toList.isEmpty = true := by simpa using c3))
 clear c3
 (first | rw [Ae] | (simp only [an, au]; rw [Ae]) | (rw [Ag]; (try simp only [Bool.not_false, Bool.not_true])) | (rw [Al]; (try simp only [Bool.not_false, Bool.not_true])) | rw [Af] | skip)
 replace H := xa H
 go_wp2
 go_meet
 case rel => exact ⟨_, (true), xrr, H, ⟨xom⟩, ⟨xbl⟩⟩
 }
 obtain ⟨Ae, Af⟩ := xqn c3
 (try (have Ag : a0.toList.isEmpty = false := by simpa using c3))
 (first | rw [Ae] | (simp only [an, au]; rw [Ae]) | (rw [Ag]; (try simp only [Bool.not_false, Bool.not_true])) | (rw [Al]; (try simp only [Bool.not_false, Bool.not_true])) | rw [Af] | skip)
 refine xin H ?_; clear H; intro c4 H
 have Av := xdt c4
 have Aw : decide (0 < a0.size) = true := decide_eq_true (by omega)
 clear c4
 replace H := xbd H
 obtain ⟨Am, A6, H⟩ := H
 try dsimp only at H
 replace H := xa H
 obtain ⟨q5, AB, hx5⟩ := xi0 a0 xod
 go_wp2_with (first | (go_at_call 32; (with_reducible refine (be (w := _) (h := A6.out)).mono ?_); rintro e w' ⟨rfl, ⟨nd, rfl⟩⟩))
 go_meet
 case rel => exact ⟨_, (!Am), xrr, H, ⟨xom⟩, ⟨xbl⟩⟩
 )
 case rest => (
 clear Ak
 obtain ⟨kq, Ad, rfl, HA, HJ1, HB⟩ := hcut
 cases kq with
 | zero => exact absurd HA.out (by simp [ck])
 | succ kj1 => (
 have H := HA.out
 clear HA
 simp only [ck] at H
 refine xib H ?_ ?_ <;> clear H <;> rintro rfl H
 {
 obtain rfl := Option.some.inj H
 go_wp2
 go_ret
 exact ⟨xre, xbl⟩
 }
 have H' := Zz.mk H
 clear H
 go_wp2
 go_loopg [14] kj1 (fun kq v14 w' => ∃ Aa, v14 = .int .i64 Aa ∧ Zz (bX kq a0 (a0.size : Int) Aa = some r) ∧ Zz (kq ≤ kj1) ∧ Zz (Below w.heap.size w w'))
 case atStart => exact ⟨(0), xrr, H', ⟨Nat.le_refl _⟩, ⟨xbl⟩⟩
 case round => (
 clear H'
 obtain ⟨Aa, rfl, HA, HK2, HB⟩ := hrel
 cases gk with
 | zero => exact absurd HA.out (by simp [bX])
 | succ k2 => (
 have H := HA.out
 clear HA
 simp only [bX] at H
 refine xid H ?_ ?_ <;> clear H <;> intro c8 H
 {
 have An := xdt c8
 clear c8
 refine xin H ?_; clear H; intro c9 H
 have Ax := xdt c9
 clear c9
 refine xin H ?_; clear H; intro c10 H
 have Ap := xdt c10
 clear c10
 replace H := xbd H
 obtain ⟨Ay, A12, H⟩ := H
 try dsimp only at H
 refine xib H ?_ ?_ <;> clear H <;> rintro rfl H
 {
 replace H := xa H
 obtain ⟨p11, q11, hx11⟩ := xiv a0 Aa xod xod
 go_wp2_with (first | ((with_reducible refine xgc (f := 32) rfl ?_); refine xca 20 Tryd.func32 (be (w := _) (h := A12.out)) ?_; rintro w' ⟨nd, rfl⟩))
 go_roundg k2
 case measure => have := HJ1.out; have := HK2.out; omega
 case rel => exact ⟨(wrap64 (Aa + 1)), xrr, H, ⟨by have := HJ1.out; have := HK2.out; omega⟩, ⟨xbl⟩⟩
 }
 have Aq := eq_true (xod : 0 ≤ Aa)
 obtain ⟨Ah, Ab⟩ : ∃ j_ : Int, (wrap64 (Aa + 1)) = j_ := ⟨_, rfl⟩
 first | rw [Ab] at H | simp only [Ab] at H | skip
 (try rw [Ab] at A12)
 have Ao : (IntKind.i64.wrap (Aa + 1)) = Ah := (an _).trans Ab
 refine xin H ?_; clear H; intro c16 H
 obtain ⟨Ar, As⟩ := xcp c16
 clear c16
 refine xin H ?_; clear H; intro c17 H
 obtain ⟨At, Au⟩ := xcp c17
 clear c17
 obtain ⟨Az, Ac⟩ : ∃ j_ : ByteArray, (a0.extract (Aa : Int).toNat ((Ah) : Int).toNat) = j_ := ⟨_, rfl⟩
 try (have Ai := Ac; simp only [Int.toNat_natCast] at Ai)
 first | rw [Ac] at H | simp only [Ac] at H | skip
 (try rw [Ac] at A12)
 replace H := xbd H
 obtain ⟨AA, A19, H⟩ := H
 try dsimp only at H
 refine xid H ?_ ?_ <;> clear H <;> intro c20 H
 {
 have Aj := xdt c20
 clear c20
 obtain rfl := Option.some.inj H
 obtain ⟨p11, q11, hx11⟩ := xiv a0 Aa xod xod
 go_wp2_with (first | ((with_reducible refine xgc (f := 32) rfl ?_); refine xca 20 Tryd.func32 (be (w := _) (h := A12.out)) ?_; rintro w' ⟨nd, rfl⟩) | (go_at_call 49; (with_reducible refine (b8 (w := _) (h := A19.out)).mono ?_); rintro e w21 ⟨rfl, hb⟩; replace HB := xst hb; (try clear hb)))
 go_ret
 exact ⟨by first | exact xrd | (simp only [← Ab, ← Ac]; exact xrd) | exact xre, xbl⟩
 }
 have Aj := xdf c20
 clear c20
 replace H := xa H
 obtain ⟨p11, q11, hx11⟩ := xiv a0 Aa xod xod
 go_wp2_with (first | ((with_reducible refine xgc (f := 32) rfl ?_); refine xca 20 Tryd.func32 (be (w := _) (h := A12.out)) ?_; rintro w' ⟨nd, rfl⟩) | (go_at_call 49; (with_reducible refine (b8 (w := _) (h := A19.out)).mono ?_); rintro e w22 ⟨rfl, hb⟩; replace HB := xst hb; (try clear hb)))
 first | go_roundg k2 | (simp only [← Ab, ← Ac]; go_roundg k2)
 case measure => have := HJ1.out; have := HK2.out; omega
 case rel => exact ⟨(Ah), (by first | rfl | (simp; done) | (simp only [← Ab] <;> (first | rfl | (rw [Int.tdiv_eq_ediv_of_nonneg (by unfold mx; split <;> omega)]; done) | simp)) | (simp [*]; done) | (simp [wrap64]; done)), H, ⟨by have := HJ1.out; have := HK2.out; omega⟩, ⟨xbl⟩⟩
 }
 have An := xdf c8
 clear c8
 obtain rfl := Option.some.inj H
 go_wp2
 go_ret
 exact ⟨xre, xbl⟩
 )
 )
 )
 )
 
 
def IsS68 (w0 W : World) (g : Nat) (f0 : ByteArray) (f1 : Int) (f2 : Bool) (f3 : ByteArray) (f4 : Bool) (f5 : ByteArray) (f6 : ByteArray) (f7 : Bool) (f8 : ByteArray) (f9 : Bool) (f10 : ByteArray) : Prop := W.heap[g]? = some (.cells #[.string f0, .int .i64 f1, .bool f2, .string f3, .bool f4, .string f5, .string f6, .bool f7, .string f8, .bool f9, .string f10] 68 (0, 0)) ∧ w0.heap.size ≤ g
theorem IsS68.grown {w0 W : World} {g : Nat} {f0 : ByteArray} {f1 : Int} {f2 : Bool} {f3 : ByteArray} {f4 : Bool} {f5 : ByteArray} {f6 : ByteArray} {f7 : Bool} {f8 : ByteArray} {f9 : Bool} {f10 : ByteArray} {W1 : World} {row : Option Nat} (h : IsS68 w0 W g f0 f1 f2 f3 f4 f5 f6 f7 f8 f9 f10) (hw : W.grownBy W1 row) (hne : some g ≠ row) : IsS68 w0 W1 g f0 f1 f2 f3 f4 f5 f6 f7 f8 f9 f10 := by
  obtain ⟨hb, hg⟩ := h
  exact ⟨iy hb hw hne, hg⟩
theorem IsS68.kept {w0 W : World} {g : Nat} {f0 : ByteArray} {f1 : Int} {f2 : Bool} {f3 : ByteArray} {f4 : Bool} {f5 : ByteArray} {f6 : ByteArray} {f7 : Bool} {f8 : ByteArray} {f9 : Bool} {f10 : ByteArray} {W1 : World} {S : Nat → Prop} (h : IsS68 w0 W g f0 f1 f2 f3 f4 f5 f6 f7 f8 f9 f10) (hk : Kept W W1 S) (hne : ¬ S g) : IsS68 w0 W1 g f0 f1 f2 f3 f4 f5 f6 f7 f8 f9 f10 := by
  obtain ⟨hb, hg⟩ := h
  exact ⟨kL hb hk hne, hg⟩
theorem IsS68.below {w0 W : World} {g : Nat} {f0 : ByteArray} {f1 : Int} {f2 : Bool} {f3 : ByteArray} {f4 : Bool} {f5 : ByteArray} {f6 : ByteArray} {f7 : Bool} {f8 : ByteArray} {f9 : Bool} {f10 : ByteArray} {W1 : World} (h : IsS68 w0 W g f0 f1 f2 f3 f4 f5 f6 f7 f8 f9 f10) (hw : Below W.heap.size W W1) : IsS68 w0 W1 g f0 f1 f2 f3 f4 f5 f6 f7 f8 f9 f10 := h.grown (gD hw none) (by simp)
theorem IsS68.alloc {w0 W : World} {g : Nat} {f0 : ByteArray} {f1 : Int} {f2 : Bool} {f3 : ByteArray} {f4 : Bool} {f5 : ByteArray} {f6 : ByteArray} {f7 : Bool} {f8 : ByteArray} {f9 : Bool} {f10 : ByteArray} (h : IsS68 w0 W g f0 f1 f2 f3 f4 f5 f6 f7 f8 f9 f10) (o : Obj) : IsS68 w0 (W.alloc o) g f0 f1 f2 f3 f4 f5 f6 f7 f8 f9 f10 := h.below (bw (Below.refl _ _) o)
theorem IsS68.drewN {w0 W : World} {g : Nat} {f0 : ByteArray} {f1 : Int} {f2 : Bool} {f3 : ByteArray} {f4 : Bool} {f5 : ByteArray} {f6 : ByteArray} {f7 : Bool} {f8 : ByteArray} {f9 : Bool} {f10 : ByteArray} (h : IsS68 w0 W g f0 f1 f2 f3 f4 f5 f6 f7 f8 f9 f10) (m : Nat) : IsS68 w0 (W.drewN m) g f0 f1 f2 f3 f4 f5 f6 f7 f8 f9 f10 := h
theorem IsS68.drew {w0 W : World} {g : Nat} {f0 : ByteArray} {f1 : Int} {f2 : Bool} {f3 : ByteArray} {f4 : Bool} {f5 : ByteArray} {f6 : ByteArray} {f7 : Bool} {f8 : ByteArray} {f9 : Bool} {f10 : ByteArray} (h : IsS68 w0 W g f0 f1 f2 f3 f4 f5 f6 f7 f8 f9 f10) : IsS68 w0 W.drew g f0 f1 f2 f3 f4 f5 f6 f7 f8 f9 f10 := h
theorem IsS68.at_ {w0 W : World} {g : Nat} {f0 : ByteArray} {f1 : Int} {f2 : Bool} {f3 : ByteArray} {f4 : Bool} {f5 : ByteArray} {f6 : ByteArray} {f7 : Bool} {f8 : ByteArray} {f9 : Bool} {f10 : ByteArray} {w' : World} {m : Nat} (hq : W.drewN m = w') (h : IsS68 w0 W g f0 f1 f2 f3 f4 f5 f6 f7 f8 f9 f10) : IsS68 w0 w' g f0 f1 f2 f3 f4 f5 f6 f7 f8 f9 f10 := by subst hq; exact IsS68.drewN h m
theorem IsS68.apart {w0 W : World} {g : Nat} {f0 : ByteArray} {f1 : Int} {f2 : Bool} {f3 : ByteArray} {f4 : Bool} {f5 : ByteArray} {f6 : ByteArray} {f7 : Bool} {f8 : ByteArray} {f9 : Bool} {f10 : ByteArray} {α : Type} {d : Kd α} {e : Nat} {base : Nat} {ok : Nat → Prop} {v : Value} {xs : List α} (h : IsS68 w0 W g f0 f1 f2 f3 f4 f5 f6 f7 f8 f9 f10) (ho : d.R e W base ok v xs) (ht : ∀ q, q ∈ e :: d.E → q ≠ 68) : d.R e W base (fun k => ok k ∧ k ≠ g) v xs := by
  obtain ⟨hb, hg⟩ := h
  exact Kd.R_types ho hb ht
theorem IsS68.own_ne {w0 W : World} {g : Nat} {f0 : ByteArray} {f1 : Int} {f2 : Bool} {f3 : ByteArray} {f4 : Bool} {f5 : ByteArray} {f6 : ByteArray} {f7 : Bool} {f8 : ByteArray} {f9 : Bool} {f10 : ByteArray} {α : Type} {d : Kd α} {e : Nat} {base : Nat} {ok : Nat → Prop} {v : Value} {xs : List α} (h : IsS68 w0 W g f0 f1 f2 f3 f4 f5 f6 f7 f8 f9 f10) (ho : d.R e W base ok v xs) (ht : e ≠ 68) : some g ≠ v.ownBlock := by
  obtain ⟨hb, hg⟩ := h
  exact Kd.R_ne ho hb ht
theorem IsS68.lt {w0 W : World} {g : Nat} {f0 : ByteArray} {f1 : Int} {f2 : Bool} {f3 : ByteArray} {f4 : Bool} {f5 : ByteArray} {f6 : ByteArray} {f7 : Bool} {f8 : ByteArray} {f9 : Bool} {f10 : ByteArray} (h : IsS68 w0 W g f0 f1 f2 f3 f4 f5 f6 f7 f8 f9 f10) : g < W.heap.size := by
  obtain ⟨hb, hg⟩ := h
  exact gg hb
theorem IsS68.ge {w0 W : World} {g : Nat} {f0 : ByteArray} {f1 : Int} {f2 : Bool} {f3 : ByteArray} {f4 : Bool} {f5 : ByteArray} {f6 : ByteArray} {f7 : Bool} {f8 : ByteArray} {f9 : Bool} {f10 : ByteArray} (h : IsS68 w0 W g f0 f1 f2 f3 f4 f5 f6 f7 f8 f9 f10) : w0.heap.size ≤ g := by
  obtain ⟨hb, hg⟩ := h
  exact hg
theorem IsS68.far {w0 W : World} {g : Nat} {f0 : ByteArray} {f1 : Int} {f2 : Bool} {f3 : ByteArray} {f4 : Bool} {f5 : ByteArray} {f6 : ByteArray} {f7 : Bool} {f8 : ByteArray} {f9 : Bool} {f10 : ByteArray} {p : Addr} (h : IsS68 w0 W g f0 f1 f2 f3 f4 f5 f6 f7 f8 f9 f10) (hne : g ≠ p.block) (u : Value) : IsS68 w0 (W.setCell p u) g f0 f1 f2 f3 f4 f5 f6 f7 f8 f9 f10 := by
  obtain ⟨hb, hg⟩ := h
  exact ⟨ez hb hne u, hg⟩
theorem IsS68.set_0 {w0 W : World} {g : Nat} {f0 : ByteArray} {f1 : Int} {f2 : Bool} {f3 : ByteArray} {f4 : Bool} {f5 : ByteArray} {f6 : ByteArray} {f7 : Bool} {f8 : ByteArray} {f9 : Bool} {f10 : ByteArray} (h : IsS68 w0 W g f0 f1 f2 f3 f4 f5 f6 f7 f8 f9 f10) (x : ByteArray) : IsS68 w0 (W.setCell ⟨g, 0, none⟩ (.string x)) g x f1 f2 f3 f4 f5 f6 f7 f8 f9 f10 := by
  obtain ⟨hb, hg⟩ := h
  exact ⟨by simpa using bR hb 0 (.string x), hg⟩
theorem IsS68.set_1 {w0 W : World} {g : Nat} {f0 : ByteArray} {f1 : Int} {f2 : Bool} {f3 : ByteArray} {f4 : Bool} {f5 : ByteArray} {f6 : ByteArray} {f7 : Bool} {f8 : ByteArray} {f9 : Bool} {f10 : ByteArray} (h : IsS68 w0 W g f0 f1 f2 f3 f4 f5 f6 f7 f8 f9 f10) (x : Int) : IsS68 w0 (W.setCell ⟨g, 1, none⟩ (.int .i64 x)) g f0 x f2 f3 f4 f5 f6 f7 f8 f9 f10 := by
  obtain ⟨hb, hg⟩ := h
  exact ⟨by simpa using bR hb 1 (.int .i64 x), hg⟩
theorem IsS68.set_2 {w0 W : World} {g : Nat} {f0 : ByteArray} {f1 : Int} {f2 : Bool} {f3 : ByteArray} {f4 : Bool} {f5 : ByteArray} {f6 : ByteArray} {f7 : Bool} {f8 : ByteArray} {f9 : Bool} {f10 : ByteArray} (h : IsS68 w0 W g f0 f1 f2 f3 f4 f5 f6 f7 f8 f9 f10) (x : Bool) : IsS68 w0 (W.setCell ⟨g, 2, none⟩ (.bool x)) g f0 f1 x f3 f4 f5 f6 f7 f8 f9 f10 := by
  obtain ⟨hb, hg⟩ := h
  exact ⟨by simpa using bR hb 2 (.bool x), hg⟩
theorem IsS68.set_3 {w0 W : World} {g : Nat} {f0 : ByteArray} {f1 : Int} {f2 : Bool} {f3 : ByteArray} {f4 : Bool} {f5 : ByteArray} {f6 : ByteArray} {f7 : Bool} {f8 : ByteArray} {f9 : Bool} {f10 : ByteArray} (h : IsS68 w0 W g f0 f1 f2 f3 f4 f5 f6 f7 f8 f9 f10) (x : ByteArray) : IsS68 w0 (W.setCell ⟨g, 3, none⟩ (.string x)) g f0 f1 f2 x f4 f5 f6 f7 f8 f9 f10 := by
  obtain ⟨hb, hg⟩ := h
  exact ⟨by simpa using bR hb 3 (.string x), hg⟩
theorem IsS68.set_4 {w0 W : World} {g : Nat} {f0 : ByteArray} {f1 : Int} {f2 : Bool} {f3 : ByteArray} {f4 : Bool} {f5 : ByteArray} {f6 : ByteArray} {f7 : Bool} {f8 : ByteArray} {f9 : Bool} {f10 : ByteArray} (h : IsS68 w0 W g f0 f1 f2 f3 f4 f5 f6 f7 f8 f9 f10) (x : Bool) : IsS68 w0 (W.setCell ⟨g, 4, none⟩ (.bool x)) g f0 f1 f2 f3 x f5 f6 f7 f8 f9 f10 := by
  obtain ⟨hb, hg⟩ := h
  exact ⟨by simpa using bR hb 4 (.bool x), hg⟩
theorem IsS68.set_5 {w0 W : World} {g : Nat} {f0 : ByteArray} {f1 : Int} {f2 : Bool} {f3 : ByteArray} {f4 : Bool} {f5 : ByteArray} {f6 : ByteArray} {f7 : Bool} {f8 : ByteArray} {f9 : Bool} {f10 : ByteArray} (h : IsS68 w0 W g f0 f1 f2 f3 f4 f5 f6 f7 f8 f9 f10) (x : ByteArray) : IsS68 w0 (W.setCell ⟨g, 5, none⟩ (.string x)) g f0 f1 f2 f3 f4 x f6 f7 f8 f9 f10 := by
  obtain ⟨hb, hg⟩ := h
  exact ⟨by simpa using bR hb 5 (.string x), hg⟩
theorem IsS68.set_6 {w0 W : World} {g : Nat} {f0 : ByteArray} {f1 : Int} {f2 : Bool} {f3 : ByteArray} {f4 : Bool} {f5 : ByteArray} {f6 : ByteArray} {f7 : Bool} {f8 : ByteArray} {f9 : Bool} {f10 : ByteArray} (h : IsS68 w0 W g f0 f1 f2 f3 f4 f5 f6 f7 f8 f9 f10) (x : ByteArray) : IsS68 w0 (W.setCell ⟨g, 6, none⟩ (.string x)) g f0 f1 f2 f3 f4 f5 x f7 f8 f9 f10 := by
  obtain ⟨hb, hg⟩ := h
  exact ⟨by simpa using bR hb 6 (.string x), hg⟩
theorem IsS68.set_7 {w0 W : World} {g : Nat} {f0 : ByteArray} {f1 : Int} {f2 : Bool} {f3 : ByteArray} {f4 : Bool} {f5 : ByteArray} {f6 : ByteArray} {f7 : Bool} {f8 : ByteArray} {f9 : Bool} {f10 : ByteArray} (h : IsS68 w0 W g f0 f1 f2 f3 f4 f5 f6 f7 f8 f9 f10) (x : Bool) : IsS68 w0 (W.setCell ⟨g, 7, none⟩ (.bool x)) g f0 f1 f2 f3 f4 f5 f6 x f8 f9 f10 := by
  obtain ⟨hb, hg⟩ := h
  exact ⟨by simpa using bR hb 7 (.bool x), hg⟩
theorem IsS68.set_8 {w0 W : World} {g : Nat} {f0 : ByteArray} {f1 : Int} {f2 : Bool} {f3 : ByteArray} {f4 : Bool} {f5 : ByteArray} {f6 : ByteArray} {f7 : Bool} {f8 : ByteArray} {f9 : Bool} {f10 : ByteArray} (h : IsS68 w0 W g f0 f1 f2 f3 f4 f5 f6 f7 f8 f9 f10) (x : ByteArray) : IsS68 w0 (W.setCell ⟨g, 8, none⟩ (.string x)) g f0 f1 f2 f3 f4 f5 f6 f7 x f9 f10 := by
  obtain ⟨hb, hg⟩ := h
  exact ⟨by simpa using bR hb 8 (.string x), hg⟩
theorem IsS68.set_9 {w0 W : World} {g : Nat} {f0 : ByteArray} {f1 : Int} {f2 : Bool} {f3 : ByteArray} {f4 : Bool} {f5 : ByteArray} {f6 : ByteArray} {f7 : Bool} {f8 : ByteArray} {f9 : Bool} {f10 : ByteArray} (h : IsS68 w0 W g f0 f1 f2 f3 f4 f5 f6 f7 f8 f9 f10) (x : Bool) : IsS68 w0 (W.setCell ⟨g, 9, none⟩ (.bool x)) g f0 f1 f2 f3 f4 f5 f6 f7 f8 x f10 := by
  obtain ⟨hb, hg⟩ := h
  exact ⟨by simpa using bR hb 9 (.bool x), hg⟩
theorem IsS68.set_10 {w0 W : World} {g : Nat} {f0 : ByteArray} {f1 : Int} {f2 : Bool} {f3 : ByteArray} {f4 : Bool} {f5 : ByteArray} {f6 : ByteArray} {f7 : Bool} {f8 : ByteArray} {f9 : Bool} {f10 : ByteArray} (h : IsS68 w0 W g f0 f1 f2 f3 f4 f5 f6 f7 f8 f9 f10) (x : ByteArray) : IsS68 w0 (W.setCell ⟨g, 10, none⟩ (.string x)) g f0 f1 f2 f3 f4 f5 f6 f7 f8 f9 x := by
  obtain ⟨hb, hg⟩ := h
  exact ⟨by simpa using bR hb 10 (.string x), hg⟩
theorem IsS68.new (w0 W : World) (f0 : ByteArray) (f1 : Int) (f2 : Bool) (f3 : ByteArray) (f4 : Bool) (f5 : ByteArray) (f6 : ByteArray) (f7 : Bool) (f8 : ByteArray) (f9 : Bool) (f10 : ByteArray) (hB : Below w0.heap.size w0 W) : IsS68 w0 (W.alloc (.cells #[.string f0, .int .i64 f1, .bool f2, .string f3, .bool f4, .string f5, .string f6, .bool f7, .string f8, .bool f9, .string f10] 68)) W.heap.size f0 f1 f2 f3 f4 f5 f6 f7 f8 f9 f10 := ⟨by simpa using heap_alloc_new W _, hB.size⟩
theorem eH {p : Prop} (h : p := by first | (with_reducible exact hG) | exact cT hG (by repeat (first | (with_reducible first | exact HB.out | apply bw | apply bA | apply aw | refine dj ?_ (IsS68.ge (Zz.out (by assumption))) | refine dj ?_ (Zz.out (by assumption))) | exact HB.out))) : p := h
theorem am {p : Prop} (h : p := by repeat (first | (with_reducible first | exact Zz.out (by assumption) | apply IsS68.alloc | apply IsS68.drewN | apply IsS68.drew | apply IsS68.set_0 | apply IsS68.set_1 | apply IsS68.set_2 | apply IsS68.set_3 | apply IsS68.set_4 | apply IsS68.set_5 | apply IsS68.set_6 | apply IsS68.set_7 | apply IsS68.set_8 | apply IsS68.set_9 | apply IsS68.set_10 | refine IsS68.far ?_ (Zz.out (by assumption)) _) | exact HI0.out)) : p := h
theorem aj {p : Prop} (h : p := by repeat (first | (with_reducible first | exact HB.out | apply bw | apply bA | apply aw | refine dj ?_ (IsS68.ge (Zz.out (by assumption))) | refine dj ?_ (Zz.out (by assumption))) | exact HB.out)) : p := h
def b9 (k : Nat) (Aa : ByteArray) (Ak : Int) (Ad : Bool) (Al : ByteArray) (Ae : Bool) (Af : ByteArray) (Ag : ByteArray) (Ah : Bool) (Ai : ByteArray) (Aj : Bool) (Ac : ByteArray) : Option (Bool × ByteArray × Int × Bool × ByteArray × Bool × ByteArray × ByteArray × Bool × ByteArray × Bool × ByteArray) := (cG k Aa 0 (⟨#[58, 47, 63, 35]⟩ : ByteArray)).bind fun Ab => (if Ab < 0 then (some (false, Aa, Ak, Ad, Al, Ae, Af, Ag, Ah, Ai, Aj, Ac)) else (if 0 ≤ Ab then (if Ab < (Aa.size : Int) then (if (bt Aa Ab) = 58 then (if Ab ≤ (Aa.size : Int) then ((dW k (Aa.extract 0 (Ab : Int).toNat)).bind fun Am => (if Am = true then (some (true, Aa, wrap64 (Ab + 1), Ad, Aa.extract 0 (Ab : Int).toNat, Ae, Af, Ag, Ah, Ai, Aj, Ac)) else (some (false, Aa, Ak, Ad, Al, Ae, Af, Ag, Ah, Ai, Aj, Ac)))) else (none)) else (some (false, Aa, Ak, Ad, Al, Ae, Af, Ag, Ah, Ai, Aj, Ac))) else (none)) else (none)))
theorem ix : ∀ a0 a1 a2 a3 a4 a5 a6 a7 a8 a9 a10 k, LeO (b9 k a0 a1 a2 a3 a4 a5 a6 a7 a8 a9 a10) (b9 (k + 1) a0 a1 a2 a3 a4 a5 a6 a7 a8 a9 a10) := by
  intro a0 a1 a2 a3 a4 a5 a6 a7 a8 a9 a10 k
  have m0 := @jG; have m1 := @er
  unfold b9
  exact xmo
theorem ar (k : Nat) (g : Nat) (Ab : ByteArray) (Af : Int) (Ag : Bool) (Ah : ByteArray) (Ai : Bool) (Aj : ByteArray) (Ak : ByteArray) (Al : Bool) (Am : ByteArray) (An : Bool) (Ad : ByteArray) (r1 : Bool) (r2 : ByteArray) (r3 : Int) (r4 : Bool) (r5 : ByteArray) (r6 : Bool) (r7 : ByteArray) (r8 : ByteArray) (r9 : Bool) (r10 : ByteArray) (r11 : Bool) (r12 : ByteArray) (w0 w : World) (hI : IsS68 w0 w g Ab Af Ag Ah Ai Aj Ak Al Am An Ad) (hB : Below w0.heap.size w0 w) (h : b9 k Ab Af Ag Ah Ai Aj Ak Al Am An Ad = some (r1, r2, r3, r4, r5, r6, r7, r8, r9, r10, r11, r12)) :
    Calls Tryd.prog 39 #[.pointer (some ⟨g, 0, none⟩)] w fun e w' => e = .returned (.bool r1) ∧ IsS68 w0 w' g r2 r3 r4 r5 r6 r7 r8 r9 r10 r11 r12 ∧ Below w0.heap.size w0 w' ∧ KeepBut w w' g none := by
 have HI0 := Zz.mk hI
 have HK := Zz.mk (KeepBut.refl w g none)
 have HL := Zz.mk hB.size
 clear hI
 have HW0 := Zz.mk hB.size
 have HB := Zz.mk hB
 clear hB
 have H := h
 clear h
 unfold b9 at H
 replace H := xbd H
 obtain ⟨Ac, A2, H⟩ := H
 try dsimp only at H
 refine xid H ?_ ?_ <;> clear H <;> intro c3 H
 {
 have Ao := xdt c3
 clear c3
 simp only [Option.some.injEq, Prod.mk.injEq] at H
 obtain ⟨rfl, rfl, rfl, rfl, rfl, rfl, rfl, rfl, rfl, rfl, rfl, rfl⟩ := H
 have AH := cA HI0.out.1
 go_enter Tryd.func39, Tryd.ntmps39
 go_wp2_with (first | ((with_reducible refine xgc (f := 49) rfl ?_); refine xca 8 Tryd.func49 (b8 (w := _) (h := A2.out)) ?_; rintro w5 hb; replace HK := Zz.mk (KeepBut.trans xk (KeepBut.of_below hb g none) (.inl rfl)); replace HB := Zz.mk (bq aj hb); replace HI0 := Zz.mk (IsS68.below am hb); (try clear hb)))
 go_ret
 exact ⟨xre, am, aj, xk⟩
 }
 have Ao := xdf c3
 clear c3
 refine xin H ?_; clear H; intro c6 H
 have Aw := xdt c6
 clear c6
 refine xin H ?_; clear H; intro c7 H
 have Ax := xdt c7
 clear c7
 refine xid H ?_ ?_ <;> clear H <;> intro c9 H
 {
 obtain ⟨Ap, Aq⟩ := xqe c9
 clear c9
 have Ar := eq_true (xod : 0 ≤ Ac)
 refine xin H ?_; clear H; intro c11 H
 obtain ⟨As, At⟩ := xcp c11
 clear c11
 obtain ⟨Ay, Aa⟩ : ∃ j_ : ByteArray, (Ab.extract 0 (Ac : Int).toNat) = j_ := ⟨_, rfl⟩
 try (have Ae := Aa; simp only [Int.toNat_natCast] at Ae)
 first | rw [Aa] at H | simp only [Aa] at H | skip
 (try rw [Aa] at A2)
 replace H := xbd H
 obtain ⟨Az, A13, H⟩ := H
 try dsimp only at H
 refine xib H ?_ ?_ <;> clear H <;> rintro rfl H
 {
 have Au := eq_true (xod : 0 ≤ Ac)
 have Av := eq_true (xod : Ac ≤ (Ab.size : Int))
 first | rw [Aa] at H | simp only [Aa] at H | skip
 (try rw [Aa] at A2)
 (try rw [Aa] at A13)
 simp only [Option.some.injEq, Prod.mk.injEq] at H
 obtain ⟨rfl, rfl, rfl, rfl, rfl, rfl, rfl, rfl, rfl, rfl, rfl, rfl⟩ := H
 have AA := cA HI0.out.1
 go_enter Tryd.func39, Tryd.ntmps39
 go_wp2_with (first | ((with_reducible refine xgc (f := 49) rfl ?_); refine xca 8 Tryd.func49 (b8 (w := _) (h := A2.out)) ?_; rintro w18 hb; replace HK := Zz.mk (KeepBut.trans xk (KeepBut.of_below hb g none) (.inl rfl)); replace HB := Zz.mk (bq aj hb); replace HI0 := Zz.mk (IsS68.below am hb); (try clear hb); have AB := cA HI0.out.1; obtain ⟨p8, q8, hx8⟩ := xiv Ab Ac xod xod) | (go_at_call 50; (with_reducible refine (gJ (w := _) (h := A13.out)).mono ?_); rintro e w20 ⟨rfl, hb⟩; replace HK := Zz.mk (KeepBut.trans xk (KeepBut.of_below hb g none) (.inl rfl)); replace HB := Zz.mk (bq aj hb); replace HI0 := Zz.mk (IsS68.below am hb); (try clear hb); have AC := cA HI0.out.1))
 go_ret
 exact ⟨by first | exact xrd | (simp only [← Aa, ← Aa]; exact xrd) | exact xre, am, aj, xk⟩
 }
 simp only [Option.some.injEq, Prod.mk.injEq] at H
 obtain ⟨rfl, rfl, rfl, rfl, rfl, rfl, rfl, rfl, rfl, rfl, rfl, rfl⟩ := H
 have AD := cA HI0.out.1
 go_enter Tryd.func39, Tryd.ntmps39
 go_wp2_with (first | ((with_reducible refine xgc (f := 49) rfl ?_); refine xca 8 Tryd.func49 (b8 (w := _) (h := A2.out)) ?_; rintro w23 hb; replace HK := Zz.mk (KeepBut.trans xk (KeepBut.of_below hb g none) (.inl rfl)); replace HB := Zz.mk (bq aj hb); replace HI0 := Zz.mk (IsS68.below am hb); (try clear hb); have AE := cA HI0.out.1; obtain ⟨p8, q8, hx8⟩ := xiv Ab Ac xod xod) | (go_at_call 50; (with_reducible refine (gJ (w := _) (h := A13.out)).mono ?_); rintro e w25 ⟨rfl, hb⟩; replace HK := Zz.mk (KeepBut.trans xk (KeepBut.of_below hb g none) (.inl rfl)); replace HB := Zz.mk (bq aj hb); replace HI0 := Zz.mk (IsS68.below am hb); (try clear hb)))
 go_ret
 exact ⟨by first | exact xrd | (simp only [← Aa]; exact xrd) | exact xre, am, aj, xk⟩
 }
 obtain ⟨Ap, Aq⟩ := xqn c9
 simp only [Option.some.injEq, Prod.mk.injEq] at H
 obtain ⟨rfl, rfl, rfl, rfl, rfl, rfl, rfl, rfl, rfl, rfl, rfl, rfl⟩ := H
 have AF := cA HI0.out.1
 go_enter Tryd.func39, Tryd.ntmps39
 go_wp2_with (first | ((with_reducible refine xgc (f := 49) rfl ?_); refine xca 8 Tryd.func49 (b8 (w := _) (h := A2.out)) ?_; rintro w27 hb; replace HK := Zz.mk (KeepBut.trans xk (KeepBut.of_below hb g none) (.inl rfl)); replace HB := Zz.mk (bq aj hb); replace HI0 := Zz.mk (IsS68.below am hb); (try clear hb); have AG := cA HI0.out.1; obtain ⟨p8, q8, hx8⟩ := xiv Ab Ac xod xod))
 go_ret
 exact ⟨xre, am, aj, xk⟩
def dl (a0 : ByteArray) (a1 : ByteArray) : Option (Bool) := if (a0.size : Int) ≥ (a1.size : Int) then (if 0 ≤ (a1.size : Int) then (if (a1.size : Int) ≤ (a0.size : Int) then (some ((a0.extract 0 ((a1.size : Int) : Int).toNat).toList == a1.toList)) else (none)) else (none)) else (some false)
theorem dE (a0 : ByteArray) (a1 : ByteArray) (r : Bool) (w : World) (h : dl a0 a1 = some r) :
    Calls Tryd.prog 60 #[.string a0, .string a1] w fun e w' => e = .returned (.bool r) ∧ Drawn0 w w' := by
 have H := h
 clear h
 unfold dl at H
 refine xid H ?_ ?_ <;> clear H <;> intro c3 H
 {
 have Ac := xdt c3
 have Ad : decide (a1.size ≤ a0.size) = true := decide_eq_true (Int.ofNat_le.mp c3)
 clear c3
 refine xin H ?_; clear H; intro c4 H
 obtain ⟨Ae, Af⟩ := xcp c4
 clear c4
 refine xin H ?_; clear H; intro c5 H
 obtain ⟨Ag, Ah⟩ := xcp c5
 clear c5
 obtain ⟨Ai, Aa⟩ : ∃ j_ : ByteArray, (a0.extract 0 ((a1.size : Int) : Int).toNat) = j_ := ⟨_, rfl⟩
 try (have Ab := Aa; simp only [Int.toNat_natCast] at Ab)
 first | rw [Aa] at H | simp only [Aa] at H | skip
 obtain rfl := Option.some.inj H
 go_enter Tryd.func60, Tryd.ntmps60
 go_wp2
 go_ret
 exact ⟨by first | rfl | (simp; done) | (simp only [← Aa] <;> (first | rfl | (rw [Int.tdiv_eq_ediv_of_nonneg (by unfold mx; split <;> omega)]; done) | simp)) | (simp [*]; done) | (simp [wrap64]; done), xdr⟩
 }
 have Ac := xdf c3
 have Ad : decide (a1.size ≤ a0.size) = false := decide_eq_false (fun h => c3 (Int.ofNat_le.mpr h))
 clear c3
 obtain rfl := Option.some.inj H
 go_enter Tryd.func60, Tryd.ntmps60
 go_wp2
 go_ret
 exact ⟨xrr, xdr⟩
def dp (a0 : ByteArray) (a1 : ByteArray) : Option (Bool) := (dl a0 a1).bind fun t116 => (some t116)
theorem ak (a0 : ByteArray) (a1 : ByteArray) (r : Bool) (w : World) (h : dp a0 a1 = some r) :
    Calls Tryd.prog 54 #[.string a0, .string a1] w fun e w' => e = .returned (.bool r) ∧ Drawn0 w w' := by
 have H := h
 clear h
 unfold dp at H
 replace H := xbd H
 obtain ⟨t116, A3, H⟩ := H
 try dsimp only at H
 obtain rfl := Option.some.inj H
 go_enter Tryd.func54, Tryd.ntmps54
 go_wp2_with (first | ((with_reducible refine xgc (f := 60) rfl ?_); refine xca 7 Tryd.func60 (dE (w := _) (h := A3.out)) ?_; rintro w' ⟨nd, rfl⟩))
 go_ret
 exact ⟨xrr, xdr⟩
def dF (Aa : ByteArray) (Ab : Int) (Ad : Bool) (Ae : ByteArray) (Af : Bool) (Ag : ByteArray) (Ah : ByteArray) (Ai : Bool) (Aj : ByteArray) (Ak : Bool) (Ac : ByteArray) (a1 : ByteArray) : Option (Bool × ByteArray × Int × Bool × ByteArray × Bool × ByteArray × ByteArray × Bool × ByteArray × Bool × ByteArray) := if 0 ≤ Ab then (if Ab ≤ (Aa.size : Int) then ((dp (Aa.extract (Ab : Int).toNat Aa.size) a1).bind fun Al => (if Al = true then (some (true, Aa, wrap64 (Ab + (a1.size : Int)), Ad, Ae, Af, Ag, Ah, Ai, Aj, Ak, Ac)) else (some (false, Aa, Ab, Ad, Ae, Af, Ag, Ah, Ai, Aj, Ak, Ac)))) else (none)) else (none)
theorem cg (g : Nat) (Ab : ByteArray) (Ad : Int) (Ae : Bool) (Af : ByteArray) (Ag : Bool) (Ah : ByteArray) (Ai : ByteArray) (Aj : Bool) (Ak : ByteArray) (Al : Bool) (Ac : ByteArray) (a1 : ByteArray) (r1 : Bool) (r2 : ByteArray) (r3 : Int) (r4 : Bool) (r5 : ByteArray) (r6 : Bool) (r7 : ByteArray) (r8 : ByteArray) (r9 : Bool) (r10 : ByteArray) (r11 : Bool) (r12 : ByteArray) (w0 w : World) (hI : IsS68 w0 w g Ab Ad Ae Af Ag Ah Ai Aj Ak Al Ac) (hB : Below w0.heap.size w0 w) (h : dF Ab Ad Ae Af Ag Ah Ai Aj Ak Al Ac a1 = some (r1, r2, r3, r4, r5, r6, r7, r8, r9, r10, r11, r12)) :
    Calls Tryd.prog 51 #[.pointer (some ⟨g, 0, none⟩), .string a1] w fun e w' => e = .returned (.bool r1) ∧ IsS68 w0 w' g r2 r3 r4 r5 r6 r7 r8 r9 r10 r11 r12 ∧ Below w0.heap.size w0 w' ∧ KeepBut w w' g none := by
 have HI0 := Zz.mk hI
 have HK := Zz.mk (KeepBut.refl w g none)
 have HL := Zz.mk hB.size
 clear hI
 have HW0 := Zz.mk hB.size
 have HB := Zz.mk hB
 clear hB
 have H := h
 clear h
 unfold dF at H
 refine xin H ?_; clear H; intro c3 H
 obtain ⟨An, Ao⟩ := xcp c3
 clear c3
 refine xin H ?_; clear H; intro c4 H
 obtain ⟨Ap, Aq⟩ := xcp c4
 clear c4
 obtain ⟨As, Aa⟩ : ∃ j_ : ByteArray, (Ab.extract (Ad : Int).toNat Ab.size) = j_ := ⟨_, rfl⟩
 try (have Am := Aa; simp only [Int.toNat_natCast] at Am)
 first | rw [Aa] at H | simp only [Aa] at H | skip
 replace H := xbd H
 obtain ⟨Ar, A6, H⟩ := H
 try dsimp only at H
 refine xib H ?_ ?_ <;> clear H <;> rintro rfl H
 {
 simp only [Option.some.injEq, Prod.mk.injEq] at H
 obtain ⟨rfl, rfl, rfl, rfl, rfl, rfl, rfl, rfl, rfl, rfl, rfl, rfl⟩ := H
 have At := cA HI0.out.1
 go_enter Tryd.func51, Tryd.ntmps51
 go_wp2_with (first | (go_at_call 54; (with_reducible refine (ak (w := _) (h := A6.out)).mono ?_); rintro e w' ⟨rfl, ⟨nd, rfl⟩⟩; (try exact xdd)))
 repeat (go_quiet (first | (go_at_call 54; (with_reducible refine (ak (w := _) (h := A6.out)).mono ?_); rintro e w' ⟨rfl, ⟨nd, rfl⟩⟩; (try exact xdd))); try go_wp2_with (first | (go_at_call 54; (with_reducible refine (ak (w := _) (h := A6.out)).mono ?_); rintro e w' ⟨rfl, ⟨nd, rfl⟩⟩; (try exact xdd))))
 go_ret
 exact ⟨by first | exact xrd | (simp only [← Aa]; exact xrd) | exact xre, am, aj, xk⟩
 }
 simp only [Option.some.injEq, Prod.mk.injEq] at H
 obtain ⟨rfl, rfl, rfl, rfl, rfl, rfl, rfl, rfl, rfl, rfl, rfl, rfl⟩ := H
 have Au := cA HI0.out.1
 go_enter Tryd.func51, Tryd.ntmps51
 go_wp2_with (first | (go_at_call 54; (with_reducible refine (ak (w := _) (h := A6.out)).mono ?_); rintro e w' ⟨rfl, ⟨nd, rfl⟩⟩; (try exact xdd)))
 repeat (go_quiet (first | (go_at_call 54; (with_reducible refine (ak (w := _) (h := A6.out)).mono ?_); rintro e w' ⟨rfl, ⟨nd, rfl⟩⟩; (try exact xdd))); try go_wp2_with (first | (go_at_call 54; (with_reducible refine (ak (w := _) (h := A6.out)).mono ?_); rintro e w' ⟨rfl, ⟨nd, rfl⟩⟩; (try exact xdd))))
 go_ret
 exact ⟨by first | exact xrd | (simp only [← Aa]; exact xrd) | exact xre, am, aj, xk⟩
def aH : Nat → ByteArray → Int → Int → Option (Int)
  | 0, _, _, _ => none
  | k + 1, x0, x1, x5 => if x5 ≥ 0 then (if 0 ≤ x5 then (if x5 < (x0.size : Int) then (if (bt x0 x5) = x1 then (some x5) else (aH k x0 x1 (wrap64 (x5 - 1)))) else (none)) else (none)) else (some (-1))
def bi (k : Nat) (a0 : ByteArray) (a1 : Int) : Option (Int) := aH k a0 a1 (wrap64 ((a0.size : Int) - 1))
theorem dM : ∀ k, (∀ y0 y1 y2, LeO (aH k y0 y1 y2) (aH (k + 1) y0 y1 y2))
  | 0 => fun _ _ _ r h => by simp [aH] at h
  | k + 1 => by
    have ih0 := dM k
    · intro y0 y1 y2
      unfold aH
      exact xmo
theorem fW : ∀ a0 a1 k, LeO (bi k a0 a1) (bi (k + 1) a0 a1) := by
  intro a0 a1 k
  have ih0 := dM k
  unfold bi
  exact xmo
theorem fP (k : Nat) (a0 : ByteArray) (a1 : Int) (r : Int) (w : World) (h : bi k a0 a1 = some r) :
    Calls Tryd.prog 76 #[.string a0, .int .u8 a1] w fun e w' => e = .returned (.int .i64 r) ∧ Drawn0 w w' := by
 have H := h
 clear h
 unfold bi at H
 have H' := Zz.mk H
 clear H
 go_enter Tryd.func76, Tryd.ntmps76
 go_wp2
 go_loopg [5] k (fun kq v5 w' => ∃ Aa, v5 = .int .i64 Aa ∧ Zz (aH kq a0 a1 Aa = some r) ∧ Zz (kq ≤ k) ∧ Drawn0 w w')
 case atStart => exact ⟨(wrap64 ((a0.size : Int) - 1)), xrr, H', ⟨Nat.le_refl _⟩, xdr⟩
 case round => (
 clear H'
 obtain ⟨Aa, rfl, HA, HK1, ⟨m1, rfl⟩⟩ := hrel
 cases gk with
 | zero => exact absurd HA.out (by simp [aH])
 | succ k1 => (
 have H := HA.out
 clear HA
 simp only [aH] at H
 refine xid H ?_ ?_ <;> clear H <;> intro c3 H
 {
 have Ab := xdt c3
 clear c3
 refine xin H ?_; clear H; intro c4 H
 have Ae := xdt c4
 clear c4
 refine xin H ?_; clear H; intro c5 H
 have Af := xdt c5
 clear c5
 refine xid H ?_ ?_ <;> clear H <;> intro c7 H
 {
 obtain ⟨Ac, Ad⟩ := xqe c7
 clear c7
 obtain rfl := Option.some.inj H
 obtain ⟨p6, q6, hx6⟩ := xiv a0 Aa xod xod
 go_wp2
 go_ret
 exact ⟨xrr, xdr⟩
 }
 obtain ⟨Ac, Ad⟩ := xqn c7
 replace H := xa H
 obtain ⟨p6, q6, hx6⟩ := xiv a0 Aa xod xod
 go_wp2
 go_roundg k1
 case measure => have := HK1.out; omega
 case rel => exact ⟨(wrap64 (Aa - 1)), xrr, H, ⟨by have := HK1.out; omega⟩, xdr⟩
 }
 have Ab := xdf c3
 clear c3
 obtain rfl := Option.some.inj H
 go_wp2
 go_ret
 exact ⟨xrr, xdr⟩
 )
 )
def bZ (k : Nat) (a0 : ByteArray) (a1 : Int) : Option (Int) := (bi k a0 a1).bind fun t118 => (some t118)
theorem gS : ∀ a0 a1 k, LeO (bZ k a0 a1) (bZ (k + 1) a0 a1) := by
  intro a0 a1 k
  have m0 := @fW
  unfold bZ
  exact xmo
theorem cD (k : Nat) (a0 : ByteArray) (a1 : Int) (r : Int) (w : World) (h : bZ k a0 a1 = some r) :
    Calls Tryd.prog 69 #[.string a0, .int .u8 a1] w fun e w' => e = .returned (.int .i64 r) ∧ Drawn0 w w' := by
 have H := h
 clear h
 unfold bZ at H
 replace H := xbd H
 obtain ⟨t118, A3, H⟩ := H
 try dsimp only at H
 obtain rfl := Option.some.inj H
 go_enter Tryd.func69, Tryd.ntmps69
 go_wp2_with (first | ((with_reducible refine xgc (f := 76) rfl ?_); refine xca 7 Tryd.func76 (fP (w := _) (h := A3.out)) ?_; rintro w' ⟨nd, rfl⟩))
 go_ret
 exact ⟨xrr, xdr⟩
def fJ (a0 : ByteArray) (a1 : Int) : Option (Int) := some (Go.Lib.indexByte a0.data.toList a1.toNat.toUInt8)
set_option maxHeartbeats 1000000 in
theorem gQ (a0 : ByteArray) (a1 : Int) (r : Int) (w : World) (h : fJ a0 a1 = some r) :
    Calls Tryd.prog 55 #[.string a0, .int .u8 a1] w fun e w' => e = .returned (.int .i64 r) ∧ Drawn0 w w' := by
 obtain rfl := Option.some.inj h
 clear h
 go_enter Tryd.func55, Tryd.ntmps55
 go_wp2
 rw [run_callFunc_extern Tryd.func66 (by kernel_rfl) (by kernel_rfl) (by kernel_rfl) (e := Extern.BytealgIndexByte.indexByte) (by kernel_rfl), Lib.run_indexByteString]
 simp only [Result.andThen]
 rw [Oper.upon_value]
 go_wp2
 go_ret
 exact ⟨rfl, xdr⟩
def dq (a0 : ByteArray) (a1 : Int) : Option (Int) := (fJ a0 a1).bind fun t119 => (some t119)
theorem al (a0 : ByteArray) (a1 : Int) (r : Int) (w : World) (h : dq a0 a1 = some r) :
    Calls Tryd.prog 77 #[.string a0, .int .u8 a1] w fun e w' => e = .returned (.int .i64 r) ∧ Drawn0 w w' := by
 have H := h
 clear h
 unfold dq at H
 replace H := xbd H
 obtain ⟨t119, A3, H⟩ := H
 try dsimp only at H
 obtain rfl := Option.some.inj H
 go_enter Tryd.func77, Tryd.ntmps77
 go_wp2_with (first | ((with_reducible refine xgc (f := 55) rfl ?_); refine xca 7 Tryd.func55 (gQ (w := _) (h := A3.out)) ?_; rintro w' ⟨nd, rfl⟩))
 go_ret
 exact ⟨xrr, xdr⟩
def de : Nat → ByteArray → Int → ByteArray → Bool → Option (ByteArray × ByteArray)
  | 0, _, _, _, _ => none
  | k + 1, x0, x4, x5, x23 => if x23 = true then (if 0 ≤ (wrap64 (x4 + 1)) then (if (wrap64 (x4 + 1)) ≤ (x0.size : Int) then (some (x0.extract 0 ((wrap64 (x4 + 1)) : Int).toNat, x5)) else (none)) else (none)) else (some (x0, (⟨#[]⟩ : ByteArray)))
def ey (k : Nat) (a0 : ByteArray) : Option (ByteArray × ByteArray) := (dp a0 (⟨#[91]⟩ : ByteArray)).bind fun Ad => (if Ad = true then ((dq a0 93).bind fun Aa => (if Aa ≥ 0 then (if 0 ≤ (wrap64 (Aa + 1)) then (if (wrap64 (Aa + 1)) ≤ (a0.size : Int) then (if (a0.extract ((wrap64 (Aa + 1)) : Int).toNat a0.size).toList = ([] : List UInt8) then (de k a0 Aa (a0.extract ((wrap64 (Aa + 1)) : Int).toNat a0.size) true) else (if 0 < ((a0.extract ((wrap64 (Aa + 1)) : Int).toNat a0.size).size : Int) then (de k a0 Aa (a0.extract ((wrap64 (Aa + 1)) : Int).toNat a0.size) ((bt (a0.extract ((wrap64 (Aa + 1)) : Int).toNat a0.size) 0) == 58)) else (none))) else (none)) else (none)) else ((dq a0 58).bind fun Ab => (if Ab ≥ 0 then (if 0 ≤ Ab then (if Ab ≤ (a0.size : Int) then (some (a0.extract 0 (Ab : Int).toNat, a0.extract (Ab : Int).toNat a0.size)) else (none)) else (none)) else (some (a0, (⟨#[]⟩ : ByteArray))))))) else ((dq a0 58).bind fun Ac => (if Ac ≥ 0 then (if 0 ≤ Ac then (if Ac ≤ (a0.size : Int) then (some (a0.extract 0 (Ac : Int).toNat, a0.extract (Ac : Int).toNat a0.size)) else (none)) else (none)) else (some (a0, (⟨#[]⟩ : ByteArray))))))
theorem ij : ∀ k, (∀ y0 y1 y2 y3, LeO (de k y0 y1 y2 y3) (de (k + 1) y0 y1 y2 y3))
  | 0 => fun _ _ _ _ r h => by simp [de] at h
  | k + 1 => by
    have ih0 := ij k
    · intro y0 y1 y2 y3
      unfold de
      exact xmo
theorem kp : ∀ a0 k, LeO (ey k a0) (ey (k + 1) a0) := by
  intro a0 k
  have ih0 := ij k
  unfold ey
  exact xmo
theorem fk (k : Nat) (a0 : ByteArray) (r1 : ByteArray) (r2 : ByteArray) (w : World) (h : ey k a0 = some (r1, r2)) :
    Calls Tryd.prog 70 #[.string a0] w fun e w' => e = .returned (.tuple #[.string r1, .string r2]) ∧ Drawn0 w w' := by
 have H := h
 clear h
 unfold ey at H
 replace H := xbd H
 obtain ⟨AW, A2, H⟩ := H
 try dsimp only at H
 refine xib H ?_ ?_ <;> clear H <;> rintro rfl H
 {
 replace H := xbd H
 obtain ⟨Al, A4, H⟩ := H
 try dsimp only at H
 refine xid H ?_ ?_ <;> clear H <;> intro c5 H
 {
 have Au := xdt c5
 clear c5
 obtain ⟨Ay, Ac⟩ : ∃ j_ : Int, (wrap64 (Al + 1)) = j_ := ⟨_, rfl⟩
 first | rw [Ac] at H | simp only [Ac] at H | skip
 (try rw [Ac] at A2)
 (try rw [Ac] at A4)
 have AD : (IntKind.i64.wrap (Al + 1)) = Ay := (an _).trans Ac
 refine xin H ?_; clear H; intro c7 H
 obtain ⟨Az, AA⟩ := xcp c7
 clear c7
 refine xin H ?_; clear H; intro c8 H
 obtain ⟨AB, AC⟩ := xcp c8
 clear c8
 obtain ⟨At, Ag⟩ : ∃ j_ : ByteArray, (a0.extract ((Ay) : Int).toNat a0.size) = j_ := ⟨_, rfl⟩
 first | rw [Ag] at H | simp only [Ag] at H | skip
 (try rw [Ag] at A2)
 (try rw [Ag] at A4)
 have Ao := Zz.mk H
 clear H
 go_enter Tryd.func70, Tryd.ntmps70
 go_upto_region 5 with (first | (go_at_call 54; (with_reducible refine (ak (w := _) (h := A2.out)).mono ?_); rintro e w' ⟨rfl, ⟨nd, rfl⟩⟩; (try exact xdd)) | (go_at_call 77; (with_reducible refine (al (w := _) (h := A4.out)).mono ?_); rintro e w' ⟨rfl, ⟨nd, rfl⟩⟩; (try exact xdd)))
 repeat (go_quiet (first | (go_at_call 54; (with_reducible refine (ak (w := _) (h := A2.out)).mono ?_); rintro e w' ⟨rfl, ⟨nd, rfl⟩⟩; (try exact xdd)) | (go_at_call 77; (with_reducible refine (al (w := _) (h := A4.out)).mono ?_); rintro e w' ⟨rfl, ⟨nd, rfl⟩⟩; (try exact xdd))); go_upto_region 5 with (first | (go_at_call 54; (with_reducible refine (ak a0 (⟨#[91]⟩ : ByteArray) true _ A2.out).mono ?_); rintro e w' ⟨rfl, ⟨nd, rfl⟩⟩; (try exact xdd)) | (go_at_call 77; (with_reducible refine (al a0 93 Al _ A4.out).mono ?_); rintro e w' ⟨rfl, ⟨nd, rfl⟩⟩; (try exact xdd))))
 (try simp only [Act.put, xl1, xl2, xl3])
 go_cut [23] (fun v23 wc => ∃ kq Ah, v23 = .bool Ah ∧ Zz (de kq a0 Al At Ah = some (r1, r2)) ∧ Zz (kq ≤ k) ∧ Drawn0 w wc)
 case first => (
 have H := Ao.out
 clear Ao
 refine xid H ?_ ?_ <;> clear H <;> intro c11 H
 {
 obtain ⟨Af, Ai⟩ := xqe c11
 (try (have Aj : (At).toList.isEmpty = true := by simpa using c11))
 clear c11
 (first | rw [Af] | (simp only [an, au]; rw [Af]) | (rw [Aj]; (try simp only [Bool.not_false, Bool.not_true])) | (rw [Av]; (try simp only [Bool.not_false, Bool.not_true])) | rw [Ai] | skip)
 replace H := xa H
 go_wp2
 repeat (go_quiet (fail); try go_wp2)
 go_meet
 case rel => exact ⟨_, (true), xrr, H, ⟨xom⟩, xdr⟩
 }
 obtain ⟨Af, Ai⟩ := xqn c11
 (try (have Aj : (At).toList.isEmpty = false := by simpa using c11))
 (first | rw [Af] | (simp only [an, au]; rw [Af]) | (rw [Aj]; (try simp only [Bool.not_false, Bool.not_true])) | (rw [Av]; (try simp only [Bool.not_false, Bool.not_true])) | rw [Ai] | skip)
 refine xin H ?_; clear H; intro c12 H
 have AE := xdt c12
 have AF : decide (0 < (At).size) = true := decide_eq_true (by omega)
 clear c12
 replace H := xa H
 obtain ⟨q13, AX, hx13⟩ := xi0 At xod
 go_wp2
 repeat (go_quiet (fail); try go_wp2)
 go_meet
 case rel => exact ⟨_, (((bt (At) 0) == 58)), (by first | rfl | (simp; done) | (simp only [← Ag] <;> (first | rfl | (rw [Int.tdiv_eq_ediv_of_nonneg (by unfold mx; split <;> omega)]; done) | simp)) | (simp [*]; done) | (simp [wrap64]; done)), H, ⟨xom⟩, xdr⟩
 )
 case rest => (
 clear Ao
 clear Au Az AA AB AC
 obtain ⟨kq, Ah, rfl, HA, HJ9, ⟨mc9, rfl⟩⟩ := hcut
 cases kq with
 | zero => exact absurd HA.out (by simp [de])
 | succ kj9 => (
 have H := HA.out
 clear HA
 simp only [de] at H
 refine xib H ?_ ?_ <;> clear H <;> rintro rfl H
 {
 first | rw [Ac] at H | simp only [Ac] at H | skip
 refine xin H ?_; clear H; intro c15 H
 obtain ⟨AG, AH⟩ := xcp c15
 clear c15
 refine xin H ?_; clear H; intro c16 H
 obtain ⟨AI, AJ⟩ := xcp c16
 clear c16
 obtain ⟨AY, Ak⟩ : ∃ j_ : ByteArray, (a0.extract 0 ((Ay) : Int).toNat) = j_ := ⟨_, rfl⟩
 first | rw [Ak] at H | simp only [Ak] at H | skip
 simp only [Option.some.injEq, Prod.mk.injEq] at H
 obtain ⟨rfl, rfl⟩ := H
 go_wp2
 repeat (go_quiet (fail); try go_wp2)
 go_ret2
 exact ⟨by first | exact xrs | (simp only [← Ac, ← Ag, ← Ac, ← Ak] <;> (first | rfl | simp)) | exact xrr, xdr⟩
 }
 simp only [Option.some.injEq, Prod.mk.injEq] at H
 obtain ⟨rfl, rfl⟩ := H
 go_wp2
 repeat (go_quiet (fail); try go_wp2)
 go_ret2
 exact ⟨by first | exact xrs | (simp only [← Ac, ← Ag] <;> (first | rfl | simp)) | exact xrr, xdr⟩
 )
 )
 }
 have Au := xdf c5
 clear c5
 replace H := xbd H
 obtain ⟨Am, A18, H⟩ := H
 try dsimp only at H
 refine xid H ?_ ?_ <;> clear H <;> intro c19 H
 {
 have Aw := xdt c19
 clear c19
 refine xin H ?_; clear H; intro c20 H
 obtain ⟨AK, AL⟩ := xcp c20
 clear c20
 refine xin H ?_; clear H; intro c21 H
 obtain ⟨AM, AN⟩ := xcp c21
 clear c21
 obtain ⟨AZ, Aa⟩ : ∃ j_ : ByteArray, (a0.extract 0 (Am : Int).toNat) = j_ := ⟨_, rfl⟩
 try (have Ap := Aa; simp only [Int.toNat_natCast] at Ap)
 first | rw [Aa] at H | simp only [Aa] at H | skip
 (try rw [Aa] at A2)
 (try rw [Aa] at A4)
 (try rw [Aa] at A18)
 have AO := eq_true (xod : 0 ≤ Am)
 have AP := eq_true (xod : Am ≤ (a0.size : Int))
 obtain ⟨A0, Ab⟩ : ∃ j_ : ByteArray, (a0.extract (Am : Int).toNat a0.size) = j_ := ⟨_, rfl⟩
 try (have Aq := Ab; simp only [Int.toNat_natCast] at Aq)
 first | rw [Ab] at H | simp only [Ab] at H | skip
 (try rw [Ab] at A2)
 (try rw [Ab] at A4)
 (try rw [Ab] at A18)
 simp only [Option.some.injEq, Prod.mk.injEq] at H
 obtain ⟨rfl, rfl⟩ := H
 go_enter Tryd.func70, Tryd.ntmps70
 go_wp2_with (first | (go_at_call 54; (with_reducible refine (ak (w := _) (h := A2.out)).mono ?_); rintro e w' ⟨rfl, ⟨nd, rfl⟩⟩; (try exact xdd)) | (go_at_call 77; (with_reducible refine (al (w := _) (h := A4.out)).mono ?_); rintro e w' ⟨rfl, ⟨nd, rfl⟩⟩; (try exact xdd)) | (go_at_call 77; (with_reducible refine (al (w := _) (h := A18.out)).mono ?_); rintro e w' ⟨rfl, ⟨nd, rfl⟩⟩; (try exact xdd)))
 repeat (go_quiet (first | (go_at_call 54; (with_reducible refine (ak (w := _) (h := A2.out)).mono ?_); rintro e w' ⟨rfl, ⟨nd, rfl⟩⟩; (try exact xdd)) | (go_at_call 77; (with_reducible refine (al (w := _) (h := A4.out)).mono ?_); rintro e w' ⟨rfl, ⟨nd, rfl⟩⟩; (try exact xdd)) | (go_at_call 77; (with_reducible refine (al (w := _) (h := A18.out)).mono ?_); rintro e w' ⟨rfl, ⟨nd, rfl⟩⟩; (try exact xdd))); try go_wp2_with (first | (go_at_call 54; (with_reducible refine (ak (w := _) (h := A2.out)).mono ?_); rintro e w' ⟨rfl, ⟨nd, rfl⟩⟩; (try exact xdd)) | (go_at_call 77; (with_reducible refine (al (w := _) (h := A4.out)).mono ?_); rintro e w' ⟨rfl, ⟨nd, rfl⟩⟩; (try exact xdd)) | (go_at_call 77; (with_reducible refine (al (w := _) (h := A18.out)).mono ?_); rintro e w' ⟨rfl, ⟨nd, rfl⟩⟩; (try exact xdd))))
 go_ret2
 exact ⟨by first | exact xrs | (simp only [← Aa, ← Ab] <;> (first | rfl | simp)) | exact xrr, xdr⟩
 }
 have Aw := xdf c19
 clear c19
 simp only [Option.some.injEq, Prod.mk.injEq] at H
 obtain ⟨rfl, rfl⟩ := H
 go_enter Tryd.func70, Tryd.ntmps70
 go_wp2_with (first | (go_at_call 54; (with_reducible refine (ak (w := _) (h := A2.out)).mono ?_); rintro e w' ⟨rfl, ⟨nd, rfl⟩⟩; (try exact xdd)) | (go_at_call 77; (with_reducible refine (al (w := _) (h := A4.out)).mono ?_); rintro e w' ⟨rfl, ⟨nd, rfl⟩⟩; (try exact xdd)) | (go_at_call 77; (with_reducible refine (al (w := _) (h := A18.out)).mono ?_); rintro e w' ⟨rfl, ⟨nd, rfl⟩⟩; (try exact xdd)))
 repeat (go_quiet (first | (go_at_call 54; (with_reducible refine (ak (w := _) (h := A2.out)).mono ?_); rintro e w' ⟨rfl, ⟨nd, rfl⟩⟩; (try exact xdd)) | (go_at_call 77; (with_reducible refine (al (w := _) (h := A4.out)).mono ?_); rintro e w' ⟨rfl, ⟨nd, rfl⟩⟩; (try exact xdd)) | (go_at_call 77; (with_reducible refine (al (w := _) (h := A18.out)).mono ?_); rintro e w' ⟨rfl, ⟨nd, rfl⟩⟩; (try exact xdd))); try go_wp2_with (first | (go_at_call 54; (with_reducible refine (ak (w := _) (h := A2.out)).mono ?_); rintro e w' ⟨rfl, ⟨nd, rfl⟩⟩; (try exact xdd)) | (go_at_call 77; (with_reducible refine (al (w := _) (h := A4.out)).mono ?_); rintro e w' ⟨rfl, ⟨nd, rfl⟩⟩; (try exact xdd)) | (go_at_call 77; (with_reducible refine (al (w := _) (h := A18.out)).mono ?_); rintro e w' ⟨rfl, ⟨nd, rfl⟩⟩; (try exact xdd))))
 go_ret2
 exact ⟨xrr, xdr⟩
 }
 replace H := xbd H
 obtain ⟨An, A26, H⟩ := H
 try dsimp only at H
 refine xid H ?_ ?_ <;> clear H <;> intro c27 H
 {
 have Ax := xdt c27
 clear c27
 refine xin H ?_; clear H; intro c28 H
 obtain ⟨AQ, AR⟩ := xcp c28
 clear c28
 refine xin H ?_; clear H; intro c29 H
 obtain ⟨AS, AT⟩ := xcp c29
 clear c29
 obtain ⟨A1, Ad⟩ : ∃ j_ : ByteArray, (a0.extract 0 (An : Int).toNat) = j_ := ⟨_, rfl⟩
 try (have Ar := Ad; simp only [Int.toNat_natCast] at Ar)
 first | rw [Ad] at H | simp only [Ad] at H | skip
 (try rw [Ad] at A2)
 (try rw [Ad] at A26)
 have AU := eq_true (xod : 0 ≤ An)
 have AV := eq_true (xod : An ≤ (a0.size : Int))
 obtain ⟨A3, Ae⟩ : ∃ j_ : ByteArray, (a0.extract (An : Int).toNat a0.size) = j_ := ⟨_, rfl⟩
 try (have As := Ae; simp only [Int.toNat_natCast] at As)
 first | rw [Ae] at H | simp only [Ae] at H | skip
 (try rw [Ae] at A2)
 (try rw [Ae] at A26)
 simp only [Option.some.injEq, Prod.mk.injEq] at H
 obtain ⟨rfl, rfl⟩ := H
 go_enter Tryd.func70, Tryd.ntmps70
 go_wp2_with (first | (go_at_call 54; (with_reducible refine (ak (w := _) (h := A2.out)).mono ?_); rintro e w' ⟨rfl, ⟨nd, rfl⟩⟩; (try exact xdd)) | (go_at_call 77; (with_reducible refine (al (w := _) (h := A26.out)).mono ?_); rintro e w' ⟨rfl, ⟨nd, rfl⟩⟩; (try exact xdd)))
 repeat (go_quiet (first | (go_at_call 54; (with_reducible refine (ak (w := _) (h := A2.out)).mono ?_); rintro e w' ⟨rfl, ⟨nd, rfl⟩⟩; (try exact xdd)) | (go_at_call 77; (with_reducible refine (al (w := _) (h := A26.out)).mono ?_); rintro e w' ⟨rfl, ⟨nd, rfl⟩⟩; (try exact xdd))); try go_wp2_with (first | (go_at_call 54; (with_reducible refine (ak (w := _) (h := A2.out)).mono ?_); rintro e w' ⟨rfl, ⟨nd, rfl⟩⟩; (try exact xdd)) | (go_at_call 77; (with_reducible refine (al (w := _) (h := A26.out)).mono ?_); rintro e w' ⟨rfl, ⟨nd, rfl⟩⟩; (try exact xdd))))
 go_ret2
 exact ⟨by first | exact xrs | (simp only [← Ad, ← Ae] <;> (first | rfl | simp)) | exact xrr, xdr⟩
 }
 have Ax := xdf c27
 clear c27
 simp only [Option.some.injEq, Prod.mk.injEq] at H
 obtain ⟨rfl, rfl⟩ := H
 go_enter Tryd.func70, Tryd.ntmps70
 go_wp2_with (first | (go_at_call 54; (with_reducible refine (ak (w := _) (h := A2.out)).mono ?_); rintro e w' ⟨rfl, ⟨nd, rfl⟩⟩; (try exact xdd)) | (go_at_call 77; (with_reducible refine (al (w := _) (h := A26.out)).mono ?_); rintro e w' ⟨rfl, ⟨nd, rfl⟩⟩; (try exact xdd)))
 repeat (go_quiet (first | (go_at_call 54; (with_reducible refine (ak (w := _) (h := A2.out)).mono ?_); rintro e w' ⟨rfl, ⟨nd, rfl⟩⟩; (try exact xdd)) | (go_at_call 77; (with_reducible refine (al (w := _) (h := A26.out)).mono ?_); rintro e w' ⟨rfl, ⟨nd, rfl⟩⟩; (try exact xdd))); try go_wp2_with (first | (go_at_call 54; (with_reducible refine (ak (w := _) (h := A2.out)).mono ?_); rintro e w' ⟨rfl, ⟨nd, rfl⟩⟩; (try exact xdd)) | (go_at_call 77; (with_reducible refine (al (w := _) (h := A26.out)).mono ?_); rintro e w' ⟨rfl, ⟨nd, rfl⟩⟩; (try exact xdd))))
 go_ret2
 exact ⟨xrr, xdr⟩
end Go.Proofs.YtojdiklegmhakaaDoor.X
