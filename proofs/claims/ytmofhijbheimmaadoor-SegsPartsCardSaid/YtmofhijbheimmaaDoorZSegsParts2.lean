/- Texts that the law's proof needs, joined by a program of this session. -/
import Derived.Test.YtmofhijbheimmaaDoorZSegsParts1
set_option maxHeartbeats 8000000
set_option maxRecDepth 100000
set_option linter.unusedSimpArgs false
set_option linter.unusedVariables false
namespace Go.Proofs.YtmofhijbheimmaaDoor.X
open Go.RowKit Go.Proofs.YtmofhijbheimmaaDoorW.PrintWords Go.Proofs.YtmofhijbheimmaaDoorW.PrintLast Go.Proofs.YtmofhijbheimmaaDoorW.PrintMore
attribute [local go_sem] cJ cx dT eS fs er eT ef eh eJ eK dK dL eg ei
mutual
def bl : Nat → ByteArray → Int → Int → Bool → Option (Int × Int × Bool)
  | 0, _, _, _, _ => none
  | k + 1, x0, x5, x6, x20 => if x20 = true then (some (0, x5, false)) else (if 0 < (x0.size : Int) then (if 0 ≤ x6 then (if x6 = 0 then (af k x0 (wrap32 (Go.bits .and .u8 (bt x0 0) 0)) x6 1) else (if x6 = 1 then (af k x0 (wrap32 (Go.bits .and .u8 (bt x0 0) 127)) x6 1) else (if x6 = 2 then (af k x0 (wrap32 (Go.bits .and .u8 (bt x0 0) 31)) x6 1) else (if x6 = 3 then (af k x0 (wrap32 (Go.bits .and .u8 (bt x0 0) 15)) x6 1) else (if x6 = 4 then (af k x0 (wrap32 (Go.bits .and .u8 (bt x0 0) 7)) x6 1) else (none)))))) else (none)) else (none))
def af : Nat → ByteArray → Int → Int → Int → Option (Int × Int × Bool)
  | 0, _, _, _, _ => none
  | k + 1, x0, x2, x6, x8 => if x8 < x6 then (if 0 ≤ x8 then (if x8 < (x0.size : Int) then (af k x0 (Go.bits .or .i32 (wrap32 (x2 * 64)) (wrap32 (Go.bits .and .u8 (bt x0 x8) 63))) x6 (wrap64 (x8 + 1))) else (none)) else (none)) else (some (x2, x6, true))
end
def cn (k : Nat) (a0 : ByteArray) : Option (Int × Int × Bool) := (cB k a0).bind fun Aa => (if Aa.2 = 0 then (bl k a0 Aa.1 Aa.2 true) else (bl k a0 Aa.1 Aa.2 (decide (Aa.1 < Aa.2))))
theorem d6 : ∀ k, (∀ y0 y1 y2 y3, LeO (bl k y0 y1 y2 y3) (bl (k + 1) y0 y1 y2 y3)) ∧ (∀ y0 y1 y2 y3, LeO (af k y0 y1 y2 y3) (af (k + 1) y0 y1 y2 y3))
  | 0 => ⟨fun _ _ _ _ r h => by simp [bl] at h, fun _ _ _ _ r h => by simp [af] at h⟩
  | k + 1 => by
    obtain ⟨ih0, ih1⟩ := d6 k
    have m0 := @eQ
    refine ⟨?_, ?_⟩
    · intro y0 y1 y2 y3
      unfold bl
      exact xmo
    · intro y0 y1 y2 y3
      unfold af
      exact xmo
theorem eA : ∀ a0 k, LeO (cn k a0) (cn (k + 1) a0) := by
  intro a0 k
  obtain ⟨ih0, ih1⟩ := d6 k
  have m0 := @eQ
  unfold cn
  exact xmo
theorem cU (k : Nat) (a0 : ByteArray) (r1 : Int) (r2 : Int) (r3 : Bool) (w : World) (h : cn k a0 = some (r1, r2, r3)) :
    Calls Tryd.prog 57 #[.string a0] w fun e w' => e = .returned (.tuple #[.int .i32 r1, .int .i64 r2, .bool r3]) ∧ Below w.heap.size w w' := by
 have hu104 := Tryd.underlying104
 have HB := Zz.mk (Below.refl w.heap.size w)
 have H := h
 clear h
 unfold cn at H
 replace H := xbd H
 obtain ⟨⟨Aj, Ag⟩, A2, H⟩ := H
 try dsimp only at H
 have Av := Zz.mk H
 clear H
 go_enter Tryd.func57, Tryd.ntmps57
 go_upto_region 2 with (first | (go_at_call 76; (with_reducible refine (dA (w := _) (h := A2.out)).mono ?_); rintro e w' ⟨rfl, ⟨nd, rfl⟩⟩; (try exact xdd)))
 repeat (go_quiet (first | (go_at_call 76; (with_reducible refine (dA (w := _) (h := A2.out)).mono ?_); rintro e w' ⟨rfl, ⟨nd, rfl⟩⟩; (try exact xdd))); go_upto_region 2 with (first | (go_at_call 76; (with_reducible refine (dA k a0 Aj Ag _ A2.out).mono ?_); rintro e w' ⟨rfl, ⟨nd, rfl⟩⟩; (try exact xdd))))
 (try simp only [Act.put, xl1, xl2, xl3])
 go_cut [20] (fun v20 wc => ∃ kq Ah, v20 = .bool Ah ∧ Zz (bl kq a0 Aj Ag Ah = some (r1, r2, r3)) ∧ Zz (kq ≤ k) ∧ Zz (Below w.heap.size w wc))
 case first => (
 have H := Av.out
 clear Av
 refine xid H ?_ ?_ <;> clear H <;> intro c4 H
 {
 obtain ⟨Ai, Ak⟩ := xqe c4
 clear c4
 (first | rw [Ai] | (simp only [am, az]; rw [Ai]) | (rw [Aw]; (try simp only [Bool.not_false, Bool.not_true])) | (rw [Ax]; (try simp only [Bool.not_false, Bool.not_true])) | rw [Ak] | skip)
 replace H := xa H
 go_wp2
 repeat (go_quiet (fail); try go_wp2)
 go_meet
 case rel => exact ⟨_, (true), xrr, H, ⟨xom⟩, ⟨xbl⟩⟩
 }
 obtain ⟨Ai, Ak⟩ := xqn c4
 (first | rw [Ai] | (simp only [am, az]; rw [Ai]) | (rw [Aw]; (try simp only [Bool.not_false, Bool.not_true])) | (rw [Ax]; (try simp only [Bool.not_false, Bool.not_true])) | rw [Ak] | skip)
 replace H := xa H
 go_wp2
 repeat (go_quiet (fail); try go_wp2)
 go_meet
 case rel => exact ⟨_, (decide (Aj < Ag)), xrr, H, ⟨xom⟩, ⟨xbl⟩⟩
 )
 case rest => (
 clear Av
 obtain ⟨kq, Ah, rfl, HA, HJ2, HB⟩ := hcut
 cases kq with
 | zero => exact absurd HA.out (by simp [bl])
 | succ kj2 => (
 have H := HA.out
 clear HA
 simp only [bl] at H
 refine xib H ?_ ?_ <;> clear H <;> rintro rfl H
 {
 simp only [Option.some.injEq, Prod.mk.injEq] at H
 obtain ⟨rfl, rfl, rfl⟩ := H
 go_wp2
 repeat (go_quiet (fail); try go_wp2)
 go_ret3
 exact ⟨xre, xbl⟩
 }
 refine xin H ?_; clear H; intro c6 H
 have Ay := xdt c6
 have Az : decide (0 < a0.size) = true := decide_eq_true (by omega)
 clear c6
 refine xin H ?_; clear H; intro c8 H
 have AA := xdt c8
 clear c8
 by_cases c9 : Ag = 0
 {
 subst c9
 rw [if_pos rfl] at H
 have H' := Zz.mk H
 clear H
 go_wp2_with (first | ((with_reducible refine ab (N := 7) rfl ?_); refine xew 7 ?_; intro Ac w10 Aa Ae hb hg; replace HB := xst hb; clear hb hg; have Al := xz5 Aa.out; obtain ⟨q7, Af, hx7⟩ := xi0 a0 xod))
 repeat (go_quiet (first | ((with_reducible refine ab (N := 7) rfl ?_); refine xew 7 ?_; intro Ac w10 Aa Ae hb hg; replace HB := xst hb; clear hb hg; have Al := xz5 Aa.out; obtain ⟨q7, Af, hx7⟩ := xi0 a0 xod)); try go_wp2_with (first | ((with_reducible refine ab (N := 7) rfl ?_); refine xew 7 ?_; intro Ac w10 Aa Ae hb hg; replace HB := xst hb; clear hb hg; have Al := xz5 Aa.out; obtain ⟨q7, Af, hx7⟩ := xi0 a0 xod)))
 go_loopg [2, 8] kj2 (fun kq v2 v8 w' => ∃ Ad Ab, v2 = .int .i32 Ad ∧ v8 = .int .i64 Ab ∧ Zz (af kq a0 Ad 0 Ab = some (r1, r2, r3)) ∧ Zz (kq ≤ kj2) ∧ Zz (w'.heap[Ac]? = some (.cells #[.int .u8 0, .int .u8 127, .int .u8 31, .int .u8 15, .int .u8 7] 104 (0, 0))) ∧ Zz (Below w.heap.size w w'))
 case atStart => exact ⟨(wrap32 (Go.bits .and .u8 (bt a0 0) 0)), (1), xrr, xrr, H', ⟨Nat.le_refl _⟩, ⟨xbK⟩, ⟨xbl⟩⟩
 case round => (
 clear H'
 clear Ay Az AA
 try clear p7
 try clear q7
 try clear hx7
 try clear Af
 obtain ⟨Ad, Ab, rfl, rfl, HA, HK2, Aa, HB⟩ := hrel
 cases gk with
 | zero => exact absurd HA.out (by simp [af])
 | succ k2 => (
 have H := HA.out
 clear HA
 simp only [af] at H
 refine xid H ?_ ?_ <;> clear H <;> intro c12 H
 {
 have Am := xdt c12
 clear c12
 refine xin H ?_; clear H; intro c13 H
 have AB := xdt c13
 clear c13
 refine xin H ?_; clear H; intro c14 H
 have AC := xdt c14
 clear c14
 replace H := xa H
 obtain ⟨p15, q15, hx15⟩ := xiv a0 Ab xod xod
 go_wp2
 repeat (go_quiet (fail); try go_wp2)
 go_roundg k2
 case measure => have := HJ2.out; have := HK2.out; omega
 case rel => exact ⟨(Go.bits .or .i32 (wrap32 (Ad * 64)) (wrap32 (Go.bits .and .u8 (bt a0 Ab) 63))), (wrap64 (Ab + 1)), xrr, xrr, H, ⟨by have := HJ2.out; have := HK2.out; omega⟩, ⟨xbk⟩, ⟨xbl⟩⟩
 }
 have Am := xdf c12
 clear c12
 simp only [Option.some.injEq, Prod.mk.injEq] at H
 obtain ⟨rfl, rfl, rfl⟩ := H
 go_wp2
 repeat (go_quiet (fail); try go_wp2)
 go_ret3
 exact ⟨xre, xbl⟩
 )
 )
 }
 {
 rw [if_neg c9] at H
 clear c9
 by_cases c16 : Ag = 1
 {
 subst c16
 rw [if_pos rfl] at H
 have H' := Zz.mk H
 clear H
 go_wp2_with (first | ((with_reducible refine ab (N := 7) rfl ?_); refine xew 7 ?_; intro Ac w17 Aa Ae hb hg; replace HB := xst hb; clear hb hg; have An := xz5 Aa.out; obtain ⟨q7, Af, hx7⟩ := xi0 a0 xod))
 repeat (go_quiet (first | ((with_reducible refine ab (N := 7) rfl ?_); refine xew 7 ?_; intro Ac w17 Aa Ae hb hg; replace HB := xst hb; clear hb hg; have An := xz5 Aa.out; obtain ⟨q7, Af, hx7⟩ := xi0 a0 xod)); try go_wp2_with (first | ((with_reducible refine ab (N := 7) rfl ?_); refine xew 7 ?_; intro Ac w17 Aa Ae hb hg; replace HB := xst hb; clear hb hg; have An := xz5 Aa.out; obtain ⟨q7, Af, hx7⟩ := xi0 a0 xod)))
 go_loopg [2, 8] kj2 (fun kq v2 v8 w' => ∃ Ad Ab, v2 = .int .i32 Ad ∧ v8 = .int .i64 Ab ∧ Zz (af kq a0 Ad 1 Ab = some (r1, r2, r3)) ∧ Zz (kq ≤ kj2) ∧ Zz (w'.heap[Ac]? = some (.cells #[.int .u8 0, .int .u8 127, .int .u8 31, .int .u8 15, .int .u8 7] 104 (0, 0))) ∧ Zz (Below w.heap.size w w'))
 case atStart => exact ⟨(wrap32 (Go.bits .and .u8 (bt a0 0) 127)), (1), xrr, xrr, H', ⟨Nat.le_refl _⟩, ⟨xbK⟩, ⟨xbl⟩⟩
 case round => (
 clear H'
 try clear p7
 try clear q7
 try clear hx7
 try clear Af
 obtain ⟨Ad, Ab, rfl, rfl, HA, HK2, Aa, HB⟩ := hrel
 cases gk with
 | zero => exact absurd HA.out (by simp [af])
 | succ k2 => (
 have H := HA.out
 clear HA
 simp only [af] at H
 refine xid H ?_ ?_ <;> clear H <;> intro c19 H
 {
 have Ao := xdt c19
 clear c19
 refine xin H ?_; clear H; intro c20 H
 have AD := xdt c20
 clear c20
 refine xin H ?_; clear H; intro c21 H
 have AE := xdt c21
 clear c21
 replace H := xa H
 obtain ⟨p22, q22, hx22⟩ := xiv a0 Ab xod xod
 go_wp2
 repeat (go_quiet (fail); try go_wp2)
 go_roundg k2
 case measure => have := HJ2.out; have := HK2.out; omega
 case rel => exact ⟨(Go.bits .or .i32 (wrap32 (Ad * 64)) (wrap32 (Go.bits .and .u8 (bt a0 Ab) 63))), (wrap64 (Ab + 1)), xrr, xrr, H, ⟨by have := HJ2.out; have := HK2.out; omega⟩, ⟨xbk⟩, ⟨xbl⟩⟩
 }
 have Ao := xdf c19
 clear c19
 simp only [Option.some.injEq, Prod.mk.injEq] at H
 obtain ⟨rfl, rfl, rfl⟩ := H
 go_wp2
 repeat (go_quiet (fail); try go_wp2)
 go_ret3
 exact ⟨xre, xbl⟩
 )
 )
 }
 {
 rw [if_neg c16] at H
 clear c16
 by_cases c23 : Ag = 2
 {
 subst c23
 rw [if_pos rfl] at H
 have H' := Zz.mk H
 clear H
 go_wp2_with (first | ((with_reducible refine ab (N := 7) rfl ?_); refine xew 7 ?_; intro Ac w24 Aa Ae hb hg; replace HB := xst hb; clear hb hg; have Ap := xz5 Aa.out; obtain ⟨q7, Af, hx7⟩ := xi0 a0 xod))
 repeat (go_quiet (first | ((with_reducible refine ab (N := 7) rfl ?_); refine xew 7 ?_; intro Ac w24 Aa Ae hb hg; replace HB := xst hb; clear hb hg; have Ap := xz5 Aa.out; obtain ⟨q7, Af, hx7⟩ := xi0 a0 xod)); try go_wp2_with (first | ((with_reducible refine ab (N := 7) rfl ?_); refine xew 7 ?_; intro Ac w24 Aa Ae hb hg; replace HB := xst hb; clear hb hg; have Ap := xz5 Aa.out; obtain ⟨q7, Af, hx7⟩ := xi0 a0 xod)))
 go_loopg [2, 8] kj2 (fun kq v2 v8 w' => ∃ Ad Ab, v2 = .int .i32 Ad ∧ v8 = .int .i64 Ab ∧ Zz (af kq a0 Ad 2 Ab = some (r1, r2, r3)) ∧ Zz (kq ≤ kj2) ∧ Zz (w'.heap[Ac]? = some (.cells #[.int .u8 0, .int .u8 127, .int .u8 31, .int .u8 15, .int .u8 7] 104 (0, 0))) ∧ Zz (Below w.heap.size w w'))
 case atStart => exact ⟨(wrap32 (Go.bits .and .u8 (bt a0 0) 31)), (1), xrr, xrr, H', ⟨Nat.le_refl _⟩, ⟨xbK⟩, ⟨xbl⟩⟩
 case round => (
 clear H'
 try clear p7
 try clear q7
 try clear hx7
 try clear Af
 obtain ⟨Ad, Ab, rfl, rfl, HA, HK2, Aa, HB⟩ := hrel
 cases gk with
 | zero => exact absurd HA.out (by simp [af])
 | succ k2 => (
 have H := HA.out
 clear HA
 simp only [af] at H
 refine xid H ?_ ?_ <;> clear H <;> intro c26 H
 {
 have Aq := xdt c26
 clear c26
 refine xin H ?_; clear H; intro c27 H
 have AF := xdt c27
 clear c27
 refine xin H ?_; clear H; intro c28 H
 have AG := xdt c28
 clear c28
 replace H := xa H
 obtain ⟨p29, q29, hx29⟩ := xiv a0 Ab xod xod
 go_wp2
 repeat (go_quiet (fail); try go_wp2)
 go_roundg k2
 case measure => have := HJ2.out; have := HK2.out; omega
 case rel => exact ⟨(Go.bits .or .i32 (wrap32 (Ad * 64)) (wrap32 (Go.bits .and .u8 (bt a0 Ab) 63))), (wrap64 (Ab + 1)), xrr, xrr, H, ⟨by have := HJ2.out; have := HK2.out; omega⟩, ⟨xbk⟩, ⟨xbl⟩⟩
 }
 have Aq := xdf c26
 clear c26
 simp only [Option.some.injEq, Prod.mk.injEq] at H
 obtain ⟨rfl, rfl, rfl⟩ := H
 go_wp2
 repeat (go_quiet (fail); try go_wp2)
 go_ret3
 exact ⟨xre, xbl⟩
 )
 )
 }
 {
 rw [if_neg c23] at H
 clear c23
 by_cases c30 : Ag = 3
 {
 subst c30
 rw [if_pos rfl] at H
 have H' := Zz.mk H
 clear H
 go_wp2_with (first | ((with_reducible refine ab (N := 7) rfl ?_); refine xew 7 ?_; intro Ac w31 Aa Ae hb hg; replace HB := xst hb; clear hb hg; have Ar := xz5 Aa.out; obtain ⟨q7, Af, hx7⟩ := xi0 a0 xod))
 repeat (go_quiet (first | ((with_reducible refine ab (N := 7) rfl ?_); refine xew 7 ?_; intro Ac w31 Aa Ae hb hg; replace HB := xst hb; clear hb hg; have Ar := xz5 Aa.out; obtain ⟨q7, Af, hx7⟩ := xi0 a0 xod)); try go_wp2_with (first | ((with_reducible refine ab (N := 7) rfl ?_); refine xew 7 ?_; intro Ac w31 Aa Ae hb hg; replace HB := xst hb; clear hb hg; have Ar := xz5 Aa.out; obtain ⟨q7, Af, hx7⟩ := xi0 a0 xod)))
 go_loopg [2, 8] kj2 (fun kq v2 v8 w' => ∃ Ad Ab, v2 = .int .i32 Ad ∧ v8 = .int .i64 Ab ∧ Zz (af kq a0 Ad 3 Ab = some (r1, r2, r3)) ∧ Zz (kq ≤ kj2) ∧ Zz (w'.heap[Ac]? = some (.cells #[.int .u8 0, .int .u8 127, .int .u8 31, .int .u8 15, .int .u8 7] 104 (0, 0))) ∧ Zz (Below w.heap.size w w'))
 case atStart => exact ⟨(wrap32 (Go.bits .and .u8 (bt a0 0) 15)), (1), xrr, xrr, H', ⟨Nat.le_refl _⟩, ⟨xbK⟩, ⟨xbl⟩⟩
 case round => (
 clear H'
 try clear p7
 try clear q7
 try clear hx7
 try clear Af
 obtain ⟨Ad, Ab, rfl, rfl, HA, HK2, Aa, HB⟩ := hrel
 cases gk with
 | zero => exact absurd HA.out (by simp [af])
 | succ k2 => (
 have H := HA.out
 clear HA
 simp only [af] at H
 refine xid H ?_ ?_ <;> clear H <;> intro c33 H
 {
 have As := xdt c33
 clear c33
 refine xin H ?_; clear H; intro c34 H
 have AH := xdt c34
 clear c34
 refine xin H ?_; clear H; intro c35 H
 have AI := xdt c35
 clear c35
 replace H := xa H
 obtain ⟨p36, q36, hx36⟩ := xiv a0 Ab xod xod
 go_wp2
 repeat (go_quiet (fail); try go_wp2)
 go_roundg k2
 case measure => have := HJ2.out; have := HK2.out; omega
 case rel => exact ⟨(Go.bits .or .i32 (wrap32 (Ad * 64)) (wrap32 (Go.bits .and .u8 (bt a0 Ab) 63))), (wrap64 (Ab + 1)), xrr, xrr, H, ⟨by have := HJ2.out; have := HK2.out; omega⟩, ⟨xbk⟩, ⟨xbl⟩⟩
 }
 have As := xdf c33
 clear c33
 simp only [Option.some.injEq, Prod.mk.injEq] at H
 obtain ⟨rfl, rfl, rfl⟩ := H
 go_wp2
 repeat (go_quiet (fail); try go_wp2)
 go_ret3
 exact ⟨xre, xbl⟩
 )
 )
 }
 {
 rw [if_neg c30] at H
 clear c30
 by_cases c37 : Ag = 4
 {
 subst c37
 rw [if_pos rfl] at H
 have H' := Zz.mk H
 clear H
 go_wp2_with (first | ((with_reducible refine ab (N := 7) rfl ?_); refine xew 7 ?_; intro Ac w38 Aa Ae hb hg; replace HB := xst hb; clear hb hg; have At := xz5 Aa.out; obtain ⟨q7, Af, hx7⟩ := xi0 a0 xod))
 repeat (go_quiet (first | ((with_reducible refine ab (N := 7) rfl ?_); refine xew 7 ?_; intro Ac w38 Aa Ae hb hg; replace HB := xst hb; clear hb hg; have At := xz5 Aa.out; obtain ⟨q7, Af, hx7⟩ := xi0 a0 xod)); try go_wp2_with (first | ((with_reducible refine ab (N := 7) rfl ?_); refine xew 7 ?_; intro Ac w38 Aa Ae hb hg; replace HB := xst hb; clear hb hg; have At := xz5 Aa.out; obtain ⟨q7, Af, hx7⟩ := xi0 a0 xod)))
 go_loopg [2, 8] kj2 (fun kq v2 v8 w' => ∃ Ad Ab, v2 = .int .i32 Ad ∧ v8 = .int .i64 Ab ∧ Zz (af kq a0 Ad 4 Ab = some (r1, r2, r3)) ∧ Zz (kq ≤ kj2) ∧ Zz (w'.heap[Ac]? = some (.cells #[.int .u8 0, .int .u8 127, .int .u8 31, .int .u8 15, .int .u8 7] 104 (0, 0))) ∧ Zz (Below w.heap.size w w'))
 case atStart => exact ⟨(wrap32 (Go.bits .and .u8 (bt a0 0) 7)), (1), xrr, xrr, H', ⟨Nat.le_refl _⟩, ⟨xbK⟩, ⟨xbl⟩⟩
 case round => (
 clear H'
 try clear p7
 try clear q7
 try clear hx7
 try clear Af
 obtain ⟨Ad, Ab, rfl, rfl, HA, HK2, Aa, HB⟩ := hrel
 cases gk with
 | zero => exact absurd HA.out (by simp [af])
 | succ k2 => (
 have H := HA.out
 clear HA
 simp only [af] at H
 refine xid H ?_ ?_ <;> clear H <;> intro c40 H
 {
 have Au := xdt c40
 clear c40
 refine xin H ?_; clear H; intro c41 H
 have AJ := xdt c41
 clear c41
 refine xin H ?_; clear H; intro c42 H
 have AK := xdt c42
 clear c42
 replace H := xa H
 obtain ⟨p43, q43, hx43⟩ := xiv a0 Ab xod xod
 go_wp2
 repeat (go_quiet (fail); try go_wp2)
 go_roundg k2
 case measure => have := HJ2.out; have := HK2.out; omega
 case rel => exact ⟨(Go.bits .or .i32 (wrap32 (Ad * 64)) (wrap32 (Go.bits .and .u8 (bt a0 Ab) 63))), (wrap64 (Ab + 1)), xrr, xrr, H, ⟨by have := HJ2.out; have := HK2.out; omega⟩, ⟨xbk⟩, ⟨xbl⟩⟩
 }
 have Au := xdf c40
 clear c40
 simp only [Option.some.injEq, Prod.mk.injEq] at H
 obtain ⟨rfl, rfl, rfl⟩ := H
 go_wp2
 repeat (go_quiet (fail); try go_wp2)
 go_ret3
 exact ⟨xre, xbl⟩
 )
 )
 }
 {
 rw [if_neg c37] at H
 clear c37
 exact absurd H (by simp)
 }
 }
 }
 }
 }
 )
 )
mutual
def bh : Nat → ByteArray → ByteArray → Int → Option (Int)
  | 0, _, _, _ => none
  | k + 1, x0, x2, x7 => if x7 < (x0.size : Int) then (bi k x0 x2 x7 (x2.size : Int) 0) else (some (-1))
def bi : Nat → ByteArray → ByteArray → Int → Int → Int → Option (Int)
  | 0, _, _, _, _, _ => none
  | k + 1, x0, x2, x7, x18, x19 => if x19 < x18 then (if 0 ≤ x7 then (if x7 < (x0.size : Int) then (if 0 ≤ x19 then (if x19 < (x2.size : Int) then (if (bt x0 x7) = (bt x2 x19) then (some x7) else (bi k x0 x2 x7 x18 (wrap64 (x19 + 1)))) else (none)) else (none)) else (none)) else (none)) else (bh k x0 x2 (wrap64 (x7 + 1)))
end
def bw (k : Nat) (a0 : ByteArray) (a1 : Int) (a2 : ByteArray) : Option (Int) := bh k a0 a2 (mx a1 0)
theorem dZ : ∀ k, (∀ y0 y1 y2, LeO (bh k y0 y1 y2) (bh (k + 1) y0 y1 y2)) ∧ (∀ y0 y1 y2 y3 y4, LeO (bi k y0 y1 y2 y3 y4) (bi (k + 1) y0 y1 y2 y3 y4))
  | 0 => ⟨fun _ _ _ r h => by simp [bh] at h, fun _ _ _ _ _ r h => by simp [bi] at h⟩
  | k + 1 => by
    obtain ⟨ih0, ih1⟩ := dZ k
    refine ⟨?_, ?_⟩
    · intro y0 y1 y2
      unfold bh
      exact xmo
    · intro y0 y1 y2 y3 y4
      unfold bi
      exact xmo
theorem dw : ∀ a0 a1 a2 k, LeO (bw k a0 a1 a2) (bw (k + 1) a0 a1 a2) := by
  intro a0 a1 a2 k
  obtain ⟨ih0, ih1⟩ := dZ k
  unfold bw
  exact xmo
theorem cr (k : Nat) (a0 : ByteArray) (a1 : Int) (a2 : ByteArray) (r : Int) (w : World) (h : bw k a0 a1 a2 = some r) :
    Calls Tryd.prog 63 #[.string a0, .int .i64 a1, .string a2] w fun e w' => e = .returned (.int .i64 r) ∧ Below w.heap.size w w' := by
 have HB := Zz.mk (Below.refl w.heap.size w)
 have H := h
 clear h
 unfold bw at H
 obtain ⟨Ag, Ab⟩ : ∃ j_ : Int, (mx a1 0) = j_ := ⟨_, rfl⟩
 first | rw [Ab] at H | simp only [Ab] at H | skip
 (try (have Ai : 0 ≤ Ag := by (rw [← Ab]; unfold mx; (repeat' split) <;> omega)))
 (try (have Aj : 0 ≤ Ag := by omega))
 have hji4_ : (if a1 < 0 then 0 else a1) = Ag := Ab
 have H' := Zz.mk H
 clear H
 go_enter Tryd.func63, Tryd.ntmps63
 go_wp2
 repeat (go_quiet (fail); try go_wp2)
 go_loopg [7] k (fun kq v7 w' => ∃ Ac, v7 = .int .i64 Ac ∧ Zz (bh kq a0 a2 Ac = some r) ∧ Zz (kq ≤ k) ∧ Zz (Below w.heap.size w w'))
 case atStart => exact ⟨(Ag), (by first | rfl | (simp; done) | (simp only [← Ab] <;> (first | rfl | (rw [Int.tdiv_eq_ediv_of_nonneg (by unfold mx; split <;> omega)]; done) | simp)) | (simp [*]; done) | (simp [wrap64]; done)), H', ⟨Nat.le_refl _⟩, ⟨xbl⟩⟩
 case round => (
 clear H'
 obtain ⟨Ac, rfl, HA, HK1, HB⟩ := hrel
 cases gk with
 | zero => exact absurd HA.out (by simp [bh])
 | succ k1 => (
 have H := HA.out
 clear HA
 simp only [bh] at H
 refine xid H ?_ ?_ <;> clear H <;> intro c5 H
 {
 have Ad := xdt c5
 clear c5
 have H' := Zz.mk H
 clear H
 go_wp2
 repeat (go_quiet (fail); try go_wp2)
 go_loopg [19] k1 (fun kq v19 w' => ∃ Aa, v19 = .int .i64 Aa ∧ Zz (bi kq a0 a2 Ac (a2.size : Int) Aa = some r) ∧ Zz (kq ≤ k1) ∧ Zz (Below w.heap.size w w'))
 case atStart => exact ⟨(0), xrr, H', ⟨Nat.le_refl _⟩, ⟨xbl⟩⟩
 case round => (
 clear H'
 clear Ad
 obtain ⟨Aa, rfl, HA, HK2, HB⟩ := hrel
 cases gk with
 | zero => exact absurd HA.out (by simp [bi])
 | succ k2 => (
 have H := HA.out
 clear HA
 simp only [bi] at H
 refine xid H ?_ ?_ <;> clear H <;> intro c6 H
 {
 have Ah := xdt c6
 clear c6
 refine xin H ?_; clear H; intro c7 H
 have Am := xdt c7
 clear c7
 refine xin H ?_; clear H; intro c8 H
 have An := xdt c8
 clear c8
 refine xin H ?_; clear H; intro c10 H
 have Ak := xdt c10
 clear c10
 refine xin H ?_; clear H; intro c11 H
 have Al := xdt c11
 clear c11
 refine xid H ?_ ?_ <;> clear H <;> intro c13 H
 {
 obtain ⟨Ae, Af⟩ := xqe c13
 clear c13
 obtain rfl := Option.some.inj H
 obtain ⟨p9, q9, hx9⟩ := xiv a0 Ac xod xod
 obtain ⟨p12, q12, hx12⟩ := xiv a2 Aa xod xod
 go_wp2
 repeat (go_quiet (fail); try go_wp2)
 go_ret
 exact ⟨by first | exact xrd | (simp only [← Ab]; exact xrd) | exact xre, xbl⟩
 }
 obtain ⟨Ae, Af⟩ := xqn c13
 replace H := xa H
 obtain ⟨p9, q9, hx9⟩ := xiv a0 Ac xod xod
 obtain ⟨p12, q12, hx12⟩ := xiv a2 Aa xod xod
 go_wp2
 repeat (go_quiet (fail); try go_wp2)
 go_roundg k2
 case measure => have := HK1.out; have := HK2.out; omega
 case rel => exact ⟨(wrap64 (Aa + 1)), xrr, H, ⟨by have := HK1.out; have := HK2.out; omega⟩, ⟨xbl⟩⟩
 }
 have Ah := xdf c6
 clear c6
 replace H := xa H
 go_wp2
 repeat (go_quiet (fail); try go_wp2)
 go_roundg k2
 case measure => have := HK1.out; have := HK2.out; omega
 case rel => exact ⟨(wrap64 (Ac + 1)), xrr, H, ⟨by have := HK1.out; have := HK2.out; omega⟩, ⟨xbl⟩⟩
 )
 )
 }
 have Ad := xdf c5
 clear c5
 obtain rfl := Option.some.inj H
 go_wp2
 repeat (go_quiet (fail); try go_wp2)
 go_ret
 exact ⟨by first | exact xrd | (simp only [← Ab]; exact xrd) | exact xre, xbl⟩
 )
 )
def ca (k : Nat) (a0 : Int) (a1 : Int) : Option (Bool) := (cu a0).bind fun bt116 => (if bt116.2 = true then ((cg k a1 15).bind fun t118 => (if t118 = true then (some true) else ((bw k bt116.1 0 (strOfNums (([a1] : List Int)))).bind fun t122 => (some (decide (t122 ≥ 0)))))) else (some false))
theorem ee : ∀ a0 a1 k, LeO (ca k a0 a1) (ca (k + 1) a0 a1) := by
  intro a0 a1 k
  have m0 := @dw; have m1 := @cv
  unfold ca
  exact xmo
theorem fv (k : Nat) (a0 : Int) (a1 : Int) (r : Bool) (w : World) (h : ca k a0 a1 = some r) :
    Calls Tryd.prog 77 #[.int .i64 a0, .int .u8 a1] w fun e w' => e = .returned (.bool r) ∧ Below w.heap.size w w' := by
 have HB := Zz.mk (Below.refl w.heap.size w)
 have H := h
 clear h
 unfold ca at H
 replace H := xbd H
 obtain ⟨⟨Ae, Ag⟩, A3, H⟩ := H
 try dsimp only at H
 refine xib H ?_ ?_ <;> clear H <;> rintro rfl H
 {
 replace H := xbd H
 obtain ⟨Ah, A5, H⟩ := H
 try dsimp only at H
 refine xib H ?_ ?_ <;> clear H <;> rintro rfl H
 {
 obtain rfl := Option.some.inj H
 go_enter Tryd.func77, Tryd.ntmps77
 go_wp2_with (first | ((with_reducible refine xgc (f := 55) rfl ?_); refine xca 9 Tryd.func55 (aM (w := _) (h := A3.out)) ?_; rintro w' ⟨nd, rfl⟩) | ((with_reducible refine xgc (f := 47) rfl ?_); refine xca 15 Tryd.func47 (bp (w := _) (h := A5.out)) ?_; rintro w' ⟨nd, rfl⟩))
 go_ret
 exact ⟨xre, xbl⟩
 }
 obtain ⟨Af, Aa⟩ : ∃ y_ : List Int, y_ = (([a1] : List Int)) := ⟨_, rfl⟩
 replace H : ((bw k Ae 0 (strOfNums Af)).bind fun Ad => (some (decide (Ad ≥ 0)))) = some r := by first | (rw [Aa]; with_reducible exact H) | (have H2_ := (Option.bind_some _ _).symm.trans H; rw [Aa]; with_reducible exact H2_) | (have H2_ := (Option.bind_some _ _).symm.trans H; with_reducible exact H2_) | with_reducible exact H | (rw [Aa]; exact H) | exact H
 have Ac := Zz.mk Aa
 clear Aa
 replace H := xbd H
 obtain ⟨Ad, A7, H⟩ := H
 try dsimp only at H
 obtain rfl := Option.some.inj H
 go_enter Tryd.func77, Tryd.ntmps77
 go_wp2_with (first | ((with_reducible refine xgc (f := 55) rfl ?_); refine xca 9 Tryd.func55 (aM (w := _) (h := A3.out)) ?_; rintro w' ⟨nd, rfl⟩) | ((with_reducible refine xgc (f := 47) rfl ?_); refine xca 15 Tryd.func47 (bp (w := _) (h := A5.out)) ?_; rintro w' ⟨nd, rfl⟩) | ((with_reducible refine ab (N := 19) rfl ?_); (try (refine al (by rfl) ?_; dsimp only)); refine Kd.R_lit (Kd.int .u8) _ 5 ?hg (N := 19) ?hd (xs := ([a1] : List Int)) (inner := [.int .u8 a1]) (ok := fun _ => True) (okp := fun _ => True) ?hr ?hp (fun _ hk => hk) trivial (Below.refl _ _) (Nat.le_refl _) (by simp) ?_; (case hd => rfl); (case hg => rfl); (case hr => first | (go_simp; done) | (go_simp; rfl)); (case hp => exact (Reps.one (show Kd.M (Kd.int .u8) _ _ _ a1 [.int .u8 a1] from rfl) (Reps.none _ _))); intro v120 w8 ho9 hb hg_ hnew_; clear hg_ hnew_; (first | rw [← Ac.out] at ho9 | (simp only [Int.reduceToNat] at ho9; rw [← Ac.out] at ho9)); have Ab := Zz.mk (Kd.R_lower ho9 (aA xbl)); replace HB := xst hb; clear hb ho9; have hcv10 := dx (P := Tryd.prog) Tryd.underlying60 Tryd.underlying5 Tryd.underlying9 (Kd.own_of_R Ab.out)) | (go_at_call 63; (with_reducible refine (cr (w := _) (h := A7.out)).mono ?_); rintro e w11 ⟨rfl, hb⟩; replace Ab := Zz.mk (Kd.R_below (xkd Ab) hb); replace HB := xst hb; (try clear hb)))
 go_ret
 exact ⟨xre, xbl⟩
 }
 obtain rfl := Option.some.inj H
 go_enter Tryd.func77, Tryd.ntmps77
 go_wp2_with (first | ((with_reducible refine xgc (f := 55) rfl ?_); refine xca 9 Tryd.func55 (aM (w := _) (h := A3.out)) ?_; rintro w' ⟨nd, rfl⟩))
 go_ret
 exact ⟨xre, xbl⟩
def aC : Nat → Int → Bool → Option (Bool)
  | 0, _, _ => none
  | k + 1, x0, x6 => if x6 = true then (some true) else (if x0 < 65536 then (some false) else (if x0 > 983037 then (some false) else (if (Go.bits .and .i32 x0 65535) ≤ 65533 then (if x0 < 917504 then (some true) else (some (decide (x0 ≥ 921600)))) else (some false))))
def bZ (k : Nat) (a0 : Int) : Option (Bool) := if a0 < 160 then (some false) else (if a0 ≤ 55295 then (aC k a0 (decide (a0 ≤ 55295))) else (if a0 ≥ 63744 then (if a0 ≤ 64975 then (aC k a0 (decide (a0 ≤ 64975))) else (if a0 ≥ 65008 then (aC k a0 (decide (a0 ≤ 65519))) else (aC k a0 false))) else (if a0 ≥ 65008 then (aC k a0 (decide (a0 ≤ 65519))) else (aC k a0 false))))
theorem dB : ∀ k, (∀ y0 y1, LeO (aC k y0 y1) (aC (k + 1) y0 y1))
  | 0 => fun _ _ r h => by simp [aC] at h
  | k + 1 => by
    have ih0 := dB k
    · intro y0 y1
      unfold aC
      exact xmo
theorem dV : ∀ a0 k, LeO (bZ k a0) (bZ (k + 1) a0) := by
  intro a0 k
  have ih0 := dB k
  unfold bZ
  exact xmo
theorem cI (k : Nat) (a0 : Int) (r : Bool) (w : World) (h : bZ k a0 = some r) :
    Calls Tryd.prog 78 #[.int .i32 a0] w fun e w' => e = .returned (.bool r) ∧ Drawn0 w w' := by
 have H := h
 clear h
 unfold bZ at H
 refine xid H ?_ ?_ <;> clear H <;> intro c2 H
 {
 have Ac := xdt c2
 clear c2
 obtain rfl := Option.some.inj H
 go_enter Tryd.func78, Tryd.ntmps78
 go_wp2
 go_ret
 exact ⟨xrr, xdr⟩
 }
 have Ac := xdf c2
 clear c2
 have Ah := Zz.mk H
 clear H
 go_enter Tryd.func78, Tryd.ntmps78
 go_upto_if 6 with (fail)
 go_cut [6] (fun v6 wc => ∃ kq Ab, v6 = .bool Ab ∧ Zz (aC kq a0 Ab = some r) ∧ Zz (kq ≤ k) ∧ Drawn0 w wc)
 case first => (
 have H := Ah.out
 clear Ah
 refine xid H ?_ ?_ <;> clear H <;> intro c4 H
 {
 have Aa := xdt c4
 clear c4
 (first | rw [Aa] | (simp only [am, az]; rw [Aa]) | (rw [Ai]; (try simp only [Bool.not_false, Bool.not_true])) | (rw [Aj]; (try simp only [Bool.not_false, Bool.not_true])) | rw [Ak] | skip)
 replace H := xa H
 go_wp2
 go_meet
 case rel => exact ⟨_, (decide (a0 ≤ 55295)), xrr, H, ⟨xom⟩, xdr⟩
 }
 have Aa := xdf c4
 clear c4
 (first | rw [Aa] | (simp only [am, az]; rw [Aa]) | (rw [Ai]; (try simp only [Bool.not_false, Bool.not_true])) | (rw [Aj]; (try simp only [Bool.not_false, Bool.not_true])) | rw [Ak] | skip)
 refine xid H ?_ ?_ <;> clear H <;> intro c5 H
 {
 have Al := xdt c5
 clear c5
 refine xid H ?_ ?_ <;> clear H <;> intro c6 H
 {
 have Am := xdt c6
 clear c6
 replace H := xa H
 go_wp2
 go_meet
 case rel => exact ⟨_, (decide (a0 ≤ 64975)), xrr, H, ⟨xom⟩, xdr⟩
 }
 have Am := xdf c6
 clear c6
 refine xid H ?_ ?_ <;> clear H <;> intro c7 H
 {
 have An := xdt c7
 clear c7
 replace H := xa H
 go_wp2
 go_meet
 case rel => exact ⟨_, (decide (a0 ≤ 65519)), xrr, H, ⟨xom⟩, xdr⟩
 }
 have An := xdf c7
 clear c7
 replace H := xa H
 go_wp2
 go_meet
 case rel => exact ⟨_, (false), xrr, H, ⟨xom⟩, xdr⟩
 }
 have Al := xdf c5
 clear c5
 refine xid H ?_ ?_ <;> clear H <;> intro c8 H
 {
 have Ao := xdt c8
 clear c8
 replace H := xa H
 go_wp2
 go_meet
 case rel => exact ⟨_, (decide (a0 ≤ 65519)), xrr, H, ⟨xom⟩, xdr⟩
 }
 have Ao := xdf c8
 clear c8
 replace H := xa H
 go_wp2
 go_meet
 case rel => exact ⟨_, (false), xrr, H, ⟨xom⟩, xdr⟩
 )
 case rest => (
 clear Ah
 clear Ac
 obtain ⟨kq, Ab, rfl, HA, HJ2, ⟨mc2, rfl⟩⟩ := hcut
 cases kq with
 | zero => exact absurd HA.out (by simp [aC])
 | succ kj2 => (
 have H := HA.out
 clear HA
 simp only [aC] at H
 refine xib H ?_ ?_ <;> clear H <;> rintro rfl H
 {
 obtain rfl := Option.some.inj H
 go_wp2
 go_ret
 exact ⟨xrr, xdr⟩
 }
 refine xid H ?_ ?_ <;> clear H <;> intro c10 H
 {
 have Ad := xdt c10
 clear c10
 obtain rfl := Option.some.inj H
 go_wp2
 go_ret
 exact ⟨xrr, xdr⟩
 }
 have Ad := xdf c10
 clear c10
 refine xid H ?_ ?_ <;> clear H <;> intro c11 H
 {
 have Ae := xdt c11
 clear c11
 obtain rfl := Option.some.inj H
 go_wp2
 go_ret
 exact ⟨xrr, xdr⟩
 }
 have Ae := xdf c11
 clear c11
 refine xid H ?_ ?_ <;> clear H <;> intro c12 H
 {
 have Af := xdt c12
 clear c12
 refine xid H ?_ ?_ <;> clear H <;> intro c13 H
 {
 have Ag := xdt c13
 clear c13
 obtain rfl := Option.some.inj H
 go_wp2
 go_ret
 exact ⟨xrr, xdr⟩
 }
 have Ag := xdf c13
 clear c13
 obtain rfl := Option.some.inj H
 go_wp2
 go_ret
 exact ⟨xrr, xdr⟩
 }
 have Af := xdf c12
 clear c12
 obtain rfl := Option.some.inj H
 go_wp2
 go_ret
 exact ⟨xrr, xdr⟩
 )
 )
def dn (a0 : Int) : Option (Bool) := if a0 ≥ 57344 then (if a0 ≤ 63743 then (some true) else (if a0 ≥ 983040 then (if a0 ≤ 1048573 then (some true) else (if a0 ≥ 1048576 then (some (decide (a0 ≤ 1114109))) else (some false))) else (if a0 ≥ 1048576 then (some (decide (a0 ≤ 1114109))) else (some false)))) else (if a0 ≥ 983040 then (if a0 ≤ 1048573 then (some true) else (if a0 ≥ 1048576 then (some (decide (a0 ≤ 1114109))) else (some false))) else (if a0 ≥ 1048576 then (some (decide (a0 ≤ 1114109))) else (some false)))
theorem fc (a0 : Int) (r : Bool) (w : World) (h : dn a0 = some r) :
    Calls Tryd.prog 79 #[.int .i32 a0] w fun e w' => e = .returned (.bool r) ∧ Drawn0 w w' := by
 have H := h
 clear h
 unfold dn at H
 refine xid H ?_ ?_ <;> clear H <;> intro c2 H
 {
 have Ac := xdt c2
 clear c2
 refine xid H ?_ ?_ <;> clear H <;> intro c3 H
 {
 have Ad := xdt c3
 clear c3
 obtain rfl := Option.some.inj H
 go_enter Tryd.func79, Tryd.ntmps79
 go_wp2
 go_ret
 exact ⟨xrr, xdr⟩
 }
 have Ad := xdf c3
 clear c3
 refine xid H ?_ ?_ <;> clear H <;> intro c4 H
 {
 have Ae := xdt c4
 clear c4
 refine xid H ?_ ?_ <;> clear H <;> intro c5 H
 {
 have Af := xdt c5
 clear c5
 obtain rfl := Option.some.inj H
 go_enter Tryd.func79, Tryd.ntmps79
 go_wp2
 go_ret
 exact ⟨xrr, xdr⟩
 }
 have Af := xdf c5
 clear c5
 refine xid H ?_ ?_ <;> clear H <;> intro c6 H
 {
 have Ag := xdt c6
 clear c6
 obtain rfl := Option.some.inj H
 go_enter Tryd.func79, Tryd.ntmps79
 go_wp2
 go_ret
 exact ⟨xrr, xdr⟩
 }
 have Ag := xdf c6
 clear c6
 obtain rfl := Option.some.inj H
 go_enter Tryd.func79, Tryd.ntmps79
 go_wp2
 go_ret
 exact ⟨xrr, xdr⟩
 }
 have Ae := xdf c4
 clear c4
 refine xid H ?_ ?_ <;> clear H <;> intro c7 H
 {
 have Ah := xdt c7
 clear c7
 obtain rfl := Option.some.inj H
 go_enter Tryd.func79, Tryd.ntmps79
 go_wp2
 go_ret
 exact ⟨xrr, xdr⟩
 }
 have Ah := xdf c7
 clear c7
 obtain rfl := Option.some.inj H
 go_enter Tryd.func79, Tryd.ntmps79
 go_wp2
 go_ret
 exact ⟨xrr, xdr⟩
 }
 have Ac := xdf c2
 clear c2
 refine xid H ?_ ?_ <;> clear H <;> intro c8 H
 {
 have Ai := xdt c8
 clear c8
 refine xid H ?_ ?_ <;> clear H <;> intro c9 H
 {
 have Aj := xdt c9
 clear c9
 obtain rfl := Option.some.inj H
 go_enter Tryd.func79, Tryd.ntmps79
 go_wp2
 go_ret
 exact ⟨xrr, xdr⟩
 }
 have Aj := xdf c9
 clear c9
 refine xid H ?_ ?_ <;> clear H <;> intro c10 H
 {
 have Aa := xdt c10
 clear c10
 obtain rfl := Option.some.inj H
 go_enter Tryd.func79, Tryd.ntmps79
 go_wp2
 go_ret
 exact ⟨xrr, xdr⟩
 }
 have Aa := xdf c10
 clear c10
 obtain rfl := Option.some.inj H
 go_enter Tryd.func79, Tryd.ntmps79
 go_wp2
 go_ret
 exact ⟨xrr, xdr⟩
 }
 have Ai := xdf c8
 clear c8
 refine xid H ?_ ?_ <;> clear H <;> intro c11 H
 {
 have Ab := xdt c11
 clear c11
 obtain rfl := Option.some.inj H
 go_enter Tryd.func79, Tryd.ntmps79
 go_wp2
 go_ret
 exact ⟨xrr, xdr⟩
 }
 have Ab := xdf c11
 clear c11
 obtain rfl := Option.some.inj H
 go_enter Tryd.func79, Tryd.ntmps79
 go_wp2
 go_ret
 exact ⟨xrr, xdr⟩
mutual
def br : Nat → Int → Bool → Int → Bool → Option (Bool)
  | 0, _, _, _, _ => none
  | k + 1, x0, x1, x2, x14 => if x14 = true then ((ca k x0 ((x2) % 256)).bind fun t123 => (some t123)) else ((cu x0).bind fun bt124 => (if bt124.2 = true then (bs k x0 x2 (!x1)) else (bs k x0 x2 true)))
def bs : Nat → Int → Int → Bool → Option (Bool)
  | 0, _, _, _ => none
  | k + 1, x0, x2, x29 => if x29 = true then (some false) else ((bZ k x2).bind fun t126 => (if t126 = true then (some true) else (if x0 = 6 then ((dn x2).bind fun t127 => (some t127)) else (some false))))
end
def cA (k : Nat) (a0 : Int) (a1 : Bool) (a2 : Int) : Option (Bool) := if a2 ≥ 0 then (br k a0 a1 a2 (decide (a2 < 128))) else (br k a0 a1 a2 false)
theorem ed : ∀ k, (∀ y0 y1 y2 y3, LeO (br k y0 y1 y2 y3) (br (k + 1) y0 y1 y2 y3)) ∧ (∀ y0 y1 y2, LeO (bs k y0 y1 y2) (bs (k + 1) y0 y1 y2))
  | 0 => ⟨fun _ _ _ _ r h => by simp [br] at h, fun _ _ _ r h => by simp [bs] at h⟩
  | k + 1 => by
    obtain ⟨ih0, ih1⟩ := ed k
    have m0 := @dV; have m1 := @ee
    refine ⟨?_, ?_⟩
    · intro y0 y1 y2 y3
      unfold br
      exact xmo
    · intro y0 y1 y2
      unfold bs
      exact xmo
theorem eI : ∀ a0 a1 a2 k, LeO (cA k a0 a1 a2) (cA (k + 1) a0 a1 a2) := by
  intro a0 a1 a2 k
  obtain ⟨ih0, ih1⟩ := ed k
  have m0 := @dV; have m1 := @ee
  unfold cA
  exact xmo
theorem ev (k : Nat) (a0 : Int) (a1 : Bool) (a2 : Int) (r : Bool) (w : World) (h : cA k a0 a1 a2 = some r) :
    Calls Tryd.prog 58 #[.int .i64 a0, .bool a1, .int .i32 a2] w fun e w' => e = .returned (.bool r) ∧ Below w.heap.size w w' := by
 have HB := Zz.mk (Below.refl w.heap.size w)
 have H := h
 clear h
 unfold cA at H
 have Ag := Zz.mk H
 clear H
 go_enter Tryd.func58, Tryd.ntmps58
 go_upto_region 1 with (fail)
 go_cut [14] (fun v14 wc => ∃ kq Aa, v14 = .bool Aa ∧ Zz (br kq a0 a1 a2 Aa = some r) ∧ Zz (kq ≤ k) ∧ Zz (Below w.heap.size w wc))
 case first => (
 have H := Ag.out
 clear Ag
 refine xid H ?_ ?_ <;> clear H <;> intro c5 H
 {
 have Ab := xdt c5
 clear c5
 (first | rw [Ab] | (simp only [am, az]; rw [Ab]) | (rw [Ah]; (try simp only [Bool.not_false, Bool.not_true])) | (rw [Ai]; (try simp only [Bool.not_false, Bool.not_true])) | rw [Aj] | skip)
 replace H := xa H
 go_wp2
 go_meet
 case rel => exact ⟨_, (decide (a2 < 128)), xrr, H, ⟨xom⟩, ⟨xbl⟩⟩
 }
 have Ab := xdf c5
 clear c5
 (first | rw [Ab] | (simp only [am, az]; rw [Ab]) | (rw [Ah]; (try simp only [Bool.not_false, Bool.not_true])) | (rw [Ai]; (try simp only [Bool.not_false, Bool.not_true])) | rw [Aj] | skip)
 replace H := xa H
 go_wp2
 go_meet
 case rel => exact ⟨_, (false), xrr, H, ⟨xom⟩, ⟨xbl⟩⟩
 )
 case rest => (
 clear Ag
 obtain ⟨kq, Aa, rfl, HA, HJ3, HB⟩ := hcut
 cases kq with
 | zero => exact absurd HA.out (by simp [br])
 | succ kj3 => (
 have H := HA.out
 clear HA
 simp only [br] at H
 refine xib H ?_ ?_ <;> clear H <;> rintro rfl H
 {
 replace H := xbd H
 obtain ⟨Ak, A7, H⟩ := H
 try dsimp only at H
 obtain rfl := Option.some.inj H
 go_wp2_with (first | ((with_reducible refine xgc (f := 77) rfl ?_); refine xca 18 Tryd.func77 (fv (w := _) (h := A7.out)) ?_; rintro w8 hb; replace HB := xst hb; (try clear hb)))
 go_ret
 exact ⟨xre, xbl⟩
 }
 replace H := xbd H
 obtain ⟨⟨Al, Am⟩, A9, H⟩ := H
 try dsimp only at H
 have Ad := Zz.mk H
 clear H
 go_upto_region 4 with (first | ((with_reducible refine xgc (f := 55) rfl ?_); refine xca 21 Tryd.func55 (aM (w := _) (h := A9.out)) ?_; rintro w' ⟨nd, rfl⟩))
 (try simp only [Act.put, xl1, xl2, xl3])
 go_cut [29] (fun v29 wc => ∃ kq Ac, v29 = .bool Ac ∧ Zz (bs kq a0 a2 Ac = some r) ∧ Zz (kq ≤ kj3) ∧ Zz (Below w.heap.size w wc))
 case first => (
 have H := Ad.out
 clear Ad
 refine xib H ?_ ?_ <;> clear H <;> rintro rfl H
 {
 replace H := xa H
 go_wp2
 go_meet
 case rel => exact ⟨_, (!a1), xrr, H, ⟨xoj HJ3⟩, ⟨xbl⟩⟩
 }
 replace H := xa H
 go_wp2
 go_meet
 case rel => exact ⟨_, (true), xrr, H, ⟨xoj HJ3⟩, ⟨xbl⟩⟩
 )
 case rest => (
 clear Ad
 obtain ⟨kq, Ac, rfl, HA, HJ9, HB⟩ := hcut
 cases kq with
 | zero => exact absurd HA.out (by simp [bs])
 | succ kj9 => (
 have H := HA.out
 clear HA
 simp only [bs] at H
 refine xib H ?_ ?_ <;> clear H <;> rintro rfl H
 {
 obtain rfl := Option.some.inj H
 go_wp2
 go_ret
 exact ⟨xre, xbl⟩
 }
 replace H := xbd H
 obtain ⟨An, A13, H⟩ := H
 try dsimp only at H
 refine xib H ?_ ?_ <;> clear H <;> rintro rfl H
 {
 obtain rfl := Option.some.inj H
 go_wp2_with (first | ((with_reducible refine xgc (f := 78) rfl ?_); refine xca 31 Tryd.func78 (cI (w := _) (h := A13.out)) ?_; rintro w' ⟨nd, rfl⟩))
 go_ret
 exact ⟨xre, xbl⟩
 }
 refine xid H ?_ ?_ <;> clear H <;> intro c15 H
 {
 obtain ⟨Ae, Af⟩ := xqe c15
 clear c15
 replace H := xbd H
 obtain ⟨Ao, A16, H⟩ := H
 try dsimp only at H
 obtain rfl := Option.some.inj H
 go_wp2_with (first | ((with_reducible refine xgc (f := 78) rfl ?_); refine xca 31 Tryd.func78 (cI (w := _) (h := A13.out)) ?_; rintro w' ⟨nd, rfl⟩) | (go_at_call 79; (with_reducible refine (fc (w := _) (h := A16.out)).mono ?_); rintro e w' ⟨rfl, ⟨nd, rfl⟩⟩))
 go_ret
 exact ⟨xre, xbl⟩
 }
 obtain ⟨Ae, Af⟩ := xqn c15
 obtain rfl := Option.some.inj H
 go_wp2_with (first | ((with_reducible refine xgc (f := 78) rfl ?_); refine xca 31 Tryd.func78 (cI (w := _) (h := A13.out)) ?_; rintro w' ⟨nd, rfl⟩))
 go_ret
 exact ⟨xre, xbl⟩
 )
 )
 )
 )
def aZ : Nat → Int → Bool → ByteArray → Int → Option (Int)
  | 0, _, _, _, _ => none
  | k + 1, x0, x1, x2, x7 => if x7 < (x2.size : Int) then ((cu x0).bind fun Ab => (if Ab.2 = true then ((cj k x2 x7).bind fun Ac => (if Ac.2 = true then (aZ k x0 x1 x2 (wrap64 (x7 + 3))) else (if 0 ≤ x7 then (if x7 ≤ (x2.size : Int) then ((cn k (x2.extract (x7 : Int).toNat x2.size)).bind fun Aa => (if Aa.2.2 = true then ((cA k x0 x1 Aa.1).bind fun Ad => (if Ad = true then (aZ k x0 x1 x2 (wrap64 (x7 + Aa.2.1))) else (some x7))) else (some x7))) else (none)) else (none)))) else (some 0))) else (some x7)
def cl (k : Nat) (a0 : Int) (a1 : Bool) (a2 : ByteArray) : Option (Int) := aZ k a0 a1 a2 0
theorem dW : ∀ k, (∀ y0 y1 y2 y3, LeO (aZ k y0 y1 y2 y3) (aZ (k + 1) y0 y1 y2 y3))
  | 0 => fun _ _ _ _ r h => by simp [aZ] at h
  | k + 1 => by
    have ih0 := dW k
    have m0 := @dF; have m1 := @eI; have m2 := @eA
    · intro y0 y1 y2 y3
      unfold aZ
      exact xmo
theorem fR : ∀ a0 a1 a2 k, LeO (cl k a0 a1 a2) (cl (k + 1) a0 a1 a2) := by
  intro a0 a1 a2 k
  have ih0 := dW k
  have m0 := @dF; have m1 := @eI; have m2 := @eA
  unfold cl
  exact xmo
theorem fG (k : Nat) (a0 : Int) (a1 : Bool) (a2 : ByteArray) (r : Int) (w : World) (h : cl k a0 a1 a2 = some r) :
    Calls Tryd.prog 39 #[.int .i64 a0, .bool a1, .string a2] w fun e w' => e = .returned (.int .i64 r) ∧ Below w.heap.size w w' := by
 have HB := Zz.mk (Below.refl w.heap.size w)
 have H := h
 clear h
 unfold cl at H
 have H' := Zz.mk H
 clear H
 go_enter Tryd.func39, Tryd.ntmps39
 go_wp2
 go_loopg [7] k (fun kq v7 w' => ∃ Ab, v7 = .int .i64 Ab ∧ Zz (aZ kq a0 a1 a2 Ab = some r) ∧ Zz (kq ≤ k) ∧ Zz (Below w.heap.size w w'))
 case atStart => exact ⟨(0), xrr, H', ⟨Nat.le_refl _⟩, ⟨xbl⟩⟩
 case round => (
 clear H'
 obtain ⟨Ab, rfl, HA, HK1, HB⟩ := hrel
 cases gk with
 | zero => exact absurd HA.out (by simp [aZ])
 | succ k1 => (
 have H := HA.out
 clear HA
 simp only [aZ] at H
 refine xid H ?_ ?_ <;> clear H <;> intro c4 H
 {
 have Ad := xdt c4
 clear c4
 replace H := xbd H
 obtain ⟨⟨Ah, Ai⟩, A5, H⟩ := H
 try dsimp only at H
 refine xib H ?_ ?_ <;> clear H <;> rintro rfl H
 {
 replace H := xbd H
 obtain ⟨⟨Aj, Ak⟩, A7, H⟩ := H
 try dsimp only at H
 refine xib H ?_ ?_ <;> clear H <;> rintro rfl H
 {
 replace H := xa H
 go_wp2_with (first | ((with_reducible refine xgc (f := 55) rfl ?_); refine xca 21 Tryd.func55 (aM (w := _) (h := A5.out)) ?_; rintro w' ⟨nd, rfl⟩) | ((with_reducible refine xgc (f := 56) rfl ?_); refine xca 29 Tryd.func56 (bR (w := _) (h := A7.out)) ?_; rintro w' ⟨nd, rfl⟩))
 go_roundg k1
 case measure => have := HK1.out; omega
 case rel => exact ⟨(wrap64 (Ab + 3)), xrr, H, ⟨by have := HK1.out; omega⟩, ⟨xbl⟩⟩
 }
 refine xin H ?_; clear H; intro c9 H
 obtain ⟨Al, Am⟩ := xcp c9
 clear c9
 refine xin H ?_; clear H; intro c10 H
 obtain ⟨Af, Ag⟩ := xcp c10
 clear c10
 obtain ⟨An, Aa⟩ : ∃ j_ : ByteArray, (a2.extract (Ab : Int).toNat a2.size) = j_ := ⟨_, rfl⟩
 try (have Ac := Aa; simp only [Int.toNat_natCast] at Ac)
 first | rw [Aa] at H | simp only [Aa] at H | skip
 (try rw [Aa] at A5)
 (try rw [Aa] at A7)
 replace H := xbd H
 obtain ⟨⟨Ao, Ae, Ap⟩, A12, H⟩ := H
 try dsimp only at H
 refine xib H ?_ ?_ <;> clear H <;> rintro rfl H
 {
 replace H := xbd H
 obtain ⟨Aq, A14, H⟩ := H
 try dsimp only at H
 refine xib H ?_ ?_ <;> clear H <;> rintro rfl H
 {
 replace H := xa H
 go_wp2_with (first | ((with_reducible refine xgc (f := 55) rfl ?_); refine xca 21 Tryd.func55 (aM (w := _) (h := A5.out)) ?_; rintro w' ⟨nd, rfl⟩) | ((with_reducible refine xgc (f := 56) rfl ?_); refine xca 29 Tryd.func56 (bR (w := _) (h := A7.out)) ?_; rintro w' ⟨nd, rfl⟩) | ((with_reducible refine xgc (f := 57) rfl ?_); refine xca 39 Tryd.func57 (cU (w := _) (h := A12.out)) ?_ (hargs := by (try simp only [xm1, xm2, xm3]); first | done | (simp only [Aa]; rfl) | rfl); rintro w16 hb; replace HB := xst hb; (try clear hb)) | (go_at_call 58; (with_reducible refine (ev (w := _) (h := A14.out)).mono ?_); rintro e w17 ⟨rfl, hb⟩; replace HB := xst hb; (try clear hb)))
 first | go_roundg k1 | (simp only [← Aa]; go_roundg k1)
 case measure => have := HK1.out; omega
 case rel => exact ⟨(wrap64 (Ab + Ae)), xrr, H, ⟨by have := HK1.out; omega⟩, ⟨xbl⟩⟩
 }
 obtain rfl := Option.some.inj H
 go_wp2_with (first | ((with_reducible refine xgc (f := 55) rfl ?_); refine xca 21 Tryd.func55 (aM (w := _) (h := A5.out)) ?_; rintro w' ⟨nd, rfl⟩) | ((with_reducible refine xgc (f := 56) rfl ?_); refine xca 29 Tryd.func56 (bR (w := _) (h := A7.out)) ?_; rintro w' ⟨nd, rfl⟩) | ((with_reducible refine xgc (f := 57) rfl ?_); refine xca 39 Tryd.func57 (cU (w := _) (h := A12.out)) ?_ (hargs := by (try simp only [xm1, xm2, xm3]); first | done | (simp only [Aa]; rfl) | rfl); rintro w18 hb; replace HB := xst hb; (try clear hb)) | (go_at_call 58; (with_reducible refine (ev (w := _) (h := A14.out)).mono ?_); rintro e w19 ⟨rfl, hb⟩; replace HB := xst hb; (try clear hb)))
 go_ret
 exact ⟨by first | exact xrd | (simp only [← Aa]; exact xrd) | exact xre, xbl⟩
 }
 obtain rfl := Option.some.inj H
 go_wp2_with (first | ((with_reducible refine xgc (f := 55) rfl ?_); refine xca 21 Tryd.func55 (aM (w := _) (h := A5.out)) ?_; rintro w' ⟨nd, rfl⟩) | ((with_reducible refine xgc (f := 56) rfl ?_); refine xca 29 Tryd.func56 (bR (w := _) (h := A7.out)) ?_; rintro w' ⟨nd, rfl⟩) | ((with_reducible refine xgc (f := 57) rfl ?_); refine xca 39 Tryd.func57 (cU (w := _) (h := A12.out)) ?_ (hargs := by (try simp only [xm1, xm2, xm3]); first | done | (simp only [Aa]; rfl) | rfl); rintro w20 hb; replace HB := xst hb; (try clear hb)))
 go_ret
 exact ⟨by first | exact xrd | (simp only [← Aa]; exact xrd) | exact xre, xbl⟩
 }
 obtain rfl := Option.some.inj H
 go_wp2_with (first | ((with_reducible refine xgc (f := 55) rfl ?_); refine xca 21 Tryd.func55 (aM (w := _) (h := A5.out)) ?_; rintro w' ⟨nd, rfl⟩))
 go_ret
 exact ⟨xre, xbl⟩
 }
 have Ad := xdf c4
 clear c4
 obtain rfl := Option.some.inj H
 go_wp2
 go_ret
 exact ⟨xre, xbl⟩
 )
 )
def cz (k : Nat) (a0 : Int) (a1 : Bool) (a2 : ByteArray) : Option (Bool) := (cl k a0 a1 a2).bind fun t136 => (some (t136 == (a2.size : Int)))
theorem eH : ∀ a0 a1 a2 k, LeO (cz k a0 a1 a2) (cz (k + 1) a0 a1 a2) := by
  intro a0 a1 a2 k
  have m0 := @fR
  unfold cz
  exact xmo
theorem dm (k : Nat) (a0 : Int) (a1 : Bool) (a2 : ByteArray) (r : Bool) (w : World) (h : cz k a0 a1 a2 = some r) :
    Calls Tryd.prog 25 #[.int .i64 a0, .bool a1, .string a2] w fun e w' => e = .returned (.bool r) ∧ Below w.heap.size w w' := by
 have HB := Zz.mk (Below.refl w.heap.size w)
 have H := h
 clear h
 unfold cz at H
 replace H := xbd H
 obtain ⟨t136, A4, H⟩ := H
 try dsimp only at H
 obtain rfl := Option.some.inj H
 go_enter Tryd.func25, Tryd.ntmps25
 go_wp2_with (first | ((with_reducible refine xgc (f := 39) rfl ?_); refine xca 10 Tryd.func39 (fG (w := _) (h := A4.out)) ?_; rintro w5 hb; replace HB := xst hb; (try clear hb)))
 go_ret
 exact ⟨xre, xbl⟩
def dz (a0 : ByteArray) (a1 : ByteArray) : Option (List ByteArray) := if a0.size < 4294967281 ∧ 1 ≤ a1.size then some (Go.Lib.splitB a1 0 (Go.Lib.countB a0 a1) a0) else none
theorem fi (a0 : ByteArray) (a1 : ByteArray) (r : List ByteArray) (w : World) (hG : GW w) (h : dz a0 a1 = some r) :
    Calls Tryd.prog 26 #[.string a0, .string a1] w fun e w' => ∃ v0_ : Value, e = .returned (v0_) ∧ Kd.R Kd.string 9 w' w.heap.size (fun _ => True) v0_ r ∧ Below w.heap.size w w' := by
 unfold dz at h
 by_cases hs : a0.size < 4294967281 ∧ 1 ≤ a1.size
 · rw [if_pos hs] at h
   obtain rfl := Option.some.inj h
   obtain ⟨m, hm⟩ := hG.maxLen
   refine (Tryd.strings_Split a0 a1 m w hs.1 hm hs.2).mono ?_
   rintro e w' ⟨rfl, rfl⟩
   have hl := Go.Lib.splitB_all a1 hs.2 0 _ a0 rfl
   have hc := Go.Lib.countB_le a1 hs.2 a0.size a0 (Nat.le_refl _)
   refine ⟨_, rfl, ?_, (Below.refl _ _).alloc (Nat.le_refl _) _⟩
   refine Kd.R_of_own ⟨by simp [bU], .inr ⟨w.heap.size, _, _, by rw [hl], Nat.le_refl _, heap_alloc_new _ _, by rw [hl]; exact Nat.le_refl _, ?_, ?_, ?_⟩⟩ (fun _ _ => trivial)
   · have : maxLen = 9223372036854775807 := rfl
     omega
   · simp [hl]
   · simp only [bU, Nat.mul_one, List.toList_toArray]
     exact List.take_of_length_le (by simp)
 · rw [if_neg hs] at h; cases h
end Go.Proofs.YtmofhijbheimmaaDoor.X
