/- Texts that the law's proof needs, joined by a program of this session. -/
import Derived.Test.YtojdiklegmhakaaDoorZUrnTexts1
import Derived.Test.YtojdiklegmhakaaDoorZUrnTexts3
set_option maxHeartbeats 8000000
set_option maxRecDepth 100000
set_option linter.unusedSimpArgs false
set_option linter.unusedVariables false
namespace Go.Proofs.YtojdiklegmhakaaDoor.X
open Go.RowKit Go.Proofs.YtojdiklegmhakaaDoorW.PrintWords Go.Proofs.YtojdiklegmhakaaDoorW.PrintLast Go.Proofs.YtojdiklegmhakaaDoorW.PrintMore
attribute [local go_sem] di cR eu fH bY eW bv eN eP fB fC eo ep eO eQ
def dK : Nat → List ByteArray → Int → Int → Int → Int → Int → Int → Option (Int × Int × Int × Int × Bool)
  | 0, _, _, _, _, _, _, _ => none
  | k + 1, Ag, Ah, Af, Aa, Ab, Ac, Ad => if Af < Ah then (if 0 ≤ Af then (if Af < (Ag.length : Int) then ((eD k (jy ByteArray.empty Ag Af)).bind fun Ae => (if Ae.2 = true then (if Af = 0 then (dK k Ag Ah (wrap64 (Af + 1)) Ae.1 Ab Ac Ad) else (if Af = 1 then (dK k Ag Ah (wrap64 (Af + 1)) Aa Ae.1 Ac Ad) else (if Af = 2 then (dK k Ag Ah (wrap64 (Af + 1)) Aa Ab Ae.1 Ad) else (if Af = 3 then (dK k Ag Ah (wrap64 (Af + 1)) Aa Ab Ac Ae.1) else (none))))) else (some (0, 0, 0, 0, false)))) else (none)) else (none)) else (some (Aa, Ab, Ac, Ad, true))
def gF (k : Nat) (a0 : ByteArray) : Option (Int × Int × Int × Int × Bool) := (fl a0 (⟨#[46]⟩ : ByteArray)).bind fun t165 => (if (t165.length : Int) = 4 then (dK k t165 (t165.length : Int) 0 0 0 0 0) else (some (0, 0, 0, 0, false)))
theorem jv : ∀ k, (∀ y0 y1 y2 y3 y4 y5 y6, LeO (dK k y0 y1 y2 y3 y4 y5 y6) (dK (k + 1) y0 y1 y2 y3 y4 y5 y6))
  | 0 => fun _ _ _ _ _ _ _ r h => by simp [dK] at h
  | k + 1 => by
    have ih0 := jv k
    have m0 := @iA
    · intro y0 y1 y2 y3 y4 y5 y6
      unfold dK
      exact xmo
theorem hE : ∀ a0 k, LeO (gF k a0) (gF (k + 1) a0) := by
  intro a0 k
  have ih0 := jv k
  have m0 := @iA
  unfold gF
  exact xmo
theorem gG (k : Nat) (a0 : ByteArray) (r1 : Int) (r2 : Int) (r3 : Int) (r4 : Int) (r5 : Bool) (w : World) (hG : GW w) (h : gF k a0 = some (r1, r2, r3, r4, r5)) :
    Calls Tryd.prog 80 #[.string a0] w fun e w' => e = .returned (.tuple #[.agg #[.int .u8 r1, .int .u8 r2, .int .u8 r3, .int .u8 r4], .bool r5]) ∧ Below w.heap.size w w' := by
 have hu106 := Tryd.underlying106
 have HB := Zz.mk (Below.refl w.heap.size w)
 have H := h
 clear h
 unfold gF at H
 replace H := xbd H
 obtain ⟨Ap, A2, H⟩ := H
 try dsimp only at H
 refine xid H ?_ ?_ <;> clear H <;> intro c3 H
 {
 obtain ⟨Ax, Ay⟩ := xqe c3
 clear c3
 have H' := Zz.mk H
 clear H
 go_enter Tryd.func80, Tryd.ntmps80
 go_wp2_with (first | ((with_reducible refine af (N := 2) rfl ?_); refine xew 2 ?_; intro Ao w4 An Az hb hg; replace HB := xst hb; clear hb hg) | ((with_reducible refine af (N := 4) rfl ?_); refine xew 4 ?_; intro Aq w5 Ai AA hb hg; have Al := xlt (g := Ao) hg; have Am := xgt (g := Ao) hg; replace An := xbq Ao hb; replace HB := xst hb; clear hb hg) | ((with_reducible refine xgc (f := 85) rfl ?_); refine xgl 11 Tryd.func85 #[.string a0, .string (⟨#[46]⟩ : ByteArray)] ?_; (with_reducible refine (fe (w := _) (hG := xG) (h := A2.out)).mono ?_); rintro e w6 ⟨v166, rfl, ho0, hb⟩; refine ⟨_, rfl, ?_⟩; have Av := Zz.mk (Kd.R_lower ho0 (aD xbl)); replace An := xbq Ao hb; replace Ai := xbq Aq hb; replace HB := xst hb; (try clear hb); (try clear ho0); obtain ⟨Ao7, co7, eo7⟩ := Kd.R_slice Av.out; subst eo7))
 go_loopg [18] k (fun kq v18 w' => ∃ Ar Ae Af Ag Ah Aa Ab Ac Ad, v18 = .int .i64 Ar ∧ Zz (dK kq Ap (Ap.length : Int) Ar Aa Ab Ac Ad = some (r1, r2, r3, r4, r5)) ∧ Zz (kq ≤ k) ∧ Zz (Kd.R Kd.string 9 w' w.heap.size (fun _ => True) (.slice Ao7 Ap.length co7) Ap) ∧ Zz (w'.heap[Ao]? = some (.cells #[.int .u8 Ae, .int .u8 Af, .int .u8 Ag, .int .u8 Ah] 106 (0, 0))) ∧ Zz (w'.heap[Aq]? = some (.cells #[.int .u8 Aa, .int .u8 Ab, .int .u8 Ac, .int .u8 Ad] 106 (0, 0))) ∧ Zz (Below w.heap.size w w'))
 case atStart => exact ⟨(0), (0), (0), (0), (0), (0), (0), (0), (0), xrr, H', ⟨Nat.le_refl _⟩, ⟨xkd Av⟩, ⟨xbk⟩, ⟨xbk⟩, ⟨xbl⟩⟩
 case round => (
 clear H'
 clear Ax Ay
 obtain ⟨Ar, Ae, Af, Ag, Ah, Aa, Ab, Ac, Ad, rfl, HA, HK1, Aj, An, Ai, HB⟩ := hrel
 cases gk with
 | zero => exact absurd HA.out (by simp [dK])
 | succ k1 => (
 have H := HA.out
 clear HA
 simp only [dK] at H
 refine xid H ?_ ?_ <;> clear H <;> intro c8 H
 {
 have AB := xdt c8
 clear c8
 refine xin H ?_; clear H; intro c9 H
 have AR := xdt c9
 clear c9
 refine xin H ?_; clear H; intro c10 H
 have AC := xdt c10
 clear c10
 replace H := xbd H
 obtain ⟨⟨Au, AS⟩, A11, H⟩ := H
 try dsimp only at H
 refine xib H ?_ ?_ <;> clear H <;> rintro rfl H
 {
 by_cases c13 : Ar = 0
 {
 subst c13
 rw [if_pos rfl] at H
 replace H := xa H
 have p168 : 0 ≤ (0 : Int) := (by omega)
 have q168 : 0 < (Ap.length : Int) := xod
 obtain ⟨As, e168, Ak⟩ := Kd.at_string (Kd.R_reads' Aj.out).2.2 0 p168 q168
 cases e168
 have Aw : (0 < Ap.length) = True := eq_true (by omega)
 (try rw [show ((0 : Int)).toNat = 0 from rfl] at Ak)
 (try rw [Addr.add_zero'] at Ak)
 replace p168 := eq_true p168
 replace q168 := eq_true q168
 try (have At := q168; simp only [ByteArray.size_extract, Nat.min_self] at At)
 go_wp2_with (first | ((with_reducible refine xgc (f := 86) rfl ?_); refine xca 25 Tryd.func86 (dY (w := _) (h := A11.out)) ?_; rintro w' ⟨nd, rfl⟩; (try (rw [aG wr]; generalize hq_ : World.drewN wr _ = wr; have n0_ : Zz (Kd.R Kd.string 9 wr w.heap.size (fun _ => True) (.slice (some As) Ap.length co7) Ap) := ⟨by rw [← hq_]; exact (xkd Aj)⟩; have n1_ : Zz (wr.heap[Ao]? = some (.cells #[.int .u8 Ae, .int .u8 Af, .int .u8 Ag, .int .u8 Ah] 106 (0, 0))) := ⟨by rw [← hq_]; exact xbk⟩; have n2_ : Zz (wr.heap[Aq]? = some (.cells #[.int .u8 Aa, .int .u8 Ab, .int .u8 Ac, .int .u8 Ad] 106 (0, 0))) := ⟨by rw [← hq_]; exact xbk⟩; have n3_ : Zz (Below w.heap.size w wr) := ⟨by rw [← hq_]; exact xbl⟩; clear Aj An Ai HB hq_; have Aj := n0_; have An := n1_; have Ai := n2_; have HB := n3_; clear n0_ n1_ n2_ n3_)); have AD := Am.out; have AE := Al.out; have AT := xz4 Ai.out))
 go_roundg k1
 case measure => have := HK1.out; omega
 case rel => exact ⟨(wrap64 (0 + 1)), (Ae), (Af), (Ag), (Ah), (Au), (Ab), (Ac), (Ad), xrr, H, ⟨by have := HK1.out; omega⟩, ⟨by (with_reducible repeat (first | apply Kd.R_alloc | apply Kd.R_drewN | apply Kd.R_drew)); exact Kd.R_mono (Kd.R_far (p := ⟨Aq, 0, none⟩) (Kd.R_types Aj.out Ai.out (by decide)) (fun _ hk => hk.2) (.int .u8 Au)) (fun _ hk => trivial)⟩, ⟨xbK⟩, ⟨xbK⟩, ⟨xbl⟩⟩
 }
 {
 rw [if_neg c13] at H
 clear c13
 by_cases c16 : Ar = 1
 {
 subst c16
 rw [if_pos rfl] at H
 replace H := xa H
 have p168 : 0 ≤ (1 : Int) := (by omega)
 have q168 : 1 < (Ap.length : Int) := xod
 obtain ⟨As, e168, Ak⟩ := Kd.at_string (Kd.R_reads' Aj.out).2.2 1 p168 q168
 cases e168
 (try simp only [show (1 : Int).toNat = 1 from rfl, Nat.reduceMul, Nat.reduceEqDiff, Go.Addr.add, ↓reduceIte] at Ak)
 have Aw : (1 < Ap.length) = True := eq_true (by omega)
 (try rw [show ((1 : Int)).toNat = 1 from rfl] at Ak)
 replace p168 := eq_true p168
 replace q168 := eq_true q168
 try (have At := q168; simp only [ByteArray.size_extract, Nat.min_self] at At)
 go_wp2_with (first | ((with_reducible refine xgc (f := 86) rfl ?_); refine xca 25 Tryd.func86 (dY (w := _) (h := A11.out)) ?_; rintro w' ⟨nd, rfl⟩; (try (rw [aG wr]; generalize hq_ : World.drewN wr _ = wr; have n0_ : Zz (Kd.R Kd.string 9 wr w.heap.size (fun _ => True) (.slice (some As) Ap.length co7) Ap) := ⟨by rw [← hq_]; exact (xkd Aj)⟩; have n1_ : Zz (wr.heap[Ao]? = some (.cells #[.int .u8 Ae, .int .u8 Af, .int .u8 Ag, .int .u8 Ah] 106 (0, 0))) := ⟨by rw [← hq_]; exact xbk⟩; have n2_ : Zz (wr.heap[Aq]? = some (.cells #[.int .u8 Aa, .int .u8 Ab, .int .u8 Ac, .int .u8 Ad] 106 (0, 0))) := ⟨by rw [← hq_]; exact xbk⟩; have n3_ : Zz (Below w.heap.size w wr) := ⟨by rw [← hq_]; exact xbl⟩; clear Aj An Ai HB hq_; have Aj := n0_; have An := n1_; have Ai := n2_; have HB := n3_; clear n0_ n1_ n2_ n3_)); have AF := Am.out; have AG := Al.out; have AU := xz4 Ai.out))
 go_roundg k1
 case measure => have := HK1.out; omega
 case rel => exact ⟨(wrap64 (1 + 1)), (Ae), (Af), (Ag), (Ah), (Aa), (Au), (Ac), (Ad), xrr, H, ⟨by have := HK1.out; omega⟩, ⟨by (with_reducible repeat (first | apply Kd.R_alloc | apply Kd.R_drewN | apply Kd.R_drew)); exact Kd.R_mono (Kd.R_far (p := ⟨Aq, 1, none⟩) (Kd.R_types Aj.out Ai.out (by decide)) (fun _ hk => hk.2) (.int .u8 Au)) (fun _ hk => trivial)⟩, ⟨xbK⟩, ⟨xbK⟩, ⟨xbl⟩⟩
 }
 {
 rw [if_neg c16] at H
 clear c16
 by_cases c19 : Ar = 2
 {
 subst c19
 rw [if_pos rfl] at H
 replace H := xa H
 have p168 : 0 ≤ (2 : Int) := (by omega)
 have q168 : 2 < (Ap.length : Int) := xod
 obtain ⟨As, e168, Ak⟩ := Kd.at_string (Kd.R_reads' Aj.out).2.2 2 p168 q168
 cases e168
 (try simp only [show (2 : Int).toNat = 2 from rfl, Nat.reduceMul, Nat.reduceEqDiff, Go.Addr.add, ↓reduceIte] at Ak)
 have Aw : (2 < Ap.length) = True := eq_true (by omega)
 (try rw [show ((2 : Int)).toNat = 2 from rfl] at Ak)
 replace p168 := eq_true p168
 replace q168 := eq_true q168
 try (have At := q168; simp only [ByteArray.size_extract, Nat.min_self] at At)
 go_wp2_with (first | ((with_reducible refine xgc (f := 86) rfl ?_); refine xca 25 Tryd.func86 (dY (w := _) (h := A11.out)) ?_; rintro w' ⟨nd, rfl⟩; (try (rw [aG wr]; generalize hq_ : World.drewN wr _ = wr; have n0_ : Zz (Kd.R Kd.string 9 wr w.heap.size (fun _ => True) (.slice (some As) Ap.length co7) Ap) := ⟨by rw [← hq_]; exact (xkd Aj)⟩; have n1_ : Zz (wr.heap[Ao]? = some (.cells #[.int .u8 Ae, .int .u8 Af, .int .u8 Ag, .int .u8 Ah] 106 (0, 0))) := ⟨by rw [← hq_]; exact xbk⟩; have n2_ : Zz (wr.heap[Aq]? = some (.cells #[.int .u8 Aa, .int .u8 Ab, .int .u8 Ac, .int .u8 Ad] 106 (0, 0))) := ⟨by rw [← hq_]; exact xbk⟩; have n3_ : Zz (Below w.heap.size w wr) := ⟨by rw [← hq_]; exact xbl⟩; clear Aj An Ai HB hq_; have Aj := n0_; have An := n1_; have Ai := n2_; have HB := n3_; clear n0_ n1_ n2_ n3_)); have AH := Am.out; have AI := Al.out; have AV := xz4 Ai.out))
 go_roundg k1
 case measure => have := HK1.out; omega
 case rel => exact ⟨(wrap64 (2 + 1)), (Ae), (Af), (Ag), (Ah), (Aa), (Ab), (Au), (Ad), xrr, H, ⟨by have := HK1.out; omega⟩, ⟨by (with_reducible repeat (first | apply Kd.R_alloc | apply Kd.R_drewN | apply Kd.R_drew)); exact Kd.R_mono (Kd.R_far (p := ⟨Aq, 2, none⟩) (Kd.R_types Aj.out Ai.out (by decide)) (fun _ hk => hk.2) (.int .u8 Au)) (fun _ hk => trivial)⟩, ⟨xbK⟩, ⟨xbK⟩, ⟨xbl⟩⟩
 }
 {
 rw [if_neg c19] at H
 clear c19
 by_cases c22 : Ar = 3
 {
 subst c22
 rw [if_pos rfl] at H
 replace H := xa H
 have p168 : 0 ≤ (3 : Int) := (by omega)
 have q168 : 3 < (Ap.length : Int) := xod
 obtain ⟨As, e168, Ak⟩ := Kd.at_string (Kd.R_reads' Aj.out).2.2 3 p168 q168
 cases e168
 (try simp only [show (3 : Int).toNat = 3 from rfl, Nat.reduceMul, Nat.reduceEqDiff, Go.Addr.add, ↓reduceIte] at Ak)
 have Aw : (3 < Ap.length) = True := eq_true (by omega)
 (try rw [show ((3 : Int)).toNat = 3 from rfl] at Ak)
 replace p168 := eq_true p168
 replace q168 := eq_true q168
 try (have At := q168; simp only [ByteArray.size_extract, Nat.min_self] at At)
 go_wp2_with (first | ((with_reducible refine xgc (f := 86) rfl ?_); refine xca 25 Tryd.func86 (dY (w := _) (h := A11.out)) ?_; rintro w' ⟨nd, rfl⟩; (try (rw [aG wr]; generalize hq_ : World.drewN wr _ = wr; have n0_ : Zz (Kd.R Kd.string 9 wr w.heap.size (fun _ => True) (.slice (some As) Ap.length co7) Ap) := ⟨by rw [← hq_]; exact (xkd Aj)⟩; have n1_ : Zz (wr.heap[Ao]? = some (.cells #[.int .u8 Ae, .int .u8 Af, .int .u8 Ag, .int .u8 Ah] 106 (0, 0))) := ⟨by rw [← hq_]; exact xbk⟩; have n2_ : Zz (wr.heap[Aq]? = some (.cells #[.int .u8 Aa, .int .u8 Ab, .int .u8 Ac, .int .u8 Ad] 106 (0, 0))) := ⟨by rw [← hq_]; exact xbk⟩; have n3_ : Zz (Below w.heap.size w wr) := ⟨by rw [← hq_]; exact xbl⟩; clear Aj An Ai HB hq_; have Aj := n0_; have An := n1_; have Ai := n2_; have HB := n3_; clear n0_ n1_ n2_ n3_)); have AJ := Am.out; have AK := Al.out; have AW := xz4 Ai.out))
 go_roundg k1
 case measure => have := HK1.out; omega
 case rel => exact ⟨(wrap64 (3 + 1)), (Ae), (Af), (Ag), (Ah), (Aa), (Ab), (Ac), (Au), xrr, H, ⟨by have := HK1.out; omega⟩, ⟨by (with_reducible repeat (first | apply Kd.R_alloc | apply Kd.R_drewN | apply Kd.R_drew)); exact Kd.R_mono (Kd.R_far (p := ⟨Aq, 3, none⟩) (Kd.R_types Aj.out Ai.out (by decide)) (fun _ hk => hk.2) (.int .u8 Au)) (fun _ hk => trivial)⟩, ⟨xbK⟩, ⟨xbK⟩, ⟨xbl⟩⟩
 }
 {
 rw [if_neg c22] at H
 clear c22
 exact absurd H (by simp)
 }
 }
 }
 }
 }
 simp only [Option.some.injEq, Prod.mk.injEq] at H
 obtain ⟨rfl, rfl, rfl, rfl, rfl⟩ := H
 have p168 : 0 ≤ (Ar : Int) := xod
 have q168 : Ar < (Ap.length : Int) := xod
 obtain ⟨As, e168, Ak⟩ := Kd.at_string (Kd.R_reads' Aj.out).2.2 Ar p168 q168
 cases e168
 replace p168 := eq_true p168
 replace q168 := eq_true q168
 try (have At := q168; simp only [ByteArray.size_extract, Nat.min_self] at At)
 go_wp2_with (first | ((with_reducible refine xgc (f := 86) rfl ?_); refine xca 25 Tryd.func86 (dY (w := _) (h := A11.out)) ?_; rintro w' ⟨nd, rfl⟩; (try (rw [aG wr]; generalize hq_ : World.drewN wr _ = wr; have n0_ : Zz (Kd.R Kd.string 9 wr w.heap.size (fun _ => True) (.slice (some As) Ap.length co7) Ap) := ⟨by rw [← hq_]; exact (xkd Aj)⟩; have n1_ : Zz (wr.heap[Ao]? = some (.cells #[.int .u8 Ae, .int .u8 Af, .int .u8 Ag, .int .u8 Ah] 106 (0, 0))) := ⟨by rw [← hq_]; exact xbk⟩; have n2_ : Zz (wr.heap[Aq]? = some (.cells #[.int .u8 Aa, .int .u8 Ab, .int .u8 Ac, .int .u8 Ad] 106 (0, 0))) := ⟨by rw [← hq_]; exact xbk⟩; have n3_ : Zz (Below w.heap.size w wr) := ⟨by rw [← hq_]; exact xbl⟩; clear Aj An Ai HB hq_; have Aj := n0_; have An := n1_; have Ai := n2_; have HB := n3_; clear n0_ n1_ n2_ n3_)); have AL := Al.out; have AM := Am.out; have AX := xz4 An.out))
 refine bodyPost_ret (av rfl _ _ Ao 106 #[.int .u8 0, .int .u8 0, .int .u8 0, .int .u8 0] (0, 0) _ rfl xbk Tryd.underlying106 rfl (by kernel_rfl)) rfl ?_
 exact ⟨xre, xbl⟩
 }
 have AB := xdf c8
 clear c8
 simp only [Option.some.injEq, Prod.mk.injEq] at H
 obtain ⟨rfl, rfl, rfl, rfl, rfl⟩ := H
 have AN := Am.out
 have AO := Al.out
 have AY := xz4 Ai.out
 have AZ := xz4 An.out
 go_wp2
 refine bodyPost_ret (av rfl _ _ Ao 106 #[.int .u8 Aa, .int .u8 Ab, .int .u8 Ac, .int .u8 Ad] (0, 0) _ rfl xbk Tryd.underlying106 rfl (by kernel_rfl)) rfl ?_
 exact ⟨xre, xbl⟩
 )
 )
 }
 obtain ⟨Ax, Ay⟩ := xqn c3
 simp only [Option.some.injEq, Prod.mk.injEq] at H
 obtain ⟨rfl, rfl, rfl, rfl, rfl⟩ := H
 go_enter Tryd.func80, Tryd.ntmps80
 go_wp2_with (first | ((with_reducible refine af (N := 2) rfl ?_); refine xew 2 ?_; intro Ao w30 An Az hb hg; replace HB := xst hb; clear hb hg) | ((with_reducible refine af (N := 4) rfl ?_); refine xew 4 ?_; intro Aq w31 Ai AA hb hg; have Al := xlt (g := Ao) hg; have Am := xgt (g := Ao) hg; replace An := xbq Ao hb; replace HB := xst hb; clear hb hg) | ((with_reducible refine xgc (f := 85) rfl ?_); refine xgl 11 Tryd.func85 #[.string a0, .string (⟨#[46]⟩ : ByteArray)] ?_; (with_reducible refine (fe (w := _) (hG := xG) (h := A2.out)).mono ?_); rintro e w32 ⟨v166, rfl, ho0, hb⟩; refine ⟨_, rfl, ?_⟩; have Av := Zz.mk (Kd.R_lower ho0 (aD xbl)); replace An := xbq Ao hb; replace Ai := xbq Aq hb; replace HB := xst hb; (try clear hb); (try clear ho0); obtain ⟨Ao33, co33, eo33⟩ := Kd.R_slice Av.out; subst eo33; have AP := Am.out; have AQ := Al.out; have A0 := xz4 Ai.out; have A1 := xz4 An.out))
 refine bodyPost_ret (av rfl _ _ Ao 106 #[.int .u8 0, .int .u8 0, .int .u8 0, .int .u8 0] (0, 0) _ rfl xbk Tryd.underlying106 rfl (by kernel_rfl)) rfl ?_
 exact ⟨xre, xbl⟩
mutual
def dQ : Nat → ByteArray → Bool → Option (Int × Bool)
  | 0, _, _ => none
  | k + 1, x0, x15 => if x15 = true then (some (0, false)) else (dR k x0 0 (x0.size : Int) 0)
def dR : Nat → ByteArray → Int → Int → Int → Option (Int × Bool)
  | 0, _, _, _, _ => none
  | k + 1, x0, x4, x17, x18 => if x18 < x17 then (if 0 ≤ x18 then (if x18 < (x0.size : Int) then ((cu k (bt x0 x18)).bind fun bt171 => (if bt171.2 = true then (dR k x0 (Go.bits .or .i64 (wrap64 (x4 * 16)) bt171.1) x17 (wrap64 (x18 + 1))) else (some (0, false)))) else (none)) else (none)) else (some (IntKind.u16.wrap (x4), true))
end
def ga (k : Nat) (a0 : ByteArray) : Option (Int × Bool) := if (a0.size : Int) = 0 then (dQ k a0 true) else (dQ k a0 (decide ((a0.size : Int) > 4)))
theorem iV : ∀ k, (∀ y0 y1, LeO (dQ k y0 y1) (dQ (k + 1) y0 y1)) ∧ (∀ y0 y1 y2 y3, LeO (dR k y0 y1 y2 y3) (dR (k + 1) y0 y1 y2 y3))
  | 0 => ⟨fun _ _ r h => by simp [dQ] at h, fun _ _ _ _ r h => by simp [dR] at h⟩
  | k + 1 => by
    obtain ⟨ih0, ih1⟩ := iV k
    have m0 := @d5
    refine ⟨?_, ?_⟩
    · intro y0 y1
      unfold dQ
      exact xmo
    · intro y0 y1 y2 y3
      unfold dR
      exact xmo
theorem jw : ∀ a0 k, LeO (ga k a0) (ga (k + 1) a0) := by
  intro a0 k
  obtain ⟨ih0, ih1⟩ := iV k
  have m0 := @d5
  unfold ga
  exact xmo
theorem jl (k : Nat) (a0 : ByteArray) (r1 : Int) (r2 : Bool) (w : World) (h : ga k a0 = some (r1, r2)) :
    Calls Tryd.prog 87 #[.string a0] w fun e w' => e = .returned (.tuple #[.int .u16 r1, .bool r2]) ∧ Drawn0 w w' := by
 have H := h
 clear h
 unfold ga at H
 have Af := Zz.mk H
 clear H
 go_enter Tryd.func87, Tryd.ntmps87
 go_upto_region 1 with (fail)
 go_cut [15] (fun v15 wc => ∃ kq Ab, v15 = .bool Ab ∧ Zz (dQ kq a0 Ab = some (r1, r2)) ∧ Zz (kq ≤ k) ∧ Drawn0 w wc)
 case first => (
 have H := Af.out
 clear Af
 refine xid H ?_ ?_ <;> clear H <;> intro c3 H
 {
 obtain ⟨Ac, Ae⟩ := xqe c3
 clear c3
 (first | rw [Ac] | (simp only [an, au]; rw [Ac]) | (rw [Ag]; (try simp only [Bool.not_false, Bool.not_true])) | (rw [Ah]; (try simp only [Bool.not_false, Bool.not_true])) | rw [Ae] | skip)
 replace H := xa H
 go_wp2
 go_meet
 case rel => exact ⟨_, (true), xrr, H, ⟨xom⟩, xdr⟩
 }
 obtain ⟨Ac, Ae⟩ := xqn c3
 (first | rw [Ac] | (simp only [an, au]; rw [Ac]) | (rw [Ag]; (try simp only [Bool.not_false, Bool.not_true])) | (rw [Ah]; (try simp only [Bool.not_false, Bool.not_true])) | rw [Ae] | skip)
 replace H := xa H
 go_wp2
 go_meet
 case rel => exact ⟨_, (decide ((a0.size : Int) > 4)), xrr, H, ⟨xom⟩, xdr⟩
 )
 case rest => (
 clear Af
 obtain ⟨kq, Ab, rfl, HA, HJ1, ⟨mc1, rfl⟩⟩ := hcut
 cases kq with
 | zero => exact absurd HA.out (by simp [dQ])
 | succ kj1 => (
 have H := HA.out
 clear HA
 simp only [dQ] at H
 refine xib H ?_ ?_ <;> clear H <;> rintro rfl H
 {
 simp only [Option.some.injEq, Prod.mk.injEq] at H
 obtain ⟨rfl, rfl⟩ := H
 go_wp2
 go_ret2
 exact ⟨xrr, xdr⟩
 }
 have H' := Zz.mk H
 clear H
 go_wp2
 go_loopg [4, 18] kj1 (fun kq v4 v18 w' => ∃ Ad Aa, v4 = .int .i64 Ad ∧ v18 = .int .i64 Aa ∧ Zz (dR kq a0 Ad (a0.size : Int) Aa = some (r1, r2)) ∧ Zz (kq ≤ kj1) ∧ Drawn0 w w')
 case atStart => exact ⟨(0), (0), xrr, xrr, H', ⟨Nat.le_refl _⟩, xdr⟩
 case round => (
 clear H'
 obtain ⟨Ad, Aa, rfl, rfl, HA, HK2, ⟨m2, rfl⟩⟩ := hrel
 cases gk with
 | zero => exact absurd HA.out (by simp [dR])
 | succ k2 => (
 have H := HA.out
 clear HA
 simp only [dR] at H
 refine xid H ?_ ?_ <;> clear H <;> intro c5 H
 {
 have Ai := xdt c5
 clear c5
 refine xin H ?_; clear H; intro c6 H
 have Ak := xdt c6
 clear c6
 refine xin H ?_; clear H; intro c7 H
 have Al := xdt c7
 clear c7
 replace H := xbd H
 obtain ⟨⟨Aj, Am⟩, A9, H⟩ := H
 try dsimp only at H
 refine xib H ?_ ?_ <;> clear H <;> rintro rfl H
 {
 replace H := xa H
 obtain ⟨p8, q8, hx8⟩ := xiv a0 Aa xod xod
 go_wp2_with (first | ((with_reducible refine xgc (f := 61) rfl ?_); refine xca 25 Tryd.func61 (cj (w := _) (h := A9.out)) ?_; rintro w' ⟨nd, rfl⟩))
 go_roundg k2
 case measure => have := HJ1.out; have := HK2.out; omega
 case rel => exact ⟨(Go.bits .or .i64 (wrap64 (Ad * 16)) Aj), (wrap64 (Aa + 1)), xrr, xrr, H, ⟨by have := HJ1.out; have := HK2.out; omega⟩, xdr⟩
 }
 simp only [Option.some.injEq, Prod.mk.injEq] at H
 obtain ⟨rfl, rfl⟩ := H
 obtain ⟨p8, q8, hx8⟩ := xiv a0 Aa xod xod
 go_wp2_with (first | ((with_reducible refine xgc (f := 61) rfl ?_); refine xca 25 Tryd.func61 (cj (w := _) (h := A9.out)) ?_; rintro w' ⟨nd, rfl⟩))
 go_ret2
 exact ⟨xrr, xdr⟩
 }
 have Ai := xdf c5
 clear c5
 simp only [Option.some.injEq, Prod.mk.injEq] at H
 obtain ⟨rfl, rfl⟩ := H
 go_wp2
 go_ret2
 exact ⟨xrr, xdr⟩
 )
 )
 )
 )
mutual
def cV : Nat → Bool → List Int → List ByteArray → List ByteArray → Int → Int → Option (List Int × Bool)
  | 0, _, _, _, _, _, _ => none
  | k + 1, x1, x6, x7, Ac, Ad, Ab => if Ab < Ad then (if 0 ≤ Ab then (if Ab < (Ac.length : Int) then ((gF k (jy ByteArray.empty Ac Ab)).bind fun Aa => (if Aa.2.2.2.2 = true then (if x1 = true then (cU k x1 x6 x7 (jy ByteArray.empty Ac Ab) Ac Ad Ab (Ab == (wrap64 ((x7.length : Int) - 1))) Aa.1 Aa.2.1 Aa.2.2.1 Aa.2.2.2.1) else (cU k x1 x6 x7 (jy ByteArray.empty Ac Ab) Ac Ad Ab false Aa.1 Aa.2.1 Aa.2.2.1 Aa.2.2.2.1)) else (cU k x1 x6 x7 (jy ByteArray.empty Ac Ab) Ac Ad Ab false Aa.1 Aa.2.1 Aa.2.2.1 Aa.2.2.2.1))) else (none)) else (none)) else (some (x6, true))
def cU : Nat → Bool → List Int → List ByteArray → ByteArray → List ByteArray → Int → Int → Bool → Int → Int → Int → Int → Option (List Int × Bool)
  | 0, _, _, _, _, _, _, _, _, _, _, _, _ => none
  | k + 1, x1, x6, x7, x9, Ag, Ah, Ai, Aj, Aa, Ab, Ac, Ad => if Aj = true then ((some (([Go.bits .or .u16 (IntKind.u16.wrap ((IntKind.u16.wrap (Aa)) * 256)) (IntKind.u16.wrap (Ab)), Go.bits .or .u16 (IntKind.u16.wrap ((IntKind.u16.wrap (Ac)) * 256)) (IntKind.u16.wrap (Ad))] : List Int) : List Int)).bind fun Af => (if x6.length + Af.length < 70368744177664 then (some ((x6 ++ Af), true)) else (none))) else ((ga k x9).bind fun Ae => (if Ae.2 = true then (if x6.length < 70368744177664 then (cV k x1 (x6 ++ [Ae.1]) x7 Ag Ah (wrap64 (Ai + 1))) else (none)) else (some (([] : List Int), false))))
end
def br (k : Nat) (a0 : ByteArray) (a1 : Bool) : Option (List Int × Bool) := if a0.toList = ([] : List UInt8) then (some (([] : List Int), true)) else ((fl a0 (⟨#[58]⟩ : ByteArray)).bind fun t173 => (cV k a1 ([] : List Int) t173 t173 (t173.length : Int) 0))
theorem iB : ∀ k, (∀ y0 y1 y2 y3 y4 y5, LeO (cV k y0 y1 y2 y3 y4 y5) (cV (k + 1) y0 y1 y2 y3 y4 y5)) ∧ (∀ y0 y1 y2 y3 y4 y5 y6 y7 y8 y9 y10 y11, LeO (cU k y0 y1 y2 y3 y4 y5 y6 y7 y8 y9 y10 y11) (cU (k + 1) y0 y1 y2 y3 y4 y5 y6 y7 y8 y9 y10 y11))
  | 0 => ⟨fun _ _ _ _ _ _ r h => by simp [cV] at h, fun _ _ _ _ _ _ _ _ _ _ _ _ r h => by simp [cU] at h⟩
  | k + 1 => by
    obtain ⟨ih0, ih1⟩ := iB k
    have m0 := @hE; have m1 := @jw
    refine ⟨?_, ?_⟩
    · intro y0 y1 y2 y3 y4 y5
      unfold cV
      exact xmo
    · intro y0 y1 y2 y3 y4 y5 y6 y7 y8 y9 y10 y11
      unfold cU
      exact xmo
theorem jm : ∀ a0 a1 k, LeO (br k a0 a1) (br (k + 1) a0 a1) := by
  intro a0 a1 k
  obtain ⟨ih0, ih1⟩ := iB k
  have m0 := @hE; have m1 := @jw
  unfold br
  exact xmo
theorem bV (k : Nat) (a0 : ByteArray) (a1 : Bool) (r1 : List Int) (r2 : Bool) (w : World) (hG : GW w) (h : br k a0 a1 = some (r1, r2)) :
    Calls Tryd.prog 84 #[.string a0, .bool a1] w fun e w' => ∃ v0_ : Value, e = .returned (.tuple #[v0_, .bool r2]) ∧ Kd.R (Kd.int .u16) 102 w' w.heap.size (fun _ => True) v0_ r1 ∧ Below w.heap.size w w' := by
 have hu106 := Tryd.underlying106
 have HB := Zz.mk (Below.refl w.heap.size w)
 have H := h
 clear h
 unfold br at H
 refine xid H ?_ ?_ <;> clear H <;> intro c3 H
 {
 obtain ⟨Ay, Az⟩ := xqe c3
 (try (have AH : a0.toList.isEmpty = true := by simpa using c3))
 clear c3
 simp only [Option.some.injEq, Prod.mk.injEq] at H
 obtain ⟨rfl, rfl⟩ := H
 go_enter Tryd.func84, Tryd.ntmps84
 go_wp2
 go_ret2
 exact ⟨_, by first | rfl | (simp [dz, dA] <;> first | rfl | (simp only [fI, bne, Bool.not_not]; done)) | (simp [*, dz, dA] <;> rfl), by first | exact Kd.R_nil _ _ _ _ _ | exact Kd.N_nil _ _ _ _ _ | exact Kd.V_nil _ _ _ _ _ | exact Kd.Q_nil _ _ _ _ _ | exact Kd.S_nil _ _ _ _ _, xbl⟩
 }
 obtain ⟨Ay, Az⟩ := xqn c3
 (try (have AH : a0.toList.isEmpty = false := by simpa using c3))
 replace H := xbd H
 obtain ⟨Ae, A4, H⟩ := H
 try dsimp only at H
 have H' := Zz.mk H
 clear H
 go_enter Tryd.func84, Tryd.ntmps84
 go_wp2_with (first | ((with_reducible refine xgc (f := 85) rfl ?_); refine xgl 17 Tryd.func85 #[.string a0, .string (⟨#[58]⟩ : ByteArray)] ?_; (with_reducible refine (fe (w := _) (hG := xG) (h := A4.out)).mono ?_); rintro e w5 ⟨v174, rfl, ho0, hb⟩; refine ⟨_, rfl, ?_⟩; have Ar := Zz.mk (Kd.R_lower ho0 (aD xbl)); replace HB := xst hb; (try clear hb); (try clear ho0); obtain ⟨Ao6, co6, eo6⟩ := Kd.R_slice Ar.out; subst eo6))
 go_loopg [6, 20] k (fun kq v6 v20 w' => ∃ (Al : List Int) (Aj : Int), v20 = .int .i64 Aj ∧ Zz (cV kq a1 Al Ae Ae (Ae.length : Int) Aj = some (r1, r2)) ∧ Zz (kq ≤ k) ∧ Zz (Kd.R (Kd.int .u16) 102 w' w.heap.size (fun _ => True) v6 Al) ∧ Zz (Kd.R Kd.string 9 w' w.heap.size (fun _ => True) (.slice Ao6 Ae.length co6) Ae) ∧ Zz (Kd.R Kd.string 9 w' w.heap.size (fun _ => True) (.slice Ao6 Ae.length co6) Ae) ∧ Zz (Below w.heap.size w w'))
 case atStart => exact ⟨(([] : List Int)), (0), xrr, H', ⟨Nat.le_refl _⟩, ⟨by first | exact Kd.R_nil _ _ _ _ _ | exact Kd.N_nil _ _ _ _ _ | exact Kd.V_nil _ _ _ _ _ | exact Kd.Q_nil _ _ _ _ _ | exact Kd.S_nil _ _ _ _ _⟩, ⟨xkd Ar⟩, ⟨xkd Ar⟩, ⟨xbl⟩⟩
 case round => (
 clear H'
 clear Ay Az
 obtain ⟨Al, Aj, rfl, HA, HK1, Ad, Ak, Ac, HB⟩ := hrel
 cases gk with
 | zero => exact absurd HA.out (by simp [cV])
 | succ k1 => (
 have H := HA.out
 clear HA
 simp only [cV] at H
 refine xid H ?_ ?_ <;> clear H <;> intro c7 H
 {
 have AA := xdt c7
 clear c7
 refine xin H ?_; clear H; intro c8 H
 have AI := xdt c8
 clear c8
 refine xin H ?_; clear H; intro c9 H
 have AJ := xdt c9
 clear c9
 replace H := xbd H
 obtain ⟨⟨Af, Ag, Ah, Ai, AM⟩, A10, H⟩ := H
 try dsimp only at H
 have Aw := Zz.mk H
 clear H
 have p176 : 0 ≤ (Aj : Int) := xod
 have q176 : Aj < (Ae.length : Int) := xod
 obtain ⟨Au, e176, At⟩ := Kd.at_string (Kd.R_reads' Ac.out).2.2 Aj p176 q176
 cases e176
 replace p176 := eq_true p176
 replace q176 := eq_true q176
 try (have AB := q176; simp only [ByteArray.size_extract, Nat.min_self] at AB)
 go_upto_region 9 with (first | ((with_reducible refine xgc (f := 80) rfl ?_); refine xca 27 Tryd.func80 (gG (w := _) (hG := xG) (h := A10.out)) ?_; rintro w12 hb; replace Ad := Zz.mk (Kd.R_below (xkd Ad) hb); replace Ak := Zz.mk (Kd.R_below (xkd Ak) hb); replace Ac := Zz.mk (Kd.R_below (xkd Ac) hb); replace HB := xst hb; (try clear hb)) | ((with_reducible refine af (N := 10) rfl ?_); (try (refine el (by rfl) ?_; dsimp only)); refine xew 10 ?_; intro Aa w13 Ab AL hb hg; replace Ad := Zz.mk (Kd.R_below (xkd Ad) hb); replace Ak := Zz.mk (Kd.R_below (xkd Ak) hb); replace Ac := Zz.mk (Kd.R_below (xkd Ac) hb); replace HB := xst hb; clear hb hg; have AN := xz4 Ab.out))
 (try simp only [Act.put, xl1, xl2, xl3])
 go_cut [40] (fun v40 wc => ∃ kq Aq, v40 = .bool Aq ∧ Zz (cU kq a1 Al Ae (jy ByteArray.empty Ae Aj) Ae (Ae.length : Int) Aj Aq Af Ag Ah Ai = some (r1, r2)) ∧ Zz (kq ≤ k1) ∧ Zz (Kd.R (Kd.int .u16) 102 wc w.heap.size (fun _ => True) u6 Al) ∧ Zz (Kd.R Kd.string 9 wc w.heap.size (fun _ => True) (.slice (some Au) Ae.length co6) Ae) ∧ Zz (Kd.R Kd.string 9 wc w.heap.size (fun _ => True) (.slice (some Au) Ae.length co6) Ae) ∧ Zz (wc.heap[Aa]? = some (.cells #[.int .u8 Af, .int .u8 Ag, .int .u8 Ah, .int .u8 Ai] 106 (0, 0))) ∧ Zz (Below w.heap.size w wc))
 case first => (
 have H := Aw.out
 clear Aw
 refine xib H ?_ ?_ <;> clear H <;> rintro rfl H
 {
 refine xib H ?_ ?_ <;> clear H <;> rintro rfl H
 {
 replace H := xa H
 go_wp2
 go_meet
 case rel => exact ⟨_, ((Aj == (wrap64 ((Ae.length : Int) - 1)))), xrr, H, ⟨xoj HK1⟩, ⟨by (with_reducible repeat (first | apply Kd.R_alloc | apply Kd.R_drewN | apply Kd.R_drew)); exact Kd.R_mono (Kd.R_far (p := ⟨Aa, 3, none⟩) (Kd.R_far (p := ⟨Aa, 2, none⟩) (Kd.R_far (p := ⟨Aa, 1, none⟩) (Kd.R_far (p := ⟨Aa, 0, none⟩) (Kd.R_types Ad.out Ab.out (by decide)) (fun _ hk => hk.2) (.int .u8 Af)) (fun _ hk => hk.2) (.int .u8 Ag)) (fun _ hk => hk.2) (.int .u8 Ah)) (fun _ hk => hk.2) (.int .u8 Ai)) (fun _ hk => trivial)⟩, ⟨by (with_reducible repeat (first | apply Kd.R_alloc | apply Kd.R_drewN | apply Kd.R_drew)); exact Kd.R_mono (Kd.R_far (p := ⟨Aa, 3, none⟩) (Kd.R_far (p := ⟨Aa, 2, none⟩) (Kd.R_far (p := ⟨Aa, 1, none⟩) (Kd.R_far (p := ⟨Aa, 0, none⟩) (Kd.R_types Ak.out Ab.out (by decide)) (fun _ hk => hk.2) (.int .u8 Af)) (fun _ hk => hk.2) (.int .u8 Ag)) (fun _ hk => hk.2) (.int .u8 Ah)) (fun _ hk => hk.2) (.int .u8 Ai)) (fun _ hk => trivial)⟩, ⟨by (with_reducible repeat (first | apply Kd.R_alloc | apply Kd.R_drewN | apply Kd.R_drew)); exact Kd.R_mono (Kd.R_far (p := ⟨Aa, 3, none⟩) (Kd.R_far (p := ⟨Aa, 2, none⟩) (Kd.R_far (p := ⟨Aa, 1, none⟩) (Kd.R_far (p := ⟨Aa, 0, none⟩) (Kd.R_types Ac.out Ab.out (by decide)) (fun _ hk => hk.2) (.int .u8 Af)) (fun _ hk => hk.2) (.int .u8 Ag)) (fun _ hk => hk.2) (.int .u8 Ah)) (fun _ hk => hk.2) (.int .u8 Ai)) (fun _ hk => trivial)⟩, ⟨xbK⟩, ⟨xbl⟩⟩
 }
 replace H := xa H
 go_wp2
 go_meet
 case rel => exact ⟨_, (false), xrr, H, ⟨xoj HK1⟩, ⟨by (with_reducible repeat (first | apply Kd.R_alloc | apply Kd.R_drewN | apply Kd.R_drew)); exact Kd.R_mono (Kd.R_far (p := ⟨Aa, 3, none⟩) (Kd.R_far (p := ⟨Aa, 2, none⟩) (Kd.R_far (p := ⟨Aa, 1, none⟩) (Kd.R_far (p := ⟨Aa, 0, none⟩) (Kd.R_types Ad.out Ab.out (by decide)) (fun _ hk => hk.2) (.int .u8 Af)) (fun _ hk => hk.2) (.int .u8 Ag)) (fun _ hk => hk.2) (.int .u8 Ah)) (fun _ hk => hk.2) (.int .u8 Ai)) (fun _ hk => trivial)⟩, ⟨by (with_reducible repeat (first | apply Kd.R_alloc | apply Kd.R_drewN | apply Kd.R_drew)); exact Kd.R_mono (Kd.R_far (p := ⟨Aa, 3, none⟩) (Kd.R_far (p := ⟨Aa, 2, none⟩) (Kd.R_far (p := ⟨Aa, 1, none⟩) (Kd.R_far (p := ⟨Aa, 0, none⟩) (Kd.R_types Ak.out Ab.out (by decide)) (fun _ hk => hk.2) (.int .u8 Af)) (fun _ hk => hk.2) (.int .u8 Ag)) (fun _ hk => hk.2) (.int .u8 Ah)) (fun _ hk => hk.2) (.int .u8 Ai)) (fun _ hk => trivial)⟩, ⟨by (with_reducible repeat (first | apply Kd.R_alloc | apply Kd.R_drewN | apply Kd.R_drew)); exact Kd.R_mono (Kd.R_far (p := ⟨Aa, 3, none⟩) (Kd.R_far (p := ⟨Aa, 2, none⟩) (Kd.R_far (p := ⟨Aa, 1, none⟩) (Kd.R_far (p := ⟨Aa, 0, none⟩) (Kd.R_types Ac.out Ab.out (by decide)) (fun _ hk => hk.2) (.int .u8 Af)) (fun _ hk => hk.2) (.int .u8 Ag)) (fun _ hk => hk.2) (.int .u8 Ah)) (fun _ hk => hk.2) (.int .u8 Ai)) (fun _ hk => trivial)⟩, ⟨xbK⟩, ⟨xbl⟩⟩
 }
 replace H := xa H
 go_wp2
 go_meet
 case rel => exact ⟨_, (false), xrr, H, ⟨xoj HK1⟩, ⟨by (with_reducible repeat (first | apply Kd.R_alloc | apply Kd.R_drewN | apply Kd.R_drew)); exact Kd.R_mono (Kd.R_far (p := ⟨Aa, 3, none⟩) (Kd.R_far (p := ⟨Aa, 2, none⟩) (Kd.R_far (p := ⟨Aa, 1, none⟩) (Kd.R_far (p := ⟨Aa, 0, none⟩) (Kd.R_types Ad.out Ab.out (by decide)) (fun _ hk => hk.2) (.int .u8 Af)) (fun _ hk => hk.2) (.int .u8 Ag)) (fun _ hk => hk.2) (.int .u8 Ah)) (fun _ hk => hk.2) (.int .u8 Ai)) (fun _ hk => trivial)⟩, ⟨by (with_reducible repeat (first | apply Kd.R_alloc | apply Kd.R_drewN | apply Kd.R_drew)); exact Kd.R_mono (Kd.R_far (p := ⟨Aa, 3, none⟩) (Kd.R_far (p := ⟨Aa, 2, none⟩) (Kd.R_far (p := ⟨Aa, 1, none⟩) (Kd.R_far (p := ⟨Aa, 0, none⟩) (Kd.R_types Ak.out Ab.out (by decide)) (fun _ hk => hk.2) (.int .u8 Af)) (fun _ hk => hk.2) (.int .u8 Ag)) (fun _ hk => hk.2) (.int .u8 Ah)) (fun _ hk => hk.2) (.int .u8 Ai)) (fun _ hk => trivial)⟩, ⟨by (with_reducible repeat (first | apply Kd.R_alloc | apply Kd.R_drewN | apply Kd.R_drew)); exact Kd.R_mono (Kd.R_far (p := ⟨Aa, 3, none⟩) (Kd.R_far (p := ⟨Aa, 2, none⟩) (Kd.R_far (p := ⟨Aa, 1, none⟩) (Kd.R_far (p := ⟨Aa, 0, none⟩) (Kd.R_types Ac.out Ab.out (by decide)) (fun _ hk => hk.2) (.int .u8 Af)) (fun _ hk => hk.2) (.int .u8 Ag)) (fun _ hk => hk.2) (.int .u8 Ah)) (fun _ hk => hk.2) (.int .u8 Ai)) (fun _ hk => trivial)⟩, ⟨xbK⟩, ⟨xbl⟩⟩
 )
 case rest => (
 clear Aw
 clear AA AI AJ p176 q176
 try clear At
 obtain ⟨kq, Aq, rfl, HA, HJ10, Ad, Ak, Ac, Ab, HB⟩ := hcut
 cases kq with
 | zero => exact absurd HA.out (by simp [cU])
 | succ kj10 => (
 have H := HA.out
 clear HA
 simp only [cU] at H
 refine xib H ?_ ?_ <;> clear H <;> rintro rfl H
 {
 obtain ⟨As, An⟩ : ∃ y_ : List Int, y_ = (([Go.bits .or .u16 (IntKind.u16.wrap ((IntKind.u16.wrap (Af)) * 256)) (IntKind.u16.wrap (Ag)), Go.bits .or .u16 (IntKind.u16.wrap ((IntKind.u16.wrap (Ah)) * 256)) (IntKind.u16.wrap (Ai))] : List Int)) := ⟨_, rfl⟩
 replace H : (if Al.length + As.length < 70368744177664 then (some ((Al ++ As), true)) else (none)) = some (r1, r2) := by first | (rw [An]; with_reducible exact H) | (have H2_ := (Option.bind_some _ _).symm.trans H; rw [An]; with_reducible exact H2_) | (have H2_ := (Option.bind_some _ _).symm.trans H; with_reducible exact H2_) | with_reducible exact H | (rw [An]; exact H) | exact H
 have Av := Zz.mk An
 clear An
 refine xin H ?_; clear H; intro c18 H
 have LMc18 := Zz.mk c18
 clear c18
 obtain ⟨AK, Ao⟩ : ∃ y_ : List Int, y_ = (Al ++ As) := ⟨_, rfl⟩
 replace H : (some (AK, true)) = some (r1, r2) := by first | (rw [Ao]; with_reducible exact H) | (have H2_ := (Option.bind_some _ _).symm.trans H; rw [Ao]; with_reducible exact H2_) | (have H2_ := (Option.bind_some _ _).symm.trans H; with_reducible exact H2_) | with_reducible exact H | (rw [Ao]; exact H) | exact H
 have AC := Zz.mk Ao
 clear Ao
 simp only [Option.some.injEq, Prod.mk.injEq] at H
 obtain ⟨rfl, rfl⟩ := H
 have AO := xz4 Ab.out
 go_wp2_with (first | ((with_reducible refine af (N := 58) rfl ?_); (try (refine el (by rfl) ?_; dsimp only)); refine Kd.R_lit (Kd.int .u16) _ 102 ?hg (N := 58) ?hd (xs := ([Go.bits .or .u16 (IntKind.u16.wrap ((IntKind.u16.wrap (Af)) * 256)) (IntKind.u16.wrap (Ag)), Go.bits .or .u16 (IntKind.u16.wrap ((IntKind.u16.wrap (Ah)) * 256)) (IntKind.u16.wrap (Ai))] : List Int)) (inner := [.int .u16 (Go.bits .or .u16 (IntKind.u16.wrap ((IntKind.u16.wrap (Af)) * 256)) (IntKind.u16.wrap (Ag))), .int .u16 (Go.bits .or .u16 (IntKind.u16.wrap ((IntKind.u16.wrap (Ah)) * 256)) (IntKind.u16.wrap (Ai)))]) (ok := fun _ => True) (okp := fun _ => True) ?hr ?hp (fun _ hk => hk) trivial (Below.refl _ _) (Nat.le_refl _) (by simp) ?_; (case hd => rfl); (case hg => rfl); (case hr => first | (go_simp; done) | (go_simp; rfl)); (case hp => exact (Reps.one (show Kd.M (Kd.int .u16) _ _ _ (Go.bits .or .u16 (IntKind.u16.wrap ((IntKind.u16.wrap (Af)) * 256)) (IntKind.u16.wrap (Ag))) [.int .u16 (Go.bits .or .u16 (IntKind.u16.wrap ((IntKind.u16.wrap (Af)) * 256)) (IntKind.u16.wrap (Ag)))] from rfl) (Reps.one (show Kd.M (Kd.int .u16) _ _ _ (Go.bits .or .u16 (IntKind.u16.wrap ((IntKind.u16.wrap (Ah)) * 256)) (IntKind.u16.wrap (Ai))) [.int .u16 (Go.bits .or .u16 (IntKind.u16.wrap ((IntKind.u16.wrap (Ah)) * 256)) (IntKind.u16.wrap (Ai)))] from rfl) (Reps.none _ _)))); intro v184 w20 ho21 hb hg_ hnew_; clear hg_ hnew_; (first | rw [← Av.out] at ho21 | (simp only [Int.reduceToNat] at ho21; rw [← Av.out] at ho21)); have Am := Zz.mk (Kd.R_lower (Kd.R_new' ho21 (Kd.R_lt (xkd Ad))) (aD xbl)); replace Ad := Zz.mk (Kd.R_elder' (xkd Ad) (Kd.R_base ho21) hb); replace Ak := Zz.mk (Kd.R_below (xkd Ak) hb); replace Ac := Zz.mk (Kd.R_below (xkd Ac) hb); replace Ab := xbq Aa hb; replace HB := xst hb; clear hb ho21; obtain ⟨Ao23, co23, eo23⟩ := Kd.R_slice Am.out; subst eo23) | ((with_reducible refine gi (b := .append) (xs := #[.tmp 41, .tmp 58]) rfl ?_); (try (refine el (by rfl) ?_; dsimp only)); at_builtin; refine Kd.R_append_rows (Kd.int .u16) (w0 := w) w.heap.size rfl (.tmp 41) (.tmp 58) 110 102 (.int .u16 0) 2 rfl Tryd.underlying110 l8 rfl (by decide) (by omega) u6 Al As _ _ _ (fun k_ => some k_ ≠ (.slice Ao23 As.length co23 : Value).ownBlock) (fun _ => False) rfl rfl ?aO ?aR (fun _ _ h => h) (fun _ h => h.elim) ?aF ?aB ?aS ?aL ?_; (case aR => repeat (first | exact (Kd.R_reads' Am.out).2.2 | (with_reducible refine Kd.C_alloc ?_ _) | (with_reducible refine Kd.C_drewN ?_ _) | (with_reducible refine Kd.C_drew ?_))); (case aB => exact xbl); (case aF => exact (fun k_ hk => Kd.fresh' (Kd.R_lt (xkd Am)) k_ hk)); (case aO => exact (by (with_reducible repeat (first | apply Kd.R_alloc | apply Kd.R_drewN | apply Kd.R_drew)); exact Kd.R_mono Ad.out (fun _ hk => hk.2))); (case aS => exact (aD xbl)); (case aL => have := LMc18.out; first | omega | exact Nat.le_of_lt this); intro v187 w22 ho hb hg hat; rw [← AC.out] at ho; have n0_ := Zz.mk (Kd.R_over' (xkd Ak) (Kd.R_typed (xkd Ad)) (by decide) hg); have n1_ := Zz.mk (Kd.R_over' (xkd Ac) (Kd.R_typed (xkd Ad)) (by decide) hg); have n2_ := Zz.mk (iy (g := Aa) (o := .cells #[.int .u8 Af, .int .u8 Ag, .int .u8 Ah, .int .u8 Ai] 106 (0, 0)) xbk hg (Kd.R_ne Ad.out Ab.out (by decide))); have n3_ := Zz.mk (Kd.R_after (ok := (fun _ => True)) (xkd Am) hg hat); have n4_ := Zz.mk (hb); have n5_ := Zz.mk (ho); clear Ak; clear Ac; clear Ab; clear Am; clear HB; clear Ad; have Ak := n0_; have Ac := n1_; have Ab := n2_; have Am := n3_; have HB := n4_; have AD := n5_; clear n0_ n1_ n2_ n3_ n4_ n5_; clear ho hb hg hat))
 go_ret2
 exact ⟨_, by first | rfl | (simp [dz, dA] <;> first | rfl | (simp only [fI, bne, Bool.not_not]; done)) | (simp [*, dz, dA] <;> rfl), by (with_reducible repeat (first | apply Kd.R_alloc | apply Kd.R_drewN | apply Kd.R_drew)); exact Kd.R_mono AD.out (fun _ hk => trivial), xbl⟩
 }
 replace H := xbd H
 obtain ⟨⟨Ax, AP⟩, A24, H⟩ := H
 try dsimp only at H
 refine xib H ?_ ?_ <;> clear H <;> rintro rfl H
 {
 refine xin H ?_; clear H; intro c26 H
 have LMc26 := Zz.mk c26
 clear c26
 obtain ⟨AE, Ap⟩ : ∃ y_ : List Int, y_ = (Al ++ [Ax]) := ⟨_, rfl⟩
 replace H : (cV kj10 a1 AE Ae Ae (Ae.length : Int) (wrap64 (Aj + 1))) = some (r1, r2) := by first | (rw [Ap]; with_reducible exact H) | (have H2_ := (Option.bind_some _ _).symm.trans H; rw [Ap]; with_reducible exact H2_) | (have H2_ := (Option.bind_some _ _).symm.trans H; with_reducible exact H2_) | with_reducible exact H | (rw [Ap]; exact H) | exact H
 have AF := Zz.mk Ap
 clear Ap
 replace H := xa H
 go_wp2_with (first | ((with_reducible refine xgc (f := 87) rfl ?_); refine xca 62 Tryd.func87 (jl (w := _) (h := A24.out)) ?_; rintro w' ⟨nd, rfl⟩) | ((with_reducible refine gi (b := .append) (xs := #[.tmp 67, .tmp 69]) rfl ?_); (try (refine el (by rfl) ?_; dsimp only)); at_builtin; refine Kd.R_append (Kd.int .u16) (w0 := w) w.heap.size rfl (.tmp 67) (.tmp 69) 110 102 (.int .u16 0) 2 rfl Tryd.underlying110 l8 rfl (by decide) (by omega) u6 Al Ax [.int .u16 Ax] (fun _ => True) (fun _ => False) rfl rfl ?aP (fun _ hk => hk.elim) ?aF ?aO ?aB ?aS ?aL ?_; (case aP => exact rfl); (case aB => exact xbl); (case aF => exact (fun _ _ => trivial)); (case aO => exact (xkd Ad)); (case aS => exact (aD xbl)); (case aL => have := LMc26.out; first | omega | exact Nat.le_of_lt this); intro v192 w27 ho hb hg hat; rw [← AF.out] at ho; have n0_ := Zz.mk (Kd.R_over' (xkd Ak) (Kd.R_typed (xkd Ad)) (by decide) hg); have n1_ := Zz.mk (Kd.R_over' (xkd Ac) (Kd.R_typed (xkd Ad)) (by decide) hg); have n2_ := Zz.mk (iy (g := Aa) (o := .cells #[.int .u8 Af, .int .u8 Ag, .int .u8 Ah, .int .u8 Ai] 106 (0, 0)) xbk hg (Kd.R_ne Ad.out Ab.out (by decide))); have n3_ := Zz.mk (hb); have n4_ := Zz.mk (ho); clear Ak; clear Ac; clear Ab; clear HB; clear Ad; have Ak := n0_; have Ac := n1_; have Ab := n2_; have HB := n3_; have AG := n4_; clear n0_ n1_ n2_ n3_ n4_; clear ho hb hg hat))
 go_roundg kj10
 case measure => have := HK1.out; have := HJ10.out; omega
 case rel => exact ⟨(AE), (wrap64 (Aj + 1)), xrr, H, ⟨by have := HK1.out; have := HJ10.out; omega⟩, ⟨xkd AG⟩, ⟨xkd Ak⟩, ⟨xkd Ac⟩, ⟨xbl⟩⟩
 }
 simp only [Option.some.injEq, Prod.mk.injEq] at H
 obtain ⟨rfl, rfl⟩ := H
 go_wp2_with (first | ((with_reducible refine xgc (f := 87) rfl ?_); refine xca 62 Tryd.func87 (jl (w := _) (h := A24.out)) ?_; rintro w' ⟨nd, rfl⟩))
 go_ret2
 exact ⟨_, by first | rfl | (simp [dz, dA] <;> first | rfl | (simp only [fI, bne, Bool.not_not]; done)) | (simp [*, dz, dA] <;> rfl), by first | exact Kd.R_nil _ _ _ _ _ | exact Kd.N_nil _ _ _ _ _ | exact Kd.V_nil _ _ _ _ _ | exact Kd.Q_nil _ _ _ _ _ | exact Kd.S_nil _ _ _ _ _, xbl⟩
 )
 )
 }
 have AA := xdf c7
 clear c7
 simp only [Option.some.injEq, Prod.mk.injEq] at H
 obtain ⟨rfl, rfl⟩ := H
 go_wp2
 go_ret2
 exact ⟨_, by first | rfl | (simp [dz, dA] <;> first | rfl | (simp only [fI, bne, Bool.not_not]; done)) | (simp [*, dz, dA] <;> rfl), by (with_reducible repeat (first | apply Kd.R_alloc | apply Kd.R_drewN | apply Kd.R_drew)); exact Ad.out, xbl⟩
 )
 )
theorem dB {w : World} {e base : Nat} {ok : Nat → Prop} {v : Value} {xs : List Int} (h : Kd.R (Kd.int .u16) e w base ok v xs) :
    ∃ A c, v = .slice A xs.length c ∧ ((A = none ∧ xs = []) ∨ ∃ g cur, A = some ⟨g, 0, none⟩ ∧ base ≤ g ∧ w.heap[g]? = some (.cells cur e (0, 0)) ∧ cur.toList.take xs.length = xs.map (Value.int .u16)) := by
  have ho := Kd.own_of_R h
  obtain ⟨hl, h1 | ⟨g, cap, cur, rfl, hb, hh, _, _, _, ht⟩⟩ := ho
  · obtain ⟨rfl, hn⟩ := h1
    exact ⟨none, 0, by rw [hn], .inl ⟨rfl, List.eq_nil_of_length_eq_zero hn⟩⟩
  · refine ⟨some ⟨g, 0, none⟩, cap, rfl, .inr ⟨g, cur, rfl, hb, hh, ?_⟩⟩
    rw [Nat.mul_one] at ht
    exact ht
theorem ml {P : Program} {dT elem ty : TypeId} (hu : P.underlying dT = some (.slice elem)) (hs : (P.info? elem).map (·.size) = some 1) {w : World} {g o n : Nat} {cur : Array Value} {t : TypeId} (hg : w.heap[g]? = some (.cells cur t (0, 0)))
    {A : Option Addr} {c : Nat} {xs : List Int} {e base : Nat} (hA : (A = none ∧ xs = []) ∨ ∃ g' cur', A = some ⟨g', 0, none⟩ ∧ base ≤ g' ∧ w.heap[g']? = some (.cells cur' e (0, 0)) ∧ cur'.toList.take xs.length = xs.map (Value.int .u16))
    (hfit : o + n ≤ cur.size) :
    (Builtin.copy_ #[dT, dT] ty #[.slice (some ⟨g, o, none⟩) n n, .slice A xs.length c]).run P w =
      .ok (goInt ((xs.take n).map (Value.int .u16)).length) (w.setRow g (cur.toList.take o ++ (xs.take n).map (Value.int .u16) ++ cur.toList.drop (o + ((xs.take n).map (Value.int .u16)).length)).toArray) := by
  rcases hA with ⟨rfl, rfl⟩ | ⟨g', cur', rfl, _, hh, ht⟩
  · have e1 : (cur.toList.take o ++ (([] : List Int).take n).map (Value.int .u16) ++ cur.toList.drop (o + ((([] : List Int).take n).map (Value.int .u16)).length)).toArray = cur := by simp
    rw [e1, setRow_self w g cur t (0, 0) hg, List.take_nil]
    exact run_copy_none w dT dT ty elem (some ⟨g, o, none⟩) none n n 0 c hu hs (by simp)
  · refine run_copy_row P w dT dT ty elem g o n n ⟨g', 0, none⟩ xs.length c cur t ((xs.take n).map (Value.int .u16)) hu hs hg (by simp [Nat.min_comm]) ?_ (by simp; omega) (by
      intro v hv
      obtain ⟨x, _, rfl⟩ := List.mem_map.1 hv
      rfl)
    intro j v hj
    have hadd : (⟨g', 0, none⟩ : Addr).add j = ⟨g', j, none⟩ := by unfold Addr.add; split <;> simp_all
    rw [hadd, cell_of_row w g' j cur' e (0, 0) hh]
    have hj2 : (xs.map (Value.int .u16))[j]? = some v := by
      rw [List.getElem?_map, List.getElem?_take] at hj
      split at hj
      · rw [List.getElem?_map]; exact hj
      · cases hj
    rw [← ht, List.getElem?_take] at hj2
    split at hj2
    · simpa using hj2
    · cases hj2
def ag : List Int := [0, 0, 0, 0, 0, 0, 0, 0]
def eJ (l : List Int) (b : Bool) : Int × Int × Int × Int × Int × Int × Int × Int × Bool := (l.getD 0 0, l.getD 1 0, l.getD 2 0, l.getD 3 0, l.getD 4 0, l.getD 5 0, l.getD 6 0, l.getD 7 0, b)
def ai (l : List Int) : Array Value := #[.int .u16 (l.getD 0 0), .int .u16 (l.getD 1 0), .int .u16 (l.getD 2 0), .int .u16 (l.getD 3 0), .int .u16 (l.getD 4 0), .int .u16 (l.getD 5 0), .int .u16 (l.getD 6 0), .int .u16 (l.getD 7 0)]
theorem iU : ∀ (l : List Int), l.length = 8 → ai l = (l.map (Value.int .u16)).toArray
  | [_, _, _, _, _, _, _, _], _ => rfl
theorem fo (l : List Int) : (ai l).all (·.oneCell') = true := by simp [ai, Value.oneCell']
theorem kO (l xs : List Int) (o : Nat) (hl : l.length = 8) (ho : o + xs.length ≤ 8) :
    ((ai l).toList.take o ++ xs.map (Value.int .u16) ++ (ai l).toList.drop (o + (xs.map (Value.int .u16)).length)).toArray = ai (l.take o ++ xs ++ l.drop (o + xs.length)) := by
  rw [iU l hl, iU _ (by simp; omega)]
  simp
theorem cC {b : Nat} {w w2 : World} (h : Below b w w2) {g : Nat} (hg : b ≤ g) (cs : Array Value) : Below b w (w2.setRow g cs) := below_setRow h hg cs
def ip_V6_At (w : World) (W : World) (l : List Int) : Prop := W.heap[w.heap.size]? = some (.cells (ai ag) 103 (0, 0)) ∧ W.heap[w.heap.size + 1]? = some (.cells (ai l) 103 (0, 0)) ∧ Below w.heap.size w W ∧ w.heap.size + 2 ≤ W.heap.size
theorem ip_V6_At.made (w : World) : ip_V6_At w ((w.alloc (.cells (ai ag) 103)).alloc (.cells (ai ag) 103)) ag :=
  ⟨heap_alloc2_old w _ _, heap_alloc2_new w _ _, ((Below.refl _ _).alloc (Nat.le_refl _) _).alloc (by simp) _, by simp⟩
theorem ip_V6_At.below {w W W' : World} {l : List Int} (h : ip_V6_At w W l) (hb : Below W.heap.size W W') : ip_V6_At w W' l :=
  ⟨(hb.block _ (by have := h.2.2.2; omega)).trans h.1, (hb.block _ (by have := h.2.2.2; omega)).trans h.2.1, h.2.2.1.trans (hb.mono (by have := h.2.2.2; omega)), by have := h.2.2.2; have := hb.size; omega⟩
theorem ip_V6_At.drewN {w W : World} {l : List Int} (h : ip_V6_At w W l) (n : Nat) : ip_V6_At w (W.drewN n) l := h.below (Drawn0.below ⟨n, rfl⟩)
theorem ip_V6_At.copied {w W : World} {l l' : List Int} (h : ip_V6_At w W l) : ip_V6_At w (W.setRow (w.heap.size + 1) (ai l')) l' :=
  ⟨by rw [setRow_other _ _ _ _ (by omega)]; exact h.1, setRow_heap _ _ _ _ _ _ h.2.1, cC h.2.2.1 (by omega) _, by simpa using h.2.2.2⟩
def ip_V6_Row (W : World) (b : Nat) (A : Option Addr) (p : List Int) : Prop := (A = none ∧ p = []) ∨ ∃ g cur, A = some ⟨g, 0, none⟩ ∧ b ≤ g ∧ W.heap[g]? = some (.cells cur 102 (0, 0)) ∧ cur.toList.take p.length = p.map (Value.int .u16)
theorem ip_V6_Row.below {W W' : World} {b : Nat} {A : Option Addr} {p : List Int} (h : ip_V6_Row W b A p) (hb : Below W.heap.size W W') : ip_V6_Row W' b A p := by
  rcases h with h | ⟨g, cur, h1, h2, h3, h4⟩
  · exact .inl h
  · refine .inr ⟨g, cur, h1, h2, (hb.block _ ?_).trans h3, h4⟩
    rw [Array.getElem?_eq_some_iff] at h3
    exact h3.1
theorem ip_V6_Row.setRow {W : World} {b : Nat} {A : Option Addr} {p : List Int} (h : ip_V6_Row W b A p) {g : Nat} (hg : g < b) (cs : Array Value) : ip_V6_Row (W.setRow g cs) b A p := by
  rcases h with h | ⟨g', cur, h1, h2, h3, h4⟩
  · exact .inl h
  · exact .inr ⟨g', cur, h1, h2, by rw [setRow_other _ _ _ _ (by omega)]; exact h3, h4⟩
def ax (l : List Int) (o : Nat) (xs : List Int) (n : Nat) : List Int := l.take o ++ xs.take n ++ l.drop (o + (xs.take n).length)
theorem ef (l xs : List Int) (o n : Nat) (hl : l.length = 8) (h : o + n ≤ 8) : (ax l o xs n).length = 8 := by
  unfold ax; simp; omega
theorem eC {w W : World} {l p : List Int} {A : Option Addr} {b c : Nat} {o n : Nat} (h : ip_V6_At w W l) (hA : ip_V6_Row W b A p) (hl : l.length = 8) (ho : o + n ≤ 8) :
    (Builtin.copy_ #[110, 110] 3 #[.slice (some ⟨w.heap.size + 1, o, none⟩) n n, .slice A p.length c]).run Tryd.prog W =
      .ok (goInt (p.take n).length) (W.setRow (w.heap.size + 1) (ai (ax l o p n))) := by
  have := ml (P := Tryd.prog) (dT := 110) (elem := 102) (ty := 3) Tryd.underlying110 (by kernel_rfl) (w := W) (o := o) (n := n) h.2.1 (c := c) hA (by have : (ai l).size = 8 := rfl; omega)
  rw [kO l (p.take n) o hl (by rw [List.length_take]; omega), List.length_map] at this
  exact this
theorem da {w W w1 : World} {A : Option Addr} {p : List Int} (h2 : w.heap.size + 2 ≤ W.heap.size) (h : (A = none ∧ p = []) ∨ ∃ g cur, A = some ⟨g, 0, none⟩ ∧ W.heap.size ≤ g ∧ w1.heap[g]? = some (.cells cur 102 (0, 0)) ∧ cur.toList.take p.length = p.map (Value.int .u16)) : ip_V6_Row w1 (w.heap.size + 2) A p := by
  rcases h with h | ⟨g, cur, h1, h3, h4⟩
  · exact .inl h
  · exact .inr ⟨g, cur, h1, by omega, h4⟩
set_option maxHeartbeats 1000000 in
theorem mS (k : Nat) (a0 x y : ByteArray) (sh : Bool) (p q : List Int) (w : World) (hG : GW w) (hcut : bQ a0 (⟨#[58, 58]⟩ : ByteArray) = some (x, y, sh)) (hw : br k x (!sh) = some (p, false)) :
    Calls Tryd.prog 78 #[.string a0] w fun e w' => e = .returned (.tuple #[.agg (ai ag), .bool false]) ∧ Below w.heap.size w w' := by
  have hu8 := Tryd.underlying103
  have A1 := Zz.mk hcut
  have A2 := Zz.mk hw
  clear hcut hw
  go_enter Tryd.func78, Tryd.ntmps78
  go_wp2_with (first | (go_at_call 16; (refine (bh a0 ⟨#[58, 58]⟩ x y sh _ (by exact cT hG (ip_V6_At.made w).2.2.1) A1.out).mono ?_); rintro e w' ⟨rfl, ⟨nd, rfl⟩⟩; generalize hW : World.drewN _ nd = W; have VA := Zz.mk (show ip_V6_At w W ag from by rw [← hW]; exact (ip_V6_At.made w).drewN nd); clear hW) | ((with_reducible refine cE (f := 84) rfl ?_); refine eB (some 21) rfl rfl Tryd.func84 (by kernel_rfl) rfl #[.string x, .bool (!sh)] rfl (by (try simp only [List.map_toArray, List.map_cons, List.map_nil]); first | done | rfl) ?_; (refine (bV k x (!sh) p false _ (by exact cT hG VA.out.2.2.1) A2.out).mono ?_); rintro e w1 ⟨v1, rfl, hr, hb⟩; have VB := Zz.mk (VA.out.below hb); obtain ⟨A, c, rfl, hA⟩ := dB hr; have HA := Zz.mk (show ip_V6_Row w1 (w.heap.size + 2) A p from da VA.out.2.2.2 hA); clear hA hr hb; refine ⟨_, rfl, ?_⟩) | (refine wpList_load_row rfl 103 (.tmp 4) rfl (w.heap.size + 1) rfl 103 (ai ag) (0, 0) _ VB.out.2.1 hu8 rfl (by kernel_rfl) ?_; refine wpList_store_row rfl 103 (.tmp 2) (.tmp 26) rfl w.heap.size (ai ag) ?x1 ?x2 103 (ai ag) VB.out.1 ?x3 ?x4 ?x5 ?_; (case x1 => rfl); (case x2 => rfl); (case x3 => exact (show (Tryd.prog.info? 103).map (·.size) = some 8 by kernel_rfl)); (case x4 => rfl); (case x5 => exact fo _)))
  refine bodyPost_ret (av rfl _ _ w.heap.size 103 (ai ag) (0, 0) _ rfl (setRow_heap _ _ _ _ _ _ VB.out.1) Tryd.underlying103 rfl (show (Tryd.prog.info? 103).map (·.size) = some 8 by kernel_rfl)) rfl ⟨rfl, cC VB.out.2.2.1 (Nat.le_refl _) _⟩
set_option maxHeartbeats 1000000 in
theorem mm (k : Nat) (a0 x y : ByteArray) (sh : Bool) (p q : List Int) (w : World) (hG : GW w) (hcut : bQ a0 (⟨#[58, 58]⟩ : ByteArray) = some (x, y, false)) (hw : br k x true = some (p, true)) (h8 : p.length = 8) :
    Calls Tryd.prog 78 #[.string a0] w fun e w' => e = .returned (.tuple #[.agg (ai (ax ag 0 p 8)), .bool true]) ∧ Below w.heap.size w w' := by
  have hu8 := Tryd.underlying103
  have A1 := Zz.mk hcut
  have A2 := Zz.mk hw
  clear hcut hw
  have t8 : ((p.length : Int) != 8) = false := by simp [h8]
  clear h8
  go_enter Tryd.func78, Tryd.ntmps78
  go_wp2_with (first | (go_at_call 16; (refine (bh a0 ⟨#[58, 58]⟩ x y false _ (by exact cT hG (ip_V6_At.made w).2.2.1) A1.out).mono ?_); rintro e w' ⟨rfl, ⟨nd, rfl⟩⟩; generalize hW : World.drewN _ nd = W; have VA := Zz.mk (show ip_V6_At w W ag from by rw [← hW]; exact (ip_V6_At.made w).drewN nd); clear hW) | ((with_reducible refine cE (f := 84) rfl ?_); refine eB (some 21) rfl rfl Tryd.func84 (by kernel_rfl) rfl #[.string x, .bool true] rfl (by (try simp only [List.map_toArray, List.map_cons, List.map_nil]); first | done | rfl) ?_; (refine (bV k x true p true _ (by exact cT hG VA.out.2.2.1) A2.out).mono ?_); rintro e w1 ⟨v1, rfl, hr, hb⟩; have VB := Zz.mk (VA.out.below hb); obtain ⟨A, c, rfl, hA⟩ := dB hr; have HA := Zz.mk (show ip_V6_Row w1 (w.heap.size + 2) A p from da VA.out.2.2.2 hA); clear hA hr hb; refine ⟨_, rfl, ?_⟩) | (refine Lib.wpList_copy_run _ rfl (.tmp 29) (.tmp 30) 110 110 rfl (.slice (some ⟨w.heap.size + 1, 0, none⟩) 8 8) (.slice A p.length c) ?y1 ?y2 (eC (o := 0) (n := 8) VB.out HA.out ?y3 ?y4) ?_; (case y1 => rfl); (case y2 => rfl); (case y3 => first | rfl | exact ef _ _ _ _ rfl (by omega)); (case y4 => omega); have VC := Zz.mk (VB.out.copied (l' := (ax ag 0 p 8))); generalize World.setRow _ _ _ = W2 at VC ⊢) | (refine wpList_load_row rfl 103 (.tmp 4) rfl (w.heap.size + 1) rfl 103 (ai (ax ag 0 p 8)) (0, 0) _ VC.out.2.1 hu8 rfl (by kernel_rfl) ?_; refine wpList_store_row rfl 103 (.tmp 2) (.tmp 36) rfl w.heap.size (ai (ax ag 0 p 8)) ?x1 ?x2 103 (ai ag) VC.out.1 ?x3 ?x4 ?x5 ?_; (case x1 => rfl); (case x2 => rfl); (case x3 => exact (show (Tryd.prog.info? 103).map (·.size) = some 8 by kernel_rfl)); (case x4 => rfl); (case x5 => exact fo _)))
  refine bodyPost_ret (av rfl _ _ w.heap.size 103 (ai (ax ag 0 p 8)) (0, 0) _ rfl (setRow_heap _ _ _ _ _ _ VC.out.1) Tryd.underlying103 rfl (show (Tryd.prog.info? 103).map (·.size) = some 8 by kernel_rfl)) rfl ⟨rfl, cC VC.out.2.2.1 (Nat.le_refl _) _⟩
set_option maxHeartbeats 1000000 in
theorem mR (k : Nat) (a0 x y : ByteArray) (sh : Bool) (p q : List Int) (w : World) (hG : GW w) (hcut : bQ a0 (⟨#[58, 58]⟩ : ByteArray) = some (x, y, false)) (hw : br k x true = some (p, true)) (h8 : ¬ p.length = 8) :
    Calls Tryd.prog 78 #[.string a0] w fun e w' => e = .returned (.tuple #[.agg (ai ag), .bool false]) ∧ Below w.heap.size w w' := by
  have hu8 := Tryd.underlying103
  have A1 := Zz.mk hcut
  have A2 := Zz.mk hw
  clear hcut hw
  have t8 : ((p.length : Int) != 8) = true := by rw [bne_iff_ne]; omega
  clear h8
  go_enter Tryd.func78, Tryd.ntmps78
  go_wp2_with (first | (go_at_call 16; (refine (bh a0 ⟨#[58, 58]⟩ x y false _ (by exact cT hG (ip_V6_At.made w).2.2.1) A1.out).mono ?_); rintro e w' ⟨rfl, ⟨nd, rfl⟩⟩; generalize hW : World.drewN _ nd = W; have VA := Zz.mk (show ip_V6_At w W ag from by rw [← hW]; exact (ip_V6_At.made w).drewN nd); clear hW) | ((with_reducible refine cE (f := 84) rfl ?_); refine eB (some 21) rfl rfl Tryd.func84 (by kernel_rfl) rfl #[.string x, .bool true] rfl (by (try simp only [List.map_toArray, List.map_cons, List.map_nil]); first | done | rfl) ?_; (refine (bV k x true p true _ (by exact cT hG VA.out.2.2.1) A2.out).mono ?_); rintro e w1 ⟨v1, rfl, hr, hb⟩; have VB := Zz.mk (VA.out.below hb); obtain ⟨A, c, rfl, hA⟩ := dB hr; have HA := Zz.mk (show ip_V6_Row w1 (w.heap.size + 2) A p from da VA.out.2.2.2 hA); clear hA hr hb; refine ⟨_, rfl, ?_⟩) | (refine Lib.wpList_copy_run _ rfl (.tmp 29) (.tmp 30) 110 110 rfl (.slice (some ⟨w.heap.size + 1, 0, none⟩) 8 8) (.slice A p.length c) ?y1 ?y2 (eC (o := 0) (n := 8) VB.out HA.out ?y3 ?y4) ?_; (case y1 => rfl); (case y2 => rfl); (case y3 => first | rfl | exact ef _ _ _ _ rfl (by omega)); (case y4 => omega); have VC := Zz.mk (VB.out.copied (l' := (ax ag 0 p 8))); generalize World.setRow _ _ _ = W2 at VC ⊢) | (refine wpList_store_row rfl 103 (.tmp 2) (.tmp 35) rfl w.heap.size (ai ag) ?x1 ?x2 103 (ai ag) VC.out.1 ?x3 ?x4 ?x5 ?_; (case x1 => rfl); (case x2 => rfl); (case x3 => exact (show (Tryd.prog.info? 103).map (·.size) = some 8 by kernel_rfl)); (case x4 => rfl); (case x5 => exact fo _)))
  refine bodyPost_ret (av rfl _ _ w.heap.size 103 (ai ag) (0, 0) _ rfl (setRow_heap _ _ _ _ _ _ VC.out.1) Tryd.underlying103 rfl (show (Tryd.prog.info? 103).map (·.size) = some 8 by kernel_rfl)) rfl ⟨rfl, cC VC.out.2.2.1 (Nat.le_refl _) _⟩
set_option maxHeartbeats 1000000 in
theorem mT (k : Nat) (a0 x y : ByteArray) (sh : Bool) (p q : List Int) (w : World) (hG : GW w) (hcut : bQ a0 (⟨#[58, 58]⟩ : ByteArray) = some (x, y, true)) (hw : br k x false = some (p, true)) (hw2 : br k y true = some (q, false)) :
    Calls Tryd.prog 78 #[.string a0] w fun e w' => e = .returned (.tuple #[.agg (ai ag), .bool false]) ∧ Below w.heap.size w w' := by
  have hu8 := Tryd.underlying103
  have A1 := Zz.mk hcut
  have A2 := Zz.mk hw
  clear hcut hw
  have A3 := Zz.mk hw2
  clear hw2
  go_enter Tryd.func78, Tryd.ntmps78
  go_wp2_with (first | (go_at_call 16; (refine (bh a0 ⟨#[58, 58]⟩ x y true _ (by exact cT hG (ip_V6_At.made w).2.2.1) A1.out).mono ?_); rintro e w' ⟨rfl, ⟨nd, rfl⟩⟩; generalize hW : World.drewN _ nd = W; have VA := Zz.mk (show ip_V6_At w W ag from by rw [← hW]; exact (ip_V6_At.made w).drewN nd); clear hW) | ((with_reducible refine cE (f := 84) rfl ?_); refine eB (some 21) rfl rfl Tryd.func84 (by kernel_rfl) rfl #[.string x, .bool false] rfl (by (try simp only [List.map_toArray, List.map_cons, List.map_nil]); first | done | rfl) ?_; (refine (bV k x false p true _ (by exact cT hG VA.out.2.2.1) A2.out).mono ?_); rintro e w1 ⟨v1, rfl, hr, hb⟩; have VB := Zz.mk (VA.out.below hb); obtain ⟨A, c, rfl, hA⟩ := dB hr; have HA := Zz.mk (show ip_V6_Row w1 (w.heap.size + 2) A p from da VA.out.2.2.2 hA); clear hA hr hb; refine ⟨_, rfl, ?_⟩) | ((with_reducible refine cE (f := 84) rfl ?_); refine eB (some 39) rfl rfl Tryd.func84 (by kernel_rfl) rfl #[.string y, .bool true] rfl (by (try simp only [List.map_toArray, List.map_cons, List.map_nil]); first | done | rfl) ?_; (refine (bV k y true q false _ (by exact cT hG VB.out.2.2.1) A3.out).mono ?_); rintro e w2 ⟨v2, rfl, hr, hb⟩; have VC := Zz.mk (VB.out.below hb); have HB := Zz.mk (HA.out.below hb); obtain ⟨A', c', rfl, hA⟩ := dB hr; have HQ := Zz.mk (show ip_V6_Row w2 (w.heap.size + 2) A' q from da VB.out.2.2.2 hA); clear hA hr hb; refine ⟨_, rfl, ?_⟩) | (refine wpList_load_row rfl 103 (.tmp 4) rfl (w.heap.size + 1) rfl 103 (ai ag) (0, 0) _ VC.out.2.1 hu8 rfl (by kernel_rfl) ?_; refine wpList_store_row rfl 103 (.tmp 2) (.tmp 52) rfl w.heap.size (ai ag) ?x1 ?x2 103 (ai ag) VC.out.1 ?x3 ?x4 ?x5 ?_; (case x1 => rfl); (case x2 => rfl); (case x3 => exact (show (Tryd.prog.info? 103).map (·.size) = some 8 by kernel_rfl)); (case x4 => rfl); (case x5 => exact fo _)))
  refine bodyPost_ret (av rfl _ _ w.heap.size 103 (ai ag) (0, 0) _ rfl (setRow_heap _ _ _ _ _ _ VC.out.1) Tryd.underlying103 rfl (show (Tryd.prog.info? 103).map (·.size) = some 8 by kernel_rfl)) rfl ⟨rfl, cC VC.out.2.2.1 (Nat.le_refl _) _⟩
set_option maxHeartbeats 1000000 in
theorem mn (k : Nat) (a0 x y : ByteArray) (sh : Bool) (p q : List Int) (w : World) (hG : GW w) (hcut : bQ a0 (⟨#[58, 58]⟩ : ByteArray) = some (x, y, true)) (hw : br k x false = some (p, true)) (hw2 : br k y true = some (q, true)) (hm : 8 ≤ wrap64 ((p.length : Int) + q.length)) :
    Calls Tryd.prog 78 #[.string a0] w fun e w' => e = .returned (.tuple #[.agg (ai ag), .bool false]) ∧ Below w.heap.size w w' := by
  have hu8 := Tryd.underlying103
  have A1 := Zz.mk hcut
  have A2 := Zz.mk hw
  clear hcut hw
  have A3 := Zz.mk hw2
  clear hw2
  have t8 : decide (8 ≤ wrap64 ((p.length : Int) + q.length)) = true := decide_eq_true hm
  clear hm
  go_enter Tryd.func78, Tryd.ntmps78
  go_wp2_with (first | (go_at_call 16; (refine (bh a0 ⟨#[58, 58]⟩ x y true _ (by exact cT hG (ip_V6_At.made w).2.2.1) A1.out).mono ?_); rintro e w' ⟨rfl, ⟨nd, rfl⟩⟩; generalize hW : World.drewN _ nd = W; have VA := Zz.mk (show ip_V6_At w W ag from by rw [← hW]; exact (ip_V6_At.made w).drewN nd); clear hW) | ((with_reducible refine cE (f := 84) rfl ?_); refine eB (some 21) rfl rfl Tryd.func84 (by kernel_rfl) rfl #[.string x, .bool false] rfl (by (try simp only [List.map_toArray, List.map_cons, List.map_nil]); first | done | rfl) ?_; (refine (bV k x false p true _ (by exact cT hG VA.out.2.2.1) A2.out).mono ?_); rintro e w1 ⟨v1, rfl, hr, hb⟩; have VB := Zz.mk (VA.out.below hb); obtain ⟨A, c, rfl, hA⟩ := dB hr; have HA := Zz.mk (show ip_V6_Row w1 (w.heap.size + 2) A p from da VA.out.2.2.2 hA); clear hA hr hb; refine ⟨_, rfl, ?_⟩) | ((with_reducible refine cE (f := 84) rfl ?_); refine eB (some 39) rfl rfl Tryd.func84 (by kernel_rfl) rfl #[.string y, .bool true] rfl (by (try simp only [List.map_toArray, List.map_cons, List.map_nil]); first | done | rfl) ?_; (refine (bV k y true q true _ (by exact cT hG VB.out.2.2.1) A3.out).mono ?_); rintro e w2 ⟨v2, rfl, hr, hb⟩; have VC := Zz.mk (VB.out.below hb); have HB := Zz.mk (HA.out.below hb); obtain ⟨A', c', rfl, hA⟩ := dB hr; have HQ := Zz.mk (show ip_V6_Row w2 (w.heap.size + 2) A' q from da VB.out.2.2.2 hA); clear hA hr hb; refine ⟨_, rfl, ?_⟩) | (refine wpList_load_row rfl 103 (.tmp 4) rfl (w.heap.size + 1) rfl 103 (ai ag) (0, 0) _ VC.out.2.1 hu8 rfl (by kernel_rfl) ?_; refine wpList_store_row rfl 103 (.tmp 2) (.tmp 52) rfl w.heap.size (ai ag) ?x1 ?x2 103 (ai ag) VC.out.1 ?x3 ?x4 ?x5 ?_; (case x1 => rfl); (case x2 => rfl); (case x3 => exact (show (Tryd.prog.info? 103).map (·.size) = some 8 by kernel_rfl)); (case x4 => rfl); (case x5 => exact fo _)))
  refine bodyPost_ret (av rfl _ _ w.heap.size 103 (ai ag) (0, 0) _ rfl (setRow_heap _ _ _ _ _ _ VC.out.1) Tryd.underlying103 rfl (show (Tryd.prog.info? 103).map (·.size) = some 8 by kernel_rfl)) rfl ⟨rfl, cC VC.out.2.2.1 (Nat.le_refl _) _⟩
set_option maxHeartbeats 1000000 in
theorem lP (k : Nat) (a0 x y : ByteArray) (sh : Bool) (p q : List Int) (w : World) (hG : GW w) (hcut : bQ a0 (⟨#[58, 58]⟩ : ByteArray) = some (x, y, true)) (hw : br k x false = some (p, true)) (hw2 : br k y true = some (q, true)) (hm : p.length + q.length < 8) (o : Nat) (ho : o + q.length = 8) (h8 : o < 8) :
    Calls Tryd.prog 78 #[.string a0] w fun e w' => e = .returned (.tuple #[.agg (ai (ax (ax ag 0 p 8) o q (8 - o))), .bool true]) ∧ Below w.heap.size w w' := by
  have hu8 := Tryd.underlying103
  have A1 := Zz.mk hcut
  have A2 := Zz.mk hw
  clear hcut hw
  have A3 := Zz.mk hw2
  clear hw2
  have t8 : decide (8 ≤ wrap64 ((p.length : Int) + q.length)) = false := decide_eq_false (by unfold wrap64; omega)
  have t9 : wrap64 (8 - (q.length : Int)) = (o : Int) := by unfold wrap64; omega
  have t12 : (o : Int) ≤ 8 := by omega
  have t13 : o ≤ 8 := by omega
  have t14 : ¬ 8 = o := by omega
  clear hm ho h8
  go_enter Tryd.func78, Tryd.ntmps78
  go_wp2_with (first | (go_at_call 16; (refine (bh a0 ⟨#[58, 58]⟩ x y true _ (by exact cT hG (ip_V6_At.made w).2.2.1) A1.out).mono ?_); rintro e w' ⟨rfl, ⟨nd, rfl⟩⟩; generalize hW : World.drewN _ nd = W; have VA := Zz.mk (show ip_V6_At w W ag from by rw [← hW]; exact (ip_V6_At.made w).drewN nd); clear hW) | ((with_reducible refine cE (f := 84) rfl ?_); refine eB (some 21) rfl rfl Tryd.func84 (by kernel_rfl) rfl #[.string x, .bool false] rfl (by (try simp only [List.map_toArray, List.map_cons, List.map_nil]); first | done | rfl) ?_; (refine (bV k x false p true _ (by exact cT hG VA.out.2.2.1) A2.out).mono ?_); rintro e w1 ⟨v1, rfl, hr, hb⟩; have VB := Zz.mk (VA.out.below hb); obtain ⟨A, c, rfl, hA⟩ := dB hr; have HA := Zz.mk (show ip_V6_Row w1 (w.heap.size + 2) A p from da VA.out.2.2.2 hA); clear hA hr hb; refine ⟨_, rfl, ?_⟩) | ((with_reducible refine cE (f := 84) rfl ?_); refine eB (some 39) rfl rfl Tryd.func84 (by kernel_rfl) rfl #[.string y, .bool true] rfl (by (try simp only [List.map_toArray, List.map_cons, List.map_nil]); first | done | rfl) ?_; (refine (bV k y true q true _ (by exact cT hG VB.out.2.2.1) A3.out).mono ?_); rintro e w2 ⟨v2, rfl, hr, hb⟩; have VC := Zz.mk (VB.out.below hb); have HB := Zz.mk (HA.out.below hb); obtain ⟨A', c', rfl, hA⟩ := dB hr; have HQ := Zz.mk (show ip_V6_Row w2 (w.heap.size + 2) A' q from da VB.out.2.2.2 hA); clear hA hr hb; refine ⟨_, rfl, ?_⟩) | (refine Lib.wpList_copy_run _ rfl (.tmp 53) (.tmp 54) 110 110 rfl (.slice (some ⟨w.heap.size + 1, 0, none⟩) 8 8) (.slice A p.length c) ?y1 ?y2 (eC (o := 0) (n := 8) VC.out HB.out ?y3 ?y4) ?_; (case y1 => rfl); (case y2 => rfl); (case y3 => first | rfl | exact ef _ _ _ _ rfl (by omega)); (case y4 => omega); have HQ2 := Zz.mk (HQ.out.setRow (Nat.lt_succ_self (w.heap.size + 1)) (ai (ax ag 0 p 8))); have VD := Zz.mk (VC.out.copied (l' := (ax ag 0 p 8))); generalize World.setRow _ _ _ = W2 at VD HQ2 ⊢) | (refine Lib.wpList_copy_run _ rfl (.tmp 59) (.tmp 60) 110 110 rfl (.slice (some ⟨w.heap.size + 1, o, none⟩) (8 - o) (8 - o)) (.slice A' q.length c') ?y1 ?y2 (eC (o := o) (n := (8 - o)) VD.out HQ2.out ?y3 ?y4) ?_; (case y1 => rfl); (case y2 => rfl); (case y3 => first | rfl | exact ef _ _ _ _ rfl (by omega)); (case y4 => omega); have VE := Zz.mk (VD.out.copied (l' := (ax (ax ag 0 p 8) o q (8 - o)))); generalize World.setRow _ _ _ = W3 at VE ⊢) | (refine wpList_load_row rfl 103 (.tmp 4) rfl (w.heap.size + 1) rfl 103 (ai (ax (ax ag 0 p 8) o q (8 - o))) (0, 0) _ VE.out.2.1 hu8 rfl (by kernel_rfl) ?_; refine wpList_store_row rfl 103 (.tmp 2) (.tmp 62) rfl w.heap.size (ai (ax (ax ag 0 p 8) o q (8 - o))) ?x1 ?x2 103 (ai ag) VE.out.1 ?x3 ?x4 ?x5 ?_; (case x1 => rfl); (case x2 => rfl); (case x3 => exact (show (Tryd.prog.info? 103).map (·.size) = some 8 by kernel_rfl)); (case x4 => rfl); (case x5 => exact fo _)))
  refine bodyPost_ret (av rfl _ _ w.heap.size 103 (ai (ax (ax ag 0 p 8) o q (8 - o))) (0, 0) _ rfl (setRow_heap _ _ _ _ _ _ VE.out.1) Tryd.underlying103 rfl (show (Tryd.prog.info? 103).map (·.size) = some 8 by kernel_rfl)) rfl ⟨rfl, cC VE.out.2.2.1 (Nat.le_refl _) _⟩
set_option maxHeartbeats 1000000 in
theorem kN (k : Nat) (a0 x y : ByteArray) (sh : Bool) (p q : List Int) (w : World) (hG : GW w) (hcut : bQ a0 (⟨#[58, 58]⟩ : ByteArray) = some (x, y, true)) (hw : br k x false = some (p, true)) (hw2 : br k y true = some (q, true)) (hm : p.length < 8) (hq : q.length = 0) :
    Calls Tryd.prog 78 #[.string a0] w fun e w' => e = .returned (.tuple #[.agg (ai (ax (ax ag 0 p 8) 0 q 0)), .bool true]) ∧ Below w.heap.size w w' := by
  have hu8 := Tryd.underlying103
  have A1 := Zz.mk hcut
  have A2 := Zz.mk hw
  clear hcut hw
  have A3 := Zz.mk hw2
  clear hw2
  have t8 : decide (8 ≤ wrap64 ((p.length : Int) + q.length)) = false := decide_eq_false (by unfold wrap64; omega)
  have t9 : wrap64 (8 - (q.length : Int)) = 8 := by unfold wrap64; omega
  clear hm hq
  go_enter Tryd.func78, Tryd.ntmps78
  go_wp2_with (first | (go_at_call 16; (refine (bh a0 ⟨#[58, 58]⟩ x y true _ (by exact cT hG (ip_V6_At.made w).2.2.1) A1.out).mono ?_); rintro e w' ⟨rfl, ⟨nd, rfl⟩⟩; generalize hW : World.drewN _ nd = W; have VA := Zz.mk (show ip_V6_At w W ag from by rw [← hW]; exact (ip_V6_At.made w).drewN nd); clear hW) | ((with_reducible refine cE (f := 84) rfl ?_); refine eB (some 21) rfl rfl Tryd.func84 (by kernel_rfl) rfl #[.string x, .bool false] rfl (by (try simp only [List.map_toArray, List.map_cons, List.map_nil]); first | done | rfl) ?_; (refine (bV k x false p true _ (by exact cT hG VA.out.2.2.1) A2.out).mono ?_); rintro e w1 ⟨v1, rfl, hr, hb⟩; have VB := Zz.mk (VA.out.below hb); obtain ⟨A, c, rfl, hA⟩ := dB hr; have HA := Zz.mk (show ip_V6_Row w1 (w.heap.size + 2) A p from da VA.out.2.2.2 hA); clear hA hr hb; refine ⟨_, rfl, ?_⟩) | ((with_reducible refine cE (f := 84) rfl ?_); refine eB (some 39) rfl rfl Tryd.func84 (by kernel_rfl) rfl #[.string y, .bool true] rfl (by (try simp only [List.map_toArray, List.map_cons, List.map_nil]); first | done | rfl) ?_; (refine (bV k y true q true _ (by exact cT hG VB.out.2.2.1) A3.out).mono ?_); rintro e w2 ⟨v2, rfl, hr, hb⟩; have VC := Zz.mk (VB.out.below hb); have HB := Zz.mk (HA.out.below hb); obtain ⟨A', c', rfl, hA⟩ := dB hr; have HQ := Zz.mk (show ip_V6_Row w2 (w.heap.size + 2) A' q from da VB.out.2.2.2 hA); clear hA hr hb; refine ⟨_, rfl, ?_⟩) | (refine Lib.wpList_copy_run _ rfl (.tmp 53) (.tmp 54) 110 110 rfl (.slice (some ⟨w.heap.size + 1, 0, none⟩) 8 8) (.slice A p.length c) ?y1 ?y2 (eC (o := 0) (n := 8) VC.out HB.out ?y3 ?y4) ?_; (case y1 => rfl); (case y2 => rfl); (case y3 => first | rfl | exact ef _ _ _ _ rfl (by omega)); (case y4 => omega); have HQ2 := Zz.mk (HQ.out.setRow (Nat.lt_succ_self (w.heap.size + 1)) (ai (ax ag 0 p 8))); have VD := Zz.mk (VC.out.copied (l' := (ax ag 0 p 8))); generalize World.setRow _ _ _ = W2 at VD HQ2 ⊢) | (refine Lib.wpList_copy_run _ rfl (.tmp 59) (.tmp 60) 110 110 rfl (.slice (some ⟨w.heap.size + 1, 0, none⟩) 0 0) (.slice A' q.length c') ?y1 ?y2 (eC (o := 0) (n := 0) VD.out HQ2.out ?y3 ?y4) ?_; (case y1 => rfl); (case y2 => rfl); (case y3 => first | rfl | exact ef _ _ _ _ rfl (by omega)); (case y4 => omega); have VE := Zz.mk (VD.out.copied (l' := (ax (ax ag 0 p 8) 0 q 0))); generalize World.setRow _ _ _ = W3 at VE ⊢) | (refine wpList_load_row rfl 103 (.tmp 4) rfl (w.heap.size + 1) rfl 103 (ai (ax (ax ag 0 p 8) 0 q 0)) (0, 0) _ VE.out.2.1 hu8 rfl (by kernel_rfl) ?_; refine wpList_store_row rfl 103 (.tmp 2) (.tmp 62) rfl w.heap.size (ai (ax (ax ag 0 p 8) 0 q 0)) ?x1 ?x2 103 (ai ag) VE.out.1 ?x3 ?x4 ?x5 ?_; (case x1 => rfl); (case x2 => rfl); (case x3 => exact (show (Tryd.prog.info? 103).map (·.size) = some 8 by kernel_rfl)); (case x4 => rfl); (case x5 => exact fo _)))
  refine bodyPost_ret (av rfl _ _ w.heap.size 103 (ai (ax (ax ag 0 p 8) 0 q 0)) (0, 0) _ rfl (setRow_heap _ _ _ _ _ _ VE.out.1) Tryd.underlying103 rfl (show (Tryd.prog.info? 103).map (·.size) = some 8 by kernel_rfl)) rfl ⟨rfl, cC VE.out.2.2.1 (Nat.le_refl _) _⟩
def hH (k : Nat) (a0 : ByteArray) : Option (Int × Int × Int × Int × Int × Int × Int × Int × Bool) :=
  (bQ a0 (⟨#[58, 58]⟩ : ByteArray)).bind fun c => (br k c.1 (!c.2.2)).bind fun p =>
    if p.2 = false then some (eJ ag false)
    else if c.2.2 = false then (if p.1.length = 8 then some (eJ (ax ag 0 p.1 8) true) else some (eJ ag false))
    else (br k c.2.1 true).bind fun q =>
      if q.2 = false then some (eJ ag false)
      else if 8 ≤ wrap64 ((p.1.length : Int) + q.1.length) then some (eJ ag false)
      else if p.1.length + q.1.length < 8 then some (eJ (ax (ax ag 0 p.1 8) (8 - q.1.length) q.1 q.1.length) true) else none
theorem jX : ∀ a0 k, LeO (hH k a0) (hH (k + 1) a0) := by
  intro a0 k
  unfold hH
  exact LeO.bind (LeO.refl _) (fun c => LeO.bind (jm _ _ _) (fun p => LeO.ite (LeO.refl _) (LeO.ite (LeO.refl _) (LeO.bind (jm _ _ _) (fun q => LeO.refl _)))))
theorem e6 {l : List Int} {b : Bool} {r1 r2 r3 r4 r5 r6 r7 r8 : Int} {r9 : Bool} (h : eJ l b = (r1, r2, r3, r4, r5, r6, r7, r8, r9)) : ai l = #[.int .u16 r1, .int .u16 r2, .int .u16 r3, .int .u16 r4, .int .u16 r5, .int .u16 r6, .int .u16 r7, .int .u16 r8] ∧ b = r9 := by
  unfold eJ at h
  simp only [Prod.mk.injEq] at h
  obtain ⟨rfl, rfl, rfl, rfl, rfl, rfl, rfl, rfl, rfl⟩ := h
  exact ⟨rfl, rfl⟩
theorem iP (k : Nat) (a0 : ByteArray) (r1 : Int) (r2 : Int) (r3 : Int) (r4 : Int) (r5 : Int) (r6 : Int) (r7 : Int) (r8 : Int) (r9 : Bool) (w : World) (hG : GW w) (h : hH k a0 = some (r1, r2, r3, r4, r5, r6, r7, r8, r9)) :
    Calls Tryd.prog 78 #[.string a0] w fun e w' => e = .returned (.tuple #[.agg #[.int .u16 r1, .int .u16 r2, .int .u16 r3, .int .u16 r4, .int .u16 r5, .int .u16 r6, .int .u16 r7, .int .u16 r8], .bool r9]) ∧ Below w.heap.size w w' := by
 unfold hH at h
 obtain ⟨⟨x, y, sh⟩, h1, h⟩ := Option.bind_eq_some_iff.1 h
 obtain ⟨⟨p, ok⟩, h2, h⟩ := Option.bind_eq_some_iff.1 h
 simp only at h2 h
 cases ok with
 | false =>
  rw [if_pos rfl] at h
  obtain ⟨e1, e2⟩ := e6 (Option.some.inj h)
  rw [← e1, ← e2]
  exact mS k a0 x y sh p [] w hG h1 h2
 | true =>
  rw [if_neg (by simp)] at h
  cases sh with
  | false =>
   rw [if_pos rfl] at h
   by_cases h8 : p.length = 8
   · rw [if_pos h8] at h
     obtain ⟨e1, e2⟩ := e6 (Option.some.inj h)
     rw [← e1, ← e2]
     exact mm k a0 x y false p [] w hG h1 h2 h8
   · rw [if_neg h8] at h
     obtain ⟨e1, e2⟩ := e6 (Option.some.inj h)
     rw [← e1, ← e2]
     exact mR k a0 x y false p [] w hG h1 h2 h8
  | true =>
   rw [if_neg (by simp)] at h
   obtain ⟨⟨q, ok2⟩, h3, h⟩ := Option.bind_eq_some_iff.1 h
   simp only at h3 h
   cases ok2 with
   | false =>
    rw [if_pos rfl] at h
    obtain ⟨e1, e2⟩ := e6 (Option.some.inj h)
    rw [← e1, ← e2]
    exact mT k a0 x y true p q w hG h1 h2 h3
   | true =>
    rw [if_neg (by simp)] at h
    by_cases hm : 8 ≤ wrap64 ((p.length : Int) + q.length)
    · rw [if_pos hm] at h
      obtain ⟨e1, e2⟩ := e6 (Option.some.inj h)
      rw [← e1, ← e2]
      exact mn k a0 x y true p q w hG h1 h2 h3 hm
    · rw [if_neg hm] at h
      by_cases hl : p.length + q.length < 8
      · rw [if_pos hl] at h
        obtain ⟨e1, e2⟩ := e6 (Option.some.inj h)
        rw [← e1, ← e2]
        by_cases h0 : q.length = 0
        · have := kN k a0 x y true p q w hG h1 h2 h3 (by omega) h0
          obtain rfl : q = [] := List.eq_nil_of_length_eq_zero h0
          have e : ax (ax ag 0 p 8) (8 - 0) [] 0 = ax (ax ag 0 p 8) 0 [] 0 := by
           generalize ax ag 0 p 8 = l
           unfold ax
           simp
          simp only [List.length_nil]
          rw [e]
          exact this
        · have := lP k a0 x y true p q w hG h1 h2 h3 hl (8 - q.length) (by omega) (by omega)
          rw [show 8 - (8 - q.length) = q.length from by omega] at this
          exact this
      · rw [if_neg hl] at h; cases h
end Go.Proofs.YtojdiklegmhakaaDoor.X
