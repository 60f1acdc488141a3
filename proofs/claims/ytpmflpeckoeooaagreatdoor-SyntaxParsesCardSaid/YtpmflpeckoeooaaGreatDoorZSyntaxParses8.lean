/- Texts that the law's proof needs, joined by a program of this session. -/
import Derived.Test.YtpmflpeckoeooaaGreatDoorZSyntaxParses1
import Derived.Test.YtpmflpeckoeooaaGreatDoorZSyntaxParses2
import Derived.Test.YtpmflpeckoeooaaGreatDoorZSyntaxParses7
set_option maxHeartbeats 8000000
set_option maxRecDepth 100000
set_option linter.unusedSimpArgs false
set_option linter.unusedVariables false
namespace Go.Proofs.YtpmflpeckoeooaaGreatDoor.X
open Go.RowKit Go.Proofs.YtpmflpeckoeooaaGreatDoorW.PrintWords Go.Proofs.YtpmflpeckoeooaaGreatDoorW.PrintLast Go.Proofs.YtpmflpeckoeooaaGreatDoorW.PrintMore
attribute [local go_sem] ez ea gJ iY dq ir cv ia ic iU iV gz gA ib ie
mutual
def fa : Nat → Int → Bool → Int → Bool → Option (Bool)
  | 0, _, _, _, _ => none
  | k + 1, x0, x1, x2, x12 => if x12 = true then ((bX k x0 ((x2) % 256)).bind fun t559 => (some t559)) else (if x1 = true then (if x0 < 1 then (cK k x0 x2 true) else (cK k x0 x2 (decide (x0 > 7)))) else (cK k x0 x2 true))
def cK : Nat → Int → Int → Bool → Option (Bool)
  | 0, _, _, _ => none
  | k + 1, x0, x2, x26 => if x26 = true then (some false) else ((fD k x2).bind fun t560 => (if t560 = true then (some true) else (if x0 = 6 then ((fh x2).bind fun t561 => (some t561)) else (some false))))
end
def gC (k : Nat) (a0 : Int) (a1 : Bool) (a2 : Int) : Option (Bool) := if a2 ≥ 0 then (fa k a0 a1 a2 (decide (a2 < 128))) else (fa k a0 a1 a2 false)
theorem j7 (k : Nat) (a0 : Int) (a1 : Bool) (a2 : Int) (r : Bool) (w : World) (h : gC k a0 a1 a2 = some r) :
    Calls Tryz.prog 68 #[.int .i64 a0, .bool a1, .int .i64 a2] w fun e w' => e = .returned (.bool r) ∧ Below w.heap.size w w' := by
 have HB := Zz.mk (Below.refl w.heap.size w)
 have H := h
 clear h
 unfold gC at H
 have Ag := Zz.mk H
 clear H
 go_enter Tryz.func68, Tryz.ntmps68
 go_upto_region 1 with (fail)
 go_cut [12] (fun v12 wc => ∃ kq Ab, v12 = .bool Ab ∧ Zz (fa kq a0 a1 a2 Ab = some r) ∧ Zz (kq ≤ k) ∧ Zz (Below w.heap.size w wc))
 case first => (
 have H := Ag.out
 clear Ag
 refine xid H ?_ ?_ <;> clear H <;> intro c5 H
 {
 have Ac := xdt c5
 clear c5
 (first | rw [Ac] | (simp only [ag, ak]; rw [Ac]) | skip)
 replace H := xa H
 go_wp2
 go_meet
 case rel => exact ⟨_, (decide (a2 < 128)), xrr, H, ⟨xom⟩, ⟨xbl⟩⟩
 }
 have Ac := xdf c5
 clear c5
 (first | rw [Ac] | (simp only [ag, ak]; rw [Ac]) | skip)
 replace H := xa H
 go_wp2
 go_meet
 case rel => exact ⟨_, (false), xrr, H, ⟨xom⟩, ⟨xbl⟩⟩
 )
 case rest => (
 clear Ag
 obtain ⟨kq, Ab, rfl, HA, HJ3, HB⟩ := hcut
 cases kq with
 | zero => exact absurd HA.out (by simp [fa])
 | succ kj3 => (
 have H := HA.out
 clear HA
 simp only [fa] at H
 refine xib H ?_ ?_ <;> clear H <;> rintro rfl H
 {
 replace H := xbd H
 obtain ⟨Ai, A7, H⟩ := H
 try dsimp only at H
 obtain rfl := Option.some.inj H
 go_wp2_with (first | ((with_reducible refine xgc (f := 87) rfl ?_); refine xca 16 Tryz.func87 (mh (w := _) (h := A7.out)) ?_; rintro w8 hb; replace HB := xst hb; (try clear hb)))
 go_ret
 exact ⟨xre, xbl⟩
 }
 have Ah := Zz.mk H
 clear H
 go_upto_region 3 with (fail)
 go_cut [26] (fun v26 wc => ∃ kq Ad, v26 = .bool Ad ∧ Zz (cK kq a0 a2 Ad = some r) ∧ Zz (kq ≤ kj3) ∧ Zz (Below w.heap.size w wc))
 case first => (
 have H := Ah.out
 clear Ah
 refine xib H ?_ ?_ <;> clear H <;> rintro rfl H
 {
 refine xid H ?_ ?_ <;> clear H <;> intro c11 H
 {
 have Aa := xdt c11
 clear c11
 (first | rw [Aa] | (simp only [ag, ak]; rw [Aa]) | skip)
 replace H := xa H
 go_wp2
 go_meet
 case rel => exact ⟨_, (true), xrr, H, ⟨xoj HJ3⟩, ⟨xbl⟩⟩
 }
 have Aa := xdf c11
 clear c11
 (first | rw [Aa] | (simp only [ag, ak]; rw [Aa]) | skip)
 replace H := xa H
 go_wp2
 go_meet
 case rel => exact ⟨_, (decide (a0 > 7)), xrr, H, ⟨xoj HJ3⟩, ⟨xbl⟩⟩
 }
 replace H := xa H
 go_wp2
 go_meet
 case rel => exact ⟨_, (true), xrr, H, ⟨xoj HJ3⟩, ⟨xbl⟩⟩
 )
 case rest => (
 clear Ah
 obtain ⟨kq, Ad, rfl, HA, HJ8, HB⟩ := hcut
 cases kq with
 | zero => exact absurd HA.out (by simp [cK])
 | succ kj8 => (
 have H := HA.out
 clear HA
 simp only [cK] at H
 refine xib H ?_ ?_ <;> clear H <;> rintro rfl H
 {
 obtain rfl := Option.some.inj H
 go_wp2
 go_ret
 exact ⟨xre, xbl⟩
 }
 replace H := xbd H
 obtain ⟨Aj, A13, H⟩ := H
 try dsimp only at H
 refine xib H ?_ ?_ <;> clear H <;> rintro rfl H
 {
 obtain rfl := Option.some.inj H
 go_wp2_with (first | ((with_reducible refine xgc (f := 88) rfl ?_); refine xca 28 Tryz.func88 (gZ (w := _) (h := A13.out)) ?_; rintro w' ⟨nd, rfl⟩))
 go_ret
 exact ⟨xre, xbl⟩
 }
 refine xid H ?_ ?_ <;> clear H <;> intro c15 H
 {
 obtain ⟨Ae, Af⟩ := xqe c15
 clear c15
 replace H := xbd H
 obtain ⟨Ak, A16, H⟩ := H
 try dsimp only at H
 obtain rfl := Option.some.inj H
 go_wp2_with (first | ((with_reducible refine xgc (f := 88) rfl ?_); refine xca 28 Tryz.func88 (gZ (w := _) (h := A13.out)) ?_; rintro w' ⟨nd, rfl⟩) | (go_at_call 89; (with_reducible refine (lw (w := _) (h := A16.out)).mono ?_); rintro e w' ⟨rfl, ⟨nd, rfl⟩⟩))
 go_ret
 exact ⟨xre, xbl⟩
 }
 obtain ⟨Ae, Af⟩ := xqn c15
 obtain rfl := Option.some.inj H
 go_wp2_with (first | ((with_reducible refine xgc (f := 88) rfl ?_); refine xca 28 Tryz.func88 (gZ (w := _) (h := A13.out)) ?_; rintro w' ⟨nd, rfl⟩))
 go_ret
 exact ⟨xre, xbl⟩
 )
 )
 )
 )
def da : Nat → Int → Bool → ByteArray → Int → Bool → Option (Int)
  | 0, _, _, _, _, _ => none
  | k + 1, x0, x1, x2, x3, Ad => if Ad = true then (some 0) else ((gW k x2 x3).bind fun Ab => (if Ab ≥ 0 then (some 3) else (if 0 ≤ x3 then (if x3 ≤ (x2.size : Int) then ((ep k (x2.extract (x3 : Int).toNat x2.size)).bind fun Aa => (if Aa.2.2 = true then ((gC k x0 x1 Aa.1).bind fun Ac => (if Ac = true then (some Aa.2.1) else (some 0))) else (some 0))) else (none)) else (none))))
def fb (k : Nat) (a0 : Int) (a1 : Bool) (a2 : ByteArray) (a3 : Int) : Option (Int) := if a0 < 1 then (da k a0 a1 a2 a3 true) else (da k a0 a1 a2 a3 (decide (a0 > 7)))
theorem iw (k : Nat) (a0 : Int) (a1 : Bool) (a2 : ByteArray) (a3 : Int) (r : Int) (w : World) (h : fb k a0 a1 a2 a3 = some r) :
    Calls Tryz.prog 55 #[.int .i64 a0, .bool a1, .string a2, .int .i64 a3] w fun e w' => e = .returned (.int .i64 r) ∧ Below w.heap.size w w' := by
 have hu41 := Tryz.underlying41
 have HB := Zz.mk (Below.refl w.heap.size w)
 have H := h
 clear h
 unfold fb at H
 have Aj := Zz.mk H
 clear H
 go_enter Tryz.func55, Tryz.ntmps55
 go_upto_region 1 with (fail)
 go_cut [15] (fun v15 wc => ∃ kq Ad, v15 = .bool Ad ∧ Zz (da kq a0 a1 a2 a3 Ad = some r) ∧ Zz (kq ≤ k) ∧ Zz (Below w.heap.size w wc))
 case first => (
 have H := Aj.out
 clear Aj
 refine xid H ?_ ?_ <;> clear H <;> intro c6 H
 {
 have Ae := xdt c6
 clear c6
 (first | rw [Ae] | (simp only [ag, ak]; rw [Ae]) | skip)
 replace H := xa H
 go_wp2
 go_meet
 case rel => exact ⟨_, (true), xrr, H, ⟨xom⟩, ⟨xbl⟩⟩
 }
 have Ae := xdf c6
 clear c6
 (first | rw [Ae] | (simp only [ag, ak]; rw [Ae]) | skip)
 replace H := xa H
 go_wp2
 go_meet
 case rel => exact ⟨_, (decide (a0 > 7)), xrr, H, ⟨xom⟩, ⟨xbl⟩⟩
 )
 case rest => (
 clear Aj
 obtain ⟨kq, Ad, rfl, HA, HJ4, HB⟩ := hcut
 cases kq with
 | zero => exact absurd HA.out (by simp [da])
 | succ kj4 => (
 have H := HA.out
 clear HA
 simp only [da] at H
 refine xib H ?_ ?_ <;> clear H <;> rintro rfl H
 {
 obtain rfl := Option.some.inj H
 go_wp2
 go_ret
 exact ⟨xre, xbl⟩
 }
 replace H := xbd H
 obtain ⟨Ap, A8, H⟩ := H
 try dsimp only at H
 refine xid H ?_ ?_ <;> clear H <;> intro c9 H
 {
 have Ak := xdt c9
 clear c9
 obtain rfl := Option.some.inj H
 go_wp2_with (first | ((with_reducible refine xgc (f := 67) rfl ?_); refine xca 18 Tryz.func67 (gM (w := _) (h := A8.out)) ?_; rintro w' ⟨nd, rfl⟩))
 go_ret
 exact ⟨xre, xbl⟩
 }
 have Ak := xdf c9
 clear c9
 refine xin H ?_; clear H; intro c10 H
 obtain ⟨Al, Am⟩ := xcp c10
 clear c10
 refine xin H ?_; clear H; intro c11 H
 obtain ⟨An, Ao⟩ := xcp c11
 clear c11
 obtain ⟨Aq, Aa⟩ : ∃ j_ : ByteArray, (a2.extract (a3 : Int).toNat a2.size) = j_ := ⟨_, rfl⟩
 try (have Ag := Aa; simp only [Int.toNat_natCast] at Ag)
 first | rw [Aa] at H | simp only [Aa] at H | skip
 (try rw [Aa] at A8)
 replace H := xbd H
 obtain ⟨⟨Ah, Ai, Ar⟩, A13, H⟩ := H
 try dsimp only at H
 refine xib H ?_ ?_ <;> clear H <;> rintro rfl H
 {
 replace H := xbd H
 obtain ⟨As, A15, H⟩ := H
 try dsimp only at H
 refine xib H ?_ ?_ <;> clear H <;> rintro rfl H
 {
 obtain rfl := Option.some.inj H
 go_wp2_with (first | ((with_reducible refine xgc (f := 67) rfl ?_); refine xca 18 Tryz.func67 (gM (w := _) (h := A8.out)) ?_; rintro w' ⟨nd, rfl⟩; (try (rw [aW wc]; generalize hq_ : World.drewN wc _ = wc; have n0_ : Zz (Below w.heap.size w wc) := ⟨by rw [← hq_]; exact xbl⟩; clear HB hq_; have HB := n0_; clear n0_))) | ((with_reducible refine xgc (f := 20) rfl ?_); refine xca 23 Tryz.func20 (em (w := _) (h := A13.out)) ?_ (hargs := by (try simp only [xm1, xm2, xm3]); first | done | (simp only [Aa]; rfl) | rfl); rintro w17 hb; replace HB := xst hb; (try clear hb)) | ((with_reducible refine aj (N := 9) rfl ?_); refine xew 9 ?_; intro Ac w18 Ab Af hb hg; replace HB := xst hb; clear hb hg; have At := xz3 Ab.out) | (go_at_call 68; (with_reducible refine (j7 (w := _) (h := A15.out)).mono ?_); rintro e w20 ⟨rfl, hb⟩; replace Ab := xbb (g := Ac) (o := .cells #[.int .i64 Ah, .int .i64 Ai, .bool true] 41 (0, 0)) hb; replace HB := xst hb; (try clear hb); have Au := xz3 Ab.out))
 go_ret
 exact ⟨by first | exact xrd | (simp only [← Aa]; exact xrd) | exact xre, xbl⟩
 }
 obtain rfl := Option.some.inj H
 go_wp2_with (first | ((with_reducible refine xgc (f := 67) rfl ?_); refine xca 18 Tryz.func67 (gM (w := _) (h := A8.out)) ?_; rintro w' ⟨nd, rfl⟩; (try (rw [aW wc]; generalize hq_ : World.drewN wc _ = wc; have n0_ : Zz (Below w.heap.size w wc) := ⟨by rw [← hq_]; exact xbl⟩; clear HB hq_; have HB := n0_; clear n0_))) | ((with_reducible refine xgc (f := 20) rfl ?_); refine xca 23 Tryz.func20 (em (w := _) (h := A13.out)) ?_ (hargs := by (try simp only [xm1, xm2, xm3]); first | done | (simp only [Aa]; rfl) | rfl); rintro w22 hb; replace HB := xst hb; (try clear hb)) | ((with_reducible refine aj (N := 9) rfl ?_); refine xew 9 ?_; intro Ac w23 Ab Af hb hg; replace HB := xst hb; clear hb hg; have Av := xz3 Ab.out) | (go_at_call 68; (with_reducible refine (j7 (w := _) (h := A15.out)).mono ?_); rintro e w25 ⟨rfl, hb⟩; replace Ab := xbb (g := Ac) (o := .cells #[.int .i64 Ah, .int .i64 Ai, .bool true] 41 (0, 0)) hb; replace HB := xst hb; (try clear hb)))
 go_ret
 exact ⟨by first | exact xrd | (simp only [← Aa]; exact xrd) | exact xre, xbl⟩
 }
 obtain rfl := Option.some.inj H
 go_wp2_with (first | ((with_reducible refine xgc (f := 67) rfl ?_); refine xca 18 Tryz.func67 (gM (w := _) (h := A8.out)) ?_; rintro w' ⟨nd, rfl⟩; (try (rw [aW wc]; generalize hq_ : World.drewN wc _ = wc; have n0_ : Zz (Below w.heap.size w wc) := ⟨by rw [← hq_]; exact xbl⟩; clear HB hq_; have HB := n0_; clear n0_))) | ((with_reducible refine xgc (f := 20) rfl ?_); refine xca 23 Tryz.func20 (em (w := _) (h := A13.out)) ?_ (hargs := by (try simp only [xm1, xm2, xm3]); first | done | (simp only [Aa]; rfl) | rfl); rintro w26 hb; replace HB := xst hb; (try clear hb)) | ((with_reducible refine aj (N := 9) rfl ?_); refine xew 9 ?_; intro Ac w27 Ab Af hb hg; replace HB := xst hb; clear hb hg; have Aw := xz3 Ab.out))
 go_ret
 exact ⟨by first | exact xrd | (simp only [← Aa]; exact xrd) | exact xre, xbl⟩
 )
 )
def dU : Nat → Int → Bool → ByteArray → Int → Option (Int)
  | 0, _, _, _, _ => none
  | k + 1, x0, x1, x2, x7 => if x7 < (x2.size : Int) then ((fb k x0 x1 x2 x7).bind fun t568 => (if t568 > 0 then ((fb k x0 x1 x2 x7).bind fun t569 => (dU k x0 x1 x2 (wrap64 (x7 + t569)))) else (some x7))) else (some x7)
def co (k : Nat) (a0 : Int) (a1 : Bool) (a2 : ByteArray) : Option (Int) := dU k a0 a1 a2 0
theorem bQ (k : Nat) (a0 : Int) (a1 : Bool) (a2 : ByteArray) (r : Int) (w : World) (h : co k a0 a1 a2 = some r) :
    Calls Tryz.prog 40 #[.int .i64 a0, .bool a1, .string a2] w fun e w' => e = .returned (.int .i64 r) ∧ Below w.heap.size w w' := by
 have HB := Zz.mk (Below.refl w.heap.size w)
 have H := h
 clear h
 unfold co at H
 have H' := Zz.mk H
 clear H
 go_enter Tryz.func40, Tryz.ntmps40
 go_wp2
 go_loopg [7] k (fun kq v7 w' => ∃ Aa, v7 = .int .i64 Aa ∧ Zz (dU kq a0 a1 a2 Aa = some r) ∧ Zz (kq ≤ k) ∧ Zz (Below w.heap.size w w'))
 case atStart => exact ⟨(0), xrr, H', ⟨Nat.le_refl _⟩, ⟨xbl⟩⟩
 case round => (
 clear H'
 obtain ⟨Aa, rfl, HA, HK1, HB⟩ := hrel
 cases gk with
 | zero => exact absurd HA.out (by simp [dU])
 | succ k1 => (
 have H := HA.out
 clear HA
 simp only [dU] at H
 refine xid H ?_ ?_ <;> clear H <;> intro c4 H
 {
 have Ab := xdt c4
 clear c4
 replace H := xbd H
 obtain ⟨Ae, A5, H⟩ := H
 try dsimp only at H
 refine xid H ?_ ?_ <;> clear H <;> intro c6 H
 {
 have Ac := xdt c6
 clear c6
 replace H := xbd H
 obtain ⟨Ad, A7, H⟩ := H
 try dsimp only at H
 replace H := xa H
 go_wp2_with (first | (go_at_call 55; (with_reducible refine (iw (w := _) (h := A5.out)).mono ?_); rintro e w8 ⟨rfl, hb⟩; replace HB := xst hb; (try clear hb)) | ((with_reducible refine xgc (f := 55) rfl ?_); refine xca 25 Tryz.func55 (iw (w := _) (h := A7.out)) ?_; rintro w9 hb; replace HB := xst hb; (try clear hb)))
 go_roundg k1
 case measure => have := HK1.out; omega
 case rel => exact ⟨(wrap64 (Aa + Ad)), xrr, H, ⟨by have := HK1.out; omega⟩, ⟨xbl⟩⟩
 }
 have Ac := xdf c6
 clear c6
 obtain rfl := Option.some.inj H
 go_wp2_with (first | (go_at_call 55; (with_reducible refine (iw (w := _) (h := A5.out)).mono ?_); rintro e w10 ⟨rfl, hb⟩; replace HB := xst hb; (try clear hb)))
 go_ret
 exact ⟨xre, xbl⟩
 }
 have Ab := xdf c4
 clear c4
 obtain rfl := Option.some.inj H
 go_wp2
 go_ret
 exact ⟨xre, xbl⟩
 )
 )
def eH : Nat → ByteArray → Int → Int → Option (Int)
  | 0, _, _, _ => none
  | k + 1, x0, x1, x5 => if x5 < (x0.size : Int) then (if 0 ≤ x5 then ((bH k (bt x0 x5)).bind fun t570 => (if (Go.bits .and .i64 t570 x1) = 0 then (some x5) else (eH k x0 x1 (wrap64 (x5 + 1))))) else (none)) else (some x5)
def gb (k : Nat) (a0 : ByteArray) (a1 : Int) : Option (Int) := eH k a0 a1 0
theorem jO (k : Nat) (a0 : ByteArray) (a1 : Int) (r : Int) (w : World) (h : gb k a0 a1 = some r) :
    Calls Tryz.prog 65 #[.string a0, .int .i64 a1] w fun e w' => e = .returned (.int .i64 r) ∧ Drawn0 w w' := by
 have H := h
 clear h
 unfold gb at H
 have H' := Zz.mk H
 clear H
 go_enter Tryz.func65, Tryz.ntmps65
 go_wp2
 go_loopg [5] k (fun kq v5 w' => ∃ Aa, v5 = .int .i64 Aa ∧ Zz (eH kq a0 a1 Aa = some r) ∧ Zz (kq ≤ k) ∧ Drawn0 w w')
 case atStart => exact ⟨(0), xrr, H', ⟨Nat.le_refl _⟩, xdr⟩
 case round => (
 clear H'
 obtain ⟨Aa, rfl, HA, HK1, ⟨m1, rfl⟩⟩ := hrel
 cases gk with
 | zero => exact absurd HA.out (by simp [eH])
 | succ k1 => (
 have H := HA.out
 clear HA
 simp only [eH] at H
 refine xid H ?_ ?_ <;> clear H <;> intro c3 H
 {
 have Ab := xdt c3
 clear c3
 refine xin H ?_; clear H; intro c4 H
 have Ae := xdt c4
 clear c4
 replace H := xbd H
 obtain ⟨Af, A6, H⟩ := H
 try dsimp only at H
 refine xid H ?_ ?_ <;> clear H <;> intro c7 H
 {
 obtain ⟨Ac, Ad⟩ := xqe c7
 clear c7
 obtain rfl := Option.some.inj H
 obtain ⟨p5, q5, hx5⟩ := xiv a0 Aa xod xod
 go_wp2_with (first | (go_at_call 51; (with_reducible refine (aV (w := _) (h := A6.out)).mono ?_); rintro e w' ⟨rfl, ⟨nd, rfl⟩⟩))
 go_ret
 exact ⟨xrr, xdr⟩
 }
 obtain ⟨Ac, Ad⟩ := xqn c7
 replace H := xa H
 obtain ⟨p5, q5, hx5⟩ := xiv a0 Aa xod xod
 go_wp2_with (first | (go_at_call 51; (with_reducible refine (aV (w := _) (h := A6.out)).mono ?_); rintro e w' ⟨rfl, ⟨nd, rfl⟩⟩))
 go_roundg k1
 case measure => have := HK1.out; omega
 case rel => exact ⟨(wrap64 (Aa + 1)), xrr, H, ⟨by have := HK1.out; omega⟩, xdr⟩
 }
 have Ab := xdf c3
 clear c3
 obtain rfl := Option.some.inj H
 go_wp2
 go_ret
 exact ⟨xrr, xdr⟩
 )
 )
def bm : Nat → ByteArray → Int → List ByteArray → Int → Option (List ByteArray)
  | 0, _, _, _, _ => none
  | k + 1, x0, x1, x5, x6 => if x6 < (x0.size : Int) then (if 0 ≤ x6 then (if (bt x0 x6) = x1 then (if x5.length < 8796093022208 then (bm k x0 x1 (x5 ++ [(⟨#[]⟩ : ByteArray)]) (wrap64 (x6 + 1))) else (none)) else (if 0 ≤ (wrap64 ((x5.length : Int) - 1)) then (if (wrap64 ((x5.length : Int) - 1)) < (x5.length : Int) then (if x6 ≤ (wrap64 (x6 + 1)) then (if (wrap64 (x6 + 1)) ≤ (x0.size : Int) then (if (eW ByteArray.empty x5 (wrap64 ((x5.length : Int) - 1))).size + (x0.extract (x6 : Int).toNat ((wrap64 (x6 + 1)) : Int).toNat).size ≤ 9223372036854775807 then (bm k x0 x1 (x5.set ((wrap64 ((x5.length : Int) - 1)) : Int).toNat ((eW ByteArray.empty x5 (wrap64 ((x5.length : Int) - 1))) ++ (x0.extract (x6 : Int).toNat ((wrap64 (x6 + 1)) : Int).toNat))) (wrap64 (x6 + 1))) else (none)) else (none)) else (none)) else (none)) else (none))) else (none)) else (some x5)
def eJ (k : Nat) (a0 : ByteArray) (a1 : Int) : Option (List ByteArray) := bm k a0 a1 (([(⟨#[]⟩ : ByteArray)] : List ByteArray)) 0
theorem ig (k : Nat) (a0 : ByteArray) (a1 : Int) (r : List ByteArray) (w : World) (h : eJ k a0 a1 = some r) :
    Calls Tryz.prog 101 #[.string a0, .int .u8 a1] w fun e w' => ∃ v0_ : Value, e = .returned (v0_) ∧ Kd.R Kd.string 9 w' w.heap.size (fun _ => True) v0_ r ∧ Below w.heap.size w w' := by
 have HB := Zz.mk (Below.refl w.heap.size w)
 have H := h
 clear h
 unfold eJ at H
 obtain ⟨Ar, Af⟩ : ∃ y_ : List ByteArray, y_ = (([(⟨#[]⟩ : ByteArray)] : List ByteArray)) := ⟨_, rfl⟩
 replace H : (bm k a0 a1 Ar 0) = some r := by first | (rw [Af]; with_reducible exact H) | (have H2_ := (Option.bind_some _ _).symm.trans H; rw [Af]; with_reducible exact H2_) | (have H2_ := (Option.bind_some _ _).symm.trans H; with_reducible exact H2_) | with_reducible exact H | (rw [Af]; exact H) | exact H
 have Am := Zz.mk Af
 clear Af
 have H' := Zz.mk H
 clear H
 go_enter Tryz.func101, Tryz.ntmps101
 go_wp2_with (first | ((with_reducible refine aj (N := 7) rfl ?_); refine Kd.R_lit Kd.string _ 9 ?hg (N := 7) ?hd (xs := ([(⟨#[]⟩ : ByteArray)] : List ByteArray)) (inner := [.string (⟨#[]⟩ : ByteArray)]) (ok := fun _ => True) (okp := fun _ => True) ?hr ?hp (fun _ hk => hk) trivial (Below.refl _ _) (Nat.le_refl _) (by simp) ?_; (case hd => rfl); (case hg => rfl); (case hr => first | (go_simp; done) | (go_simp; rfl)); (case hp => exact (Reps.one (show Kd.M Kd.string _ _ _ (⟨#[]⟩ : ByteArray) [.string (⟨#[]⟩ : ByteArray)] from rfl) (Reps.none _ _))); intro v572 w3 ho4 hb hg_ hnew_; clear hg_ hnew_; (first | rw [← Am.out] at ho4 | (simp only [Int.reduceToNat] at ho4; rw [← Am.out] at ho4)); have As := Zz.mk (Kd.R_lower ho4 (aq xbl)); replace HB := xst hb; clear hb ho4))
 go_loopg [5, 6] k (fun kq v5 v6 w' => ∃ (Aa : List ByteArray) (Ac : Int), v6 = .int .i64 Ac ∧ Zz (bm kq a0 a1 Aa Ac = some r) ∧ Zz (kq ≤ k) ∧ Zz (Kd.R Kd.string 9 w' w.heap.size (fun _ => True) v5 Aa) ∧ Zz (Below w.heap.size w w'))
 case atStart => exact ⟨(Ar), (0), xrr, H', ⟨Nat.le_refl _⟩, ⟨xkd As⟩, ⟨xbl⟩⟩
 case round => (
 clear H'
 obtain ⟨Aa, Ac, rfl, HA, HK1, Ad, HB⟩ := hrel
 cases gk with
 | zero => exact absurd HA.out (by simp [bm])
 | succ k1 => (
 have H := HA.out
 clear HA
 simp only [bm] at H
 refine xid H ?_ ?_ <;> clear H <;> intro c5 H
 {
 have AA := xdt c5
 clear c5
 refine xin H ?_; clear H; intro c6 H
 have AR := xdt c6
 clear c6
 refine xid H ?_ ?_ <;> clear H <;> intro c8 H
 {
 obtain ⟨AB, AC⟩ := xqe c8
 clear c8
 refine xin H ?_; clear H; intro c9 H
 have LMc9 := Zz.mk c9
 clear c9
 obtain ⟨At, Ag⟩ : ∃ y_ : List ByteArray, y_ = (Aa ++ [(⟨#[]⟩ : ByteArray)]) := ⟨_, rfl⟩
 replace H : (bm k1 a0 a1 At (wrap64 (Ac + 1))) = some r := by first | (rw [Ag]; with_reducible exact H) | (have H2_ := (Option.bind_some _ _).symm.trans H; rw [Ag]; with_reducible exact H2_) | (have H2_ := (Option.bind_some _ _).symm.trans H; with_reducible exact H2_) | with_reducible exact H | (rw [Ag]; exact H) | exact H
 have Au := Zz.mk Ag
 clear Ag
 replace H := xa H
 obtain ⟨p7, q7, hx7⟩ := xiv a0 Ac xod xod
 go_wp2_with (first | ((with_reducible refine gx (b := .append) (xs := #[.tmp 19, .tmp 20]) rfl ?_); at_builtin; refine Kd.R_append Kd.string (w0 := w) w.heap.size rfl (.tmp 19) (.tmp 20) 123 9 (.string ⟨#[]⟩) 16 rfl Tryz.underlying123 yY rfl (by decide) (by omega) u5 Aa (⟨#[]⟩ : ByteArray) [.string (⟨#[]⟩ : ByteArray)] (fun _ => True) (fun _ => False) rfl rfl ?aP (fun _ hk => hk.elim) ?aF ?aO ?aB ?aS ?aL ?_; (case aP => exact rfl); (case aB => exact xbl); (case aF => exact (fun _ _ => trivial)); (case aO => exact (xkd Ad)); (case aS => exact (aq xbl)); (case aL => have := LMc9.out; first | omega | exact Nat.le_of_lt this); intro v575 w10 ho hb hg hat; rw [← Au.out] at ho; have n0_ := Zz.mk (hb); have n1_ := Zz.mk (ho); clear HB; clear Ad; have HB := n0_; have Av := n1_; clear n0_ n1_; clear ho hb hg hat))
 go_roundg k1
 case measure => have := HK1.out; omega
 case rel => exact ⟨(At), (wrap64 (Ac + 1)), xrr, H, ⟨by have := HK1.out; omega⟩, ⟨xkd Av⟩, ⟨xbl⟩⟩
 }
 obtain ⟨AB, AC⟩ := xqn c8
 obtain ⟨Ab, Aj⟩ : ∃ j_ : Int, (wrap64 ((Aa.length : Int) - 1)) = j_ := ⟨_, rfl⟩
 first | rw [Aj] at H | simp only [Aj] at H | skip
 have AD : (IntKind.i64.wrap ((Aa.length : Int) - 1)) = Ab := (ag _).trans Aj
 refine xin H ?_; clear H; intro c12 H
 have AG := xdt c12
 clear c12
 refine xin H ?_; clear H; intro c13 H
 have AH := xdt c13
 clear c13
 have AI := eq_true (xod : 0 ≤ Ac)
 obtain ⟨Al, Ah⟩ : ∃ j_ : Int, (wrap64 (Ac + 1)) = j_ := ⟨_, rfl⟩
 first | rw [Ah] at H | simp only [Ah] at H | skip
 have AE : (IntKind.i64.wrap (Ac + 1)) = Al := (ag _).trans Ah
 refine xin H ?_; clear H; intro c16 H
 obtain ⟨AJ, AK⟩ := xcp c16
 clear c16
 refine xin H ?_; clear H; intro c17 H
 obtain ⟨AL, AM⟩ := xcp c17
 clear c17
 obtain ⟨An, Ak⟩ : ∃ j_ : ByteArray, (a0.extract (Ac : Int).toNat ((Al) : Int).toNat) = j_ := ⟨_, rfl⟩
 try (have Ao := Ak; simp only [Int.toNat_natCast] at Ao)
 first | rw [Ak] at H | simp only [Ak] at H | skip
 refine xin H ?_; clear H; intro c19 H
 obtain ⟨AN, AO⟩ := xcp c19
 try have AP : (9223372036854775807 < (eW ByteArray.empty Aa (Ab)).size + (An).size) = False := eq_false (Nat.not_lt.2 c19)
 obtain ⟨Aw, Ai⟩ : ∃ y_ : List ByteArray, y_ = (Aa.set ((Ab) : Int).toNat ((eW ByteArray.empty Aa (Ab)) ++ (An))) := ⟨_, rfl⟩
 replace H : (bm k1 a0 a1 Aw Al) = some r := by first | (rw [Ai]; with_reducible exact H) | (have H2_ := (Option.bind_some _ _).symm.trans H; rw [Ai]; with_reducible exact H2_) | (have H2_ := (Option.bind_some _ _).symm.trans H; with_reducible exact H2_) | with_reducible exact H | (rw [Ai]; exact H) | exact H
 have Ax := Zz.mk Ai
 clear Ai
 replace H := xa H
 obtain ⟨p7, q7, hx7⟩ := xiv a0 Ac xod xod
 try go_wp2
 replace Ad := Zz.mk (Kd.R_drew Ad.out)
 replace HB := Zz.mk (aA HB.out)
 obtain ⟨Ao22, co22, eo22⟩ := Kd.R_slice Ad.out
 (first | subst eo22 | (injection eo22 with f1_ f2_ f3_; have f4_ := f1_.symm; have f5_ := f3_.symm; clear f1_ f2_ f3_; subst f4_; subst f5_))
 have p577 : 0 ≤ ((Ab) : Int) := xod
 have q577 : (Ab) < (Aa.length : Int) := xod
 obtain ⟨AQ, e577, Ae⟩ := Kd.at_string (Kd.R_reads' Ad.out).2.2 (Ab) p577 q577
 cases e577
 replace p577 := eq_true p577
 replace q577 := eq_true q577
 try (have Ay := q577; simp only [ByteArray.size_extract, Nat.min_self] at Ay)
 have p20 : 0 ≤ ((Ab) : Int) := xod
 have q20 : ((Ab) : Int) < ((Aa.length : Int) : Int) := xod
 obtain ⟨go20, co20, eo20, Az, gl20, cl20, HG20⟩ := Kd.R_form Ad.out (by omega)
 (first | cases eo20 | (injection eo20 with ea_ en_ ec_; (first | subst ea_ | (injection ea_ with ea_; subst ea_)); subst ec_; clear en_))
 have GB20 := Zz.mk Az
 have GG20 := Zz.mk HG20
 clear Az gl20 HG20
 (first | simp only [qj] at Ae | skip)
 obtain ⟨Ap, Aq⟩ := Kd.R_celln (⟨#[]⟩ : ByteArray) Ad.out ((Ab) : Int) p20 q20
 replace p20 := eq_true p20
 replace q20 := eq_true q20
 try (have AF := q20; simp only [ByteArray.size_extract, Nat.min_self] at AF)
 have HP23 := Kd.R_putn Ad.out ((Ab) : Int) ((eW ByteArray.empty Aa (Ab)) ++ (An))
 rw [← Ax.out] at HP23
 have HQ23 := Zz.mk HP23
 clear HP23
 refine xsr 14 (S := fun w' => w'.cell? ⟨go20, ((Ab)).toNat, none⟩ = some (.string (eW ByteArray.empty Aa (Ab)))) [13] Ae (fun hHeld => ?_)
 generalize wr.drew = w21 at Ad HB GG20 HQ23 Aq Ap Ae hHeld ⊢
 refine xpu 0 22 ?_
 refine xpu 1 23 ?_
 refine xpu 2 24 ?_
 refine xpu 3 25 ?_
 refine xpu 4 26 ?_
 refine xpu 6 28 ?_
 refine xpu 7 29 ?_
 refine xpu 8 30 ?_
 refine xpu 9 31 ?_
 refine xpu 10 32 ?_
 refine xtk 5 27 ?_
 refine xpu 11 33 ?_
 refine xpu 12 34 ?_
 refine xls 13 ?_
 refine xdn ?_
 try go_wp2
 first | go_roundg k1 | (simp only [← Aj, ← Ah, ← Ak]; go_roundg k1)
 case measure => have := HK1.out; omega
 case rel => exact ⟨(Aw), (Al), (by first | exact xrs | (simp only [← Ah] <;> (first | rfl | simp)) | exact xrr), H, ⟨by have := HK1.out; omega⟩, ⟨xkd HQ23⟩, ⟨xbl⟩⟩
 }
 have AA := xdf c5
 clear c5
 obtain rfl := Option.some.inj H
 go_wp2
 go_ret
 exact ⟨_, by first | rfl | (simp [b7, b8] <;> first | rfl | (simp only [fx, bne, Bool.not_not]; done)) | (simp [*, b7, b8] <;> rfl), by (with_reducible repeat (first | apply Kd.R_alloc | apply Kd.R_drewN | apply Kd.R_drew)); exact Ad.out, xbl⟩
 )
 )
def bi : Nat → Int → Option (ByteArray)
  | 0, _ => none
  | k + 1, a0 => if a0 < 10 then (if 0 ≤ a0 then (if a0 ≤ (wrap64 (a0 + 1)) then (if (wrap64 (a0 + 1)) ≤ 10 then (some ((⟨#[48, 49, 50, 51, 52, 53, 54, 55, 56, 57]⟩ : ByteArray).extract (a0 : Int).toNat ((wrap64 (a0 + 1)) : Int).toNat)) else (none)) else (none)) else (none)) else ((bi k (wrap64 (Int.tdiv a0 10))).bind fun t579 => (if 0 ≤ (Int.tmod a0 10) then (if (Int.tmod a0 10) ≤ (wrap64 ((Int.tmod a0 10) + 1)) then (if (wrap64 ((Int.tmod a0 10) + 1)) ≤ 10 then (if t579.size + ((⟨#[48, 49, 50, 51, 52, 53, 54, 55, 56, 57]⟩ : ByteArray).extract ((Int.tmod a0 10) : Int).toNat ((wrap64 ((Int.tmod a0 10) + 1)) : Int).toNat).size ≤ 9223372036854775807 then (some (t579 ++ ((⟨#[48, 49, 50, 51, 52, 53, 54, 55, 56, 57]⟩ : ByteArray).extract ((Int.tmod a0 10) : Int).toNat ((wrap64 ((Int.tmod a0 10) + 1)) : Int).toNat))) else (none)) else (none)) else (none)) else (none)))
theorem jg : ∀ k, (∀ y0, LeO (bi k y0) (bi (k + 1) y0))
  | 0 => fun _ r h => by simp [bi] at h
  | k + 1 => by
    have ih0 := jg k
    · intro y0
      unfold bi
      exact xmo
theorem mi : ∀ a0 k, LeO (bi k a0) (bi (k + 1) a0) := by
  intro a0 k
  have ih0 := jg k
  exact ih0 a0
theorem jr (k : Nat) : ∀ (a0 : Int) (r : ByteArray) (w : World) (h : bi k a0 = some r),
    Calls Tryz.prog 102 #[.int .i64 a0] w fun e w' => e = .returned (.string r) ∧ Below w.heap.size w w' := by
 induction k using Nat.strongRecOn with
 | _ k ih =>
 intro a0 r w h
 cases k with
 | zero => exact absurd h (by simp [bi])
 | succ k =>
 simp only [bi] at h
 have HB := Zz.mk (Below.refl w.heap.size w)
 have H : (if a0 < 10 then (if 0 ≤ a0 then (if a0 ≤ (wrap64 (a0 + 1)) then (if (wrap64 (a0 + 1)) ≤ 10 then (some ((⟨#[48, 49, 50, 51, 52, 53, 54, 55, 56, 57]⟩ : ByteArray).extract (a0 : Int).toNat ((wrap64 (a0 + 1)) : Int).toNat)) else (none)) else (none)) else (none)) else ((bi k (wrap64 (Int.tdiv a0 10))).bind fun Ac => (if 0 ≤ (Int.tmod a0 10) then (if (Int.tmod a0 10) ≤ (wrap64 ((Int.tmod a0 10) + 1)) then (if (wrap64 ((Int.tmod a0 10) + 1)) ≤ 10 then (if Ac.size + ((⟨#[48, 49, 50, 51, 52, 53, 54, 55, 56, 57]⟩ : ByteArray).extract ((Int.tmod a0 10) : Int).toNat ((wrap64 ((Int.tmod a0 10) + 1)) : Int).toNat).size ≤ 9223372036854775807 then (some (Ac ++ ((⟨#[48, 49, 50, 51, 52, 53, 54, 55, 56, 57]⟩ : ByteArray).extract ((Int.tmod a0 10) : Int).toNat ((wrap64 ((Int.tmod a0 10) + 1)) : Int).toNat))) else (none)) else (none)) else (none)) else (none)))) = some r := h
 clear h
 refine xid H ?_ ?_ <;> clear H <;> intro c2 H
 {
 have Ai := xdt c2
 clear c2
 refine xin H ?_; clear H; intro c3 H
 obtain ⟨Ax, Ay⟩ := xcp c3
 clear c3
 obtain ⟨Am, Ad⟩ : ∃ j_ : Int, (wrap64 (a0 + 1)) = j_ := ⟨_, rfl⟩
 first | rw [Ad] at H | simp only [Ad] at H | skip
 have An : (IntKind.i64.wrap (a0 + 1)) = Am := (ag _).trans Ad
 refine xin H ?_; clear H; intro c5 H
 obtain ⟨Az, AA⟩ := xcp c5
 clear c5
 refine xin H ?_; clear H; intro c6 H
 obtain ⟨AB, AC⟩ := xcp c6
 clear c6
 obtain ⟨AD, Ae⟩ : ∃ j_ : ByteArray, ((⟨#[48, 49, 50, 51, 52, 53, 54, 55, 56, 57]⟩ : ByteArray).extract (a0 : Int).toNat ((Am) : Int).toNat) = j_ := ⟨_, rfl⟩
 try (have Ag := Ae; simp only [Int.toNat_natCast] at Ag)
 first | rw [Ae] at H | simp only [Ae] at H | skip
 obtain rfl := Option.some.inj H
 go_enter Tryz.func102, Tryz.ntmps102
 go_wp2
 go_ret
 exact ⟨by first | exact xrd | (simp only [← Ad, ← Ae]; exact xrd) | exact xre, xbl⟩
 }
 have Ai := xdf c2
 clear c2
 replace H := xbd H
 obtain ⟨Ac, A8, H⟩ := H
 try dsimp only at H
 obtain ⟨Aj, Af⟩ : ∃ j_ : Int, (Int.tmod a0 10) = j_ := ⟨_, rfl⟩
 first | rw [Af] at H | simp only [Af] at H | skip
 (try rw [Af] at A8)
 refine xin H ?_; clear H; intro c10 H
 obtain ⟨Ao, Ap⟩ := xcp c10
 clear c10
 obtain ⟨Ah, Aa⟩ : ∃ j_ : Int, (wrap64 ((Aj) + 1)) = j_ := ⟨_, rfl⟩
 first | rw [Aa] at H | simp only [Aa] at H | skip
 (try rw [Aa] at A8)
 have Ak : (IntKind.i64.wrap ((Aj) + 1)) = Ah := (ag _).trans Aa
 refine xin H ?_; clear H; intro c12 H
 obtain ⟨Aq, Ar⟩ := xcp c12
 clear c12
 refine xin H ?_; clear H; intro c13 H
 obtain ⟨As, At⟩ := xcp c13
 clear c13
 obtain ⟨Al, Ab⟩ : ∃ j_ : ByteArray, ((⟨#[48, 49, 50, 51, 52, 53, 54, 55, 56, 57]⟩ : ByteArray).extract ((Aj) : Int).toNat ((Ah) : Int).toNat) = j_ := ⟨_, rfl⟩
 first | rw [Ab] at H | simp only [Ab] at H | skip
 (try rw [Ab] at A8)
 refine xin H ?_; clear H; intro c15 H
 obtain ⟨Au, Av⟩ := xcp c15
 try have Aw : (9223372036854775807 < Ac.size + (Al).size) = False := eq_false (Nat.not_lt.2 c15)
 obtain rfl := Option.some.inj H
 go_enter Tryz.func102, Tryz.ntmps102
 try go_wp2
 replace HB := Zz.mk (aA HB.out)
 refine xsr 12 (S := fun _ => True) [] trivial (fun hHeld => ?_)
 generalize w.drew = w16 at HB hHeld ⊢
 refine xpu 0 11 ?_
 refine xpu 1 12 ?_
 refine xpu 3 14 ?_
 refine xpu 4 15 ?_
 refine xpu 5 16 ?_
 refine xpu 6 17 ?_
 refine xpu 7 18 ?_
 refine xpu 8 19 ?_
 refine xpu 9 20 ?_
 refine xon 2 13 Tryz.func102 (ih k (by omega) (wrap64 (Int.tdiv a0 10)) Ac _ A8.out) ?_
 rintro w17 hb
 replace HB := xst hb
 (try clear hb)
 refine ⟨trivial, fun hHeld => ?_⟩
 refine xpu 10 21 ?_
 refine xpu 11 2 ?_
 refine xdn ?_
 try go_wp2
 go_ret
 exact ⟨by first | exact xrd | (simp only [← Af, ← Aa, ← Ab]; exact xrd) | exact xre, xbl⟩
mutual
def bw : Nat → List ByteArray → Int → Int → Int → Int → Int → Option (Int × Int × Int × Int × Bool)
  | 0, _, _, _, _, _, _ => none
  | k + 1, x4, x6, Aa, Ab, Ac, Ad => if x6 < 4 then (db k x4 x6 (-1) 0 Aa Ab Ac Ad) else (some (Aa, Ab, Ac, Ad, true))
def db : Nat → List ByteArray → Int → Int → Int → Int → Int → Int → Int → Option (Int × Int × Int × Int × Bool)
  | 0, _, _, _, _, _, _, _, _ => none
  | k + 1, x4, x6, x7, x8, Aa, Ab, Ac, Ad => if x8 < 256 then ((bi k x8).bind fun Ae => (if 0 ≤ x6 then (if x6 < (x4.length : Int) then (if Ae.toList = (eW ByteArray.empty x4 x6).toList then (db k x4 x6 x8 (wrap64 (x8 + 1)) Aa Ab Ac Ad) else (db k x4 x6 x7 (wrap64 (x8 + 1)) Aa Ab Ac Ad)) else (none)) else (none))) else (if x7 < 0 then (some (0, 0, 0, 0, false)) else (if 0 ≤ x6 then (if x6 = 0 then (bw k x4 (wrap64 (x6 + 1)) x7 Ab Ac Ad) else (if x6 = 1 then (bw k x4 (wrap64 (x6 + 1)) Aa x7 Ac Ad) else (if x6 = 2 then (bw k x4 (wrap64 (x6 + 1)) Aa Ab x7 Ad) else (if x6 = 3 then (bw k x4 (wrap64 (x6 + 1)) Aa Ab Ac x7) else (none))))) else (none)))
end
def fX (k : Nat) (a0 : ByteArray) : Option (Int × Int × Int × Int × Bool) := (eJ k a0 46).bind fun t581 => (if (t581.length : Int) = 4 then (bw k t581 0 0 0 0 0) else (some (0, 0, 0, 0, false)))
theorem gO (k : Nat) (a0 : ByteArray) (r1 : Int) (r2 : Int) (r3 : Int) (r4 : Int) (r5 : Bool) (w : World) (h : fX k a0 = some (r1, r2, r3, r4, r5)) :
    Calls Tryz.prog 85 #[.string a0] w fun e w' => e = .returned (.tuple #[.agg #[.int .i64 r1, .int .i64 r2, .int .i64 r3, .int .i64 r4], .bool r5]) ∧ Below w.heap.size w w' := by
 have hu107 := Tryz.underlying107
 have HB := Zz.mk (Below.refl w.heap.size w)
 have H := h
 clear h
 unfold fX at H
 replace H := xbd H
 obtain ⟨At, A2, H⟩ := H
 try dsimp only at H
 refine xid H ?_ ?_ <;> clear H <;> intro c3 H
 {
 obtain ⟨Ay, Az⟩ := xqe c3
 clear c3
 have H' := Zz.mk H
 clear H
 go_enter Tryz.func85, Tryz.ntmps85
 go_wp2_with (first | ((with_reducible refine aj (N := 2) rfl ?_); refine xew 2 ?_; intro Am w4 Al AA hb hg; replace HB := xst hb; clear hb hg) | ((with_reducible refine xgc (f := 101) rfl ?_); refine xgl 10 Tryz.func101 #[.string a0, .int .u8 46] ?_; (with_reducible refine (ig (w := _) (h := A2.out)).mono ?_); rintro e w5 ⟨v582, rfl, ho0, hb⟩; refine ⟨_, rfl, ?_⟩; have Ar := Zz.mk (Kd.R_lower ho0 (aq xbl)); replace Al := xbq Am hb; replace HB := xst hb; (try clear hb); (try clear ho0)) | ((with_reducible refine aj (N := 5) rfl ?_); refine xew 5 ?_; intro Ao w6 Ae AB hb hg; have Af := xlt (g := Am) hg; have Ag := xgt (g := Am) hg; replace Ar := Zz.mk (Kd.R_below (xkd Ar) hb); replace Al := xbq Am hb; replace HB := xst hb; clear hb hg; have AY := Ag.out; have AZ := Af.out; have Ba := xz4 Ae.out; obtain ⟨Ao9, co9, eo9⟩ := Kd.R_slice Ar.out; subst eo9))
 go_loopg [6] k (fun kq v6 w' => ∃ Ap Ah Ai Aj Ak Aa Ab Ac Ad, v6 = .int .i64 Ap ∧ Zz (bw kq At Ap Aa Ab Ac Ad = some (r1, r2, r3, r4, r5)) ∧ Zz (kq ≤ k) ∧ Zz (Kd.R Kd.string 9 w' w.heap.size (fun _ => True) (.slice Ao9 At.length co9) At) ∧ Zz (w'.heap[Am]? = some (.cells #[.int .i64 Ah, .int .i64 Ai, .int .i64 Aj, .int .i64 Ak] 107 (0, 0))) ∧ Zz (w'.heap[Ao]? = some (.cells #[.int .i64 Aa, .int .i64 Ab, .int .i64 Ac, .int .i64 Ad] 107 (0, 0))) ∧ Zz (Below w.heap.size w w'))
 case atStart => exact ⟨(0), (0), (0), (0), (0), (0), (0), (0), (0), xrr, H', ⟨Nat.le_refl _⟩, ⟨by (with_reducible repeat (first | apply Kd.R_alloc | apply Kd.R_drewN | apply Kd.R_drew)); exact Kd.R_mono (Kd.R_far (p := ⟨Ao, 3, none⟩) (Kd.R_far (p := ⟨Ao, 2, none⟩) (Kd.R_far (p := ⟨Ao, 1, none⟩) (Kd.R_far (p := ⟨Ao, 0, none⟩) (Kd.R_types Ar.out Ae.out (by decide)) (fun _ hk => hk.2) (.int .i64 0)) (fun _ hk => hk.2) (.int .i64 0)) (fun _ hk => hk.2) (.int .i64 0)) (fun _ hk => hk.2) (.int .i64 0)) (fun _ hk => trivial)⟩, ⟨xbK⟩, ⟨xbK⟩, ⟨xbl⟩⟩
 case round => (
 clear H'
 clear Ay Az
 obtain ⟨Ap, Ah, Ai, Aj, Ak, Aa, Ab, Ac, Ad, rfl, HA, HK1, An, Al, Ae, HB⟩ := hrel
 cases gk with
 | zero => exact absurd HA.out (by simp [bw])
 | succ k1 => (
 have H := HA.out
 clear HA
 simp only [bw] at H
 refine xid H ?_ ?_ <;> clear H <;> intro c10 H
 {
 have Ax := xdt c10
 clear c10
 have H' := Zz.mk H
 clear H
 go_wp2
 go_loopg [7, 8] k1 (fun kq v7 v8 w' => ∃ As Au, v7 = .int .i64 As ∧ v8 = .int .i64 Au ∧ Zz (db kq At Ap As Au Aa Ab Ac Ad = some (r1, r2, r3, r4, r5)) ∧ Zz (kq ≤ k1) ∧ Zz (Kd.R Kd.string 9 w' w.heap.size (fun _ => True) (.slice Ao9 At.length co9) At) ∧ Zz (w'.heap[Am]? = some (.cells #[.int .i64 Ah, .int .i64 Ai, .int .i64 Aj, .int .i64 Ak] 107 (0, 0))) ∧ Zz (w'.heap[Ao]? = some (.cells #[.int .i64 Aa, .int .i64 Ab, .int .i64 Ac, .int .i64 Ad] 107 (0, 0))) ∧ Zz (Below w.heap.size w w'))
 case atStart => exact ⟨((-1)), (0), xrr, xrr, H', ⟨Nat.le_refl _⟩, ⟨xkd An⟩, ⟨xbk⟩, ⟨xbk⟩, ⟨xbl⟩⟩
 case round => (
 clear H'
 clear Ax
 obtain ⟨As, Au, rfl, rfl, HA, HK2, An, Al, Ae, HB⟩ := hrel
 cases gk with
 | zero => exact absurd HA.out (by simp [db])
 | succ k2 => (
 have H := HA.out
 clear HA
 simp only [db] at H
 refine xid H ?_ ?_ <;> clear H <;> intro c11 H
 {
 have AC := xdt c11
 clear c11
 replace H := xbd H
 obtain ⟨AD, A12, H⟩ := H
 try dsimp only at H
 refine xin H ?_; clear H; intro c13 H
 have AH := xdt c13
 clear c13
 refine xin H ?_; clear H; intro c14 H
 have AI := xdt c14
 clear c14
 refine xid H ?_ ?_ <;> clear H <;> intro c15 H
 {
 obtain ⟨AE, AF⟩ := xqe c15
 clear c15
 replace H := xa H
 try go_wp2
 replace An := Zz.mk (Kd.R_drew An.out)
 replace Al := Zz.mk (bc Al.out)
 replace Ae := Zz.mk (bc Ae.out)
 replace HB := Zz.mk (aA HB.out)
 have p586 : 0 ≤ (Ap : Int) := xod
 have q586 : Ap < (At.length : Int) := xod
 obtain ⟨Av, e586, Aq⟩ := Kd.at_string (Kd.R_reads' An.out).2.2 Ap p586 q586
 cases e586
 replace p586 := eq_true p586
 replace q586 := eq_true q586
 try (have Aw := q586; simp only [ByteArray.size_extract, Nat.min_self] at Aw)
 refine io (n := 7) (S := fun w' => w'.cell? (Av.add (Ap).toNat) = some (.string (eW ByteArray.empty At Ap))) (ds := []) #[false, false, false, false, false, false, false] (by kernel_rfl) rfl rfl (Aq) (fun hHeld => ?_)
 generalize wr.drew = w16 at An Al Ae HB Aq hHeld ⊢
 refine ct (i := 0) (N := some 24) (v := ?_) (a' := ?_) #[true, false, false, false, false, false, false] rfl rfl (by kernel_rfl) (fun _ _ _ h => h) (Or.inl ⟨by rfl, ?_⟩) ?_ ?_
 rotate_left
 {
 intro w'
 go_simp
 with_reducible rfl
 }
 rotate_left
 {
 simp only [Act.put, xl1, xl2, xl3, ag, ak]
 rfl
 }
 refine ct (i := 2) (N := some 26) (v := ?_) (a' := ?_) #[true, false, true, false, false, false, false] rfl rfl (by kernel_rfl) (fun _ _ _ h => h) (Or.inl ⟨by rfl, ?_⟩) ?_ ?_
 rotate_left
 {
 intro w'
 go_simp
 with_reducible rfl
 }
 rotate_left
 {
 simp only [Act.put, xl1, xl2, xl3, ag, ak]
 rfl
 }
 refine ct (i := 3) (N := some 27) (v := ?_) (a' := ?_) #[true, false, true, true, false, false, false] rfl rfl (by kernel_rfl) (fun _ _ _ h => h) (Or.inl ⟨by rfl, ?_⟩) ?_ ?_
 rotate_left
 {
 intro w'
 go_simp
 with_reducible rfl
 }
 rotate_left
 {
 simp only [Act.put, xl1, xl2, xl3, ag, ak]
 rfl
 }
 refine ct (i := 4) (N := some 28) (v := ?_) (a' := ?_) #[true, false, true, true, true, false, false] rfl rfl (by kernel_rfl) (fun _ _ _ h => h) (Or.inl ⟨by rfl, ?_⟩) ?_ ?_
 rotate_left
 {
 intro w'
 go_simp
 with_reducible rfl
 }
 rotate_left
 {
 simp only [Act.put, xl1, xl2, xl3, ag, ak]
 rfl
 }
 refine take_ (i := 5) (N := some 29) (v := ?_) (a' := ?_) #[true, false, true, true, true, true, false] rfl rfl (by kernel_rfl) (fun _ _ _ h => h) (Or.inl ⟨by rfl, ?_⟩) hHeld ?_ ?_
 rotate_left
 {
 intro w' s0
 go_simp
 with_reducible rfl
 }
 rotate_left
 {
 simp only [Act.put, xl1, xl2, xl3, ag, ak]
 rfl
 }
 refine dm (i := 1) (N := some 25) #[true, true, true, true, true, true, false] rfl rfl (by kernel_rfl) (by decide) (fun K hK => ?_)
 refine gp Tryz.func102 (by kernel_rfl) rfl #[.int .i64 Au] (by rfl) rfl rfl (by (try simp only [List.map_toArray, List.map_cons, List.map_nil]); first | done | rfl | (simp only [List.length_drop, List.length_take]; rfl)) ?_
 with_reducible refine (jr k2 Au AD _ A12.out).mono ?_
 rintro e w17 ⟨rfl, hb⟩
 have HS0_ := (hb.cell (World.block_lt_of_cell? _ _ (hHeld))).trans (hHeld)
 refine ⟨_, rfl, ?_⟩
 have n0_ := Zz.mk (Kd.R_below (xkd An) hb)
 have n1_ := xbb (g := Am) (o := .cells #[.int .i64 Ah, .int .i64 Ai, .int .i64 Aj, .int .i64 Ak] 107 (0, 0)) hb
 have n2_ := xbb (g := Ao) (o := .cells #[.int .i64 Aa, .int .i64 Ab, .int .i64 Ac, .int .i64 Ad] 107 (0, 0)) hb
 have n3_ := xst hb
 clear An
 clear Al
 clear Ae
 clear HB
 have An := n0_
 have Al := n1_
 have Ae := n2_
 have HB := n3_
 clear n0_ n1_ n2_ n3_
 (try clear hb)
 refine hK.out _ _ (HS0_) (fun hHeld => ?_)
 clear hK K
 refine bV (a' := ?_) ?_ ?_
 rotate_left
 {
 show Act.put _ (some 25) _ = _
 simp only [Act.put, xl1, xl2, xl3, ag, ak]
 rfl
 }
 refine ct (i := 6) (N := some 30) (v := ?_) (a' := ?_) #[true, true, true, true, true, true, true] rfl rfl (by kernel_rfl) (fun _ _ _ h => h) (Or.inl ⟨by rfl, ?_⟩) ?_ ?_
 rotate_left
 {
 intro w'
 go_simp
 with_reducible rfl
 }
 rotate_left
 {
 simp only [Act.put, xl1, xl2, xl3, ag, ak]
 rfl
 }
 refine kA (by kernel_rfl) ?_
 try go_wp2
 go_roundg k2
 case measure => have := HK1.out; have := HK2.out; omega
 case rel => exact ⟨(Au), (wrap64 (Au + 1)), xrr, xrr, H, ⟨by have := HK1.out; have := HK2.out; omega⟩, ⟨xkd An⟩, ⟨xbk⟩, ⟨xbk⟩, ⟨xbl⟩⟩
 }
 obtain ⟨AE, AF⟩ := xqn c15
 replace H := xa H
 try go_wp2
 replace An := Zz.mk (Kd.R_drew An.out)
 replace Al := Zz.mk (bc Al.out)
 replace Ae := Zz.mk (bc Ae.out)
 replace HB := Zz.mk (aA HB.out)
 have p586 : 0 ≤ (Ap : Int) := xod
 have q586 : Ap < (At.length : Int) := xod
 obtain ⟨Av, e586, Aq⟩ := Kd.at_string (Kd.R_reads' An.out).2.2 Ap p586 q586
 cases e586
 replace p586 := eq_true p586
 replace q586 := eq_true q586
 try (have Aw := q586; simp only [ByteArray.size_extract, Nat.min_self] at Aw)
 refine io (n := 7) (S := fun w' => w'.cell? (Av.add (Ap).toNat) = some (.string (eW ByteArray.empty At Ap))) (ds := []) #[false, false, false, false, false, false, false] (by kernel_rfl) rfl rfl (Aq) (fun hHeld => ?_)
 generalize wr.drew = w18 at An Al Ae HB Aq hHeld ⊢
 refine ct (i := 0) (N := some 24) (v := ?_) (a' := ?_) #[true, false, false, false, false, false, false] rfl rfl (by kernel_rfl) (fun _ _ _ h => h) (Or.inl ⟨by rfl, ?_⟩) ?_ ?_
 rotate_left
 {
 intro w'
 go_simp
 with_reducible rfl
 }
 rotate_left
 {
 simp only [Act.put, xl1, xl2, xl3, ag, ak]
 rfl
 }
 refine ct (i := 2) (N := some 26) (v := ?_) (a' := ?_) #[true, false, true, false, false, false, false] rfl rfl (by kernel_rfl) (fun _ _ _ h => h) (Or.inl ⟨by rfl, ?_⟩) ?_ ?_
 rotate_left
 {
 intro w'
 go_simp
 with_reducible rfl
 }
 rotate_left
 {
 simp only [Act.put, xl1, xl2, xl3, ag, ak]
 rfl
 }
 refine ct (i := 3) (N := some 27) (v := ?_) (a' := ?_) #[true, false, true, true, false, false, false] rfl rfl (by kernel_rfl) (fun _ _ _ h => h) (Or.inl ⟨by rfl, ?_⟩) ?_ ?_
 rotate_left
 {
 intro w'
 go_simp
 with_reducible rfl
 }
 rotate_left
 {
 simp only [Act.put, xl1, xl2, xl3, ag, ak]
 rfl
 }
 refine ct (i := 4) (N := some 28) (v := ?_) (a' := ?_) #[true, false, true, true, true, false, false] rfl rfl (by kernel_rfl) (fun _ _ _ h => h) (Or.inl ⟨by rfl, ?_⟩) ?_ ?_
 rotate_left
 {
 intro w'
 go_simp
 with_reducible rfl
 }
 rotate_left
 {
 simp only [Act.put, xl1, xl2, xl3, ag, ak]
 rfl
 }
 refine take_ (i := 5) (N := some 29) (v := ?_) (a' := ?_) #[true, false, true, true, true, true, false] rfl rfl (by kernel_rfl) (fun _ _ _ h => h) (Or.inl ⟨by rfl, ?_⟩) hHeld ?_ ?_
 rotate_left
 {
 intro w' s0
 go_simp
 with_reducible rfl
 }
 rotate_left
 {
 simp only [Act.put, xl1, xl2, xl3, ag, ak]
 rfl
 }
 refine dm (i := 1) (N := some 25) #[true, true, true, true, true, true, false] rfl rfl (by kernel_rfl) (by decide) (fun K hK => ?_)
 refine gp Tryz.func102 (by kernel_rfl) rfl #[.int .i64 Au] (by rfl) rfl rfl (by (try simp only [List.map_toArray, List.map_cons, List.map_nil]); first | done | rfl | (simp only [List.length_drop, List.length_take]; rfl)) ?_
 with_reducible refine (jr k2 Au AD _ A12.out).mono ?_
 rintro e w19 ⟨rfl, hb⟩
 have HS0_ := (hb.cell (World.block_lt_of_cell? _ _ (hHeld))).trans (hHeld)
 refine ⟨_, rfl, ?_⟩
 have n0_ := Zz.mk (Kd.R_below (xkd An) hb)
 have n1_ := xbb (g := Am) (o := .cells #[.int .i64 Ah, .int .i64 Ai, .int .i64 Aj, .int .i64 Ak] 107 (0, 0)) hb
 have n2_ := xbb (g := Ao) (o := .cells #[.int .i64 Aa, .int .i64 Ab, .int .i64 Ac, .int .i64 Ad] 107 (0, 0)) hb
 have n3_ := xst hb
 clear An
 clear Al
 clear Ae
 clear HB
 have An := n0_
 have Al := n1_
 have Ae := n2_
 have HB := n3_
 clear n0_ n1_ n2_ n3_
 (try clear hb)
 refine hK.out _ _ (HS0_) (fun hHeld => ?_)
 clear hK K
 refine bV (a' := ?_) ?_ ?_
 rotate_left
 {
 show Act.put _ (some 25) _ = _
 simp only [Act.put, xl1, xl2, xl3, ag, ak]
 rfl
 }
 refine ct (i := 6) (N := some 30) (v := ?_) (a' := ?_) #[true, true, true, true, true, true, true] rfl rfl (by kernel_rfl) (fun _ _ _ h => h) (Or.inl ⟨by rfl, ?_⟩) ?_ ?_
 rotate_left
 {
 intro w'
 go_simp
 with_reducible rfl
 }
 rotate_left
 {
 simp only [Act.put, xl1, xl2, xl3, ag, ak]
 rfl
 }
 refine kA (by kernel_rfl) ?_
 try go_wp2
 go_roundg k2
 case measure => have := HK1.out; have := HK2.out; omega
 case rel => exact ⟨(As), (wrap64 (Au + 1)), xrr, xrr, H, ⟨by have := HK1.out; have := HK2.out; omega⟩, ⟨xkd An⟩, ⟨xbk⟩, ⟨xbk⟩, ⟨xbl⟩⟩
 }
 have AC := xdf c11
 clear c11
 refine xid H ?_ ?_ <;> clear H <;> intro c20 H
 {
 have AG := xdt c20
 clear c20
 simp only [Option.some.injEq, Prod.mk.injEq] at H
 obtain ⟨rfl, rfl, rfl, rfl, rfl⟩ := H
 have AJ := Af.out
 have AK := Ag.out
 have A0 := xz4 Al.out
 go_wp2
 refine bodyPost_ret (aH rfl _ _ Am 107 #[.int .i64 0, .int .i64 0, .int .i64 0, .int .i64 0] (0, 0) _ rfl xbk Tryz.underlying107 rfl (by kernel_rfl)) rfl ?_
 exact ⟨xre, xbl⟩
 }
 have AG := xdf c20
 clear c20
 refine xin H ?_; clear H; intro c23 H
 have AL := xdt c23
 clear c23
 by_cases c24 : Ap = 0
 {
 subst c24
 rw [if_pos rfl] at H
 replace H := xa H
 have AM := Ag.out
 have AN := Af.out
 have A1 := xz4 Ae.out
 go_wp2
 go_roundg k2
 case measure => have := HK1.out; have := HK2.out; omega
 case rel => exact ⟨(wrap64 (0 + 1)), (Ah), (Ai), (Aj), (Ak), (As), (Ab), (Ac), (Ad), xrr, H, ⟨by have := HK1.out; have := HK2.out; omega⟩, ⟨by (with_reducible repeat (first | apply Kd.R_alloc | apply Kd.R_drewN | apply Kd.R_drew)); exact Kd.R_mono (Kd.R_far (p := ⟨Ao, 0, none⟩) (Kd.R_types An.out Ae.out (by decide)) (fun _ hk => hk.2) (.int .i64 As)) (fun _ hk => trivial)⟩, ⟨xbK⟩, ⟨xbK⟩, ⟨xbl⟩⟩
 }
 {
 rw [if_neg c24] at H
 clear c24
 by_cases c27 : Ap = 1
 {
 subst c27
 rw [if_pos rfl] at H
 replace H := xa H
 have AO := Ag.out
 have AP := Af.out
 have A3 := xz4 Ae.out
 go_wp2
 go_roundg k2
 case measure => have := HK1.out; have := HK2.out; omega
 case rel => exact ⟨(wrap64 (1 + 1)), (Ah), (Ai), (Aj), (Ak), (Aa), (As), (Ac), (Ad), xrr, H, ⟨by have := HK1.out; have := HK2.out; omega⟩, ⟨by (with_reducible repeat (first | apply Kd.R_alloc | apply Kd.R_drewN | apply Kd.R_drew)); exact Kd.R_mono (Kd.R_far (p := ⟨Ao, 1, none⟩) (Kd.R_types An.out Ae.out (by decide)) (fun _ hk => hk.2) (.int .i64 As)) (fun _ hk => trivial)⟩, ⟨xbK⟩, ⟨xbK⟩, ⟨xbl⟩⟩
 }
 {
 rw [if_neg c27] at H
 clear c27
 by_cases c30 : Ap = 2
 {
 subst c30
 rw [if_pos rfl] at H
 replace H := xa H
 have AQ := Ag.out
 have AR := Af.out
 have A4 := xz4 Ae.out
 go_wp2
 go_roundg k2
 case measure => have := HK1.out; have := HK2.out; omega
 case rel => exact ⟨(wrap64 (2 + 1)), (Ah), (Ai), (Aj), (Ak), (Aa), (Ab), (As), (Ad), xrr, H, ⟨by have := HK1.out; have := HK2.out; omega⟩, ⟨by (with_reducible repeat (first | apply Kd.R_alloc | apply Kd.R_drewN | apply Kd.R_drew)); exact Kd.R_mono (Kd.R_far (p := ⟨Ao, 2, none⟩) (Kd.R_types An.out Ae.out (by decide)) (fun _ hk => hk.2) (.int .i64 As)) (fun _ hk => trivial)⟩, ⟨xbK⟩, ⟨xbK⟩, ⟨xbl⟩⟩
 }
 {
 rw [if_neg c30] at H
 clear c30
 by_cases c33 : Ap = 3
 {
 subst c33
 rw [if_pos rfl] at H
 replace H := xa H
 have AS := Ag.out
 have AT := Af.out
 have A5 := xz4 Ae.out
 go_wp2
 go_roundg k2
 case measure => have := HK1.out; have := HK2.out; omega
 case rel => exact ⟨(wrap64 (3 + 1)), (Ah), (Ai), (Aj), (Ak), (Aa), (Ab), (Ac), (As), xrr, H, ⟨by have := HK1.out; have := HK2.out; omega⟩, ⟨by (with_reducible repeat (first | apply Kd.R_alloc | apply Kd.R_drewN | apply Kd.R_drew)); exact Kd.R_mono (Kd.R_far (p := ⟨Ao, 3, none⟩) (Kd.R_types An.out Ae.out (by decide)) (fun _ hk => hk.2) (.int .i64 As)) (fun _ hk => trivial)⟩, ⟨xbK⟩, ⟨xbK⟩, ⟨xbl⟩⟩
 }
 {
 rw [if_neg c33] at H
 clear c33
 exact absurd H (by simp)
 }
 }
 }
 }
 )
 )
 }
 have Ax := xdf c10
 clear c10
 simp only [Option.some.injEq, Prod.mk.injEq] at H
 obtain ⟨rfl, rfl, rfl, rfl, rfl⟩ := H
 have AU := Ag.out
 have AV := Af.out
 have A6 := xz4 Ae.out
 have A7 := xz4 Al.out
 go_wp2
 refine bodyPost_ret (aH rfl _ _ Am 107 #[.int .i64 Aa, .int .i64 Ab, .int .i64 Ac, .int .i64 Ad] (0, 0) _ rfl xbk Tryz.underlying107 rfl (by kernel_rfl)) rfl ?_
 exact ⟨xre, xbl⟩
 )
 )
 }
 obtain ⟨Ay, Az⟩ := xqn c3
 simp only [Option.some.injEq, Prod.mk.injEq] at H
 obtain ⟨rfl, rfl, rfl, rfl, rfl⟩ := H
 go_enter Tryz.func85, Tryz.ntmps85
 go_wp2_with (first | ((with_reducible refine aj (N := 2) rfl ?_); refine xew 2 ?_; intro Am w39 Al AA hb hg; replace HB := xst hb; clear hb hg) | ((with_reducible refine xgc (f := 101) rfl ?_); refine xgl 10 Tryz.func101 #[.string a0, .int .u8 46] ?_; (with_reducible refine (ig (w := _) (h := A2.out)).mono ?_); rintro e w40 ⟨v582, rfl, ho0, hb⟩; refine ⟨_, rfl, ?_⟩; have Ar := Zz.mk (Kd.R_lower ho0 (aq xbl)); replace Al := xbq Am hb; replace HB := xst hb; (try clear hb); (try clear ho0)) | ((with_reducible refine aj (N := 5) rfl ?_); refine xew 5 ?_; intro Ao w41 Ae AB hb hg; have Af := xlt (g := Am) hg; have Ag := xgt (g := Am) hg; replace Ar := Zz.mk (Kd.R_below (xkd Ar) hb); replace Al := xbq Am hb; replace HB := xst hb; clear hb hg; have AW := Ag.out; have AX := Af.out; have A8 := xz4 Ae.out; obtain ⟨Ao44, co44, eo44⟩ := Kd.R_slice Ar.out; subst eo44; have A9 := xz4 Al.out))
 refine bodyPost_ret (aH rfl _ _ Am 107 #[.int .i64 0, .int .i64 0, .int .i64 0, .int .i64 0] (0, 0) _ rfl xbk Tryz.underlying107 rfl (by kernel_rfl)) rfl ?_
 exact ⟨xre, xbl⟩
mutual
def de : Nat → ByteArray → Bool → Option (Int)
  | 0, _, _ => none
  | k + 1, x0, x13 => if x13 = true then (some (-1)) else (df k x0 0 0)
def df : Nat → ByteArray → Int → Int → Option (Int)
  | 0, _, _, _ => none
  | k + 1, x0, x3, x4 => if x4 < (x0.size : Int) then (if 0 ≤ x4 then ((bI k (bt x0 x4)).bind fun t587 => (if t587 < 0 then (some (-1)) else (df k x0 (wrap64 ((wrap64 (16 * x3)) + t587)) (wrap64 (x4 + 1))))) else (none)) else (some x3)
end
def gf (k : Nat) (a0 : ByteArray) : Option (Int) := if (a0.size : Int) < 1 then (de k a0 true) else (de k a0 (decide ((a0.size : Int) > 4)))
theorem jR (k : Nat) (a0 : ByteArray) (r : Int) (w : World) (h : gf k a0 = some r) :
    Calls Tryz.prog 109 #[.string a0] w fun e w' => e = .returned (.int .i64 r) ∧ Drawn0 w w' := by
 have H := h
 clear h
 unfold gf at H
 have Ae := Zz.mk H
 clear H
 go_enter Tryz.func109, Tryz.ntmps109
 go_upto_region 1 with (fail)
 go_cut [13] (fun v13 wc => ∃ kq Ab, v13 = .bool Ab ∧ Zz (de kq a0 Ab = some r) ∧ Zz (kq ≤ k) ∧ Drawn0 w wc)
 case first => (
 have H := Ae.out
 clear Ae
 refine xid H ?_ ?_ <;> clear H <;> intro c3 H
 {
 have Ac := xdt c3
 have Af : decide (a0.size < 1) = true := decide_eq_true (by omega)
 clear c3
 (first | rw [Ac] | (simp only [ag, ak]; rw [Ac]) | skip)
 replace H := xa H
 go_wp2
 go_meet
 case rel => exact ⟨_, (true), xrr, H, ⟨xom⟩, xdr⟩
 }
 have Ac := xdf c3
 have Af : decide (a0.size < 1) = false := decide_eq_false (by omega)
 clear c3
 (first | rw [Ac] | (simp only [ag, ak]; rw [Ac]) | skip)
 replace H := xa H
 go_wp2
 go_meet
 case rel => exact ⟨_, (decide ((a0.size : Int) > 4)), xrr, H, ⟨xom⟩, xdr⟩
 )
 case rest => (
 clear Ae
 obtain ⟨kq, Ab, rfl, HA, HJ1, ⟨mc1, rfl⟩⟩ := hcut
 cases kq with
 | zero => exact absurd HA.out (by simp [de])
 | succ kj1 => (
 have H := HA.out
 clear HA
 simp only [de] at H
 refine xib H ?_ ?_ <;> clear H <;> rintro rfl H
 {
 obtain rfl := Option.some.inj H
 go_wp2
 go_ret
 exact ⟨xrr, xdr⟩
 }
 have H' := Zz.mk H
 clear H
 go_wp2
 go_loopg [3, 4] kj1 (fun kq v3 v4 w' => ∃ Ad Aa, v3 = .int .i64 Ad ∧ v4 = .int .i64 Aa ∧ Zz (df kq a0 Ad Aa = some r) ∧ Zz (kq ≤ kj1) ∧ Drawn0 w w')
 case atStart => exact ⟨(0), (0), xrr, xrr, H', ⟨Nat.le_refl _⟩, xdr⟩
 case round => (
 clear H'
 obtain ⟨Ad, Aa, rfl, rfl, HA, HK2, ⟨m2, rfl⟩⟩ := hrel
 cases gk with
 | zero => exact absurd HA.out (by simp [df])
 | succ k2 => (
 have H := HA.out
 clear HA
 simp only [df] at H
 refine xid H ?_ ?_ <;> clear H <;> intro c5 H
 {
 have Ag := xdt c5
 clear c5
 refine xin H ?_; clear H; intro c6 H
 have Aj := xdt c6
 clear c6
 replace H := xbd H
 obtain ⟨Ah, A8, H⟩ := H
 try dsimp only at H
 refine xid H ?_ ?_ <;> clear H <;> intro c9 H
 {
 have Ai := xdt c9
 clear c9
 obtain rfl := Option.some.inj H
 obtain ⟨p7, q7, hx7⟩ := xiv a0 Aa xod xod
 go_wp2_with (first | ((with_reducible refine xgc (f := 86) rfl ?_); refine xca 23 Tryz.func86 (au (w := _) (h := A8.out)) ?_; rintro w' ⟨nd, rfl⟩))
 go_ret
 exact ⟨xrr, xdr⟩
 }
 have Ai := xdf c9
 clear c9
 replace H := xa H
 obtain ⟨p7, q7, hx7⟩ := xiv a0 Aa xod xod
 go_wp2_with (first | ((with_reducible refine xgc (f := 86) rfl ?_); refine xca 23 Tryz.func86 (au (w := _) (h := A8.out)) ?_; rintro w' ⟨nd, rfl⟩))
 go_roundg k2
 case measure => have := HJ1.out; have := HK2.out; omega
 case rel => exact ⟨(wrap64 ((wrap64 (16 * Ad)) + Ah)), (wrap64 (Aa + 1)), xrr, xrr, H, ⟨by have := HJ1.out; have := HK2.out; omega⟩, xdr⟩
 }
 have Ag := xdf c5
 clear c5
 obtain rfl := Option.some.inj H
 go_wp2
 go_ret
 exact ⟨xrr, xdr⟩
 )
 )
 )
 )
mutual
def cp : Nat → List Int → List ByteArray → Int → Option (List Int × Bool)
  | 0, _, _, _ => none
  | k + 1, x4, x5, x6 => if x6 < (x5.length : Int) then (if 0 ≤ x6 then ((fX k (eW ByteArray.empty x5 x6)).bind fun Aa => (if Aa.2.2.2.2 = true then (dr k x4 x5 x6 (x6 == (wrap64 ((x5.length : Int) - 1))) Aa.1 Aa.2.1 Aa.2.2.1 Aa.2.2.2.1) else (dr k x4 x5 x6 false Aa.1 Aa.2.1 Aa.2.2.1 Aa.2.2.2.1))) else (none)) else (some (x4, true))
def dr : Nat → List Int → List ByteArray → Int → Bool → Int → Int → Int → Int → Option (List Int × Bool)
  | 0, _, _, _, _, _, _, _, _ => none
  | k + 1, x4, x5, x6, Ag, Aa, Ab, Ac, Ad => if Ag = true then ((some (([wrap64 ((wrap64 (256 * Aa)) + Ab), wrap64 ((wrap64 (256 * Ac)) + Ad)] : List Int) : List Int)).bind fun Ae => (if x4.length + Ae.length < 17592186044416 then (some ((x4 ++ Ae), true)) else (none))) else (if 0 ≤ x6 then (if x6 < (x5.length : Int) then ((gf k (eW ByteArray.empty x5 x6)).bind fun Af => (if Af < 0 then (some (([] : List Int), false)) else (if x4.length < 17592186044416 then (cp k (x4 ++ [Af]) x5 (wrap64 (x6 + 1))) else (none)))) else (none)) else (none))
end
def et (k : Nat) (a0 : ByteArray) : Option (List Int × Bool) := (some (([] : List Int) : List Int)).bind fun y588 => (if a0.toList = ([] : List UInt8) then (some (y588, true)) else ((eJ k a0 58).bind fun t591 => (cp k y588 t591 0)))
theorem iM (k : Nat) (a0 : ByteArray) (r1 : List Int) (r2 : Bool) (w : World) (h : et k a0 = some (r1, r2)) :
    Calls Tryz.prog 100 #[.string a0] w fun e w' => ∃ v0_ : Value, e = .returned (.tuple #[v0_, .bool r2]) ∧ Kd.R (Kd.int .i64) 3 w' w.heap.size (fun _ => True) v0_ r1 ∧ Below w.heap.size w w' := by
 have hu107 := Tryz.underlying107
 have HB := Zz.mk (Below.refl w.heap.size w)
 have H := h
 clear h
 unfold et at H
 obtain ⟨AA, Am⟩ : ∃ y_ : List Int, y_ = (([] : List Int)) := ⟨_, rfl⟩
 replace H : (if a0.toList = ([] : List UInt8) then (some (AA, true)) else ((eJ k a0 58).bind fun Aj => (cp k AA Aj 0))) = some (r1, r2) := by first | (rw [Am]; with_reducible exact H) | (have H2_ := (Option.bind_some _ _).symm.trans H; rw [Am]; with_reducible exact H2_) | (have H2_ := (Option.bind_some _ _).symm.trans H; with_reducible exact H2_) | with_reducible exact H | (rw [Am]; exact H) | exact H
 have As := Zz.mk Am
 clear Am
 refine xid H ?_ ?_ <;> clear H <;> intro c2 H
 {
 obtain ⟨AD, AE⟩ := xqe c2
 (try (have AP : a0.toList.isEmpty = true := by simpa using c2))
 clear c2
 simp only [Option.some.injEq, Prod.mk.injEq] at H
 obtain ⟨rfl, rfl⟩ := H
 go_enter Tryz.func100, Tryz.ntmps100
 go_wp2_with (first | ((with_reducible refine aj (N := 10) rfl ?_); (try (refine cb (by rfl) ?_; dsimp only)); refine Kd.R_lit (Kd.int .i64) _ 3 ?hg (N := 10) ?hd (xs := ([] : List Int)) (inner := []) (ok := fun _ => True) (okp := fun _ => True) ?hr ?hp (fun _ hk => hk) trivial (Below.refl _ _) (Nat.le_refl _) (by simp) ?_; (case hd => rfl); (case hg => rfl); (case hr => first | (go_simp; done) | (go_simp; rfl)); (case hp => exact (Reps.none _ _)); intro v589 w3 ho4 hb hg_ hnew_; clear hg_ hnew_; (first | rw [← As.out] at ho4 | (simp only [Int.reduceToNat] at ho4; rw [← As.out] at ho4)); have An := Zz.mk (Kd.R_lower ho4 (aq xbl)); replace HB := xst hb; clear hb ho4))
 go_ret2
 exact ⟨_, by first | rfl | (simp [b7, b8] <;> first | rfl | (simp only [fx, bne, Bool.not_not]; done)) | (simp [*, b7, b8] <;> rfl), by (with_reducible repeat (first | apply Kd.R_alloc | apply Kd.R_drewN | apply Kd.R_drew)); exact An.out, xbl⟩
 }
 obtain ⟨AD, AE⟩ := xqn c2
 (try (have AP : a0.toList.isEmpty = false := by simpa using c2))
 replace H := xbd H
 obtain ⟨Aj, A5, H⟩ := H
 try dsimp only at H
 have H' := Zz.mk H
 clear H
 go_enter Tryz.func100, Tryz.ntmps100
 go_wp2_with (first | ((with_reducible refine aj (N := 10) rfl ?_); (try (refine cb (by rfl) ?_; dsimp only)); refine Kd.R_lit (Kd.int .i64) _ 3 ?hg (N := 10) ?hd (xs := ([] : List Int)) (inner := []) (ok := fun _ => True) (okp := fun _ => True) ?hr ?hp (fun _ hk => hk) trivial (Below.refl _ _) (Nat.le_refl _) (by simp) ?_; (case hd => rfl); (case hg => rfl); (case hr => first | (go_simp; done) | (go_simp; rfl)); (case hp => exact (Reps.none _ _)); intro v589 w6 ho7 hb hg_ hnew_; clear hg_ hnew_; (first | rw [← As.out] at ho7 | (simp only [Int.reduceToNat] at ho7; rw [← As.out] at ho7)); have An := Zz.mk (Kd.R_lower ho7 (aq xbl)); replace HB := xst hb; clear hb ho7) | ((with_reducible refine xgc (f := 101) rfl ?_); refine xgl 15 Tryz.func101 #[.string a0, .int .u8 58] ?_; (with_reducible refine (ig (w := _) (h := A5.out)).mono ?_); rintro e w8 ⟨v592, rfl, ho0, hb⟩; refine ⟨_, rfl, ?_⟩; have AF := Zz.mk (Kd.R_lower ho0 (aq xbl)); replace An := Zz.mk (Kd.R_below (xkd An) hb); replace HB := xst hb; (try clear hb); (try clear ho0)))
 go_loopg [4, 6] k (fun kq v4 v6 w' => ∃ (Ak : List Int) (Ae : Int), v6 = .int .i64 Ae ∧ Zz (cp kq Ak Aj Ae = some (r1, r2)) ∧ Zz (kq ≤ k) ∧ Zz (Kd.R (Kd.int .i64) 3 w' w.heap.size (fun _ => True) v4 Ak) ∧ Zz (Kd.R Kd.string 9 w' w.heap.size (fun _ => True) v592 Aj) ∧ Zz (Below w.heap.size w w'))
 case atStart => exact ⟨(AA), (0), xrr, H', ⟨Nat.le_refl _⟩, ⟨xkd An⟩, ⟨xkd AF⟩, ⟨xbl⟩⟩
 case round => (
 clear H'
 clear AD AE
 obtain ⟨Ak, Ae, rfl, HA, HK1, Ad, Ac, HB⟩ := hrel
 cases gk with
 | zero => exact absurd HA.out (by simp [cp])
 | succ k1 => (
 have H := HA.out
 clear HA
 simp only [cp] at H
 refine xid H ?_ ?_ <;> clear H <;> intro c9 H
 {
 have AG := xdt c9
 clear c9
 refine xin H ?_; clear H; intro c10 H
 have AH := xdt c10
 clear c10
 replace H := xbd H
 obtain ⟨⟨Af, Ag, Ah, Ai, AU⟩, A11, H⟩ := H
 try dsimp only at H
 have AB := Zz.mk H
 clear H
 obtain ⟨Ao13, co13, eo13⟩ := Kd.R_slice Ac.out
 subst eo13
 have p594 : 0 ≤ (Ae : Int) := xod
 have q594 : Ae < (Aj.length : Int) := xod
 obtain ⟨At, e594, Ax⟩ := Kd.at_string (Kd.R_reads' Ac.out).2.2 Ae p594 q594
 cases e594
 replace p594 := eq_true p594
 replace q594 := eq_true q594
 try (have AI := q594; simp only [ByteArray.size_extract, Nat.min_self] at AI)
 go_upto_region 9 with (first | ((with_reducible refine xgc (f := 85) rfl ?_); refine xca 27 Tryz.func85 (gO (w := _) (h := A11.out)) ?_; rintro w14 hb; replace Ad := Zz.mk (Kd.R_below (xkd Ad) hb); replace Ac := Zz.mk (Kd.R_below (xkd Ac) hb); replace HB := xst hb; (try clear hb)) | ((with_reducible refine aj (N := 7) rfl ?_); (try (refine cb (by rfl) ?_; dsimp only)); refine xew 7 ?_; intro Aa w15 Ab AR hb hg; replace Ad := Zz.mk (Kd.R_below (xkd Ad) hb); replace Ac := Zz.mk (Kd.R_below (xkd Ac) hb); replace HB := xst hb; clear hb hg; have AV := xz4 Ab.out))
 (try simp only [Act.put, xl1, xl2, xl3])
 go_cut [37] (fun v37 wc => ∃ kq Ar, v37 = .bool Ar ∧ Zz (dr kq Ak Aj Ae Ar Af Ag Ah Ai = some (r1, r2)) ∧ Zz (kq ≤ k1) ∧ Zz (Kd.R (Kd.int .i64) 3 wc w.heap.size (fun _ => True) u4 Ak) ∧ Zz (Kd.R Kd.string 9 wc w.heap.size (fun _ => True) (.slice (some At) Aj.length co13) Aj) ∧ Zz (wc.heap[Aa]? = some (.cells #[.int .i64 Af, .int .i64 Ag, .int .i64 Ah, .int .i64 Ai] 107 (0, 0))) ∧ Zz (Below w.heap.size w wc))
 case first => (
 have H := AB.out
 clear AB
 refine xib H ?_ ?_ <;> clear H <;> rintro rfl H
 {
 replace H := xa H
 go_wp2
 go_meet
 case rel => exact ⟨_, ((Ae == (wrap64 ((Aj.length : Int) - 1)))), xrr, H, ⟨xoj HK1⟩, ⟨by (with_reducible repeat (first | apply Kd.R_alloc | apply Kd.R_drewN | apply Kd.R_drew)); exact Kd.R_mono (Kd.R_far (p := ⟨Aa, 3, none⟩) (Kd.R_far (p := ⟨Aa, 2, none⟩) (Kd.R_far (p := ⟨Aa, 1, none⟩) (Kd.R_far (p := ⟨Aa, 0, none⟩) (Kd.R_types Ad.out Ab.out (by decide)) (fun _ hk => hk.2) (.int .i64 Af)) (fun _ hk => hk.2) (.int .i64 Ag)) (fun _ hk => hk.2) (.int .i64 Ah)) (fun _ hk => hk.2) (.int .i64 Ai)) (fun _ hk => trivial)⟩, ⟨by (with_reducible repeat (first | apply Kd.R_alloc | apply Kd.R_drewN | apply Kd.R_drew)); exact Kd.R_mono (Kd.R_far (p := ⟨Aa, 3, none⟩) (Kd.R_far (p := ⟨Aa, 2, none⟩) (Kd.R_far (p := ⟨Aa, 1, none⟩) (Kd.R_far (p := ⟨Aa, 0, none⟩) (Kd.R_types Ac.out Ab.out (by decide)) (fun _ hk => hk.2) (.int .i64 Af)) (fun _ hk => hk.2) (.int .i64 Ag)) (fun _ hk => hk.2) (.int .i64 Ah)) (fun _ hk => hk.2) (.int .i64 Ai)) (fun _ hk => trivial)⟩, ⟨xbK⟩, ⟨xbl⟩⟩
 }
 replace H := xa H
 go_wp2
 go_meet
 case rel => exact ⟨_, (false), xrr, H, ⟨xoj HK1⟩, ⟨by (with_reducible repeat (first | apply Kd.R_alloc | apply Kd.R_drewN | apply Kd.R_drew)); exact Kd.R_mono (Kd.R_far (p := ⟨Aa, 3, none⟩) (Kd.R_far (p := ⟨Aa, 2, none⟩) (Kd.R_far (p := ⟨Aa, 1, none⟩) (Kd.R_far (p := ⟨Aa, 0, none⟩) (Kd.R_types Ad.out Ab.out (by decide)) (fun _ hk => hk.2) (.int .i64 Af)) (fun _ hk => hk.2) (.int .i64 Ag)) (fun _ hk => hk.2) (.int .i64 Ah)) (fun _ hk => hk.2) (.int .i64 Ai)) (fun _ hk => trivial)⟩, ⟨by (with_reducible repeat (first | apply Kd.R_alloc | apply Kd.R_drewN | apply Kd.R_drew)); exact Kd.R_mono (Kd.R_far (p := ⟨Aa, 3, none⟩) (Kd.R_far (p := ⟨Aa, 2, none⟩) (Kd.R_far (p := ⟨Aa, 1, none⟩) (Kd.R_far (p := ⟨Aa, 0, none⟩) (Kd.R_types Ac.out Ab.out (by decide)) (fun _ hk => hk.2) (.int .i64 Af)) (fun _ hk => hk.2) (.int .i64 Ag)) (fun _ hk => hk.2) (.int .i64 Ah)) (fun _ hk => hk.2) (.int .i64 Ai)) (fun _ hk => trivial)⟩, ⟨xbK⟩, ⟨xbl⟩⟩
 )
 case rest => (
 clear AB
 clear AG AH p594 q594
 try clear Ax
 obtain ⟨kq, Ar, rfl, HA, HJ11, Ad, Ac, Ab, HB⟩ := hcut
 cases kq with
 | zero => exact absurd HA.out (by simp [dr])
 | succ kj11 => (
 have H := HA.out
 clear HA
 simp only [dr] at H
 refine xib H ?_ ?_ <;> clear H <;> rintro rfl H
 {
 obtain ⟨Au, Ao⟩ : ∃ y_ : List Int, y_ = (([wrap64 ((wrap64 (256 * Af)) + Ag), wrap64 ((wrap64 (256 * Ah)) + Ai)] : List Int)) := ⟨_, rfl⟩
 replace H : (if Ak.length + Au.length < 17592186044416 then (some ((Ak ++ Au), true)) else (none)) = some (r1, r2) := by first | (rw [Ao]; with_reducible exact H) | (have H2_ := (Option.bind_some _ _).symm.trans H; rw [Ao]; with_reducible exact H2_) | (have H2_ := (Option.bind_some _ _).symm.trans H; with_reducible exact H2_) | with_reducible exact H | (rw [Ao]; exact H) | exact H
 have Az := Zz.mk Ao
 clear Ao
 refine xin H ?_; clear H; intro c19 H
 have LMc19 := Zz.mk c19
 clear c19
 obtain ⟨AQ, Ap⟩ : ∃ y_ : List Int, y_ = (Ak ++ Au) := ⟨_, rfl⟩
 replace H : (some (AQ, true)) = some (r1, r2) := by first | (rw [Ap]; with_reducible exact H) | (have H2_ := (Option.bind_some _ _).symm.trans H; rw [Ap]; with_reducible exact H2_) | (have H2_ := (Option.bind_some _ _).symm.trans H; with_reducible exact H2_) | with_reducible exact H | (rw [Ap]; exact H) | exact H
 have AJ := Zz.mk Ap
 clear Ap
 simp only [Option.some.injEq, Prod.mk.injEq] at H
 obtain ⟨rfl, rfl⟩ := H
 have AW := xz4 Ab.out
 go_wp2_with (first | ((with_reducible refine aj (N := 51) rfl ?_); (try (refine cb (by rfl) ?_; dsimp only)); refine Kd.R_lit (Kd.int .i64) _ 3 ?hg (N := 51) ?hd (xs := ([wrap64 ((wrap64 (256 * Af)) + Ag), wrap64 ((wrap64 (256 * Ah)) + Ai)] : List Int)) (inner := [.int .i64 (wrap64 ((wrap64 (256 * Af)) + Ag)), .int .i64 (wrap64 ((wrap64 (256 * Ah)) + Ai))]) (ok := fun _ => True) (okp := fun _ => True) ?hr ?hp (fun _ hk => hk) trivial (Below.refl _ _) (Nat.le_refl _) (by simp) ?_; (case hd => rfl); (case hg => rfl); (case hr => first | (go_simp; done) | (go_simp; rfl)); (case hp => exact (Reps.one (show Kd.M (Kd.int .i64) _ _ _ (wrap64 ((wrap64 (256 * Af)) + Ag)) [.int .i64 (wrap64 ((wrap64 (256 * Af)) + Ag))] from rfl) (Reps.one (show Kd.M (Kd.int .i64) _ _ _ (wrap64 ((wrap64 (256 * Ah)) + Ai)) [.int .i64 (wrap64 ((wrap64 (256 * Ah)) + Ai))] from rfl) (Reps.none _ _)))); intro v602 w21 ho22 hb hg_ hnew_; clear hg_ hnew_; (first | rw [← Az.out] at ho22 | (simp only [Int.reduceToNat] at ho22; rw [← Az.out] at ho22)); have Al := Zz.mk (Kd.R_lower (Kd.R_new' ho22 (Kd.R_lt (xkd Ad))) (aq xbl)); replace Ad := Zz.mk (Kd.R_elder' (xkd Ad) (Kd.R_base ho22) hb); replace Ac := Zz.mk (Kd.R_below (xkd Ac) hb); replace Ab := xbq Aa hb; replace HB := xst hb; clear hb ho22; obtain ⟨Ao24, co24, eo24⟩ := Kd.R_slice Al.out; subst eo24) | ((with_reducible refine gx (b := .append) (xs := #[.tmp 38, .tmp 51]) rfl ?_); (try (refine cb (by rfl) ?_; dsimp only)); at_builtin; refine Kd.R_append_rows (Kd.int .i64) (w0 := w) w.heap.size rfl (.tmp 38) (.tmp 51) 120 3 (.int .i64 0) 8 rfl Tryz.underlying120 xr rfl (by decide) (by omega) u4 Ak Au _ _ _ (fun k_ => some k_ ≠ (.slice Ao24 Au.length co24 : Value).ownBlock) (fun _ => False) rfl rfl ?aO ?aR (fun _ _ h => h) (fun _ h => h.elim) ?aF ?aB ?aS ?aL ?_; (case aR => repeat (first | exact (Kd.R_reads' Al.out).2.2 | (with_reducible refine Kd.C_alloc ?_ _) | (with_reducible refine Kd.C_drewN ?_ _) | (with_reducible refine Kd.C_drew ?_))); (case aB => exact xbl); (case aF => exact (fun k_ hk => Kd.fresh' (Kd.R_lt (xkd Al)) k_ hk)); (case aO => exact (by (with_reducible repeat (first | apply Kd.R_alloc | apply Kd.R_drewN | apply Kd.R_drew)); exact Kd.R_mono Ad.out (fun _ hk => hk.2))); (case aS => exact (aq xbl)); (case aL => have := LMc19.out; first | omega | exact Nat.le_of_lt this); intro v605 w23 ho hb hg hat; rw [← AJ.out] at ho; have n0_ := Zz.mk (Kd.R_over' (xkd Ac) (Kd.R_typed (xkd Ad)) (by decide) hg); have n1_ := Zz.mk (b5 (g := Aa) (o := .cells #[.int .i64 Af, .int .i64 Ag, .int .i64 Ah, .int .i64 Ai] 107 (0, 0)) xbk hg (Kd.R_ne Ad.out Ab.out (by decide))); have n2_ := Zz.mk (Kd.R_after (ok := (fun _ => True)) (xkd Al) hg hat); have n3_ := Zz.mk (hb); have n4_ := Zz.mk (ho); clear Ac; clear Ab; clear Al; clear HB; clear Ad; have Ac := n0_; have Ab := n1_; have Al := n2_; have HB := n3_; have AK := n4_; clear n0_ n1_ n2_ n3_ n4_; clear ho hb hg hat))
 go_ret2
 exact ⟨_, by first | rfl | (simp [b7, b8] <;> first | rfl | (simp only [fx, bne, Bool.not_not]; done)) | (simp [*, b7, b8] <;> rfl), by (with_reducible repeat (first | apply Kd.R_alloc | apply Kd.R_drewN | apply Kd.R_drew)); exact Kd.R_mono AK.out (fun _ hk => trivial), xbl⟩
 }
 refine xin H ?_; clear H; intro c25 H
 have AS := xdt c25
 clear c25
 refine xin H ?_; clear H; intro c26 H
 have AT := xdt c26
 clear c26
 replace H := xbd H
 obtain ⟨AC, A27, H⟩ := H
 try dsimp only at H
 refine xid H ?_ ?_ <;> clear H <;> intro c28 H
 {
 have AL := xdt c28
 clear c28
 simp only [Option.some.injEq, Prod.mk.injEq] at H
 obtain ⟨rfl, rfl⟩ := H
 have p607 : 0 ≤ (Ae : Int) := xod
 have q607 : Ae < (Aj.length : Int) := xod
 obtain ⟨Av, e607, Ay⟩ := Kd.at_string (Kd.R_reads' Ac.out).2.2 Ae p607 q607
 obtain rfl : At = Av := (by injection e607)
 replace p607 := eq_true p607
 replace q607 := eq_true q607
 try (have Aw := q607; simp only [ByteArray.size_extract, Nat.min_self] at Aw)
 go_wp2_with (first | ((with_reducible refine xgc (f := 109) rfl ?_); refine xca 57 Tryz.func109 (jR (w := _) (h := A27.out)) ?_; rintro w' ⟨nd, rfl⟩))
 go_ret2
 exact ⟨_, by first | rfl | (simp [b7, b8] <;> first | rfl | (simp only [fx, bne, Bool.not_not]; done)) | (simp [*, b7, b8] <;> rfl), by first | exact Kd.R_nil _ _ _ _ _ | exact Kd.N_nil _ _ _ _ _ | exact Kd.V_nil _ _ _ _ _ | exact Kd.Q_nil _ _ _ _ _ | exact Kd.S_nil _ _ _ _ _, xbl⟩
 }
 have AL := xdf c28
 clear c28
 refine xin H ?_; clear H; intro c29 H
 have LMc29 := Zz.mk c29
 clear c29
 obtain ⟨AM, Aq⟩ : ∃ y_ : List Int, y_ = (Ak ++ [AC]) := ⟨_, rfl⟩
 replace H : (cp kj11 AM Aj (wrap64 (Ae + 1))) = some (r1, r2) := by first | (rw [Aq]; with_reducible exact H) | (have H2_ := (Option.bind_some _ _).symm.trans H; rw [Aq]; with_reducible exact H2_) | (have H2_ := (Option.bind_some _ _).symm.trans H; with_reducible exact H2_) | with_reducible exact H | (rw [Aq]; exact H) | exact H
 have AN := Zz.mk Aq
 clear Aq
 replace H := xa H
 have p607 : 0 ≤ (Ae : Int) := xod
 have q607 : Ae < (Aj.length : Int) := xod
 obtain ⟨Av, e607, Ay⟩ := Kd.at_string (Kd.R_reads' Ac.out).2.2 Ae p607 q607
 obtain rfl : At = Av := (by injection e607)
 replace p607 := eq_true p607
 replace q607 := eq_true q607
 try (have Aw := q607; simp only [ByteArray.size_extract, Nat.min_self] at Aw)
 go_wp2_with (first | ((with_reducible refine xgc (f := 109) rfl ?_); refine xca 57 Tryz.func109 (jR (w := _) (h := A27.out)) ?_; rintro w' ⟨nd, rfl⟩) | ((with_reducible refine gx (b := .append) (xs := #[.tmp 60, .tmp 62]) rfl ?_); (try (refine cb (by rfl) ?_; dsimp only)); at_builtin; refine Kd.R_append (Kd.int .i64) (w0 := w) w.heap.size rfl (.tmp 60) (.tmp 62) 120 3 (.int .i64 0) 8 rfl Tryz.underlying120 xr rfl (by decide) (by omega) u4 Ak AC [.int .i64 AC] (fun _ => True) (fun _ => False) rfl rfl ?aP (fun _ hk => hk.elim) ?aF ?aO ?aB ?aS ?aL ?_; (case aP => exact rfl); (case aB => exact xbl); (case aF => exact (fun _ _ => trivial)); (case aO => exact (xkd Ad)); (case aS => exact (aq xbl)); (case aL => have := LMc29.out; first | omega | exact Nat.le_of_lt this); intro v610 w30 ho hb hg hat; rw [← AN.out] at ho; have n0_ := Zz.mk (Kd.R_over' (xkd Ac) (Kd.R_typed (xkd Ad)) (by decide) hg); have n1_ := Zz.mk (b5 (g := Aa) (o := .cells #[.int .i64 Af, .int .i64 Ag, .int .i64 Ah, .int .i64 Ai] 107 (0, 0)) xbk hg (Kd.R_ne Ad.out Ab.out (by decide))); have n2_ := Zz.mk (hb); have n3_ := Zz.mk (ho); clear Ac; clear Ab; clear HB; clear Ad; have Ac := n0_; have Ab := n1_; have HB := n2_; have AO := n3_; clear n0_ n1_ n2_ n3_; clear ho hb hg hat))
 go_roundg kj11
 case measure => have := HK1.out; have := HJ11.out; omega
 case rel => exact ⟨(AM), (wrap64 (Ae + 1)), xrr, H, ⟨by have := HK1.out; have := HJ11.out; omega⟩, ⟨xkd AO⟩, ⟨xkd Ac⟩, ⟨xbl⟩⟩
 )
 )
 }
 have AG := xdf c9
 clear c9
 simp only [Option.some.injEq, Prod.mk.injEq] at H
 obtain ⟨rfl, rfl⟩ := H
 obtain ⟨Ao31, co31, eo31⟩ := Kd.R_slice Ac.out
 subst eo31
 go_wp2
 go_ret2
 exact ⟨_, by first | rfl | (simp [b7, b8] <;> first | rfl | (simp only [fx, bne, Bool.not_not]; done)) | (simp [*, b7, b8] <;> rfl), by (with_reducible repeat (first | apply Kd.R_alloc | apply Kd.R_drewN | apply Kd.R_drew)); exact Ad.out, xbl⟩
 )
 )
end Go.Proofs.YtpmflpeckoeooaaGreatDoor.X
