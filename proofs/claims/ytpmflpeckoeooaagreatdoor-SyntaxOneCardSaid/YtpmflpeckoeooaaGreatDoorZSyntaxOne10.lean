/- Texts that the law's proof needs, joined by a program of this session. -/
import Derived.Test.YtpmflpeckoeooaaGreatDoorZSyntaxOne1
import Derived.Test.YtpmflpeckoeooaaGreatDoorZSyntaxOne7
import Derived.Test.YtpmflpeckoeooaaGreatDoorZSyntaxOne8
import Derived.Test.YtpmflpeckoeooaaGreatDoorZSyntaxOne9
set_option maxHeartbeats 8000000
set_option maxRecDepth 100000
namespace Go.Proofs.YtpmflpeckoeooaaGreatDoor.X
open Go.RowKit Go.Proofs.YtpmflpeckoeooaaGreatDoorW.PrintWords Go.Proofs.YtpmflpeckoeooaaGreatDoorW.PrintLast Go.Proofs.YtpmflpeckoeooaaGreatDoorW.PrintMore
attribute [local go_sem] dK cY fS ip cT gD cg gy gA ik il fL fM gz gB
set_option linter.unusedVariables false
set_option linter.unusedSimpArgs false
mutual
def bZ : Nat → Bool → ByteArray → List (S67) → Int → Option ((List (S67)))
  | 0, _, _, _, _ => none
  | k + 1, x0, x1, x5, x6 => if x6 < (x1.size : Int) then (if x6 ≥ 0 then (if 0 ≤ x6 then (dq k x0 x1 x5 x6 ((bt x1 x6) != 64)) else (none)) else (dq k x0 x1 x5 x6 false)) else (some x5)
def dq : Nat → Bool → ByteArray → List (S67) → Int → Bool → Option ((List (S67)))
  | 0, _, _, _, _, _ => none
  | k + 1, x0, x1, x5, x6, x23 => if x23 = true then (bZ k x0 x1 x5 (wrap64 (x6 + 1))) else (bm k x0 x1 x5 x6 (wrap64 (x6 + 1)))
def bm : Nat → Bool → ByteArray → List (S67) → Int → Int → Option ((List (S67)))
  | 0, _, _, _, _, _ => none
  | k + 1, x0, x1, x5, x6, x7 => if x7 ≤ (x1.size : Int) then (if x7 < (x1.size : Int) then (if 0 ≤ x7 then (dr k x0 x1 x5 x6 x7 ((bt x1 x7) != 58)) else (none)) else (dr k x0 x1 x5 x6 x7 false)) else (bZ k x0 x1 x5 (wrap64 (x6 + 1)))
def dr : Nat → Bool → ByteArray → List (S67) → Int → Int → Bool → Option ((List (S67)))
  | 0, _, _, _, _, _, _ => none
  | k + 1, x0, x1, x5, x6, x7, x41 => if x41 = true then (bm k x0 x1 x5 x6 (wrap64 (x7 + 1))) else (if 0 ≤ (wrap64 (x6 + 1)) then (if (wrap64 (x6 + 1)) ≤ x7 then (if x7 ≤ (x1.size : Int) then (if x6 ≥ 0 then (if 0 ≤ x6 then (if x6 ≤ (x1.size : Int) then (es k x0 x1 x5 x6 x7 true (x1.extract 0 (x6 : Int).toNat) (x1.extract ((wrap64 (x6 + 1)) : Int).toNat (x7 : Int).toNat) false (⟨#[]⟩ : ByteArray)) else (none)) else (none)) else (es k x0 x1 x5 x6 x7 false (⟨#[]⟩ : ByteArray) (x1.extract ((wrap64 (x6 + 1)) : Int).toNat (x7 : Int).toNat) false (⟨#[]⟩ : ByteArray))) else (none)) else (none)) else (none))
def es : Nat → Bool → ByteArray → List (S67) → Int → Int → Bool → ByteArray → ByteArray → Bool → ByteArray → Option ((List (S67)))
  | 0, _, _, _, _, _, _, _, _, _, _ => none
  | k + 1, x0, x1, x5, x6, x7, Aa, Ab, Ac, Ad, Ae => if x7 < (x1.size : Int) then (if 0 ≤ (wrap64 (x7 + 1)) then (if (wrap64 (x7 + 1)) ≤ (x1.size : Int) then ((eT k x0 Aa Ab Ac true (x1.extract ((wrap64 (x7 + 1)) : Int).toNat x1.size)).bind fun Af => (if Af = true then (if x5.length < 2199023255552 then (bm k x0 x1 (x5 ++ [(⟨Aa, Ab, Ac, true, x1.extract ((wrap64 (x7 + 1)) : Int).toNat x1.size⟩ : S67)]) x6 (wrap64 (x7 + 1))) else (none)) else (bm k x0 x1 x5 x6 (wrap64 (x7 + 1))))) else (none)) else (none)) else ((eT k x0 Aa Ab Ac Ad Ae).bind fun Ag => (if Ag = true then (if x5.length < 2199023255552 then (bm k x0 x1 (x5 ++ [(⟨Aa, Ab, Ac, Ad, Ae⟩ : S67)]) x6 (wrap64 (x7 + 1))) else (none)) else (bm k x0 x1 x5 x6 (wrap64 (x7 + 1)))))
end
def gP (k : Nat) (a0 : Bool) (a1 : ByteArray) : Option ((List (S67))) := bZ k a0 a1 (([] : List (S67))) (-1)
theorem nC (k : Nat) (a0 : Bool) (a1 : ByteArray) (r : List (S67)) (w : World) (h : gP k a0 a1 = some r) :
    Calls Tryz.prog 38 #[.bool a0, .string a1] w fun e w' => ∃ v0_ : Value, e = .returned (v0_) ∧ Kd.R k67 67 w' w.heap.size (fun _ => True) v0_ r ∧ Below w.heap.size w w' := by
 have hu67 := Tryz.underlying67
 have HB := Zz.mk (Below.refl w.heap.size w)
 have H := h
 clear h
 unfold gP at H
 obtain ⟨AF, Ao⟩ : ∃ y_ : List (S67), y_ = (([] : List (S67))) := ⟨_, rfl⟩
 replace H : (bZ k a0 a1 AF (-1)) = some r := by first | (rw [Ao]; with_reducible exact H) | (have H2_ := (Option.bind_some _ _).symm.trans H; rw [Ao]; with_reducible exact H2_) | (have H2_ := (Option.bind_some _ _).symm.trans H; with_reducible exact H2_) | with_reducible exact H | (rw [Ao]; exact H) | exact H
 have Az := Zz.mk Ao
 clear Ao
 have H' := Zz.mk H
 clear H
 go_enter Tryz.func38, Tryz.ntmps38
 go_wp2_with (first | ((with_reducible refine aj (N := 9) rfl ?_); refine Kd.R_lit k67 _ 67 ?hg (N := 9) ?hd (xs := ([] : List (S67))) (inner := []) (ok := fun _ => True) (okp := fun _ => True) ?hr ?hp (fun _ hk => hk) trivial (Below.refl _ _) (Nat.le_refl _) (by simp) ?_; (case hd => rfl); (case hg => rfl); (case hr => first | (go_simp; done) | (go_simp; rfl)); (case hp => exact (Reps.none _ _)); intro v656 w3 ho4 hb hg_ hnew_; clear hg_ hnew_; (first | rw [← Az.out] at ho4 | (simp only [Int.reduceToNat] at ho4; rw [← Az.out] at ho4)); have AG := Zz.mk (Kd.R_lower ho4 (ar xbl)); replace HB := xst hb; clear hb ho4))
 go_loopg [5, 6] k (fun kq v5 v6 w' => ∃ (At : List (S67)) (Ag : Int), v6 = .int .i64 Ag ∧ Zz (bZ kq a0 a1 At Ag = some r) ∧ Zz (kq ≤ k) ∧ Zz (Kd.R k67 67 w' w.heap.size (fun _ => True) v5 At) ∧ Zz (Below w.heap.size w w'))
 case atStart => exact ⟨(AF), ((-1)), xrr, H', ⟨Nat.le_refl _⟩, ⟨xkd AG⟩, ⟨xbl⟩⟩
 case round => (
 clear H'
 obtain ⟨At, Ag, rfl, HA, HK1, Ad, HB⟩ := hrel
 cases gk with
 | zero => exact absurd HA.out (by simp [bZ])
 | succ k1 => (
 have H := HA.out
 clear HA
 simp only [bZ] at H
 refine xid H ?_ ?_ <;> clear H <;> intro c5 H
 {
 have AH := xdt c5
 clear c5
 have AX := Zz.mk H
 clear H
 go_upto_region 5 with (fail)
 go_cut [23] (fun v23 wc => ∃ kq Av, v23 = .bool Av ∧ Zz (dq kq a0 a1 At Ag Av = some r) ∧ Zz (kq ≤ k1) ∧ Zz (Kd.R k67 67 wc w.heap.size (fun _ => True) u5 At) ∧ Zz (Below w.heap.size w wc))
 case first => (
 have H := AX.out
 clear AX
 refine xid H ?_ ?_ <;> clear H <;> intro c7 H
 {
 have Aw := xdt c7
 clear c7
 (first | rw [Aw] | (simp only [ao, aq]; rw [Aw]) | skip)
 refine xin H ?_; clear H; intro c8 H
 have Ba := xdt c8
 clear c8
 replace H := xa H
 obtain ⟨p9, q9, hx9⟩ := xiv a1 Ag xod xod
 go_wp2
 go_meet
 case rel => exact ⟨_, (((bt a1 Ag) != 64)), xrr, H, ⟨xoj HK1⟩, ⟨xkd Ad⟩, ⟨xbl⟩⟩
 }
 have Aw := xdf c7
 clear c7
 (first | rw [Aw] | (simp only [ao, aq]; rw [Aw]) | skip)
 replace H := xa H
 go_wp2
 go_meet
 case rel => exact ⟨_, (false), xrr, H, ⟨xoj HK1⟩, ⟨xkd Ad⟩, ⟨xbl⟩⟩
 )
 case rest => (
 clear AX
 clear AH
 obtain ⟨kq, Av, rfl, HA, HJ5, Ad, HB⟩ := hcut
 cases kq with
 | zero => exact absurd HA.out (by simp [dq])
 | succ kj5 => (
 have H := HA.out
 clear HA
 simp only [dq] at H
 refine xib H ?_ ?_ <;> clear H <;> rintro rfl H
 {
 replace H := xa H
 go_wp2
 go_roundg kj5
 case measure => have := HK1.out; have := HJ5.out; omega
 case rel => exact ⟨(At), (wrap64 (Ag + 1)), xrr, H, ⟨by have := HK1.out; have := HJ5.out; omega⟩, ⟨xkd Ad⟩, ⟨xbl⟩⟩
 }
 have H' := Zz.mk H
 clear H
 go_wp2
 go_loopg [5, 7] kj5 (fun kq v5 v7 w' => ∃ (Ai : List (S67)) (Aj : Int), v7 = .int .i64 Aj ∧ Zz (bm kq a0 a1 Ai Ag Aj = some r) ∧ Zz (kq ≤ kj5) ∧ Zz (Kd.R k67 67 w' w.heap.size (fun _ => True) v5 Ai) ∧ Zz (Below w.heap.size w w'))
 case atStart => exact ⟨(At), (wrap64 (Ag + 1)), xrr, H', ⟨Nat.le_refl _⟩, ⟨xkd Ad⟩, ⟨xbl⟩⟩
 case round => (
 clear H'
 obtain ⟨Ai, Aj, rfl, HA, HK3, Ad, HB⟩ := hrel
 cases gk with
 | zero => exact absurd HA.out (by simp [bm])
 | succ k3 => (
 have H := HA.out
 clear HA
 simp only [bm] at H
 refine xid H ?_ ?_ <;> clear H <;> intro c11 H
 {
 have AA := xdt c11
 clear c11
 have AB := Zz.mk H
 clear H
 go_upto_region 9 with (fail)
 go_cut [41] (fun v41 wc => ∃ kq Au, v41 = .bool Au ∧ Zz (dr kq a0 a1 Ai Ag Aj Au = some r) ∧ Zz (kq ≤ k3) ∧ Zz (Kd.R k67 67 wc w.heap.size (fun _ => True) u5 Ai) ∧ Zz (Below w.heap.size w wc))
 case first => (
 have H := AB.out
 clear AB
 refine xid H ?_ ?_ <;> clear H <;> intro c13 H
 {
 have Ap := xdt c13
 clear c13
 (first | rw [Ap] | (simp only [ao, aq]; rw [Ap]) | skip)
 refine xin H ?_; clear H; intro c14 H
 have A0 := xdt c14
 clear c14
 replace H := xa H
 obtain ⟨p15, q15, hx15⟩ := xiv a1 Aj xod xod
 go_wp2
 go_meet
 case rel => exact ⟨_, (((bt a1 Aj) != 58)), xrr, H, ⟨by have := HK1.out; have := HJ5.out; have := HK3.out; first | omega | exact Nat.le_refl _⟩, ⟨xkd Ad⟩, ⟨xbl⟩⟩
 }
 have Ap := xdf c13
 clear c13
 (first | rw [Ap] | (simp only [ao, aq]; rw [Ap]) | skip)
 replace H := xa H
 go_wp2
 go_meet
 case rel => exact ⟨_, (false), xrr, H, ⟨by have := HK1.out; have := HJ5.out; have := HK3.out; first | omega | exact Nat.le_refl _⟩, ⟨xkd Ad⟩, ⟨xbl⟩⟩
 )
 case rest => (
 clear AB
 clear AA
 obtain ⟨kq, Au, rfl, HA, HJ11, Ad, HB⟩ := hcut
 cases kq with
 | zero => exact absurd HA.out (by simp [dr])
 | succ kj11 => (
 have H := HA.out
 clear HA
 simp only [dr] at H
 refine xib H ?_ ?_ <;> clear H <;> rintro rfl H
 {
 replace H := xa H
 go_wp2
 go_roundg kj11
 case measure => have := HK1.out; have := HJ5.out; have := HK3.out; have := HJ11.out; omega
 case rel => exact ⟨(Ai), (wrap64 (Aj + 1)), xrr, H, ⟨by have := HK1.out; have := HJ5.out; have := HK3.out; have := HJ11.out; omega⟩, ⟨xkd Ad⟩, ⟨xbl⟩⟩
 }
 obtain ⟨AI, Ak⟩ : ∃ j_ : Int, (wrap64 (Ag + 1)) = j_ := ⟨_, rfl⟩
 first | rw [Ak] at H | simp only [Ak] at H | skip
 have AY : (IntKind.i64.wrap (Ag + 1)) = AI := (ao _).trans Ak
 refine xin H ?_; clear H; intro c18 H
 obtain ⟨AJ, AK⟩ := xcp c18
 clear c18
 refine xin H ?_; clear H; intro c19 H
 obtain ⟨AL, AM⟩ := xcp c19
 clear c19
 refine xin H ?_; clear H; intro c20 H
 obtain ⟨AN, AO⟩ := xcp c20
 clear c20
 obtain ⟨Af, Ah⟩ : ∃ j_ : ByteArray, (a1.extract ((AI) : Int).toNat (Aj : Int).toNat) = j_ := ⟨_, rfl⟩
 try (have AC := Ah; simp only [Int.toNat_natCast] at AC)
 first | rw [Ah] at H | simp only [Ah] at H | skip
 have AD := Zz.mk H
 clear H
 go_upto_if 49 with (first | ((with_reducible refine aj (N := 8) rfl ?_); refine xew 8 ?_; intro Ac w23 Ae A1 hb hg; replace Ad := Zz.mk (Kd.R_below (Kd.R_elderB (xkd Ad) Ac (Nat.le_of_eq hg.symm)) hb); replace HB := xst hb; clear hb hg; have Bb := xz5 Ae.out))
 (try simp only [Act.put, xl1, xl2, xl3])
 go_cut [] (fun wc => ∃ kq Aa Ab, Zz (es kq a0 a1 Ai Ag Aj Aa Ab Af false (⟨#[]⟩ : ByteArray) = some r) ∧ Zz (kq ≤ kj11) ∧ Zz (Kd.R k67 67 wc w.heap.size (fun k_ => k_ ≠ Ac) u5 Ai) ∧ Zz (wc.heap[Ac]? = some (.cells #[.bool Aa, .string Ab, .string Af, .bool false, .string (⟨#[]⟩ : ByteArray)] 67 (0, 0))) ∧ Zz (Below w.heap.size w wc))
 case first => (
 have H := AD.out
 clear AD
 refine xid H ?_ ?_ <;> clear H <;> intro c25 H
 {
 have Aq := xdt c25
 clear c25
 (first | rw [Aq] | (simp only [ao, aq]; rw [Aq]) | skip)
 refine xin H ?_; clear H; intro c26 H
 obtain ⟨A2, A3⟩ := xcp c26
 clear c26
 refine xin H ?_; clear H; intro c27 H
 obtain ⟨A4, A5⟩ := xcp c27
 clear c27
 obtain ⟨AP, Ax⟩ : ∃ j_ : ByteArray, (a1.extract 0 (Ag : Int).toNat) = j_ := ⟨_, rfl⟩
 try (have AE := Ax; simp only [Int.toNat_natCast] at AE)
 first | rw [Ax] at H | simp only [Ax] at H | skip
 replace H := xa H
 have Bc := xz5 Ae.out
 go_wp2
 go_meet
 case rel => exact ⟨_, (true), (AP), H, ⟨by have := HK1.out; have := HJ5.out; have := HK3.out; have := HJ11.out; first | omega | exact Nat.le_refl _⟩, ⟨by (with_reducible repeat (first | apply Kd.R_alloc | apply Kd.R_drewN | apply Kd.R_drew)); exact Kd.R_mono (Kd.R_far (p := ⟨Ac, 1, none⟩) (Kd.R_far (p := ⟨Ac, 0, none⟩) (Kd.R_far (p := ⟨Ac, 4, none⟩) (Kd.R_far (p := ⟨Ac, 3, none⟩) (Kd.R_far (p := ⟨Ac, 2, none⟩) (Kd.R_far (p := ⟨Ac, 1, none⟩) (Kd.R_far (p := ⟨Ac, 0, none⟩) (Kd.R_mono Ad.out (fun k_ hk => (⟨hk, hk.2⟩ : _ ∧ k_ ≠ Ac))) (fun _ hk => hk.2) (.bool false)) (fun _ hk => hk.2) (.string (⟨#[]⟩ : ByteArray))) (fun _ hk => hk.2) (.string Af)) (fun _ hk => hk.2) (.bool false)) (fun _ hk => hk.2) (.string (⟨#[]⟩ : ByteArray))) (fun _ hk => hk.2) (.bool true)) (fun _ hk => hk.2) (.string AP)) (fun _ hk => hk.1.2)⟩, ⟨xbK⟩, ⟨xbl⟩⟩
 }
 have Aq := xdf c25
 clear c25
 (first | rw [Aq] | (simp only [ao, aq]; rw [Aq]) | skip)
 replace H := xa H
 go_wp2
 go_meet
 case rel => exact ⟨_, (false), ((⟨#[]⟩ : ByteArray)), H, ⟨by have := HK1.out; have := HJ5.out; have := HK3.out; have := HJ11.out; first | omega | exact Nat.le_refl _⟩, ⟨by (with_reducible repeat (first | apply Kd.R_alloc | apply Kd.R_drewN | apply Kd.R_drew)); exact Kd.R_mono (Kd.R_far (p := ⟨Ac, 4, none⟩) (Kd.R_far (p := ⟨Ac, 3, none⟩) (Kd.R_far (p := ⟨Ac, 2, none⟩) (Kd.R_far (p := ⟨Ac, 1, none⟩) (Kd.R_far (p := ⟨Ac, 0, none⟩) (Kd.R_mono Ad.out (fun k_ hk => (⟨hk, hk.2⟩ : _ ∧ k_ ≠ Ac))) (fun _ hk => hk.2) (.bool false)) (fun _ hk => hk.2) (.string (⟨#[]⟩ : ByteArray))) (fun _ hk => hk.2) (.string Af)) (fun _ hk => hk.2) (.bool false)) (fun _ hk => hk.2) (.string (⟨#[]⟩ : ByteArray))) (fun _ hk => hk.1.2)⟩, ⟨xbK⟩, ⟨xbl⟩⟩
 )
 case rest => (
 clear AD
 clear AJ AK AL AM AN AO
 obtain ⟨kq, Aa, Ab, HA, HJ21, Ad, Ae, HB⟩ := hcut
 cases kq with
 | zero => exact absurd HA.out (by simp [es])
 | succ kj21 => (
 have H := HA.out
 clear HA
 simp only [es] at H
 refine xid H ?_ ?_ <;> clear H <;> intro c30 H
 {
 have AQ := xdt c30
 clear c30
 obtain ⟨Ay, Al⟩ : ∃ j_ : Int, (wrap64 (Aj + 1)) = j_ := ⟨_, rfl⟩
 first | rw [Al] at H | simp only [Al] at H | skip
 have AZ : (IntKind.i64.wrap (Aj + 1)) = Ay := (ao _).trans Al
 refine xin H ?_; clear H; intro c32 H
 obtain ⟨A6, A7⟩ := xcp c32
 clear c32
 refine xin H ?_; clear H; intro c33 H
 obtain ⟨A8, A9⟩ := xcp c33
 clear c33
 obtain ⟨Am, An⟩ : ∃ j_ : ByteArray, (a1.extract ((Ay) : Int).toNat a1.size) = j_ := ⟨_, rfl⟩
 first | rw [An] at H | simp only [An] at H | skip
 replace H := xbd H
 obtain ⟨Bd, A35, H⟩ := H
 try dsimp only at H
 refine xib H ?_ ?_ <;> clear H <;> rintro rfl H
 {
 refine xin H ?_; clear H; intro c37 H
 have LMc37 := Zz.mk c37
 clear c37
 obtain ⟨AR, Ar⟩ : ∃ y_ : List (S67), y_ = (Ai ++ [(⟨Aa, Ab, Af, true, Am⟩ : S67)]) := ⟨_, rfl⟩
 replace H : (bm kj21 a0 a1 AR Ag Ay) = some r := by first | (rw [Ar]; with_reducible exact H) | (have H2_ := (Option.bind_some _ _).symm.trans H; rw [Ar]; with_reducible exact H2_) | (have H2_ := (Option.bind_some _ _).symm.trans H; with_reducible exact H2_) | with_reducible exact H | (rw [Ar]; exact H) | exact H
 have AS := Zz.mk Ar
 clear Ar
 replace H := xa H
 have Be := xz5 Ae.out
 go_wp2_with (first | ((with_reducible refine xgc (f := 52) rfl ?_); refine xca 67 Tryz.func52 (ga (w := _) (h := A35.out)) ?_ (hargs := by (try simp only [xm1, xm2, xm3]); first | done | (simp only [Ah, An]; rfl) | rfl); rintro w39 hb; replace Ad := Zz.mk (Kd.R_below (by (with_reducible repeat (first | apply Kd.R_alloc | apply Kd.R_drewN | apply Kd.R_drew)); exact (Kd.R_mono (Kd.R_far (p := ⟨Ac, 4, none⟩) (Kd.R_far (p := ⟨Ac, 3, none⟩) (Kd.R_mono Ad.out (fun k_ hk => (⟨hk, hk⟩ : _ ∧ k_ ≠ Ac))) (fun _ hk => hk.2) (.bool true)) (fun _ hk => hk.2) (.string Am)) (fun _ h_ => h_.1))) hb); replace Ae := xbb (g := Ac) (o := .cells #[.bool Aa, .string Ab, .string Af, .bool true, .string Am] 67 (0, 0)) hb; replace HB := xst hb; (try clear hb); have Bf := xz5 Ae.out) | ((with_reducible refine ez (b := .append) (xs := #[.tmp 68, .tmp 70]) rfl ?_); at_builtin; refine Kd.R_append k67 (w0 := w) w.heap.size rfl (.tmp 68) (.tmp 70) 59 67 (.agg #[(.bool false), (.string ⟨#[]⟩), (.string ⟨#[]⟩), (.bool false), (.string ⟨#[]⟩)]) 64 rfl Tryz.underlying59 wd rfl (by decide) (by omega) u5 Ai (⟨Aa, Ab, Af, true, Am⟩ : S67) [.bool Aa, .string Ab, .string Af, .bool true, .string Am] (fun k_ => k_ ≠ Ac) (fun _ => False) rfl rfl ?aP (fun _ hk => hk.elim) ?aF ?aO ?aB ?aS ?aL ?_; (case aP => exact uc _ _ _ (⟨Aa, Ab, Af, true, Am⟩ : S67)); (case aB => exact xbl); (case aF => exact (fun k_ hk => Kd.freshB (g := Ac) (o := .cells #[.bool Aa, .string Ab, .string Af, .bool true, .string Am] 67 (0, 0)) xbk k_ hk)); (case aO => exact (xkd Ad)); (case aS => exact (ar xbl)); (case aL => have := LMc37.out; first | omega | exact Nat.le_of_lt this); intro v661 w41 ho hb hg hat; rw [← AS.out] at ho; have n0_ := Zz.mk (ey (g := Ac) (o := .cells #[.bool Aa, .string Ab, .string Af, .bool true, .string Am] 67 (0, 0)) xbk hg (Kd.R_away Ad.out (fun _ hk => hk))); have n1_ := Zz.mk (hb); have n2_ := Zz.mk (ho); clear Ae; clear HB; clear Ad; have Ae := n0_; have HB := n1_; have AT := n2_; clear n0_ n1_ n2_; clear ho hb hg hat))
 first | go_roundg kj21 | (simp only [← Ak, ← Ah, ← Al, ← An]; go_roundg kj21)
 case measure => have := HK1.out; have := HJ5.out; have := HK3.out; have := HJ11.out; have := HJ21.out; omega
 case rel => exact ⟨(AR), (Ay), (by first | rfl | (simp; done) | (simp only [← Al] <;> (first | rfl | simp)) | (simp [*]; done) | (simp [wrap64]; done)), H, ⟨by have := HK1.out; have := HJ5.out; have := HK3.out; have := HJ11.out; have := HJ21.out; omega⟩, ⟨by (with_reducible repeat (first | apply Kd.R_alloc | apply Kd.R_drewN | apply Kd.R_drew)); exact Kd.R_mono AT.out (fun _ hk => trivial)⟩, ⟨xbl⟩⟩
 }
 replace H := xa H
 have Bg := xz5 Ae.out
 go_wp2_with (first | ((with_reducible refine xgc (f := 52) rfl ?_); refine xca 67 Tryz.func52 (ga (w := _) (h := A35.out)) ?_ (hargs := by (try simp only [xm1, xm2, xm3]); first | done | (simp only [Ah, An]; rfl) | rfl); rintro w43 hb; replace Ad := Zz.mk (Kd.R_below (by (with_reducible repeat (first | apply Kd.R_alloc | apply Kd.R_drewN | apply Kd.R_drew)); exact (Kd.R_mono (Kd.R_far (p := ⟨Ac, 4, none⟩) (Kd.R_far (p := ⟨Ac, 3, none⟩) (Kd.R_mono Ad.out (fun k_ hk => (⟨hk, hk⟩ : _ ∧ k_ ≠ Ac))) (fun _ hk => hk.2) (.bool true)) (fun _ hk => hk.2) (.string Am)) (fun _ h_ => h_.1))) hb); replace Ae := xbb (g := Ac) (o := .cells #[.bool Aa, .string Ab, .string Af, .bool true, .string Am] 67 (0, 0)) hb; replace HB := xst hb; (try clear hb)))
 first | go_roundg kj21 | (simp only [← Ak, ← Ah, ← Al, ← An]; go_roundg kj21)
 case measure => have := HK1.out; have := HJ5.out; have := HK3.out; have := HJ11.out; have := HJ21.out; omega
 case rel => exact ⟨(Ai), (Ay), (by first | rfl | (simp; done) | (simp only [← Al] <;> (first | rfl | simp)) | (simp [*]; done) | (simp [wrap64]; done)), H, ⟨by have := HK1.out; have := HJ5.out; have := HK3.out; have := HJ11.out; have := HJ21.out; omega⟩, ⟨by (with_reducible repeat (first | apply Kd.R_alloc | apply Kd.R_drewN | apply Kd.R_drew)); exact Kd.R_mono Ad.out (fun _ hk => trivial)⟩, ⟨xbl⟩⟩
 }
 have AQ := xdf c30
 clear c30
 replace H := xbd H
 obtain ⟨Bh, A44, H⟩ := H
 try dsimp only at H
 refine xib H ?_ ?_ <;> clear H <;> rintro rfl H
 {
 refine xin H ?_; clear H; intro c46 H
 have LMc46 := Zz.mk c46
 clear c46
 obtain ⟨AU, As⟩ : ∃ y_ : List (S67), y_ = (Ai ++ [(⟨Aa, Ab, Af, false, (⟨#[]⟩ : ByteArray)⟩ : S67)]) := ⟨_, rfl⟩
 replace H : (bm kj21 a0 a1 AU Ag (wrap64 (Aj + 1))) = some r := by first | (rw [As]; with_reducible exact H) | (have H2_ := (Option.bind_some _ _).symm.trans H; rw [As]; with_reducible exact H2_) | (have H2_ := (Option.bind_some _ _).symm.trans H; with_reducible exact H2_) | with_reducible exact H | (rw [As]; exact H) | exact H
 have AV := Zz.mk As
 clear As
 replace H := xa H
 have Bi := xz5 Ae.out
 go_wp2_with (first | ((with_reducible refine xgc (f := 52) rfl ?_); refine xca 67 Tryz.func52 (ga (w := _) (h := A44.out)) ?_ (hargs := by (try simp only [xm1, xm2, xm3]); first | done | (simp only [Ah]; rfl) | rfl); rintro w48 hb; replace Ad := Zz.mk (Kd.R_below (xkd Ad) hb); replace Ae := xbq Ac hb; replace HB := xst hb; (try clear hb); have Bj := xz5 Ae.out) | ((with_reducible refine ez (b := .append) (xs := #[.tmp 68, .tmp 70]) rfl ?_); at_builtin; refine Kd.R_append k67 (w0 := w) w.heap.size rfl (.tmp 68) (.tmp 70) 59 67 (.agg #[(.bool false), (.string ⟨#[]⟩), (.string ⟨#[]⟩), (.bool false), (.string ⟨#[]⟩)]) 64 rfl Tryz.underlying59 wd rfl (by decide) (by omega) u5 Ai (⟨Aa, Ab, Af, false, (⟨#[]⟩ : ByteArray)⟩ : S67) [.bool Aa, .string Ab, .string Af, .bool false, .string (⟨#[]⟩ : ByteArray)] (fun k_ => k_ ≠ Ac) (fun _ => False) rfl rfl ?aP (fun _ hk => hk.elim) ?aF ?aO ?aB ?aS ?aL ?_; (case aP => exact uc _ _ _ (⟨Aa, Ab, Af, false, (⟨#[]⟩ : ByteArray)⟩ : S67)); (case aB => exact xbl); (case aF => exact (fun k_ hk => Kd.freshB (g := Ac) (o := .cells #[.bool Aa, .string Ab, .string Af, .bool false, .string (⟨#[]⟩ : ByteArray)] 67 (0, 0)) xbk k_ hk)); (case aO => exact (xkd Ad)); (case aS => exact (ar xbl)); (case aL => have := LMc46.out; first | omega | exact Nat.le_of_lt this); intro v665 w50 ho hb hg hat; rw [← AV.out] at ho; have n0_ := Zz.mk (ey (g := Ac) (o := .cells #[.bool Aa, .string Ab, .string Af, .bool false, .string (⟨#[]⟩ : ByteArray)] 67 (0, 0)) xbk hg (Kd.R_away Ad.out (fun _ hk => hk))); have n1_ := Zz.mk (hb); have n2_ := Zz.mk (ho); clear Ae; clear HB; clear Ad; have Ae := n0_; have HB := n1_; have AW := n2_; clear n0_ n1_ n2_; clear ho hb hg hat))
 first | go_roundg kj21 | (simp only [← Ak, ← Ah]; go_roundg kj21)
 case measure => have := HK1.out; have := HJ5.out; have := HK3.out; have := HJ11.out; have := HJ21.out; omega
 case rel => exact ⟨(AU), (wrap64 (Aj + 1)), xrr, H, ⟨by have := HK1.out; have := HJ5.out; have := HK3.out; have := HJ11.out; have := HJ21.out; omega⟩, ⟨by (with_reducible repeat (first | apply Kd.R_alloc | apply Kd.R_drewN | apply Kd.R_drew)); exact Kd.R_mono AW.out (fun _ hk => trivial)⟩, ⟨xbl⟩⟩
 }
 replace H := xa H
 have Bk := xz5 Ae.out
 go_wp2_with (first | ((with_reducible refine xgc (f := 52) rfl ?_); refine xca 67 Tryz.func52 (ga (w := _) (h := A44.out)) ?_ (hargs := by (try simp only [xm1, xm2, xm3]); first | done | (simp only [Ah]; rfl) | rfl); rintro w52 hb; replace Ad := Zz.mk (Kd.R_below (xkd Ad) hb); replace Ae := xbq Ac hb; replace HB := xst hb; (try clear hb)))
 first | go_roundg kj21 | (simp only [← Ak, ← Ah]; go_roundg kj21)
 case measure => have := HK1.out; have := HJ5.out; have := HK3.out; have := HJ11.out; have := HJ21.out; omega
 case rel => exact ⟨(Ai), (wrap64 (Aj + 1)), xrr, H, ⟨by have := HK1.out; have := HJ5.out; have := HK3.out; have := HJ11.out; have := HJ21.out; omega⟩, ⟨by (with_reducible repeat (first | apply Kd.R_alloc | apply Kd.R_drewN | apply Kd.R_drew)); exact Kd.R_mono Ad.out (fun _ hk => trivial)⟩, ⟨xbl⟩⟩
 )
 )
 )
 )
 }
 have AA := xdf c11
 clear c11
 replace H := xa H
 go_wp2
 go_roundg k3
 case measure => have := HK1.out; have := HJ5.out; have := HK3.out; omega
 case rel => exact ⟨(Ai), (wrap64 (Ag + 1)), xrr, H, ⟨by have := HK1.out; have := HJ5.out; have := HK3.out; omega⟩, ⟨xkd Ad⟩, ⟨xbl⟩⟩
 )
 )
 )
 )
 }
 have AH := xdf c5
 clear c5
 obtain rfl := Option.some.inj H
 go_wp2
 go_ret
 exact ⟨_, by first | rfl | (simp [br, bs] <;> first | rfl | (simp only [dw, bne, Bool.not_not]; done)) | (simp [*, br, bs] <;> rfl), by (with_reducible repeat (first | apply Kd.R_alloc | apply Kd.R_drewN | apply Kd.R_drew)); exact Ad.out, xbl⟩
 )
 )
def cK : Nat → Bool → ByteArray → Int → Option (Bool)
  | 0, _, _, _ => none
  | k + 1, x0, x1, x5 => if x5 < (x1.size : Int) then (if 0 ≤ x5 then (if (bt x1 x5) = 47 then (if 0 ≤ (wrap64 (x5 + 1)) then (if (wrap64 (x5 + 1)) ≤ (x1.size : Int) then ((cu k 3 x0 (x1.extract ((wrap64 (x5 + 1)) : Int).toNat x1.size)).bind fun t667 => (cK k x0 x1 (wrap64 ((wrap64 (x5 + 1)) + t667)))) else (none)) else (none)) else (some false)) else (none)) else (some true)
def fb (k : Nat) (a0 : Bool) (a1 : ByteArray) : Option (Bool) := cK k a0 a1 0
theorem jh (k : Nat) (a0 : Bool) (a1 : ByteArray) (r : Bool) (w : World) (h : fb k a0 a1 = some r) :
    Calls Tryz.prog 53 #[.bool a0, .string a1] w fun e w' => e = .returned (.bool r) ∧ Below w.heap.size w w' := by
 have HB := Zz.mk (Below.refl w.heap.size w)
 have H := h
 clear h
 unfold fb at H
 have H' := Zz.mk H
 clear H
 go_enter Tryz.func53, Tryz.ntmps53
 go_wp2
 go_loopg [5] k (fun kq v5 w' => ∃ Aa, v5 = .int .i64 Aa ∧ Zz (cK kq a0 a1 Aa = some r) ∧ Zz (kq ≤ k) ∧ Zz (Below w.heap.size w w'))
 case atStart => exact ⟨(0), xrr, H', ⟨Nat.le_refl _⟩, ⟨xbl⟩⟩
 case round => (
 clear H'
 obtain ⟨Aa, rfl, HA, HK1, HB⟩ := hrel
 cases gk with
 | zero => exact absurd HA.out (by simp [cK])
 | succ k1 => (
 have H := HA.out
 clear HA
 simp only [cK] at H
 refine xid H ?_ ?_ <;> clear H <;> intro c3 H
 {
 have Ad := xdt c3
 clear c3
 refine xin H ?_; clear H; intro c4 H
 have Aj := xdt c4
 clear c4
 refine xid H ?_ ?_ <;> clear H <;> intro c6 H
 {
 obtain ⟨Ae, Af⟩ := xqe c6
 clear c6
 obtain ⟨Ag, Ac⟩ : ∃ j_ : Int, (wrap64 (Aa + 1)) = j_ := ⟨_, rfl⟩
 first | rw [Ac] at H | simp only [Ac] at H | skip
 have Ai : (IntKind.i64.wrap (Aa + 1)) = Ag := (ao _).trans Ac
 refine xin H ?_; clear H; intro c8 H
 obtain ⟨Ak, Al⟩ := xcp c8
 clear c8
 refine xin H ?_; clear H; intro c9 H
 obtain ⟨Am, An⟩ := xcp c9
 clear c9
 obtain ⟨Ao, Ab⟩ : ∃ j_ : ByteArray, (a1.extract ((Ag) : Int).toNat a1.size) = j_ := ⟨_, rfl⟩
 first | rw [Ab] at H | simp only [Ab] at H | skip
 replace H := xbd H
 obtain ⟨Ah, A11, H⟩ := H
 try dsimp only at H
 replace H := xa H
 obtain ⟨p5, q5, hx5⟩ := xiv a1 Aa xod xod
 go_wp2_with (first | ((with_reducible refine xgc (f := 40) rfl ?_); refine xca 21 Tryz.func40 (bY (w := _) (h := A11.out)) ?_ (hargs := by (try simp only [xm1, xm2, xm3]); first | done | (simp only [Ab]; rfl) | rfl); rintro w12 hb; replace HB := xst hb; (try clear hb)))
 first | go_roundg k1 | (simp only [← Ac, ← Ab]; go_roundg k1)
 case measure => have := HK1.out; omega
 case rel => exact ⟨(wrap64 ((Ag) + Ah)), (by first | rfl | (simp; done) | (simp only [← Ac] <;> (first | rfl | simp)) | (simp [*]; done) | (simp [wrap64]; done)), H, ⟨by have := HK1.out; omega⟩, ⟨xbl⟩⟩
 }
 obtain ⟨Ae, Af⟩ := xqn c6
 obtain rfl := Option.some.inj H
 obtain ⟨p5, q5, hx5⟩ := xiv a1 Aa xod xod
 go_wp2
 go_ret
 exact ⟨xre, xbl⟩
 }
 have Ad := xdf c3
 clear c3
 obtain rfl := Option.some.inj H
 go_wp2
 go_ret
 exact ⟨xre, xbl⟩
 )
 )
def dX (k : Nat) (a0 : Int) (a1 : Bool) (a2 : ByteArray) : Option (Bool) := (cu k a0 a1 a2).bind fun t668 => (if t668 > 0 then (if 0 ≤ t668 then (if t668 ≤ (a2.size : Int) then ((fb k a1 (a2.extract (t668 : Int).toNat a2.size)).bind fun t669 => (some t669)) else (none)) else (none)) else (some false))
theorem iv (k : Nat) (a0 : Int) (a1 : Bool) (a2 : ByteArray) (r : Bool) (w : World) (h : dX k a0 a1 a2 = some r) :
    Calls Tryz.prog 54 #[.int .i64 a0, .bool a1, .string a2] w fun e w' => e = .returned (.bool r) ∧ Below w.heap.size w w' := by
 have HB := Zz.mk (Below.refl w.heap.size w)
 have H := h
 clear h
 unfold dX at H
 replace H := xbd H
 obtain ⟨Ac, A4, H⟩ := H
 try dsimp only at H
 refine xid H ?_ ?_ <;> clear H <;> intro c5 H
 {
 have Ad := xdt c5
 clear c5
 refine xin H ?_; clear H; intro c6 H
 obtain ⟨Ae, Af⟩ := xcp c6
 clear c6
 refine xin H ?_; clear H; intro c7 H
 obtain ⟨Ag, Ah⟩ := xcp c7
 clear c7
 obtain ⟨Aj, Aa⟩ : ∃ j_ : ByteArray, (a2.extract (Ac : Int).toNat a2.size) = j_ := ⟨_, rfl⟩
 try (have Ab := Aa; simp only [Int.toNat_natCast] at Ab)
 first | rw [Aa] at H | simp only [Aa] at H | skip
 (try rw [Aa] at A4)
 replace H := xbd H
 obtain ⟨Ai, A9, H⟩ := H
 try dsimp only at H
 obtain rfl := Option.some.inj H
 go_enter Tryz.func54, Tryz.ntmps54
 go_wp2_with (first | ((with_reducible refine xgc (f := 40) rfl ?_); refine xca 11 Tryz.func40 (bY (w := _) (h := A4.out)) ?_; rintro w10 hb; replace HB := xst hb; (try clear hb)) | (go_at_call 53; (with_reducible refine (jh (w := _) (h := A9.out)).mono ?_); rintro e w11 ⟨rfl, hb⟩; replace HB := xst hb; (try clear hb)))
 go_ret
 exact ⟨by first | exact xrd | (simp only [← Aa]; exact xrd) | exact xre, xbl⟩
 }
 have Ad := xdf c5
 clear c5
 obtain rfl := Option.some.inj H
 go_enter Tryz.func54, Tryz.ntmps54
 go_wp2_with (first | ((with_reducible refine xgc (f := 40) rfl ?_); refine xca 11 Tryz.func40 (bY (w := _) (h := A4.out)) ?_; rintro w12 hb; replace HB := xst hb; (try clear hb)))
 go_ret
 exact ⟨xre, xbl⟩
def dY : Nat → Bool → ByteArray → Bool → ByteArray → Bool → ByteArray → ByteArray → Bool → ByteArray → Bool → ByteArray → Option (Bool)
  | 0, _, _, _, _, _, _, _, _, _, _, _ => none
  | k + 1, x1, x5, Al, Aa, Ab, Ac, Ad, Ae, Af, Ag, Ah => if Al = true then (some true) else (if 0 < (x5.size : Int) then (if (bt x5 0) = 47 then (if 1 ≤ (x5.size : Int) then ((dX k 3 x1 (x5.extract 1 x5.size)).bind fun Ai => (some Ai)) else (none)) else (if Aa.toList = ([] : List UInt8) then ((dX k 4 x1 x5).bind fun Aj => (some Aj)) else ((dX k 3 x1 x5).bind fun Ak => (some Ak)))) else (none))
def gv (k : Nat) (Ac : ByteArray) (Ab : Bool) (Ad : ByteArray) (Aa : ByteArray) (Ae : Bool) (Af : ByteArray) (Ag : Bool) (Ah : ByteArray) (a1 : Bool) : Option (Bool) := if Ab = true then ((fb k a1 Aa).bind fun Ai => (some Ai)) else (if Aa.toList = ([] : List UInt8) then (dY k a1 Aa true Ac Ab Ad Aa Ae Af Ag Ah) else (dY k a1 Aa (Aa.toList == ([47] : List UInt8)) Ac Ab Ad Aa Ae Af Ag Ah))
theorem iF (k : Nat) (Af : ByteArray) (An : Bool) (Ai : ByteArray) (Ab : ByteArray) (Aj : Bool) (Ak : ByteArray) (Al : Bool) (Am : ByteArray) (a1 : Bool) (r : Bool) (w : World) (h : gv k Af An Ai Ab Aj Ak Al Am a1 = some r) :
    Calls Tryz.prog 39 #[.agg #[.string Af, .bool An, .string Ai, .string Ab, .bool Aj, .string Ak, .bool Al, .string Am], .bool a1] w fun e w' => e = .returned (.bool r) ∧ Below w.heap.size w w' := by
 have hu24 := Tryz.underlying24
 have HB := Zz.mk (Below.refl w.heap.size w)
 have H := h
 clear h
 unfold gv at H
 refine xib H ?_ ?_ <;> clear H <;> rintro rfl H
 {
 replace H := xbd H
 obtain ⟨AB, A4, H⟩ := H
 try dsimp only at H
 obtain rfl := Option.some.inj H
 go_enter Tryz.func39, Tryz.ntmps39
 go_wp2_with (first | ((with_reducible refine aj (N := 2) rfl ?_); refine xew 2 ?_; intro Ac w5 Aa Ao hb hg; replace HB := xst hb; clear hb hg; have AJ := xz8 Aa.out) | ((with_reducible refine xgc (f := 53) rfl ?_); refine xca 12 Tryz.func53 (jh (w := _) (h := A4.out)) ?_; rintro w7 hb; replace Aa := xbq Ac hb; replace HB := xst hb; (try clear hb)))
 go_ret
 exact ⟨xre, xbl⟩
 }
 have Aw := Zz.mk H
 clear H
 go_enter Tryz.func39, Tryz.ntmps39
 go_upto_region 4 with (first | ((with_reducible refine aj (N := 2) rfl ?_); refine xew 2 ?_; intro Ac w9 Aa Ao hb hg; replace HB := xst hb; clear hb hg; have AC := xz8 Aa.out))
 (try simp only [Act.put, xl1, xl2, xl3])
 go_cut [18] (fun v18 wc => ∃ kq Ag, v18 = .bool Ag ∧ Zz (dY kq a1 Ab Ag Af false Ai Ab Aj Ak Al Am = some r) ∧ Zz (kq ≤ k) ∧ Zz (wc.heap[Ac]? = some (.cells #[.string Af, .bool false, .string Ai, .string Ab, .bool Aj, .string Ak, .bool Al, .string Am] 24 (0, 0))) ∧ Zz (Below w.heap.size w wc))
 case first => (
 have H := Aw.out
 clear Aw
 refine xid H ?_ ?_ <;> clear H <;> intro c11 H
 {
 obtain ⟨Ad, Ap⟩ := xqe c11
 (try (have Ah : Ab.toList.isEmpty = true := by simpa using c11))
 clear c11
 (first | rw [Ad] | (simp only [ao, aq]; rw [Ad]) | (rw [Ah]; (try simp only [Bool.not_false, Bool.not_true])) | skip)
 replace H := xa H
 go_wp2
 go_meet
 case rel => exact ⟨_, (true), xrr, H, ⟨xom⟩, ⟨xbk⟩, ⟨xbl⟩⟩
 }
 obtain ⟨Ad, Ap⟩ := xqn c11
 (try (have Ah : Ab.toList.isEmpty = false := by simpa using c11))
 (first | rw [Ad] | (simp only [ao, aq]; rw [Ad]) | (rw [Ah]; (try simp only [Bool.not_false, Bool.not_true])) | skip)
 replace H := xa H
 go_wp2
 go_meet
 case rel => exact ⟨_, ((Ab.toList == ([47] : List UInt8))), xrr, H, ⟨xom⟩, ⟨xbk⟩, ⟨xbl⟩⟩
 )
 case rest => (
 clear Aw
 obtain ⟨kq, Ag, rfl, HA, HJ7, Aa, HB⟩ := hcut
 cases kq with
 | zero => exact absurd HA.out (by simp [dY])
 | succ kj7 => (
 have H := HA.out
 clear HA
 simp only [dY] at H
 refine xib H ?_ ?_ <;> clear H <;> rintro rfl H
 {
 obtain rfl := Option.some.inj H
 go_wp2
 go_ret
 exact ⟨xre, xbl⟩
 }
 refine xin H ?_; clear H; intro c13 H
 have Ax := xdt c13
 have Ay : decide (0 < Ab.size) = true := decide_eq_true (by omega)
 clear c13
 refine xid H ?_ ?_ <;> clear H <;> intro c15 H
 {
 obtain ⟨Aq, Ar⟩ := xqe c15
 clear c15
 refine xin H ?_; clear H; intro c16 H
 obtain ⟨Az, AA⟩ := xcp c16
 clear c16
 obtain ⟨AD, Ae⟩ : ∃ j_ : ByteArray, (Ab.extract 1 Ab.size) = j_ := ⟨_, rfl⟩
 first | rw [Ae] at H | simp only [Ae] at H | skip
 replace H := xbd H
 obtain ⟨AE, A18, H⟩ := H
 try dsimp only at H
 obtain rfl := Option.some.inj H
 obtain ⟨q14, As, hx14⟩ := xi0 Ab xod
 go_wp2_with (first | ((with_reducible refine xgc (f := 54) rfl ?_); refine xca 25 Tryz.func54 (iv (w := _) (h := A18.out)) ?_ (hargs := by (try simp only [xm1, xm2, xm3]); first | done | (simp only [Ae]; rfl) | rfl); rintro w19 hb; replace Aa := xbq Ac hb; replace HB := xst hb; (try clear hb)))
 go_ret
 exact ⟨by first | exact xrd | (simp only [← Ae]; exact xrd) | exact xre, xbl⟩
 }
 obtain ⟨Aq, Ar⟩ := xqn c15
 refine xid H ?_ ?_ <;> clear H <;> intro c20 H
 {
 obtain ⟨At, Au⟩ := xqe c20
 (try (have Av : Af.toList.isEmpty = true := by simpa using c20))
 clear c20
 replace H := xbd H
 obtain ⟨AF, A21, H⟩ := H
 try dsimp only at H
 obtain rfl := Option.some.inj H
 obtain ⟨q14, As, hx14⟩ := xi0 Ab xod
 have AG := xz8 Aa.out
 go_wp2_with (first | ((with_reducible refine xgc (f := 54) rfl ?_); refine xca 34 Tryz.func54 (iv (w := _) (h := A21.out)) ?_; rintro w23 hb; replace Aa := xbq Ac hb; replace HB := xst hb; (try clear hb)))
 go_ret
 exact ⟨xre, xbl⟩
 }
 obtain ⟨At, Au⟩ := xqn c20
 (try (have Av : Af.toList.isEmpty = false := by simpa using c20))
 replace H := xbd H
 obtain ⟨AH, A24, H⟩ := H
 try dsimp only at H
 obtain rfl := Option.some.inj H
 obtain ⟨q14, As, hx14⟩ := xi0 Ab xod
 have AI := xz8 Aa.out
 go_wp2_with (first | ((with_reducible refine xgc (f := 54) rfl ?_); refine xca 31 Tryz.func54 (iv (w := _) (h := A24.out)) ?_; rintro w26 hb; replace Aa := xbq Ac hb; replace HB := xst hb; (try clear hb)))
 go_ret
 exact ⟨xre, xbl⟩
 )
 )
mutual
def cP : Nat → Int → Bool → Bool → ByteArray → Bool → ByteArray → ByteArray → Bool → ByteArray → Bool → ByteArray → Option (Bool)
  | 0, _, _, _, _, _, _, _, _, _, _, _ => none
  | k + 1, x0, x5, Ai, Ab, Ac, Ad, Ae, Af, Ag, Aa, Ah => if Ai = true then (some false) else (if Aa = true then (et k x5 (x0 == 3) Ab Ac Ad Ae Af Ag Aa Ah) else (et k x5 false Ab Ac Ad Ae Af Ag Aa Ah))
def et : Nat → Bool → Bool → ByteArray → Bool → ByteArray → ByteArray → Bool → ByteArray → Bool → ByteArray → Option (Bool)
  | 0, _, _, _, _, _, _, _, _, _, _ => none
  | k + 1, x5, Aj, Ac, Aa, Ab, Ad, Ae, Af, Ag, Ah => if Aj = true then (some false) else (if Aa = true then ((gP k x5 Ab).bind fun Ai => (eu k x5 ((Ai.length : Int) == 0) Ac Aa Ab Ad Ae Af Ag Ah)) else (eu k x5 false Ac Aa Ab Ad Ae Af Ag Ah))
def eu : Nat → Bool → Bool → ByteArray → Bool → ByteArray → ByteArray → Bool → ByteArray → Bool → ByteArray → Option (Bool)
  | 0, _, _, _, _, _, _, _, _, _, _ => none
  | k + 1, x5, Al, Ac, Ad, Ae, Af, Ag, Aa, Ah, Ab => if Al = true then (some false) else ((gv k Ac Ad Ae Af Ag Aa Ah Ab x5).bind fun Ai => (if Ai = true then ((cu k 6 x5 Aa).bind fun Aj => (if Aj = (Aa.size : Int) then ((cu k 7 x5 Ab).bind fun Ak => (some (Ak == (Ab.size : Int)))) else (some false))) else (some false)))
end
def dR (k : Nat) (a0 : Int) (Aa : ByteArray) (Ab : Bool) (Ac : ByteArray) (Ad : ByteArray) (Ae : Bool) (Af : ByteArray) (Ag : Bool) (Ah : ByteArray) : Option (Bool) := if Aa.toList = ([] : List UInt8) then (if a0 = 2 then (cP k a0 (decide (a0 ≥ 4)) false Aa Ab Ac Ad Ae Af Ag Ah) else (if a0 = 5 then (cP k a0 (decide (a0 ≥ 4)) false Aa Ab Ac Ad Ae Af Ag Ah) else (cP k a0 (decide (a0 ≥ 4)) true Aa Ab Ac Ad Ae Af Ag Ah))) else ((gW k Aa).bind fun Ai => (cP k a0 (decide (a0 ≥ 4)) (!Ai) Aa Ab Ac Ad Ae Af Ag Ah))
theorem ei (k : Nat) (a0 : Int) (Ab : ByteArray) (Aj : Bool) (Ad : ByteArray) (Ae : ByteArray) (Af : Bool) (Ag : ByteArray) (Ah : Bool) (Ai : ByteArray) (r : Bool) (w : World) (h : dR k a0 Ab Aj Ad Ae Af Ag Ah Ai = some r) :
    Calls Tryz.prog 23 #[.int .i64 a0, .agg #[.string Ab, .bool Aj, .string Ad, .string Ae, .bool Af, .string Ag, .bool Ah, .string Ai]] w fun e w' => e = .returned (.bool r) ∧ Below w.heap.size w w' := by
 have hu24 := Tryz.underlying24
 have HB := Zz.mk (Below.refl w.heap.size w)
 have H := h
 clear h
 unfold dR at H
 have Au := Zz.mk H
 clear H
 go_enter Tryz.func23, Tryz.ntmps23
 go_upto_region 2 with (first | ((with_reducible refine aj (N := 3) rfl ?_); (try (refine cM (by rfl) ?_; dsimp only)); refine xew 3 ?_; intro Ac w4 Aa AC hb hg; replace HB := xst hb; clear hb hg))
 (try simp only [Act.put, xl1, xl2, xl3])
 go_cut [29] (fun v29 wc => ∃ kq Am, v29 = .bool Am ∧ Zz (cP kq a0 (decide (a0 ≥ 4)) Am Ab Aj Ad Ae Af Ag Ah Ai = some r) ∧ Zz (kq ≤ k) ∧ Zz (wc.heap[Ac]? = some (.cells #[.string Ab, .bool Aj, .string Ad, .string Ae, .bool Af, .string Ag, .bool Ah, .string Ai] 24 (0, 0))) ∧ Zz (Below w.heap.size w wc))
 case first => (
 have H := Au.out
 clear Au
 refine xid H ?_ ?_ <;> clear H <;> intro c5 H
 {
 obtain ⟨An, Av⟩ := xqe c5
 (try (have Ao : Ab.toList.isEmpty = true := by simpa using c5))
 clear c5
 (first | rw [An] | (simp only [ao, aq]; rw [An]) | (rw [Ao]; (try simp only [Bool.not_false, Bool.not_true])) | skip)
 refine xid H ?_ ?_ <;> clear H <;> intro c6 H
 {
 obtain ⟨Aw, Ax⟩ := xqe c6
 clear c6
 replace H := xa H
 have AM := xz8 Aa.out
 go_wp2
 go_meet
 case rel => exact ⟨_, (false), xrr, H, ⟨xom⟩, ⟨xbk⟩, ⟨xbl⟩⟩
 }
 obtain ⟨Aw, Ax⟩ := xqn c6
 refine xid H ?_ ?_ <;> clear H <;> intro c8 H
 {
 obtain ⟨Ay, Az⟩ := xqe c8
 clear c8
 replace H := xa H
 have AN := xz8 Aa.out
 go_wp2
 go_meet
 case rel => exact ⟨_, (false), xrr, H, ⟨xom⟩, ⟨xbk⟩, ⟨xbl⟩⟩
 }
 obtain ⟨Ay, Az⟩ := xqn c8
 replace H := xa H
 have AD := xz8 Aa.out
 go_wp2
 go_meet
 case rel => exact ⟨_, (true), xrr, H, ⟨xom⟩, ⟨xbk⟩, ⟨xbl⟩⟩
 }
 obtain ⟨An, Av⟩ := xqn c5
 (try (have Ao : Ab.toList.isEmpty = false := by simpa using c5))
 (first | rw [An] | (simp only [ao, aq]; rw [An]) | (rw [Ao]; (try simp only [Bool.not_false, Bool.not_true])) | skip)
 replace H := xbd H
 obtain ⟨AA, A11, H⟩ := H
 try dsimp only at H
 replace H := xa H
 have AE := xz8 Aa.out
 go_wp2_with (first | (go_at_call 37; (with_reducible refine (mm (w := _) (h := A11.out)).mono ?_); rintro e w' ⟨rfl, ⟨nd, rfl⟩⟩))
 go_meet
 case rel => exact ⟨_, (!AA), xrr, H, ⟨xom⟩, ⟨xbk⟩, ⟨xbl⟩⟩
 )
 case rest => (
 clear Au
 obtain ⟨kq, Am, rfl, HA, HJ2, Aa, HB⟩ := hcut
 cases kq with
 | zero => exact absurd HA.out (by simp [cP])
 | succ kj2 => (
 have H := HA.out
 clear HA
 simp only [cP] at H
 refine xib H ?_ ?_ <;> clear H <;> rintro rfl H
 {
 obtain rfl := Option.some.inj H
 go_wp2
 go_ret
 exact ⟨xre, xbl⟩
 }
 have Ap := Zz.mk H
 clear H
 go_upto_region 4 with (fail)
 go_cut [35] (fun v35 wc => ∃ kq Ak, v35 = .bool Ak ∧ Zz (et kq (decide (a0 ≥ 4)) Ak Ab Aj Ad Ae Af Ag Ah Ai = some r) ∧ Zz (kq ≤ kj2) ∧ Zz (wc.heap[Ac]? = some (.cells #[.string Ab, .bool Aj, .string Ad, .string Ae, .bool Af, .string Ag, .bool Ah, .string Ai] 24 (0, 0))) ∧ Zz (Below w.heap.size w wc))
 case first => (
 have H := Ap.out
 clear Ap
 refine xib H ?_ ?_ <;> clear H <;> rintro rfl H
 {
 replace H := xa H
 have AF := xz8 Aa.out
 go_wp2
 go_meet
 case rel => exact ⟨_, ((a0 == 3)), xrr, H, ⟨xoj HJ2⟩, ⟨xbk⟩, ⟨xbl⟩⟩
 }
 replace H := xa H
 have AG := xz8 Aa.out
 go_wp2
 go_meet
 case rel => exact ⟨_, (false), xrr, H, ⟨xoj HJ2⟩, ⟨xbk⟩, ⟨xbl⟩⟩
 )
 case rest => (
 clear Ap
 obtain ⟨kq, Ak, rfl, HA, HJ13, Aa, HB⟩ := hcut
 cases kq with
 | zero => exact absurd HA.out (by simp [et])
 | succ kj13 => (
 have H := HA.out
 clear HA
 simp only [et] at H
 refine xib H ?_ ?_ <;> clear H <;> rintro rfl H
 {
 obtain rfl := Option.some.inj H
 go_wp2
 go_ret
 exact ⟨xre, xbl⟩
 }
 have Aq := Zz.mk H
 clear H
 go_upto_region 6 with (fail)
 go_cut [45] (fun v45 wc => ∃ kq Al, v45 = .bool Al ∧ Zz (eu kq (decide (a0 ≥ 4)) Al Ab Aj Ad Ae Af Ag Ah Ai = some r) ∧ Zz (kq ≤ kj13) ∧ Zz (wc.heap[Ac]? = some (.cells #[.string Ab, .bool Aj, .string Ad, .string Ae, .bool Af, .string Ag, .bool Ah, .string Ai] 24 (0, 0))) ∧ Zz (Below w.heap.size w wc))
 case first => (
 have H := Aq.out
 clear Aq
 refine xib H ?_ ?_ <;> clear H <;> rintro rfl H
 {
 replace H := xbd H
 obtain ⟨AB, A21, H⟩ := H
 try dsimp only at H
 replace H := xa H
 have AH := xz8 Aa.out
 go_wp2_with (first | (go_at_call 38; (with_reducible refine (nC (w := _) (h := A21.out)).mono ?_); rintro e w23 ⟨v678, rfl, ho0, hb⟩; have Ar := Zz.mk (Kd.R_lower ho0 (ar xbl)); replace Aa := xbb (g := Ac) (o := .cells #[.string Ab, .bool true, .string Ad, .string Ae, .bool Af, .string Ag, .bool Ah, .string Ai] 24 (0, 0)) hb; replace HB := xst hb; (try clear hb); (try clear ho0); obtain ⟨Ao24, co24, eo24⟩ := Kd.R_slice Ar.out; subst eo24))
 go_meet
 case rel => exact ⟨_, (((AB.length : Int) == 0)), xrr, H, ⟨xoJ HJ2 HJ13⟩, ⟨xbk⟩, ⟨xbl⟩⟩
 }
 replace H := xa H
 have AI := xz8 Aa.out
 go_wp2
 go_meet
 case rel => exact ⟨_, (false), xrr, H, ⟨xoJ HJ2 HJ13⟩, ⟨xbk⟩, ⟨xbl⟩⟩
 )
 case rest => (
 clear Aq
 obtain ⟨kq, Al, rfl, HA, HJ18, Aa, HB⟩ := hcut
 cases kq with
 | zero => exact absurd HA.out (by simp [eu])
 | succ kj18 => (
 have H := HA.out
 clear HA
 simp only [eu] at H
 refine xib H ?_ ?_ <;> clear H <;> rintro rfl H
 {
 obtain rfl := Option.some.inj H
 go_wp2
 go_ret
 exact ⟨xre, xbl⟩
 }
 replace H := xbd H
 obtain ⟨AJ, A27, H⟩ := H
 try dsimp only at H
 refine xib H ?_ ?_ <;> clear H <;> rintro rfl H
 {
 replace H := xbd H
 obtain ⟨AK, A29, H⟩ := H
 try dsimp only at H
 refine xid H ?_ ?_ <;> clear H <;> intro c30 H
 {
 obtain ⟨As, At⟩ := xqe c30
 clear c30
 replace H := xbd H
 obtain ⟨AL, A31, H⟩ := H
 try dsimp only at H
 obtain rfl := Option.some.inj H
 try go_wp2
 replace Aa := Zz.mk (bq Aa.out)
 replace HB := Zz.mk (aC HB.out)
 refine xsr 24 [] (xs8 Aa.out) (fun hHeld => ?_)
 generalize wc.drew = w32 at Aa HB hHeld ⊢
 refine xpu 1 47 ?_
 refine xtk 0 46 ?_
 refine xon 2 48 Tryz.func39 (iF (w := _) (h := A27.out)) ?_
 rintro w33 hb
 replace Aa := xbb (g := Ac) (o := .cells #[.string Ab, .bool Aj, .string Ad, .string Ae, .bool Af, .string Ag, .bool Ah, .string Ai] 24 (0, 0)) hb
 replace HB := xst hb
 (try clear hb)
 refine ⟨xs8 Aa.out, fun hHeld => ?_⟩
 refine xpu 3 49 ?_
 refine xpu 4 50 ?_
 refine xpu 5 51 ?_
 refine xpu 8 54 ?_
 refine xtk 6 52 ?_
 refine xtk 9 55 ?_
 refine xpu 10 56 ?_
 refine xon 7 53 Tryz.func40 (bY (w := _) (h := A29.out)) ?_
 rintro w34 hb
 replace Aa := xbb (g := Ac) (o := .cells #[.string Ab, .bool Aj, .string Ad, .string Ae, .bool Af, .string Ag, .bool Ah, .string Ai] 24 (0, 0)) hb
 replace HB := xst hb
 (try clear hb)
 refine ⟨xs8 Aa.out, fun hHeld => ?_⟩
 refine xpu 11 57 ?_
 refine xpu 12 58 ?_
 refine xpu 13 59 ?_
 refine xpu 14 60 ?_
 refine xpu 15 61 ?_
 refine xpu 18 64 ?_
 refine xtk 16 62 ?_
 refine xtk 19 65 ?_
 refine xpu 20 66 ?_
 refine xon 17 63 Tryz.func40 (bY (w := _) (h := A31.out)) ?_
 rintro w35 hb
 replace Aa := xbb (g := Ac) (o := .cells #[.string Ab, .bool Aj, .string Ad, .string Ae, .bool Af, .string Ag, .bool Ah, .string Ai] 24 (0, 0)) hb
 replace HB := xst hb
 (try clear hb)
 refine ⟨xs8 Aa.out, fun hHeld => ?_⟩
 refine xpu 21 67 ?_
 refine xpu 22 68 ?_
 refine xpu 23 4 ?_
 refine xdn ?_
 try go_wp2
 go_ret
 exact ⟨xre, xbl⟩
 }
 obtain ⟨As, At⟩ := xqn c30
 obtain rfl := Option.some.inj H
 try go_wp2
 replace Aa := Zz.mk (bq Aa.out)
 replace HB := Zz.mk (aC HB.out)
 refine xsr 24 [] (xs8 Aa.out) (fun hHeld => ?_)
 generalize wc.drew = w36 at Aa HB hHeld ⊢
 refine xpu 1 47 ?_
 refine xtk 0 46 ?_
 refine xon 2 48 Tryz.func39 (iF (w := _) (h := A27.out)) ?_
 rintro w37 hb
 replace Aa := xbb (g := Ac) (o := .cells #[.string Ab, .bool Aj, .string Ad, .string Ae, .bool Af, .string Ag, .bool Ah, .string Ai] 24 (0, 0)) hb
 replace HB := xst hb
 (try clear hb)
 refine ⟨xs8 Aa.out, fun hHeld => ?_⟩
 refine xpu 3 49 ?_
 refine xpu 4 50 ?_
 refine xpu 5 51 ?_
 refine xpu 8 54 ?_
 refine xtk 6 52 ?_
 refine xtk 9 55 ?_
 refine xpu 10 56 ?_
 refine xon 7 53 Tryz.func40 (bY (w := _) (h := A29.out)) ?_
 rintro w38 hb
 replace Aa := xbb (g := Ac) (o := .cells #[.string Ab, .bool Aj, .string Ad, .string Ae, .bool Af, .string Ag, .bool Ah, .string Ai] 24 (0, 0)) hb
 replace HB := xst hb
 (try clear hb)
 refine ⟨xs8 Aa.out, fun hHeld => ?_⟩
 refine xpu 11 57 ?_
 refine xpu 12 58 ?_
 refine xpu 13 59 ?_
 refine xpo 14 60 ?_
 refine xpo 15 61 ?_
 refine xpo 16 62 ?_
 refine xpo 17 63 ?_
 refine xpo 18 64 ?_
 refine xpo 19 65 ?_
 refine xpo 20 66 ?_
 refine xpo 21 67 ?_
 refine xpu 22 68 ?_
 refine xpu 23 4 ?_
 refine xdn ?_
 try go_wp2
 go_ret
 exact ⟨xre, xbl⟩
 }
 obtain rfl := Option.some.inj H
 try go_wp2
 replace Aa := Zz.mk (bq Aa.out)
 replace HB := Zz.mk (aC HB.out)
 refine xsr 24 [] (xs8 Aa.out) (fun hHeld => ?_)
 generalize wc.drew = w39 at Aa HB hHeld ⊢
 refine xpu 1 47 ?_
 refine xtk 0 46 ?_
 refine xon 2 48 Tryz.func39 (iF (w := _) (h := A27.out)) ?_
 rintro w40 hb
 replace Aa := xbb (g := Ac) (o := .cells #[.string Ab, .bool Aj, .string Ad, .string Ae, .bool Af, .string Ag, .bool Ah, .string Ai] 24 (0, 0)) hb
 replace HB := xst hb
 (try clear hb)
 refine ⟨xs8 Aa.out, fun hHeld => ?_⟩
 refine xpu 3 49 ?_
 refine xpo 4 50 ?_
 refine xpo 5 51 ?_
 refine xpo 6 52 ?_
 refine xpo 7 53 ?_
 refine xpo 8 54 ?_
 refine xpo 9 55 ?_
 refine xpo 10 56 ?_
 refine xpo 11 57 ?_
 refine xpu 12 58 ?_
 refine xpu 13 59 ?_
 refine xpo 14 60 ?_
 refine xpo 15 61 ?_
 refine xpo 16 62 ?_
 refine xpo 17 63 ?_
 refine xpo 18 64 ?_
 refine xpo 19 65 ?_
 refine xpo 20 66 ?_
 refine xpo 21 67 ?_
 refine xpu 22 68 ?_
 refine xpu 23 4 ?_
 refine xdn ?_
 try go_wp2
 go_ret
 exact ⟨xre, xbl⟩
 )
 )
 )
 )
 )
 )
theorem aaD {α : Type} {f : α → Prop} {x : α} (h : ∀ y, y = x → f y) : f x := h x rfl
mutual
def bG : Nat → Int → ByteArray → List (S24) → Int → ByteArray → Bool → ByteArray → ByteArray → Bool → ByteArray → Bool → ByteArray → Option ((List (S24)))
  | 0, _, _, _, _, _, _, _, _, _, _, _, _ => none
  | k + 1, x0, x2, x7, x8, Aa, Ab, Ac, Ad, Ae, Af, Ag, Ah => if x8 ≤ (x2.size : Int) then (if x8 < (x2.size : Int) then (if 0 ≤ x8 then (dG k x0 x2 x7 x8 ((bt x2 x8) != 63) Aa Ab Ac Ad Ae Af Ag Ah) else (none)) else (dG k x0 x2 x7 x8 false Aa Ab Ac Ad Ae Af Ag Ah)) else (bH k x0 x2 x7 0 Aa Ab Ac Ad Ae Af Ag Ah)
def dG : Nat → Int → ByteArray → List (S24) → Int → Bool → ByteArray → Bool → ByteArray → ByteArray → Bool → ByteArray → Bool → ByteArray → Option ((List (S24)))
  | 0, _, _, _, _, _, _, _, _, _, _, _, _, _ => none
  | k + 1, x0, x2, x7, x8, Ai, Aa, Ab, Ac, Ad, Ae, Af, Ag, Ah => if Ai = true then (bG k x0 x2 x7 (wrap64 (x8 + 1)) Aa Ab Ac Ad Ae Af Ag Ah) else (bg k x0 x2 x7 x8 x8 Aa Ab Ac Ad Ae Af Ag Ah)
def bg : Nat → Int → ByteArray → List (S24) → Int → Int → ByteArray → Bool → ByteArray → ByteArray → Bool → ByteArray → Bool → ByteArray → Option ((List (S24)))
  | 0, _, _, _, _, _, _, _, _, _, _, _, _, _ => none
  | k + 1, x0, x2, x7, x8, x9, Aa, Ab, Ac, Ad, Ae, Af, Ag, Ah => if x9 ≤ (x2.size : Int) then (if x9 < (x2.size : Int) then (if 0 ≤ x9 then (dH k x0 x2 x7 x8 x9 ((bt x2 x9) != 35) Aa Ab Ac Ad Ae Af Ag Ah) else (none)) else (dH k x0 x2 x7 x8 x9 false Aa Ab Ac Ad Ae Af Ag Ah)) else (bG k x0 x2 x7 (wrap64 (x8 + 1)) Aa Ab Ac Ad Ae Af Ag Ah)
def dH : Nat → Int → ByteArray → List (S24) → Int → Int → Bool → ByteArray → Bool → ByteArray → ByteArray → Bool → ByteArray → Bool → ByteArray → Option ((List (S24)))
  | 0, _, _, _, _, _, _, _, _, _, _, _, _, _, _ => none
  | k + 1, x0, x2, x7, x8, x9, Ai, Aa, Ab, Ac, Ah, Af, Ag, Ad, Ae => if Ai = true then (bg k x0 x2 x7 x8 (wrap64 (x9 + 1)) Aa Ab Ac Ah Af Ag Ad Ae) else (if 0 ≤ (mn x8 x9) then (if (mn x8 x9) ≤ (x2.size : Int) then (if x8 < x9 then (if 0 ≤ (wrap64 (x8 + 1)) then (if (wrap64 (x8 + 1)) ≤ x9 then (if x9 ≤ (x2.size : Int) then (dI k x0 x2 x7 x8 x9 Aa Ab Ac Ah Af Ag Ad Ae Aa Ab Ac (x2.extract 0 ((mn x8 x9) : Int).toNat) true (x2.extract ((wrap64 (x8 + 1)) : Int).toNat (x9 : Int).toNat) Ad Ae) else (none)) else (none)) else (none)) else (dI k x0 x2 x7 x8 x9 Aa Ab Ac Ah Af Ag Ad Ae Aa Ab Ac (x2.extract 0 ((mn x8 x9) : Int).toNat) Af Ag Ad Ae)) else (none)) else (none))
def dI : Nat → Int → ByteArray → List (S24) → Int → Int → ByteArray → Bool → ByteArray → ByteArray → Bool → ByteArray → Bool → ByteArray → ByteArray → Bool → ByteArray → ByteArray → Bool → ByteArray → Bool → ByteArray → Option ((List (S24)))
  | 0, _, _, _, _, _, _, _, _, _, _, _, _, _, _, _, _, _, _, _, _, _ => none
  | k + 1, x0, x2, x7, x8, x9, Aa, Ab, Ac, Ad, Ae, Af, Ag, Ah, Ai, Aj, Ak, Al, Am, An, Ao, Ap => if x9 < (x2.size : Int) then (if 0 ≤ (wrap64 (x9 + 1)) then (if (wrap64 (x9 + 1)) ≤ (x2.size : Int) then ((dR k x0 Ai Aj Ak Al Am An true (x2.extract ((wrap64 (x9 + 1)) : Int).toNat x2.size)).bind fun Aq => (if Aq = true then (if x7.length < 1353245080339 then (bg k x0 x2 (x7 ++ [(⟨Ai, Aj, Ak, Al, Am, An, true, x2.extract ((wrap64 (x9 + 1)) : Int).toNat x2.size⟩ : S24)]) x8 (wrap64 (x9 + 1)) Aa Ab Ac Ad Ae Af Ag Ah) else (none)) else (bg k x0 x2 x7 x8 (wrap64 (x9 + 1)) Aa Ab Ac Ad Ae Af Ag Ah))) else (none)) else (none)) else ((dR k x0 Ai Aj Ak Al Am An Ao Ap).bind fun Ar => (if Ar = true then (if x7.length < 1353245080339 then (bg k x0 x2 (x7 ++ [(⟨Ai, Aj, Ak, Al, Am, An, Ao, Ap⟩ : S24)]) x8 (wrap64 (x9 + 1)) Aa Ab Ac Ad Ae Af Ag Ah) else (none)) else (bg k x0 x2 x7 x8 (wrap64 (x9 + 1)) Aa Ab Ac Ad Ae Af Ag Ah)))
def bH : Nat → Int → ByteArray → List (S24) → Int → ByteArray → Bool → ByteArray → ByteArray → Bool → ByteArray → Bool → ByteArray → Option ((List (S24)))
  | 0, _, _, _, _, _, _, _, _, _, _, _, _ => none
  | k + 1, x0, x2, x7, Ai, Aa, Ab, Ac, Af, Ad, Ae, Ag, Ah => if Ai < (x2.size : Int) then (if 0 ≤ Ai then (if (bt x2 Ai) = 35 then (if Ai ≤ (x2.size : Int) then (if 0 ≤ (wrap64 (Ai + 1)) then (if (wrap64 (Ai + 1)) ≤ (x2.size : Int) then ((dR k x0 Aa Ab Ac (x2.extract 0 (Ai : Int).toNat) Ad Ae true (x2.extract ((wrap64 (Ai + 1)) : Int).toNat x2.size)).bind fun Aj => (if Aj = true then (if x7.length < 1353245080339 then (bH k x0 x2 (x7 ++ [(⟨Aa, Ab, Ac, x2.extract 0 (Ai : Int).toNat, Ad, Ae, true, x2.extract ((wrap64 (Ai + 1)) : Int).toNat x2.size⟩ : S24)]) (wrap64 (Ai + 1)) Aa Ab Ac Af Ad Ae Ag Ah) else (none)) else (bH k x0 x2 x7 (wrap64 (Ai + 1)) Aa Ab Ac Af Ad Ae Ag Ah))) else (none)) else (none)) else (none)) else (bH k x0 x2 x7 (wrap64 (Ai + 1)) Aa Ab Ac Af Ad Ae Ag Ah)) else (none)) else (some x7)
end
def eW (k : Nat) (a0 : Int) (Aa : ByteArray) (Ab : Bool) (Ac : ByteArray) (Ad : ByteArray) (Ae : Bool) (Af : ByteArray) (Ag : Bool) (Ah : ByteArray) (a2 : ByteArray) : Option ((List (S24))) := bG k a0 a2 (([] : List (S24))) 0 Aa Ab Ac Ad Ae Af Ag Ah
theorem jW (k : Nat) (a0 : Int) (Ac : ByteArray) (Ad : Bool) (Ae : ByteArray) (An : ByteArray) (Al : Bool) (Am : ByteArray) (Aj : Bool) (Ak : ByteArray) (a2 : ByteArray) (r : List (S24)) (w : World) (h : eW k a0 Ac Ad Ae An Al Am Aj Ak a2 = some r) :
    Calls Tryz.prog 35 #[.int .i64 a0, .agg #[.string Ac, .bool Ad, .string Ae, .string An, .bool Al, .string Am, .bool Aj, .string Ak], .string a2] w fun e w' => ∃ v0_ : Value, e = .returned (v0_) ∧ Kd.R k24 24 w' w.heap.size (fun _ => True) v0_ r ∧ Below w.heap.size w w' := by
 have hu24 := Tryz.underlying24
 have HB := Zz.mk (Below.refl w.heap.size w)
 have H := h
 clear h
 unfold eW at H
 obtain ⟨A6, AL⟩ : ∃ y_ : List (S24), y_ = (([] : List (S24))) := ⟨_, rfl⟩
 replace H : (bG k a0 a2 A6 0 Ac Ad Ae An Al Am Aj Ak) = some r := by first | (rw [AL]; with_reducible exact H) | (have H2_ := (Option.bind_some _ _).symm.trans H; rw [AL]; with_reducible exact H2_) | (have H2_ := (Option.bind_some _ _).symm.trans H; with_reducible exact H2_) | with_reducible exact H | (rw [AL]; exact H) | exact H
 have AZ := Zz.mk AL
 clear AL
 have H' := Zz.mk H
 clear H
 go_enter Tryz.func35, Tryz.ntmps35
 go_wp2_with (first | ((with_reducible refine aj (N := 4) rfl ?_); refine xew 4 ?_; intro Af w4 Ap Bz hb hg; replace HB := xst hb; clear hb hg) | ((with_reducible refine aj (N := 13) rfl ?_); refine Kd.R_lit k24 _ 24 ?hg (N := 13) ?hd (xs := ([] : List (S24))) (inner := []) (ok := fun _ => True) (okp := fun _ => True) ?hr ?hp (fun _ hk => hk) trivial (Below.refl _ _) (Nat.le_refl _) (by simp) ?_; (case hd => rfl); (case hg => rfl); (case hr => first | (go_simp; done) | (go_simp; rfl)); (case hp => exact (Reps.none _ _)); intro v685 w5 ho6 hb hg_ hnew_; clear hg_ hnew_; (first | rw [← AZ.out] at ho6 | (simp only [Int.reduceToNat] at ho6; rw [← AZ.out] at ho6)); have A7 := Zz.mk (Kd.R_lower (Kd.R_newB ho6 (g := Af) (o := .cells #[.string Ac, .bool Ad, .string Ae, .string An, .bool Al, .string Am, .bool Aj, .string Ak] 24 (0, 0)) xbk) (ar xbl)); replace Ap := xbb (g := Af) (o := .cells #[.string Ac, .bool Ad, .string Ae, .string An, .bool Al, .string Am, .bool Aj, .string Ak] 24 (0, 0)) hb; replace HB := xst hb; clear hb ho6))
 go_loopg [7, 8] k (fun kq v7 v8 w' => ∃ (AM : List (S24)) (Au : Int), v8 = .int .i64 Au ∧ Zz (bG kq a0 a2 AM Au Ac Ad Ae An Al Am Aj Ak = some r) ∧ Zz (kq ≤ k) ∧ Zz (Kd.R k24 24 w' w.heap.size (fun k_ => k_ ≠ Af) v7 AM) ∧ Zz (w'.heap[Af]? = some (.cells #[.string Ac, .bool Ad, .string Ae, .string An, .bool Al, .string Am, .bool Aj, .string Ak] 24 (0, 0))) ∧ Zz (Below w.heap.size w w'))
 case atStart => exact ⟨(A6), (0), xrr, H', ⟨Nat.le_refl _⟩, ⟨by (with_reducible repeat (first | apply Kd.R_alloc | apply Kd.R_drewN | apply Kd.R_drew)); exact Kd.R_mono A7.out (fun _ hk => hk.2)⟩, ⟨xbk⟩, ⟨xbl⟩⟩
 case round => (
 clear H'
 obtain ⟨AM, Au, rfl, HA, HK1, Ai, Ap, HB⟩ := hrel
 cases gk with
 | zero => exact absurd HA.out (by simp [bG])
 | succ k1 => (
 have H := HA.out
 clear HA
 simp only [bG] at H
 refine xid H ?_ ?_ <;> clear H <;> intro c7 H
 {
 have A1 := xdt c7
 clear c7
 have Bt := Zz.mk H
 clear H
 go_upto_region 5 with (fail)
 go_cut [29] (fun v29 wc => ∃ kq AT, v29 = .bool AT ∧ Zz (dG kq a0 a2 AM Au AT Ac Ad Ae An Al Am Aj Ak = some r) ∧ Zz (kq ≤ k1) ∧ Zz (Kd.R k24 24 wc w.heap.size (fun k_ => k_ ≠ Af) u7 AM) ∧ Zz (wc.heap[Af]? = some (.cells #[.string Ac, .bool Ad, .string Ae, .string An, .bool Al, .string Am, .bool Aj, .string Ak] 24 (0, 0))) ∧ Zz (Below w.heap.size w wc))
 case first => (
 have H := Bt.out
 clear Bt
 refine xid H ?_ ?_ <;> clear H <;> intro c9 H
 {
 have AU := xdt c9
 clear c9
 (first | rw [AU] | (simp only [ao, aq]; rw [AU]) | skip)
 refine xin H ?_; clear H; intro c10 H
 have BA := xdt c10
 clear c10
 replace H := xa H
 obtain ⟨p11, q11, hx11⟩ := xiv a2 Au xod xod
 go_wp2
 go_meet
 case rel => exact ⟨_, (((bt a2 Au) != 63)), xrr, H, ⟨xoj HK1⟩, ⟨xkd Ai⟩, ⟨xbk⟩, ⟨xbl⟩⟩
 }
 have AU := xdf c9
 clear c9
 (first | rw [AU] | (simp only [ao, aq]; rw [AU]) | skip)
 replace H := xa H
 go_wp2
 go_meet
 case rel => exact ⟨_, (false), xrr, H, ⟨xoj HK1⟩, ⟨xkd Ai⟩, ⟨xbk⟩, ⟨xbl⟩⟩
 )
 case rest => (
 clear Bt
 clear A1
 obtain ⟨kq, AT, rfl, HA, HJ7, Ai, Ap, HB⟩ := hcut
 cases kq with
 | zero => exact absurd HA.out (by simp [dG])
 | succ kj7 => (
 have H := HA.out
 clear HA
 simp only [dG] at H
 refine xib H ?_ ?_ <;> clear H <;> rintro rfl H
 {
 replace H := xa H
 go_wp2
 go_roundg kj7
 case measure => have := HK1.out; have := HJ7.out; omega
 case rel => exact ⟨(AM), (wrap64 (Au + 1)), xrr, H, ⟨by have := HK1.out; have := HJ7.out; omega⟩, ⟨xkd Ai⟩, ⟨xbk⟩, ⟨xbl⟩⟩
 }
 have H' := Zz.mk H
 clear H
 go_wp2
 go_loopg [7, 9] kj7 (fun kq v7 v9 w' => ∃ (Ay : List (S24)) (Av : Int), v9 = .int .i64 Av ∧ Zz (bg kq a0 a2 Ay Au Av Ac Ad Ae An Al Am Aj Ak = some r) ∧ Zz (kq ≤ kj7) ∧ Zz (Kd.R k24 24 w' w.heap.size (fun k_ => k_ ≠ Af) v7 Ay) ∧ Zz (w'.heap[Af]? = some (.cells #[.string Ac, .bool Ad, .string Ae, .string An, .bool Al, .string Am, .bool Aj, .string Ak] 24 (0, 0))) ∧ Zz (Below w.heap.size w w'))
 case atStart => exact ⟨(AM), (Au), xrr, H', ⟨Nat.le_refl _⟩, ⟨xkd Ai⟩, ⟨xbk⟩, ⟨xbl⟩⟩
 case round => (
 clear H'
 obtain ⟨Ay, Av, rfl, HA, HK3, Ai, Ap, HB⟩ := hrel
 cases gk with
 | zero => exact absurd HA.out (by simp [bg])
 | succ k3 => (
 have H := HA.out
 clear HA
 simp only [bg] at H
 refine xid H ?_ ?_ <;> clear H <;> intro c13 H
 {
 have A0 := xdt c13
 clear c13
 have A2 := Zz.mk H
 clear H
 go_upto_region 9 with (fail)
 go_cut [46] (fun v46 wc => ∃ kq AS, v46 = .bool AS ∧ Zz (dH kq a0 a2 Ay Au Av AS Ac Ad Ae An Al Am Aj Ak = some r) ∧ Zz (kq ≤ k3) ∧ Zz (Kd.R k24 24 wc w.heap.size (fun k_ => k_ ≠ Af) u7 Ay) ∧ Zz (wc.heap[Af]? = some (.cells #[.string Ac, .bool Ad, .string Ae, .string An, .bool Al, .string Am, .bool Aj, .string Ak] 24 (0, 0))) ∧ Zz (Below w.heap.size w wc))
 case first => (
 have H := A2.out
 clear A2
 refine xid H ?_ ?_ <;> clear H <;> intro c15 H
 {
 have AN := xdt c15
 clear c15
 (first | rw [AN] | (simp only [ao, aq]; rw [AN]) | skip)
 refine xin H ?_; clear H; intro c16 H
 have BB := xdt c16
 clear c16
 replace H := xa H
 obtain ⟨p17, q17, hx17⟩ := xiv a2 Av xod xod
 go_wp2
 go_meet
 case rel => exact ⟨_, (((bt a2 Av) != 35)), xrr, H, ⟨by have := HK1.out; have := HJ7.out; have := HK3.out; first | omega | exact Nat.le_refl _⟩, ⟨xkd Ai⟩, ⟨xbk⟩, ⟨xbl⟩⟩
 }
 have AN := xdf c15
 clear c15
 (first | rw [AN] | (simp only [ao, aq]; rw [AN]) | skip)
 replace H := xa H
 go_wp2
 go_meet
 case rel => exact ⟨_, (false), xrr, H, ⟨by have := HK1.out; have := HJ7.out; have := HK3.out; first | omega | exact Nat.le_refl _⟩, ⟨xkd Ai⟩, ⟨xbk⟩, ⟨xbl⟩⟩
 )
 case rest => (
 clear A2
 clear A0
 obtain ⟨kq, AS, rfl, HA, HJ13, Ai, Ap, HB⟩ := hcut
 cases kq with
 | zero => exact absurd HA.out (by simp [dH])
 | succ kj13 => (
 have H := HA.out
 clear HA
 simp only [dH] at H
 refine xib H ?_ ?_ <;> clear H <;> rintro rfl H
 {
 replace H := xa H
 go_wp2
 go_roundg kj13
 case measure => have := HK1.out; have := HJ7.out; have := HK3.out; have := HJ13.out; omega
 case rel => exact ⟨(Ay), (wrap64 (Av + 1)), xrr, H, ⟨by have := HK1.out; have := HJ7.out; have := HK3.out; have := HJ13.out; omega⟩, ⟨xkd Ai⟩, ⟨xbk⟩, ⟨xbl⟩⟩
 }
 obtain ⟨A8, AB⟩ : ∃ j_ : Int, (mn Au Av) = j_ := ⟨_, rfl⟩
 first | rw [AB] at H | simp only [AB] at H | skip
 have hji19_ : (if Av < Au then Av else Au) = A8 := AB
 refine xin H ?_; clear H; intro c20 H
 obtain ⟨A9, Ba⟩ := xcp c20
 clear c20
 refine xin H ?_; clear H; intro c21 H
 obtain ⟨Bb, Bc⟩ := xcp c21
 clear c21
 obtain ⟨At, Ax⟩ : ∃ j_ : ByteArray, (a2.extract 0 ((A8) : Int).toNat) = j_ := ⟨_, rfl⟩
 first | rw [Ax] at H | simp only [Ax] at H | skip
 have A3 := Zz.mk H
 clear H
 have Cc := xz8 Ap.out
 go_upto_if 56 with (first | ((with_reducible refine aj (N := 10) rfl ?_); refine xew 10 ?_; intro Ag w25 Aq BC hb hg; have Ar := xlt (g := Af) hg; have As := xgt (g := Af) hg; replace Ai := Zz.mk (Kd.R_below (Kd.R_elderB (xkd Ai) Ag (Nat.le_of_eq hg.symm)) hb); replace Ap := xbb (g := Af) (o := .cells #[.string Ac, .bool Ad, .string Ae, .string An, .bool Al, .string Am, .bool Aj, .string Ak] 24 (0, 0)) hb; replace HB := xst hb; clear hb hg; have BD := As.out; have BE := Ar.out; have Cd := xz8 Aq.out))
 (try simp only [Act.put, xl1, xl2, xl3])
 go_cut [] (fun wc => ∃ kq Aa Ab, Zz (dI kq a0 a2 Ay Au Av Ac Ad Ae An Al Am Aj Ak Ac Ad Ae At Aa Ab Aj Ak = some r) ∧ Zz (kq ≤ kj13) ∧ Zz (Kd.R k24 24 wc w.heap.size (fun k_ => k_ ≠ Af ∧ k_ ≠ Ag) u7 Ay) ∧ Zz (wc.heap[Af]? = some (.cells #[.string Ac, .bool Ad, .string Ae, .string An, .bool Al, .string Am, .bool Aj, .string Ak] 24 (0, 0))) ∧ Zz (wc.heap[Ag]? = some (.cells #[.string Ac, .bool Ad, .string Ae, .string At, .bool Aa, .string Ab, .bool Aj, .string Ak] 24 (0, 0))) ∧ Zz (Below w.heap.size w wc))
 case first => (
 have H := A3.out
 clear A3
 refine xid H ?_ ?_ <;> clear H <;> intro c28 H
 {
 have AO := xdt c28
 clear c28
 (first | rw [AO] | (simp only [ao, aq]; rw [AO]) | skip)
 obtain ⟨Bd, AV⟩ : ∃ j_ : Int, (wrap64 (Au + 1)) = j_ := ⟨_, rfl⟩
 first | rw [AV] at H | simp only [AV] at H | skip
 have Bu : (IntKind.i64.wrap (Au + 1)) = Bd := (ao _).trans AV
 refine xin H ?_; clear H; intro c30 H
 obtain ⟨BF, BG⟩ := xcp c30
 clear c30
 refine xin H ?_; clear H; intro c31 H
 obtain ⟨BH, BI⟩ := xcp c31
 clear c31
 refine xin H ?_; clear H; intro c32 H
 obtain ⟨BJ, BL⟩ := xcp c32
 clear c32
 obtain ⟨Be, AW⟩ : ∃ j_ : ByteArray, (a2.extract ((Bd) : Int).toNat (Av : Int).toNat) = j_ := ⟨_, rfl⟩
 try (have A4 := AW; simp only [Int.toNat_natCast] at A4)
 first | rw [AW] at H | simp only [AW] at H | skip
 replace H := xa H
 have BM := As.out
 have BN := Ar.out
 have Ce := xz8 Aq.out
 go_wp2
 go_meet
 case rel => exact ⟨_, (true), (Be), H, ⟨by have := HK1.out; have := HJ7.out; have := HK3.out; have := HJ13.out; first | omega | exact Nat.le_refl _⟩, ⟨by (with_reducible repeat (first | apply Kd.R_alloc | apply Kd.R_drewN | apply Kd.R_drew)); exact Kd.R_mono (Kd.R_far (p := ⟨Ag, 5, none⟩) (Kd.R_far (p := ⟨Ag, 4, none⟩) (Kd.R_far (p := ⟨Ag, 3, none⟩) (Kd.R_far (p := ⟨Ag, 7, none⟩) (Kd.R_far (p := ⟨Ag, 6, none⟩) (Kd.R_far (p := ⟨Ag, 5, none⟩) (Kd.R_far (p := ⟨Ag, 4, none⟩) (Kd.R_far (p := ⟨Ag, 3, none⟩) (Kd.R_far (p := ⟨Ag, 2, none⟩) (Kd.R_far (p := ⟨Ag, 1, none⟩) (Kd.R_far (p := ⟨Ag, 0, none⟩) (Kd.R_mono Ai.out (fun k_ hk => (⟨hk, hk.2⟩ : _ ∧ k_ ≠ Ag))) (fun _ hk => hk.2) (.string Ac)) (fun _ hk => hk.2) (.bool Ad)) (fun _ hk => hk.2) (.string Ae)) (fun _ hk => hk.2) (.string An)) (fun _ hk => hk.2) (.bool Al)) (fun _ hk => hk.2) (.string Am)) (fun _ hk => hk.2) (.bool Aj)) (fun _ hk => hk.2) (.string Ak)) (fun _ hk => hk.2) (.string At)) (fun _ hk => hk.2) (.bool true)) (fun _ hk => hk.2) (.string Be)) (fun _ hk => ⟨hk.1.1, hk.1.2⟩)⟩, ⟨xbK⟩, ⟨xbK⟩, ⟨xbl⟩⟩
 }
 have AO := xdf c28
 clear c28
 (first | rw [AO] | (simp only [ao, aq]; rw [AO]) | skip)
 replace H := xa H
 go_wp2
 go_meet
 case rel => exact ⟨_, (Al), (Am), H, ⟨by have := HK1.out; have := HJ7.out; have := HK3.out; have := HJ13.out; first | omega | exact Nat.le_refl _⟩, ⟨by (with_reducible repeat (first | apply Kd.R_alloc | apply Kd.R_drewN | apply Kd.R_drew)); exact Kd.R_mono (Kd.R_far (p := ⟨Ag, 3, none⟩) (Kd.R_far (p := ⟨Ag, 7, none⟩) (Kd.R_far (p := ⟨Ag, 6, none⟩) (Kd.R_far (p := ⟨Ag, 5, none⟩) (Kd.R_far (p := ⟨Ag, 4, none⟩) (Kd.R_far (p := ⟨Ag, 3, none⟩) (Kd.R_far (p := ⟨Ag, 2, none⟩) (Kd.R_far (p := ⟨Ag, 1, none⟩) (Kd.R_far (p := ⟨Ag, 0, none⟩) (Kd.R_mono Ai.out (fun k_ hk => (⟨hk, hk.2⟩ : _ ∧ k_ ≠ Ag))) (fun _ hk => hk.2) (.string Ac)) (fun _ hk => hk.2) (.bool Ad)) (fun _ hk => hk.2) (.string Ae)) (fun _ hk => hk.2) (.string An)) (fun _ hk => hk.2) (.bool Al)) (fun _ hk => hk.2) (.string Am)) (fun _ hk => hk.2) (.bool Aj)) (fun _ hk => hk.2) (.string Ak)) (fun _ hk => hk.2) (.string At)) (fun _ hk => ⟨hk.1.1, hk.1.2⟩)⟩, ⟨xbK⟩, ⟨xbK⟩, ⟨xbl⟩⟩
 )
 case rest => (
 clear A3
 clear A9 Ba Bb Bc
 obtain ⟨kq, Aa, Ab, HA, HJ22, Ai, Ap, Aq, HB⟩ := hcut
 cases kq with
 | zero => exact absurd HA.out (by simp [dI])
 | succ kj22 => (
 have H := HA.out
 clear HA
 simp only [dI] at H
 refine xid H ?_ ?_ <;> clear H <;> intro c36 H
 {
 have Bf := xdt c36
 clear c36
 obtain ⟨AX, AC⟩ : ∃ j_ : Int, (wrap64 (Av + 1)) = j_ := ⟨_, rfl⟩
 first | rw [AC] at H | simp only [AC] at H | skip
 have Bv : (IntKind.i64.wrap (Av + 1)) = AX := (ao _).trans AC
 refine xin H ?_; clear H; intro c38 H
 obtain ⟨BO, BP⟩ := xcp c38
 clear c38
 refine xin H ?_; clear H; intro c39 H
 obtain ⟨BQ, BR⟩ := xcp c39
 clear c39
 obtain ⟨AF, AI⟩ : ∃ j_ : ByteArray, (a2.extract ((AX) : Int).toNat a2.size) = j_ := ⟨_, rfl⟩
 first | rw [AI] at H | simp only [AI] at H | skip
 replace H := xbd H
 obtain ⟨Cf, A41, H⟩ := H
 try dsimp only at H
 refine xib H ?_ ?_ <;> clear H <;> rintro rfl H
 {
 refine xin H ?_; clear H; intro c43 H
 have LMc43 := Zz.mk c43
 clear c43
 obtain ⟨Bg, AP⟩ : ∃ y_ : List (S24), y_ = (Ay ++ [(⟨Ac, Ad, Ae, At, Aa, Ab, true, AF⟩ : S24)]) := ⟨_, rfl⟩
 replace H : (bg kj22 a0 a2 Bg Au AX Ac Ad Ae An Al Am Aj Ak) = some r := by first | (rw [AP]; with_reducible exact H) | (have H2_ := (Option.bind_some _ _).symm.trans H; rw [AP]; with_reducible exact H2_) | (have H2_ := (Option.bind_some _ _).symm.trans H; with_reducible exact H2_) | with_reducible exact H | (rw [AP]; exact H) | exact H
 have Bh := Zz.mk AP
 clear AP
 replace H := xa H
 have BS := As.out
 have BT := Ar.out
 have Cg := xz8 Aq.out
 go_wp2_with (first | ((with_reducible refine xgc (f := 23) rfl ?_); refine xca 76 Tryz.func23 (ei (w := _) (h := A41.out)) ?_ (hargs := by (try simp only [xm1, xm2, xm3]); first | done | (simp only [Ax, AI]; rfl) | rfl); rintro w46 hb; replace Ai := Zz.mk (Kd.R_below (by (with_reducible repeat (first | apply Kd.R_alloc | apply Kd.R_drewN | apply Kd.R_drew)); exact (Kd.R_mono (Kd.R_far (p := ⟨Ag, 7, none⟩) (Kd.R_far (p := ⟨Ag, 6, none⟩) (Kd.R_mono Ai.out (fun k_ hk => (⟨hk, hk.2⟩ : _ ∧ k_ ≠ Ag))) (fun _ hk => hk.2) (.bool true)) (fun _ hk => hk.2) (.string AF)) (fun _ h_ => h_.1))) hb); replace Ap := xbb (g := Af) (o := .cells #[.string Ac, .bool Ad, .string Ae, .string An, .bool Al, .string Am, .bool Aj, .string Ak] 24 (0, 0)) hb; replace Aq := xbb (g := Ag) (o := .cells #[.string Ac, .bool Ad, .string Ae, .string At, .bool Aa, .string Ab, .bool true, .string AF] 24 (0, 0)) hb; replace HB := xst hb; (try clear hb); have Ch := xz8 Aq.out) | ((with_reducible refine ez (b := .append) (xs := #[.tmp 77, .tmp 79]) rfl ?_); at_builtin; refine Kd.R_append k24 (w0 := w) w.heap.size rfl (.tmp 77) (.tmp 79) 29 24 (.agg #[(.string ⟨#[]⟩), (.bool false), (.string ⟨#[]⟩), (.string ⟨#[]⟩), (.bool false), (.string ⟨#[]⟩), (.bool false), (.string ⟨#[]⟩)]) 104 rfl Tryz.underlying29 nH rfl (by decide) (by omega) u7 Ay (⟨Ac, Ad, Ae, At, Aa, Ab, true, AF⟩ : S24) [.string Ac, .bool Ad, .string Ae, .string At, .bool Aa, .string Ab, .bool true, .string AF] (fun k_ => k_ ≠ Af ∧ k_ ≠ Ag) (fun _ => False) rfl rfl ?aP (fun _ hk => hk.elim) ?aF ?aO ?aB ?aS ?aL ?_; (case aP => exact o9 _ _ _ (⟨Ac, Ad, Ae, At, Aa, Ab, true, AF⟩ : S24)); (case aB => exact xbl); (case aF => exact (fun k_ hk => ⟨Kd.freshB (g := Af) (o := .cells #[.string Ac, .bool Ad, .string Ae, .string An, .bool Al, .string Am, .bool Aj, .string Ak] 24 (0, 0)) xbk k_ hk, Kd.freshB (g := Ag) (o := .cells #[.string Ac, .bool Ad, .string Ae, .string At, .bool Aa, .string Ab, .bool true, .string AF] 24 (0, 0)) xbk k_ hk⟩)); (case aO => exact (xkd Ai)); (case aS => exact (ar xbl)); (case aL => have := LMc43.out; first | omega | exact Nat.le_of_lt this); intro v690 w48 ho hb hg hat; rw [← Bh.out] at ho; have n0_ := Zz.mk (ey (g := Af) (o := .cells #[.string Ac, .bool Ad, .string Ae, .string An, .bool Al, .string Am, .bool Aj, .string Ak] 24 (0, 0)) xbk hg (Kd.R_away Ai.out (fun _ hk => hk.1))); have n1_ := Zz.mk (ey (g := Ag) (o := .cells #[.string Ac, .bool Ad, .string Ae, .string At, .bool Aa, .string Ab, .bool true, .string AF] 24 (0, 0)) xbk hg (Kd.R_away Ai.out (fun _ hk => hk.2))); have n2_ := Zz.mk (hb); have n3_ := Zz.mk (ho); clear Ap; clear Aq; clear HB; clear Ai; have Ap := n0_; have Aq := n1_; have HB := n2_; have Bi := n3_; clear n0_ n1_ n2_ n3_; clear ho hb hg hat))
 first | go_roundg kj22 | (simp only [← AB, ← Ax, ← AC, ← AI]; go_roundg kj22)
 case measure => have := HK1.out; have := HJ7.out; have := HK3.out; have := HJ13.out; have := HJ22.out; omega
 case rel => exact ⟨(Bg), (AX), (by first | exact xrs | (simp only [← AC] <;> (first | rfl | simp)) | exact xrr), H, ⟨by have := HK1.out; have := HJ7.out; have := HK3.out; have := HJ13.out; have := HJ22.out; omega⟩, ⟨by (with_reducible repeat (first | apply Kd.R_alloc | apply Kd.R_drewN | apply Kd.R_drew)); exact Kd.R_mono Bi.out (fun _ hk => hk.1)⟩, ⟨xbk⟩, ⟨xbl⟩⟩
 }
 replace H := xa H
 have BU := As.out
 have BV := Ar.out
 have Ci := xz8 Aq.out
 go_wp2_with (first | ((with_reducible refine xgc (f := 23) rfl ?_); refine xca 76 Tryz.func23 (ei (w := _) (h := A41.out)) ?_ (hargs := by (try simp only [xm1, xm2, xm3]); first | done | (simp only [Ax, AI]; rfl) | rfl); rintro w51 hb; replace Ai := Zz.mk (Kd.R_below (by (with_reducible repeat (first | apply Kd.R_alloc | apply Kd.R_drewN | apply Kd.R_drew)); exact (Kd.R_mono (Kd.R_far (p := ⟨Ag, 7, none⟩) (Kd.R_far (p := ⟨Ag, 6, none⟩) (Kd.R_mono Ai.out (fun k_ hk => (⟨hk, hk.2⟩ : _ ∧ k_ ≠ Ag))) (fun _ hk => hk.2) (.bool true)) (fun _ hk => hk.2) (.string AF)) (fun _ h_ => h_.1))) hb); replace Ap := xbb (g := Af) (o := .cells #[.string Ac, .bool Ad, .string Ae, .string An, .bool Al, .string Am, .bool Aj, .string Ak] 24 (0, 0)) hb; replace Aq := xbb (g := Ag) (o := .cells #[.string Ac, .bool Ad, .string Ae, .string At, .bool Aa, .string Ab, .bool true, .string AF] 24 (0, 0)) hb; replace HB := xst hb; (try clear hb)))
 first | go_roundg kj22 | (simp only [← AB, ← Ax, ← AC, ← AI]; go_roundg kj22)
 case measure => have := HK1.out; have := HJ7.out; have := HK3.out; have := HJ13.out; have := HJ22.out; omega
 case rel => exact ⟨(Ay), (AX), (by first | exact xrs | (simp only [← AC] <;> (first | rfl | simp)) | exact xrr), H, ⟨by have := HK1.out; have := HJ7.out; have := HK3.out; have := HJ13.out; have := HJ22.out; omega⟩, ⟨by (with_reducible repeat (first | apply Kd.R_alloc | apply Kd.R_drewN | apply Kd.R_drew)); exact Kd.R_mono Ai.out (fun _ hk => hk.1)⟩, ⟨xbk⟩, ⟨xbl⟩⟩
 }
 have Bf := xdf c36
 clear c36
 replace H := xbd H
 obtain ⟨Cj, A52, H⟩ := H
 try dsimp only at H
 refine xib H ?_ ?_ <;> clear H <;> rintro rfl H
 {
 refine xin H ?_; clear H; intro c54 H
 have LMc54 := Zz.mk c54
 clear c54
 obtain ⟨Bj, AQ⟩ : ∃ y_ : List (S24), y_ = (Ay ++ [(⟨Ac, Ad, Ae, At, Aa, Ab, Aj, Ak⟩ : S24)]) := ⟨_, rfl⟩
 replace H : (bg kj22 a0 a2 Bj Au (wrap64 (Av + 1)) Ac Ad Ae An Al Am Aj Ak) = some r := by first | (rw [AQ]; with_reducible exact H) | (have H2_ := (Option.bind_some _ _).symm.trans H; rw [AQ]; with_reducible exact H2_) | (have H2_ := (Option.bind_some _ _).symm.trans H; with_reducible exact H2_) | with_reducible exact H | (rw [AQ]; exact H) | exact H
 have Bk := Zz.mk AQ
 clear AQ
 replace H := xa H
 have BW := As.out
 have BX := Ar.out
 have Ck := xz8 Aq.out
 go_wp2_with (first | ((with_reducible refine xgc (f := 23) rfl ?_); refine xca 76 Tryz.func23 (ei (w := _) (h := A52.out)) ?_ (hargs := by (try simp only [xm1, xm2, xm3]); first | done | (simp only [Ax]; rfl) | rfl); rintro w57 hb; replace Ai := Zz.mk (Kd.R_below (xkd Ai) hb); replace Ap := xbb (g := Af) (o := .cells #[.string Ac, .bool Ad, .string Ae, .string An, .bool Al, .string Am, .bool Aj, .string Ak] 24 (0, 0)) hb; replace Aq := xbb (g := Ag) (o := .cells #[.string Ac, .bool Ad, .string Ae, .string At, .bool Aa, .string Ab, .bool Aj, .string Ak] 24 (0, 0)) hb; replace HB := xst hb; (try clear hb); have Cl := xz8 Aq.out) | ((with_reducible refine ez (b := .append) (xs := #[.tmp 77, .tmp 79]) rfl ?_); at_builtin; refine Kd.R_append k24 (w0 := w) w.heap.size rfl (.tmp 77) (.tmp 79) 29 24 (.agg #[(.string ⟨#[]⟩), (.bool false), (.string ⟨#[]⟩), (.string ⟨#[]⟩), (.bool false), (.string ⟨#[]⟩), (.bool false), (.string ⟨#[]⟩)]) 104 rfl Tryz.underlying29 nH rfl (by decide) (by omega) u7 Ay (⟨Ac, Ad, Ae, At, Aa, Ab, Aj, Ak⟩ : S24) [.string Ac, .bool Ad, .string Ae, .string At, .bool Aa, .string Ab, .bool Aj, .string Ak] (fun k_ => k_ ≠ Af ∧ k_ ≠ Ag) (fun _ => False) rfl rfl ?aP (fun _ hk => hk.elim) ?aF ?aO ?aB ?aS ?aL ?_; (case aP => exact o9 _ _ _ (⟨Ac, Ad, Ae, At, Aa, Ab, Aj, Ak⟩ : S24)); (case aB => exact xbl); (case aF => exact (fun k_ hk => ⟨Kd.freshB (g := Af) (o := .cells #[.string Ac, .bool Ad, .string Ae, .string An, .bool Al, .string Am, .bool Aj, .string Ak] 24 (0, 0)) xbk k_ hk, Kd.freshB (g := Ag) (o := .cells #[.string Ac, .bool Ad, .string Ae, .string At, .bool Aa, .string Ab, .bool Aj, .string Ak] 24 (0, 0)) xbk k_ hk⟩)); (case aO => exact (xkd Ai)); (case aS => exact (ar xbl)); (case aL => have := LMc54.out; first | omega | exact Nat.le_of_lt this); intro v694 w59 ho hb hg hat; rw [← Bk.out] at ho; have n0_ := Zz.mk (ey (g := Af) (o := .cells #[.string Ac, .bool Ad, .string Ae, .string An, .bool Al, .string Am, .bool Aj, .string Ak] 24 (0, 0)) xbk hg (Kd.R_away Ai.out (fun _ hk => hk.1))); have n1_ := Zz.mk (ey (g := Ag) (o := .cells #[.string Ac, .bool Ad, .string Ae, .string At, .bool Aa, .string Ab, .bool Aj, .string Ak] 24 (0, 0)) xbk hg (Kd.R_away Ai.out (fun _ hk => hk.2))); have n2_ := Zz.mk (hb); have n3_ := Zz.mk (ho); clear Ap; clear Aq; clear HB; clear Ai; have Ap := n0_; have Aq := n1_; have HB := n2_; have Bl := n3_; clear n0_ n1_ n2_ n3_; clear ho hb hg hat))
 first | go_roundg kj22 | (simp only [← AB, ← Ax]; go_roundg kj22)
 case measure => have := HK1.out; have := HJ7.out; have := HK3.out; have := HJ13.out; have := HJ22.out; omega
 case rel => exact ⟨(Bj), (wrap64 (Av + 1)), xrr, H, ⟨by have := HK1.out; have := HJ7.out; have := HK3.out; have := HJ13.out; have := HJ22.out; omega⟩, ⟨by (with_reducible repeat (first | apply Kd.R_alloc | apply Kd.R_drewN | apply Kd.R_drew)); exact Kd.R_mono Bl.out (fun _ hk => hk.1)⟩, ⟨xbk⟩, ⟨xbl⟩⟩
 }
 replace H := xa H
 have BY := As.out
 have BZ := Ar.out
 have Cm := xz8 Aq.out
 go_wp2_with (first | ((with_reducible refine xgc (f := 23) rfl ?_); refine xca 76 Tryz.func23 (ei (w := _) (h := A52.out)) ?_ (hargs := by (try simp only [xm1, xm2, xm3]); first | done | (simp only [Ax]; rfl) | rfl); rintro w62 hb; replace Ai := Zz.mk (Kd.R_below (xkd Ai) hb); replace Ap := xbb (g := Af) (o := .cells #[.string Ac, .bool Ad, .string Ae, .string An, .bool Al, .string Am, .bool Aj, .string Ak] 24 (0, 0)) hb; replace Aq := xbb (g := Ag) (o := .cells #[.string Ac, .bool Ad, .string Ae, .string At, .bool Aa, .string Ab, .bool Aj, .string Ak] 24 (0, 0)) hb; replace HB := xst hb; (try clear hb)))
 first | go_roundg kj22 | (simp only [← AB, ← Ax]; go_roundg kj22)
 case measure => have := HK1.out; have := HJ7.out; have := HK3.out; have := HJ13.out; have := HJ22.out; omega
 case rel => exact ⟨(Ay), (wrap64 (Av + 1)), xrr, H, ⟨by have := HK1.out; have := HJ7.out; have := HK3.out; have := HJ13.out; have := HJ22.out; omega⟩, ⟨by (with_reducible repeat (first | apply Kd.R_alloc | apply Kd.R_drewN | apply Kd.R_drew)); exact Kd.R_mono Ai.out (fun _ hk => hk.1)⟩, ⟨xbk⟩, ⟨xbl⟩⟩
 )
 )
 )
 )
 }
 have A0 := xdf c13
 clear c13
 replace H := xa H
 go_wp2
 go_roundg k3
 case measure => have := HK1.out; have := HJ7.out; have := HK3.out; omega
 case rel => exact ⟨(Ay), (wrap64 (Au + 1)), xrr, H, ⟨by have := HK1.out; have := HJ7.out; have := HK3.out; omega⟩, ⟨xkd Ai⟩, ⟨xbk⟩, ⟨xbl⟩⟩
 )
 )
 )
 )
 }
 have A1 := xdf c7
 clear c7
 have H' := Zz.mk H
 clear H
 go_wp2
 go_loopg [7, 11] k1 (fun kq v7 v11 w' => ∃ (AK : List (S24)) (Aw : Int), v11 = .int .i64 Aw ∧ Zz (bH kq a0 a2 AK Aw Ac Ad Ae An Al Am Aj Ak = some r) ∧ Zz (kq ≤ k1) ∧ Zz (Kd.R k24 24 w' w.heap.size (fun k_ => k_ ≠ Af) v7 AK) ∧ Zz (w'.heap[Af]? = some (.cells #[.string Ac, .bool Ad, .string Ae, .string An, .bool Al, .string Am, .bool Aj, .string Ak] 24 (0, 0))) ∧ Zz (Below w.heap.size w w'))
 case atStart => exact ⟨(AM), (0), xrr, H', ⟨Nat.le_refl _⟩, ⟨xkd Ai⟩, ⟨xbk⟩, ⟨xbl⟩⟩
 case round => (
 clear H'
 clear A1
 obtain ⟨AK, Aw, rfl, HA, HK2, Ai, Ap, HB⟩ := hrel
 cases gk with
 | zero => exact absurd HA.out (by simp [bH])
 | succ k2 => (
 have H := HA.out
 clear HA
 simp only [bH] at H
 refine xid H ?_ ?_ <;> clear H <;> intro c63 H
 {
 have Bm := xdt c63
 clear c63
 refine xin H ?_; clear H; intro c64 H
 have B0 := xdt c64
 clear c64
 refine xid H ?_ ?_ <;> clear H <;> intro c66 H
 {
 obtain ⟨Bn, Bo⟩ := xqe c66
 clear c66
 have B1 := eq_true (xod : 0 ≤ Aw)
 refine xin H ?_; clear H; intro c68 H
 obtain ⟨B2, B3⟩ := xcp c68
 clear c68
 obtain ⟨AG, AD⟩ : ∃ j_ : ByteArray, (a2.extract 0 (Aw : Int).toNat) = j_ := ⟨_, rfl⟩
 try (have A5 := AD; simp only [Int.toNat_natCast] at A5)
 first | rw [AD] at H | simp only [AD] at H | skip
 obtain ⟨AY, AE⟩ : ∃ j_ : Int, (wrap64 (Aw + 1)) = j_ := ⟨_, rfl⟩
 first | rw [AE] at H | simp only [AE] at H | skip
 have Bw : (IntKind.i64.wrap (Aw + 1)) = AY := (ao _).trans AE
 refine xin H ?_; clear H; intro c71 H
 obtain ⟨B4, B5⟩ := xcp c71
 clear c71
 refine xin H ?_; clear H; intro c72 H
 obtain ⟨B6, B7⟩ := xcp c72
 clear c72
 obtain ⟨AH, AJ⟩ : ∃ j_ : ByteArray, (a2.extract ((AY) : Int).toNat a2.size) = j_ := ⟨_, rfl⟩
 first | rw [AJ] at H | simp only [AJ] at H | skip
 replace H := xbd H
 obtain ⟨Cn, A74, H⟩ := H
 try dsimp only at H
 refine xib H ?_ ?_ <;> clear H <;> rintro rfl H
 {
 refine xin H ?_; clear H; intro c76 H
 have LMc76 := Zz.mk c76
 clear c76
 obtain ⟨Bp, AR⟩ : ∃ y_ : List (S24), y_ = (AK ++ [(⟨Ac, Ad, Ae, AG, Al, Am, true, AH⟩ : S24)]) := ⟨_, rfl⟩
 replace H : (bH k2 a0 a2 Bp AY Ac Ad Ae An Al Am Aj Ak) = some r := by first | (rw [AR]; with_reducible exact H) | (have H2_ := (Option.bind_some _ _).symm.trans H; rw [AR]; with_reducible exact H2_) | (have H2_ := (Option.bind_some _ _).symm.trans H; with_reducible exact H2_) | with_reducible exact H | (rw [AR]; exact H) | exact H
 have Bq := Zz.mk AR
 clear AR
 replace H := xa H
 obtain ⟨p65, q65, hx65⟩ := xiv a2 Aw xod xod
 have Co := xz8 Ap.out
 go_upto_region 25 with (first | ((with_reducible refine aj (N := 12) rfl ?_); refine xew 12 ?_; intro Ah w78 Ao Br hb hg; have Az := xlt (g := Af) hg; have AA := xgt (g := Af) hg; replace Ai := Zz.mk (Kd.R_below (Kd.R_elderB (xkd Ai) Ah (Nat.le_of_eq hg.symm)) hb); replace Ap := xbb (g := Af) (o := .cells #[.string Ac, .bool Ad, .string Ae, .string An, .bool Al, .string Am, .bool Aj, .string Ak] 24 (0, 0)) hb; replace HB := xst hb; clear hb hg; have B8 := AA.out; have B9 := Az.out; have Bx := xz8 Ao.out))
 (try simp only [Act.put, xl1, xl2, xl3])
 refine aaD ?_; intro wz_ hwz_
 have nb_ : Zz (wz_.heap[Ah]? = some (.cells #[.string Ac, .bool Ad, .string Ae, .string An, .bool Al, .string Am, .bool Aj, .string Ak] 24 (0, 0))) := ⟨by rw [hwz_]; exact xbk⟩
 have nc_ : Zz (wz_.heap[Af]? = some (.cells #[.string Ac, .bool Ad, .string Ae, .string An, .bool Al, .string Am, .bool Aj, .string Ak] 24 (0, 0))) := ⟨by rw [hwz_]; exact xbk⟩
 have nd_ : Zz (Kd.R k24 24 wz_ w.heap.size (fun k_ => k_ ≠ Af ∧ k_ ≠ Ah) u7 AK) := ⟨by rw [hwz_]; (with_reducible repeat (first | apply Kd.R_alloc | apply Kd.R_drewN | apply Kd.R_drew)); exact (Kd.R_mono (Kd.R_far (p := ⟨Ah, 7, none⟩) (Kd.R_far (p := ⟨Ah, 6, none⟩) (Kd.R_far (p := ⟨Ah, 5, none⟩) (Kd.R_far (p := ⟨Ah, 4, none⟩) (Kd.R_far (p := ⟨Ah, 3, none⟩) (Kd.R_far (p := ⟨Ah, 2, none⟩) (Kd.R_far (p := ⟨Ah, 1, none⟩) (Kd.R_far (p := ⟨Ah, 0, none⟩) (Kd.R_mono Ai.out (fun k_ hk => (⟨hk, hk.2⟩ : _ ∧ k_ ≠ Ah))) (fun _ hk => hk.2) (.string Ac)) (fun _ hk => hk.2) (.bool Ad)) (fun _ hk => hk.2) (.string Ae)) (fun _ hk => hk.2) (.string An)) (fun _ hk => hk.2) (.bool Al)) (fun _ hk => hk.2) (.string Am)) (fun _ hk => hk.2) (.bool Aj)) (fun _ hk => hk.2) (.string Ak)) (fun _ h_ => h_.1))⟩
 have ne_ : Zz (Below w.heap.size w wz_) := ⟨by rw [hwz_]; exact xbl⟩
 clear hwz_ Bx
 replace Ao := nb_; replace Ap := nc_; replace Ai := nd_; replace HB := ne_; clear nb_ nc_ nd_ ne_
 obtain ⟨hcz80_0, hcz80_1, hcz80_2, hcz80_3, hcz80_4, hcz80_5, hcz80_6, hcz80_7⟩ := xc8 Ao; have hfz80_0 := xf Ao 0; have hfz80_1 := xf Ao 1; have hfz80_2 := xf Ao 2; have hfz80_3 := xf Ao 3; have hfz80_4 := xf Ao 4; have hfz80_5 := xf Ao 5; have hfz80_6 := xf Ao 6; have hfz80_7 := xf Ao 7
 go_wp2_with (first | ((with_reducible refine xgc (f := 23) rfl ?_); refine xca 104 Tryz.func23 (ei (w := _) (h := A74.out)) ?_ (hargs := by (try simp only [xm1, xm2, xm3]); first | done | (simp only [AD, AJ]; rfl) | rfl); rintro w81 hb; replace Ai := Zz.mk (Kd.R_below (by (with_reducible repeat (first | apply Kd.R_alloc | apply Kd.R_drewN | apply Kd.R_drew)); exact (Kd.R_mono (Kd.R_far (p := ⟨Ah, 7, none⟩) (Kd.R_far (p := ⟨Ah, 6, none⟩) (Kd.R_far (p := ⟨Ah, 3, none⟩) (Kd.R_mono Ai.out (fun k_ hk => (⟨hk, hk.2⟩ : _ ∧ k_ ≠ Ah))) (fun _ hk => hk.2) (.string AG)) (fun _ hk => hk.2) (.bool true)) (fun _ hk => hk.2) (.string AH)) (fun _ h_ => h_.1))) hb); replace Ap := xbb (g := Af) (o := .cells #[.string Ac, .bool Ad, .string Ae, .string An, .bool Al, .string Am, .bool Aj, .string Ak] 24 (0, 0)) hb; replace Ao := xbb (g := Ah) (o := .cells #[.string Ac, .bool Ad, .string Ae, .string AG, .bool Al, .string Am, .bool true, .string AH] 24 (0, 0)) hb; replace HB := xst hb; (try clear hb); have Cp := xz8 Ao.out) | ((with_reducible refine ez (b := .append) (xs := #[.tmp 105, .tmp 107]) rfl ?_); at_builtin; refine Kd.R_append k24 (w0 := w) w.heap.size rfl (.tmp 105) (.tmp 107) 29 24 (.agg #[(.string ⟨#[]⟩), (.bool false), (.string ⟨#[]⟩), (.string ⟨#[]⟩), (.bool false), (.string ⟨#[]⟩), (.bool false), (.string ⟨#[]⟩)]) 104 rfl Tryz.underlying29 nH rfl (by decide) (by omega) u7 AK (⟨Ac, Ad, Ae, AG, Al, Am, true, AH⟩ : S24) [.string Ac, .bool Ad, .string Ae, .string AG, .bool Al, .string Am, .bool true, .string AH] (fun k_ => k_ ≠ Af ∧ k_ ≠ Ah) (fun _ => False) rfl rfl ?aP (fun _ hk => hk.elim) ?aF ?aO ?aB ?aS ?aL ?_; (case aP => exact o9 _ _ _ (⟨Ac, Ad, Ae, AG, Al, Am, true, AH⟩ : S24)); (case aB => exact xbl); (case aF => exact (fun k_ hk => ⟨Kd.freshB (g := Af) (o := .cells #[.string Ac, .bool Ad, .string Ae, .string An, .bool Al, .string Am, .bool Aj, .string Ak] 24 (0, 0)) xbk k_ hk, Kd.freshB (g := Ah) (o := .cells #[.string Ac, .bool Ad, .string Ae, .string AG, .bool Al, .string Am, .bool true, .string AH] 24 (0, 0)) xbk k_ hk⟩)); (case aO => exact (xkd Ai)); (case aS => exact (ar xbl)); (case aL => have := LMc76.out; first | omega | exact Nat.le_of_lt this); intro v699 w83 ho hb hg hat; rw [← Bq.out] at ho; have n0_ := Zz.mk (ey (g := Af) (o := .cells #[.string Ac, .bool Ad, .string Ae, .string An, .bool Al, .string Am, .bool Aj, .string Ak] 24 (0, 0)) xbk hg (Kd.R_away Ai.out (fun _ hk => hk.1))); have n1_ := Zz.mk (ey (g := Ah) (o := .cells #[.string Ac, .bool Ad, .string Ae, .string AG, .bool Al, .string Am, .bool true, .string AH] 24 (0, 0)) xbk hg (Kd.R_away Ai.out (fun _ hk => hk.2))); have n2_ := Zz.mk (hb); have n3_ := Zz.mk (ho); clear Ap; clear Ao; clear HB; clear Ai; have Ap := n0_; have Ao := n1_; have HB := n2_; have Bs := n3_; clear n0_ n1_ n2_ n3_; clear ho hb hg hat))
 first | go_roundg k2 | (simp only [← AD, ← AE, ← AJ]; go_roundg k2)
 case measure => have := HK1.out; have := HK2.out; omega
 case rel => exact ⟨(Bp), (AY), (by first | exact xrs | (simp only [← AE] <;> (first | rfl | simp)) | exact xrr), H, ⟨by have := HK1.out; have := HK2.out; omega⟩, ⟨by (with_reducible repeat (first | apply Kd.R_alloc | apply Kd.R_drewN | apply Kd.R_drew)); exact Kd.R_mono Bs.out (fun _ hk => hk.1)⟩, ⟨xbk⟩, ⟨xbl⟩⟩
 }
 replace H := xa H
 obtain ⟨p65, q65, hx65⟩ := xiv a2 Aw xod xod
 have Cq := xz8 Ap.out
 go_upto_region 25 with (first | ((with_reducible refine aj (N := 12) rfl ?_); refine xew 12 ?_; intro Ah w85 Ao Br hb hg; have Az := xlt (g := Af) hg; have AA := xgt (g := Af) hg; replace Ai := Zz.mk (Kd.R_below (Kd.R_elderB (xkd Ai) Ah (Nat.le_of_eq hg.symm)) hb); replace Ap := xbb (g := Af) (o := .cells #[.string Ac, .bool Ad, .string Ae, .string An, .bool Al, .string Am, .bool Aj, .string Ak] 24 (0, 0)) hb; replace HB := xst hb; clear hb hg; have Ca := AA.out; have Cb := Az.out; have By := xz8 Ao.out))
 (try simp only [Act.put, xl1, xl2, xl3])
 refine aaD ?_; intro wz_ hwz_
 have nb_ : Zz (wz_.heap[Ah]? = some (.cells #[.string Ac, .bool Ad, .string Ae, .string An, .bool Al, .string Am, .bool Aj, .string Ak] 24 (0, 0))) := ⟨by rw [hwz_]; exact xbk⟩
 have nc_ : Zz (wz_.heap[Af]? = some (.cells #[.string Ac, .bool Ad, .string Ae, .string An, .bool Al, .string Am, .bool Aj, .string Ak] 24 (0, 0))) := ⟨by rw [hwz_]; exact xbk⟩
 have nd_ : Zz (Kd.R k24 24 wz_ w.heap.size (fun k_ => k_ ≠ Af ∧ k_ ≠ Ah) u7 AK) := ⟨by rw [hwz_]; (with_reducible repeat (first | apply Kd.R_alloc | apply Kd.R_drewN | apply Kd.R_drew)); exact (Kd.R_mono (Kd.R_far (p := ⟨Ah, 7, none⟩) (Kd.R_far (p := ⟨Ah, 6, none⟩) (Kd.R_far (p := ⟨Ah, 5, none⟩) (Kd.R_far (p := ⟨Ah, 4, none⟩) (Kd.R_far (p := ⟨Ah, 3, none⟩) (Kd.R_far (p := ⟨Ah, 2, none⟩) (Kd.R_far (p := ⟨Ah, 1, none⟩) (Kd.R_far (p := ⟨Ah, 0, none⟩) (Kd.R_mono Ai.out (fun k_ hk => (⟨hk, hk.2⟩ : _ ∧ k_ ≠ Ah))) (fun _ hk => hk.2) (.string Ac)) (fun _ hk => hk.2) (.bool Ad)) (fun _ hk => hk.2) (.string Ae)) (fun _ hk => hk.2) (.string An)) (fun _ hk => hk.2) (.bool Al)) (fun _ hk => hk.2) (.string Am)) (fun _ hk => hk.2) (.bool Aj)) (fun _ hk => hk.2) (.string Ak)) (fun _ h_ => h_.1))⟩
 have ne_ : Zz (Below w.heap.size w wz_) := ⟨by rw [hwz_]; exact xbl⟩
 clear hwz_ By
 replace Ao := nb_; replace Ap := nc_; replace Ai := nd_; replace HB := ne_; clear nb_ nc_ nd_ ne_
 obtain ⟨hcz87_0, hcz87_1, hcz87_2, hcz87_3, hcz87_4, hcz87_5, hcz87_6, hcz87_7⟩ := xc8 Ao; have hfz87_0 := xf Ao 0; have hfz87_1 := xf Ao 1; have hfz87_2 := xf Ao 2; have hfz87_3 := xf Ao 3; have hfz87_4 := xf Ao 4; have hfz87_5 := xf Ao 5; have hfz87_6 := xf Ao 6; have hfz87_7 := xf Ao 7
 go_wp2_with (first | ((with_reducible refine xgc (f := 23) rfl ?_); refine xca 104 Tryz.func23 (ei (w := _) (h := A74.out)) ?_ (hargs := by (try simp only [xm1, xm2, xm3]); first | done | (simp only [AD, AJ]; rfl) | rfl); rintro w88 hb; replace Ai := Zz.mk (Kd.R_below (by (with_reducible repeat (first | apply Kd.R_alloc | apply Kd.R_drewN | apply Kd.R_drew)); exact (Kd.R_mono (Kd.R_far (p := ⟨Ah, 7, none⟩) (Kd.R_far (p := ⟨Ah, 6, none⟩) (Kd.R_far (p := ⟨Ah, 3, none⟩) (Kd.R_mono Ai.out (fun k_ hk => (⟨hk, hk.2⟩ : _ ∧ k_ ≠ Ah))) (fun _ hk => hk.2) (.string AG)) (fun _ hk => hk.2) (.bool true)) (fun _ hk => hk.2) (.string AH)) (fun _ h_ => h_.1))) hb); replace Ap := xbb (g := Af) (o := .cells #[.string Ac, .bool Ad, .string Ae, .string An, .bool Al, .string Am, .bool Aj, .string Ak] 24 (0, 0)) hb; replace Ao := xbb (g := Ah) (o := .cells #[.string Ac, .bool Ad, .string Ae, .string AG, .bool Al, .string Am, .bool true, .string AH] 24 (0, 0)) hb; replace HB := xst hb; (try clear hb)))
 first | go_roundg k2 | (simp only [← AD, ← AE, ← AJ]; go_roundg k2)
 case measure => have := HK1.out; have := HK2.out; omega
 case rel => exact ⟨(AK), (AY), (by first | exact xrs | (simp only [← AE] <;> (first | rfl | simp)) | exact xrr), H, ⟨by have := HK1.out; have := HK2.out; omega⟩, ⟨by (with_reducible repeat (first | apply Kd.R_alloc | apply Kd.R_drewN | apply Kd.R_drew)); exact Kd.R_mono Ai.out (fun _ hk => hk.1)⟩, ⟨xbk⟩, ⟨xbl⟩⟩
 }
 obtain ⟨Bn, Bo⟩ := xqn c66
 replace H := xa H
 obtain ⟨p65, q65, hx65⟩ := xiv a2 Aw xod xod
 go_wp2
 go_roundg k2
 case measure => have := HK1.out; have := HK2.out; omega
 case rel => exact ⟨(AK), (wrap64 (Aw + 1)), xrr, H, ⟨by have := HK1.out; have := HK2.out; omega⟩, ⟨xkd Ai⟩, ⟨xbk⟩, ⟨xbl⟩⟩
 }
 have Bm := xdf c63
 clear c63
 obtain rfl := Option.some.inj H
 go_wp2
 go_ret
 exact ⟨_, by first | rfl | (simp [br, bs] <;> first | rfl | (simp only [dw, bne, Bool.not_not]; done)) | (simp [*, br, bs] <;> rfl), by (with_reducible repeat (first | apply Kd.R_alloc | apply Kd.R_drewN | apply Kd.R_drew)); exact Kd.R_mono Ai.out (fun _ hk => trivial), xbl⟩
 )
 )
 )
 )
end Go.Proofs.YtpmflpeckoeooaaGreatDoor.X
