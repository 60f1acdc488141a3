/- Texts that the law's proof needs, joined by a program of this session. -/
import Derived.Test.YtpmflpeckoeooaaGreatDoorZSyntaxParses1
import Derived.Test.YtpmflpeckoeooaaGreatDoorZSyntaxParses2
import Derived.Test.YtpmflpeckoeooaaGreatDoorZSyntaxParses7
import Derived.Test.YtpmflpeckoeooaaGreatDoorZSyntaxParses8
import Derived.Test.YtpmflpeckoeooaaGreatDoorZSyntaxParses9
set_option maxHeartbeats 8000000
set_option maxRecDepth 100000
set_option linter.unusedSimpArgs false
set_option linter.unusedVariables false
namespace Go.Proofs.YtpmflpeckoeooaaGreatDoor.X
open Go.RowKit Go.Proofs.YtpmflpeckoeooaaGreatDoorW.PrintWords Go.Proofs.YtpmflpeckoeooaaGreatDoorW.PrintLast Go.Proofs.YtpmflpeckoeooaaGreatDoorW.PrintMore
attribute [local go_sem] ez ea gJ iY dq ir cv ia ic iU iV gz gA ib ie
mutual
def bS : Nat → Bool → ByteArray → List (S67) → Int → Option ((List (S67)))
  | 0, _, _, _, _ => none
  | k + 1, x0, x1, x5, x6 => if x6 < (x1.size : Int) then (if x6 ≥ 0 then (if 0 ≤ x6 then (dt k x0 x1 x5 x6 ((bt x1 x6) != 64)) else (none)) else (dt k x0 x1 x5 x6 false)) else (some x5)
def dt : Nat → Bool → ByteArray → List (S67) → Int → Bool → Option ((List (S67)))
  | 0, _, _, _, _, _ => none
  | k + 1, x0, x1, x5, x6, x23 => if x23 = true then (bS k x0 x1 x5 (wrap64 (x6 + 1))) else (bj k x0 x1 x5 x6 (wrap64 (x6 + 1)))
def bj : Nat → Bool → ByteArray → List (S67) → Int → Int → Option ((List (S67)))
  | 0, _, _, _, _, _ => none
  | k + 1, x0, x1, x5, x6, x7 => if x7 ≤ (x1.size : Int) then (if x7 < (x1.size : Int) then (if 0 ≤ x7 then (du k x0 x1 x5 x6 x7 ((bt x1 x7) != 58)) else (none)) else (du k x0 x1 x5 x6 x7 false)) else (bS k x0 x1 x5 (wrap64 (x6 + 1)))
def du : Nat → Bool → ByteArray → List (S67) → Int → Int → Bool → Option ((List (S67)))
  | 0, _, _, _, _, _, _ => none
  | k + 1, x0, x1, x5, x6, x7, x41 => if x41 = true then (bj k x0 x1 x5 x6 (wrap64 (x7 + 1))) else (if 0 ≤ (wrap64 (x6 + 1)) then (if (wrap64 (x6 + 1)) ≤ x7 then (if x7 ≤ (x1.size : Int) then (if x6 ≥ 0 then (if 0 ≤ x6 then (if x6 ≤ (x1.size : Int) then (ej k x0 x1 x5 x6 x7 true (x1.extract 0 (x6 : Int).toNat) (x1.extract ((wrap64 (x6 + 1)) : Int).toNat (x7 : Int).toNat) false (⟨#[]⟩ : ByteArray)) else (none)) else (none)) else (ej k x0 x1 x5 x6 x7 false (⟨#[]⟩ : ByteArray) (x1.extract ((wrap64 (x6 + 1)) : Int).toNat (x7 : Int).toNat) false (⟨#[]⟩ : ByteArray))) else (none)) else (none)) else (none))
def ej : Nat → Bool → ByteArray → List (S67) → Int → Int → Bool → ByteArray → ByteArray → Bool → ByteArray → Option ((List (S67)))
  | 0, _, _, _, _, _, _, _, _, _, _ => none
  | k + 1, x0, x1, x5, x6, x7, Aa, Ab, Ac, Ad, Ae => if x7 < (x1.size : Int) then (if 0 ≤ (wrap64 (x7 + 1)) then (if (wrap64 (x7 + 1)) ≤ (x1.size : Int) then ((eK k x0 Aa Ab Ac true (x1.extract ((wrap64 (x7 + 1)) : Int).toNat x1.size)).bind fun Af => (if Af = true then (if x5.length < 2199023255552 then (bj k x0 x1 (x5 ++ [(⟨Aa, Ab, Ac, true, x1.extract ((wrap64 (x7 + 1)) : Int).toNat x1.size⟩ : S67)]) x6 (wrap64 (x7 + 1))) else (none)) else (bj k x0 x1 x5 x6 (wrap64 (x7 + 1))))) else (none)) else (none)) else ((eK k x0 Aa Ab Ac Ad Ae).bind fun Ag => (if Ag = true then (if x5.length < 2199023255552 then (bj k x0 x1 (x5 ++ [(⟨Aa, Ab, Ac, Ad, Ae⟩ : S67)]) x6 (wrap64 (x7 + 1))) else (none)) else (bj k x0 x1 x5 x6 (wrap64 (x7 + 1)))))
end
def gD (k : Nat) (a0 : Bool) (a1 : ByteArray) : Option ((List (S67))) := bS k a0 a1 (([] : List (S67))) (-1)
theorem mV (k : Nat) (a0 : Bool) (a1 : ByteArray) (r : List (S67)) (w : World) (h : gD k a0 a1 = some r) :
    Calls Tryz.prog 38 #[.bool a0, .string a1] w fun e w' => ∃ v0_ : Value, e = .returned (v0_) ∧ Kd.R k67 67 w' w.heap.size (fun _ => True) v0_ r ∧ Below w.heap.size w w' := by
 have hu67 := Tryz.underlying67
 have HB := Zz.mk (Below.refl w.heap.size w)
 have H := h
 clear h
 unfold gD at H
 obtain ⟨AF, Ao⟩ : ∃ y_ : List (S67), y_ = (([] : List (S67))) := ⟨_, rfl⟩
 replace H : (bS k a0 a1 AF (-1)) = some r := by first | (rw [Ao]; with_reducible exact H) | (have H2_ := (Option.bind_some _ _).symm.trans H; rw [Ao]; with_reducible exact H2_) | (have H2_ := (Option.bind_some _ _).symm.trans H; with_reducible exact H2_) | with_reducible exact H | (rw [Ao]; exact H) | exact H
 have Az := Zz.mk Ao
 clear Ao
 have H' := Zz.mk H
 clear H
 go_enter Tryz.func38, Tryz.ntmps38
 go_wp2_with (first | ((with_reducible refine aj (N := 9) rfl ?_); refine Kd.R_lit k67 _ 67 ?hg (N := 9) ?hd (xs := ([] : List (S67))) (inner := []) (ok := fun _ => True) (okp := fun _ => True) ?hr ?hp (fun _ hk => hk) trivial (Below.refl _ _) (Nat.le_refl _) (by simp) ?_; (case hd => rfl); (case hg => rfl); (case hr => first | (go_simp; done) | (go_simp; rfl)); (case hp => exact (Reps.none _ _)); intro v656 w3 ho4 hb hg_ hnew_; clear hg_ hnew_; (first | rw [← Az.out] at ho4 | (simp only [Int.reduceToNat] at ho4; rw [← Az.out] at ho4)); have AG := Zz.mk (Kd.R_lower ho4 (aq xbl)); replace HB := xst hb; clear hb ho4))
 go_loopg [5, 6] k (fun kq v5 v6 w' => ∃ (At : List (S67)) (Ag : Int), v6 = .int .i64 Ag ∧ Zz (bS kq a0 a1 At Ag = some r) ∧ Zz (kq ≤ k) ∧ Zz (Kd.R k67 67 w' w.heap.size (fun _ => True) v5 At) ∧ Zz (Below w.heap.size w w'))
 case atStart => exact ⟨(AF), ((-1)), xrr, H', ⟨Nat.le_refl _⟩, ⟨xkd AG⟩, ⟨xbl⟩⟩
 case round => (
 clear H'
 obtain ⟨At, Ag, rfl, HA, HK1, Ad, HB⟩ := hrel
 cases gk with
 | zero => exact absurd HA.out (by simp [bS])
 | succ k1 => (
 have H := HA.out
 clear HA
 simp only [bS] at H
 refine xid H ?_ ?_ <;> clear H <;> intro c5 H
 {
 have AH := xdt c5
 clear c5
 have AX := Zz.mk H
 clear H
 go_upto_region 5 with (fail)
 go_cut [23] (fun v23 wc => ∃ kq Av, v23 = .bool Av ∧ Zz (dt kq a0 a1 At Ag Av = some r) ∧ Zz (kq ≤ k1) ∧ Zz (Kd.R k67 67 wc w.heap.size (fun _ => True) u5 At) ∧ Zz (Below w.heap.size w wc))
 case first => (
 have H := AX.out
 clear AX
 refine xid H ?_ ?_ <;> clear H <;> intro c7 H
 {
 have Aw := xdt c7
 clear c7
 (first | rw [Aw] | (simp only [ag, ak]; rw [Aw]) | skip)
 refine xin H ?_; clear H; intro c8 H
 have Ba := xdt c8
 clear c8
 replace H := xa H
 obtain ⟨p9, q9, hx9⟩ := xiv a1 Ag xod xod
 go_wp2
 go_meet
 case rel => exact ⟨_, (((bt a1 Ag) != 64)), xrr, H, ⟨xoj HK1⟩, ⟨xkd Ad⟩, ⟨xbl⟩⟩
 }
 have Aw := xdf c7
 clear c7
 (first | rw [Aw] | (simp only [ag, ak]; rw [Aw]) | skip)
 replace H := xa H
 go_wp2
 go_meet
 case rel => exact ⟨_, (false), xrr, H, ⟨xoj HK1⟩, ⟨xkd Ad⟩, ⟨xbl⟩⟩
 )
 case rest => (
 clear AX
 clear AH
 obtain ⟨kq, Av, rfl, HA, HJ5, Ad, HB⟩ := hcut
 cases kq with
 | zero => exact absurd HA.out (by simp [dt])
 | succ kj5 => (
 have H := HA.out
 clear HA
 simp only [dt] at H
 refine xib H ?_ ?_ <;> clear H <;> rintro rfl H
 {
 replace H := xa H
 go_wp2
 go_roundg kj5
 case measure => have := HK1.out; have := HJ5.out; omega
 case rel => exact ⟨(At), (wrap64 (Ag + 1)), xrr, H, ⟨by have := HK1.out; have := HJ5.out; omega⟩, ⟨xkd Ad⟩, ⟨xbl⟩⟩
 }
 have H' := Zz.mk H
 clear H
 go_wp2
 go_loopg [5, 7] kj5 (fun kq v5 v7 w' => ∃ (Ai : List (S67)) (Aj : Int), v7 = .int .i64 Aj ∧ Zz (bj kq a0 a1 Ai Ag Aj = some r) ∧ Zz (kq ≤ kj5) ∧ Zz (Kd.R k67 67 w' w.heap.size (fun _ => True) v5 Ai) ∧ Zz (Below w.heap.size w w'))
 case atStart => exact ⟨(At), (wrap64 (Ag + 1)), xrr, H', ⟨Nat.le_refl _⟩, ⟨xkd Ad⟩, ⟨xbl⟩⟩
 case round => (
 clear H'
 obtain ⟨Ai, Aj, rfl, HA, HK3, Ad, HB⟩ := hrel
 cases gk with
 | zero => exact absurd HA.out (by simp [bj])
 | succ k3 => (
 have H := HA.out
 clear HA
 simp only [bj] at H
 refine xid H ?_ ?_ <;> clear H <;> intro c11 H
 {
 have AA := xdt c11
 clear c11
 have AB := Zz.mk H
 clear H
 go_upto_region 9 with (fail)
 go_cut [41] (fun v41 wc => ∃ kq Au, v41 = .bool Au ∧ Zz (du kq a0 a1 Ai Ag Aj Au = some r) ∧ Zz (kq ≤ k3) ∧ Zz (Kd.R k67 67 wc w.heap.size (fun _ => True) u5 Ai) ∧ Zz (Below w.heap.size w wc))
 case first => (
 have H := AB.out
 clear AB
 refine xid H ?_ ?_ <;> clear H <;> intro c13 H
 {
 have Ap := xdt c13
 clear c13
 (first | rw [Ap] | (simp only [ag, ak]; rw [Ap]) | skip)
 refine xin H ?_; clear H; intro c14 H
 have A0 := xdt c14
 clear c14
 replace H := xa H
 obtain ⟨p15, q15, hx15⟩ := xiv a1 Aj xod xod
 go_wp2
 go_meet
 case rel => exact ⟨_, (((bt a1 Aj) != 58)), xrr, H, ⟨by have := HK1.out; have := HJ5.out; have := HK3.out; first | omega | exact Nat.le_refl _⟩, ⟨xkd Ad⟩, ⟨xbl⟩⟩
 }
 have Ap := xdf c13
 clear c13
 (first | rw [Ap] | (simp only [ag, ak]; rw [Ap]) | skip)
 replace H := xa H
 go_wp2
 go_meet
 case rel => exact ⟨_, (false), xrr, H, ⟨by have := HK1.out; have := HJ5.out; have := HK3.out; first | omega | exact Nat.le_refl _⟩, ⟨xkd Ad⟩, ⟨xbl⟩⟩
 )
 case rest => (
 clear AB
 clear AA
 obtain ⟨kq, Au, rfl, HA, HJ11, Ad, HB⟩ := hcut
 cases kq with
 | zero => exact absurd HA.out (by simp [du])
 | succ kj11 => (
 have H := HA.out
 clear HA
 simp only [du] at H
 refine xib H ?_ ?_ <;> clear H <;> rintro rfl H
 {
 replace H := xa H
 go_wp2
 go_roundg kj11
 case measure => have := HK1.out; have := HJ5.out; have := HK3.out; have := HJ11.out; omega
 case rel => exact ⟨(Ai), (wrap64 (Aj + 1)), xrr, H, ⟨by have := HK1.out; have := HJ5.out; have := HK3.out; have := HJ11.out; omega⟩, ⟨xkd Ad⟩, ⟨xbl⟩⟩
 }
 obtain ⟨AI, Ak⟩ : ∃ j_ : Int, (wrap64 (Ag + 1)) = j_ := ⟨_, rfl⟩
 first | rw [Ak] at H | simp only [Ak] at H | skip
 have AY : (IntKind.i64.wrap (Ag + 1)) = AI := (ag _).trans Ak
 refine xin H ?_; clear H; intro c18 H
 obtain ⟨AJ, AK⟩ := xcp c18
 clear c18
 refine xin H ?_; clear H; intro c19 H
 obtain ⟨AL, AM⟩ := xcp c19
 clear c19
 refine xin H ?_; clear H; intro c20 H
 obtain ⟨AN, AO⟩ := xcp c20
 clear c20
 obtain ⟨Af, Ah⟩ : ∃ j_ : ByteArray, (a1.extract ((AI) : Int).toNat (Aj : Int).toNat) = j_ := ⟨_, rfl⟩
 try (have AC := Ah; simp only [Int.toNat_natCast] at AC)
 first | rw [Ah] at H | simp only [Ah] at H | skip
 have AD := Zz.mk H
 clear H
 go_upto_if 49 with (first | ((with_reducible refine aj (N := 8) rfl ?_); refine xew 8 ?_; intro Ac w23 Ae A1 hb hg; replace Ad := Zz.mk (Kd.R_below (Kd.R_elderB (xkd Ad) Ac (Nat.le_of_eq hg.symm)) hb); replace HB := xst hb; clear hb hg; have Bb := xz5 Ae.out))
 (try simp only [Act.put, xl1, xl2, xl3])
 go_cut [] (fun wc => ∃ kq Aa Ab, Zz (ej kq a0 a1 Ai Ag Aj Aa Ab Af false (⟨#[]⟩ : ByteArray) = some r) ∧ Zz (kq ≤ kj11) ∧ Zz (Kd.R k67 67 wc w.heap.size (fun k_ => k_ ≠ Ac) u5 Ai) ∧ Zz (wc.heap[Ac]? = some (.cells #[.bool Aa, .string Ab, .string Af, .bool false, .string (⟨#[]⟩ : ByteArray)] 67 (0, 0))) ∧ Zz (Below w.heap.size w wc))
 case first => (
 have H := AD.out
 clear AD
 refine xid H ?_ ?_ <;> clear H <;> intro c25 H
 {
 have Aq := xdt c25
 clear c25
 (first | rw [Aq] | (simp only [ag, ak]; rw [Aq]) | skip)
 refine xin H ?_; clear H; intro c26 H
 obtain ⟨A2, A3⟩ := xcp c26
 clear c26
 refine xin H ?_; clear H; intro c27 H
 obtain ⟨A4, A5⟩ := xcp c27
 clear c27
 obtain ⟨AP, Ax⟩ : ∃ j_ : ByteArray, (a1.extract 0 (Ag : Int).toNat) = j_ := ⟨_, rfl⟩
 try (have AE := Ax; simp only [Int.toNat_natCast] at AE)
 first | rw [Ax] at H | simp only [Ax] at H | skip
 replace H := xa H
 have Bc := xz5 Ae.out
 go_wp2
 go_meet
 case rel => exact ⟨_, (true), (AP), H, ⟨by have := HK1.out; have := HJ5.out; have := HK3.out; have := HJ11.out; first | omega | exact Nat.le_refl _⟩, ⟨by (with_reducible repeat (first | apply Kd.R_alloc | apply Kd.R_drewN | apply Kd.R_drew)); exact Kd.R_mono (Kd.R_far (p := ⟨Ac, 1, none⟩) (Kd.R_far (p := ⟨Ac, 0, none⟩) (Kd.R_far (p := ⟨Ac, 4, none⟩) (Kd.R_far (p := ⟨Ac, 3, none⟩) (Kd.R_far (p := ⟨Ac, 2, none⟩) (Kd.R_far (p := ⟨Ac, 1, none⟩) (Kd.R_far (p := ⟨Ac, 0, none⟩) (Kd.R_mono Ad.out (fun k_ hk => (⟨hk, hk.2⟩ : _ ∧ k_ ≠ Ac))) (fun _ hk => hk.2) (.bool false)) (fun _ hk => hk.2) (.string (⟨#[]⟩ : ByteArray))) (fun _ hk => hk.2) (.string Af)) (fun _ hk => hk.2) (.bool false)) (fun _ hk => hk.2) (.string (⟨#[]⟩ : ByteArray))) (fun _ hk => hk.2) (.bool true)) (fun _ hk => hk.2) (.string AP)) (fun _ hk => hk.1.2)⟩, ⟨xbK⟩, ⟨xbl⟩⟩
 }
 have Aq := xdf c25
 clear c25
 (first | rw [Aq] | (simp only [ag, ak]; rw [Aq]) | skip)
 replace H := xa H
 go_wp2
 go_meet
 case rel => exact ⟨_, (false), ((⟨#[]⟩ : ByteArray)), H, ⟨by have := HK1.out; have := HJ5.out; have := HK3.out; have := HJ11.out; first | omega | exact Nat.le_refl _⟩, ⟨by (with_reducible repeat (first | apply Kd.R_alloc | apply Kd.R_drewN | apply Kd.R_drew)); exact Kd.R_mono (Kd.R_far (p := ⟨Ac, 4, none⟩) (Kd.R_far (p := ⟨Ac, 3, none⟩) (Kd.R_far (p := ⟨Ac, 2, none⟩) (Kd.R_far (p := ⟨Ac, 1, none⟩) (Kd.R_far (p := ⟨Ac, 0, none⟩) (Kd.R_mono Ad.out (fun k_ hk => (⟨hk, hk.2⟩ : _ ∧ k_ ≠ Ac))) (fun _ hk => hk.2) (.bool false)) (fun _ hk => hk.2) (.string (⟨#[]⟩ : ByteArray))) (fun _ hk => hk.2) (.string Af)) (fun _ hk => hk.2) (.bool false)) (fun _ hk => hk.2) (.string (⟨#[]⟩ : ByteArray))) (fun _ hk => hk.1.2)⟩, ⟨xbK⟩, ⟨xbl⟩⟩
 )
 case rest => (
 clear AD
 clear AJ AK AL AM AN AO
 obtain ⟨kq, Aa, Ab, HA, HJ21, Ad, Ae, HB⟩ := hcut
 cases kq with
 | zero => exact absurd HA.out (by simp [ej])
 | succ kj21 => (
 have H := HA.out
 clear HA
 simp only [ej] at H
 refine xid H ?_ ?_ <;> clear H <;> intro c30 H
 {
 have AQ := xdt c30
 clear c30
 obtain ⟨Ay, Al⟩ : ∃ j_ : Int, (wrap64 (Aj + 1)) = j_ := ⟨_, rfl⟩
 first | rw [Al] at H | simp only [Al] at H | skip
 have AZ : (IntKind.i64.wrap (Aj + 1)) = Ay := (ag _).trans Al
 refine xin H ?_; clear H; intro c32 H
 obtain ⟨A6, A7⟩ := xcp c32
 clear c32
 refine xin H ?_; clear H; intro c33 H
 obtain ⟨A8, A9⟩ := xcp c33
 clear c33
 obtain ⟨Am, An⟩ : ∃ j_ : ByteArray, (a1.extract ((Ay) : Int).toNat a1.size) = j_ := ⟨_, rfl⟩
 first | rw [An] at H | simp only [An] at H | skip
 replace H := xbd H
 obtain ⟨Bd, A35, H⟩ := H
 try dsimp only at H
 refine xib H ?_ ?_ <;> clear H <;> rintro rfl H
 {
 refine xin H ?_; clear H; intro c37 H
 have LMc37 := Zz.mk c37
 clear c37
 obtain ⟨AR, Ar⟩ : ∃ y_ : List (S67), y_ = (Ai ++ [(⟨Aa, Ab, Af, true, Am⟩ : S67)]) := ⟨_, rfl⟩
 replace H : (bj kj21 a0 a1 AR Ag Ay) = some r := by first | (rw [Ar]; with_reducible exact H) | (have H2_ := (Option.bind_some _ _).symm.trans H; rw [Ar]; with_reducible exact H2_) | (have H2_ := (Option.bind_some _ _).symm.trans H; with_reducible exact H2_) | with_reducible exact H | (rw [Ar]; exact H) | exact H
 have AS := Zz.mk Ar
 clear Ar
 replace H := xa H
 have Be := xz5 Ae.out
 go_wp2_with (first | ((with_reducible refine xgc (f := 52) rfl ?_); refine xca 67 Tryz.func52 (fN (w := _) (h := A35.out)) ?_ (hargs := by (try simp only [xm1, xm2, xm3]); first | done | (simp only [Ah, An]; rfl) | rfl); rintro w39 hb; replace Ad := Zz.mk (Kd.R_below (by (with_reducible repeat (first | apply Kd.R_alloc | apply Kd.R_drewN | apply Kd.R_drew)); exact (Kd.R_mono (Kd.R_far (p := ⟨Ac, 4, none⟩) (Kd.R_far (p := ⟨Ac, 3, none⟩) (Kd.R_mono Ad.out (fun k_ hk => (⟨hk, hk⟩ : _ ∧ k_ ≠ Ac))) (fun _ hk => hk.2) (.bool true)) (fun _ hk => hk.2) (.string Am)) (fun _ h_ => h_.1))) hb); replace Ae := xbb (g := Ac) (o := .cells #[.bool Aa, .string Ab, .string Af, .bool true, .string Am] 67 (0, 0)) hb; replace HB := xst hb; (try clear hb); have Bf := xz5 Ae.out) | ((with_reducible refine gx (b := .append) (xs := #[.tmp 68, .tmp 70]) rfl ?_); at_builtin; refine Kd.R_append k67 (w0 := w) w.heap.size rfl (.tmp 68) (.tmp 70) 59 67 (.agg #[(.bool false), (.string ⟨#[]⟩), (.string ⟨#[]⟩), (.bool false), (.string ⟨#[]⟩)]) 64 rfl Tryz.underlying59 vq rfl (by decide) (by omega) u5 Ai (⟨Aa, Ab, Af, true, Am⟩ : S67) [.bool Aa, .string Ab, .string Af, .bool true, .string Am] (fun k_ => k_ ≠ Ac) (fun _ => False) rfl rfl ?aP (fun _ hk => hk.elim) ?aF ?aO ?aB ?aS ?aL ?_; (case aP => exact tq _ _ _ (⟨Aa, Ab, Af, true, Am⟩ : S67)); (case aB => exact xbl); (case aF => exact (fun k_ hk => Kd.freshB (g := Ac) (o := .cells #[.bool Aa, .string Ab, .string Af, .bool true, .string Am] 67 (0, 0)) xbk k_ hk)); (case aO => exact (xkd Ad)); (case aS => exact (aq xbl)); (case aL => have := LMc37.out; first | omega | exact Nat.le_of_lt this); intro v661 w41 ho hb hg hat; rw [← AS.out] at ho; have n0_ := Zz.mk (b5 (g := Ac) (o := .cells #[.bool Aa, .string Ab, .string Af, .bool true, .string Am] 67 (0, 0)) xbk hg (Kd.R_away Ad.out (fun _ hk => hk))); have n1_ := Zz.mk (hb); have n2_ := Zz.mk (ho); clear Ae; clear HB; clear Ad; have Ae := n0_; have HB := n1_; have AT := n2_; clear n0_ n1_ n2_; clear ho hb hg hat))
 first | go_roundg kj21 | (simp only [← Ak, ← Ah, ← Al, ← An]; go_roundg kj21)
 case measure => have := HK1.out; have := HJ5.out; have := HK3.out; have := HJ11.out; have := HJ21.out; omega
 case rel => exact ⟨(AR), (Ay), (by first | rfl | (simp; done) | (simp only [← Al] <;> (first | rfl | simp)) | (simp [*]; done) | (simp [wrap64]; done)), H, ⟨by have := HK1.out; have := HJ5.out; have := HK3.out; have := HJ11.out; have := HJ21.out; omega⟩, ⟨by (with_reducible repeat (first | apply Kd.R_alloc | apply Kd.R_drewN | apply Kd.R_drew)); exact Kd.R_mono AT.out (fun _ hk => trivial)⟩, ⟨xbl⟩⟩
 }
 replace H := xa H
 have Bg := xz5 Ae.out
 go_wp2_with (first | ((with_reducible refine xgc (f := 52) rfl ?_); refine xca 67 Tryz.func52 (fN (w := _) (h := A35.out)) ?_ (hargs := by (try simp only [xm1, xm2, xm3]); first | done | (simp only [Ah, An]; rfl) | rfl); rintro w43 hb; replace Ad := Zz.mk (Kd.R_below (by (with_reducible repeat (first | apply Kd.R_alloc | apply Kd.R_drewN | apply Kd.R_drew)); exact (Kd.R_mono (Kd.R_far (p := ⟨Ac, 4, none⟩) (Kd.R_far (p := ⟨Ac, 3, none⟩) (Kd.R_mono Ad.out (fun k_ hk => (⟨hk, hk⟩ : _ ∧ k_ ≠ Ac))) (fun _ hk => hk.2) (.bool true)) (fun _ hk => hk.2) (.string Am)) (fun _ h_ => h_.1))) hb); replace Ae := xbb (g := Ac) (o := .cells #[.bool Aa, .string Ab, .string Af, .bool true, .string Am] 67 (0, 0)) hb; replace HB := xst hb; (try clear hb)))
 first | go_roundg kj21 | (simp only [← Ak, ← Ah, ← Al, ← An]; go_roundg kj21)
 case measure => have := HK1.out; have := HJ5.out; have := HK3.out; have := HJ11.out; have := HJ21.out; omega
 case rel => exact ⟨(Ai), (Ay), (by first | rfl | (simp; done) | (simp only [← Al] <;> (first | rfl | simp)) | (simp [*]; done) | (simp [wrap64]; done)), H, ⟨by have := HK1.out; have := HJ5.out; have := HK3.out; have := HJ11.out; have := HJ21.out; omega⟩, ⟨by (with_reducible repeat (first | apply Kd.R_alloc | apply Kd.R_drewN | apply Kd.R_drew)); exact Kd.R_mono Ad.out (fun _ hk => trivial)⟩, ⟨xbl⟩⟩
 }
 have AQ := xdf c30
 clear c30
 replace H := xbd H
 obtain ⟨Bh, A44, H⟩ := H
 try dsimp only at H
 refine xib H ?_ ?_ <;> clear H <;> rintro rfl H
 {
 refine xin H ?_; clear H; intro c46 H
 have LMc46 := Zz.mk c46
 clear c46
 obtain ⟨AU, As⟩ : ∃ y_ : List (S67), y_ = (Ai ++ [(⟨Aa, Ab, Af, false, (⟨#[]⟩ : ByteArray)⟩ : S67)]) := ⟨_, rfl⟩
 replace H : (bj kj21 a0 a1 AU Ag (wrap64 (Aj + 1))) = some r := by first | (rw [As]; with_reducible exact H) | (have H2_ := (Option.bind_some _ _).symm.trans H; rw [As]; with_reducible exact H2_) | (have H2_ := (Option.bind_some _ _).symm.trans H; with_reducible exact H2_) | with_reducible exact H | (rw [As]; exact H) | exact H
 have AV := Zz.mk As
 clear As
 replace H := xa H
 have Bi := xz5 Ae.out
 go_wp2_with (first | ((with_reducible refine xgc (f := 52) rfl ?_); refine xca 67 Tryz.func52 (fN (w := _) (h := A44.out)) ?_ (hargs := by (try simp only [xm1, xm2, xm3]); first | done | (simp only [Ah]; rfl) | rfl); rintro w48 hb; replace Ad := Zz.mk (Kd.R_below (xkd Ad) hb); replace Ae := xbq Ac hb; replace HB := xst hb; (try clear hb); have Bj := xz5 Ae.out) | ((with_reducible refine gx (b := .append) (xs := #[.tmp 68, .tmp 70]) rfl ?_); at_builtin; refine Kd.R_append k67 (w0 := w) w.heap.size rfl (.tmp 68) (.tmp 70) 59 67 (.agg #[(.bool false), (.string ⟨#[]⟩), (.string ⟨#[]⟩), (.bool false), (.string ⟨#[]⟩)]) 64 rfl Tryz.underlying59 vq rfl (by decide) (by omega) u5 Ai (⟨Aa, Ab, Af, false, (⟨#[]⟩ : ByteArray)⟩ : S67) [.bool Aa, .string Ab, .string Af, .bool false, .string (⟨#[]⟩ : ByteArray)] (fun k_ => k_ ≠ Ac) (fun _ => False) rfl rfl ?aP (fun _ hk => hk.elim) ?aF ?aO ?aB ?aS ?aL ?_; (case aP => exact tq _ _ _ (⟨Aa, Ab, Af, false, (⟨#[]⟩ : ByteArray)⟩ : S67)); (case aB => exact xbl); (case aF => exact (fun k_ hk => Kd.freshB (g := Ac) (o := .cells #[.bool Aa, .string Ab, .string Af, .bool false, .string (⟨#[]⟩ : ByteArray)] 67 (0, 0)) xbk k_ hk)); (case aO => exact (xkd Ad)); (case aS => exact (aq xbl)); (case aL => have := LMc46.out; first | omega | exact Nat.le_of_lt this); intro v665 w50 ho hb hg hat; rw [← AV.out] at ho; have n0_ := Zz.mk (b5 (g := Ac) (o := .cells #[.bool Aa, .string Ab, .string Af, .bool false, .string (⟨#[]⟩ : ByteArray)] 67 (0, 0)) xbk hg (Kd.R_away Ad.out (fun _ hk => hk))); have n1_ := Zz.mk (hb); have n2_ := Zz.mk (ho); clear Ae; clear HB; clear Ad; have Ae := n0_; have HB := n1_; have AW := n2_; clear n0_ n1_ n2_; clear ho hb hg hat))
 first | go_roundg kj21 | (simp only [← Ak, ← Ah]; go_roundg kj21)
 case measure => have := HK1.out; have := HJ5.out; have := HK3.out; have := HJ11.out; have := HJ21.out; omega
 case rel => exact ⟨(AU), (wrap64 (Aj + 1)), xrr, H, ⟨by have := HK1.out; have := HJ5.out; have := HK3.out; have := HJ11.out; have := HJ21.out; omega⟩, ⟨by (with_reducible repeat (first | apply Kd.R_alloc | apply Kd.R_drewN | apply Kd.R_drew)); exact Kd.R_mono AW.out (fun _ hk => trivial)⟩, ⟨xbl⟩⟩
 }
 replace H := xa H
 have Bk := xz5 Ae.out
 go_wp2_with (first | ((with_reducible refine xgc (f := 52) rfl ?_); refine xca 67 Tryz.func52 (fN (w := _) (h := A44.out)) ?_ (hargs := by (try simp only [xm1, xm2, xm3]); first | done | (simp only [Ah]; rfl) | rfl); rintro w52 hb; replace Ad := Zz.mk (Kd.R_below (xkd Ad) hb); replace Ae := xbq Ac hb; replace HB := xst hb; (try clear hb)))
 first | go_roundg kj21 | (simp only [← Ak, ← Ah]; go_roundg kj21)
 case measure => have := HK1.out; have := HJ5.out; have := HK3.out; have := HJ11.out; have := HJ21.out; omega
 case rel => exact ⟨(Ai), (wrap64 (Aj + 1)), xrr, H, ⟨by have := HK1.out; have := HJ5.out; have := HK3.out; have := HJ11.out; have := HJ21.out; omega⟩, ⟨by (with_reducible repeat (first | apply Kd.R_alloc | apply Kd.R_drewN | apply Kd.R_drew)); exact Kd.R_mono Ad.out (fun _ hk => trivial)⟩, ⟨xbl⟩⟩
 )
 )
 )
 )
 }
 have AA := xdf c11
 clear c11
 replace H := xa H
 go_wp2
 go_roundg k3
 case measure => have := HK1.out; have := HJ5.out; have := HK3.out; omega
 case rel => exact ⟨(Ai), (wrap64 (Ag + 1)), xrr, H, ⟨by have := HK1.out; have := HJ5.out; have := HK3.out; omega⟩, ⟨xkd Ad⟩, ⟨xbl⟩⟩
 )
 )
 )
 )
 }
 have AH := xdf c5
 clear c5
 obtain rfl := Option.some.inj H
 go_wp2
 go_ret
 exact ⟨_, by first | rfl | (simp [b7, b8] <;> first | rfl | (simp only [fx, bne, Bool.not_not]; done)) | (simp [*, b7, b8] <;> rfl), by (with_reducible repeat (first | apply Kd.R_alloc | apply Kd.R_drewN | apply Kd.R_drew)); exact Ad.out, xbl⟩
 )
 )
def cI : Nat → Bool → ByteArray → Int → Option (Bool)
  | 0, _, _, _ => none
  | k + 1, x0, x1, x5 => if x5 < (x1.size : Int) then (if 0 ≤ x5 then (if (bt x1 x5) = 47 then (if 0 ≤ (wrap64 (x5 + 1)) then (if (wrap64 (x5 + 1)) ≤ (x1.size : Int) then ((co k 3 x0 (x1.extract ((wrap64 (x5 + 1)) : Int).toNat x1.size)).bind fun t667 => (cI k x0 x1 (wrap64 ((wrap64 (x5 + 1)) + t667)))) else (none)) else (none)) else (some false)) else (none)) else (some true)
def eT (k : Nat) (a0 : Bool) (a1 : ByteArray) : Option (Bool) := cI k a0 a1 0
theorem i6 (k : Nat) (a0 : Bool) (a1 : ByteArray) (r : Bool) (w : World) (h : eT k a0 a1 = some r) :
    Calls Tryz.prog 53 #[.bool a0, .string a1] w fun e w' => e = .returned (.bool r) ∧ Below w.heap.size w w' := by
 have HB := Zz.mk (Below.refl w.heap.size w)
 have H := h
 clear h
 unfold eT at H
 have H' := Zz.mk H
 clear H
 go_enter Tryz.func53, Tryz.ntmps53
 go_wp2
 go_loopg [5] k (fun kq v5 w' => ∃ Aa, v5 = .int .i64 Aa ∧ Zz (cI kq a0 a1 Aa = some r) ∧ Zz (kq ≤ k) ∧ Zz (Below w.heap.size w w'))
 case atStart => exact ⟨(0), xrr, H', ⟨Nat.le_refl _⟩, ⟨xbl⟩⟩
 case round => (
 clear H'
 obtain ⟨Aa, rfl, HA, HK1, HB⟩ := hrel
 cases gk with
 | zero => exact absurd HA.out (by simp [cI])
 | succ k1 => (
 have H := HA.out
 clear HA
 simp only [cI] at H
 refine xid H ?_ ?_ <;> clear H <;> intro c3 H
 {
 have Ad := xdt c3
 clear c3
 refine xin H ?_; clear H; intro c4 H
 have Aj := xdt c4
 clear c4
 refine xid H ?_ ?_ <;> clear H <;> intro c6 H
 {
 obtain ⟨Ae, Af⟩ := xqe c6
 clear c6
 obtain ⟨Ag, Ac⟩ : ∃ j_ : Int, (wrap64 (Aa + 1)) = j_ := ⟨_, rfl⟩
 first | rw [Ac] at H | simp only [Ac] at H | skip
 have Ai : (IntKind.i64.wrap (Aa + 1)) = Ag := (ag _).trans Ac
 refine xin H ?_; clear H; intro c8 H
 obtain ⟨Ak, Al⟩ := xcp c8
 clear c8
 refine xin H ?_; clear H; intro c9 H
 obtain ⟨Am, An⟩ := xcp c9
 clear c9
 obtain ⟨Ao, Ab⟩ : ∃ j_ : ByteArray, (a1.extract ((Ag) : Int).toNat a1.size) = j_ := ⟨_, rfl⟩
 first | rw [Ab] at H | simp only [Ab] at H | skip
 replace H := xbd H
 obtain ⟨Ah, A11, H⟩ := H
 try dsimp only at H
 replace H := xa H
 obtain ⟨p5, q5, hx5⟩ := xiv a1 Aa xod xod
 go_wp2_with (first | ((with_reducible refine xgc (f := 40) rfl ?_); refine xca 21 Tryz.func40 (bQ (w := _) (h := A11.out)) ?_ (hargs := by (try simp only [xm1, xm2, xm3]); first | done | (simp only [Ab]; rfl) | rfl); rintro w12 hb; replace HB := xst hb; (try clear hb)))
 first | go_roundg k1 | (simp only [← Ac, ← Ab]; go_roundg k1)
 case measure => have := HK1.out; omega
 case rel => exact ⟨(wrap64 ((Ag) + Ah)), (by first | rfl | (simp; done) | (simp only [← Ac] <;> (first | rfl | simp)) | (simp [*]; done) | (simp [wrap64]; done)), H, ⟨by have := HK1.out; omega⟩, ⟨xbl⟩⟩
 }
 obtain ⟨Ae, Af⟩ := xqn c6
 obtain rfl := Option.some.inj H
 obtain ⟨p5, q5, hx5⟩ := xiv a1 Aa xod xod
 go_wp2
 go_ret
 exact ⟨xre, xbl⟩
 }
 have Ad := xdf c3
 clear c3
 obtain rfl := Option.some.inj H
 go_wp2
 go_ret
 exact ⟨xre, xbl⟩
 )
 )
def dW (k : Nat) (a0 : Int) (a1 : Bool) (a2 : ByteArray) : Option (Bool) := (co k a0 a1 a2).bind fun t668 => (if t668 > 0 then (if 0 ≤ t668 then (if t668 ≤ (a2.size : Int) then ((eT k a1 (a2.extract (t668 : Int).toNat a2.size)).bind fun t669 => (some t669)) else (none)) else (none)) else (some false))
theorem ii (k : Nat) (a0 : Int) (a1 : Bool) (a2 : ByteArray) (r : Bool) (w : World) (h : dW k a0 a1 a2 = some r) :
    Calls Tryz.prog 54 #[.int .i64 a0, .bool a1, .string a2] w fun e w' => e = .returned (.bool r) ∧ Below w.heap.size w w' := by
 have HB := Zz.mk (Below.refl w.heap.size w)
 have H := h
 clear h
 unfold dW at H
 replace H := xbd H
 obtain ⟨Ac, A4, H⟩ := H
 try dsimp only at H
 refine xid H ?_ ?_ <;> clear H <;> intro c5 H
 {
 have Ad := xdt c5
 clear c5
 refine xin H ?_; clear H; intro c6 H
 obtain ⟨Ae, Af⟩ := xcp c6
 clear c6
 refine xin H ?_; clear H; intro c7 H
 obtain ⟨Ag, Ah⟩ := xcp c7
 clear c7
 obtain ⟨Aj, Aa⟩ : ∃ j_ : ByteArray, (a2.extract (Ac : Int).toNat a2.size) = j_ := ⟨_, rfl⟩
 try (have Ab := Aa; simp only [Int.toNat_natCast] at Ab)
 first | rw [Aa] at H | simp only [Aa] at H | skip
 (try rw [Aa] at A4)
 replace H := xbd H
 obtain ⟨Ai, A9, H⟩ := H
 try dsimp only at H
 obtain rfl := Option.some.inj H
 go_enter Tryz.func54, Tryz.ntmps54
 go_wp2_with (first | ((with_reducible refine xgc (f := 40) rfl ?_); refine xca 11 Tryz.func40 (bQ (w := _) (h := A4.out)) ?_; rintro w10 hb; replace HB := xst hb; (try clear hb)) | (go_at_call 53; (with_reducible refine (i6 (w := _) (h := A9.out)).mono ?_); rintro e w11 ⟨rfl, hb⟩; replace HB := xst hb; (try clear hb)))
 go_ret
 exact ⟨by first | exact xrd | (simp only [← Aa]; exact xrd) | exact xre, xbl⟩
 }
 have Ad := xdf c5
 clear c5
 obtain rfl := Option.some.inj H
 go_enter Tryz.func54, Tryz.ntmps54
 go_wp2_with (first | ((with_reducible refine xgc (f := 40) rfl ?_); refine xca 11 Tryz.func40 (bQ (w := _) (h := A4.out)) ?_; rintro w12 hb; replace HB := xst hb; (try clear hb)))
 go_ret
 exact ⟨xre, xbl⟩
def dX : Nat → Bool → ByteArray → Bool → ByteArray → Bool → ByteArray → ByteArray → Bool → ByteArray → Bool → ByteArray → Option (Bool)
  | 0, _, _, _, _, _, _, _, _, _, _, _ => none
  | k + 1, x1, x5, Al, Aa, Ab, Ac, Ad, Ae, Af, Ag, Ah => if Al = true then (some true) else (if 0 < (x5.size : Int) then (if (bt x5 0) = 47 then (if 1 ≤ (x5.size : Int) then ((dW k 3 x1 (x5.extract 1 x5.size)).bind fun Ai => (some Ai)) else (none)) else (if Aa.toList = ([] : List UInt8) then ((dW k 4 x1 x5).bind fun Aj => (some Aj)) else ((dW k 3 x1 x5).bind fun Ak => (some Ak)))) else (none))
def gg (k : Nat) (Ac : ByteArray) (Ab : Bool) (Ad : ByteArray) (Aa : ByteArray) (Ae : Bool) (Af : ByteArray) (Ag : Bool) (Ah : ByteArray) (a1 : Bool) : Option (Bool) := if Ab = true then ((eT k a1 Aa).bind fun Ai => (some Ai)) else (if Aa.toList = ([] : List UInt8) then (dX k a1 Aa true Ac Ab Ad Aa Ae Af Ag Ah) else (dX k a1 Aa (Aa.toList == ([47] : List UInt8)) Ac Ab Ad Aa Ae Af Ag Ah))
theorem ix (k : Nat) (Af : ByteArray) (An : Bool) (Ai : ByteArray) (Ab : ByteArray) (Aj : Bool) (Ak : ByteArray) (Al : Bool) (Am : ByteArray) (a1 : Bool) (r : Bool) (w : World) (h : gg k Af An Ai Ab Aj Ak Al Am a1 = some r) :
    Calls Tryz.prog 39 #[.agg #[.string Af, .bool An, .string Ai, .string Ab, .bool Aj, .string Ak, .bool Al, .string Am], .bool a1] w fun e w' => e = .returned (.bool r) ∧ Below w.heap.size w w' := by
 have hu24 := Tryz.underlying24
 have HB := Zz.mk (Below.refl w.heap.size w)
 have H := h
 clear h
 unfold gg at H
 refine xib H ?_ ?_ <;> clear H <;> rintro rfl H
 {
 replace H := xbd H
 obtain ⟨AB, A4, H⟩ := H
 try dsimp only at H
 obtain rfl := Option.some.inj H
 go_enter Tryz.func39, Tryz.ntmps39
 go_wp2_with (first | ((with_reducible refine aj (N := 2) rfl ?_); refine xew 2 ?_; intro Ac w5 Aa Ao hb hg; replace HB := xst hb; clear hb hg; have AJ := xz8 Aa.out) | ((with_reducible refine xgc (f := 53) rfl ?_); refine xca 12 Tryz.func53 (i6 (w := _) (h := A4.out)) ?_; rintro w7 hb; replace Aa := xbq Ac hb; replace HB := xst hb; (try clear hb)))
 go_ret
 exact ⟨xre, xbl⟩
 }
 have Aw := Zz.mk H
 clear H
 go_enter Tryz.func39, Tryz.ntmps39
 go_upto_region 4 with (first | ((with_reducible refine aj (N := 2) rfl ?_); refine xew 2 ?_; intro Ac w9 Aa Ao hb hg; replace HB := xst hb; clear hb hg; have AC := xz8 Aa.out))
 (try simp only [Act.put, xl1, xl2, xl3])
 go_cut [18] (fun v18 wc => ∃ kq Ag, v18 = .bool Ag ∧ Zz (dX kq a1 Ab Ag Af false Ai Ab Aj Ak Al Am = some r) ∧ Zz (kq ≤ k) ∧ Zz (wc.heap[Ac]? = some (.cells #[.string Af, .bool false, .string Ai, .string Ab, .bool Aj, .string Ak, .bool Al, .string Am] 24 (0, 0))) ∧ Zz (Below w.heap.size w wc))
 case first => (
 have H := Aw.out
 clear Aw
 refine xid H ?_ ?_ <;> clear H <;> intro c11 H
 {
 obtain ⟨Ad, Ap⟩ := xqe c11
 (try (have Ah : Ab.toList.isEmpty = true := by simpa using c11))
 clear c11
 (first | rw [Ad] | (simp only [ag, ak]; rw [Ad]) | (rw [Ah]; (try simp only [Bool.not_false, Bool.not_true])) | skip)
 replace H := xa H
 go_wp2
 go_meet
 case rel => exact ⟨_, (true), xrr, H, ⟨xom⟩, ⟨xbk⟩, ⟨xbl⟩⟩
 }
 obtain ⟨Ad, Ap⟩ := xqn c11
 (try (have Ah : Ab.toList.isEmpty = false := by simpa using c11))
 (first | rw [Ad] | (simp only [ag, ak]; rw [Ad]) | (rw [Ah]; (try simp only [Bool.not_false, Bool.not_true])) | skip)
 replace H := xa H
 go_wp2
 go_meet
 case rel => exact ⟨_, ((Ab.toList == ([47] : List UInt8))), xrr, H, ⟨xom⟩, ⟨xbk⟩, ⟨xbl⟩⟩
 )
 case rest => (
 clear Aw
 obtain ⟨kq, Ag, rfl, HA, HJ7, Aa, HB⟩ := hcut
 cases kq with
 | zero => exact absurd HA.out (by simp [dX])
 | succ kj7 => (
 have H := HA.out
 clear HA
 simp only [dX] at H
 refine xib H ?_ ?_ <;> clear H <;> rintro rfl H
 {
 obtain rfl := Option.some.inj H
 go_wp2
 go_ret
 exact ⟨xre, xbl⟩
 }
 refine xin H ?_; clear H; intro c13 H
 have Ax := xdt c13
 have Ay : decide (0 < Ab.size) = true := decide_eq_true (by omega)
 clear c13
 refine xid H ?_ ?_ <;> clear H <;> intro c15 H
 {
 obtain ⟨Aq, Ar⟩ := xqe c15
 clear c15
 refine xin H ?_; clear H; intro c16 H
 obtain ⟨Az, AA⟩ := xcp c16
 clear c16
 obtain ⟨AD, Ae⟩ : ∃ j_ : ByteArray, (Ab.extract 1 Ab.size) = j_ := ⟨_, rfl⟩
 first | rw [Ae] at H | simp only [Ae] at H | skip
 replace H := xbd H
 obtain ⟨AE, A18, H⟩ := H
 try dsimp only at H
 obtain rfl := Option.some.inj H
 obtain ⟨q14, As, hx14⟩ := xi0 Ab xod
 go_wp2_with (first | ((with_reducible refine xgc (f := 54) rfl ?_); refine xca 25 Tryz.func54 (ii (w := _) (h := A18.out)) ?_ (hargs := by (try simp only [xm1, xm2, xm3]); first | done | (simp only [Ae]; rfl) | rfl); rintro w19 hb; replace Aa := xbq Ac hb; replace HB := xst hb; (try clear hb)))
 go_ret
 exact ⟨by first | exact xrd | (simp only [← Ae]; exact xrd) | exact xre, xbl⟩
 }
 obtain ⟨Aq, Ar⟩ := xqn c15
 refine xid H ?_ ?_ <;> clear H <;> intro c20 H
 {
 obtain ⟨At, Au⟩ := xqe c20
 (try (have Av : Af.toList.isEmpty = true := by simpa using c20))
 clear c20
 replace H := xbd H
 obtain ⟨AF, A21, H⟩ := H
 try dsimp only at H
 obtain rfl := Option.some.inj H
 obtain ⟨q14, As, hx14⟩ := xi0 Ab xod
 have AG := xz8 Aa.out
 go_wp2_with (first | ((with_reducible refine xgc (f := 54) rfl ?_); refine xca 34 Tryz.func54 (ii (w := _) (h := A21.out)) ?_; rintro w23 hb; replace Aa := xbq Ac hb; replace HB := xst hb; (try clear hb)))
 go_ret
 exact ⟨xre, xbl⟩
 }
 obtain ⟨At, Au⟩ := xqn c20
 (try (have Av : Af.toList.isEmpty = false := by simpa using c20))
 replace H := xbd H
 obtain ⟨AH, A24, H⟩ := H
 try dsimp only at H
 obtain rfl := Option.some.inj H
 obtain ⟨q14, As, hx14⟩ := xi0 Ab xod
 have AI := xz8 Aa.out
 go_wp2_with (first | ((with_reducible refine xgc (f := 54) rfl ?_); refine xca 31 Tryz.func54 (ii (w := _) (h := A24.out)) ?_; rintro w26 hb; replace Aa := xbq Ac hb; replace HB := xst hb; (try clear hb)))
 go_ret
 exact ⟨xre, xbl⟩
 )
 )
mutual
def cL : Nat → Int → Bool → Bool → ByteArray → Bool → ByteArray → ByteArray → Bool → ByteArray → Bool → ByteArray → Option (Bool)
  | 0, _, _, _, _, _, _, _, _, _, _, _ => none
  | k + 1, x0, x5, Ai, Ab, Ac, Ad, Ae, Af, Ag, Aa, Ah => if Ai = true then (some false) else (if Aa = true then (ek k x5 (x0 == 3) Ab Ac Ad Ae Af Ag Aa Ah) else (ek k x5 false Ab Ac Ad Ae Af Ag Aa Ah))
def ek : Nat → Bool → Bool → ByteArray → Bool → ByteArray → ByteArray → Bool → ByteArray → Bool → ByteArray → Option (Bool)
  | 0, _, _, _, _, _, _, _, _, _, _ => none
  | k + 1, x5, Aj, Ac, Aa, Ab, Ad, Ae, Af, Ag, Ah => if Aj = true then (some false) else (if Aa = true then ((gD k x5 Ab).bind fun Ai => (el k x5 ((Ai.length : Int) == 0) Ac Aa Ab Ad Ae Af Ag Ah)) else (el k x5 false Ac Aa Ab Ad Ae Af Ag Ah))
def el : Nat → Bool → Bool → ByteArray → Bool → ByteArray → ByteArray → Bool → ByteArray → Bool → ByteArray → Option (Bool)
  | 0, _, _, _, _, _, _, _, _, _, _ => none
  | k + 1, x5, Al, Ac, Ad, Ae, Af, Ag, Aa, Ah, Ab => if Al = true then (some false) else ((gg k Ac Ad Ae Af Ag Aa Ah Ab x5).bind fun Ai => (if Ai = true then ((co k 6 x5 Aa).bind fun Aj => (if Aj = (Aa.size : Int) then ((co k 7 x5 Ab).bind fun Ak => (some (Ak == (Ab.size : Int)))) else (some false))) else (some false)))
end
def gE (k : Nat) (a0 : Int) (Aa : ByteArray) (Ab : Bool) (Ac : ByteArray) (Ad : ByteArray) (Ae : Bool) (Af : ByteArray) (Ag : Bool) (Ah : ByteArray) : Option (Bool) := if Aa.toList = ([] : List UInt8) then (if a0 = 2 then (cL k a0 (decide (a0 ≥ 4)) false Aa Ab Ac Ad Ae Af Ag Ah) else (if a0 = 5 then (cL k a0 (decide (a0 ≥ 4)) false Aa Ab Ac Ad Ae Af Ag Ah) else (cL k a0 (decide (a0 ≥ 4)) true Aa Ab Ac Ad Ae Af Ag Ah))) else ((gN k Aa).bind fun Ai => (cL k a0 (decide (a0 ≥ 4)) (!Ai) Aa Ab Ac Ad Ae Af Ag Ah))
theorem j8 (k : Nat) (a0 : Int) (Ab : ByteArray) (Aj : Bool) (Ad : ByteArray) (Ae : ByteArray) (Af : Bool) (Ag : ByteArray) (Ah : Bool) (Ai : ByteArray) (r : Bool) (w : World) (h : gE k a0 Ab Aj Ad Ae Af Ag Ah Ai = some r) :
    Calls Tryz.prog 23 #[.int .i64 a0, .agg #[.string Ab, .bool Aj, .string Ad, .string Ae, .bool Af, .string Ag, .bool Ah, .string Ai]] w fun e w' => e = .returned (.bool r) ∧ Below w.heap.size w w' := by
 have hu24 := Tryz.underlying24
 have HB := Zz.mk (Below.refl w.heap.size w)
 have H := h
 clear h
 unfold gE at H
 have Au := Zz.mk H
 clear H
 go_enter Tryz.func23, Tryz.ntmps23
 go_upto_region 2 with (first | ((with_reducible refine aj (N := 3) rfl ?_); (try (refine cb (by rfl) ?_; dsimp only)); refine xew 3 ?_; intro Ac w4 Aa AC hb hg; replace HB := xst hb; clear hb hg))
 (try simp only [Act.put, xl1, xl2, xl3])
 go_cut [29] (fun v29 wc => ∃ kq Am, v29 = .bool Am ∧ Zz (cL kq a0 (decide (a0 ≥ 4)) Am Ab Aj Ad Ae Af Ag Ah Ai = some r) ∧ Zz (kq ≤ k) ∧ Zz (wc.heap[Ac]? = some (.cells #[.string Ab, .bool Aj, .string Ad, .string Ae, .bool Af, .string Ag, .bool Ah, .string Ai] 24 (0, 0))) ∧ Zz (Below w.heap.size w wc))
 case first => (
 have H := Au.out
 clear Au
 refine xid H ?_ ?_ <;> clear H <;> intro c5 H
 {
 obtain ⟨An, Av⟩ := xqe c5
 (try (have Ao : Ab.toList.isEmpty = true := by simpa using c5))
 clear c5
 (first | rw [An] | (simp only [ag, ak]; rw [An]) | (rw [Ao]; (try simp only [Bool.not_false, Bool.not_true])) | skip)
 refine xid H ?_ ?_ <;> clear H <;> intro c6 H
 {
 obtain ⟨Aw, Ax⟩ := xqe c6
 clear c6
 replace H := xa H
 have AM := xz8 Aa.out
 go_wp2
 go_meet
 case rel => exact ⟨_, (false), xrr, H, ⟨xom⟩, ⟨xbk⟩, ⟨xbl⟩⟩
 }
 obtain ⟨Aw, Ax⟩ := xqn c6
 refine xid H ?_ ?_ <;> clear H <;> intro c8 H
 {
 obtain ⟨Ay, Az⟩ := xqe c8
 clear c8
 replace H := xa H
 have AN := xz8 Aa.out
 go_wp2
 go_meet
 case rel => exact ⟨_, (false), xrr, H, ⟨xom⟩, ⟨xbk⟩, ⟨xbl⟩⟩
 }
 obtain ⟨Ay, Az⟩ := xqn c8
 replace H := xa H
 have AD := xz8 Aa.out
 go_wp2
 go_meet
 case rel => exact ⟨_, (true), xrr, H, ⟨xom⟩, ⟨xbk⟩, ⟨xbl⟩⟩
 }
 obtain ⟨An, Av⟩ := xqn c5
 (try (have Ao : Ab.toList.isEmpty = false := by simpa using c5))
 (first | rw [An] | (simp only [ag, ak]; rw [An]) | (rw [Ao]; (try simp only [Bool.not_false, Bool.not_true])) | skip)
 replace H := xbd H
 obtain ⟨AA, A11, H⟩ := H
 try dsimp only at H
 replace H := xa H
 have AE := xz8 Aa.out
 go_wp2_with (first | (go_at_call 37; (with_reducible refine (lP (w := _) (h := A11.out)).mono ?_); rintro e w' ⟨rfl, ⟨nd, rfl⟩⟩))
 go_meet
 case rel => exact ⟨_, (!AA), xrr, H, ⟨xom⟩, ⟨xbk⟩, ⟨xbl⟩⟩
 )
 case rest => (
 clear Au
 obtain ⟨kq, Am, rfl, HA, HJ2, Aa, HB⟩ := hcut
 cases kq with
 | zero => exact absurd HA.out (by simp [cL])
 | succ kj2 => (
 have H := HA.out
 clear HA
 simp only [cL] at H
 refine xib H ?_ ?_ <;> clear H <;> rintro rfl H
 {
 obtain rfl := Option.some.inj H
 go_wp2
 go_ret
 exact ⟨xre, xbl⟩
 }
 have Ap := Zz.mk H
 clear H
 go_upto_region 4 with (fail)
 go_cut [35] (fun v35 wc => ∃ kq Ak, v35 = .bool Ak ∧ Zz (ek kq (decide (a0 ≥ 4)) Ak Ab Aj Ad Ae Af Ag Ah Ai = some r) ∧ Zz (kq ≤ kj2) ∧ Zz (wc.heap[Ac]? = some (.cells #[.string Ab, .bool Aj, .string Ad, .string Ae, .bool Af, .string Ag, .bool Ah, .string Ai] 24 (0, 0))) ∧ Zz (Below w.heap.size w wc))
 case first => (
 have H := Ap.out
 clear Ap
 refine xib H ?_ ?_ <;> clear H <;> rintro rfl H
 {
 replace H := xa H
 have AF := xz8 Aa.out
 go_wp2
 go_meet
 case rel => exact ⟨_, ((a0 == 3)), xrr, H, ⟨xoj HJ2⟩, ⟨xbk⟩, ⟨xbl⟩⟩
 }
 replace H := xa H
 have AG := xz8 Aa.out
 go_wp2
 go_meet
 case rel => exact ⟨_, (false), xrr, H, ⟨xoj HJ2⟩, ⟨xbk⟩, ⟨xbl⟩⟩
 )
 case rest => (
 clear Ap
 obtain ⟨kq, Ak, rfl, HA, HJ13, Aa, HB⟩ := hcut
 cases kq with
 | zero => exact absurd HA.out (by simp [ek])
 | succ kj13 => (
 have H := HA.out
 clear HA
 simp only [ek] at H
 refine xib H ?_ ?_ <;> clear H <;> rintro rfl H
 {
 obtain rfl := Option.some.inj H
 go_wp2
 go_ret
 exact ⟨xre, xbl⟩
 }
 have Aq := Zz.mk H
 clear H
 go_upto_region 6 with (fail)
 go_cut [45] (fun v45 wc => ∃ kq Al, v45 = .bool Al ∧ Zz (el kq (decide (a0 ≥ 4)) Al Ab Aj Ad Ae Af Ag Ah Ai = some r) ∧ Zz (kq ≤ kj13) ∧ Zz (wc.heap[Ac]? = some (.cells #[.string Ab, .bool Aj, .string Ad, .string Ae, .bool Af, .string Ag, .bool Ah, .string Ai] 24 (0, 0))) ∧ Zz (Below w.heap.size w wc))
 case first => (
 have H := Aq.out
 clear Aq
 refine xib H ?_ ?_ <;> clear H <;> rintro rfl H
 {
 replace H := xbd H
 obtain ⟨AB, A21, H⟩ := H
 try dsimp only at H
 replace H := xa H
 have AH := xz8 Aa.out
 go_wp2_with (first | (go_at_call 38; (with_reducible refine (mV (w := _) (h := A21.out)).mono ?_); rintro e w23 ⟨v678, rfl, ho0, hb⟩; have Ar := Zz.mk (Kd.R_lower ho0 (aq xbl)); replace Aa := xbb (g := Ac) (o := .cells #[.string Ab, .bool true, .string Ad, .string Ae, .bool Af, .string Ag, .bool Ah, .string Ai] 24 (0, 0)) hb; replace HB := xst hb; (try clear hb); (try clear ho0); obtain ⟨Ao24, co24, eo24⟩ := Kd.R_slice Ar.out; subst eo24))
 go_meet
 case rel => exact ⟨_, (((AB.length : Int) == 0)), xrr, H, ⟨xoJ HJ2 HJ13⟩, ⟨xbk⟩, ⟨xbl⟩⟩
 }
 replace H := xa H
 have AI := xz8 Aa.out
 go_wp2
 go_meet
 case rel => exact ⟨_, (false), xrr, H, ⟨xoJ HJ2 HJ13⟩, ⟨xbk⟩, ⟨xbl⟩⟩
 )
 case rest => (
 clear Aq
 obtain ⟨kq, Al, rfl, HA, HJ18, Aa, HB⟩ := hcut
 cases kq with
 | zero => exact absurd HA.out (by simp [el])
 | succ kj18 => (
 have H := HA.out
 clear HA
 simp only [el] at H
 refine xib H ?_ ?_ <;> clear H <;> rintro rfl H
 {
 obtain rfl := Option.some.inj H
 go_wp2
 go_ret
 exact ⟨xre, xbl⟩
 }
 replace H := xbd H
 obtain ⟨AJ, A27, H⟩ := H
 try dsimp only at H
 refine xib H ?_ ?_ <;> clear H <;> rintro rfl H
 {
 replace H := xbd H
 obtain ⟨AK, A29, H⟩ := H
 try dsimp only at H
 refine xid H ?_ ?_ <;> clear H <;> intro c30 H
 {
 obtain ⟨As, At⟩ := xqe c30
 clear c30
 replace H := xbd H
 obtain ⟨AL, A31, H⟩ := H
 try dsimp only at H
 obtain rfl := Option.some.inj H
 try go_wp2
 replace Aa := Zz.mk (bc Aa.out)
 replace HB := Zz.mk (aA HB.out)
 refine xsr 24 [] (xs8 Aa.out) (fun hHeld => ?_)
 generalize wc.drew = w32 at Aa HB hHeld ⊢
 refine xpu 1 47 ?_
 refine xtk 0 46 ?_
 refine xon 2 48 Tryz.func39 (ix (w := _) (h := A27.out)) ?_
 rintro w33 hb
 replace Aa := xbb (g := Ac) (o := .cells #[.string Ab, .bool Aj, .string Ad, .string Ae, .bool Af, .string Ag, .bool Ah, .string Ai] 24 (0, 0)) hb
 replace HB := xst hb
 (try clear hb)
 refine ⟨xs8 Aa.out, fun hHeld => ?_⟩
 refine xpu 3 49 ?_
 refine xpu 4 50 ?_
 refine xpu 5 51 ?_
 refine xpu 8 54 ?_
 refine xtk 6 52 ?_
 refine xtk 9 55 ?_
 refine xpu 10 56 ?_
 refine xon 7 53 Tryz.func40 (bQ (w := _) (h := A29.out)) ?_
 rintro w34 hb
 replace Aa := xbb (g := Ac) (o := .cells #[.string Ab, .bool Aj, .string Ad, .string Ae, .bool Af, .string Ag, .bool Ah, .string Ai] 24 (0, 0)) hb
 replace HB := xst hb
 (try clear hb)
 refine ⟨xs8 Aa.out, fun hHeld => ?_⟩
 refine xpu 11 57 ?_
 refine xpu 12 58 ?_
 refine xpu 13 59 ?_
 refine xpu 14 60 ?_
 refine xpu 15 61 ?_
 refine xpu 18 64 ?_
 refine xtk 16 62 ?_
 refine xtk 19 65 ?_
 refine xpu 20 66 ?_
 refine xon 17 63 Tryz.func40 (bQ (w := _) (h := A31.out)) ?_
 rintro w35 hb
 replace Aa := xbb (g := Ac) (o := .cells #[.string Ab, .bool Aj, .string Ad, .string Ae, .bool Af, .string Ag, .bool Ah, .string Ai] 24 (0, 0)) hb
 replace HB := xst hb
 (try clear hb)
 refine ⟨xs8 Aa.out, fun hHeld => ?_⟩
 refine xpu 21 67 ?_
 refine xpu 22 68 ?_
 refine xpu 23 4 ?_
 refine xdn ?_
 try go_wp2
 go_ret
 exact ⟨xre, xbl⟩
 }
 obtain ⟨As, At⟩ := xqn c30
 obtain rfl := Option.some.inj H
 try go_wp2
 replace Aa := Zz.mk (bc Aa.out)
 replace HB := Zz.mk (aA HB.out)
 refine xsr 24 [] (xs8 Aa.out) (fun hHeld => ?_)
 generalize wc.drew = w36 at Aa HB hHeld ⊢
 refine xpu 1 47 ?_
 refine xtk 0 46 ?_
 refine xon 2 48 Tryz.func39 (ix (w := _) (h := A27.out)) ?_
 rintro w37 hb
 replace Aa := xbb (g := Ac) (o := .cells #[.string Ab, .bool Aj, .string Ad, .string Ae, .bool Af, .string Ag, .bool Ah, .string Ai] 24 (0, 0)) hb
 replace HB := xst hb
 (try clear hb)
 refine ⟨xs8 Aa.out, fun hHeld => ?_⟩
 refine xpu 3 49 ?_
 refine xpu 4 50 ?_
 refine xpu 5 51 ?_
 refine xpu 8 54 ?_
 refine xtk 6 52 ?_
 refine xtk 9 55 ?_
 refine xpu 10 56 ?_
 refine xon 7 53 Tryz.func40 (bQ (w := _) (h := A29.out)) ?_
 rintro w38 hb
 replace Aa := xbb (g := Ac) (o := .cells #[.string Ab, .bool Aj, .string Ad, .string Ae, .bool Af, .string Ag, .bool Ah, .string Ai] 24 (0, 0)) hb
 replace HB := xst hb
 (try clear hb)
 refine ⟨xs8 Aa.out, fun hHeld => ?_⟩
 refine xpu 11 57 ?_
 refine xpu 12 58 ?_
 refine xpu 13 59 ?_
 refine xpo 14 60 ?_
 refine xpo 15 61 ?_
 refine xpo 16 62 ?_
 refine xpo 17 63 ?_
 refine xpo 18 64 ?_
 refine xpo 19 65 ?_
 refine xpo 20 66 ?_
 refine xpo 21 67 ?_
 refine xpu 22 68 ?_
 refine xpu 23 4 ?_
 refine xdn ?_
 try go_wp2
 go_ret
 exact ⟨xre, xbl⟩
 }
 obtain rfl := Option.some.inj H
 try go_wp2
 replace Aa := Zz.mk (bc Aa.out)
 replace HB := Zz.mk (aA HB.out)
 refine xsr 24 [] (xs8 Aa.out) (fun hHeld => ?_)
 generalize wc.drew = w39 at Aa HB hHeld ⊢
 refine xpu 1 47 ?_
 refine xtk 0 46 ?_
 refine xon 2 48 Tryz.func39 (ix (w := _) (h := A27.out)) ?_
 rintro w40 hb
 replace Aa := xbb (g := Ac) (o := .cells #[.string Ab, .bool Aj, .string Ad, .string Ae, .bool Af, .string Ag, .bool Ah, .string Ai] 24 (0, 0)) hb
 replace HB := xst hb
 (try clear hb)
 refine ⟨xs8 Aa.out, fun hHeld => ?_⟩
 refine xpu 3 49 ?_
 refine xpo 4 50 ?_
 refine xpo 5 51 ?_
 refine xpo 6 52 ?_
 refine xpo 7 53 ?_
 refine xpo 8 54 ?_
 refine xpo 9 55 ?_
 refine xpo 10 56 ?_
 refine xpo 11 57 ?_
 refine xpu 12 58 ?_
 refine xpu 13 59 ?_
 refine xpo 14 60 ?_
 refine xpo 15 61 ?_
 refine xpo 16 62 ?_
 refine xpo 17 63 ?_
 refine xpo 18 64 ?_
 refine xpo 19 65 ?_
 refine xpo 20 66 ?_
 refine xpo 21 67 ?_
 refine xpu 22 68 ?_
 refine xpu 23 4 ?_
 refine xdn ?_
 try go_wp2
 go_ret
 exact ⟨xre, xbl⟩
 )
 )
 )
 )
 )
 )
def cP : Nat → ByteArray → ByteArray → Int → Option (Int)
  | 0, _, _, _ => none
  | k + 1, x0, x2, x7 => if x7 < (x0.size : Int) then (if 0 ≤ x7 then ((aQ k (bt x0 x7) x2).bind fun t751 => (if t751 = true then (some x7) else (cP k x0 x2 (wrap64 (x7 + 1))))) else (none)) else (some (x0.size : Int))
def dV (k : Nat) (a0 : ByteArray) (a1 : Int) (a2 : ByteArray) : Option (Int) := cP k a0 a2 a1
theorem eu (k : Nat) (a0 : ByteArray) (a1 : Int) (a2 : ByteArray) (r : Int) (w : World) (h : dV k a0 a1 a2 = some r) :
    Calls Tryz.prog 36 #[.string a0, .int .i64 a1, .string a2] w fun e w' => e = .returned (.int .i64 r) ∧ Drawn0 w w' := by
 have H := h
 clear h
 unfold dV at H
 have H' := Zz.mk H
 clear H
 go_enter Tryz.func36, Tryz.ntmps36
 go_wp2
 go_loopg [7] k (fun kq v7 w' => ∃ Aa, v7 = .int .i64 Aa ∧ Zz (cP kq a0 a2 Aa = some r) ∧ Zz (kq ≤ k) ∧ Drawn0 w w')
 case atStart => exact ⟨(a1), xrr, H', ⟨Nat.le_refl _⟩, xdr⟩
 case round => (
 clear H'
 obtain ⟨Aa, rfl, HA, HK1, ⟨m1, rfl⟩⟩ := hrel
 cases gk with
 | zero => exact absurd HA.out (by simp [cP])
 | succ k1 => (
 have H := HA.out
 clear HA
 simp only [cP] at H
 refine xid H ?_ ?_ <;> clear H <;> intro c4 H
 {
 have Ab := xdt c4
 clear c4
 refine xin H ?_; clear H; intro c5 H
 have Ac := xdt c5
 clear c5
 replace H := xbd H
 obtain ⟨Ad, A7, H⟩ := H
 try dsimp only at H
 refine xib H ?_ ?_ <;> clear H <;> rintro rfl H
 {
 obtain rfl := Option.some.inj H
 obtain ⟨p6, q6, hx6⟩ := xiv a0 Aa xod xod
 go_wp2_with (first | ((with_reducible refine xgc (f := 50) rfl ?_); refine xca 19 Tryz.func50 (aw (w := _) (h := A7.out)) ?_; rintro w' ⟨nd, rfl⟩))
 go_ret
 exact ⟨xrr, xdr⟩
 }
 replace H := xa H
 obtain ⟨p6, q6, hx6⟩ := xiv a0 Aa xod xod
 go_wp2_with (first | ((with_reducible refine xgc (f := 50) rfl ?_); refine xca 19 Tryz.func50 (aw (w := _) (h := A7.out)) ?_; rintro w' ⟨nd, rfl⟩))
 go_roundg k1
 case measure => have := HK1.out; omega
 case rel => exact ⟨(wrap64 (Aa + 1)), xrr, H, ⟨by have := HK1.out; omega⟩, xdr⟩
 }
 have Ab := xdf c4
 clear c4
 obtain rfl := Option.some.inj H
 go_wp2
 go_ret
 exact ⟨xrr, xdr⟩
 )
 )
mutual
def cN : Nat → ByteArray → Int → Int → Bool → ByteArray → Bool → ByteArray → ByteArray → Bool → ByteArray → Bool → ByteArray → Option (ByteArray × Bool × ByteArray × ByteArray × Bool × ByteArray × Bool × ByteArray)
  | 0, _, _, _, _, _, _, _, _, _, _, _, _ => none
  | k + 1, x0, x4, x5, Ai, Ah, Aa, Ab, Ac, Ad, Ae, Af, Ag => if Ai = true then (if 0 ≤ x5 then (if x5 ≤ (x0.size : Int) then (dI k x0 (wrap64 (x5 + 1)) (x0.extract 0 (x5 : Int).toNat) Aa Ab Ac Ad Ae Af Ag) else (none)) else (none)) else (dI k x0 x4 Ah Aa Ab Ac Ad Ae Af Ag)
def dI : Nat → ByteArray → Int → ByteArray → Bool → ByteArray → ByteArray → Bool → ByteArray → Bool → ByteArray → Option (ByteArray × Bool × ByteArray × ByteArray × Bool × ByteArray × Bool × ByteArray)
  | 0, _, _, _, _, _, _, _, _, _, _ => none
  | k + 1, x0, x4, Aa, Ab, Ac, Ad, Ae, Af, Ag, Ah => if (wrap64 ((x0.size : Int) - x4)) ≥ 2 then (if 0 ≤ x4 then (if x4 < (x0.size : Int) then (if (bt x0 x4) = 47 then (if 0 ≤ (wrap64 (x4 + 1)) then (if (wrap64 (x4 + 1)) < (x0.size : Int) then (cO k x0 x4 ((bt x0 (wrap64 (x4 + 1))) == 47) Aa Ab Ac Ad Ae Af Ag Ah) else (none)) else (none)) else (cO k x0 x4 false Aa Ab Ac Ad Ae Af Ag Ah)) else (none)) else (none)) else (cO k x0 x4 false Aa Ab Ac Ad Ae Af Ag Ah)
def cO : Nat → ByteArray → Int → Bool → ByteArray → Bool → ByteArray → ByteArray → Bool → ByteArray → Bool → ByteArray → Option (ByteArray × Bool × ByteArray × ByteArray × Bool × ByteArray × Bool × ByteArray)
  | 0, _, _, _, _, _, _, _, _, _, _, _ => none
  | k + 1, x0, x4, Aj, Aa, Ag, Ah, Ab, Ac, Ad, Ae, Af => if Aj = true then ((dV k x0 (wrap64 (x4 + 2)) (⟨#[47, 63, 35]⟩ : ByteArray)).bind fun Ai => (if 0 ≤ (wrap64 (x4 + 2)) then (if (wrap64 (x4 + 2)) ≤ Ai then (if Ai ≤ (x0.size : Int) then (dJ k x0 Ai Aa true (x0.extract ((wrap64 (x4 + 2)) : Int).toNat (Ai : Int).toNat) Ab Ac Ad Ae Af) else (none)) else (none)) else (none))) else (dJ k x0 x4 Aa Ag Ah Ab Ac Ad Ae Af)
def dJ : Nat → ByteArray → Int → ByteArray → Bool → ByteArray → ByteArray → Bool → ByteArray → Bool → ByteArray → Option (ByteArray × Bool × ByteArray × ByteArray × Bool × ByteArray × Bool × ByteArray)
  | 0, _, _, _, _, _, _, _, _, _, _ => none
  | k + 1, x0, x4, Ab, Ac, Ad, Ai, Ae, Af, Ag, Ah => (dV k x0 x4 (⟨#[63, 35]⟩ : ByteArray)).bind fun Aa => (if 0 ≤ x4 then (if x4 ≤ Aa then (if Aa ≤ (x0.size : Int) then (if Aa < (x0.size : Int) then (if 0 ≤ Aa then (dK k x0 Aa ((bt x0 Aa) == 63) Ab Ac Ad (x0.extract (x4 : Int).toNat (Aa : Int).toNat) Ae Af Ag Ah) else (none)) else (dK k x0 Aa false Ab Ac Ad (x0.extract (x4 : Int).toNat (Aa : Int).toNat) Ae Af Ag Ah)) else (none)) else (none)) else (none))
def dK : Nat → ByteArray → Int → Bool → ByteArray → Bool → ByteArray → ByteArray → Bool → ByteArray → Bool → ByteArray → Option (ByteArray × Bool × ByteArray × ByteArray × Bool × ByteArray × Bool × ByteArray)
  | 0, _, _, _, _, _, _, _, _, _, _, _ => none
  | k + 1, x0, x4, Aj, Aa, Ab, Ac, Ad, Af, Ag, Ah, Ai => if Aj = true then ((dV k x0 (wrap64 (x4 + 1)) (⟨#[35]⟩ : ByteArray)).bind fun Ae => (if 0 ≤ (wrap64 (x4 + 1)) then (if (wrap64 (x4 + 1)) ≤ Ae then (if Ae ≤ (x0.size : Int) then (if Ae < (x0.size : Int) then (if 0 ≤ (wrap64 (Ae + 1)) then (if (wrap64 (Ae + 1)) ≤ (x0.size : Int) then (some (Aa, Ab, Ac, Ad, true, x0.extract ((wrap64 (x4 + 1)) : Int).toNat (Ae : Int).toNat, true, x0.extract ((wrap64 (Ae + 1)) : Int).toNat x0.size)) else (none)) else (none)) else (some (Aa, Ab, Ac, Ad, true, x0.extract ((wrap64 (x4 + 1)) : Int).toNat (Ae : Int).toNat, Ah, Ai))) else (none)) else (none)) else (none))) else (if x4 < (x0.size : Int) then (if 0 ≤ (wrap64 (x4 + 1)) then (if (wrap64 (x4 + 1)) ≤ (x0.size : Int) then (some (Aa, Ab, Ac, Ad, Af, Ag, true, x0.extract ((wrap64 (x4 + 1)) : Int).toNat x0.size)) else (none)) else (none)) else (some (Aa, Ab, Ac, Ad, Af, Ag, Ah, Ai)))
end
def fM (k : Nat) (a0 : ByteArray) : Option (ByteArray × Bool × ByteArray × ByteArray × Bool × ByteArray × Bool × ByteArray) := (dV k a0 0 (⟨#[58, 47, 63, 35]⟩ : ByteArray)).bind fun t754 => (if t754 > 0 then (if t754 < (a0.size : Int) then (if 0 ≤ t754 then (cN k a0 0 t754 ((bt a0 t754) == 58) (⟨#[]⟩ : ByteArray) false (⟨#[]⟩ : ByteArray) (⟨#[]⟩ : ByteArray) false (⟨#[]⟩ : ByteArray) false (⟨#[]⟩ : ByteArray)) else (none)) else (cN k a0 0 t754 false (⟨#[]⟩ : ByteArray) false (⟨#[]⟩ : ByteArray) (⟨#[]⟩ : ByteArray) false (⟨#[]⟩ : ByteArray) false (⟨#[]⟩ : ByteArray))) else (cN k a0 0 t754 false (⟨#[]⟩ : ByteArray) false (⟨#[]⟩ : ByteArray) (⟨#[]⟩ : ByteArray) false (⟨#[]⟩ : ByteArray) false (⟨#[]⟩ : ByteArray)))
theorem jD (k : Nat) (a0 : ByteArray) (r1 : ByteArray) (r2 : Bool) (r3 : ByteArray) (r4 : ByteArray) (r5 : Bool) (r6 : ByteArray) (r7 : Bool) (r8 : ByteArray) (w : World) (h : fM k a0 = some (r1, r2, r3, r4, r5, r6, r7, r8)) :
    Calls Tryz.prog 22 #[.string a0] w fun e w' => e = .returned (.agg #[.string r1, .bool r2, .string r3, .string r4, .bool r5, .string r6, .bool r7, .string r8]) ∧ Below w.heap.size w w' := by
 have hu24 := Tryz.underlying24
 have HB := Zz.mk (Below.refl w.heap.size w)
 have H := h
 clear h
 unfold fM at H
 replace H := xbd H
 obtain ⟨AA, A2, H⟩ := H
 try dsimp only at H
 have A6 := Zz.mk H
 clear H
 go_enter Tryz.func22, Tryz.ntmps22
 go_upto_region 4 with (first | ((with_reducible refine aj (N := 2) rfl ?_); (try (refine cb (by rfl) ?_; dsimp only)); refine xew 2 ?_; intro Ah w4 Ag Bh hb hg; replace HB := xst hb; clear hb hg) | ((with_reducible refine aj (N := 3) rfl ?_); (try (refine cb (by rfl) ?_; dsimp only)); refine xew 3 ?_; intro Aj w5 Ad Bi hb hg; have Ae := xlt (g := Ah) hg; have Af := xgt (g := Ah) hg; replace Ag := xbq Ah hb; replace HB := xst hb; clear hb hg; have B2 := Af.out; have B3 := Ae.out; have Cf := xz8 Ad.out) | ((with_reducible refine xgc (f := 36) rfl ?_); refine xca 8 Tryz.func36 (eu (w := _) (h := A2.out)) ?_; rintro w' ⟨nd, rfl⟩))
 (try simp only [Act.put, xl1, xl2, xl3])
 go_cut [22] (fun v22 wc => ∃ kq AB, v22 = .bool AB ∧ Zz (cN kq a0 0 AA AB (⟨#[]⟩ : ByteArray) false (⟨#[]⟩ : ByteArray) (⟨#[]⟩ : ByteArray) false (⟨#[]⟩ : ByteArray) false (⟨#[]⟩ : ByteArray) = some (r1, r2, r3, r4, r5, r6, r7, r8)) ∧ Zz (kq ≤ k) ∧ Zz (wc.heap[Ah]? = some (.cells #[.string (⟨#[]⟩ : ByteArray), .bool false, .string (⟨#[]⟩ : ByteArray), .string (⟨#[]⟩ : ByteArray), .bool false, .string (⟨#[]⟩ : ByteArray), .bool false, .string (⟨#[]⟩ : ByteArray)] 24 (0, 0))) ∧ Zz (wc.heap[Aj]? = some (.cells #[.string (⟨#[]⟩ : ByteArray), .bool false, .string (⟨#[]⟩ : ByteArray), .string (⟨#[]⟩ : ByteArray), .bool false, .string (⟨#[]⟩ : ByteArray), .bool false, .string (⟨#[]⟩ : ByteArray)] 24 (0, 0))) ∧ Zz (Below w.heap.size w wc))
 case first => (
 have H := A6.out
 clear A6
 refine xid H ?_ ?_ <;> clear H <;> intro c8 H
 {
 have AC := xdt c8
 clear c8
 (first | rw [AC] | (simp only [ag, ak]; rw [AC]) | skip)
 refine xid H ?_ ?_ <;> clear H <;> intro c9 H
 {
 have A7 := xdt c9
 clear c9
 refine xin H ?_; clear H; intro c10 H
 have Bj := xdt c10
 clear c10
 replace H := xa H
 obtain ⟨p11, q11, hx11⟩ := xiv a0 AA xod xod
 go_wp2
 go_meet
 case rel => exact ⟨_, (((bt a0 AA) == 58)), xrr, H, ⟨xom⟩, ⟨xbK⟩, ⟨xbK⟩, ⟨xbl⟩⟩
 }
 have A7 := xdf c9
 clear c9
 replace H := xa H
 go_wp2
 go_meet
 case rel => exact ⟨_, (false), xrr, H, ⟨xom⟩, ⟨xbK⟩, ⟨xbK⟩, ⟨xbl⟩⟩
 }
 have AC := xdf c8
 clear c8
 (first | rw [AC] | (simp only [ag, ak]; rw [AC]) | skip)
 replace H := xa H
 go_wp2
 go_meet
 case rel => exact ⟨_, (false), xrr, H, ⟨xom⟩, ⟨xbK⟩, ⟨xbK⟩, ⟨xbl⟩⟩
 )
 case rest => (
 clear A6
 obtain ⟨kq, AB, rfl, HA, HJ2, Ag, Ad, HB⟩ := hcut
 cases kq with
 | zero => exact absurd HA.out (by simp [cN])
 | succ kj2 => (
 have H := HA.out
 clear HA
 simp only [cN] at H
 have AF := Zz.mk H
 clear H
 go_upto_if 22 with (fail)
 go_cut [4] (fun v4 wc => ∃ kq Ai Aa, v4 = .int .i64 Ai ∧ Zz (dI kq a0 Ai Aa false (⟨#[]⟩ : ByteArray) (⟨#[]⟩ : ByteArray) false (⟨#[]⟩ : ByteArray) false (⟨#[]⟩ : ByteArray) = some (r1, r2, r3, r4, r5, r6, r7, r8)) ∧ Zz (kq ≤ kj2) ∧ Zz (wc.heap[Ah]? = some (.cells #[.string (⟨#[]⟩ : ByteArray), .bool false, .string (⟨#[]⟩ : ByteArray), .string (⟨#[]⟩ : ByteArray), .bool false, .string (⟨#[]⟩ : ByteArray), .bool false, .string (⟨#[]⟩ : ByteArray)] 24 (0, 0))) ∧ Zz (wc.heap[Aj]? = some (.cells #[.string Aa, .bool false, .string (⟨#[]⟩ : ByteArray), .string (⟨#[]⟩ : ByteArray), .bool false, .string (⟨#[]⟩ : ByteArray), .bool false, .string (⟨#[]⟩ : ByteArray)] 24 (0, 0))) ∧ Zz (Below w.heap.size w wc))
 case first => (
 have H := AF.out
 clear AF
 refine xib H ?_ ?_ <;> clear H <;> rintro rfl H
 {
 refine xin H ?_; clear H; intro c14 H
 obtain ⟨Bk, Bl⟩ := xcp c14
 clear c14
 refine xin H ?_; clear H; intro c15 H
 obtain ⟨Bm, Bn⟩ := xcp c15
 clear c15
 obtain ⟨A8, AD⟩ : ∃ j_ : ByteArray, (a0.extract 0 (AA : Int).toNat) = j_ := ⟨_, rfl⟩
 try (have AG := AD; simp only [Int.toNat_natCast] at AG)
 first | rw [AD] at H | simp only [AD] at H | skip
 replace H := xa H
 have Bo := Af.out
 have Bp := Ae.out
 have B4 := xz8 Ad.out
 go_wp2
 go_meet
 case rel => exact ⟨_, (wrap64 (AA + 1)), (A8), xrr, H, ⟨xoj HJ2⟩, ⟨xbK⟩, ⟨xbK⟩, ⟨xbl⟩⟩
 }
 replace H := xa H
 go_wp2
 go_meet
 case rel => exact ⟨_, (0), ((⟨#[]⟩ : ByteArray)), xrr, H, ⟨xoj HJ2⟩, ⟨xbk⟩, ⟨xbk⟩, ⟨xbl⟩⟩
 )
 case rest => (
 clear AF
 obtain ⟨kq, Ai, Aa, rfl, HA, HJ11, Ag, Ad, HB⟩ := hcut
 cases kq with
 | zero => exact absurd HA.out (by simp [dI])
 | succ kj11 => (
 have H := HA.out
 clear HA
 simp only [dI] at H
 have AH := Zz.mk H
 clear H
 go_upto_region 7 with (fail)
 go_cut [46] (fun v46 wc => ∃ kq As, v46 = .bool As ∧ Zz (cO kq a0 Ai As Aa false (⟨#[]⟩ : ByteArray) (⟨#[]⟩ : ByteArray) false (⟨#[]⟩ : ByteArray) false (⟨#[]⟩ : ByteArray) = some (r1, r2, r3, r4, r5, r6, r7, r8)) ∧ Zz (kq ≤ kj11) ∧ Zz (wc.heap[Ah]? = some (.cells #[.string (⟨#[]⟩ : ByteArray), .bool false, .string (⟨#[]⟩ : ByteArray), .string (⟨#[]⟩ : ByteArray), .bool false, .string (⟨#[]⟩ : ByteArray), .bool false, .string (⟨#[]⟩ : ByteArray)] 24 (0, 0))) ∧ Zz (wc.heap[Aj]? = some (.cells #[.string Aa, .bool false, .string (⟨#[]⟩ : ByteArray), .string (⟨#[]⟩ : ByteArray), .bool false, .string (⟨#[]⟩ : ByteArray), .bool false, .string (⟨#[]⟩ : ByteArray)] 24 (0, 0))) ∧ Zz (Below w.heap.size w wc))
 case first => (
 have H := AH.out
 clear AH
 refine xid H ?_ ?_ <;> clear H <;> intro c20 H
 {
 have An := xdt c20
 clear c20
 (first | rw [An] | (simp only [ag, ak]; rw [An]) | skip)
 refine xin H ?_; clear H; intro c21 H
 have Bq := xdt c21
 clear c21
 refine xin H ?_; clear H; intro c22 H
 have Br := xdt c22
 clear c22
 refine xid H ?_ ?_ <;> clear H <;> intro c24 H
 {
 obtain ⟨AP, AQ⟩ := xqe c24
 clear c24
 obtain ⟨AI, Au⟩ : ∃ j_ : Int, (wrap64 (Ai + 1)) = j_ := ⟨_, rfl⟩
 first | rw [Au] at H | simp only [Au] at H | skip
 have A9 : (IntKind.i64.wrap (Ai + 1)) = AI := (ag _).trans Au
 refine xin H ?_; clear H; intro c26 H
 have Bs := xdt c26
 clear c26
 refine xin H ?_; clear H; intro c27 H
 have Bt := xdt c27
 clear c27
 replace H := xa H
 obtain ⟨p23, q23, hx23⟩ := xiv a0 Ai xod xod
 obtain ⟨p28, q28, hx28⟩ := xiv a0 (AI) xod xod
 go_wp2
 go_meet
 case rel => exact ⟨_, (((bt a0 (AI)) == 47)), (by first | exact xrs | (simp only [← Au] <;> (first | rfl | simp)) | exact xrr), H, ⟨xoJ HJ2 HJ11⟩, ⟨xbk⟩, ⟨xbk⟩, ⟨xbl⟩⟩
 }
 obtain ⟨AP, AQ⟩ := xqn c24
 replace H := xa H
 obtain ⟨p23, q23, hx23⟩ := xiv a0 Ai xod xod
 go_wp2
 go_meet
 case rel => exact ⟨_, (false), xrr, H, ⟨xoJ HJ2 HJ11⟩, ⟨xbk⟩, ⟨xbk⟩, ⟨xbl⟩⟩
 }
 have An := xdf c20
 clear c20
 (first | rw [An] | (simp only [ag, ak]; rw [An]) | skip)
 replace H := xa H
 go_wp2
 go_meet
 case rel => exact ⟨_, (false), xrr, H, ⟨xoJ HJ2 HJ11⟩, ⟨xbk⟩, ⟨xbk⟩, ⟨xbl⟩⟩
 )
 case rest => (
 clear AH
 obtain ⟨kq, As, rfl, HA, HJ18, Ag, Ad, HB⟩ := hcut
 cases kq with
 | zero => exact absurd HA.out (by simp [cO])
 | succ kj18 => (
 have H := HA.out
 clear HA
 simp only [cO] at H
 have AJ := Zz.mk H
 clear H
 go_upto_if 46 with (fail)
 go_cut [4] (fun v4 wc => ∃ kq Av Ab Ac, v4 = .int .i64 Av ∧ Zz (dJ kq a0 Av Aa Ab Ac (⟨#[]⟩ : ByteArray) false (⟨#[]⟩ : ByteArray) false (⟨#[]⟩ : ByteArray) = some (r1, r2, r3, r4, r5, r6, r7, r8)) ∧ Zz (kq ≤ kj18) ∧ Zz (wc.heap[Ah]? = some (.cells #[.string (⟨#[]⟩ : ByteArray), .bool false, .string (⟨#[]⟩ : ByteArray), .string (⟨#[]⟩ : ByteArray), .bool false, .string (⟨#[]⟩ : ByteArray), .bool false, .string (⟨#[]⟩ : ByteArray)] 24 (0, 0))) ∧ Zz (wc.heap[Aj]? = some (.cells #[.string Aa, .bool Ab, .string Ac, .string (⟨#[]⟩ : ByteArray), .bool false, .string (⟨#[]⟩ : ByteArray), .bool false, .string (⟨#[]⟩ : ByteArray)] 24 (0, 0))) ∧ Zz (Below w.heap.size w wc))
 case first => (
 have H := AJ.out
 clear AJ
 refine xib H ?_ ?_ <;> clear H <;> rintro rfl H
 {
 replace H := xbd H
 obtain ⟨AR, A31, H⟩ := H
 try dsimp only at H
 obtain ⟨AS, Ao⟩ : ∃ j_ : Int, (wrap64 (Ai + 2)) = j_ := ⟨_, rfl⟩
 first | rw [Ao] at H | simp only [Ao] at H | skip
 (try rw [Ao] at A31)
 have Ba : (IntKind.i64.wrap (Ai + 2)) = AS := (ag _).trans Ao
 refine xin H ?_; clear H; intro c33 H
 obtain ⟨Bu, Bv⟩ := xcp c33
 clear c33
 refine xin H ?_; clear H; intro c34 H
 obtain ⟨Bw, Bx⟩ := xcp c34
 clear c34
 refine xin H ?_; clear H; intro c35 H
 obtain ⟨By, Bz⟩ := xcp c35
 clear c35
 obtain ⟨Bb, Aw⟩ : ∃ j_ : ByteArray, (a0.extract ((AS) : Int).toNat (AR : Int).toNat) = j_ := ⟨_, rfl⟩
 try (have AK := Aw; simp only [Int.toNat_natCast] at AK)
 first | rw [Aw] at H | simp only [Aw] at H | skip
 (try rw [Aw] at A31)
 replace H := xa H
 go_wp2_with (first | ((with_reducible refine xgc (f := 36) rfl ?_); refine xca 50 Tryz.func36 (eu (w := _) (h := A31.out)) ?_ (hargs := by (try simp only [xm1, xm2, xm3]); first | done | (simp only [Ao]; rfl) | rfl); rintro w' ⟨nd, rfl⟩; (try (rw [aW wc]; generalize hq_ : World.drewN wc _ = wc; have n0_ := xbr Ah hq_; have n1_ : Zz (wc.heap[Aj]? = some (.cells #[.string Aa, .bool false, .string (⟨#[]⟩ : ByteArray), .string (⟨#[]⟩ : ByteArray), .bool false, .string (⟨#[]⟩ : ByteArray), .bool false, .string (⟨#[]⟩ : ByteArray)] 24 (0, 0))) := ⟨by rw [← hq_]; exact xbk⟩; have n2_ : Zz (Below w.heap.size w wc) := ⟨by rw [← hq_]; exact xbl⟩; clear Ag Ad HB hq_; have Ag := n0_; have Ad := n1_; have HB := n2_; clear n0_ n1_ n2_)); have BA := Af.out; have BB := Ae.out; have B5 := xz8 Ad.out))
 go_meet
 case rel => exact ⟨_, (AR), (true), (Bb), xrr, H, ⟨by have := HJ2.out; have := HJ11.out; have := HJ18.out; first | omega | exact Nat.le_refl _⟩, ⟨xbK⟩, ⟨xbK⟩, ⟨xbl⟩⟩
 }
 replace H := xa H
 go_wp2
 go_meet
 case rel => exact ⟨_, (Ai), (false), ((⟨#[]⟩ : ByteArray)), xrr, H, ⟨by have := HJ2.out; have := HJ11.out; have := HJ18.out; first | omega | exact Nat.le_refl _⟩, ⟨xbk⟩, ⟨xbk⟩, ⟨xbl⟩⟩
 )
 case rest => (
 clear AJ
 obtain ⟨kq, Av, Ab, Ac, rfl, HA, HJ28, Ag, Ad, HB⟩ := hcut
 cases kq with
 | zero => exact absurd HA.out (by simp [dJ])
 | succ kj28 => (
 have H := HA.out
 clear HA
 simp only [dJ] at H
 replace H := xbd H
 obtain ⟨Ap, A39, H⟩ := H
 try dsimp only at H
 refine xin H ?_; clear H; intro c40 H
 obtain ⟨AT, AU⟩ := xcp c40
 clear c40
 refine xin H ?_; clear H; intro c41 H
 obtain ⟨AV, AW⟩ := xcp c41
 clear c41
 refine xin H ?_; clear H; intro c42 H
 obtain ⟨AX, AY⟩ := xcp c42
 clear c42
 obtain ⟨Az, Ak⟩ : ∃ j_ : ByteArray, (a0.extract (Av : Int).toNat (Ap : Int).toNat) = j_ := ⟨_, rfl⟩
 try (have AL := Ak; simp only [Int.toNat_natCast] at AL)
 first | rw [Ak] at H | simp only [Ak] at H | skip
 (try rw [Ak] at A39)
 have AM := Zz.mk H
 clear H
 go_upto_region 15 with (first | ((with_reducible refine xgc (f := 36) rfl ?_); refine xca 61 Tryz.func36 (eu (w := _) (h := A39.out)) ?_; rintro w' ⟨nd, rfl⟩; (try (rw [aW wc]; generalize hq_ : World.drewN wc _ = wc; have n0_ := xbr Ah hq_; have n1_ := xbr Aj hq_; have n2_ : Zz (Below w.heap.size w wc) := ⟨by rw [← hq_]; exact xbl⟩; clear Ag Ad HB hq_; have Ag := n0_; have Ad := n1_; have HB := n2_; clear n0_ n1_ n2_)); have BC := Af.out; have BD := Ae.out; have B6 := xz8 Ad.out))
 (try simp only [Act.put, xl1, xl2, xl3])
 go_cut [77] (fun v77 wc => ∃ kq At, v77 = .bool At ∧ Zz (dK kq a0 Ap At Aa Ab Ac Az false (⟨#[]⟩ : ByteArray) false (⟨#[]⟩ : ByteArray) = some (r1, r2, r3, r4, r5, r6, r7, r8)) ∧ Zz (kq ≤ kj28) ∧ Zz (wc.heap[Ah]? = some (.cells #[.string (⟨#[]⟩ : ByteArray), .bool false, .string (⟨#[]⟩ : ByteArray), .string (⟨#[]⟩ : ByteArray), .bool false, .string (⟨#[]⟩ : ByteArray), .bool false, .string (⟨#[]⟩ : ByteArray)] 24 (0, 0))) ∧ Zz (wc.heap[Aj]? = some (.cells #[.string Aa, .bool Ab, .string Ac, .string Az, .bool false, .string (⟨#[]⟩ : ByteArray), .bool false, .string (⟨#[]⟩ : ByteArray)] 24 (0, 0))) ∧ Zz (Below w.heap.size w wc))
 case first => (
 have H := AM.out
 clear AM
 refine xid H ?_ ?_ <;> clear H <;> intro c47 H
 {
 have Aq := xdt c47
 clear c47
 (first | rw [Aq] | (simp only [ag, ak]; rw [Aq]) | skip)
 refine xin H ?_; clear H; intro c48 H
 have BE := xdt c48
 clear c48
 replace H := xa H
 obtain ⟨p49, q49, hx49⟩ := xiv a0 Ap xod xod
 go_wp2
 go_meet
 case rel => exact ⟨_, (((bt a0 Ap) == 63)), xrr, H, ⟨by have := HJ2.out; have := HJ11.out; have := HJ18.out; have := HJ28.out; first | omega | exact Nat.le_refl _⟩, ⟨xbK⟩, ⟨xbK⟩, ⟨xbl⟩⟩
 }
 have Aq := xdf c47
 clear c47
 (first | rw [Aq] | (simp only [ag, ak]; rw [Aq]) | skip)
 replace H := xa H
 go_wp2
 go_meet
 case rel => exact ⟨_, (false), xrr, H, ⟨by have := HJ2.out; have := HJ11.out; have := HJ18.out; have := HJ28.out; first | omega | exact Nat.le_refl _⟩, ⟨xbK⟩, ⟨xbK⟩, ⟨xbl⟩⟩
 )
 case rest => (
 clear AM
 clear AT AU AV AW AX AY
 obtain ⟨kq, At, rfl, HA, HJ43, Ag, Ad, HB⟩ := hcut
 cases kq with
 | zero => exact absurd HA.out (by simp [dK])
 | succ kj43 => (
 have H := HA.out
 clear HA
 simp only [dK] at H
 refine xib H ?_ ?_ <;> clear H <;> rintro rfl H
 {
 replace H := xbd H
 obtain ⟨AN, A51, H⟩ := H
 try dsimp only at H
 obtain ⟨AZ, Al⟩ : ∃ j_ : Int, (wrap64 (Ap + 1)) = j_ := ⟨_, rfl⟩
 first | rw [Al] at H | simp only [Al] at H | skip
 (try rw [Al] at A51)
 have Bc : (IntKind.i64.wrap (Ap + 1)) = AZ := (ag _).trans Al
 refine xin H ?_; clear H; intro c53 H
 obtain ⟨BF, BG⟩ := xcp c53
 clear c53
 refine xin H ?_; clear H; intro c54 H
 obtain ⟨BH, BI⟩ := xcp c54
 clear c54
 refine xin H ?_; clear H; intro c55 H
 obtain ⟨BJ, BL⟩ := xcp c55
 clear c55
 obtain ⟨A0, Am⟩ : ∃ j_ : ByteArray, (a0.extract ((AZ) : Int).toNat (AN : Int).toNat) = j_ := ⟨_, rfl⟩
 try (have AO := Am; simp only [Int.toNat_natCast] at AO)
 first | rw [Am] at H | simp only [Am] at H | skip
 (try rw [Am] at A51)
 refine xid H ?_ ?_ <;> clear H <;> intro c57 H
 {
 have A1 := xdt c57
 clear c57
 obtain ⟨A3, Ar⟩ : ∃ j_ : Int, (wrap64 (AN + 1)) = j_ := ⟨_, rfl⟩
 first | rw [Ar] at H | simp only [Ar] at H | skip
 (try rw [Ar] at A51)
 have Bd : (IntKind.i64.wrap (AN + 1)) = A3 := (ag _).trans Ar
 refine xin H ?_; clear H; intro c59 H
 obtain ⟨BM, BN⟩ := xcp c59
 clear c59
 refine xin H ?_; clear H; intro c60 H
 obtain ⟨BO, BP⟩ := xcp c60
 clear c60
 obtain ⟨Be, Ax⟩ : ∃ j_ : ByteArray, (a0.extract ((A3) : Int).toNat a0.size) = j_ := ⟨_, rfl⟩
 first | rw [Ax] at H | simp only [Ax] at H | skip
 (try rw [Ax] at A51)
 simp only [Option.some.injEq, Prod.mk.injEq] at H
 obtain ⟨rfl, rfl, rfl, rfl, rfl, rfl, rfl, rfl⟩ := H
 go_wp2_with (first | ((with_reducible refine xgc (f := 36) rfl ?_); refine xca 81 Tryz.func36 (eu (w := _) (h := A51.out)) ?_ (hargs := by (try simp only [xm1, xm2, xm3]); first | done | (simp only [Al]; rfl) | rfl); rintro w' ⟨nd, rfl⟩; (try (rw [aW wc]; generalize hq_ : World.drewN wc _ = wc; have n0_ := xbr Ah hq_; have n1_ := xbr Aj hq_; have n2_ : Zz (Below w.heap.size w wc) := ⟨by rw [← hq_]; exact xbl⟩; clear Ag Ad HB hq_; have Ag := n0_; have Ad := n1_; have HB := n2_; clear n0_ n1_ n2_)); have BQ := Af.out; have BR := Ae.out; have B7 := xz8 Ad.out; have B8 := xz8 Ag.out))
 refine bodyPost_ret (results_cell_row rfl _ _ Ah 24 #[.string Aa, .bool Ab, .string Ac, .string Az, .bool true, .string A0, .bool true, .string Be] (0, 0) _ rfl xbk Tryz.underlying24 rfl (by kernel_rfl)) rfl ?_
 exact ⟨by first | exact xrd | (simp only [← Ak, ← Al, ← Am, ← Ar, ← Ax]; exact xrd) | exact xre, xbl⟩
 }
 have A1 := xdf c57
 clear c57
 simp only [Option.some.injEq, Prod.mk.injEq] at H
 obtain ⟨rfl, rfl, rfl, rfl, rfl, rfl, rfl, rfl⟩ := H
 go_wp2_with (first | ((with_reducible refine xgc (f := 36) rfl ?_); refine xca 81 Tryz.func36 (eu (w := _) (h := A51.out)) ?_ (hargs := by (try simp only [xm1, xm2, xm3]); first | done | (simp only [Al]; rfl) | rfl); rintro w' ⟨nd, rfl⟩; (try (rw [aW wc]; generalize hq_ : World.drewN wc _ = wc; have n0_ := xbr Ah hq_; have n1_ := xbr Aj hq_; have n2_ : Zz (Below w.heap.size w wc) := ⟨by rw [← hq_]; exact xbl⟩; clear Ag Ad HB hq_; have Ag := n0_; have Ad := n1_; have HB := n2_; clear n0_ n1_ n2_)); have BS := Af.out; have BT := Ae.out; have B9 := xz8 Ad.out; have Ca := xz8 Ag.out))
 refine bodyPost_ret (results_cell_row rfl _ _ Ah 24 #[.string Aa, .bool Ab, .string Ac, .string Az, .bool true, .string A0, .bool false, .string (⟨#[]⟩ : ByteArray)] (0, 0) _ rfl xbk Tryz.underlying24 rfl (by kernel_rfl)) rfl ?_
 exact ⟨by first | exact xrd | (simp only [← Ak, ← Al, ← Am]; exact xrd) | exact xre, xbl⟩
 }
 refine xid H ?_ ?_ <;> clear H <;> intro c68 H
 {
 have A4 := xdt c68
 clear c68
 obtain ⟨A5, Ay⟩ : ∃ j_ : Int, (wrap64 (Ap + 1)) = j_ := ⟨_, rfl⟩
 first | rw [Ay] at H | simp only [Ay] at H | skip
 have Bf : (IntKind.i64.wrap (Ap + 1)) = A5 := (ag _).trans Ay
 refine xin H ?_; clear H; intro c70 H
 obtain ⟨BU, BV⟩ := xcp c70
 clear c70
 refine xin H ?_; clear H; intro c71 H
 obtain ⟨BW, BX⟩ := xcp c71
 clear c71
 obtain ⟨Bg, AE⟩ : ∃ j_ : ByteArray, (a0.extract ((A5) : Int).toNat a0.size) = j_ := ⟨_, rfl⟩
 first | rw [AE] at H | simp only [AE] at H | skip
 simp only [Option.some.injEq, Prod.mk.injEq] at H
 obtain ⟨rfl, rfl, rfl, rfl, rfl, rfl, rfl, rfl⟩ := H
 have BY := Af.out
 have BZ := Ae.out
 have Cb := xz8 Ad.out
 have Cc := xz8 Ag.out
 go_wp2
 refine bodyPost_ret (results_cell_row rfl _ _ Ah 24 #[.string Aa, .bool Ab, .string Ac, .string Az, .bool false, .string (⟨#[]⟩ : ByteArray), .bool true, .string Bg] (0, 0) _ rfl xbk Tryz.underlying24 rfl (by kernel_rfl)) rfl ?_
 exact ⟨by first | exact xrd | (simp only [← Ak, ← Ay, ← AE]; exact xrd) | exact xre, xbl⟩
 }
 have A4 := xdf c68
 clear c68
 simp only [Option.some.injEq, Prod.mk.injEq] at H
 obtain ⟨rfl, rfl, rfl, rfl, rfl, rfl, rfl, rfl⟩ := H
 have B0 := Af.out
 have B1 := Ae.out
 have Cd := xz8 Ad.out
 have Ce := xz8 Ag.out
 go_wp2
 refine bodyPost_ret (results_cell_row rfl _ _ Ah 24 #[.string Aa, .bool Ab, .string Ac, .string Az, .bool false, .string (⟨#[]⟩ : ByteArray), .bool false, .string (⟨#[]⟩ : ByteArray)] (0, 0) _ rfl xbk Tryz.underlying24 rfl (by kernel_rfl)) rfl ?_
 exact ⟨by first | exact xrd | (simp only [← Ak]; exact xrd) | exact xre, xbl⟩
 )
 )
 )
 )
 )
 )
 )
 )
 )
 )
mutual
def cR : Nat → Int → ByteArray → Bool → Option (ByteArray × Bool × ByteArray × ByteArray × Bool × ByteArray × Bool × ByteArray × Int)
  | 0, _, _, _ => none
  | k + 1, x0, x1, x12 => if x12 = true then (some ((⟨#[]⟩ : ByteArray), false, (⟨#[]⟩ : ByteArray), (⟨#[]⟩ : ByteArray), false, (⟨#[]⟩ : ByteArray), false, (⟨#[]⟩ : ByteArray), 1)) else (if (x1.size : Int) > 65535 then (some ((⟨#[]⟩ : ByteArray), false, (⟨#[]⟩ : ByteArray), (⟨#[]⟩ : ByteArray), false, (⟨#[]⟩ : ByteArray), false, (⟨#[]⟩ : ByteArray), 2)) else (if x0 ≥ 4 then ((gY k x1).bind fun t759 => (dL k x0 x1 (decide (t759 ≥ 0)))) else (dL k x0 x1 false)))
def dL : Nat → Int → ByteArray → Bool → Option (ByteArray × Bool × ByteArray × ByteArray × Bool × ByteArray × Bool × ByteArray × Int)
  | 0, _, _, _ => none
  | k + 1, x0, x1, Ac => if Ac = true then (some ((⟨#[]⟩ : ByteArray), false, (⟨#[]⟩ : ByteArray), (⟨#[]⟩ : ByteArray), false, (⟨#[]⟩ : ByteArray), false, (⟨#[]⟩ : ByteArray), 3)) else ((fM k x1).bind fun Aa => ((gE k x0 Aa.1 Aa.2.1 Aa.2.2.1 Aa.2.2.2.1 Aa.2.2.2.2.1 Aa.2.2.2.2.2.1 Aa.2.2.2.2.2.2.1 Aa.2.2.2.2.2.2.2).bind fun Ab => (if Ab = true then (some (Aa.1, Aa.2.1, Aa.2.2.1, Aa.2.2.2.1, Aa.2.2.2.2.1, Aa.2.2.2.2.2.1, Aa.2.2.2.2.2.2.1, Aa.2.2.2.2.2.2.2, 0)) else (some ((⟨#[]⟩ : ByteArray), false, (⟨#[]⟩ : ByteArray), (⟨#[]⟩ : ByteArray), false, (⟨#[]⟩ : ByteArray), false, (⟨#[]⟩ : ByteArray), 4)))))
end
def fQ (k : Nat) (a0 : Int) (a1 : ByteArray) : Option (ByteArray × Bool × ByteArray × ByteArray × Bool × ByteArray × Bool × ByteArray × Int) := if a0 < 1 then (cR k a0 a1 true) else (cR k a0 a1 (decide (a0 > 5)))
theorem fO (k : Nat) (a0 : Int) (a1 : ByteArray) (r1 : ByteArray) (r2 : Bool) (r3 : ByteArray) (r4 : ByteArray) (r5 : Bool) (r6 : ByteArray) (r7 : Bool) (r8 : ByteArray) (r9 : Int) (w : World) (h : fQ k a0 a1 = some (r1, r2, r3, r4, r5, r6, r7, r8, r9)) :
    Calls Tryz.prog 12 #[.int .i64 a0, .string a1] w fun e w' => e = .returned (.tuple #[.agg #[.string r1, .bool r2, .string r3, .string r4, .bool r5, .string r6, .bool r7, .string r8], .int .i64 r9]) ∧ Below w.heap.size w w' := by
 have hu24 := Tryz.underlying24
 have HB := Zz.mk (Below.refl w.heap.size w)
 have H := h
 clear h
 unfold fQ at H
 have Aw := Zz.mk H
 clear H
 go_enter Tryz.func12, Tryz.ntmps12
 go_upto_region 1 with (first | ((with_reducible refine aj (N := 4) rfl ?_); refine xew 4 ?_; intro Aa w4 Ab Ay hb hg; replace HB := xst hb; clear hb hg))
 (try simp only [Act.put, xl1, xl2, xl3])
 go_cut [12] (fun v12 wc => ∃ kq Ag, v12 = .bool Ag ∧ Zz (cR kq a0 a1 Ag = some (r1, r2, r3, r4, r5, r6, r7, r8, r9)) ∧ Zz (kq ≤ k) ∧ Zz (wc.heap[Aa]? = some (.cells #[.string (⟨#[]⟩ : ByteArray), .bool false, .string (⟨#[]⟩ : ByteArray), .string (⟨#[]⟩ : ByteArray), .bool false, .string (⟨#[]⟩ : ByteArray), .bool false, .string (⟨#[]⟩ : ByteArray)] 24 (0, 0))) ∧ Zz (Below w.heap.size w wc))
 case first => (
 have H := Aw.out
 clear Aw
 refine xid H ?_ ?_ <;> clear H <;> intro c5 H
 {
 have Ah := xdt c5
 clear c5
 (first | rw [Ah] | (simp only [ag, ak]; rw [Ah]) | skip)
 replace H := xa H
 go_wp2
 go_meet
 case rel => exact ⟨_, (true), xrr, H, ⟨xom⟩, ⟨xbk⟩, ⟨xbl⟩⟩
 }
 have Ah := xdf c5
 clear c5
 (first | rw [Ah] | (simp only [ag, ak]; rw [Ah]) | skip)
 replace H := xa H
 go_wp2
 go_meet
 case rel => exact ⟨_, (decide (a0 > 5)), xrr, H, ⟨xom⟩, ⟨xbk⟩, ⟨xbl⟩⟩
 )
 case rest => (
 clear Aw
 obtain ⟨kq, Ag, rfl, HA, HJ2, Ab, HB⟩ := hcut
 cases kq with
 | zero => exact absurd HA.out (by simp [cR])
 | succ kj2 => (
 have H := HA.out
 clear HA
 simp only [cR] at H
 refine xib H ?_ ?_ <;> clear H <;> rintro rfl H
 {
 simp only [Option.some.injEq, Prod.mk.injEq] at H
 obtain ⟨rfl, rfl, rfl, rfl, rfl, rfl, rfl, rfl, rfl⟩ := H
 have AK := xz8 Ab.out
 go_wp2
 refine bodyPost_ret (aH rfl _ _ Aa 24 #[.string (⟨#[]⟩ : ByteArray), .bool false, .string (⟨#[]⟩ : ByteArray), .string (⟨#[]⟩ : ByteArray), .bool false, .string (⟨#[]⟩ : ByteArray), .bool false, .string (⟨#[]⟩ : ByteArray)] (0, 0) _ rfl xbk Tryz.underlying24 rfl (by kernel_rfl)) rfl ?_
 exact ⟨xre, xbl⟩
 }
 refine xid H ?_ ?_ <;> clear H <;> intro c8 H
 {
 have At := xdt c8
 have Au : decide (65535 < a1.size) = true := decide_eq_true (by omega)
 clear c8
 simp only [Option.some.injEq, Prod.mk.injEq] at H
 obtain ⟨rfl, rfl, rfl, rfl, rfl, rfl, rfl, rfl, rfl⟩ := H
 have AL := xz8 Ab.out
 go_wp2
 refine bodyPost_ret (aH rfl _ _ Aa 24 #[.string (⟨#[]⟩ : ByteArray), .bool false, .string (⟨#[]⟩ : ByteArray), .string (⟨#[]⟩ : ByteArray), .bool false, .string (⟨#[]⟩ : ByteArray), .bool false, .string (⟨#[]⟩ : ByteArray)] (0, 0) _ rfl xbk Tryz.underlying24 rfl (by kernel_rfl)) rfl ?_
 exact ⟨xre, xbl⟩
 }
 have At := xdf c8
 have Au : decide (65535 < a1.size) = false := decide_eq_false (by omega)
 clear c8
 have Ak := Zz.mk H
 clear H
 go_upto_region 5 with (fail)
 go_cut [24] (fun v24 wc => ∃ kq Ai, v24 = .bool Ai ∧ Zz (dL kq a0 a1 Ai = some (r1, r2, r3, r4, r5, r6, r7, r8, r9)) ∧ Zz (kq ≤ kj2) ∧ Zz (wc.heap[Aa]? = some (.cells #[.string (⟨#[]⟩ : ByteArray), .bool false, .string (⟨#[]⟩ : ByteArray), .string (⟨#[]⟩ : ByteArray), .bool false, .string (⟨#[]⟩ : ByteArray), .bool false, .string (⟨#[]⟩ : ByteArray)] 24 (0, 0))) ∧ Zz (Below w.heap.size w wc))
 case first => (
 have H := Ak.out
 clear Ak
 refine xid H ?_ ?_ <;> clear H <;> intro c11 H
 {
 have Af := xdt c11
 clear c11
 (first | rw [Af] | (simp only [ag, ak]; rw [Af]) | skip)
 replace H := xbd H
 obtain ⟨Ax, A12, H⟩ := H
 try dsimp only at H
 replace H := xa H
 go_wp2_with (first | (go_at_call 8; (with_reducible refine (mf (w := _) (h := A12.out)).mono ?_); rintro e w13 ⟨rfl, hb⟩; replace Ab := xbb (g := Aa) (o := .cells #[.string (⟨#[]⟩ : ByteArray), .bool false, .string (⟨#[]⟩ : ByteArray), .string (⟨#[]⟩ : ByteArray), .bool false, .string (⟨#[]⟩ : ByteArray), .bool false, .string (⟨#[]⟩ : ByteArray)] 24 (0, 0)) hb; replace HB := xst hb; (try clear hb)))
 go_meet
 case rel => exact ⟨_, (decide (Ax ≥ 0)), xrr, H, ⟨xoj HJ2⟩, ⟨xbk⟩, ⟨xbl⟩⟩
 }
 have Af := xdf c11
 clear c11
 (first | rw [Af] | (simp only [ag, ak]; rw [Af]) | skip)
 replace H := xa H
 go_wp2
 go_meet
 case rel => exact ⟨_, (false), xrr, H, ⟨xoj HJ2⟩, ⟨xbk⟩, ⟨xbl⟩⟩
 )
 case rest => (
 clear Ak
 clear At Au
 obtain ⟨kq, Ai, rfl, HA, HJ9, Ab, HB⟩ := hcut
 cases kq with
 | zero => exact absurd HA.out (by simp [dL])
 | succ kj9 => (
 have H := HA.out
 clear HA
 simp only [dL] at H
 refine xib H ?_ ?_ <;> clear H <;> rintro rfl H
 {
 simp only [Option.some.injEq, Prod.mk.injEq] at H
 obtain ⟨rfl, rfl, rfl, rfl, rfl, rfl, rfl, rfl, rfl⟩ := H
 have AD := xz8 Ab.out
 go_wp2
 refine bodyPost_ret (aH rfl _ _ Aa 24 #[.string (⟨#[]⟩ : ByteArray), .bool false, .string (⟨#[]⟩ : ByteArray), .string (⟨#[]⟩ : ByteArray), .bool false, .string (⟨#[]⟩ : ByteArray), .bool false, .string (⟨#[]⟩ : ByteArray)] (0, 0) _ rfl xbk Tryz.underlying24 rfl (by kernel_rfl)) rfl ?_
 exact ⟨xre, xbl⟩
 }
 replace H := xbd H
 obtain ⟨⟨Al, Am, An, Ao, Ap, Aq, Ar, As⟩, A16, H⟩ := H
 try dsimp only at H
 replace H := xbd H
 obtain ⟨AE, A17, H⟩ := H
 try dsimp only at H
 refine xib H ?_ ?_ <;> clear H <;> rintro rfl H
 {
 simp only [Option.some.injEq, Prod.mk.injEq] at H
 obtain ⟨rfl, rfl, rfl, rfl, rfl, rfl, rfl, rfl, rfl⟩ := H
 go_wp2_with (first | ((with_reducible refine xgc (f := 22) rfl ?_); refine xca 27 Tryz.func22 (jD (w := _) (h := A16.out)) ?_; rintro w19 hb; replace Ab := xbb (g := Aa) (o := .cells #[.string (⟨#[]⟩ : ByteArray), .bool false, .string (⟨#[]⟩ : ByteArray), .string (⟨#[]⟩ : ByteArray), .bool false, .string (⟨#[]⟩ : ByteArray), .bool false, .string (⟨#[]⟩ : ByteArray)] 24 (0, 0)) hb; replace HB := xst hb; (try clear hb)) | ((with_reducible refine aj (N := 6) rfl ?_); refine xew 6 ?_; intro Aj w20 Ae Av hb hg; have Ac := xlt (g := Aa) hg; have Ad := xgt (g := Aa) hg; replace Ab := xbb (g := Aa) (o := .cells #[.string (⟨#[]⟩ : ByteArray), .bool false, .string (⟨#[]⟩ : ByteArray), .string (⟨#[]⟩ : ByteArray), .bool false, .string (⟨#[]⟩ : ByteArray), .bool false, .string (⟨#[]⟩ : ByteArray)] 24 (0, 0)) hb; replace HB := xst hb; clear hb hg; have Az := Ad.out; have AA := Ac.out; have AF := xz8 Ae.out) | ((with_reducible refine xgc (f := 23) rfl ?_); refine xca 30 Tryz.func23 (j8 (w := _) (h := A17.out)) ?_; rintro w23 hb; replace Ab := xbb (g := Aa) (o := .cells #[.string (⟨#[]⟩ : ByteArray), .bool false, .string (⟨#[]⟩ : ByteArray), .string (⟨#[]⟩ : ByteArray), .bool false, .string (⟨#[]⟩ : ByteArray), .bool false, .string (⟨#[]⟩ : ByteArray)] 24 (0, 0)) hb; replace Ae := xbb (g := Aj) (o := .cells #[.string Al, .bool Am, .string An, .string Ao, .bool Ap, .string Aq, .bool Ar, .string As] 24 (0, 0)) hb; replace HB := xst hb; (try clear hb); have AG := xz8 Ae.out; have AH := xz8 Ab.out))
 refine bodyPost_ret (aH rfl _ _ Aa 24 #[.string Al, .bool Am, .string An, .string Ao, .bool Ap, .string Aq, .bool Ar, .string As] (0, 0) _ rfl xbk Tryz.underlying24 rfl (by kernel_rfl)) rfl ?_
 exact ⟨xre, xbl⟩
 }
 simp only [Option.some.injEq, Prod.mk.injEq] at H
 obtain ⟨rfl, rfl, rfl, rfl, rfl, rfl, rfl, rfl, rfl⟩ := H
 go_wp2_with (first | ((with_reducible refine xgc (f := 22) rfl ?_); refine xca 27 Tryz.func22 (jD (w := _) (h := A16.out)) ?_; rintro w26 hb; replace Ab := xbb (g := Aa) (o := .cells #[.string (⟨#[]⟩ : ByteArray), .bool false, .string (⟨#[]⟩ : ByteArray), .string (⟨#[]⟩ : ByteArray), .bool false, .string (⟨#[]⟩ : ByteArray), .bool false, .string (⟨#[]⟩ : ByteArray)] 24 (0, 0)) hb; replace HB := xst hb; (try clear hb)) | ((with_reducible refine aj (N := 6) rfl ?_); refine xew 6 ?_; intro Aj w27 Ae Av hb hg; have Ac := xlt (g := Aa) hg; have Ad := xgt (g := Aa) hg; replace Ab := xbb (g := Aa) (o := .cells #[.string (⟨#[]⟩ : ByteArray), .bool false, .string (⟨#[]⟩ : ByteArray), .string (⟨#[]⟩ : ByteArray), .bool false, .string (⟨#[]⟩ : ByteArray), .bool false, .string (⟨#[]⟩ : ByteArray)] 24 (0, 0)) hb; replace HB := xst hb; clear hb hg; have AB := Ad.out; have AC := Ac.out; have AI := xz8 Ae.out) | ((with_reducible refine xgc (f := 23) rfl ?_); refine xca 30 Tryz.func23 (j8 (w := _) (h := A17.out)) ?_; rintro w30 hb; replace Ab := xbb (g := Aa) (o := .cells #[.string (⟨#[]⟩ : ByteArray), .bool false, .string (⟨#[]⟩ : ByteArray), .string (⟨#[]⟩ : ByteArray), .bool false, .string (⟨#[]⟩ : ByteArray), .bool false, .string (⟨#[]⟩ : ByteArray)] 24 (0, 0)) hb; replace Ae := xbb (g := Aj) (o := .cells #[.string Al, .bool Am, .string An, .string Ao, .bool Ap, .string Aq, .bool Ar, .string As] 24 (0, 0)) hb; replace HB := xst hb; (try clear hb); have AJ := xz8 Ab.out))
 refine bodyPost_ret (aH rfl _ _ Aa 24 #[.string (⟨#[]⟩ : ByteArray), .bool false, .string (⟨#[]⟩ : ByteArray), .string (⟨#[]⟩ : ByteArray), .bool false, .string (⟨#[]⟩ : ByteArray), .bool false, .string (⟨#[]⟩ : ByteArray)] (0, 0) _ rfl xbk Tryz.underlying24 rfl (by kernel_rfl)) rfl ?_
 exact ⟨xre, xbl⟩
 )
 )
 )
 )
 
end Go.Proofs.YtpmflpeckoeooaaGreatDoor.X
