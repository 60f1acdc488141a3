/- Texts that the law's proof needs, joined by a program of this session. -/
import Derived.Test.YtojdiklegmhakaaDoorZUrnTexts1
import Derived.Test.YtojdiklegmhakaaDoorZUrnTexts2
import Derived.Test.YtojdiklegmhakaaDoorZUrnTexts3
import Derived.Test.YtojdiklegmhakaaDoorZUrnTexts6
set_option maxHeartbeats 8000000
set_option maxRecDepth 100000
set_option linter.unusedSimpArgs false
set_option linter.unusedVariables false
namespace Go.Proofs.YtojdiklegmhakaaDoor.X
open Go.RowKit Go.Proofs.YtojdiklegmhakaaDoorW.PrintWords Go.Proofs.YtojdiklegmhakaaDoorW.PrintLast Go.Proofs.YtojdiklegmhakaaDoorW.PrintMore
attribute [local go_sem] di cR eu fH bY eW bv eN eP fB fC eo ep eO eQ
mutual
def cq : Nat → ByteArray → Int → Bool → Option (Bool)
  | 0, _, _, _ => none
  | k + 1, x0, x3, x24 => if x24 = true then (some false) else (cH k x0 x3 0)
def cH : Nat → ByteArray → Int → Int → Option (Bool)
  | 0, _, _, _ => none
  | k + 1, x0, x25, x26 => if x26 < x25 then (if 0 ≤ x26 then (if x26 < (x0.size : Int) then (if (bt x0 x26) = 45 then (cH k x0 x25 (wrap64 (x26 + 1))) else ((cM k (bt x0 x26) 3).bind fun t510 => (if t510 = true then (cH k x0 x25 (wrap64 (x26 + 1))) else (some false)))) else (none)) else (none)) else (some true)
end
def e9 (k : Nat) (a0 : ByteArray) : Option (Bool) := if (a0.size : Int) < 2 then (cq k a0 (a0.size : Int) true) else (if (a0.size : Int) > 32 then (cq k a0 (a0.size : Int) true) else (if 0 < (a0.size : Int) then (if (bt a0 0) = 45 then (cq k a0 (a0.size : Int) true) else (if 0 ≤ (wrap64 ((a0.size : Int) - 1)) then (if (wrap64 ((a0.size : Int) - 1)) < (a0.size : Int) then (cq k a0 (a0.size : Int) ((bt a0 (wrap64 ((a0.size : Int) - 1))) == 45)) else (none)) else (none))) else (none)))
theorem io : ∀ k, (∀ y0 y1 y2, LeO (cq k y0 y1 y2) (cq (k + 1) y0 y1 y2)) ∧ (∀ y0 y1 y2, LeO (cH k y0 y1 y2) (cH (k + 1) y0 y1 y2))
  | 0 => ⟨fun _ _ _ r h => by simp [cq] at h, fun _ _ _ r h => by simp [cH] at h⟩
  | k + 1 => by
    obtain ⟨ih0, ih1⟩ := io k
    have m0 := @cd
    refine ⟨?_, ?_⟩
    · intro y0 y1 y2
      unfold cq
      exact xmo
    · intro y0 y1 y2
      unfold cH
      exact xmo
theorem i5 : ∀ a0 k, LeO (e9 k a0) (e9 (k + 1) a0) := by
  intro a0 k
  obtain ⟨ih0, ih1⟩ := io k
  have m0 := @cd
  unfold e9
  exact xmo
theorem gp (k : Nat) (a0 : ByteArray) (r : Bool) (w : World) (h : e9 k a0 = some r) :
    Calls Tryd.prog 18 #[.string a0] w fun e w' => e = .returned (.bool r) ∧ Drawn0 w w' := by
 have H := h
 clear h
 unfold e9 at H
 have Ai := Zz.mk H
 clear H
 go_enter Tryd.func18, Tryd.ntmps18
 go_upto_region 2 with (fail)
 go_cut [24] (fun v24 wc => ∃ kq Ab, v24 = .bool Ab ∧ Zz (cq kq a0 (a0.size : Int) Ab = some r) ∧ Zz (kq ≤ k) ∧ Drawn0 w wc)
 case first => (
 have H := Ai.out
 clear Ai
 refine xid H ?_ ?_ <;> clear H <;> intro c3 H
 {
 have Ac := xdt c3
 have Ae : decide (a0.size < 2) = true := decide_eq_true (by omega)
 clear c3
 (first | rw [Ac] | (simp only [an, au]; rw [Ac]) | (rw [Aj]; (try simp only [Bool.not_false, Bool.not_true])) | (rw [Ak]; (try simp only [Bool.not_false, Bool.not_true])) | rw [Ae] | skip)
 replace H := xa H
 go_wp2
 go_meet
 case rel => exact ⟨_, (true), xrr, H, ⟨xom⟩, xdr⟩
 }
 have Ac := xdf c3
 have Ae : decide (a0.size < 2) = false := decide_eq_false (by omega)
 clear c3
 (first | rw [Ac] | (simp only [an, au]; rw [Ac]) | (rw [Aj]; (try simp only [Bool.not_false, Bool.not_true])) | (rw [Ak]; (try simp only [Bool.not_false, Bool.not_true])) | rw [Ae] | skip)
 refine xid H ?_ ?_ <;> clear H <;> intro c4 H
 {
 have Al := xdt c4
 have Am : decide (32 < a0.size) = true := decide_eq_true (by omega)
 clear c4
 replace H := xa H
 go_wp2
 go_meet
 case rel => exact ⟨_, (true), xrr, H, ⟨xom⟩, xdr⟩
 }
 have Al := xdf c4
 have Am : decide (32 < a0.size) = false := decide_eq_false (by omega)
 clear c4
 refine xin H ?_; clear H; intro c5 H
 have Au := xdt c5
 have Av : decide (0 < a0.size) = true := decide_eq_true (by omega)
 clear c5
 refine xid H ?_ ?_ <;> clear H <;> intro c7 H
 {
 obtain ⟨An, Ao⟩ := xqe c7
 clear c7
 replace H := xa H
 obtain ⟨q6, Aw, hx6⟩ := xi0 a0 xod
 go_wp2
 go_meet
 case rel => exact ⟨_, (true), xrr, H, ⟨xom⟩, xdr⟩
 }
 obtain ⟨An, Ao⟩ := xqn c7
 obtain ⟨Ap, Ad⟩ : ∃ j_ : Int, (wrap64 ((a0.size : Int) - 1)) = j_ := ⟨_, rfl⟩
 first | rw [Ad] at H | simp only [Ad] at H | skip
 have Aq : (IntKind.i64.wrap ((a0.size : Int) - 1)) = Ap := (an _).trans Ad
 refine xin H ?_; clear H; intro c9 H
 have Ax := xdt c9
 clear c9
 refine xin H ?_; clear H; intro c10 H
 have Ar := xdt c10
 clear c10
 replace H := xa H
 obtain ⟨q6, Aw, hx6⟩ := xi0 a0 xod
 obtain ⟨p11, q11, hx11⟩ := xiv a0 (Ap) xod xod
 go_wp2
 go_meet
 case rel => exact ⟨_, (((bt a0 (Ap)) == 45)), (by first | rfl | (simp; done) | (simp only [← Ad] <;> (first | rfl | (rw [Int.tdiv_eq_ediv_of_nonneg (by unfold mx; split <;> omega)]; done) | simp)) | (simp [*]; done) | (simp [wrap64]; done)), H, ⟨xom⟩, xdr⟩
 )
 case rest => (
 clear Ai
 obtain ⟨kq, Ab, rfl, HA, HJ1, ⟨mc1, rfl⟩⟩ := hcut
 cases kq with
 | zero => exact absurd HA.out (by simp [cq])
 | succ kj1 => (
 have H := HA.out
 clear HA
 simp only [cq] at H
 refine xib H ?_ ?_ <;> clear H <;> rintro rfl H
 {
 obtain rfl := Option.some.inj H
 go_wp2
 go_ret
 exact ⟨xrr, xdr⟩
 }
 have H' := Zz.mk H
 clear H
 go_wp2
 go_loopg [26] kj1 (fun kq v26 w' => ∃ Aa, v26 = .int .i64 Aa ∧ Zz (cH kq a0 (a0.size : Int) Aa = some r) ∧ Zz (kq ≤ kj1) ∧ Drawn0 w w')
 case atStart => exact ⟨(0), xrr, H', ⟨Nat.le_refl _⟩, xdr⟩
 case round => (
 clear H'
 obtain ⟨Aa, rfl, HA, HK2, ⟨m2, rfl⟩⟩ := hrel
 cases gk with
 | zero => exact absurd HA.out (by simp [cH])
 | succ k2 => (
 have H := HA.out
 clear HA
 simp only [cH] at H
 refine xid H ?_ ?_ <;> clear H <;> intro c13 H
 {
 have Af := xdt c13
 clear c13
 refine xin H ?_; clear H; intro c14 H
 have As := xdt c14
 clear c14
 refine xin H ?_; clear H; intro c15 H
 have At := xdt c15
 clear c15
 refine xid H ?_ ?_ <;> clear H <;> intro c17 H
 {
 obtain ⟨Ag, Ah⟩ := xqe c17
 clear c17
 replace H := xa H
 obtain ⟨p16, q16, hx16⟩ := xiv a0 Aa xod xod
 go_wp2
 go_roundg k2
 case measure => have := HJ1.out; have := HK2.out; omega
 case rel => exact ⟨(wrap64 (Aa + 1)), xrr, H, ⟨by have := HJ1.out; have := HK2.out; omega⟩, xdr⟩
 }
 obtain ⟨Ag, Ah⟩ := xqn c17
 replace H := xbd H
 obtain ⟨Ay, A19, H⟩ := H
 try dsimp only at H
 refine xib H ?_ ?_ <;> clear H <;> rintro rfl H
 {
 replace H := xa H
 obtain ⟨p16, q16, hx16⟩ := xiv a0 Aa xod xod
 obtain ⟨p18, q18, hx18⟩ := xiv a0 Aa xod xod
 go_wp2_with (first | (go_at_call 32; (with_reducible refine (be (w := _) (h := A19.out)).mono ?_); rintro e w' ⟨rfl, ⟨nd, rfl⟩⟩))
 go_roundg k2
 case measure => have := HJ1.out; have := HK2.out; omega
 case rel => exact ⟨(wrap64 (Aa + 1)), xrr, H, ⟨by have := HJ1.out; have := HK2.out; omega⟩, xdr⟩
 }
 obtain rfl := Option.some.inj H
 obtain ⟨p16, q16, hx16⟩ := xiv a0 Aa xod xod
 obtain ⟨p18, q18, hx18⟩ := xiv a0 Aa xod xod
 go_wp2_with (first | (go_at_call 32; (with_reducible refine (be (w := _) (h := A19.out)).mono ?_); rintro e w' ⟨rfl, ⟨nd, rfl⟩⟩))
 go_ret
 exact ⟨xrr, xdr⟩
 }
 have Af := xdf c13
 clear c13
 obtain rfl := Option.some.inj H
 go_wp2
 go_ret
 exact ⟨xrr, xdr⟩
 )
 )
 )
 )
def ec (a0 : ByteArray) (a1 : ByteArray) : Option (ByteArray × Bool) := (dl a0 a1).bind fun t511 => (if t511 = true then (if 0 ≤ (a1.size : Int) then (if (a1.size : Int) ≤ (a0.size : Int) then (some (a0.extract ((a1.size : Int) : Int).toNat a0.size, true)) else (none)) else (none)) else (some (a0, false)))
theorem gP (a0 : ByteArray) (a1 : ByteArray) (r1 : ByteArray) (r2 : Bool) (w : World) (h : ec a0 a1 = some (r1, r2)) :
    Calls Tryd.prog 45 #[.string a0, .string a1] w fun e w' => e = .returned (.tuple #[.string r1, .bool r2]) ∧ Drawn0 w w' := by
 have H := h
 clear h
 unfold ec at H
 replace H := xbd H
 obtain ⟨Ac, A3, H⟩ := H
 try dsimp only at H
 refine xib H ?_ ?_ <;> clear H <;> rintro rfl H
 {
 refine xin H ?_; clear H; intro c5 H
 obtain ⟨Ad, Ae⟩ := xcp c5
 clear c5
 refine xin H ?_; clear H; intro c6 H
 obtain ⟨Af, Ag⟩ := xcp c6
 clear c6
 obtain ⟨Ah, Aa⟩ : ∃ j_ : ByteArray, (a0.extract ((a1.size : Int) : Int).toNat a0.size) = j_ := ⟨_, rfl⟩
 try (have Ab := Aa; simp only [Int.toNat_natCast] at Ab)
 first | rw [Aa] at H | simp only [Aa] at H | skip
 (try rw [Aa] at A3)
 simp only [Option.some.injEq, Prod.mk.injEq] at H
 obtain ⟨rfl, rfl⟩ := H
 go_enter Tryd.func45, Tryd.ntmps45
 go_wp2_with (first | ((with_reducible refine xgc (f := 60) rfl ?_); refine xca 8 Tryd.func60 (dE (w := _) (h := A3.out)) ?_; rintro w' ⟨nd, rfl⟩))
 go_ret2
 exact ⟨by first | rfl | (simp; done) | (simp only [← Aa] <;> (first | rfl | (rw [Int.tdiv_eq_ediv_of_nonneg (by unfold mx; split <;> omega)]; done) | simp)) | (simp [*]; done) | (simp [wrap64]; done), xdr⟩
 }
 simp only [Option.some.injEq, Prod.mk.injEq] at H
 obtain ⟨rfl, rfl⟩ := H
 go_enter Tryd.func45, Tryd.ntmps45
 go_wp2_with (first | ((with_reducible refine xgc (f := 60) rfl ?_); refine xca 8 Tryd.func60 (dE (w := _) (h := A3.out)) ?_; rintro w' ⟨nd, rfl⟩))
 go_ret2
 exact ⟨xrr, xdr⟩
def eb (a0 : ByteArray) (a1 : ByteArray) : Option (ByteArray × Bool) := (ec a0 a1).bind fun bt512 => (some (bt512.1, bt512.2))
theorem bz (a0 : ByteArray) (a1 : ByteArray) (r1 : ByteArray) (r2 : Bool) (w : World) (h : eb a0 a1 = some (r1, r2)) :
    Calls Tryd.prog 33 #[.string a0, .string a1] w fun e w' => e = .returned (.tuple #[.string r1, .bool r2]) ∧ Drawn0 w w' := by
 have H := h
 clear h
 unfold eb at H
 replace H := xbd H
 obtain ⟨⟨t512, t513⟩, A3, H⟩ := H
 try dsimp only at H
 simp only [Option.some.injEq, Prod.mk.injEq] at H
 obtain ⟨rfl, rfl⟩ := H
 go_enter Tryd.func33, Tryd.ntmps33
 go_wp2_with (first | ((with_reducible refine xgc (f := 45) rfl ?_); refine xca 8 Tryd.func45 (gP (w := _) (h := A3.out)) ?_; rintro w' ⟨nd, rfl⟩))
 go_ret2
 exact ⟨xrr, xdr⟩
def fx (a0 : ByteArray) : Option (Bool) := if a0.toList = ([] : List UInt8) then (some false) else (if 0 < (a0.size : Int) then (if (bt a0 0) = 47 then (some false) else (some ((bt a0 0) != 63))) else (none))
theorem d8 (a0 : ByteArray) (r : Bool) (w : World) (h : fx a0 = some r) :
    Calls Tryd.prog 34 #[.string a0] w fun e w' => e = .returned (.bool r) ∧ Drawn0 w w' := by
 have H := h
 clear h
 unfold fx at H
 by_cases c2 : a0.toList = ([] : List UInt8)
 {
 rw [if_pos c2] at H
 obtain ⟨Aa, Ab⟩ := xqe c2
 (try (have Ac : a0.toList.isEmpty = true := by simpa using c2))
 clear c2
 obtain rfl := Option.some.inj H
 go_enter Tryd.func34, Tryd.ntmps34
 go_wp2
 go_ret
 exact ⟨xrr, xdr⟩
 }
 {
 rw [if_neg c2] at H
 obtain ⟨Aa, Ab⟩ := xqn c2
 (try (have Ac : a0.toList.isEmpty = false := by simpa using c2))
 refine xin H ?_; clear H; intro c3 H
 have Af := xdt c3
 have Ag : decide (0 < a0.size) = true := decide_eq_true (by omega)
 clear c3
 refine xid H ?_ ?_ <;> clear H <;> intro c5 H
 {
 obtain ⟨Ad, Ae⟩ := xqe c5
 clear c5
 obtain rfl := Option.some.inj H
 obtain ⟨q4, Ah, hx4⟩ := xi0 a0 xod
 go_enter Tryd.func34, Tryd.ntmps34
 go_wp2
 go_ret
 exact ⟨xrr, xdr⟩
 }
 obtain ⟨Ad, Ae⟩ := xqn c5
 obtain rfl := Option.some.inj H
 obtain ⟨q4, Ah, hx4⟩ := xi0 a0 xod
 obtain ⟨q6, Ai, hx6⟩ := xi0 a0 xod
 go_enter Tryd.func34, Tryd.ntmps34
 go_wp2
 go_ret
 exact ⟨xrr, xdr⟩
 }
 
 
def IsS23 (w0 W : World) (g : Nat) (f0 : ByteArray) (f1 : ByteArray) (f2 : ByteArray) (f3 : ByteArray) (f4 : ByteArray) (f5 : Bool) (f6 : Bool) (f7 : Bool) : Prop := W.heap[g]? = some (.cells #[.string f0, .string f1, .string f2, .string f3, .string f4, .bool f5, .bool f6, .bool f7] 23 (0, 0)) ∧ w0.heap.size ≤ g
theorem IsS23.grown {w0 W : World} {g : Nat} {f0 : ByteArray} {f1 : ByteArray} {f2 : ByteArray} {f3 : ByteArray} {f4 : ByteArray} {f5 : Bool} {f6 : Bool} {f7 : Bool} {W1 : World} {row : Option Nat} (h : IsS23 w0 W g f0 f1 f2 f3 f4 f5 f6 f7) (hw : W.grownBy W1 row) (hne : some g ≠ row) : IsS23 w0 W1 g f0 f1 f2 f3 f4 f5 f6 f7 := by
  obtain ⟨hb, hg⟩ := h
  exact ⟨iy hb hw hne, hg⟩
theorem IsS23.kept {w0 W : World} {g : Nat} {f0 : ByteArray} {f1 : ByteArray} {f2 : ByteArray} {f3 : ByteArray} {f4 : ByteArray} {f5 : Bool} {f6 : Bool} {f7 : Bool} {W1 : World} {S : Nat → Prop} (h : IsS23 w0 W g f0 f1 f2 f3 f4 f5 f6 f7) (hk : Kept W W1 S) (hne : ¬ S g) : IsS23 w0 W1 g f0 f1 f2 f3 f4 f5 f6 f7 := by
  obtain ⟨hb, hg⟩ := h
  exact ⟨kL hb hk hne, hg⟩
theorem IsS23.below {w0 W : World} {g : Nat} {f0 : ByteArray} {f1 : ByteArray} {f2 : ByteArray} {f3 : ByteArray} {f4 : ByteArray} {f5 : Bool} {f6 : Bool} {f7 : Bool} {W1 : World} (h : IsS23 w0 W g f0 f1 f2 f3 f4 f5 f6 f7) (hw : Below W.heap.size W W1) : IsS23 w0 W1 g f0 f1 f2 f3 f4 f5 f6 f7 := h.grown (gD hw none) (by simp)
theorem IsS23.alloc {w0 W : World} {g : Nat} {f0 : ByteArray} {f1 : ByteArray} {f2 : ByteArray} {f3 : ByteArray} {f4 : ByteArray} {f5 : Bool} {f6 : Bool} {f7 : Bool} (h : IsS23 w0 W g f0 f1 f2 f3 f4 f5 f6 f7) (o : Obj) : IsS23 w0 (W.alloc o) g f0 f1 f2 f3 f4 f5 f6 f7 := h.below (bw (Below.refl _ _) o)
theorem IsS23.drewN {w0 W : World} {g : Nat} {f0 : ByteArray} {f1 : ByteArray} {f2 : ByteArray} {f3 : ByteArray} {f4 : ByteArray} {f5 : Bool} {f6 : Bool} {f7 : Bool} (h : IsS23 w0 W g f0 f1 f2 f3 f4 f5 f6 f7) (m : Nat) : IsS23 w0 (W.drewN m) g f0 f1 f2 f3 f4 f5 f6 f7 := h
theorem IsS23.drew {w0 W : World} {g : Nat} {f0 : ByteArray} {f1 : ByteArray} {f2 : ByteArray} {f3 : ByteArray} {f4 : ByteArray} {f5 : Bool} {f6 : Bool} {f7 : Bool} (h : IsS23 w0 W g f0 f1 f2 f3 f4 f5 f6 f7) : IsS23 w0 W.drew g f0 f1 f2 f3 f4 f5 f6 f7 := h
theorem IsS23.at_ {w0 W : World} {g : Nat} {f0 : ByteArray} {f1 : ByteArray} {f2 : ByteArray} {f3 : ByteArray} {f4 : ByteArray} {f5 : Bool} {f6 : Bool} {f7 : Bool} {w' : World} {m : Nat} (hq : W.drewN m = w') (h : IsS23 w0 W g f0 f1 f2 f3 f4 f5 f6 f7) : IsS23 w0 w' g f0 f1 f2 f3 f4 f5 f6 f7 := by subst hq; exact IsS23.drewN h m
theorem IsS23.apart {w0 W : World} {g : Nat} {f0 : ByteArray} {f1 : ByteArray} {f2 : ByteArray} {f3 : ByteArray} {f4 : ByteArray} {f5 : Bool} {f6 : Bool} {f7 : Bool} {α : Type} {d : Kd α} {e : Nat} {base : Nat} {ok : Nat → Prop} {v : Value} {xs : List α} (h : IsS23 w0 W g f0 f1 f2 f3 f4 f5 f6 f7) (ho : d.R e W base ok v xs) (ht : ∀ q, q ∈ e :: d.E → q ≠ 23) : d.R e W base (fun k => ok k ∧ k ≠ g) v xs := by
  obtain ⟨hb, hg⟩ := h
  exact Kd.R_types ho hb ht
theorem IsS23.own_ne {w0 W : World} {g : Nat} {f0 : ByteArray} {f1 : ByteArray} {f2 : ByteArray} {f3 : ByteArray} {f4 : ByteArray} {f5 : Bool} {f6 : Bool} {f7 : Bool} {α : Type} {d : Kd α} {e : Nat} {base : Nat} {ok : Nat → Prop} {v : Value} {xs : List α} (h : IsS23 w0 W g f0 f1 f2 f3 f4 f5 f6 f7) (ho : d.R e W base ok v xs) (ht : e ≠ 23) : some g ≠ v.ownBlock := by
  obtain ⟨hb, hg⟩ := h
  exact Kd.R_ne ho hb ht
theorem IsS23.lt {w0 W : World} {g : Nat} {f0 : ByteArray} {f1 : ByteArray} {f2 : ByteArray} {f3 : ByteArray} {f4 : ByteArray} {f5 : Bool} {f6 : Bool} {f7 : Bool} (h : IsS23 w0 W g f0 f1 f2 f3 f4 f5 f6 f7) : g < W.heap.size := by
  obtain ⟨hb, hg⟩ := h
  exact gg hb
theorem IsS23.ge {w0 W : World} {g : Nat} {f0 : ByteArray} {f1 : ByteArray} {f2 : ByteArray} {f3 : ByteArray} {f4 : ByteArray} {f5 : Bool} {f6 : Bool} {f7 : Bool} (h : IsS23 w0 W g f0 f1 f2 f3 f4 f5 f6 f7) : w0.heap.size ≤ g := by
  obtain ⟨hb, hg⟩ := h
  exact hg
theorem IsS23.far {w0 W : World} {g : Nat} {f0 : ByteArray} {f1 : ByteArray} {f2 : ByteArray} {f3 : ByteArray} {f4 : ByteArray} {f5 : Bool} {f6 : Bool} {f7 : Bool} {p : Addr} (h : IsS23 w0 W g f0 f1 f2 f3 f4 f5 f6 f7) (hne : g ≠ p.block) (u : Value) : IsS23 w0 (W.setCell p u) g f0 f1 f2 f3 f4 f5 f6 f7 := by
  obtain ⟨hb, hg⟩ := h
  exact ⟨ez hb hne u, hg⟩
theorem IsS23.set_0 {w0 W : World} {g : Nat} {f0 : ByteArray} {f1 : ByteArray} {f2 : ByteArray} {f3 : ByteArray} {f4 : ByteArray} {f5 : Bool} {f6 : Bool} {f7 : Bool} (h : IsS23 w0 W g f0 f1 f2 f3 f4 f5 f6 f7) (x : ByteArray) : IsS23 w0 (W.setCell ⟨g, 0, none⟩ (.string x)) g x f1 f2 f3 f4 f5 f6 f7 := by
  obtain ⟨hb, hg⟩ := h
  exact ⟨by simpa using bR hb 0 (.string x), hg⟩
theorem IsS23.set_1 {w0 W : World} {g : Nat} {f0 : ByteArray} {f1 : ByteArray} {f2 : ByteArray} {f3 : ByteArray} {f4 : ByteArray} {f5 : Bool} {f6 : Bool} {f7 : Bool} (h : IsS23 w0 W g f0 f1 f2 f3 f4 f5 f6 f7) (x : ByteArray) : IsS23 w0 (W.setCell ⟨g, 1, none⟩ (.string x)) g f0 x f2 f3 f4 f5 f6 f7 := by
  obtain ⟨hb, hg⟩ := h
  exact ⟨by simpa using bR hb 1 (.string x), hg⟩
theorem IsS23.set_2 {w0 W : World} {g : Nat} {f0 : ByteArray} {f1 : ByteArray} {f2 : ByteArray} {f3 : ByteArray} {f4 : ByteArray} {f5 : Bool} {f6 : Bool} {f7 : Bool} (h : IsS23 w0 W g f0 f1 f2 f3 f4 f5 f6 f7) (x : ByteArray) : IsS23 w0 (W.setCell ⟨g, 2, none⟩ (.string x)) g f0 f1 x f3 f4 f5 f6 f7 := by
  obtain ⟨hb, hg⟩ := h
  exact ⟨by simpa using bR hb 2 (.string x), hg⟩
theorem IsS23.set_3 {w0 W : World} {g : Nat} {f0 : ByteArray} {f1 : ByteArray} {f2 : ByteArray} {f3 : ByteArray} {f4 : ByteArray} {f5 : Bool} {f6 : Bool} {f7 : Bool} (h : IsS23 w0 W g f0 f1 f2 f3 f4 f5 f6 f7) (x : ByteArray) : IsS23 w0 (W.setCell ⟨g, 3, none⟩ (.string x)) g f0 f1 f2 x f4 f5 f6 f7 := by
  obtain ⟨hb, hg⟩ := h
  exact ⟨by simpa using bR hb 3 (.string x), hg⟩
theorem IsS23.set_4 {w0 W : World} {g : Nat} {f0 : ByteArray} {f1 : ByteArray} {f2 : ByteArray} {f3 : ByteArray} {f4 : ByteArray} {f5 : Bool} {f6 : Bool} {f7 : Bool} (h : IsS23 w0 W g f0 f1 f2 f3 f4 f5 f6 f7) (x : ByteArray) : IsS23 w0 (W.setCell ⟨g, 4, none⟩ (.string x)) g f0 f1 f2 f3 x f5 f6 f7 := by
  obtain ⟨hb, hg⟩ := h
  exact ⟨by simpa using bR hb 4 (.string x), hg⟩
theorem IsS23.set_5 {w0 W : World} {g : Nat} {f0 : ByteArray} {f1 : ByteArray} {f2 : ByteArray} {f3 : ByteArray} {f4 : ByteArray} {f5 : Bool} {f6 : Bool} {f7 : Bool} (h : IsS23 w0 W g f0 f1 f2 f3 f4 f5 f6 f7) (x : Bool) : IsS23 w0 (W.setCell ⟨g, 5, none⟩ (.bool x)) g f0 f1 f2 f3 f4 x f6 f7 := by
  obtain ⟨hb, hg⟩ := h
  exact ⟨by simpa using bR hb 5 (.bool x), hg⟩
theorem IsS23.set_6 {w0 W : World} {g : Nat} {f0 : ByteArray} {f1 : ByteArray} {f2 : ByteArray} {f3 : ByteArray} {f4 : ByteArray} {f5 : Bool} {f6 : Bool} {f7 : Bool} (h : IsS23 w0 W g f0 f1 f2 f3 f4 f5 f6 f7) (x : Bool) : IsS23 w0 (W.setCell ⟨g, 6, none⟩ (.bool x)) g f0 f1 f2 f3 f4 f5 x f7 := by
  obtain ⟨hb, hg⟩ := h
  exact ⟨by simpa using bR hb 6 (.bool x), hg⟩
theorem IsS23.set_7 {w0 W : World} {g : Nat} {f0 : ByteArray} {f1 : ByteArray} {f2 : ByteArray} {f3 : ByteArray} {f4 : ByteArray} {f5 : Bool} {f6 : Bool} {f7 : Bool} (h : IsS23 w0 W g f0 f1 f2 f3 f4 f5 f6 f7) (x : Bool) : IsS23 w0 (W.setCell ⟨g, 7, none⟩ (.bool x)) g f0 f1 f2 f3 f4 f5 f6 x := by
  obtain ⟨hb, hg⟩ := h
  exact ⟨by simpa using bR hb 7 (.bool x), hg⟩
theorem IsS23.new (w0 W : World) (f0 : ByteArray) (f1 : ByteArray) (f2 : ByteArray) (f3 : ByteArray) (f4 : ByteArray) (f5 : Bool) (f6 : Bool) (f7 : Bool) (hB : Below w0.heap.size w0 W) : IsS23 w0 (W.alloc (.cells #[.string f0, .string f1, .string f2, .string f3, .string f4, .bool f5, .bool f6, .bool f7] 23)) W.heap.size f0 f1 f2 f3 f4 f5 f6 f7 := ⟨by simpa using heap_alloc_new W _, hB.size⟩
theorem kw {p : Prop} (h : p := by first | (with_reducible exact hG) | exact cT hG (by repeat (first | (with_reducible first | exact HB.out | apply bw | apply bA | apply aw | refine dj ?_ (IsS23.ge (Zz.out (by assumption))) | refine dj ?_ (Zz.out (by assumption))) | exact HB.out))) : p := h
theorem gu {p : Prop} (h : p := by repeat (first | (with_reducible first | exact Zz.out (by assumption) | apply IsS23.alloc | apply IsS23.drewN | apply IsS23.drew | apply IsS23.set_0 | apply IsS23.set_1 | apply IsS23.set_2 | apply IsS23.set_3 | apply IsS23.set_4 | apply IsS23.set_5 | apply IsS23.set_6 | apply IsS23.set_7 | refine IsS23.far ?_ (Zz.out (by assumption)) _) | exact HI0.out)) : p := h
theorem fg {p : Prop} (h : p := by repeat (first | (with_reducible first | exact HB.out | apply bw | apply bA | apply aw | refine dj ?_ (IsS23.ge (Zz.out (by assumption))) | refine dj ?_ (Zz.out (by assumption))) | exact HB.out)) : p := h
def fO (Ac : ByteArray) (Ad : ByteArray) (Ah : ByteArray) (Am : ByteArray) (Ae : ByteArray) (Ai : Bool) (An : Bool) (Af : Bool) (a1 : ByteArray) : Option (Bool × ByteArray × ByteArray × ByteArray × ByteArray × ByteArray × Bool × Bool × Bool) := (eb a1 (⟨#[43]⟩ : ByteArray)).bind fun Ag => (if Ag.2 = true then ((bQ Ag.1 (⟨#[63, 61]⟩ : ByteArray)).bind fun Aa => ((fx Aa.1).bind fun Aj => (if Aj = true then (if Aa.2.2 = true then ((fx Aa.2.1).bind fun Ak => (some (Ak, Ac, Ad, Aa.1, Aa.2.1, Ae, true, Aa.2.2, Af))) else (some (true, Ac, Ad, Aa.1, Aa.2.1, Ae, true, Aa.2.2, Af))) else (some (false, Ac, Ad, Aa.1, Aa.2.1, Ae, true, Aa.2.2, Af))))) else ((eb a1 (⟨#[61]⟩ : ByteArray)).bind fun Ab => (if Ab.2 = true then ((fx Ab.1).bind fun Al => (some (Al, Ac, Ad, Ah, Ab.1, Ae, Ai, Ab.2, Af))) else (some (false, Ac, Ad, Ah, Ab.1, Ae, Ai, Ab.2, Af)))))
theorem gf (g : Nat) (Aa : ByteArray) (Ab : ByteArray) (Ac : ByteArray) (Ad : ByteArray) (Ae : ByteArray) (Af : Bool) (Ag : Bool) (Ah : Bool) (a1 : ByteArray) (r1 : Bool) (r2 : ByteArray) (r3 : ByteArray) (r4 : ByteArray) (r5 : ByteArray) (r6 : ByteArray) (r7 : Bool) (r8 : Bool) (r9 : Bool) (w0 w : World) (hI : IsS23 w0 w g Aa Ab Ac Ad Ae Af Ag Ah) (hB : Below w0.heap.size w0 w) (hG : GW w0) (h : fO Aa Ab Ac Ad Ae Af Ag Ah a1 = some (r1, r2, r3, r4, r5, r6, r7, r8, r9)) :
    Calls Tryd.prog 19 #[.pointer (some ⟨g, 0, none⟩), .string a1] w fun e w' => e = .returned (.bool r1) ∧ IsS23 w0 w' g r2 r3 r4 r5 r6 r7 r8 r9 ∧ Below w0.heap.size w0 w' ∧ KeepBut w w' g none := by
 have HI0 := Zz.mk hI
 have HK := Zz.mk (KeepBut.refl w g none)
 have HL := Zz.mk hB.size
 clear hI
 have HW0 := Zz.mk hB.size
 have HB := Zz.mk hB
 clear hB
 have H := h
 clear h
 unfold fO at H
 replace H := xbd H
 obtain ⟨⟨Ai, Aj⟩, A3, H⟩ := H
 try dsimp only at H
 refine xib H ?_ ?_ <;> clear H <;> rintro rfl H
 {
 replace H := xbd H
 obtain ⟨⟨Ak, Al, Am⟩, A5, H⟩ := H
 try dsimp only at H
 replace H := xbd H
 obtain ⟨An, A6, H⟩ := H
 try dsimp only at H
 refine xib H ?_ ?_ <;> clear H <;> rintro rfl H
 {
 refine xib H ?_ ?_ <;> clear H <;> rintro rfl H
 {
 replace H := xbd H
 obtain ⟨Ao, A9, H⟩ := H
 try dsimp only at H
 simp only [Option.some.injEq, Prod.mk.injEq] at H
 obtain ⟨rfl, rfl, rfl, rfl, rfl, rfl, rfl, rfl, rfl⟩ := H
 go_enter Tryd.func19, Tryd.ntmps19
 go_wp2_with (first | ((with_reducible refine xgc (f := 33) rfl ?_); refine xca 9 Tryd.func33 (bz (w := _) (h := A3.out)) ?_; rintro w' ⟨nd, rfl⟩; have Ap := xz8 HI0.out.1) | ((with_reducible refine xgc (f := 16) rfl ?_); refine xca 21 Tryd.func16 (bh (w := _) (hG := kw) (h := A5.out)) ?_; rintro w' ⟨nd, rfl⟩) | ((with_reducible refine xgc (f := 34) rfl ?_); refine xca 35 Tryd.func34 (d8 (w := _) (h := A6.out)) ?_; rintro w' ⟨nd, rfl⟩) | (go_at_call 34; (with_reducible refine (d8 (w := _) (h := A9.out)).mono ?_); rintro e w' ⟨rfl, ⟨nd, rfl⟩⟩))
 go_ret
 exact ⟨xre, gu, fg, xk⟩
 }
 simp only [Option.some.injEq, Prod.mk.injEq] at H
 obtain ⟨rfl, rfl, rfl, rfl, rfl, rfl, rfl, rfl, rfl⟩ := H
 go_enter Tryd.func19, Tryd.ntmps19
 go_wp2_with (first | ((with_reducible refine xgc (f := 33) rfl ?_); refine xca 9 Tryd.func33 (bz (w := _) (h := A3.out)) ?_; rintro w' ⟨nd, rfl⟩; have Aq := xz8 HI0.out.1) | ((with_reducible refine xgc (f := 16) rfl ?_); refine xca 21 Tryd.func16 (bh (w := _) (hG := kw) (h := A5.out)) ?_; rintro w' ⟨nd, rfl⟩) | ((with_reducible refine xgc (f := 34) rfl ?_); refine xca 35 Tryd.func34 (d8 (w := _) (h := A6.out)) ?_; rintro w' ⟨nd, rfl⟩))
 go_ret
 exact ⟨xre, gu, fg, xk⟩
 }
 simp only [Option.some.injEq, Prod.mk.injEq] at H
 obtain ⟨rfl, rfl, rfl, rfl, rfl, rfl, rfl, rfl, rfl⟩ := H
 go_enter Tryd.func19, Tryd.ntmps19
 go_wp2_with (first | ((with_reducible refine xgc (f := 33) rfl ?_); refine xca 9 Tryd.func33 (bz (w := _) (h := A3.out)) ?_; rintro w' ⟨nd, rfl⟩; have Ar := xz8 HI0.out.1) | ((with_reducible refine xgc (f := 16) rfl ?_); refine xca 21 Tryd.func16 (bh (w := _) (hG := kw) (h := A5.out)) ?_; rintro w' ⟨nd, rfl⟩) | ((with_reducible refine xgc (f := 34) rfl ?_); refine xca 35 Tryd.func34 (d8 (w := _) (h := A6.out)) ?_; rintro w' ⟨nd, rfl⟩))
 go_ret
 exact ⟨xre, gu, fg, xk⟩
 }
 replace H := xbd H
 obtain ⟨⟨As, At⟩, A13, H⟩ := H
 try dsimp only at H
 refine xib H ?_ ?_ <;> clear H <;> rintro rfl H
 {
 replace H := xbd H
 obtain ⟨Au, A15, H⟩ := H
 try dsimp only at H
 simp only [Option.some.injEq, Prod.mk.injEq] at H
 obtain ⟨rfl, rfl, rfl, rfl, rfl, rfl, rfl, rfl, rfl⟩ := H
 go_enter Tryd.func19, Tryd.ntmps19
 go_wp2_with (first | ((with_reducible refine xgc (f := 33) rfl ?_); refine xca 9 Tryd.func33 (bz (w := _) (h := A3.out)) ?_; rintro w' ⟨nd, rfl⟩) | ((with_reducible refine xgc (f := 33) rfl ?_); refine xca 41 Tryd.func33 (bz (w := _) (h := A13.out)) ?_; rintro w' ⟨nd, rfl⟩; have Av := xz8 HI0.out.1) | (go_at_call 34; (with_reducible refine (d8 (w := _) (h := A15.out)).mono ?_); rintro e w' ⟨rfl, ⟨nd, rfl⟩⟩))
 go_ret
 exact ⟨xre, gu, fg, xk⟩
 }
 simp only [Option.some.injEq, Prod.mk.injEq] at H
 obtain ⟨rfl, rfl, rfl, rfl, rfl, rfl, rfl, rfl, rfl⟩ := H
 go_enter Tryd.func19, Tryd.ntmps19
 go_wp2_with (first | ((with_reducible refine xgc (f := 33) rfl ?_); refine xca 9 Tryd.func33 (bz (w := _) (h := A3.out)) ?_; rintro w' ⟨nd, rfl⟩) | ((with_reducible refine xgc (f := 33) rfl ?_); refine xca 41 Tryd.func33 (bz (w := _) (h := A13.out)) ?_; rintro w' ⟨nd, rfl⟩; have Aw := xz8 HI0.out.1))
 go_ret
 exact ⟨xre, gu, fg, xk⟩
def bW : Nat → Bool → ByteArray → Bool → ByteArray → ByteArray → Bool → ByteArray → Bool → ByteArray → ByteArray → ByteArray → ByteArray → ByteArray → ByteArray → Bool → Bool → Bool → Option (ByteArray × ByteArray × ByteArray × ByteArray × ByteArray × Bool × Bool × Bool × Int)
  | 0, _, _, _, _, _, _, _, _, _, _, _, _, _, _, _, _, _ => none
  | k + 1, Ar, An, Ao, Ap, Aq, Aj, Ak, Ab, Ac, Ad, Ae, Af, Ag, Al, Ah, Ai, Am => if Ar = true then (some ((⟨#[]⟩ : ByteArray), (⟨#[]⟩ : ByteArray), (⟨#[]⟩ : ByteArray), (⟨#[]⟩ : ByteArray), (⟨#[]⟩ : ByteArray), false, false, false, 9)) else (if Aj = true then ((fO Ad Ae Af Ag Al Ah Ai Am Ak).bind fun Aa => (if Aa.1 = true then (some (Aa.2.1, Aa.2.2.1, Aa.2.2.2.1, Aa.2.2.2.2.1, Ac, Aa.2.2.2.2.2.2.1, Aa.2.2.2.2.2.2.2.1, Ab, 0)) else (some ((⟨#[]⟩ : ByteArray), (⟨#[]⟩ : ByteArray), (⟨#[]⟩ : ByteArray), (⟨#[]⟩ : ByteArray), (⟨#[]⟩ : ByteArray), false, false, false, 9)))) else (some (Ad, Ae, Af, Ag, Ac, Ah, Ai, Ab, 0)))
def dU (k : Nat) (a0 : ByteArray) : Option (ByteArray × ByteArray × ByteArray × ByteArray × ByteArray × Bool × Bool × Bool × Int) := (dX k 1 a0).bind fun Aa => (if Aa.2.2.2.2.2.2.2.2 = 0 then ((bQ Aa.2.2.2.1 (⟨#[58]⟩ : ByteArray)).bind fun Ab => (if Ab.2.2 = true then (if Aa.2.1 = true then (bW k true Aa.1 Aa.2.1 Aa.2.2.1 Aa.2.2.2.1 Aa.2.2.2.2.1 Aa.2.2.2.2.2.1 Aa.2.2.2.2.2.2.1 Aa.2.2.2.2.2.2.2.1 Ab.1 Ab.2.1 (⟨#[]⟩ : ByteArray) (⟨#[]⟩ : ByteArray) (⟨#[]⟩ : ByteArray) false false false) else ((eF k Aa.1 (⟨#[117, 114, 110]⟩ : ByteArray)).bind fun Ac => (if Ac = true then ((e9 k Ab.1).bind fun Ad => (if Ad = true then (if Ab.2.1.toList = ([] : List UInt8) then (bW k true Aa.1 Aa.2.1 Aa.2.2.1 Aa.2.2.2.1 Aa.2.2.2.2.1 Aa.2.2.2.2.2.1 Aa.2.2.2.2.2.2.1 Aa.2.2.2.2.2.2.2.1 Ab.1 Ab.2.1 (⟨#[]⟩ : ByteArray) (⟨#[]⟩ : ByteArray) (⟨#[]⟩ : ByteArray) false false false) else (if 0 < (Ab.2.1.size : Int) then (bW k ((bt Ab.2.1 0) == 47) Aa.1 Aa.2.1 Aa.2.2.1 Aa.2.2.2.1 Aa.2.2.2.2.1 Aa.2.2.2.2.2.1 Aa.2.2.2.2.2.2.1 Aa.2.2.2.2.2.2.2.1 Ab.1 Ab.2.1 (⟨#[]⟩ : ByteArray) (⟨#[]⟩ : ByteArray) (⟨#[]⟩ : ByteArray) false false false) else (none))) else (bW k true Aa.1 Aa.2.1 Aa.2.2.1 Aa.2.2.2.1 Aa.2.2.2.2.1 Aa.2.2.2.2.2.1 Aa.2.2.2.2.2.2.1 Aa.2.2.2.2.2.2.2.1 Ab.1 Ab.2.1 (⟨#[]⟩ : ByteArray) (⟨#[]⟩ : ByteArray) (⟨#[]⟩ : ByteArray) false false false))) else (bW k true Aa.1 Aa.2.1 Aa.2.2.1 Aa.2.2.2.1 Aa.2.2.2.2.1 Aa.2.2.2.2.2.1 Aa.2.2.2.2.2.2.1 Aa.2.2.2.2.2.2.2.1 Ab.1 Ab.2.1 (⟨#[]⟩ : ByteArray) (⟨#[]⟩ : ByteArray) (⟨#[]⟩ : ByteArray) false false false)))) else (bW k true Aa.1 Aa.2.1 Aa.2.2.1 Aa.2.2.2.1 Aa.2.2.2.2.1 Aa.2.2.2.2.2.1 Aa.2.2.2.2.2.2.1 Aa.2.2.2.2.2.2.2.1 Ab.1 Ab.2.1 (⟨#[]⟩ : ByteArray) (⟨#[]⟩ : ByteArray) (⟨#[]⟩ : ByteArray) false false false))) else (some ((⟨#[]⟩ : ByteArray), (⟨#[]⟩ : ByteArray), (⟨#[]⟩ : ByteArray), (⟨#[]⟩ : ByteArray), (⟨#[]⟩ : ByteArray), false, false, false, Aa.2.2.2.2.2.2.2.2)))
theorem im : ∀ k, (∀ y0 y1 y2 y3 y4 y5 y6 y7 y8 y9 Aa Ab Ac Ad Ae Af Ag, LeO (bW k y0 y1 y2 y3 y4 y5 y6 y7 y8 y9 Aa Ab Ac Ad Ae Af Ag) (bW (k + 1) y0 y1 y2 y3 y4 y5 y6 y7 y8 y9 Aa Ab Ac Ad Ae Af Ag))
  | 0 => fun _ _ _ _ _ _ _ _ _ _ _ _ _ _ _ _ _ r h => by simp [bW] at h
  | k + 1 => by
    have ih0 := im k
    have m0 := @iE; have m1 := @g7; have m2 := @i5
    · intro y0 y1 y2 y3 y4 y5 y6 y7 y8 y9 Aa Ab Ac Ad Ae Af Ag
      unfold bW
      exact xmo
theorem i4 : ∀ a0 k, LeO (dU k a0) (dU (k + 1) a0) := by
  intro a0 k
  have ih0 := im k
  have m0 := @iE; have m1 := @g7; have m2 := @i5
  unfold dU
  exact xmo
theorem i9 {α : Type} {f : α → Prop} {x : α} (h : ∀ y, y = x → f y) : f x := h x rfl
theorem co (k : Nat) (a0 : ByteArray) (r1 : ByteArray) (r2 : ByteArray) (r3 : ByteArray) (r4 : ByteArray) (r5 : ByteArray) (r6 : Bool) (r7 : Bool) (r8 : Bool) (r9 : Int) (w : World) (hG : GW w) (h : dU k a0 = some (r1, r2, r3, r4, r5, r6, r7, r8, r9)) :
    Calls Tryd.prog 9 #[.string a0] w fun e w' => e = .returned (.tuple #[.agg #[.string r1, .string r2, .string r3, .string r4, .string r5, .bool r6, .bool r7, .bool r8], .int .i64 r9]) ∧ Below w.heap.size w w' := by
 have hu23 := Tryd.underlying23
 have hu37 := Tryd.underlying37
 have HB := Zz.mk (Below.refl w.heap.size w)
 have H := h
 clear h
 unfold dU at H
 replace H := xbd H
 obtain ⟨⟨Ap, Aq, Ar, As, Au, At, Al, Am, BM⟩, A2, H⟩ := H
 try dsimp only at H
 refine xid H ?_ ?_ <;> clear H <;> intro c3 H
 {
 obtain ⟨Az, AA⟩ := xqe c3
 clear c3
 replace H := xbd H
 obtain ⟨⟨Ay, An, BN⟩, A4, H⟩ := H
 try dsimp only at H
 have AI := Zz.mk H
 clear H
 go_enter Tryd.func9, Tryd.ntmps9
 go_upto_region 2 with (first | ((with_reducible refine af (N := 2) rfl ?_); refine xew 2 ?_; intro Ag w6 Af AB hb hg; replace HB := xst hb; clear hb hg) | ((with_reducible refine xgc (f := 15) rfl ?_); refine xca 10 Tryd.func15 (gR (w := _) (hG := xG) (h := A2.out)) ?_; rintro w7 hb; replace Af := xbq Ag hb; replace HB := xst hb; (try clear hb)) | ((with_reducible refine af (N := 4) rfl ?_); refine xew 4 ?_; intro Ak w8 Ac AC hb hg; have Ad := xlt (g := Ag) hg; have Ae := xgt (g := Ag) hg; replace Af := xbq Ag hb; replace HB := xst hb; clear hb hg; have BO := Ae.out; have BP := Ad.out; have AD := xz8 Ac.out))
 (try simp only [Act.put, List.setIfInBounds_toArray, List.set_cons_zero, List.set_cons_succ])
 refine i9 ?_; intro wz_ hwz_
 have nb_ : Zz (wz_.heap[Ak]? = some (.cells #[.string Ap, .bool Aq, .string Ar, .string As, .bool Au, .string At, .bool Al, .string Am] 37 (0, 0))) := ⟨by rw [hwz_]; exact xbK⟩
 have nc0_ : Zz (wz_.heap[Ag]? = some (.cells #[.string (⟨#[]⟩ : ByteArray), .string (⟨#[]⟩ : ByteArray), .string (⟨#[]⟩ : ByteArray), .string (⟨#[]⟩ : ByteArray), .string (⟨#[]⟩ : ByteArray), .bool false, .bool false, .bool false] 23 (0, 0))) := ⟨by rw [hwz_]; exact xbK⟩
 have ne_ : Zz (Below w.heap.size w wz_) := ⟨by rw [hwz_]; exact xbl⟩
 clear hwz_ AD
 replace Ac := nb_; replace Af := nc0_; replace HB := ne_; clear nb_ ne_ nc0_
 have AD := xz8 Ac.out
 go_upto_region 7 with (first | ((with_reducible refine af (N := 6) rfl ?_); refine xev 6 #[.string (⟨#[]⟩ : ByteArray), .string (⟨#[]⟩ : ByteArray), .string (⟨#[]⟩ : ByteArray), .string (⟨#[]⟩ : ByteArray), .string (⟨#[]⟩ : ByteArray), .bool false, .bool false, .bool false] 23 ?_; intro Ab hg w11 hbox hb; have AE := xsz hg; have AS := AE; have Ai := xlt (g := Ag) hg; have Aj := xgt (g := Ag) hg; have Aa := xlt (g := Ak) hg; have Ah := xgt (g := Ak) hg; have HI535 := Zz.mk ((show IsS23 w w11 Ab (⟨#[]⟩ : ByteArray) (⟨#[]⟩ : ByteArray) (⟨#[]⟩ : ByteArray) (⟨#[]⟩ : ByteArray) (⟨#[]⟩ : ByteArray) false false false from ⟨hbox, (by rw [hg]; exact (aD xbl) : w.heap.size ≤ Ab)⟩)); replace Af := xbq Ag hb; replace Ac := xbb (g := Ak) (o := .cells #[.string Ap, .bool Aq, .string Ar, .string As, .bool Au, .string At, .bool Al, .string Am] 37 (0, 0)) hb; replace HB := xst hb; clear hb hbox hg; have AT := Aa.out; have AU := Ah.out; have BQ := xz8 Ac.out) | ((with_reducible refine xgc (f := 16) rfl ?_); refine xca 20 Tryd.func16 (bh (w := _) (hG := kw) (h := A4.out)) ?_; rintro w' ⟨nd, rfl⟩; (try (rw [aG w11]; generalize hq_ : World.drewN w11 _ = w11; have n0_ := xbr Ag hq_; have n1_ := xbr Ak hq_; have n2_ : Zz (IsS23 w w11 Ab (⟨#[]⟩ : ByteArray) (⟨#[]⟩ : ByteArray) (⟨#[]⟩ : ByteArray) (⟨#[]⟩ : ByteArray) (⟨#[]⟩ : ByteArray) false false false) := ⟨by rw [← hq_]; exact gu⟩; have n3_ : Zz (Below w.heap.size w w11) := ⟨by rw [← hq_]; exact fg⟩; clear Af Ac HI535 HB hq_; have Af := n0_; have Ac := n1_; have HI535 := n2_; have HB := n3_; clear n0_ n1_ n2_ n3_)); have BR := xz8 HI535.out.1))
 (try simp only [Act.put, xl1, xl2, xl3])
 go_cut [54] (fun v54 wc => ∃ kq Av, v54 = .bool Av ∧ Zz (bW kq Av Ap Aq Ar As Au At Al Am Ay An (⟨#[]⟩ : ByteArray) (⟨#[]⟩ : ByteArray) (⟨#[]⟩ : ByteArray) false false false = some (r1, r2, r3, r4, r5, r6, r7, r8, r9)) ∧ Zz (kq ≤ k) ∧ Zz (wc.heap[Ag]? = some (.cells #[.string (⟨#[]⟩ : ByteArray), .string (⟨#[]⟩ : ByteArray), .string (⟨#[]⟩ : ByteArray), .string (⟨#[]⟩ : ByteArray), .string (⟨#[]⟩ : ByteArray), .bool false, .bool false, .bool false] 23 (0, 0))) ∧ Zz (wc.heap[Ak]? = some (.cells #[.string Ap, .bool Aq, .string Ar, .string As, .bool Au, .string At, .bool Al, .string Am] 37 (0, 0))) ∧ Zz (IsS23 w wc Ab Ay An (⟨#[]⟩ : ByteArray) (⟨#[]⟩ : ByteArray) (⟨#[]⟩ : ByteArray) false false false) ∧ Zz (Below w.heap.size w wc))
 case first => (
 have H := AI.out
 clear AI
 refine xib H ?_ ?_ <;> clear H <;> rintro rfl H
 {
 refine xib H ?_ ?_ <;> clear H <;> rintro rfl H
 {
 replace H := xa H
 have AV := Ae.out
 have AW := Ad.out
 have AX := Aa.out
 have AY := Ah.out
 have BS := xz8 Ac.out
 go_wp2
 go_meet
 case rel => exact ⟨_, (true), xrr, H, ⟨xom⟩, ⟨xbK⟩, ⟨xbK⟩, ⟨gu⟩, ⟨fg⟩⟩
 }
 replace H := xbd H
 obtain ⟨BT, A20, H⟩ := H
 try dsimp only at H
 refine xib H ?_ ?_ <;> clear H <;> rintro rfl H
 {
 replace H := xbd H
 obtain ⟨BU, A22, H⟩ := H
 try dsimp only at H
 refine xib H ?_ ?_ <;> clear H <;> rintro rfl H
 {
 refine xid H ?_ ?_ <;> clear H <;> intro c24 H
 {
 obtain ⟨Ao, Aw⟩ := xqe c24
 (try (have Ax : An.toList.isEmpty = true := by first | (simp; done) | simpa using c24))
 clear c24
 (first | rw [Ao] | (simp only [an, au]; rw [Ao]) | (rw [Ax]; (try simp only [Bool.not_false, Bool.not_true])) | (rw [AF]; (try simp only [Bool.not_false, Bool.not_true])) | rw [Aw] | skip)
 replace H := xa H
 have AZ := Ae.out
 have A0 := Ad.out
 have A1 := Aa.out
 have A3 := Ah.out
 have BV := xz8 Ac.out
 go_wp2_with (first | (go_at_call 17; (with_reducible refine (eT (w := _) (h := A20.out)).mono ?_); rintro e w' ⟨rfl, ⟨nd, rfl⟩⟩; have BW := xz8 HI535.out.1) | (go_at_call 18; (with_reducible refine (gp (w := _) (h := A22.out)).mono ?_); rintro e w' ⟨rfl, ⟨nd, rfl⟩⟩))
 go_meet
 case rel => exact ⟨_, (true), xrr, H, ⟨xom⟩, ⟨xbK⟩, ⟨xbK⟩, ⟨gu⟩, ⟨fg⟩⟩
 }
 obtain ⟨Ao, Aw⟩ := xqn c24
 (try (have Ax : An.toList.isEmpty = false := by first | (simp; done) | simpa using c24))
 (first | rw [Ao] | (simp only [an, au]; rw [Ao]) | (rw [Ax]; (try simp only [Bool.not_false, Bool.not_true])) | (rw [AF]; (try simp only [Bool.not_false, Bool.not_true])) | rw [Aw] | skip)
 refine xin H ?_; clear H; intro c29 H
 have A5 := xdt c29
 have A6 : decide (0 < An.size) = true := decide_eq_true (by omega)
 clear c29
 replace H := xa H
 have A7 := Ae.out
 have A8 := Ad.out
 have A9 := Aa.out
 have Ba := Ah.out
 have BX := xz8 Ac.out
 go_wp2_with (first | (go_at_call 17; (with_reducible refine (eT (w := _) (h := A20.out)).mono ?_); rintro e w' ⟨rfl, ⟨nd, rfl⟩⟩; have BY := xz8 HI535.out.1) | (go_at_call 18; (with_reducible refine (gp (w := _) (h := A22.out)).mono ?_); rintro e w' ⟨rfl, ⟨nd, rfl⟩⟩; obtain ⟨q30, AJ, hx30⟩ := xi0 An xod))
 go_meet
 case rel => exact ⟨_, (((bt An 0) == 47)), xrr, H, ⟨xom⟩, ⟨xbK⟩, ⟨xbK⟩, ⟨gu⟩, ⟨fg⟩⟩
 }
 replace H := xa H
 have Bb := Ae.out
 have Bc := Ad.out
 have Bd := Aa.out
 have Be := Ah.out
 have BZ := xz8 Ac.out
 go_wp2_with (first | (go_at_call 17; (with_reducible refine (eT (w := _) (h := A20.out)).mono ?_); rintro e w' ⟨rfl, ⟨nd, rfl⟩⟩; have B0 := xz8 HI535.out.1) | (go_at_call 18; (with_reducible refine (gp (w := _) (h := A22.out)).mono ?_); rintro e w' ⟨rfl, ⟨nd, rfl⟩⟩))
 go_meet
 case rel => exact ⟨_, (true), xrr, H, ⟨xom⟩, ⟨xbK⟩, ⟨xbK⟩, ⟨gu⟩, ⟨fg⟩⟩
 }
 replace H := xa H
 have Bf := Ae.out
 have Bg := Ad.out
 have Bh := Aa.out
 have Bi := Ah.out
 have B1 := xz8 Ac.out
 go_wp2_with (first | (go_at_call 17; (with_reducible refine (eT (w := _) (h := A20.out)).mono ?_); rintro e w' ⟨rfl, ⟨nd, rfl⟩⟩))
 go_meet
 case rel => exact ⟨_, (true), xrr, H, ⟨xom⟩, ⟨xbK⟩, ⟨xbK⟩, ⟨gu⟩, ⟨fg⟩⟩
 }
 replace H := xa H
 go_wp2
 go_meet
 case rel => exact ⟨_, (true), xrr, H, ⟨xom⟩, ⟨xbK⟩, ⟨xbK⟩, ⟨gu⟩, ⟨fg⟩⟩
 )
 case rest => (
 clear AI
 clear Az AA
 try clear p30
 try clear q30
 try clear hx30
 try clear AJ
 obtain ⟨kq, Av, rfl, HA, HJ4, Af, Ac, HI535, HB⟩ := hcut
 cases kq with
 | zero => exact absurd HA.out (by simp [bW])
 | succ kj4 => (
 have H := HA.out
 clear HA
 simp only [bW] at H
 refine xib H ?_ ?_ <;> clear H <;> rintro rfl H
 {
 simp only [Option.some.injEq, Prod.mk.injEq] at H
 obtain ⟨rfl, rfl, rfl, rfl, rfl, rfl, rfl, rfl, rfl⟩ := H
 have Bj := Ad.out
 have Bk := Ae.out
 have Bl := Ai.out
 have Bm := Aj.out
 have B2 := xz8 Af.out
 go_wp2
 refine bodyPost_ret (av rfl _ _ Ag 23 #[.string (⟨#[]⟩ : ByteArray), .string (⟨#[]⟩ : ByteArray), .string (⟨#[]⟩ : ByteArray), .string (⟨#[]⟩ : ByteArray), .string (⟨#[]⟩ : ByteArray), .bool false, .bool false, .bool false] (0, 0) _ rfl xbk Tryd.underlying23 rfl (by kernel_rfl)) rfl ?_
 exact ⟨xre, fg⟩
 }
 refine xib H ?_ ?_ <;> clear H <;> rintro rfl H
 {
 replace H := xbd H
 obtain ⟨⟨B3, AK, AL, AM, AN, AO, AP, AQ, AR⟩, A47, H⟩ := H
 try dsimp only at H
 refine xib H ?_ ?_ <;> clear H <;> rintro rfl H
 {
 simp only [Option.some.injEq, Prod.mk.injEq] at H
 obtain ⟨rfl, rfl, rfl, rfl, rfl, rfl, rfl, rfl, rfl⟩ := H
 have Bn := Ae.out
 have Bo := Ad.out
 have Bp := Aa.out
 have Bq := Ah.out
 have B4 := xz8 Ac.out
 try go_wp2_with (first | (go_at_call 19; (with_reducible refine (gf (w := _) (hI := gu) (hB := fg) (hG := kw) (h := A47.out)).mono ?_); rintro e w52 ⟨rfl, hi, hb, hk⟩; replace Af := aW Ag hk Ai; replace Ac := Zz.mk (KeepBut.blk hk (g' := Ak) (o := .cells #[.string Ap, .bool Aq, .string Ar, .string As, .bool true, .string At, .bool Al, .string Am] 37 (0, 0)) xbk Aa.out (by simp)); replace HB := Zz.mk (hb); replace HI535 := Zz.mk (hi); (try clear hb)))
 replace Af := Zz.mk (bg Af.out)
 replace Ac := Zz.mk (bg Ac.out)
 replace HI535 := Zz.mk (IsS23.drew HI535.out)
 replace HB := Zz.mk (aw HB.out)
 refine xsr 8 [] (xs8 Ac.out) (fun hHeld => ?_)
 generalize w52.drew = w53 at Af Ac HI535 HB hHeld ⊢
 refine xpu 0 65 ?_
 refine xpu 2 67 ?_
 refine xtk 1 66 ?_
 refine xpu 4 69 ?_
 refine xtk 3 68 ?_
 refine fv (i := 5) (N := none) #[true, true, true, true, true, true, false, false] rfl rfl (e4 rfl (by kernel_rfl)) (by decide) (fun K hK => ?_)
 have hs54 : w53.cell? ⟨Ab, 4, none⟩ = some (.string AO) := (ab HI535.out.1 4).trans rfl
 have Br := b6 HI535.out.1 4
 refine fU (w1 := ?_) (by rfl) rfl ?_ ?_
 rotate_left
 {
 go_simp
 rfl
 }
 refine hK.out _ _ ⟨((aa (p := ⟨Ab, _, none⟩) Aa.out _).trans (hHeld.1)), ((aa (p := ⟨Ab, _, none⟩) Aa.out _).trans (hHeld.2.1)), ((aa (p := ⟨Ab, _, none⟩) Aa.out _).trans (hHeld.2.2.1)), ((aa (p := ⟨Ab, _, none⟩) Aa.out _).trans (hHeld.2.2.2.1)), ((aa (p := ⟨Ab, _, none⟩) Aa.out _).trans (hHeld.2.2.2.2.1)), ((aa (p := ⟨Ab, _, none⟩) Aa.out _).trans (hHeld.2.2.2.2.2.1)), ((aa (p := ⟨Ab, _, none⟩) Aa.out _).trans (hHeld.2.2.2.2.2.2.1)), ((aa (p := ⟨Ab, _, none⟩) Aa.out _).trans (hHeld.2.2.2.2.2.2.2))⟩ (fun hHeld => ?_)
 clear hK K
 refine xpu 6 70 ?_
 refine fv (i := 7) (N := none) #[true, true, true, true, true, true, true, true] rfl rfl (e4 rfl (by kernel_rfl)) (by decide) (fun K hK => ?_)
 have hs55 : w53.cell? ⟨Ab, 7, none⟩ = some (.bool AR) := (ab HI535.out.1 7).trans rfl
 have Bs := b6 HI535.out.1 7
 refine fU (w1 := ?_) (by rfl) rfl ?_ ?_
 rotate_left
 {
 go_simp
 rfl
 }
 refine hK.out _ _ ⟨((aa (p := ⟨Ab, _, none⟩) Aa.out _).trans (hHeld.1)), ((aa (p := ⟨Ab, _, none⟩) Aa.out _).trans (hHeld.2.1)), ((aa (p := ⟨Ab, _, none⟩) Aa.out _).trans (hHeld.2.2.1)), ((aa (p := ⟨Ab, _, none⟩) Aa.out _).trans (hHeld.2.2.2.1)), ((aa (p := ⟨Ab, _, none⟩) Aa.out _).trans (hHeld.2.2.2.2.1)), ((aa (p := ⟨Ab, _, none⟩) Aa.out _).trans (hHeld.2.2.2.2.2.1)), ((aa (p := ⟨Ab, _, none⟩) Aa.out _).trans (hHeld.2.2.2.2.2.2.1)), ((aa (p := ⟨Ab, _, none⟩) Aa.out _).trans (hHeld.2.2.2.2.2.2.2))⟩ (fun hHeld => ?_)
 clear hK K
 refine xdn ?_
 have B5 := xz8 HI535.out.1
 have Bt := Ai.out
 have Bu := Aj.out
 have B6 := xz8 Af.out
 try go_wp2
 refine bodyPost_ret (av rfl _ _ Ag 23 #[.string AK, .string AL, .string AM, .string AN, .string Am, .bool AP, .bool AQ, .bool Al] (0, 0) _ rfl xbk Tryd.underlying23 rfl (by kernel_rfl)) rfl ?_
 exact ⟨xre, fg⟩
 }
 simp only [Option.some.injEq, Prod.mk.injEq] at H
 obtain ⟨rfl, rfl, rfl, rfl, rfl, rfl, rfl, rfl, rfl⟩ := H
 have Bv := Ae.out
 have Bw := Ad.out
 have Bx := Aa.out
 have By := Ah.out
 have B7 := xz8 Ac.out
 go_wp2_with (first | (go_at_call 19; (with_reducible refine (gf (w := _) (hI := gu) (hB := fg) (hG := kw) (h := A47.out)).mono ?_); rintro e w62 ⟨rfl, hi, hb, hk⟩; replace Af := aW Ag hk Ai; replace Ac := Zz.mk (KeepBut.blk hk (g' := Ak) (o := .cells #[.string Ap, .bool Aq, .string Ar, .string As, .bool true, .string At, .bool Al, .string Am] 37 (0, 0)) xbk Aa.out (by simp)); replace HB := Zz.mk (hb); replace HI535 := Zz.mk (hi); (try clear hb); have Bz := Ai.out; have BA := Aj.out; have B8 := xz8 Af.out))
 refine bodyPost_ret (av rfl _ _ Ag 23 #[.string (⟨#[]⟩ : ByteArray), .string (⟨#[]⟩ : ByteArray), .string (⟨#[]⟩ : ByteArray), .string (⟨#[]⟩ : ByteArray), .string (⟨#[]⟩ : ByteArray), .bool false, .bool false, .bool false] (0, 0) _ rfl xbk Tryd.underlying23 rfl (by kernel_rfl)) rfl ?_
 exact ⟨xre, fg⟩
 }
 simp only [Option.some.injEq, Prod.mk.injEq] at H
 obtain ⟨rfl, rfl, rfl, rfl, rfl, rfl, rfl, rfl, rfl⟩ := H
 have BB := Ae.out
 have BC := Ad.out
 have BD := Aa.out
 have BE := Ah.out
 have B9 := xz8 Ac.out
 try go_wp2
 replace Af := Zz.mk (bg Af.out)
 replace Ac := Zz.mk (bg Ac.out)
 replace HI535 := Zz.mk (IsS23.drew HI535.out)
 replace HB := Zz.mk (aw HB.out)
 refine xsr 8 [] (xs8 Ac.out) (fun hHeld => ?_)
 generalize wc.drew = w68 at Af Ac HI535 HB hHeld ⊢
 refine xpu 0 65 ?_
 refine xpu 2 67 ?_
 refine xtk 1 66 ?_
 refine xpu 4 69 ?_
 refine xtk 3 68 ?_
 refine fv (i := 5) (N := none) #[true, true, true, true, true, true, false, false] rfl rfl (e4 rfl (by kernel_rfl)) (by decide) (fun K hK => ?_)
 have hs69 : w68.cell? ⟨Ab, 4, none⟩ = some (.string (⟨#[]⟩ : ByteArray)) := (ab HI535.out.1 4).trans rfl
 have BF := b6 HI535.out.1 4
 refine fU (w1 := ?_) (by rfl) rfl ?_ ?_
 rotate_left
 {
 go_simp
 rfl
 }
 refine hK.out _ _ ⟨((aa (p := ⟨Ab, _, none⟩) Aa.out _).trans (hHeld.1)), ((aa (p := ⟨Ab, _, none⟩) Aa.out _).trans (hHeld.2.1)), ((aa (p := ⟨Ab, _, none⟩) Aa.out _).trans (hHeld.2.2.1)), ((aa (p := ⟨Ab, _, none⟩) Aa.out _).trans (hHeld.2.2.2.1)), ((aa (p := ⟨Ab, _, none⟩) Aa.out _).trans (hHeld.2.2.2.2.1)), ((aa (p := ⟨Ab, _, none⟩) Aa.out _).trans (hHeld.2.2.2.2.2.1)), ((aa (p := ⟨Ab, _, none⟩) Aa.out _).trans (hHeld.2.2.2.2.2.2.1)), ((aa (p := ⟨Ab, _, none⟩) Aa.out _).trans (hHeld.2.2.2.2.2.2.2))⟩ (fun hHeld => ?_)
 clear hK K
 refine xpu 6 70 ?_
 refine fv (i := 7) (N := none) #[true, true, true, true, true, true, true, true] rfl rfl (e4 rfl (by kernel_rfl)) (by decide) (fun K hK => ?_)
 have hs70 : w68.cell? ⟨Ab, 7, none⟩ = some (.bool false) := (ab HI535.out.1 7).trans rfl
 have BG := b6 HI535.out.1 7
 refine fU (w1 := ?_) (by rfl) rfl ?_ ?_
 rotate_left
 {
 go_simp
 rfl
 }
 refine hK.out _ _ ⟨((aa (p := ⟨Ab, _, none⟩) Aa.out _).trans (hHeld.1)), ((aa (p := ⟨Ab, _, none⟩) Aa.out _).trans (hHeld.2.1)), ((aa (p := ⟨Ab, _, none⟩) Aa.out _).trans (hHeld.2.2.1)), ((aa (p := ⟨Ab, _, none⟩) Aa.out _).trans (hHeld.2.2.2.1)), ((aa (p := ⟨Ab, _, none⟩) Aa.out _).trans (hHeld.2.2.2.2.1)), ((aa (p := ⟨Ab, _, none⟩) Aa.out _).trans (hHeld.2.2.2.2.2.1)), ((aa (p := ⟨Ab, _, none⟩) Aa.out _).trans (hHeld.2.2.2.2.2.2.1)), ((aa (p := ⟨Ab, _, none⟩) Aa.out _).trans (hHeld.2.2.2.2.2.2.2))⟩ (fun hHeld => ?_)
 clear hK K
 refine xdn ?_
 have Ca := xz8 HI535.out.1
 have BH := Ai.out
 have BI := Aj.out
 have Cb := xz8 Af.out
 try go_wp2
 refine bodyPost_ret (av rfl _ _ Ag 23 #[.string Ay, .string An, .string (⟨#[]⟩ : ByteArray), .string (⟨#[]⟩ : ByteArray), .string Am, .bool false, .bool false, .bool Al] (0, 0) _ rfl xbk Tryd.underlying23 rfl (by kernel_rfl)) rfl ?_
 exact ⟨xre, fg⟩
 )
 )
 }
 obtain ⟨Az, AA⟩ := xqn c3
 simp only [Option.some.injEq, Prod.mk.injEq] at H
 obtain ⟨rfl, rfl, rfl, rfl, rfl, rfl, rfl, rfl, rfl⟩ := H
 go_enter Tryd.func9, Tryd.ntmps9
 go_upto_region 2 with (first | ((with_reducible refine af (N := 2) rfl ?_); refine xew 2 ?_; intro Ag w74 Af AB hb hg; replace HB := xst hb; clear hb hg) | ((with_reducible refine xgc (f := 15) rfl ?_); refine xca 10 Tryd.func15 (gR (w := _) (hG := xG) (h := A2.out)) ?_; rintro w75 hb; replace Af := xbq Ag hb; replace HB := xst hb; (try clear hb)) | ((with_reducible refine af (N := 4) rfl ?_); refine xew 4 ?_; intro Ak w76 Ac AC hb hg; have Ad := xlt (g := Ag) hg; have Ae := xgt (g := Ag) hg; replace Af := xbq Ag hb; replace HB := xst hb; clear hb hg; have BJ := Ae.out; have BL := Ad.out; have AG := xz8 Ac.out; have AH := xz8 Af.out))
 (try simp only [Act.put, List.setIfInBounds_toArray, List.set_cons_zero, List.set_cons_succ])
 refine i9 ?_; intro wz_ hwz_
 have nb_ : Zz (wz_.heap[Ak]? = some (.cells #[.string Ap, .bool Aq, .string Ar, .string As, .bool Au, .string At, .bool Al, .string Am] 37 (0, 0))) := ⟨by rw [hwz_]; exact xbK⟩
 have nc0_ : Zz (wz_.heap[Ag]? = some (.cells #[.string (⟨#[]⟩ : ByteArray), .string (⟨#[]⟩ : ByteArray), .string (⟨#[]⟩ : ByteArray), .string (⟨#[]⟩ : ByteArray), .string (⟨#[]⟩ : ByteArray), .bool false, .bool false, .bool false] 23 (0, 0))) := ⟨by rw [hwz_]; exact xbK⟩
 have ne_ : Zz (Below w.heap.size w wz_) := ⟨by rw [hwz_]; exact xbl⟩
 clear hwz_ AG AH
 replace Ac := nb_; replace Af := nc0_; replace HB := ne_; clear nb_ ne_ nc0_
 have AG := xz8 Ac.out
 have AH := xz8 Af.out
 go_wp2
 refine bodyPost_ret (av rfl _ _ Ag 23 #[.string (⟨#[]⟩ : ByteArray), .string (⟨#[]⟩ : ByteArray), .string (⟨#[]⟩ : ByteArray), .string (⟨#[]⟩ : ByteArray), .string (⟨#[]⟩ : ByteArray), .bool false, .bool false, .bool false] (0, 0) _ rfl xbk Tryd.underlying23 rfl (by kernel_rfl)) rfl ?_
 exact ⟨xre, xbl⟩
def bN : List Int → Option (List Int)
  | [] => some []
  | b :: t => (dy b).bind fun c => if 0 ≤ c ∧ c ≤ 255 then (bN t).bind fun r => some (c :: r) else none
theorem eE {b : Int} {t r : List Int} (h : bN (b :: t) = some r) : ∃ c q, dy b = some c ∧ 0 ≤ c ∧ c ≤ 255 ∧ bN t = some q ∧ r = c :: q := by
  rw [bN] at h
  obtain ⟨c, h1, h⟩ := Option.bind_eq_some_iff.1 h
  by_cases hc : 0 ≤ c ∧ c ≤ 255
  · rw [if_pos hc] at h
    obtain ⟨q, h2, h⟩ := Option.bind_eq_some_iff.1 h
    exact ⟨c, q, h1, hc.1, hc.2, h2, (Option.some.inj h).symm⟩
  · rw [if_neg hc] at h; cases h
theorem eS : ∀ {l r : List Int}, bN l = some r → r.length = l.length
  | [], r, h => by rw [← Option.some.inj h]
  | b :: t, r, h => by
    obtain ⟨c, q, _, _, _, h2, rfl⟩ := eE h
    rw [List.length_cons, List.length_cons, eS h2]
theorem fR : ∀ {l r : List Int}, bN l = some r → ∀ c ∈ r, 0 ≤ c ∧ c ≤ 255
  | [], r, h => by rw [← Option.some.inj h]; intro c hc; cases hc
  | b :: t, r, h => by
    obtain ⟨c, q, _, h0, h1, h2, rfl⟩ := eE h
    intro x hx
    rcases List.mem_cons.1 hx with rfl | hx
    · exact ⟨h0, h1⟩
    · exact fR h2 x hx
def es (W : World) (g : Nat) (l : List Int) : Prop := ∀ j (hj : j < l.length), W.cell? ⟨g, j, none⟩ = some (.int .u8 l[j]) ∧ W.frozen? ⟨g, j, none⟩ = false
theorem jp (w : World) (s : ByteArray) (cap : Nat) (e : TypeId) : es (w.drew.alloc (.cells (bytesRow s cap) e ((bytesRow s cap).size, (bytesRow s cap).size + 1))) w.heap.size (ae s) := by
  intro j hj
  have hj2 : j < s.size := by rw [eA] at hj; exact hj
  have hh : (w.drew.alloc (.cells (bytesRow s cap) e ((bytesRow s cap).size, (bytesRow s cap).size + 1))).heap[w.heap.size]? = some (.cells (bytesRow s cap) e ((bytesRow s cap).size, (bytesRow s cap).size + 1)) := World.alloc_heap_new w.drew _
  have hs : j < (bytesRow s cap).size := by
    unfold bytesRow
    rw [Array.size_append, Array.size_map]
    show j < s.size + _
    omega
  refine ⟨?_, ?_⟩
  · rw [cell_of_row _ _ _ _ _ _ hh]
    show (s.data.map (fun b => Value.int .u8 (b.toNat : Int)) ++ Array.replicate (cap - s.size) (.int .u8 0))[j]? = _
    have hj3 : j < s.data.size := hj2
    rw [Array.getElem?_append_left (by rw [Array.size_map]; exact hj3), Array.getElem?_map, Array.getElem?_eq_getElem hj3]
    simp [ae]
  · unfold World.frozen?
    rw [hh]
    simp; omega
theorem jq {W : World} {g : Nat} {l : List Int} (h : es W g l) (i : Nat) (hi : i < l.length) (v : Int) : es (W.setCell ⟨g, i, none⟩ (.int .u8 v)) g (l.set i v) := by
  intro j hj
  rw [List.length_set] at hj
  refine ⟨?_, by rw [World.frozen?_setCell]; exact (h j hj).2⟩
  rw [List.getElem_set]
  by_cases e : i = j
  · subst e
    rw [if_pos rfl]
    exact World.cell?_setCell_same' W ⟨g, i, none⟩ (.int .u8 v) (by rw [(h i hi).1]; rfl)
  · rw [if_neg e, World.cell?_setCell_other (h := by first | (simp; done) | simpa using e)]
    exact (h j hj).1
theorem ji {W : World} {g : Nat} {q : List Int} (h : es W g q) (hq : ∀ c ∈ q, 0 ≤ c ∧ c ≤ 255) (n cap : Nat) (hn : q.length = n) :
    (convert 44 9 (.slice (some ⟨g, 0, none⟩) n cap)).run Tryd.prog W = .ok (.string (strOfNums q)) W := by
  have hl : (strOfNums q).data.toList.length = n := by rw [← hn]; simp [strOfNums]
  have := run_convert_bytes_back (P := Tryd.prog) W 44 9 5 ⟨g, 0, none⟩ cap (strOfNums q).data.toList Tryd.underlying44 Tryd.underlying5 Tryd.underlying9 (fun j hj => by
    have hj2 : j < q.length := by rw [hn, ← hl]; exact hj
    have hr := hq q[j] (List.getElem_mem hj2)
    have e : (strOfNums q).data.toList[j] = UInt8.ofNat (q[j]).toNat := by simp [strOfNums]
    rw [e, UInt8.toNat_ofNat']
    have : ((⟨g, 0, none⟩ : Addr).add j) = ⟨g, j, none⟩ := by unfold Addr.add; split <;> simp_all
    rw [this, (h j hj2).1]
    congr 2; omega)
  rw [hl] at this
  exact this
def eZ (a0 : ByteArray) : Option ByteArray := if a0.size ≤ 140000000000000 then (bN (ae a0)).bind fun r => some (strOfNums r) else none
set_option maxHeartbeats 4000000 in
theorem jI (a0 : ByteArray) (r : ByteArray) (w : World) (h : eZ a0 = some r) :
    Calls Tryd.prog 11 #[.string a0] w fun e w' => e = .returned (.string r) ∧ Below w.heap.size w w' := by
 unfold eZ at h
 by_cases hs : a0.size ≤ 140000000000000
 case neg => rw [if_neg hs] at h; cases h
 rw [if_pos hs] at h
 obtain ⟨q, hq, h⟩ := Option.bind_eq_some_iff.1 h
 obtain rfl := Option.some.inj h
 have hcv : ∀ W : World, (convert 9 44 (.string a0)).run Tryd.prog W = _ := fun W => run_bytes_of_string W 9 44 5 a0 Tryd.underlying9 Tryd.underlying44 Tryd.underlying5
 go_enter Tryd.func11, Tryd.ntmps11
 have hrow := jp w a0 (grownCap w a0.size 0 5) 5
 have hB0 : Below w.heap.size w (w.drew.alloc (.cells (bytesRow a0 (grownCap w a0.size 0 5)) 5 ((bytesRow a0 (grownCap w a0.size 0 5)).size, (bytesRow a0 (grownCap w a0.size 0 5)).size + 1))) := (aw (Below.refl w.heap.size w)).alloc (Nat.le_refl _) _
 go_wp2
 clear hcv
 have hbl : (ae a0).length = a0.size := eA a0
 generalize grownCap w a0.size 0 5 = c0 at hrow hB0 ⊢
 rw [show w.drew.alloc (.cells (bytesRow a0 c0) 5 ((bytesRow a0 c0).size, (bytesRow a0 c0).size + 1)) = (w.alloc (.cells (bytesRow a0 c0) 5 ((bytesRow a0 c0).size, (bytesRow a0 c0).size + 1))).drew from rfl] at hrow hB0
 generalize (w.alloc (.cells (bytesRow a0 c0) 5 ((bytesRow a0 c0).size, (bytesRow a0 c0).size + 1))).drew = V at hrow hB0 ⊢
 go_loopw [10] (fun i wr => ∃ (j : Nat) (l : List Int), i = .int .i64 (j : Int) ∧ j ≤ a0.size ∧ l.length = a0.size ∧ l.take j = q.take j ∧ bN (l.drop j) = some (q.drop j) ∧ (∀ b ∈ l, 0 ≤ b ∧ b ≤ 255) ∧ es wr w.heap.size l ∧ Below w.heap.size w wr)
  (fun i _ => a0.size - (intOf i).toNat)
 case atStart => exact ⟨0, ae a0, rfl, by omega, hbl, rfl, hq, fun b hb => by unfold ae at hb; obtain ⟨x, _, rfl⟩ := List.mem_map.1 hb; have := x.toNat_lt; omega, hrow, hB0⟩
 case round =>
  obtain ⟨j, l, rfl, hj, hl, ht, he, hlr, hR, hB⟩ := hrel
  by_cases hlt : j < a0.size
  · have hjl : j < l.length := by omega
    have ed : l.drop j = l[j] :: l.drop (j + 1) := List.drop_eq_getElem_cons hjl
    rw [ed] at he
    obtain ⟨c, q2, hlow, hc0, hc1, he2, eq⟩ := eE he
    have hcell := (hR j hjl).1
    have hfr := (hR j hjl).2
    have hb := hlr l[j] (List.getElem_mem hjl)
    have hset := jq hR j hjl c
    have hBs : Below w.heap.size w (wr.setCell ⟨w.heap.size, j, none⟩ (.int .u8 c)) := hB.setCell (p := ⟨w.heap.size, j, none⟩) (Nat.le_refl _) _
    generalize l[j] = b at hcell hlow hb
    have hin : 0 ≤ (j : Int) ∧ (j : Int) < (a0.size : Int) := ⟨by omega, by omega⟩
    have hlt2 : (j : Int) < (a0.size : Int) := hin.2
    have hw1 : wrap64 ((j : Int) + 1) = ((j + 1 : Nat) : Int) := by unfold wrap64; omega
    go_wp2_with (go_at_call 20; refine (aV b c _ hlow).mono ?_; rintro e w' ⟨rfl, ⟨nd, rfl⟩⟩)
    have hq2 : q.drop (j + 1) = q2 := by rw [← List.drop_drop, eq]; rfl
    have hql : q.length = a0.size := by rw [eS hq]; exact hbl
    have hqj : q[j]'(by omega) = c := by
     have := List.drop_eq_getElem_cons (l := q) (i := j) (by omega)
     rw [eq] at this
     exact (List.cons.inj this).1.symm
    refine ⟨⟨j + 1, l.set j c, rfl, by omega, by rw [List.length_set]; exact hl, ?_, ?_, ?_, ?_, ?_⟩, by simp only [intOf]; omega⟩
    · rw [List.take_add_one, List.take_add_one, List.getElem?_set_self hjl, List.take_set_of_le (Nat.le_refl _), ht, List.getElem?_eq_getElem (by omega), hqj]
    · rw [List.drop_set_of_lt (by omega), hq2]; exact he2
    · intro x hx
      rcases List.mem_or_eq_of_mem_set hx with h | rfl
      · exact hlr x h
      · exact ⟨hc0, hc1⟩
    · exact hset
    · first | exact hBs | exact bA hBs | exact bA hBs _
  · have hjs : j = a0.size := by omega
    have hql : q.length = a0.size := by rw [eS hq]; exact hbl
    have hlq : l = q := by rw [hjs, List.take_of_length_le (by omega), List.take_of_length_le (by omega)] at ht; exact ht
    subst hlq
    have hcb := ji hR (fR hq) a0.size c0 hql
    have hnl : ¬ (j : Int) < (a0.size : Int) := by omega
    go_wp2
    go_ret
    exact ⟨rfl, hB⟩
def cl : Nat → Int → Bool → Option (Int × Bool)
  | 0, _, _ => none
  | k + 1, x0, x4 => if x4 = true then (some (0, false)) else (if x0 < 10 then (some ((wrap64 (48 + x0)) % 256, true)) else (some ((wrap64 ((wrap64 (65 + x0)) - 10)) % 256, true)))
def dt (k : Nat) (a0 : Int) : Option (Int × Bool) := if a0 < 0 then (cl k a0 true) else (cl k a0 (decide (a0 > 15)))
theorem gy : ∀ k, (∀ y0 y1, LeO (cl k y0 y1) (cl (k + 1) y0 y1))
  | 0 => fun _ _ r h => by simp [cl] at h
  | k + 1 => by
    have ih0 := gy k
    · intro y0 y1
      unfold cl
      exact xmo
theorem jJ : ∀ a0 k, LeO (dt k a0) (dt (k + 1) a0) := by
  intro a0 k
  have ih0 := gy k
  unfold dt
  exact xmo
theorem gM (k : Nat) (a0 : Int) (r1 : Int) (r2 : Bool) (w : World) (h : dt k a0 = some (r1, r2)) :
    Calls Tryd.prog 36 #[.int .i64 a0] w fun e w' => e = .returned (.tuple #[.int .u8 r1, .bool r2]) ∧ Drawn0 w w' := by
 have H := h
 clear h
 unfold dt at H
 have Ac := Zz.mk H
 clear H
 go_enter Tryd.func36, Tryd.ntmps36
 go_upto_region 1 with (fail)
 go_cut [4] (fun v4 wc => ∃ kq Ab, v4 = .bool Ab ∧ Zz (cl kq a0 Ab = some (r1, r2)) ∧ Zz (kq ≤ k) ∧ Drawn0 w wc)
 case first => (
 have H := Ac.out
 clear Ac
 refine xid H ?_ ?_ <;> clear H <;> intro c3 H
 {
 have Aa := xdt c3
 clear c3
 (first | rw [Aa] | (simp only [an, au]; rw [Aa]) | (rw [Ad]; (try simp only [Bool.not_false, Bool.not_true])) | (rw [Ae]; (try simp only [Bool.not_false, Bool.not_true])) | rw [Af] | skip)
 replace H := xa H
 go_wp2
 go_meet
 case rel => exact ⟨_, (true), xrr, H, ⟨xom⟩, xdr⟩
 }
 have Aa := xdf c3
 clear c3
 (first | rw [Aa] | (simp only [an, au]; rw [Aa]) | (rw [Ad]; (try simp only [Bool.not_false, Bool.not_true])) | (rw [Ae]; (try simp only [Bool.not_false, Bool.not_true])) | rw [Af] | skip)
 replace H := xa H
 go_wp2
 go_meet
 case rel => exact ⟨_, (decide (a0 > 15)), xrr, H, ⟨xom⟩, xdr⟩
 )
 case rest => (
 clear Ac
 obtain ⟨kq, Ab, rfl, HA, HJ1, ⟨mc1, rfl⟩⟩ := hcut
 cases kq with
 | zero => exact absurd HA.out (by simp [cl])
 | succ kj1 => (
 have H := HA.out
 clear HA
 simp only [cl] at H
 refine xib H ?_ ?_ <;> clear H <;> rintro rfl H
 {
 simp only [Option.some.injEq, Prod.mk.injEq] at H
 obtain ⟨rfl, rfl⟩ := H
 go_wp2
 go_ret2
 exact ⟨xrr, xdr⟩
 }
 refine xid H ?_ ?_ <;> clear H <;> intro c5 H
 {
 have Ag := xdt c5
 clear c5
 simp only [Option.some.injEq, Prod.mk.injEq] at H
 obtain ⟨rfl, rfl⟩ := H
 go_wp2
 go_ret2
 exact ⟨xrr, xdr⟩
 }
 have Ag := xdf c5
 clear c5
 simp only [Option.some.injEq, Prod.mk.injEq] at H
 obtain ⟨rfl, rfl⟩ := H
 go_wp2
 go_ret2
 exact ⟨xrr, xdr⟩
 )
 )
def dw (k : Nat) (a0 : Int) : Option (ByteArray) := (dt k (wrap64 (a0 / 16))).bind fun bt550 => ((dt k (wrap64 (Go.bits .and .u8 a0 15))).bind fun bt552 => (some (strOfNums (([37, bt550.1, bt552.1] : List Int)))))
theorem iR : ∀ a0 k, LeO (dw k a0) (dw (k + 1) a0) := by
  intro a0 k
  have m0 := @jJ
  unfold dw
  exact xmo
theorem jV (k : Nat) (a0 : Int) (r : ByteArray) (w : World) (h : dw k a0 = some r) :
    Calls Tryd.prog 23 #[.int .u8 a0] w fun e w' => e = .returned (.string r) ∧ Below w.heap.size w w' := by
 have HB := Zz.mk (Below.refl w.heap.size w)
 have H := h
 clear h
 unfold dw at H
 replace H := xbd H
 obtain ⟨⟨Ab, Ag⟩, A2, H⟩ := H
 try dsimp only at H
 replace H := xbd H
 obtain ⟨⟨Ac, Ah⟩, A3, H⟩ := H
 try dsimp only at H
 obtain ⟨Af, Aa⟩ : ∃ y_ : List Int, y_ = (([37, Ab, Ac] : List Int)) := ⟨_, rfl⟩
 replace H : (some (strOfNums Af)) = some r := by first | (rw [Aa]; with_reducible exact H) | (have H2_ := (Option.bind_some _ _).symm.trans H; rw [Aa]; with_reducible exact H2_) | (have H2_ := (Option.bind_some _ _).symm.trans H; with_reducible exact H2_) | with_reducible exact H | (rw [Aa]; exact H) | exact H
 have Ad := Zz.mk Aa
 clear Aa
 obtain rfl := Option.some.inj H
 go_enter Tryd.func23, Tryd.ntmps23
 go_wp2_with (first | ((with_reducible refine xgc (f := 36) rfl ?_); refine xca 11 Tryd.func36 (gM (w := _) (h := A2.out)) ?_; rintro w' ⟨nd, rfl⟩) | ((with_reducible refine xgc (f := 36) rfl ?_); refine xca 18 Tryd.func36 (gM (w := _) (h := A3.out)) ?_; rintro w' ⟨nd, rfl⟩) | ((with_reducible refine af (N := 23) rfl ?_); refine Kd.R_lit (Kd.int .u8) _ 5 ?hg (N := 23) ?hd (xs := ([37, Ab, Ac] : List Int)) (inner := [.int .u8 37, .int .u8 Ab, .int .u8 Ac]) (ok := fun _ => True) (okp := fun _ => True) ?hr ?hp (fun _ hk => hk) trivial (Below.refl _ _) (Nat.le_refl _) (by simp) ?_; (case hd => rfl); (case hg => rfl); (case hr => first | (go_simp; done) | (go_simp; rfl)); (case hp => exact (Reps.one (show Kd.M (Kd.int .u8) _ _ _ 37 [.int .u8 37] from rfl) (Reps.one (show Kd.M (Kd.int .u8) _ _ _ Ab [.int .u8 Ab] from rfl) (Reps.one (show Kd.M (Kd.int .u8) _ _ _ Ac [.int .u8 Ac] from rfl) (Reps.none _ _))))); intro v555 w4 ho5 hb hg_ hnew_; clear hg_ hnew_; (first | rw [← Ad.out] at ho5 | (simp only [Int.reduceToNat] at ho5; rw [← Ad.out] at ho5)); have Ae := Zz.mk (Kd.R_lower ho5 (aD xbl)); replace HB := xst hb; clear hb ho5; have hcv6 := gm (P := Tryd.prog) Tryd.underlying44 Tryd.underlying5 Tryd.underlying9 (Kd.own_of_R Ae.out)))
 go_ret
 exact ⟨xre, xbl⟩
end Go.Proofs.YtojdiklegmhakaaDoor.X
