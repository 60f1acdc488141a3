/- Texts that the law's proof needs, joined by a program of this session. -/
import Derived.Test.YtojdiklegmhakaaDoorZUrnTexts0
import Derived.Test.YtojdiklegmhakaaDoorZUrnTexts1
import Derived.Test.YtojdiklegmhakaaDoorZUrnTexts2
import Derived.Test.YtojdiklegmhakaaDoorZUrnTexts3
import Derived.Test.YtojdiklegmhakaaDoorZUrnTexts5
import Derived.Test.YtojdiklegmhakaaDoorZUrnTexts6
import Derived.Test.YtojdiklegmhakaaDoorZUrnTexts7
import Derived.Test.YtojdiklegmhakaaDoorZUrnTexts8
import Derived.Lib.Bytealg
import Derived.Laws.Strings
import Derived.Lib.Split
import Derived.Lib.SplitLaws
import Derived.Lib.Join
import Derived.Laws.BitsLemmas
set_option maxHeartbeats 8000000
set_option maxRecDepth 100000
set_option linter.unusedSimpArgs false
set_option linter.unusedVariables false
namespace Go.Proofs.YtojdiklegmhakaaDoor.X
open Go.RowKit Go.Proofs.YtojdiklegmhakaaDoorW.PrintWords Go.Proofs.YtojdiklegmhakaaDoorW.PrintLast Go.Proofs.YtojdiklegmhakaaDoorW.PrintMore
attribute [local go_sem] di cR eu fH bY eW bv eN eP fB fC eo ep eO eQ
def aN : Nat → ByteArray → List Int → Int → Option (ByteArray)
  | 0, _, _, _ => none
  | k + 1, x0, x3, x4 => if x4 < (x0.size : Int) then (if 0 ≤ x4 then ((aM k (bt x0 x4) (⟨#[65, 66, 67, 68, 69, 70, 71, 72, 73, 74, 75, 76, 77, 78, 79, 80, 81, 82, 83, 84, 85, 86, 87, 88, 89, 90]⟩ : ByteArray)).bind fun t596 => (if t596 = true then (if x3.length < 140737488355328 then (aN k x0 (x3 ++ [((bt x0 x4) + 32) % 256]) (wrap64 (x4 + 1))) else (none)) else (if x3.length < 140737488355328 then (aN k x0 (x3 ++ [bt x0 x4]) (wrap64 (x4 + 1))) else (none)))) else (none)) else (some (strOfNums x3))
def dS (k : Nat) (a0 : ByteArray) : Option (ByteArray) := aN k a0 ([] : List Int) 0
theorem ie (k : Nat) (a0 : ByteArray) (r : ByteArray) (w : World) (h : dS k a0 = some r) :
    Calls Tryd.prog 13 #[.string a0] w fun e w' => e = .returned (.string r) ∧ Below w.heap.size w w' := by
 have HB := Zz.mk (Below.refl w.heap.size w)
 have H := h
 clear h
 unfold dS at H
 have H' := Zz.mk H
 clear H
 go_enter Tryd.func13, Tryd.ntmps13
 go_wp2
 go_loopg [3, 4] k (fun kq v3 v4 w' => ∃ (Ad : List Int) (Aa : Int), v4 = .int .i64 Aa ∧ Zz (aN kq a0 Ad Aa = some r) ∧ Zz (kq ≤ k) ∧ Zz (Kd.R (Kd.int .u8) 5 w' w.heap.size (fun _ => True) v3 Ad) ∧ Zz (Below w.heap.size w w'))
 case atStart => exact ⟨(([] : List Int)), (0), xrr, H', ⟨Nat.le_refl _⟩, ⟨by first | exact Kd.R_nil _ _ _ _ _ | exact Kd.N_nil _ _ _ _ _ | exact Kd.V_nil _ _ _ _ _ | exact Kd.Q_nil _ _ _ _ _ | exact Kd.S_nil _ _ _ _ _⟩, ⟨xbl⟩⟩
 case round => (
 clear H'
 obtain ⟨Ad, Aa, rfl, HA, HK1, Ae, HB⟩ := hrel
 cases gk with
 | zero => exact absurd HA.out (by simp [aN])
 | succ k1 => (
 have H := HA.out
 clear HA
 simp only [aN] at H
 refine xid H ?_ ?_ <;> clear H <;> intro c2 H
 {
 have Al := xdt c2
 clear c2
 refine xin H ?_; clear H; intro c3 H
 have Am := xdt c3
 clear c3
 replace H := xbd H
 obtain ⟨An, A5, H⟩ := H
 try dsimp only at H
 refine xib H ?_ ?_ <;> clear H <;> rintro rfl H
 {
 refine xin H ?_; clear H; intro c7 H
 have LMc7 := Zz.mk c7
 clear c7
 obtain ⟨Af, Ab⟩ : ∃ y_ : List Int, y_ = (Ad ++ [((bt a0 Aa) + 32) % 256]) := ⟨_, rfl⟩
 replace H : (aN k1 a0 Af (wrap64 (Aa + 1))) = some r := by first | (rw [Ab]; with_reducible exact H) | (have H2_ := (Option.bind_some _ _).symm.trans H; rw [Ab]; with_reducible exact H2_) | (have H2_ := (Option.bind_some _ _).symm.trans H; with_reducible exact H2_) | with_reducible exact H | (rw [Ab]; exact H) | exact H
 have Ag := Zz.mk Ab
 clear Ab
 replace H := xa H
 obtain ⟨p4, q4, hx4⟩ := xiv a0 Aa xod xod
 go_wp2_with (first | ((with_reducible refine xgc (f := 24) rfl ?_); refine xca 16 Tryd.func24 (aE (w := _) (h := A5.out)) ?_; rintro w' ⟨nd, rfl⟩) | ((with_reducible refine gi (b := .append) (xs := #[.tmp 19, .tmp 21]) rfl ?_); at_builtin; refine Kd.R_append (Kd.int .u8) (w0 := w) w.heap.size rfl (.tmp 19) (.tmp 21) 44 5 (.int .u8 0) 1 rfl Tryd.underlying44 nz rfl (by decide) (by omega) u3 Ad (((bt a0 Aa) + 32) % 256) [.int .u8 (((bt a0 Aa) + 32) % 256)] (fun _ => True) (fun _ => False) rfl rfl ?aP (fun _ hk => hk.elim) ?aF ?aO ?aB ?aS ?aL ?_; (case aP => exact rfl); (case aB => exact xbl); (case aF => exact (fun _ _ => trivial)); (case aO => exact (xkd Ae)); (case aS => exact (aD xbl)); (case aL => have := LMc7.out; first | omega | exact Nat.le_of_lt this); intro v598 w8 ho hb hg hat; rw [← Ag.out] at ho; have n0_ := Zz.mk (hb); have n1_ := Zz.mk (ho); clear HB; clear Ae; have HB := n0_; have Ah := n1_; clear n0_ n1_; clear ho hb hg hat))
 go_roundg k1
 case measure => have := HK1.out; omega
 case rel => exact ⟨(Af), (wrap64 (Aa + 1)), xrr, H, ⟨by have := HK1.out; omega⟩, ⟨xkd Ah⟩, ⟨xbl⟩⟩
 }
 refine xin H ?_; clear H; intro c9 H
 have LMc9 := Zz.mk c9
 clear c9
 obtain ⟨Ai, Ac⟩ : ∃ y_ : List Int, y_ = (Ad ++ [bt a0 Aa]) := ⟨_, rfl⟩
 replace H : (aN k1 a0 Ai (wrap64 (Aa + 1))) = some r := by first | (rw [Ac]; with_reducible exact H) | (have H2_ := (Option.bind_some _ _).symm.trans H; rw [Ac]; with_reducible exact H2_) | (have H2_ := (Option.bind_some _ _).symm.trans H; with_reducible exact H2_) | with_reducible exact H | (rw [Ac]; exact H) | exact H
 have Aj := Zz.mk Ac
 clear Ac
 replace H := xa H
 obtain ⟨p4, q4, hx4⟩ := xiv a0 Aa xod xod
 go_wp2_with (first | ((with_reducible refine xgc (f := 24) rfl ?_); refine xca 16 Tryd.func24 (aE (w := _) (h := A5.out)) ?_; rintro w' ⟨nd, rfl⟩) | ((with_reducible refine gi (b := .append) (xs := #[.tmp 19, .tmp 21]) rfl ?_); at_builtin; refine Kd.R_append (Kd.int .u8) (w0 := w) w.heap.size rfl (.tmp 19) (.tmp 21) 44 5 (.int .u8 0) 1 rfl Tryd.underlying44 nz rfl (by decide) (by omega) u3 Ad (bt a0 Aa) [.int .u8 (bt a0 Aa)] (fun _ => True) (fun _ => False) rfl rfl ?aP (fun _ hk => hk.elim) ?aF ?aO ?aB ?aS ?aL ?_; (case aP => exact rfl); (case aB => exact xbl); (case aF => exact (fun _ _ => trivial)); (case aO => exact (xkd Ae)); (case aS => exact (aD xbl)); (case aL => have := LMc9.out; first | omega | exact Nat.le_of_lt this); intro v601 w10 ho hb hg hat; rw [← Aj.out] at ho; have n0_ := Zz.mk (hb); have n1_ := Zz.mk (ho); clear HB; clear Ae; have HB := n0_; have Ak := n1_; clear n0_ n1_; clear ho hb hg hat))
 go_roundg k1
 case measure => have := HK1.out; omega
 case rel => exact ⟨(Ai), (wrap64 (Aa + 1)), xrr, H, ⟨by have := HK1.out; omega⟩, ⟨xkd Ak⟩, ⟨xbl⟩⟩
 }
 have Al := xdf c2
 clear c2
 obtain rfl := Option.some.inj H
 have hcv11 := gm (P := Tryd.prog) Tryd.underlying44 Tryd.underlying5 Tryd.underlying9 (Kd.own_of_R Ae.out)
 go_wp2
 go_ret
 exact ⟨xre, xbl⟩
 )
 )
def bd : Nat → Int → Int → Option (Int)
  | 0, _, _ => none
  | k + 1, x0, x3 => if x3 < 16 then (if 0 ≤ x3 then (if x0 = (bt (⟨#[48, 49, 50, 51, 52, 53, 54, 55, 56, 57, 65, 66, 67, 68, 69, 70]⟩ : ByteArray) x3) then (some x3) else (if x0 = (bt (⟨#[48, 49, 50, 51, 52, 53, 54, 55, 56, 57, 97, 98, 99, 100, 101, 102]⟩ : ByteArray) x3) then (some x3) else (bd k x0 (wrap64 (x3 + 1))))) else (none)) else (some (-1))
def bj (k : Nat) (a0 : Int) : Option (Int) := bd k a0 0
theorem fi : ∀ k, (∀ y0 y1, LeO (bd k y0 y1) (bd (k + 1) y0 y1))
  | 0 => fun _ _ r h => by simp [bd] at h
  | k + 1 => by
    have ih0 := fi k
    · intro y0 y1
      unfold bd
      exact xmo
theorem iu : ∀ a0 k, LeO (bj k a0) (bj (k + 1) a0) := by
  intro a0 k
  have ih0 := fi k
  unfold bj
  exact xmo
theorem ap (k : Nat) (a0 : Int) (r : Int) (w : World) (h : bj k a0 = some r) :
    Calls Tryd.prog 37 #[.int .u8 a0] w fun e w' => e = .returned (.int .i64 r) ∧ Drawn0 w w' := by
 have H := h
 clear h
 unfold bj at H
 have H' := Zz.mk H
 clear H
 go_enter Tryd.func37, Tryd.ntmps37
 go_wp2
 go_loopg [3] k (fun kq v3 w' => ∃ Aa, v3 = .int .i64 Aa ∧ Zz (bd kq a0 Aa = some r) ∧ Zz (kq ≤ k) ∧ Drawn0 w w')
 case atStart => exact ⟨(0), xrr, H', ⟨Nat.le_refl _⟩, xdr⟩
 case round => (
 clear H'
 obtain ⟨Aa, rfl, HA, HK1, ⟨m1, rfl⟩⟩ := hrel
 cases gk with
 | zero => exact absurd HA.out (by simp [bd])
 | succ k1 => (
 have H := HA.out
 clear HA
 simp only [bd] at H
 refine xid H ?_ ?_ <;> clear H <;> intro c2 H
 {
 have Ac := xdt c2
 clear c2
 refine xin H ?_; clear H; intro c3 H
 have Ai := xdt c3
 clear c3
 refine xid H ?_ ?_ <;> clear H <;> intro c5 H
 {
 obtain ⟨Ad, Ae⟩ := xqe c5
 clear c5
 obtain rfl := Option.some.inj H
 have p4 : 0 ≤ (Aa : Int) := xod
 have q4 : Aa < (16 : Int) := xod
 have hx4 := jc (⟨#[48, 49, 50, 51, 52, 53, 54, 55, 56, 57, 65, 66, 67, 68, 69, 70]⟩ : ByteArray) Aa
 replace p4 := eq_true p4
 replace q4 := eq_true q4
 try (have Ab := q4; simp only [ByteArray.size_extract, Nat.min_self] at Ab)
 go_wp2
 go_ret
 exact ⟨xrr, xdr⟩
 }
 obtain ⟨Ad, Ae⟩ := xqn c5
 refine xid H ?_ ?_ <;> clear H <;> intro c7 H
 {
 obtain ⟨Af, Ag⟩ := xqe c7
 clear c7
 obtain rfl := Option.some.inj H
 have p4 : 0 ≤ (Aa : Int) := xod
 have q4 : Aa < (16 : Int) := xod
 have hx4 := jc (⟨#[48, 49, 50, 51, 52, 53, 54, 55, 56, 57, 65, 66, 67, 68, 69, 70]⟩ : ByteArray) Aa
 replace p4 := eq_true p4
 replace q4 := eq_true q4
 try (have Ab := q4; simp only [ByteArray.size_extract, Nat.min_self] at Ab)
 have p6 : 0 ≤ (Aa : Int) := xod
 have q6 : Aa < (16 : Int) := xod
 have hx6 := jc (⟨#[48, 49, 50, 51, 52, 53, 54, 55, 56, 57, 97, 98, 99, 100, 101, 102]⟩ : ByteArray) Aa
 replace p6 := eq_true p6
 replace q6 := eq_true q6
 try (have Ah := q6; simp only [ByteArray.size_extract, Nat.min_self] at Ah)
 go_wp2
 go_ret
 exact ⟨xrr, xdr⟩
 }
 obtain ⟨Af, Ag⟩ := xqn c7
 replace H := xa H
 have p4 : 0 ≤ (Aa : Int) := xod
 have q4 : Aa < (16 : Int) := xod
 have hx4 := jc (⟨#[48, 49, 50, 51, 52, 53, 54, 55, 56, 57, 65, 66, 67, 68, 69, 70]⟩ : ByteArray) Aa
 replace p4 := eq_true p4
 replace q4 := eq_true q4
 try (have Ab := q4; simp only [ByteArray.size_extract, Nat.min_self] at Ab)
 have p6 : 0 ≤ (Aa : Int) := xod
 have q6 : Aa < (16 : Int) := xod
 have hx6 := jc (⟨#[48, 49, 50, 51, 52, 53, 54, 55, 56, 57, 97, 98, 99, 100, 101, 102]⟩ : ByteArray) Aa
 replace p6 := eq_true p6
 replace q6 := eq_true q6
 try (have Ah := q6; simp only [ByteArray.size_extract, Nat.min_self] at Ah)
 go_wp2
 go_roundg k1
 case measure => have := HK1.out; omega
 case rel => exact ⟨(wrap64 (Aa + 1)), xrr, H, ⟨by have := HK1.out; omega⟩, xdr⟩
 }
 have Ac := xdf c2
 clear c2
 obtain rfl := Option.some.inj H
 go_wp2
 go_ret
 exact ⟨xrr, xdr⟩
 )
 )
def bn : Nat → ByteArray → Int → Bool → Option (Int)
  | 0, _, _, _ => none
  | k + 1, x0, x1, x27 => if x27 = true then (some (-1)) else (if 0 ≤ (wrap64 (x1 + 1)) then (if (wrap64 (x1 + 1)) < (x0.size : Int) then ((bj k (bt x0 (wrap64 (x1 + 1)))).bind fun t603 => (if 0 ≤ (wrap64 (x1 + 2)) then (if (wrap64 (x1 + 2)) < (x0.size : Int) then ((bj k (bt x0 (wrap64 (x1 + 2)))).bind fun t604 => (if t603 < 0 then (some (-1)) else (if t604 < 0 then (some (-1)) else (some (wrap64 ((wrap64 (16 * t603)) + t604)))))) else (none)) else (none))) else (none)) else (none))
def dO (k : Nat) (a0 : ByteArray) (a1 : Int) : Option (Int) := if a1 < 0 then (bn k a0 a1 true) else (if a1 ≥ (a0.size : Int) then (bn k a0 a1 true) else (if (wrap64 ((a0.size : Int) - a1)) < 3 then (bn k a0 a1 true) else (if 0 ≤ a1 then (if a1 < (a0.size : Int) then (bn k a0 a1 ((bt a0 a1) != 37)) else (none)) else (none))))
theorem gb (k : Nat) (a0 : ByteArray) (a1 : Int) (r : Int) (w : World) (h : dO k a0 a1 = some r) :
    Calls Tryd.prog 25 #[.string a0, .int .i64 a1] w fun e w' => e = .returned (.int .i64 r) ∧ Drawn0 w w' := by
 have H := h
 clear h
 unfold dO at H
 have Ai := Zz.mk H
 clear H
 go_enter Tryd.func25, Tryd.ntmps25
 go_upto_region 1 with (fail)
 repeat (go_quiet (fail); go_upto_region 1 with (fail))
 go_cut [27] (fun v27 wc => ∃ kq Ad, v27 = .bool Ad ∧ Zz (bn kq a0 a1 Ad = some r) ∧ Zz (kq ≤ k) ∧ Drawn0 w wc)
 case first => (
 have H := Ai.out
 clear Ai
 refine xid H ?_ ?_ <;> clear H <;> intro c4 H
 {
 have Ae := xdt c4
 clear c4
 (first | rw [Ae] | (simp only [an, au]; rw [Ae]) | (rw [Aj]; (try simp only [Bool.not_false, Bool.not_true])) | (rw [Ak]; (try simp only [Bool.not_false, Bool.not_true])) | rw [Al] | skip)
 replace H := xa H
 go_wp2
 repeat (go_quiet (fail); try go_wp2)
 go_meet
 case rel => exact ⟨_, (true), xrr, H, ⟨xom⟩, xdr⟩
 }
 have Ae := xdf c4
 clear c4
 (first | rw [Ae] | (simp only [an, au]; rw [Ae]) | (rw [Aj]; (try simp only [Bool.not_false, Bool.not_true])) | (rw [Ak]; (try simp only [Bool.not_false, Bool.not_true])) | rw [Al] | skip)
 refine xid H ?_ ?_ <;> clear H <;> intro c5 H
 {
 have Am := xdt c5
 clear c5
 replace H := xa H
 go_wp2
 repeat (go_quiet (fail); try go_wp2)
 go_meet
 case rel => exact ⟨_, (true), xrr, H, ⟨xom⟩, xdr⟩
 }
 have Am := xdf c5
 clear c5
 refine xid H ?_ ?_ <;> clear H <;> intro c6 H
 {
 have An := xdt c6
 clear c6
 replace H := xa H
 go_wp2
 repeat (go_quiet (fail); try go_wp2)
 go_meet
 case rel => exact ⟨_, (true), xrr, H, ⟨xom⟩, xdr⟩
 }
 have An := xdf c6
 clear c6
 refine xin H ?_; clear H; intro c7 H
 have Au := xdt c7
 clear c7
 refine xin H ?_; clear H; intro c8 H
 have Av := xdt c8
 clear c8
 replace H := xa H
 obtain ⟨p9, q9, hx9⟩ := xiv a0 a1 xod xod
 go_wp2
 repeat (go_quiet (fail); try go_wp2)
 go_meet
 case rel => exact ⟨_, (((bt a0 a1) != 37)), xrr, H, ⟨xom⟩, xdr⟩
 )
 case rest => (
 clear Ai
 obtain ⟨kq, Ad, rfl, HA, HJ2, ⟨mc2, rfl⟩⟩ := hcut
 cases kq with
 | zero => exact absurd HA.out (by simp [bn])
 | succ kj2 => (
 have H := HA.out
 clear HA
 simp only [bn] at H
 refine xib H ?_ ?_ <;> clear H <;> rintro rfl H
 {
 obtain rfl := Option.some.inj H
 go_wp2
 repeat (go_quiet (fail); try go_wp2)
 go_ret
 exact ⟨xrr, xdr⟩
 }
 obtain ⟨Af, Ac⟩ : ∃ j_ : Int, (wrap64 (a1 + 1)) = j_ := ⟨_, rfl⟩
 first | rw [Ac] at H | simp only [Ac] at H | skip
 have Ao : (IntKind.i64.wrap (a1 + 1)) = Af := (an _).trans Ac
 refine xin H ?_; clear H; intro c12 H
 have Aq := xdt c12
 clear c12
 refine xin H ?_; clear H; intro c13 H
 have Ar := xdt c13
 clear c13
 replace H := xbd H
 obtain ⟨Aw, A15, H⟩ := H
 try dsimp only at H
 obtain ⟨Ab, Aa⟩ : ∃ j_ : Int, (wrap64 (a1 + 2)) = j_ := ⟨_, rfl⟩
 first | rw [Aa] at H | simp only [Aa] at H | skip
 (try rw [Aa] at A15)
 have Ap : (IntKind.i64.wrap (a1 + 2)) = Ab := (an _).trans Aa
 refine xin H ?_; clear H; intro c17 H
 have As := xdt c17
 clear c17
 refine xin H ?_; clear H; intro c18 H
 have At := xdt c18
 clear c18
 replace H := xbd H
 obtain ⟨Ax, A20, H⟩ := H
 try dsimp only at H
 refine xid H ?_ ?_ <;> clear H <;> intro c21 H
 {
 have Ag := xdt c21
 clear c21
 obtain rfl := Option.some.inj H
 obtain ⟨p14, q14, hx14⟩ := xiv a0 (Af) xod xod
 go_wp2_with (first | (go_at_call 37; (with_reducible refine (ap (w := _) (h := A15.out)).mono ?_); rintro e w' ⟨rfl, ⟨nd, rfl⟩⟩; (try exact xdd); obtain ⟨p19, q19, hx19⟩ := xiv a0 (Ab) xod xod) | (go_at_call 37; (with_reducible refine (ap (w := _) (h := A20.out)).mono ?_); rintro e w' ⟨rfl, ⟨nd, rfl⟩⟩; (try exact xdd)))
 repeat (go_quiet (first | (go_at_call 37; (with_reducible refine (ap (w := _) (h := A15.out)).mono ?_); rintro e w' ⟨rfl, ⟨nd, rfl⟩⟩; (try exact xdd); obtain ⟨p19, q19, hx19⟩ := xiv a0 (Ab) xod xod) | (go_at_call 37; (with_reducible refine (ap (w := _) (h := A20.out)).mono ?_); rintro e w' ⟨rfl, ⟨nd, rfl⟩⟩; (try exact xdd))); try go_wp2_with (first | (go_at_call 37; (with_reducible refine (ap (w := _) (h := A15.out)).mono ?_); rintro e w' ⟨rfl, ⟨nd, rfl⟩⟩; (try exact xdd); obtain ⟨p19, q19, hx19⟩ := xiv a0 (Ab) xod xod) | (go_at_call 37; (with_reducible refine (ap (w := _) (h := A20.out)).mono ?_); rintro e w' ⟨rfl, ⟨nd, rfl⟩⟩; (try exact xdd))))
 go_ret
 exact ⟨by first | exact xrs | (simp only [← Ac, ← Aa] <;> (first | rfl | simp)) | exact xrr, xdr⟩
 }
 have Ag := xdf c21
 clear c21
 refine xid H ?_ ?_ <;> clear H <;> intro c22 H
 {
 have Ah := xdt c22
 clear c22
 obtain rfl := Option.some.inj H
 obtain ⟨p14, q14, hx14⟩ := xiv a0 (Af) xod xod
 go_wp2_with (first | (go_at_call 37; (with_reducible refine (ap (w := _) (h := A15.out)).mono ?_); rintro e w' ⟨rfl, ⟨nd, rfl⟩⟩; (try exact xdd); obtain ⟨p19, q19, hx19⟩ := xiv a0 (Ab) xod xod) | (go_at_call 37; (with_reducible refine (ap (w := _) (h := A20.out)).mono ?_); rintro e w' ⟨rfl, ⟨nd, rfl⟩⟩; (try exact xdd)))
 repeat (go_quiet (first | (go_at_call 37; (with_reducible refine (ap (w := _) (h := A15.out)).mono ?_); rintro e w' ⟨rfl, ⟨nd, rfl⟩⟩; (try exact xdd); obtain ⟨p19, q19, hx19⟩ := xiv a0 (Ab) xod xod) | (go_at_call 37; (with_reducible refine (ap (w := _) (h := A20.out)).mono ?_); rintro e w' ⟨rfl, ⟨nd, rfl⟩⟩; (try exact xdd))); try go_wp2_with (first | (go_at_call 37; (with_reducible refine (ap (w := _) (h := A15.out)).mono ?_); rintro e w' ⟨rfl, ⟨nd, rfl⟩⟩; (try exact xdd); obtain ⟨p19, q19, hx19⟩ := xiv a0 (Ab) xod xod) | (go_at_call 37; (with_reducible refine (ap (w := _) (h := A20.out)).mono ?_); rintro e w' ⟨rfl, ⟨nd, rfl⟩⟩; (try exact xdd))))
 go_ret
 exact ⟨by first | exact xrs | (simp only [← Ac, ← Aa] <;> (first | rfl | simp)) | exact xrr, xdr⟩
 }
 have Ah := xdf c22
 clear c22
 obtain rfl := Option.some.inj H
 obtain ⟨p14, q14, hx14⟩ := xiv a0 (Af) xod xod
 go_wp2_with (first | (go_at_call 37; (with_reducible refine (ap (w := _) (h := A15.out)).mono ?_); rintro e w' ⟨rfl, ⟨nd, rfl⟩⟩; (try exact xdd); obtain ⟨p19, q19, hx19⟩ := xiv a0 (Ab) xod xod) | (go_at_call 37; (with_reducible refine (ap (w := _) (h := A20.out)).mono ?_); rintro e w' ⟨rfl, ⟨nd, rfl⟩⟩; (try exact xdd)))
 repeat (go_quiet (first | (go_at_call 37; (with_reducible refine (ap (w := _) (h := A15.out)).mono ?_); rintro e w' ⟨rfl, ⟨nd, rfl⟩⟩; (try exact xdd); obtain ⟨p19, q19, hx19⟩ := xiv a0 (Ab) xod xod) | (go_at_call 37; (with_reducible refine (ap (w := _) (h := A20.out)).mono ?_); rintro e w' ⟨rfl, ⟨nd, rfl⟩⟩; (try exact xdd))); try go_wp2_with (first | (go_at_call 37; (with_reducible refine (ap (w := _) (h := A15.out)).mono ?_); rintro e w' ⟨rfl, ⟨nd, rfl⟩⟩; (try exact xdd); obtain ⟨p19, q19, hx19⟩ := xiv a0 (Ab) xod xod) | (go_at_call 37; (with_reducible refine (ap (w := _) (h := A20.out)).mono ?_); rintro e w' ⟨rfl, ⟨nd, rfl⟩⟩; (try exact xdd))))
 go_ret
 exact ⟨by first | exact xrs | (simp only [← Ac, ← Aa] <;> (first | rfl | simp)) | exact xrr, xdr⟩
 )
 )
mutual
def aY : Nat → Int → Int → Option (Int)
  | 0, _, _ => none
  | k + 1, x0, x3 => (aM k x0 (⟨#[48, 49, 50, 51, 52, 53, 54, 55, 56, 57]⟩ : ByteArray)).bind fun t606 => (if t606 = true then (aZ k x0 (wrap64 (x3 + 2))) else (aZ k x0 x3))
def aZ : Nat → Int → Int → Option (Int)
  | 0, _, _ => none
  | k + 1, x0, x3 => (aM k x0 (⟨#[45, 46, 95, 126]⟩ : ByteArray)).bind fun t607 => (if t607 = true then (ba k x0 (wrap64 (x3 + 4))) else (ba k x0 x3))
def ba : Nat → Int → Int → Option (Int)
  | 0, _, _ => none
  | k + 1, x0, x3 => (aM k x0 (⟨#[33, 36, 38, 39, 40, 41, 42, 43, 44, 59, 61]⟩ : ByteArray)).bind fun t608 => (if t608 = true then (bc k x0 (wrap64 (x3 + 8))) else (bc k x0 x3))
def bc : Nat → Int → Int → Option (Int)
  | 0, _, _ => none
  | k + 1, x0, x3 => (aM k x0 (⟨#[58, 47, 63, 35, 91, 93, 64]⟩ : ByteArray)).bind fun t609 => (if t609 = true then ((aM k x0 (⟨#[48, 49, 50, 51, 52, 53, 54, 55, 56, 57, 65, 66, 67, 68, 69, 70, 97, 98, 99, 100, 101, 102]⟩ : ByteArray)).bind fun t610 => (if t610 = true then (some (wrap64 ((wrap64 (x3 + 16)) + 32))) else (some (wrap64 (x3 + 16))))) else ((aM k x0 (⟨#[48, 49, 50, 51, 52, 53, 54, 55, 56, 57, 65, 66, 67, 68, 69, 70, 97, 98, 99, 100, 101, 102]⟩ : ByteArray)).bind fun t611 => (if t611 = true then (some (wrap64 (x3 + 32))) else (some x3))))
end
def bH (k : Nat) (a0 : Int) : Option (Int) := (aM k a0 (⟨#[65, 66, 67, 68, 69, 70, 71, 72, 73, 74, 75, 76, 77, 78, 79, 80, 81, 82, 83, 84, 85, 86, 87, 88, 89, 90, 97, 98, 99, 100, 101, 102, 103, 104, 105, 106, 107, 108, 109, 110, 111, 112, 113, 114, 115, 116, 117, 118, 119, 120, 121, 122]⟩ : ByteArray)).bind fun t605 => (if t605 = true then (aY k a0 (0 + 1)) else (aY k a0 0))
theorem fh : ∀ k, (∀ y0 y1, LeO (aY k y0 y1) (aY (k + 1) y0 y1)) ∧ (∀ y0 y1, LeO (aZ k y0 y1) (aZ (k + 1) y0 y1)) ∧ (∀ y0 y1, LeO (ba k y0 y1) (ba (k + 1) y0 y1)) ∧ (∀ y0 y1, LeO (bc k y0 y1) (bc (k + 1) y0 y1))
  | 0 => ⟨fun _ _ r h => by simp [aY] at h, fun _ _ r h => by simp [aZ] at h, fun _ _ r h => by simp [ba] at h, fun _ _ r h => by simp [bc] at h⟩
  | k + 1 => by
    obtain ⟨ih0, ih1, ih2, ih3⟩ := fh k
    have m0 := @gl
    refine ⟨?_, ?_, ?_, ?_⟩
    · intro y0 y1
      unfold aY
      exact xmo
    · intro y0 y1
      unfold aZ
      exact xmo
    · intro y0 y1
      unfold ba
      exact xmo
    · intro y0 y1
      unfold bc
      exact xmo
theorem it : ∀ a0 k, LeO (bH k a0) (bH (k + 1) a0) := by
  intro a0 k
  obtain ⟨ih0, ih1, ih2, ih3⟩ := fh k
  have m0 := @gl
  unfold bH
  exact xmo
theorem ic (k : Nat) (a0 : Int) (r : Int) (w : World) (h : bH k a0 = some r) :
    Calls Tryd.prog 26 #[.int .u8 a0] w fun e w' => e = .returned (.int .i64 r) ∧ Drawn0 w w' := by
 have H := h
 clear h
 unfold bH at H
 replace H := xbd H
 obtain ⟨Ai, A2, H⟩ := H
 try dsimp only at H
 have Af := Zz.mk H
 clear H
 go_enter Tryd.func26, Tryd.ntmps26
 go_upto_if 5 with (first | ((with_reducible refine xgc (f := 24) rfl ?_); refine xca 5 Tryd.func24 (aE (w := _) (h := A2.out)) ?_; rintro w' ⟨nd, rfl⟩))
 (try simp only [Act.put, xl1, xl2, xl3])
 go_cut [3] (fun v3 wc => ∃ kq Aa, v3 = .int .i64 Aa ∧ Zz (aY kq a0 Aa = some r) ∧ Zz (kq ≤ k) ∧ Drawn0 w wc)
 case first => (
 have H := Af.out
 clear Af
 refine xib H ?_ ?_ <;> clear H <;> rintro rfl H
 {
 replace H := xa H
 go_wp2
 go_meet
 case rel => exact ⟨_, (0 + 1), xrr, H, ⟨xom⟩, xdr⟩
 }
 replace H := xa H
 go_wp2
 go_meet
 case rel => exact ⟨_, (0), xrr, H, ⟨xom⟩, xdr⟩
 )
 case rest => (
 clear Af
 obtain ⟨kq, Aa, rfl, HA, HJ2, ⟨mc2, rfl⟩⟩ := hcut
 cases kq with
 | zero => exact absurd HA.out (by simp [aY])
 | succ kj2 => (
 have H := HA.out
 clear HA
 simp only [aY] at H
 replace H := xbd H
 obtain ⟨Aj, A5, H⟩ := H
 try dsimp only at H
 have Ag := Zz.mk H
 clear H
 go_upto_if 9 with (first | ((with_reducible refine xgc (f := 24) rfl ?_); refine xca 9 Tryd.func24 (aE (w := _) (h := A5.out)) ?_; rintro w' ⟨nd, rfl⟩))
 (try simp only [Act.put, xl1, xl2, xl3])
 go_cut [3] (fun v3 wc => ∃ kq Ab, v3 = .int .i64 Ab ∧ Zz (aZ kq a0 Ab = some r) ∧ Zz (kq ≤ kj2) ∧ Drawn0 w wc)
 case first => (
 have H := Ag.out
 clear Ag
 refine xib H ?_ ?_ <;> clear H <;> rintro rfl H
 {
 replace H := xa H
 go_wp2
 go_meet
 case rel => exact ⟨_, (wrap64 (Aa + 2)), xrr, H, ⟨xoj HJ2⟩, xdr⟩
 }
 replace H := xa H
 go_wp2
 go_meet
 case rel => exact ⟨_, (Aa), xrr, H, ⟨xoj HJ2⟩, xdr⟩
 )
 case rest => (
 clear Ag
 obtain ⟨kq, Ab, rfl, HA, HJ5, ⟨mc5, rfl⟩⟩ := hcut
 cases kq with
 | zero => exact absurd HA.out (by simp [aZ])
 | succ kj5 => (
 have H := HA.out
 clear HA
 simp only [aZ] at H
 replace H := xbd H
 obtain ⟨Ak, A8, H⟩ := H
 try dsimp only at H
 have Ah := Zz.mk H
 clear H
 go_upto_if 13 with (first | ((with_reducible refine xgc (f := 24) rfl ?_); refine xca 13 Tryd.func24 (aE (w := _) (h := A8.out)) ?_; rintro w' ⟨nd, rfl⟩))
 (try simp only [Act.put, xl1, xl2, xl3])
 go_cut [3] (fun v3 wc => ∃ kq Ac, v3 = .int .i64 Ac ∧ Zz (ba kq a0 Ac = some r) ∧ Zz (kq ≤ kj5) ∧ Drawn0 w wc)
 case first => (
 have H := Ah.out
 clear Ah
 refine xib H ?_ ?_ <;> clear H <;> rintro rfl H
 {
 replace H := xa H
 go_wp2
 go_meet
 case rel => exact ⟨_, (wrap64 (Ab + 4)), xrr, H, ⟨xoJ HJ2 HJ5⟩, xdr⟩
 }
 replace H := xa H
 go_wp2
 go_meet
 case rel => exact ⟨_, (Ab), xrr, H, ⟨xoJ HJ2 HJ5⟩, xdr⟩
 )
 case rest => (
 clear Ah
 obtain ⟨kq, Ac, rfl, HA, HJ8, ⟨mc8, rfl⟩⟩ := hcut
 cases kq with
 | zero => exact absurd HA.out (by simp [ba])
 | succ kj8 => (
 have H := HA.out
 clear HA
 simp only [ba] at H
 replace H := xbd H
 obtain ⟨Al, A11, H⟩ := H
 try dsimp only at H
 have Ae := Zz.mk H
 clear H
 go_upto_if 17 with (first | ((with_reducible refine xgc (f := 24) rfl ?_); refine xca 17 Tryd.func24 (aE (w := _) (h := A11.out)) ?_; rintro w' ⟨nd, rfl⟩))
 (try simp only [Act.put, xl1, xl2, xl3])
 go_cut [3] (fun v3 wc => ∃ kq Ad, v3 = .int .i64 Ad ∧ Zz (bc kq a0 Ad = some r) ∧ Zz (kq ≤ kj8) ∧ Drawn0 w wc)
 case first => (
 have H := Ae.out
 clear Ae
 refine xib H ?_ ?_ <;> clear H <;> rintro rfl H
 {
 replace H := xa H
 go_wp2
 go_meet
 case rel => exact ⟨_, (wrap64 (Ac + 8)), xrr, H, ⟨by have := HJ2.out; have := HJ5.out; have := HJ8.out; first | omega | exact Nat.le_refl _⟩, xdr⟩
 }
 replace H := xa H
 go_wp2
 go_meet
 case rel => exact ⟨_, (Ac), xrr, H, ⟨by have := HJ2.out; have := HJ5.out; have := HJ8.out; first | omega | exact Nat.le_refl _⟩, xdr⟩
 )
 case rest => (
 clear Ae
 obtain ⟨kq, Ad, rfl, HA, HJ11, ⟨mc11, rfl⟩⟩ := hcut
 cases kq with
 | zero => exact absurd HA.out (by simp [bc])
 | succ kj11 => (
 have H := HA.out
 clear HA
 simp only [bc] at H
 replace H := xbd H
 obtain ⟨Am, A14, H⟩ := H
 try dsimp only at H
 refine xib H ?_ ?_ <;> clear H <;> rintro rfl H
 {
 replace H := xbd H
 obtain ⟨An, A16, H⟩ := H
 try dsimp only at H
 refine xib H ?_ ?_ <;> clear H <;> rintro rfl H
 {
 obtain rfl := Option.some.inj H
 go_wp2_with (first | ((with_reducible refine xgc (f := 24) rfl ?_); refine xca 21 Tryd.func24 (aE (w := _) (h := A14.out)) ?_; rintro w' ⟨nd, rfl⟩) | ((with_reducible refine xgc (f := 24) rfl ?_); refine xca 25 Tryd.func24 (aE (w := _) (h := A16.out)) ?_; rintro w' ⟨nd, rfl⟩))
 go_ret
 exact ⟨xrr, xdr⟩
 }
 obtain rfl := Option.some.inj H
 go_wp2_with (first | ((with_reducible refine xgc (f := 24) rfl ?_); refine xca 21 Tryd.func24 (aE (w := _) (h := A14.out)) ?_; rintro w' ⟨nd, rfl⟩) | ((with_reducible refine xgc (f := 24) rfl ?_); refine xca 25 Tryd.func24 (aE (w := _) (h := A16.out)) ?_; rintro w' ⟨nd, rfl⟩))
 go_ret
 exact ⟨xrr, xdr⟩
 }
 replace H := xbd H
 obtain ⟨Ao, A18, H⟩ := H
 try dsimp only at H
 refine xib H ?_ ?_ <;> clear H <;> rintro rfl H
 {
 obtain rfl := Option.some.inj H
 go_wp2_with (first | ((with_reducible refine xgc (f := 24) rfl ?_); refine xca 21 Tryd.func24 (aE (w := _) (h := A14.out)) ?_; rintro w' ⟨nd, rfl⟩) | ((with_reducible refine xgc (f := 24) rfl ?_); refine xca 25 Tryd.func24 (aE (w := _) (h := A18.out)) ?_; rintro w' ⟨nd, rfl⟩))
 go_ret
 exact ⟨xrr, xdr⟩
 }
 obtain rfl := Option.some.inj H
 go_wp2_with (first | ((with_reducible refine xgc (f := 24) rfl ?_); refine xca 21 Tryd.func24 (aE (w := _) (h := A14.out)) ?_; rintro w' ⟨nd, rfl⟩) | ((with_reducible refine xgc (f := 24) rfl ?_); refine xca 25 Tryd.func24 (aE (w := _) (h := A18.out)) ?_; rintro w' ⟨nd, rfl⟩))
 go_ret
 exact ⟨xrr, xdr⟩
 )
 )
 )
 )
 )
 )
 )
 )
def dP (a0 : Int) : Option (ByteArray) := if 0 ≤ ((Int.tdiv a0 16) % 256) then (if ((Int.tdiv a0 16) % 256) ≤ ((((Int.tdiv a0 16) % 256) + 1) % 256) then (if ((((Int.tdiv a0 16) % 256) + 1) % 256) ≤ 16 then (if 1 + ((⟨#[48, 49, 50, 51, 52, 53, 54, 55, 56, 57, 65, 66, 67, 68, 69, 70]⟩ : ByteArray).extract (((Int.tdiv a0 16) % 256) : Int).toNat (((((Int.tdiv a0 16) % 256) + 1) % 256) : Int).toNat).size ≤ 9223372036854775807 then (if 0 ≤ (Int.tmod a0 16) then (if (Int.tmod a0 16) ≤ (((Int.tmod a0 16) + 1) % 256) then (if (((Int.tmod a0 16) + 1) % 256) ≤ 16 then (if ((⟨#[37]⟩ : ByteArray) ++ ((⟨#[48, 49, 50, 51, 52, 53, 54, 55, 56, 57, 65, 66, 67, 68, 69, 70]⟩ : ByteArray).extract (((Int.tdiv a0 16) % 256) : Int).toNat (((((Int.tdiv a0 16) % 256) + 1) % 256) : Int).toNat)).size + ((⟨#[48, 49, 50, 51, 52, 53, 54, 55, 56, 57, 65, 66, 67, 68, 69, 70]⟩ : ByteArray).extract ((Int.tmod a0 16) : Int).toNat ((((Int.tmod a0 16) + 1) % 256) : Int).toNat).size ≤ 9223372036854775807 then (some (((⟨#[37]⟩ : ByteArray) ++ ((⟨#[48, 49, 50, 51, 52, 53, 54, 55, 56, 57, 65, 66, 67, 68, 69, 70]⟩ : ByteArray).extract (((Int.tdiv a0 16) % 256) : Int).toNat (((((Int.tdiv a0 16) % 256) + 1) % 256) : Int).toNat)) ++ ((⟨#[48, 49, 50, 51, 52, 53, 54, 55, 56, 57, 65, 66, 67, 68, 69, 70]⟩ : ByteArray).extract ((Int.tmod a0 16) : Int).toNat ((((Int.tmod a0 16) + 1) % 256) : Int).toNat))) else (none)) else (none)) else (none)) else (none)) else (none)) else (none)) else (none)) else (none)
theorem iX (a0 : Int) (r : ByteArray) (w : World) (h : dP a0 = some r) :
    Calls Tryd.prog 27 #[.int .u8 a0] w fun e w' => e = .returned (.string r) ∧ Drawn0 w w' := by
 have H := h
 clear h
 unfold dP at H
 obtain ⟨Ai, Ac⟩ : ∃ j_ : Int, ((Int.tdiv a0 16) % 256) = j_ := ⟨_, rfl⟩
 first | rw [Ac] at H | simp only [Ac] at H | skip
 try (have Am : (IntKind.u8.wrap (Int.tdiv a0 16)) = Ai := Ac)
 refine xin H ?_; clear H; intro c3 H
 obtain ⟨Az, AA⟩ := xcp c3
 clear c3
 obtain ⟨An, Ad⟩ : ∃ j_ : Int, (((Ai) + 1) % 256) = j_ := ⟨_, rfl⟩
 first | rw [Ad] at H | simp only [Ad] at H | skip
 try (have Ao : (IntKind.u8.wrap ((Ai) + 1)) = An := Ad)
 refine xin H ?_; clear H; intro c5 H
 obtain ⟨AB, AC⟩ := xcp c5
 clear c5
 refine xin H ?_; clear H; intro c6 H
 obtain ⟨AD, AE⟩ := xcp c6
 clear c6
 obtain ⟨Aj, Ae⟩ : ∃ j_ : ByteArray, ((⟨#[48, 49, 50, 51, 52, 53, 54, 55, 56, 57, 65, 66, 67, 68, 69, 70]⟩ : ByteArray).extract ((Ai) : Int).toNat ((An) : Int).toNat) = j_ := ⟨_, rfl⟩
 first | rw [Ae] at H | simp only [Ae] at H | skip
 refine xin H ?_; clear H; intro c8 H
 obtain ⟨AF, AG⟩ := xcp c8
 try have AH : (9223372036854775807 < 1 + (Aj).size) = False := eq_false (Nat.not_lt.2 c8)
 obtain ⟨Ak, Af⟩ : ∃ j_ : Int, (Int.tmod a0 16) = j_ := ⟨_, rfl⟩
 first | rw [Af] at H | simp only [Af] at H | skip
 refine xin H ?_; clear H; intro c10 H
 obtain ⟨Ap, Aq⟩ := xcp c10
 clear c10
 obtain ⟨Ag, Aa⟩ : ∃ j_ : Int, (((Ak) + 1) % 256) = j_ := ⟨_, rfl⟩
 first | rw [Aa] at H | simp only [Aa] at H | skip
 try (have Al : (IntKind.u8.wrap ((Ak) + 1)) = Ag := Aa)
 refine xin H ?_; clear H; intro c12 H
 obtain ⟨Ar, As⟩ := xcp c12
 clear c12
 refine xin H ?_; clear H; intro c13 H
 obtain ⟨At, Au⟩ := xcp c13
 clear c13
 obtain ⟨Ah, Ab⟩ : ∃ j_ : ByteArray, ((⟨#[48, 49, 50, 51, 52, 53, 54, 55, 56, 57, 65, 66, 67, 68, 69, 70]⟩ : ByteArray).extract ((Ak) : Int).toNat ((Ag) : Int).toNat) = j_ := ⟨_, rfl⟩
 first | rw [Ab] at H | simp only [Ab] at H | skip
 refine xin H ?_; clear H; intro c15 H
 obtain ⟨Av, Aw⟩ := xcp c15
 try have Ax : (9223372036854775807 < ((⟨#[37]⟩ : ByteArray) ++ (Aj)).size + (Ah).size) = False := eq_false (Nat.not_lt.2 c15)
 try have Ay : (9223372036854775807 < 1 + (Aj).size + (Ah).size) = False := eq_false (Nat.not_lt.2 (by have h_ := c15; simp only [ByteArray.size_append] at h_; exact h_))
 obtain rfl := Option.some.inj H
 go_enter Tryd.func27, Tryd.ntmps27
 go_wp2
 repeat (go_quiet (fail); try go_wp2)
 go_ret
 exact ⟨by first | exact xrs | (simp only [← Ac, ← Ad, ← Ae, ← Af, ← Aa, ← Ab] <;> (first | rfl | simp)) | exact xrr, xdr⟩
mutual
def aT : Nat → ByteArray → Int → Bool → Bool → ByteArray → Int → Option (ByteArray)
  | 0, _, _, _, _, _, _ => none
  | k + 1, x0, x1, x2, x3, x9, Aa => if Aa < (x0.size : Int) then ((dO k x0 Aa).bind fun Ab => (if Ab < 0 then (if 0 ≤ Aa then (if Aa ≤ (wrap64 (Aa + 1)) then (if (wrap64 (Aa + 1)) ≤ (x0.size : Int) then (if x9.size + (x0.extract (Aa : Int).toNat ((wrap64 (Aa + 1)) : Int).toNat).size ≤ 9223372036854775807 then (aT k x0 x1 x2 x3 (x9 ++ (x0.extract (Aa : Int).toNat ((wrap64 (Aa + 1)) : Int).toNat)) (wrap64 (Aa + 1))) else (none)) else (none)) else (none)) else (none)) else (if x2 = true then (b7 k x0 x1 x2 x3 x9 Aa Ab true) else ((bH k ((Ab) % 256)).bind fun Ac => (b7 k x0 x1 x2 x3 x9 Aa Ab ((Go.bits .and .i64 Ac x1) != 0)))))) else (some x9)
def b7 : Nat → ByteArray → Int → Bool → Bool → ByteArray → Int → Int → Bool → Option (ByteArray)
  | 0, _, _, _, _, _, _, _, _ => none
  | k + 1, x0, x1, x2, x3, x9, Aa, Ad, Ae => if Ae = true then ((some (([(Ad) % 256] : List Int) : List Int)).bind fun Ab => (if x9.size + (strOfNums Ab).size ≤ 9223372036854775807 then (aT k x0 x1 x2 x3 (x9 ++ (strOfNums Ab)) (wrap64 (Aa + 3))) else (none))) else (if x3 = true then ((dP ((Ad) % 256)).bind fun Ac => (if x9.size + Ac.size ≤ 9223372036854775807 then (aT k x0 x1 x2 x3 (x9 ++ Ac) (wrap64 (Aa + 3))) else (none))) else (if 0 ≤ Aa then (if Aa ≤ (wrap64 (Aa + 3)) then (if (wrap64 (Aa + 3)) ≤ (x0.size : Int) then (if x9.size + (x0.extract (Aa : Int).toNat ((wrap64 (Aa + 3)) : Int).toNat).size ≤ 9223372036854775807 then (aT k x0 x1 x2 x3 (x9 ++ (x0.extract (Aa : Int).toNat ((wrap64 (Aa + 3)) : Int).toNat)) (wrap64 (Aa + 3))) else (none)) else (none)) else (none)) else (none)))
end
def dm (k : Nat) (a0 : ByteArray) (a1 : Int) (a2 : Bool) (a3 : Bool) : Option (ByteArray) := aT k a0 a1 a2 a3 (⟨#[]⟩ : ByteArray) 0
theorem iv (k : Nat) (a0 : ByteArray) (a1 : Int) (a2 : Bool) (a3 : Bool) (r : ByteArray) (w : World) (h : dm k a0 a1 a2 a3 = some r) :
    Calls Tryd.prog 14 #[.string a0, .int .i64 a1, .bool a2, .bool a3] w fun e w' => e = .returned (.string r) ∧ Below w.heap.size w w' := by
 have HB := Zz.mk (Below.refl w.heap.size w)
 have H := h
 clear h
 unfold dm at H
 have H' := Zz.mk H
 clear H
 go_enter Tryd.func14, Tryd.ntmps14
 go_wp2
 go_loopg [9, 10] k (fun kq v9 v10 w' => ∃ Ab Aa, v9 = .string Ab ∧ v10 = .int .i64 Aa ∧ Zz (aT kq a0 a1 a2 a3 Ab Aa = some r) ∧ Zz (kq ≤ k) ∧ Zz (Below w.heap.size w w'))
 case atStart => exact ⟨((⟨#[]⟩ : ByteArray)), (0), xrr, xrr, H', ⟨Nat.le_refl _⟩, ⟨xbl⟩⟩
 case round => (
 clear H'
 obtain ⟨Ab, Aa, rfl, rfl, HA, HK1, HB⟩ := hrel
 cases gk with
 | zero => exact absurd HA.out (by simp [aT])
 | succ k1 => (
 have H := HA.out
 clear HA
 simp only [aT] at H
 refine xid H ?_ ?_ <;> clear H <;> intro c5 H
 {
 have Ap := xdt c5
 clear c5
 replace H := xbd H
 obtain ⟨Ah, A6, H⟩ := H
 try dsimp only at H
 refine xid H ?_ ?_ <;> clear H <;> intro c7 H
 {
 have Aq := xdt c7
 clear c7
 refine xin H ?_; clear H; intro c8 H
 obtain ⟨AV, AW⟩ := xcp c8
 clear c8
 obtain ⟨Av, Ai⟩ : ∃ j_ : Int, (wrap64 (Aa + 1)) = j_ := ⟨_, rfl⟩
 first | rw [Ai] at H | simp only [Ai] at H | skip
 (try rw [Ai] at A6)
 have Ay : (IntKind.i64.wrap (Aa + 1)) = Av := (an _).trans Ai
 refine xin H ?_; clear H; intro c10 H
 obtain ⟨Az, AA⟩ := xcp c10
 clear c10
 refine xin H ?_; clear H; intro c11 H
 obtain ⟨AB, AC⟩ := xcp c11
 clear c11
 obtain ⟨Ar, Ac⟩ : ∃ j_ : ByteArray, (a0.extract (Aa : Int).toNat ((Av) : Int).toNat) = j_ := ⟨_, rfl⟩
 try (have Al := Ac; simp only [Int.toNat_natCast] at Al)
 first | rw [Ac] at H | simp only [Ac] at H | skip
 (try rw [Ac] at A6)
 refine xin H ?_; clear H; intro c13 H
 obtain ⟨AD, AE⟩ := xcp c13
 try have AF : (9223372036854775807 < Ab.size + (Ar).size) = False := eq_false (Nat.not_lt.2 c13)
 replace H := xa H
 go_wp2_with (first | ((with_reducible refine xgc (f := 25) rfl ?_); refine xca 18 Tryd.func25 (gb (w := _) (h := A6.out)) ?_; rintro w' ⟨nd, rfl⟩))
 first | go_roundg k1 | (simp only [← Ai, ← Ac]; go_roundg k1)
 case measure => have := HK1.out; omega
 case rel => exact ⟨(Ab ++ (Ar)), (Av), (by first | rfl | (simp; done) | (simp only [← Ac] <;> (first | rfl | (rw [Int.tdiv_eq_ediv_of_nonneg (by unfold mx; split <;> omega)]; done) | simp)) | (simp [*]; done) | (simp [wrap64]; done)), (by first | rfl | (simp; done) | (simp only [← Ai] <;> (first | rfl | (rw [Int.tdiv_eq_ediv_of_nonneg (by unfold mx; split <;> omega)]; done) | simp)) | (simp [*]; done) | (simp [wrap64]; done)), H, ⟨by have := HK1.out; omega⟩, ⟨xbl⟩⟩
 }
 have Aq := xdf c7
 clear c7
 have Am := Zz.mk H
 clear H
 go_upto_region 8 with (first | ((with_reducible refine xgc (f := 25) rfl ?_); refine xca 18 Tryd.func25 (gb (w := _) (h := A6.out)) ?_; rintro w' ⟨nd, rfl⟩))
 (try simp only [Act.put, xl1, xl2, xl3])
 go_cut [38] (fun v38 wc => ∃ kq Ag, v38 = .bool Ag ∧ Zz (b7 kq a0 a1 a2 a3 Ab Aa Ah Ag = some r) ∧ Zz (kq ≤ k1) ∧ Zz (Below w.heap.size w wc))
 case first => (
 have H := Am.out
 clear Am
 refine xib H ?_ ?_ <;> clear H <;> rintro rfl H
 {
 replace H := xa H
 go_wp2
 go_meet
 case rel => exact ⟨_, (true), xrr, H, ⟨xoj HK1⟩, ⟨xbl⟩⟩
 }
 replace H := xbd H
 obtain ⟨Aw, A16, H⟩ := H
 try dsimp only at H
 replace H := xa H
 go_wp2_with (first | (go_at_call 26; (with_reducible refine (ic (w := _) (h := A16.out)).mono ?_); rintro e w' ⟨rfl, ⟨nd, rfl⟩⟩))
 go_meet
 case rel => exact ⟨_, (((Go.bits .and .i64 Aw a1) != 0)), xrr, H, ⟨xoj HK1⟩, ⟨xbl⟩⟩
 )
 case rest => (
 clear Am
 clear Ap Aq
 obtain ⟨kq, Ag, rfl, HA, HJ13, HB⟩ := hcut
 cases kq with
 | zero => exact absurd HA.out (by simp [b7])
 | succ kj13 => (
 have H := HA.out
 clear HA
 simp only [b7] at H
 refine xib H ?_ ?_ <;> clear H <;> rintro rfl H
 {
 obtain ⟨Aj, Ad⟩ : ∃ y_ : List Int, y_ = (([(Ah) % 256] : List Int)) := ⟨_, rfl⟩
 replace H : (if Ab.size + (strOfNums Aj).size ≤ 9223372036854775807 then (aT kj13 a0 a1 a2 a3 (Ab ++ (strOfNums Aj)) (wrap64 (Aa + 3))) else (none)) = some r := by first | (rw [Ad]; with_reducible exact H) | (have H2_ := (Option.bind_some _ _).symm.trans H; rw [Ad]; with_reducible exact H2_) | (have H2_ := (Option.bind_some _ _).symm.trans H; with_reducible exact H2_) | with_reducible exact H | (rw [Ad]; exact H) | exact H
 have Ak := Zz.mk Ad
 clear Ad
 refine xin H ?_; clear H; intro c18 H
 obtain ⟨AG, AH⟩ := xcp c18
 try have AI : (9223372036854775807 < Ab.size + (strOfNums Aj).size) = False := eq_false (Nat.not_lt.2 c18)
 replace H := xa H
 go_wp2_with (first | ((with_reducible refine af (N := 42) rfl ?_); refine Kd.R_lit (Kd.int .u8) _ 5 ?hg (N := 42) ?hd (xs := ([(Ah) % 256] : List Int)) (inner := [.int .u8 ((Ah) % 256)]) (ok := fun _ => True) (okp := fun _ => True) ?hr ?hp (fun _ hk => hk) trivial (Below.refl _ _) (Nat.le_refl _) (by simp) ?_; (case hd => rfl); (case hg => rfl); (case hr => first | (go_simp; done) | (go_simp; rfl)); (case hp => exact (Reps.one (show Kd.M (Kd.int .u8) _ _ _ ((Ah) % 256) [.int .u8 ((Ah) % 256)] from rfl) (Reps.none _ _))); intro v615 w19 ho20 hb hg_ hnew_; clear hg_ hnew_; (first | rw [← Ak.out] at ho20 | (simp only [Int.reduceToNat] at ho20; rw [← Ak.out] at ho20)); have As := Zz.mk (Kd.R_lower ho20 (aD xbl)); replace HB := xst hb; clear hb ho20; have hcv21 := gm (P := Tryd.prog) Tryd.underlying44 Tryd.underlying5 Tryd.underlying9 (Kd.own_of_R As.out)))
 go_roundg kj13
 case measure => have := HK1.out; have := HJ13.out; omega
 case rel => exact ⟨(Ab ++ (strOfNums Aj)), (wrap64 (Aa + 3)), xrr, xrr, H, ⟨by have := HK1.out; have := HJ13.out; omega⟩, ⟨xbl⟩⟩
 }
 refine xib H ?_ ?_ <;> clear H <;> rintro rfl H
 {
 replace H := xbd H
 obtain ⟨At, A23, H⟩ := H
 try dsimp only at H
 refine xin H ?_; clear H; intro c24 H
 obtain ⟨AJ, AK⟩ := xcp c24
 try have AL : (9223372036854775807 < Ab.size + At.size) = False := eq_false (Nat.not_lt.2 c24)
 replace H := xa H
 go_wp2_with (first | ((with_reducible refine xgc (f := 27) rfl ?_); refine xca 49 Tryd.func27 (iX (w := _) (h := A23.out)) ?_; rintro w' ⟨nd, rfl⟩))
 go_roundg kj13
 case measure => have := HK1.out; have := HJ13.out; omega
 case rel => exact ⟨(Ab ++ At), (wrap64 (Aa + 3)), xrr, xrr, H, ⟨by have := HK1.out; have := HJ13.out; omega⟩, ⟨xbl⟩⟩
 }
 refine xin H ?_; clear H; intro c25 H
 obtain ⟨AM, AN⟩ := xcp c25
 clear c25
 obtain ⟨An, Ae⟩ : ∃ j_ : Int, (wrap64 (Aa + 3)) = j_ := ⟨_, rfl⟩
 first | rw [Ae] at H | simp only [Ae] at H | skip
 have Ax : (IntKind.i64.wrap (Aa + 3)) = An := (an _).trans Ae
 refine xin H ?_; clear H; intro c27 H
 obtain ⟨AO, AP⟩ := xcp c27
 clear c27
 refine xin H ?_; clear H; intro c28 H
 obtain ⟨AQ, AR⟩ := xcp c28
 clear c28
 obtain ⟨Au, Af⟩ : ∃ j_ : ByteArray, (a0.extract (Aa : Int).toNat ((An) : Int).toNat) = j_ := ⟨_, rfl⟩
 try (have Ao := Af; simp only [Int.toNat_natCast] at Ao)
 first | rw [Af] at H | simp only [Af] at H | skip
 refine xin H ?_; clear H; intro c30 H
 obtain ⟨AS, AT⟩ := xcp c30
 try have AU : (9223372036854775807 < Ab.size + (Au).size) = False := eq_false (Nat.not_lt.2 c30)
 replace H := xa H
 go_wp2
 first | go_roundg kj13 | (simp only [← Ae, ← Af]; go_roundg kj13)
 case measure => have := HK1.out; have := HJ13.out; omega
 case rel => exact ⟨(Ab ++ (Au)), (An), (by first | rfl | (simp; done) | (simp only [← Af] <;> (first | rfl | (rw [Int.tdiv_eq_ediv_of_nonneg (by unfold mx; split <;> omega)]; done) | simp)) | (simp [*]; done) | (simp [wrap64]; done)), (by first | rfl | (simp; done) | (simp only [← Ae] <;> (first | rfl | (rw [Int.tdiv_eq_ediv_of_nonneg (by unfold mx; split <;> omega)]; done) | simp)) | (simp [*]; done) | (simp [wrap64]; done)), H, ⟨by have := HK1.out; have := HJ13.out; omega⟩, ⟨xbl⟩⟩
 )
 )
 }
 have Ap := xdf c5
 clear c5
 obtain rfl := Option.some.inj H
 go_wp2
 go_ret
 exact ⟨xre, xbl⟩
 )
 )
def dD (k : Nat) (Ac : ByteArray) (Ad : ByteArray) (Ae : ByteArray) (Af : ByteArray) (Ag : ByteArray) (Ah : Bool) (Ai : Bool) (Aj : Bool) : Option (ByteArray) := (dS k Ac).bind fun Aa => (if 4 + Aa.size ≤ 9223372036854775807 then (if ((⟨#[117, 114, 110, 58]⟩ : ByteArray) ++ Aa).size + 1 ≤ 9223372036854775807 then ((dm k Ad 0 false true).bind fun Ab => (if (((⟨#[117, 114, 110, 58]⟩ : ByteArray) ++ Aa) ++ (⟨#[58]⟩ : ByteArray)).size + Ab.size ≤ 9223372036854775807 then (some ((((⟨#[117, 114, 110, 58]⟩ : ByteArray) ++ Aa) ++ (⟨#[58]⟩ : ByteArray)) ++ Ab)) else (none))) else (none)) else (none))
theorem iQ (k : Nat) (Ac : ByteArray) (Ad : ByteArray) (Ae : ByteArray) (Af : ByteArray) (Ag : ByteArray) (Ah : Bool) (Ai : Bool) (Aj : Bool) (r : ByteArray) (w : World) (h : dD k Ac Ad Ae Af Ag Ah Ai Aj = some r) :
    Calls Tryd.prog 8 #[.agg #[.string Ac, .string Ad, .string Ae, .string Af, .string Ag, .bool Ah, .bool Ai, .bool Aj]] w fun e w' => e = .returned (.string r) ∧ Below w.heap.size w w' := by
 have hu27 := Tryd.underlying27
 have HB := Zz.mk (Below.refl w.heap.size w)
 have H := h
 clear h
 unfold dD at H
 replace H := xbd H
 obtain ⟨Ab, A2, H⟩ := H
 try dsimp only at H
 refine xin H ?_; clear H; intro c3 H
 obtain ⟨An, Ao⟩ := xcp c3
 try have Ap : (9223372036854775807 < 4 + Ab.size) = False := eq_false (Nat.not_lt.2 c3)
 refine xin H ?_; clear H; intro c4 H
 obtain ⟨Aq, Ar⟩ := xcp c4
 try have As : (9223372036854775807 < ((⟨#[117, 114, 110, 58]⟩ : ByteArray) ++ Ab).size + 1) = False := eq_false (Nat.not_lt.2 c4)
 try have At : (9223372036854775807 < 4 + Ab.size + 1) = False := eq_false (Nat.not_lt.2 (by have h_ := c4; simp only [ByteArray.size_append] at h_; exact h_))
 replace H := xbd H
 obtain ⟨Al, A5, H⟩ := H
 try dsimp only at H
 refine xin H ?_; clear H; intro c6 H
 obtain ⟨Au, Av⟩ := xcp c6
 try have Aw : (9223372036854775807 < (((⟨#[117, 114, 110, 58]⟩ : ByteArray) ++ Ab) ++ (⟨#[58]⟩ : ByteArray)).size + Al.size) = False := eq_false (Nat.not_lt.2 c6)
 try have Ax : (9223372036854775807 < 4 + Ab.size + 1 + Al.size) = False := eq_false (Nat.not_lt.2 (by have h_ := c6; simp only [ByteArray.size_append] at h_; exact h_))
 obtain rfl := Option.some.inj H
 go_enter Tryd.func8, Tryd.ntmps8
 try go_wp2_with (first | ((with_reducible refine af (N := 1) rfl ?_); refine xew 1 ?_; intro Ak w7 Aa Am hb hg; replace HB := xst hb; clear hb hg))
 replace Aa := Zz.mk (bg Aa.out)
 replace HB := Zz.mk (aw HB.out)
 refine xsr 10 [] (xs8 Aa.out) (fun hHeld => ?_)
 generalize w7.drew = w8 at Aa HB hHeld ⊢
 refine xpu 0 3 ?_
 refine xpu 5 8 ?_
 refine xtk 1 4 ?_
 refine xtk 6 9 ?_
 refine xon 2 5 Tryd.func13 (ie (w := _) (h := A2.out)) ?_
 rintro w9 hb
 replace Aa := xbb (g := Ak) (o := .cells #[.string Ac, .string Ad, .string Ae, .string Af, .string Ag, .bool Ah, .bool Ai, .bool Aj] 27 (0, 0)) hb
 replace HB := xst hb
 (try clear hb)
 refine ⟨xs8 Aa.out, fun hHeld => ?_⟩
 refine xpu 3 6 ?_
 refine xpu 4 7 ?_
 refine xon 7 10 Tryd.func14 (iv (w := _) (h := A5.out)) ?_
 rintro w10 hb
 replace Aa := xbb (g := Ak) (o := .cells #[.string Ac, .string Ad, .string Ae, .string Af, .string Ag, .bool Ah, .bool Ai, .bool Aj] 27 (0, 0)) hb
 replace HB := xst hb
 (try clear hb)
 refine ⟨xs8 Aa.out, fun hHeld => ?_⟩
 refine xpu 8 11 ?_
 refine xpu 9 2 ?_
 refine xdn ?_
 try go_wp2
 go_ret
 exact ⟨xre, xbl⟩
def dk (k : Nat) (Aa : ByteArray) (Ab : ByteArray) (Ac : ByteArray) (Ad : ByteArray) (Ae : ByteArray) (Af : Bool) (Ag : Bool) (Ah : Bool) : Option (Bool) := if (wrap64 ((wrap64 ((wrap64 ((wrap64 ((Aa.size : Int) + (Ab.size : Int))) + (Ac.size : Int))) + (Ad.size : Int))) + (Ae.size : Int))) > 300 then ((bG k).bind fun Ai => (some Ai)) else ((et k Aa Ab Ac Ad Ae Af Ag Ah).bind fun Aj => ((dn k Aa Ab Ac Ad Ae Af Ag Ah).bind fun Ak => (if Aj.toList = Ak.toList then ((ci k Aa Ab Ac Ad Ae Af Ag Ah).bind fun Al => ((dD k Aa Ab Ac Ad Ae Af Ag Ah).bind fun Am => (if Al.toList = Am.toList then ((bG k).bind fun An => (some An)) else (none)))) else (none))))
theorem gK (k : Nat) (Ac : ByteArray) (Ad : ByteArray) (Ae : ByteArray) (Af : ByteArray) (Ag : ByteArray) (Ah : Bool) (Ai : Bool) (Aj : Bool) (r : Bool) (w : World) (hG : GW w) (h : dk k Ac Ad Ae Af Ag Ah Ai Aj = some r) :
    Calls Tryd.prog 3 #[.agg #[.string Ac, .string Ad, .string Ae, .string Af, .string Ag, .bool Ah, .bool Ai, .bool Aj]] w fun e w' => e = .returned (.bool r) ∧ Below w.heap.size w w' := by
 have hu23 := Tryd.underlying23
 have HB := Zz.mk (Below.refl w.heap.size w)
 have H := h
 clear h
 unfold dk at H
 refine xid H ?_ ?_ <;> clear H <;> intro c2 H
 {
 have An := xdt c2
 clear c2
 replace H := xbd H
 obtain ⟨Ao, A3, H⟩ := H
 try dsimp only at H
 obtain rfl := Option.some.inj H
 go_enter Tryd.func3, Tryd.ntmps3
 go_wp2_with (first | ((with_reducible refine af (N := 1) rfl ?_); refine xew 1 ?_; intro Ab w4 Aa Ak hb hg; replace HB := xst hb; clear hb hg; have Ax := xz8 Aa.out) | ((with_reducible refine xgc (f := 4) rfl ?_); refine xgl 23 Tryd.func4 #[] ?_; (with_reducible refine (ft k  Ao _ ?side1 A3.out).mono ?_); (case side1 => first | (with_reducible exact hG) | exact cT hG xbl); rintro e w6 ⟨rfl, hb⟩; refine ⟨_, rfl, ?_⟩; replace Aa := xbq Ab hb; replace HB := xst hb; (try clear hb)))
 go_ret
 exact ⟨xre, xbl⟩
 }
 have An := xdf c2
 clear c2
 replace H := xbd H
 obtain ⟨As, A7, H⟩ := H
 try dsimp only at H
 replace H := xbd H
 obtain ⟨At, A8, H⟩ := H
 try dsimp only at H
 refine xid H ?_ ?_ <;> clear H <;> intro c9 H
 {
 obtain ⟨Ap, Aq⟩ := xqe c9
 clear c9
 replace H := xbd H
 obtain ⟨Au, A10, H⟩ := H
 try dsimp only at H
 replace H := xbd H
 obtain ⟨Av, A11, H⟩ := H
 try dsimp only at H
 refine xid H ?_ ?_ <;> clear H <;> intro c12 H
 {
 obtain ⟨Al, Am⟩ := xqe c12
 clear c12
 replace H := xbd H
 obtain ⟨Ar, A13, H⟩ := H
 try dsimp only at H
 obtain rfl := Option.some.inj H
 go_enter Tryd.func3, Tryd.ntmps3
 try go_wp2_with (first | ((with_reducible refine af (N := 1) rfl ?_); refine xew 1 ?_; intro Ab w14 Aa Ak hb hg; replace HB := xst hb; clear hb hg; have Aw := xz8 Aa.out))
 replace Aa := Zz.mk (bg Aa.out)
 replace HB := Zz.mk (aw HB.out)
 refine xsr 16 [] (xs8 Aa.out) (fun hHeld => ?_)
 generalize w14.drew = w16 at Aa HB hHeld ⊢
 refine xtk 0 24 ?_
 refine xtk 2 26 ?_
 refine xon 1 25 Tryd.func5 (jr (w := _) (h := A7.out)) ?_
 rintro w17 hb
 replace Aa := xbb (g := Ab) (o := .cells #[.string Ac, .string Ad, .string Ae, .string Af, .string Ag, .bool Ah, .bool Ai, .bool Aj] 23 (0, 0)) hb
 replace HB := xst hb
 (try clear hb)
 refine ⟨xs8 Aa.out, fun hHeld => ?_⟩
 refine xon 3 27 Tryd.func6 (iw (w := _) (h := A8.out)) ?_
 rintro w18 hb
 replace Aa := xbb (g := Ab) (o := .cells #[.string Ac, .string Ad, .string Ae, .string Af, .string Ag, .bool Ah, .bool Ai, .bool Aj] 23 (0, 0)) hb
 replace HB := xst hb
 (try clear hb)
 refine ⟨xs8 Aa.out, fun hHeld => ?_⟩
 refine xpu 4 28 ?_
 refine xpu 5 29 ?_
 refine xtk 6 30 ?_
 refine xtk 8 32 ?_
 refine xon 7 31 Tryd.func7 (fw (w := _) (h := A10.out)) ?_
 rintro w19 hb
 replace Aa := xbb (g := Ab) (o := .cells #[.string Ac, .string Ad, .string Ae, .string Af, .string Ag, .bool Ah, .bool Ai, .bool Aj] 23 (0, 0)) hb
 replace HB := xst hb
 (try clear hb)
 refine ⟨xs8 Aa.out, fun hHeld => ?_⟩
 refine xon 9 33 Tryd.func8 (iQ (w := _) (h := A11.out)) ?_
 rintro w20 hb
 replace Aa := xbb (g := Ab) (o := .cells #[.string Ac, .string Ad, .string Ae, .string Af, .string Ag, .bool Ah, .bool Ai, .bool Aj] 23 (0, 0)) hb
 replace HB := xst hb
 (try clear hb)
 refine ⟨xs8 Aa.out, fun hHeld => ?_⟩
 refine xpu 10 34 ?_
 refine xpu 11 35 ?_
 refine xpu 12 36 ?_
 refine fv (i := 13) (N := some 37) #[true, true, true, true, true, true, true, true, true, true, true, true, true, true, false, false] rfl rfl (e4 rfl (by kernel_rfl)) (by decide) (fun K hK => ?_)
 refine jD Tryd.func4 (by kernel_rfl) rfl #[] (by rfl) rfl rfl (by (try simp only [List.map_toArray, List.map_cons, List.map_nil]); first | done | rfl | (simp only [List.length_drop, List.length_take]; rfl)) ?_
 with_reducible refine (ft k  Ar _ ?side1 A13.out).mono ?_
 (case side1 => first | (with_reducible exact hG) | exact cT hG xbl)
 rintro e w21 ⟨rfl, hb⟩
 refine ⟨_, rfl, ?_⟩
 replace Aa := xbb (g := Ab) (o := .cells #[.string Ac, .string Ad, .string Ae, .string Af, .string Ag, .bool Ah, .bool Ai, .bool Aj] 23 (0, 0)) hb
 replace HB := xst hb
 (try clear hb)
 refine hK.out _ _ (xs8 Aa.out) (fun hHeld => ?_)
 clear hK K
 refine eR (a' := ?_) ?_ ?_
 rotate_left
 {
 show Act.put _ (some 37) _ = _
 simp only [Act.put, xl1, xl2, xl3, an, au]
 rfl
 }
 refine xpu 14 38 ?_
 refine xpu 15 2 ?_
 refine xdn ?_
 try go_wp2
 go_ret
 exact ⟨xre, xbl⟩
 }
 obtain ⟨Al, Am⟩ := xqn c12
 exact absurd H (by simp)
 }
 obtain ⟨Ap, Aq⟩ := xqn c9
 exact absurd H (by simp)
end Go.Proofs.YtojdiklegmhakaaDoor.X
namespace Go.Proofs.YtojdiklegmhakaaDoor.M
open Go Go.RowKit Go.Proofs.YtojdiklegmhakaaDoorW.PrintWords
theorem w64 {x : Int} (h1 : -9223372036854775808 ≤ x) (h2 : x ≤ 9223372036854775807) : wrap64 x = x := by unfold wrap64; omega
theorem mL {a b : ByteArray} (h : ae a = ae b) : a = b := by
  unfold ae at h
  have : a.data.toList = b.data.toList := by
    apply List.map_inj_right (f := fun b : UInt8 => (b.toNat : Int)) _ |>.1 h
    intro x y hxy
    exact UInt8.toNat_inj.1 (by omega)
  cases a; cases b
  simp only [ByteArray.mk.injEq]
  exact Array.toList_inj.1 this
theorem cX (a b : ByteArray) : ae (a ++ b) = ae a ++ ae b := by
  unfold ae
  rw [ByteArray.data_append, Array.toList_append, List.map_append]
theorem ee (a : ByteArray) (i j : Nat) : ae (a.extract i j) = ((ae a).take j).drop i := by
  unfold ae
  rw [ByteArray.data_extract, Array.toList_extract, List.extract_eq_take_drop, List.map_take, List.map_drop, List.drop_take]
theorem iM {s : ByteArray} {x : Int} (h : x ∈ ae s) : 0 ≤ x ∧ x ≤ 255 := by
  unfold ae at h
  obtain ⟨b, _, rfl⟩ := List.mem_map.1 h
  have := b.toNat_lt
  omega
theorem bl (s : ByteArray) : (ae s).length = s.size := eA s
theorem lY (s : ByteArray) (i : Nat) : bt s (i : Int) = (ae s).getD i 0 := by
  rw [← mv]; unfold rd; simp
theorem mZ {s : ByteArray} {n : Nat} (h : n < s.size) : (ae s).take (n + 1) = (ae s).take n ++ [bt s (n : Int)] := by
  have hl : n < (ae s).length := by rw [bl]; exact h
  rw [List.take_succ_eq_append_getElem hl, lY, List.getD_eq_getElem?_getD, List.getElem?_eq_getElem hl]
  rfl
theorem hP (s : ByteArray) (i : Int) : 0 ≤ bt s i ∧ bt s i ≤ 255 := nb s i
theorem oB {α : Type} {g : Nat → Option α} {r : α} (h : ∀ k, g k = some r) : Ev g r := ⟨0, fun k _ => h k⟩
theorem bx {α β : Type} {g : Nat → Option α} {f : Nat → α → Option β} {a : α} {r : β} (h : Ev g a) (k : Ev (fun n => f n a) r) : Ev (fun n => (g n).bind fun t => f n t) r := Ev.bind h k
theorem hO {α β : Type} {o : Option α} {f : Nat → α → Option β} {a : α} {r : β} (h : o = some a) (k : Ev (fun n => f n a) r) : Ev (fun n => o.bind fun t => f n t) r := by
  subst h; exact k
theorem ah {α : Type} {c : Prop} [Decidable c] {g f : Nat → Option α} {r : α} (h : c) (k : Ev g r) : Ev (fun n => if c then g n else f n) r := by
  simp only [if_pos h]; exact k
theorem aJ {α : Type} {c : Prop} [Decidable c] {g f : Nat → Option α} {r : α} (h : ¬ c) (k : Ev f r) : Ev (fun n => if c then g n else f n) r := by
  simp only [if_neg h]; exact k
theorem Ev.ite {α : Type} {c : Prop} [Decidable c] {g f : Nat → Option α} {r : α} (h : c → Ev g r) (k : ¬ c → Ev f r) : Ev (fun n => if c then g n else f n) r := by
  by_cases hc : c
  · exact ah hc (h hc)
  · exact aJ hc (k hc)
theorem Ev.val {α : Type} {a r : α} (h : a = r) : Ev (fun _ => some a) r := by subst h; exact cW _
theorem fV {p : Int → Prop} (h : ∀ n : Fin 256, p ((n.val : Nat) : Int)) {b : Int} (h0 : 0 ≤ b) (h1 : b ≤ 255) : p b := by
  have := h ⟨b.toNat, by omega⟩
  simp only at this
  rwa [Int.toNat_of_nonneg h0] at this
def od (b : Int) : Bool := decide (65 ≤ b ∧ b ≤ 90 ∨ 97 ≤ b ∧ b ≤ 122)
def og (b : Int) : Bool := decide (48 ≤ b ∧ b ≤ 57)
def kM (b : Int) : Bool := decide (48 ≤ b ∧ b ≤ 57 ∨ 65 ≤ b ∧ b ≤ 70 ∨ 97 ≤ b ∧ b ≤ 102)
def oq (b : Int) : Bool := decide (b = 45 ∨ b = 46 ∨ b = 95 ∨ b = 126)
def ow (b : Int) : Bool := decide (b = 33 ∨ b = 36 ∨ 38 ≤ b ∧ b ≤ 44 ∨ b = 59 ∨ b = 61)
def ou (b : Int) : Bool := decide (b = 58 ∨ b = 47 ∨ b = 63 ∨ b = 35 ∨ b = 91 ∨ b = 93 ∨ b = 64)
def cls (b : Int) : Int := (if od b then 1 else 0) + (if og b then 2 else 0) + (if oq b then 4 else 0) + (if ow b then 8 else 0) + (if ou b then 16 else 0) + (if kM b then 32 else 0)
def isc (b c : Int) : Bool := Go.bits .and .i64 (cls b) c != 0
def hv (b : Int) : Int := if 48 ≤ b ∧ b ≤ 57 then b - 48 else if 65 ≤ b ∧ b ≤ 70 then b - 55 else if 97 ≤ b ∧ b ≤ 102 then b - 87 else -1
theorem gE (b : Int) : -1 ≤ hv b ∧ hv b ≤ 15 := by unfold hv; (repeat' split) <;> omega
theorem l7 (b : Int) : (0 ≤ hv b) ↔ kM b = true := by
  unfold hv kM
  rw [decide_eq_true_iff]
  (repeat' split) <;> omega
def jf (b : Int) : Int := if 65 ≤ b ∧ b ≤ 90 then b + 32 else b
end Go.Proofs.YtojdiklegmhakaaDoor.M
namespace Go.Proofs.YtojdiklegmhakaaDoor.M
open Go Go.RowKit Go.Proofs.YtojdiklegmhakaaDoorW.PrintWords
end Go.Proofs.YtojdiklegmhakaaDoor.M
namespace Go.Proofs.YtojdiklegmhakaaDoor.M
open Go Go.RowKit Go.Proofs.YtojdiklegmhakaaDoorW.PrintWords
end Go.Proofs.YtojdiklegmhakaaDoor.M
namespace Go.Proofs.YtojdiklegmhakaaDoor.M
open Go Go.RowKit Go.Proofs.YtojdiklegmhakaaDoorW.PrintWords Go.Proofs.YtojdiklegmhakaaDoorW.PrintLast Go.Proofs.YtojdiklegmhakaaDoorW.PrintMore
theorem fu {l : List Int} (h : ∀ b ∈ l, 0 ≤ b ∧ b ≤ 255) : ae (strOfNums l) = l := by
  unfold ae strOfNums
  show ((l.map fun n => UInt8.ofNat n.toNat).toArray.toList).map _ = l
  rw [List.map_map]
  have : ∀ b ∈ l, ((fun b : UInt8 => (b.toNat : Int)) ∘ fun n : Int => UInt8.ofNat n.toNat) b = b := by
    intro b hb
    have := h b hb
    show ((UInt8.ofNat b.toNat).toNat : Int) = b
    rw [UInt8.toNat_ofNat']
    omega
  rw [List.map_congr_left this, List.map_id'']
  intro b; rfl
theorem ke {s : ByteArray} {l : List Int} (h : ae s = l) : s = strOfNums l := by
  subst h
  exact mL (fu (fun b hb => iM hb)).symm
theorem mY (s : ByteArray) : strOfNums (ae s) = s := (ke rfl).symm
theorem ik {l : List Int} (h : ∀ b ∈ l, 0 ≤ b ∧ b ≤ 255) : (strOfNums l).size = l.length := by rw [← bl, fu h]
end Go.Proofs.YtojdiklegmhakaaDoor.M
namespace Go.Proofs.YtojdiklegmhakaaDoor.Y
open Go.RowKit Go.Proofs.YtojdiklegmhakaaDoor.X Go.Proofs.YtojdiklegmhakaaDoor.M Go.Proofs.YtojdiklegmhakaaDoorW.PrintWords Go.Proofs.YtojdiklegmhakaaDoorW.PrintLast Go.Proofs.YtojdiklegmhakaaDoorW.PrintMore
theorem oo {b : Int} (h0 : 0 ≤ b) (h1 : b ≤ 255) : dy b = some (jf b) :=
  fV (p := fun b => dy b = some (jf b)) (by decide +kernel) h0 h1
theorem ma {b : Int} (h0 : 0 ≤ b) (h1 : b ≤ 255) : Ev (fun k => cu k b) (if hv b < 0 then (0, false) else (hv b, true)) :=
  jQ (fun k => d5 b k) (k := 14) (fV (p := fun b => cu 14 b = some (if hv b < 0 then (0, false) else (hv b, true))) (by decide +kernel) h0 h1)
theorem mz {b : Int} (h0 : 0 ≤ b) (h1 : b ≤ 255) : Ev (fun k => bH k b) (cls b) :=
  jQ (fun k => it b k) (k := 60) (fV (p := fun b => bH 60 b = some (cls b)) (by decide +kernel) h0 h1)
theorem j9 {b : Int} (h0 : 0 ≤ b) (h1 : b ≤ 255) : Ev (fun k => bj k b) (hv b) :=
  jQ (fun k => iu b k) (k := 20) (fV (p := fun b => bj 20 b = some (hv b)) (by decide +kernel) h0 h1)
theorem fm (s : ByteArray) (n : Nat) (h : n ≤ s.size) : (n = s.size ∧ (ae s).drop n = []) ∨ (n < s.size ∧ (ae s).drop n = bt s (n : Int) :: (ae s).drop (n + 1) ∧ 0 ≤ bt s (n : Int) ∧ bt s (n : Int) ≤ 255) := by
  rcases Nat.lt_or_ge n s.size with h1 | h1
  · right
    have hl : n < (ae s).length := by rw [bl]; exact h1
    refine ⟨h1, ?_, (hP s n).1, (hP s n).2⟩
    rw [List.drop_eq_getElem_cons hl, lY, List.getD_eq_getElem?_getD, List.getElem?_eq_getElem hl]
    rfl
  · left
    exact ⟨by omega, List.drop_of_length_le (by rw [bl]; exact h1)⟩
theorem ol (c : Int) (s : ByteArray) (hs : s.size ≤ 140737488351232) : ∀ d n : Nat, n + d = s.size → Ev (fun k => bm k c s (n : Int)) (((ae s).drop n).contains c) := by
  intro d
  induction d with
  | zero =>
    intro n hn
    refine Ev.step (fun k => rfl) (aJ (by omega) ?_)
    rw [List.drop_of_length_le (by rw [bl]; omega)]
    exact cW _
  | succ d ih =>
    intro n hn
    rcases fm s n (by omega) with ⟨h, _⟩ | ⟨h, e, b0, b1⟩
    · omega
    refine Ev.step (fun k => rfl) (ah (by omega) (ah (by omega) ?_))
    rw [e, List.contains_cons]
    by_cases hb : bt s n = c
    · refine ah hb ?_
      rw [hb]
      simp only [beq_self_eq_true, Bool.true_or]
      exact cW _
    · refine aJ hb ?_
      rw [w64 (by omega) (by omega)]
      have : (c == bt s n) = false := by simpa using fun h => hb h.symm
      rw [this, Bool.false_or]
      exact ih (n + 1) (by omega)
theorem ov (c : Int) (s : ByteArray) (hs : s.size ≤ 140737488351232) : Ev (fun k => aM k c s) ((ae s).contains c) := ol c s hs s.size 0 (by omega)
end Go.Proofs.YtojdiklegmhakaaDoor.Y
namespace Go.Proofs.YtojdiklegmhakaaDoor.Y
open Go.RowKit Go.Proofs.YtojdiklegmhakaaDoor.X Go.Proofs.YtojdiklegmhakaaDoor.M Go.Proofs.YtojdiklegmhakaaDoorW.PrintWords Go.Proofs.YtojdiklegmhakaaDoorW.PrintLast Go.Proofs.YtojdiklegmhakaaDoorW.PrintMore
end Go.Proofs.YtojdiklegmhakaaDoor.Y
namespace Go.Proofs.YtojdiklegmhakaaDoor.Y
open Go.RowKit Go.Proofs.YtojdiklegmhakaaDoor.X Go.Proofs.YtojdiklegmhakaaDoor.M Go.Proofs.YtojdiklegmhakaaDoorW.PrintWords Go.Proofs.YtojdiklegmhakaaDoorW.PrintLast Go.Proofs.YtojdiklegmhakaaDoorW.PrintMore
def fq (l : List Int) : List Int := l.map jf
theorem jZ {b : Int} (h0 : 0 ≤ b) (h1 : b ≤ 255) : 0 ≤ jf b ∧ jf b ≤ 255 := by unfold jf; split <;> omega
theorem ms {l : List Int} (h : ∀ b ∈ l, 0 ≤ b ∧ b ≤ 255) : ∀ b ∈ fq l, 0 ≤ b ∧ b ≤ 255 := by
  intro b hb
  obtain ⟨c, hc, rfl⟩ := List.mem_map.1 hb
  exact jZ (h c hc).1 (h c hc).2
theorem kA : ∀ l : List Int, (∀ b ∈ l, 0 ≤ b ∧ b ≤ 255) → bN l = some (fq l)
  | [], _ => rfl
  | b :: t, h => by
    have hb := h b (List.mem_cons_self ..)
    have hr := jZ hb.1 hb.2
    rw [bN, oo hb.1 hb.2, Option.bind_some, if_pos hr, kA t (fun c hc => h c (List.mem_cons_of_mem _ hc))]; rfl
theorem mt (s : ByteArray) (hs : s.size ≤ 1000000) : eZ s = some (strOfNums (fq (ae s))) := by
  unfold eZ
  rw [if_pos (by omega), kA _ (fun b hb => iM hb)]; rfl
theorem nw {b : Int} (h0 : 0 ≤ b) (h1 : b ≤ 255) : (ae (⟨#[65, 66, 67, 68, 69, 70, 71, 72, 73, 74, 75, 76, 77, 78, 79, 80, 81, 82, 83, 84, 85, 86, 87, 88, 89, 90]⟩ : ByteArray)).contains b = decide (65 ≤ b ∧ b ≤ 90) :=
  fV (p := fun b => (ae (⟨#[65, 66, 67, 68, 69, 70, 71, 72, 73, 74, 75, 76, 77, 78, 79, 80, 81, 82, 83, 84, 85, 86, 87, 88, 89, 90]⟩ : ByteArray)).contains b = decide (65 ≤ b ∧ b ≤ 90)) (by decide +kernel) h0 h1
theorem lS (s : ByteArray) (hs : s.size ≤ 1000000) : ∀ d i : Nat, i + d = s.size → ∀ x : List Int, x = fq ((ae s).take i) → Ev (fun k => aN k s x (i : Int)) (strOfNums (fq (ae s))) := by
  intro d
  induction d with
  | zero =>
    intro i hi x hx
    rw [List.take_of_length_le (by rw [bl]; omega)] at hx
    rw [← hx]
    exact Ev.step (fun k => by rw [aN]) (aJ (by omega) (cW _))
  | succ d ih =>
    intro i hi x hx
    have hb := hP s (i : Int)
    have hw : wrap64 ((i : Int) + 1) = ((i + 1 : Nat) : Int) := by rw [w64 (by omega) (by omega)]; omega
    have hlen : x.length ≤ i := by rw [hx]; unfold fq; rw [List.length_map, List.length_take]; omega
    have hnext : fq ((ae s).take (i + 1)) = x ++ [jf (bt s (i : Int))] := by
      rw [mZ (by omega), hx]; unfold fq; rw [List.map_append]; rfl
    have hin := ov (bt s (i : Int)) (⟨#[65, 66, 67, 68, 69, 70, 71, 72, 73, 74, 75, 76, 77, 78, 79, 80, 81, 82, 83, 84, 85, 86, 87, 88, 89, 90]⟩ : ByteArray) (by decide)
    rw [nw hb.1 hb.2] at hin
    refine Ev.step (fun k => by rw [aN]) (ah (by omega) (ah (by omega) (bx hin ?_)))
    rw [hw]
    by_cases hu : 65 ≤ bt s (i : Int) ∧ bt s (i : Int) ≤ 90
    · refine ah (decide_eq_true hu) (ah (by omega) (ih (i + 1) (by omega) _ ?_))
      rw [hnext]
      unfold jf
      rw [if_pos hu, Int.emod_eq_of_lt (by omega) (by omega)]
    · refine aJ (by simpa using hu) (ah (by omega) (ih (i + 1) (by omega) _ ?_))
      rw [hnext]
      unfold jf
      rw [if_neg hu]
theorem mB (s : ByteArray) (hs : s.size ≤ 1000000) : Ev (fun k => dS k s) (strOfNums (fq (ae s))) := lS s hs s.size 0 (by omega) [] rfl
end Go.Proofs.YtojdiklegmhakaaDoor.Y
namespace Go.Proofs.YtojdiklegmhakaaDoor.M
open Go Go.RowKit Go.Proofs.YtojdiklegmhakaaDoorW.PrintWords
end Go.Proofs.YtojdiklegmhakaaDoor.M
namespace Go.Proofs.YtojdiklegmhakaaDoor.M
open Go Go.RowKit Go.Proofs.YtojdiklegmhakaaDoorW.PrintWords
def cS : List Int → Int
  | p :: a :: b :: _ => if p = 37 then (if hv a < 0 ∨ hv b < 0 then -1 else 16 * hv a + hv b) else -1
  | _ => -1
theorem je (l : List Int) : -1 ≤ cS l ∧ cS l ≤ 255 := by
  unfold cS
  split
  · rename_i p a b t
    have := gE a
    have := gE b
    split
    · split <;> omega
    · omega
  · omega
theorem jO {l : List Int} (h : 0 ≤ cS l) : ∃ a b t, l = 37 :: a :: b :: t ∧ kM a = true ∧ kM b = true ∧ cS l = 16 * hv a + hv b := by
  unfold cS at h ⊢
  split at h
  · rename_i p a b t
    by_cases hp : p = 37
    · rw [if_pos hp] at h ⊢
      by_cases h2 : hv a < 0 ∨ hv b < 0
      · rw [if_pos h2] at h; omega
      · rw [if_neg h2]
        subst hp
        exact ⟨a, b, t, rfl, (l7 a).1 (by omega), (l7 b).1 (by omega), rfl⟩
    · rw [if_neg hp] at h; omega
  · omega
end Go.Proofs.YtojdiklegmhakaaDoor.M
namespace Go.Proofs.YtojdiklegmhakaaDoor.M
open Go Go.RowKit Go.Proofs.YtojdiklegmhakaaDoorW.PrintWords
end Go.Proofs.YtojdiklegmhakaaDoor.M
namespace Go.Proofs.YtojdiklegmhakaaDoor.M
open Go Go.RowKit Go.Proofs.YtojdiklegmhakaaDoorW.PrintWords
def hdu (d : Int) : Int := if d < 10 then 48 + d else 55 + d
def ew (b : Int) : List Int := [37, hdu (b / 16), hdu (b % 16)]
theorem mQ {d : Int} (h0 : 0 ≤ d) (h1 : d < 16) : hv (hdu d) = d ∧ hdu d ≠ 47 ∧ 0 ≤ hdu d ∧ hdu d < 128 := by
  have : ∀ n : Fin 16, hv (hdu (n.val : Int)) = (n.val : Int) ∧ hdu (n.val : Int) ≠ 47 ∧ 0 ≤ hdu (n.val : Int) ∧ hdu (n.val : Int) < 128 := by decide
  have h := this ⟨d.toNat, by omega⟩
  have e : ((d.toNat : Nat) : Int) = d := by omega
  simp only [e] at h
  exact h
def eh : Nat → List Int → List (Int × Int)
  | _, [] => []
  | i, b :: t => if 0 ≤ cS (b :: t) then ((i : Int), cS (b :: t)) :: eh (i + 3) (t.drop 2) else eh (i + 1) t
termination_by _ l => l.length
decreasing_by
  all_goals simp only [List.length_drop, List.length_cons]; omega
theorem j8 (i : Nat) : eh i [] = [] := by rw [eh]
theorem j7 {i : Nat} {l : List Int} (h : 0 ≤ cS l) : eh i l = ((i : Int), cS l) :: eh (i + 3) (l.drop 3) := by
  obtain ⟨a, b, t, rfl, _⟩ := jO h
  rw [eh, if_pos h]; rfl
theorem kD {i : Nat} {b : Int} {t : List Int} (h : cS (b :: t) < 0) : eh i (b :: t) = eh (i + 1) t := by
  rw [eh, if_neg (by omega)]
def dC (f : Int → Option (List Int)) : List Int → List Int
  | [] => []
  | b :: t => if 0 ≤ cS (b :: t) then ((f (cS (b :: t))).getD ((b :: t).take 3)) ++ dC f (t.drop 2) else b :: dC f t
termination_by l => l.length
decreasing_by
  all_goals simp only [List.length_drop, List.length_cons]; omega
theorem jh (f : Int → Option (List Int)) : dC f [] = [] := by rw [dC]
theorem jg {f : Int → Option (List Int)} {l : List Int} (h : 0 ≤ cS l) : dC f l = ((f (cS l)).getD (l.take 3)) ++ dC f (l.drop 3) := by
  obtain ⟨a, b, t, rfl, _⟩ := jO h
  rw [dC, if_pos h]; rfl
theorem jE {f : Int → Option (List Int)} {b : Int} {t : List Int} (h : cS (b :: t) < 0) : dC f (b :: t) = b :: dC f t := by
  rw [dC, if_neg (by omega)]
theorem nn {f : Int → Option (List Int)} (hf : ∀ b u, f b = some u → u.length ≤ 3) : ∀ (n : Nat) (l : List Int), l.length = n → (dC f l).length ≤ l.length := by
  intro n
  induction n using Nat.strongRecOn with
  | _ n ih =>
    intro l hn
    cases l with
    | nil => simp [jh]
    | cons b t =>
      rw [List.length_cons] at hn
      by_cases h : 0 ≤ cS (b :: t)
      · have h3 : 3 ≤ (b :: t).length := by obtain ⟨x, y, u, e, _⟩ := jO h; rw [e]; simp
        have := ih ((b :: t).drop 3).length (by rw [List.length_drop, List.length_cons]; omega) _ rfl
        rw [jg h, List.length_append]
        rw [List.length_drop] at this
        cases e : f (cS (b :: t)) with
        | none =>
          rw [Option.getD_none, List.length_take]; omega
        | some u =>
          have := hf _ _ e
          rw [Option.getD_some]; omega
      · have := ih t.length (by omega) t rfl
        rw [jE (by omega), List.length_cons, List.length_cons]; omega
theorem nl {f : Int → Option (List Int)} (hf : ∀ b, 0 ≤ b → b ≤ 255 → ∀ u, f b = some u → ∀ c ∈ u, 0 ≤ c ∧ c ≤ 255) : ∀ (n : Nat) (l : List Int), l.length = n → (∀ b ∈ l, 0 ≤ b ∧ b ≤ 255) → ∀ b ∈ dC f l, 0 ≤ b ∧ b ≤ 255 := by
  intro n
  induction n using Nat.strongRecOn with
  | _ n ih =>
    intro l hn hl
    cases l with
    | nil => rw [jh]; intro b hb; cases hb
    | cons b t =>
      rw [List.length_cons] at hn
      by_cases h : 0 ≤ cS (b :: t)
      · rw [jg h]
        have := ih ((b :: t).drop 3).length (by rw [List.length_drop, List.length_cons]; omega) _ rfl (fun c hc => hl c (List.mem_of_mem_drop hc))
        intro c hc
        rcases List.mem_append.1 hc with hc | hc
        · cases e : f (cS (b :: t)) with
          | none => rw [e] at hc; exact hl c (List.mem_of_mem_take hc)
          | some u => rw [e] at hc; have hr := je (b :: t); exact hf _ h (by omega) _ e c hc
        · exact this c hc
      · rw [jE (by omega)]
        have := ih t.length (by omega) t rfl (fun c hc => hl c (List.mem_cons_of_mem _ hc))
        intro c hc
        rcases List.mem_cons.1 hc with rfl | hc
        · exact hl c (List.mem_cons_self ..)
        · exact this c hc
end Go.Proofs.YtojdiklegmhakaaDoor.M
namespace Go.Proofs.YtojdiklegmhakaaDoor.Y
open Go.RowKit Go.Proofs.YtojdiklegmhakaaDoor.X Go.Proofs.YtojdiklegmhakaaDoor.M Go.Proofs.YtojdiklegmhakaaDoorW.PrintWords Go.Proofs.YtojdiklegmhakaaDoorW.PrintLast Go.Proofs.YtojdiklegmhakaaDoorW.PrintMore
theorem nx {s : ByteArray} {i : Nat} (h : i + 3 ≤ s.size) : (ae s).drop i = bt s (i : Int) :: bt s ((i : Int) + 1) :: bt s ((i : Int) + 2) :: (ae s).drop (i + 3) := by
  rcases fm s i (by omega) with ⟨h2, _⟩ | ⟨_, e, _⟩
  · omega
  rcases fm s (i + 1) (by omega) with ⟨h2, _⟩ | ⟨_, e2, _⟩
  · omega
  rcases fm s (i + 2) (by omega) with ⟨h2, _⟩ | ⟨_, e3, _⟩
  · omega
  rw [e, e2, e3]
  rfl
theorem fy {l : List Int} (h : l.length < 3) : cS l = -1 := by
  match l, h with
  | [], _ => rfl
  | [_], _ => rfl
  | [_, _], _ => rfl
  | _ :: _ :: _ :: _, h => simp only [List.length_cons] at h; omega
theorem jU (p a b : Int) (t : List Int) : cS (p :: a :: b :: t) = if p = 37 then (if hv a < 0 ∨ hv b < 0 then -1 else 16 * hv a + hv b) else -1 := rfl
theorem ni {a b : Int} (ha : 0 ≤ a) (ha1 : a ≤ 15) (hb : 0 ≤ b) (hb1 : b ≤ 15) : (Go.bits .or .i64 (wrap64 (a * 16)) b) % 256 = 16 * a + b := by
  have : ∀ x : Fin 16, ∀ y : Fin 16, (Go.bits .or .i64 (wrap64 (((x.val : Nat) : Int) * 16)) ((y.val : Nat) : Int)) % 256 = 16 * ((x.val : Nat) : Int) + ((y.val : Nat) : Int) := by decide +kernel
  have := this ⟨a.toNat, by omega⟩ ⟨b.toNat, by omega⟩
  simp only at this
  rwa [Int.toNat_of_nonneg ha, Int.toNat_of_nonneg hb] at this
theorem nH (s : ByteArray) (i : Nat) (hi : i ≤ s.size) (hs : s.size ≤ 140737488351232) : Ev (fun k => dv k s (i : Int)) (if cS ((ae s).drop i) < 0 then (0, false) else (cS ((ae s).drop i), true)) := by
  unfold dv
  refine aJ (by omega) ?_
  have bad : ∀ r, r = (0, false) → Ev (fun k => bT k s (i : Int) true) r := by
    intro r e
    subst e
    refine Ev.step (fun k => by rw [bT]) ?_
    exact ah rfl (cW _)
  rw [w64 (by omega) (by omega)]
  by_cases h3 : i + 3 ≤ s.size
  · refine aJ (by omega) (ah (by omega) (ah (by omega) ?_))
    rw [nx h3, jU]
    by_cases hp : bt s (i : Int) = 37
    · rw [if_pos hp, hp]
      refine Ev.step (fun k => by rw [bT]) ?_
      refine aJ (by decide) ?_
      have r1 := hP s ((i : Int) + 1)
      have r2 := hP s ((i : Int) + 2)
      have v1 := gE (bt s ((i : Int) + 1))
      have v2 := gE (bt s ((i : Int) + 2))
      rw [w64 (x := (i : Int) + 1) (by omega) (by omega), w64 (x := (i : Int) + 2) (by omega) (by omega)]
      refine ah (by omega) (ah (by omega) (bx (ma r1.1 r1.2) (ah (by omega) (ah (by omega) (bx (ma r2.1 r2.2) ?_)))))
      generalize hv (bt s ((i : Int) + 1)) = x at v1 ⊢
      generalize hv (bt s ((i : Int) + 2)) = y at v2 ⊢
      by_cases h1 : x < 0
      · have h3 : x < 0 ∨ y < 0 := .inl h1
        simp only [if_pos h1, if_pos h3]
        exact aJ (by simp) (cW _)
      · simp only [if_neg h1]
        refine ah (by simp) ?_
        by_cases h2 : y < 0
        · have h3 : x < 0 ∨ y < 0 := .inr h2
          simp only [if_pos h2, if_pos h3]
          exact aJ (by simp) (cW _)
        · have h3 : ¬ (x < 0 ∨ y < 0) := by omega
          simp only [if_neg h2, if_neg h3]
          refine ah (by simp) ?_
          rw [if_neg (by omega), ni (by omega) (by omega) (by omega) (by omega)]
          exact cW _
    · rw [if_neg hp, if_pos (by omega)]
      have : (bt s (i : Int) != 37) = true := by simpa using hp
      rw [this]
      exact bad _ rfl
  · refine ah (by omega) ?_
    rw [fy (by rw [List.length_drop, bl]; omega), if_pos (by omega)]
    exact bad _ rfl
theorem nN (s : ByteArray) (i : Nat) (hi : i ≤ s.size) (hs : s.size ≤ 140737488351232) : Ev (fun k => dO k s (i : Int)) (cS ((ae s).drop i)) := by
  unfold dO
  refine aJ (by omega) ?_
  have bad : ∀ r, r = -1 → Ev (fun k => bn k s (i : Int) true) r := by
    intro r e
    subst e
    refine Ev.step (fun k => by rw [bn]) ?_
    exact ah rfl (cW _)
  by_cases h0 : i < s.size
  · refine aJ (by omega) ?_
    rw [w64 (by omega) (by omega)]
    by_cases h3 : i + 3 ≤ s.size
    · refine aJ (by omega) (ah (by omega) (ah (by omega) ?_))
      rw [nx h3, jU]
      by_cases hp : bt s (i : Int) = 37
      · rw [if_pos hp, hp]
        refine Ev.step (fun k => by rw [bn]) ?_
        refine aJ (by decide) ?_
        have r1 := hP s ((i : Int) + 1)
        have r2 := hP s ((i : Int) + 2)
        have v1 := gE (bt s ((i : Int) + 1))
        have v2 := gE (bt s ((i : Int) + 2))
        rw [w64 (x := (i : Int) + 1) (by omega) (by omega), w64 (x := (i : Int) + 2) (by omega) (by omega)]
        refine ah (by omega) (ah (by omega) (bx (j9 r1.1 r1.2) (ah (by omega) (ah (by omega) (bx (j9 r2.1 r2.2) ?_)))))
        generalize hv (bt s ((i : Int) + 1)) = x at v1 ⊢
        generalize hv (bt s ((i : Int) + 2)) = y at v2 ⊢
        by_cases h1 : x < 0
        · have h3 : x < 0 ∨ y < 0 := .inl h1
          rw [if_pos h3]
          exact ah h1 (cW _)
        · refine aJ h1 ?_
          by_cases h2 : y < 0
          · have h3 : x < 0 ∨ y < 0 := .inr h2
            rw [if_pos h3]
            exact ah h2 (cW _)
          · have h3 : ¬ (x < 0 ∨ y < 0) := by omega
            refine aJ h2 ?_
            rw [if_neg h3, w64 (x := 16 * x) (by omega) (by omega), w64 (by omega) (by omega)]
            exact cW _
      · rw [if_neg hp]
        have : (bt s (i : Int) != 37) = true := by simpa using hp
        rw [this]
        exact bad _ rfl
    · refine ah (by omega) ?_
      rw [fy (by rw [List.length_drop, bl]; omega)]
      exact bad _ rfl
  · refine ah (by omega) ?_
    rw [fy (by rw [List.length_drop, bl]; omega)]
    exact bad _ rfl
theorem kz (s : ByteArray) : ∀ b ∈ ae s, 0 ≤ b ∧ b ≤ 255 := fun _ h => iM h
theorem mh (s : ByteArray) (i : Nat) : ae (s.extract i s.size) = (ae s).drop i := by
  rw [ee, ← bl, List.take_length]
end Go.Proofs.YtojdiklegmhakaaDoor.Y
namespace Go.Proofs.YtojdiklegmhakaaDoor.Y
open Go.RowKit Go.Proofs.YtojdiklegmhakaaDoor.X Go.Proofs.YtojdiklegmhakaaDoor.M Go.Proofs.YtojdiklegmhakaaDoorW.PrintWords Go.Proofs.YtojdiklegmhakaaDoorW.PrintLast Go.Proofs.YtojdiklegmhakaaDoorW.PrintMore
theorem nF (s : ByteArray) (hs : s.size ≤ 1000000) : ∀ d i : Nat, i + d = s.size → Ev (fun k => eL k s (i : Int)) (eh i ((ae s).drop i)) := by
  intro d
  induction d using Nat.strongRecOn with
  | _ d ih =>
    intro i hi
    refine Ev.step (fun k => by rw [eL]) ?_
    rcases fm s i (by omega) with ⟨h1, e⟩ | ⟨h1, e, _, _⟩
    · rw [e, j8]
      exact aJ (by omega) (cW _)
    · refine ah (by omega) (bx (nH s i (by omega) (by omega)) ?_)
      by_cases h : 0 ≤ cS ((ae s).drop i)
      · rw [if_neg (by omega), j7 h, List.drop_drop]
        have h3 : i + 3 ≤ s.size := by
          have : ¬ ((ae s).drop i).length < 3 := fun hl => by rw [fy hl] at h; omega
          rw [List.length_drop, bl] at this; omega
        exact ah rfl (bx (ih (d - 3) (by omega) (i + 3) (by omega)) (cW _))
      · rw [if_pos (by omega)]
        rw [e] at h ⊢
        rw [kD (by omega)]
        exact aJ (by simp) (ih (d - 1) (by omega) (i + 1) (by omega))
theorem nf (T : Nat → Int → Option (ByteArray × Bool)) (f : Int → Option (List Int)) (hT : ∀ b, 0 ≤ b → b ≤ 255 → ∃ x : ByteArray × Bool, Ev (fun k => T k b) x ∧ x.1.size ≤ 3 ∧ f b = if x.2 then some (ae x.1) else none) (s : ByteArray) (hs : s.size ≤ 1000000) :
    ∀ d i : Nat, i + d = s.size → ∀ p : Nat, p ≤ i → dC f ((ae s).drop p) = ((ae s).drop p).take (i - p) ++ dC f ((ae s).drop i) → ∀ out : List Int, out.length ≤ p →
      Ev (fun k => dN (T k) s (eh i ((ae s).drop i)) (p : Int) out) (out ++ dC f ((ae s).drop p)) := by
  intro d
  induction d using Nat.strongRecOn with
  | _ d ih =>
    intro i hi p hp ha out ho
    have hl := bl s
    rcases fm s i (by omega) with ⟨h1, e⟩ | ⟨h1, e, _, _⟩
    · rw [e] at ha ⊢
      rw [j8, ha, jh, List.append_nil, List.take_of_length_le (by rw [List.length_drop]; omega)]
      unfold dN
      exact ah ⟨by omega, by omega, by omega⟩ (Ev.val (by rw [Int.toNat_natCast, mh]))
    · by_cases h : 0 ≤ cS ((ae s).drop i)
      · have h3 : i + 3 ≤ s.size := by
          have : ¬ ((ae s).drop i).length < 3 := fun hl => by rw [fy hl] at h; omega
          rw [List.length_drop, bl] at this; omega
        have hr := je ((ae s).drop i)
        obtain ⟨⟨tt, ok⟩, hx, hsz, hf⟩ := hT _ h hr.2
        rw [jg h, List.drop_drop, hf] at ha
        rw [j7 h, List.drop_drop]
        unfold dN
        refine ah ⟨by omega, by omega, by omega, by omega, by omega, by omega⟩ (bx hx ?_)
        dsimp only at hsz ha ⊢
        cases ok with
        | false =>
          refine aJ (by simp) (ih (d - 3) (by omega) (i + 3) (by omega) p (by omega) ?_ out ho)
          rw [ha]
          simp only [Bool.false_eq_true, if_false, Option.getD_none]
          rw [← List.append_assoc, show i + 3 - p = (i - p) + 3 by omega, List.take_add, List.drop_drop, show p + (i - p) = i by omega]
        | true =>
          refine ah rfl (ah (by omega) ?_)
          have := ih (d - 3) (by omega) (i + 3) (by omega) (i + 3) (by omega) (by simp) (out ++ ae (s.extract p i) ++ ae tt) (by
            rw [List.length_append, List.length_append, ee, List.length_drop, List.length_take, bl tt]; omega)
          rw [Int.toNat_natCast, Int.toNat_natCast, ha]
          rw [ee, List.drop_take] at this
          simp only [if_true, Option.getD_some]
          rw [ee, List.drop_take]
          simpa [List.append_assoc] using this
      · have hn : cS (bt s (i : Int) :: (ae s).drop (i + 1)) < 0 := by rw [← e]; omega
        rw [e, kD hn]
        refine ih (d - 1) (by omega) (i + 1) (by omega) p (by omega) ?_ out ho
        rw [ha]
        rw [show i + 1 - p = (i - p) + 1 by omega, List.take_add, List.drop_drop, show p + (i - p) = i by omega, e, jE hn]
        simp
theorem nI {b : Int} (h0 : 0 ≤ b) (h1 : b ≤ 255) : Ev (fun k => dw k b) (strOfNums (ew b)) :=
  jQ (fun k => iR b k) (k := 12) (fV (p := fun b => (dw 12 b).map ae = some (ew b)) (by decide +kernel) h0 h1 |> fun h => by
    obtain ⟨x, hx, e⟩ := Option.map_eq_some_iff.1 h
    rw [hx, ke e])
theorem nO {b : Int} (h0 : 0 ≤ b) (h1 : b ≤ 255) : dP b = some (strOfNums (ew b)) :=
  fV (p := fun b => (dP b).map ae = some (ew b)) (by decide +kernel) h0 h1 |> fun h => by
    obtain ⟨x, hx, e⟩ := Option.map_eq_some_iff.1 h
    rw [hx, ke e]
theorem gh {b : Int} (h0 : 0 ≤ b) (h1 : b ≤ 255) : ∀ c ∈ ew b, 0 ≤ c ∧ c ≤ 255 := by
  have a := mQ (d := b / 16) (by omega) (by omega)
  have c := mQ (d := b % 16) (by omega) (by omega)
  intro x hx
  simp only [ew, List.mem_cons, List.not_mem_nil, or_false] at hx
  rcases hx with rfl | rfl | rfl <;> omega
def iJ (c : Int) (all up : Bool) (b : Int) : Option (List Int) := if (all || isc b c) = true then some [b] else if up = true then some (ew b) else none
theorem nP (s : ByteArray) (hs : s.size ≤ 1000000) (c : Int) (all up : Bool) : ∀ d i : Nat, i + d = s.size → ∀ x : ByteArray, x.size ≤ i → Ev (fun k => aT k s c all up x (i : Int)) (strOfNums (ae x ++ dC (iJ c all up) ((ae s).drop i))) := by
  intro d
  induction d using Nat.strongRecOn with
  | _ d ih =>
    intro i hi x hx
    refine Ev.step (fun k => by rw [aT]) ?_
    rcases fm s i (by omega) with ⟨h1, e⟩ | ⟨h1, e, hb0, hb1⟩
    · rw [e, jh, List.append_nil, mY]
      exact aJ (by omega) (cW _)
    · refine ah (by omega) (bx (nN s i (by omega) (by omega)) ?_)
      by_cases h : 0 ≤ cS ((ae s).drop i)
      · have h3 : i + 3 ≤ s.size := by
          have : ¬ ((ae s).drop i).length < 3 := fun hl => by rw [fy hl] at h; omega
          rw [List.length_drop, bl] at this; omega
        have hr := je ((ae s).drop i)
        rw [jg h, List.drop_drop]
        have ht3 : ((ae s).drop i).take 3 = ae (s.extract i (i + 3)) := by rw [ee, List.drop_take, show i + 3 - i = 3 by omega]
        rw [ht3]
        generalize cS ((ae s).drop i) = v at h hr
        have hv : v % 256 = v := by omega
        have hw3 : wrap64 ((i : Int) + 3) = ((i + 3 : Nat) : Int) := by rw [w64 (by omega) (by omega)]; omega
        have key : ∀ q : Bool, q = (all || isc v c) → Ev (fun k => b7 k s c all up x (i : Int) v q) (strOfNums (ae x ++ ((iJ c all up v).getD (ae (s.extract i (i + 3))) ++ dC (iJ c all up) ((ae s).drop (i + 3))))) := by
          intro q hq
          refine Ev.step (fun k => by rw [b7]) ?_
          have hg : iJ c all up v = if q = true then some [v] else if up = true then some (ew v) else none := by unfold iJ; rw [hq]
          rw [hg, hv]
          cases q with
          | true =>
            refine ah rfl (hO rfl ?_)
            have hsz : (strOfNums [v]).size = 1 := ik (l := [v]) (by intro b hb; rw [List.mem_singleton.1 hb]; omega)
            refine ah (by omega) ?_
            rw [hw3]
            have := ih (d - 3) (by omega) (i + 3) (by omega) (x ++ strOfNums [v]) (by rw [ByteArray.size_append, hsz]; omega)
            rw [cX, fu (l := [v]) (by intro b hb; rw [List.mem_singleton.1 hb]; omega)] at this
            simpa using this
          | false =>
            refine aJ (by simp) ?_
            cases up with
            | true =>
              refine ah rfl (hO (nO h hr.2) ?_)
              have hsz : (strOfNums (ew v)).size = 3 := ik (gh h hr.2)
              refine ah (by omega) ?_
              rw [hw3]
              have := ih (d - 3) (by omega) (i + 3) (by omega) (x ++ strOfNums (ew v)) (by rw [ByteArray.size_append, hsz]; omega)
              rw [cX, fu (gh h hr.2)] at this
              simpa using this
            | false =>
              refine aJ (by simp) ?_
              have hsz : (s.extract i (i + 3)).size = 3 := by rw [ByteArray.size_extract]; omega
              rw [hw3, Int.toNat_natCast, Int.toNat_natCast]
              refine ah (by omega) (ah (by omega) (ah (by omega) (ah (by omega) ?_)))
              have := ih (d - 3) (by omega) (i + 3) (by omega) (x ++ s.extract i (i + 3)) (by rw [ByteArray.size_append, hsz]; omega)
              rw [cX] at this
              simpa using this
        refine aJ (by omega) ?_
        cases all with
        | true => exact ah rfl (key true rfl)
        | false =>
          refine aJ (by simp) ?_
          rw [hv]
          refine bx (mz h hr.2) (key _ ?_)
          rw [Bool.false_or]; rfl
      · have hn : cS (bt s (i : Int) :: (ae s).drop (i + 1)) < 0 := by rw [← e]; omega
        rw [e, jE hn]
        refine ah hn ?_
        have hw : wrap64 ((i : Int) + 1) = ((i + 1 : Nat) : Int) := by rw [w64 (by omega) (by omega)]; omega
        rw [hw, Int.toNat_natCast, Int.toNat_natCast]
        have hb : ae (s.extract i (i + 1)) = [bt s (i : Int)] := by
          rw [ee, List.drop_take, e, show i + 1 - i = 1 by omega]; rfl
        have hsz : (s.extract i (i + 1)).size = 1 := by rw [← bl, hb]; rfl
        refine ah (by omega) (ah (by omega) (ah (by omega) (ah (by omega) ?_)))
        have := ih (d - 1) (by omega) (i + 1) (by omega) (x ++ s.extract i (i + 1)) (by rw [ByteArray.size_append, hsz]; omega)
        rw [cX, hb] at this
        simpa using this
theorem mX (s : ByteArray) (hs : s.size ≤ 1000000) (c : Int) (all up : Bool) : Ev (fun k => dm k s c all up) (strOfNums (dC (iJ c all up) (ae s))) := by
  have := nP s hs c all up s.size 0 (by omega) (⟨#[]⟩ : ByteArray) (by decide)
  exact this
theorem mi (s : ByteArray) (hs : s.size ≤ 1000000) : Ev (fun k => dr k s) (strOfNums (dC (fun b => some (ew b)) (ae s))) := by
  unfold dr
  have h1 := nF s hs s.size 0 (by omega)
  have h3 := nf fz (fun b => some (ew b)) (fun b h0 h1 => ⟨(strOfNums (ew b), true), bx (nI h0 h1) (cW _), by rw [ik (gh h0 h1)]; exact Nat.le_refl _, by rw [if_pos rfl, fu (gh h0 h1)]⟩) s hs s.size 0 (by omega) 0 (by omega) (by simp) [] (by simp)
  rw [List.drop_zero] at h1 h3
  exact ah hs (bx h1 (bx h3 (cW _)))
theorem lW (s : ByteArray) (hs : s.size ≤ 1000000) : Ev (fun k => dm k s 0 false true) (strOfNums (dC (fun b => some (ew b)) (ae s))) := by
  have := mX s hs 0 false true
  have h0 : ∀ b, isc b 0 = false := by
    intro b
    have hr : 0 ≤ cls b ∧ cls b < 64 := by unfold cls; (repeat' split) <;> omega
    have hz : ∀ n : Fin 64, (Go.bits .and .i64 ((n.val : Nat) : Int) 0 != 0) = false := by decide +kernel
    have := hz ⟨(cls b).toNat, by omega⟩
    unfold isc
    rwa [show (((⟨(cls b).toNat, by omega⟩ : Fin 64).val : Nat) : Int) = cls b by simp only; omega] at this
  rwa [show iJ 0 false true = fun b => some (ew b) from funext fun b => by unfold iJ; rw [h0]; rfl] at this
abbrev U9 := ByteArray × ByteArray × ByteArray × ByteArray × ByteArray × Bool × Bool × Bool × Int
def iK (r : U9) : List Int := 117 :: 114 :: 110 :: 58 :: (ae r.1 ++ (58 :: (ae r.2.1 ++ ((if r.2.2.2.2.2.1 then 63 :: 43 :: ae r.2.2.1 else []) ++ ((if r.2.2.2.2.2.2.1 then 63 :: 61 :: ae r.2.2.2.1 else []) ++ (if r.2.2.2.2.2.2.2.1 then 35 :: ae r.2.2.2.2.1 else []))))))
def mr (sp nm : ByteArray) : List Int := 117 :: 114 :: 110 :: 58 :: (fq (ae sp) ++ 58 :: dC (fun b => some (ew b)) (ae nm))
theorem bU : ae (⟨#[117, 114, 110, 58]⟩ : ByteArray) = [117, 114, 110, 58] := rfl
theorem bC : ae (⟨#[58]⟩ : ByteArray) = [58] := rfl
theorem bP : ae (⟨#[63, 43]⟩ : ByteArray) = [63, 43] := rfl
theorem bE : ae (⟨#[63, 61]⟩ : ByteArray) = [63, 61] := rfl
theorem bF : ae (⟨#[35]⟩ : ByteArray) = [35] := rfl
theorem kR {x : ByteArray} {l : List Int} (h : ae x = l) : x = strOfNums l := ke h
theorem nu (sp nm R Q f : ByteArray) (hR hQ hf : Bool) (e : Int) (h : (iK (sp, nm, R, Q, f, hR, hQ, hf, e)).length ≤ 1000000) : Ev (fun k => et k sp nm R Q f hR hQ hf) (strOfNums (iK (sp, nm, R, Q, f, hR, hQ, hf, e))) := by
  unfold iK at h ⊢
  unfold et
  dsimp only at h ⊢
  have hl := @bl
  have zU : (⟨#[117, 114, 110, 58]⟩ : ByteArray).size = 4 := rfl
  have zC : (⟨#[58]⟩ : ByteArray).size = 1 := rfl
  have zP : (⟨#[63, 43]⟩ : ByteArray).size = 2 := rfl
  have zE : (⟨#[63, 61]⟩ : ByteArray).size = 2 := rfl
  have zF : (⟨#[35]⟩ : ByteArray).size = 1 := rfl
  cases hR <;> cases hQ <;> cases hf <;> simp only [eq_self, if_true, List.length_cons, List.length_append, hl, List.length_nil, Bool.false_eq_true, if_false] at h ⊢
  all_goals repeat (refine ah (by first | rfl | omega | (simp only [ByteArray.size_append, zU, zC, zP, zE, zF]; omega)) ?_)
  all_goals refine Ev.step (fun k => by rw [du]) ?_
  all_goals repeat (first | refine ah (by first | rfl | omega | (simp only [ByteArray.size_append, zU, zC, zP, zE, zF]; omega)) ?_ | refine aJ (by decide) ?_)
  all_goals refine Ev.val (kR ?_)
  all_goals simp [cX, bU, bC, bP, bE, bF]
theorem lT (sp nm R Q f : ByteArray) (hR hQ hf : Bool) (e : Int) (h : (iK (sp, nm, R, Q, f, hR, hQ, hf, e)).length ≤ 1000000) : Ev (fun k => dn k sp nm R Q f hR hQ hf) (strOfNums (iK (sp, nm, R, Q, f, hR, hQ, hf, e))) := by
  unfold iK at h ⊢
  unfold dn
  dsimp only at h ⊢
  have hl := @bl
  have zU : (⟨#[117, 114, 110, 58]⟩ : ByteArray).size = 4 := rfl
  have zC : (⟨#[58]⟩ : ByteArray).size = 1 := rfl
  have zP : (⟨#[63, 43]⟩ : ByteArray).size = 2 := rfl
  have zE : (⟨#[63, 61]⟩ : ByteArray).size = 2 := rfl
  have zF : (⟨#[35]⟩ : ByteArray).size = 1 := rfl
  cases hR <;> cases hQ <;> cases hf <;> simp only [eq_self, if_true, List.length_cons, List.length_append, hl, List.length_nil, Bool.false_eq_true, if_false] at h ⊢
  all_goals repeat (refine ah (by first | rfl | omega | (simp only [ByteArray.size_append, zU, zC, zP, zE, zF]; omega)) ?_)
  all_goals refine Ev.step (fun k => by rw [cv]) ?_
  all_goals repeat (first | refine ah (by first | rfl | omega | (simp only [ByteArray.size_append, zU, zC, zP, zE, zF]; omega)) ?_ | refine aJ (by decide) ?_)
  all_goals refine Ev.val (kR ?_)
  all_goals simp [cX, bU, bC, bP, bE, bF]
theorem nk (l : List Int) : (fq l).length = l.length := by unfold fq; rw [List.length_map]
theorem n8 (l : List Int) : (dC (fun b => some (ew b)) l).length ≤ l.length := nn (fun b u h => by rw [← Option.some.inj h]; exact Nat.le_refl 3) l.length l rfl
theorem nv {l : List Int} (h : ∀ b ∈ l, 0 ≤ b ∧ b ≤ 255) : ∀ b ∈ dC (fun b => some (ew b)) l, 0 ≤ b ∧ b ≤ 255 := nl (fun b h0 h1 u hu c hc => by rw [← Option.some.inj hu] at hc; exact gh h0 h1 c hc) l.length l rfl h
theorem mU (sp nm : ByteArray) (hs : sp.size ≤ 1000000) (hn : nm.size ≤ 1000000) : 4 + (strOfNums (fq (ae sp))).size ≤ 9223372036854775807 ∧ ((⟨#[117, 114, 110, 58]⟩ : ByteArray) ++ strOfNums (fq (ae sp))).size + 1 ≤ 9223372036854775807 ∧ ((((⟨#[117, 114, 110, 58]⟩ : ByteArray) ++ strOfNums (fq (ae sp))) ++ (⟨#[58]⟩ : ByteArray)).size + (strOfNums (dC (fun b => some (ew b)) (ae nm))).size ≤ 9223372036854775807) ∧ ((((⟨#[117, 114, 110, 58]⟩ : ByteArray) ++ strOfNums (fq (ae sp))) ++ (⟨#[58]⟩ : ByteArray)) ++ strOfNums (dC (fun b => some (ew b)) (ae nm))) = strOfNums (mr sp nm) := by
  have h1 := ms (kz sp)
  have h2 := nv (kz nm)
  have z1 : (strOfNums (fq (ae sp))).size = sp.size := by rw [ik h1, nk, bl]
  have z2 : (strOfNums (dC (fun b => some (ew b)) (ae nm))).size ≤ nm.size := by rw [ik h2, ← bl]; exact n8 _
  have zU : (⟨#[117, 114, 110, 58]⟩ : ByteArray).size = 4 := rfl
  have zC : (⟨#[58]⟩ : ByteArray).size = 1 := rfl
  refine ⟨by omega, by simp only [ByteArray.size_append, zU]; omega, by simp only [ByteArray.size_append, zU, zC]; omega, kR ?_⟩
  rw [cX, cX, cX, fu h1, fu h2, bU, bC]
  unfold mr
  simp
theorem nK (sp nm R Q f : ByteArray) (hR hQ hf : Bool) (hs : sp.size ≤ 1000000) (hn : nm.size ≤ 1000000) : Ev (fun k => ci k sp nm R Q f hR hQ hf) (strOfNums (mr sp nm)) := by
  obtain ⟨h1, h2, h3, h4⟩ := mU sp nm hs hn
  unfold ci
  exact hO (mt sp hs) (ah h1 (ah h2 (bx (mi nm hn) (ah h3 (Ev.val h4)))))
theorem mA (sp nm R Q f : ByteArray) (hR hQ hf : Bool) (hs : sp.size ≤ 1000000) (hn : nm.size ≤ 1000000) : Ev (fun k => dD k sp nm R Q f hR hQ hf) (strOfNums (mr sp nm)) := by
  obtain ⟨h1, h2, h3, h4⟩ := mU sp nm hs hn
  unfold dD
  exact bx (mB sp hs) (ah h1 (ah h2 (bx (lW nm hn) (ah h3 (Ev.val h4)))))
end Go.Proofs.YtojdiklegmhakaaDoor.Y
namespace Go.Proofs.YtojdiklegmhakaaDoor.Y
open Go.RowKit Go.Proofs.YtojdiklegmhakaaDoor.X Go.Proofs.YtojdiklegmhakaaDoor.M Go.Proofs.YtojdiklegmhakaaDoorW.PrintWords Go.Proofs.YtojdiklegmhakaaDoorW.PrintLast Go.Proofs.YtojdiklegmhakaaDoorW.PrintMore
theorem kx : Ev (fun k => bG k) true := jQ (fun k => ir k) (k := 60) (by decide +kernel)
end Go.Proofs.YtojdiklegmhakaaDoor.Y
namespace Go.Proofs.YtojdiklegmhakaaDoor.Pure
open Go.RowKit Go.Proofs.YtojdiklegmhakaaDoor.X Go.Proofs.YtojdiklegmhakaaDoor.M Go.Proofs.YtojdiklegmhakaaDoor.Y Go.Proofs.YtojdiklegmhakaaDoorW.PrintWords Go.Proofs.YtojdiklegmhakaaDoorW.PrintLast Go.Proofs.YtojdiklegmhakaaDoorW.PrintMore
theorem ox {a b c d e : Nat} (ha : a ≤ 140737488351232) (hb : b ≤ 140737488351232) (hc : c ≤ 140737488351232) (hd : d ≤ 140737488351232) (he : e ≤ 140737488351232)
    (h : ¬ wrap64 (wrap64 (wrap64 (wrap64 ((a : Int) + (b : Int)) + (c : Int)) + (d : Int)) + (e : Int)) > 300) : a + b + c + d + e ≤ 300 := by
  rw [w64 (x := (a : Int) + (b : Int)) (by omega) (by omega), w64 (x := (a : Int) + (b : Int) + (c : Int)) (by omega) (by omega), w64 (x := (a : Int) + (b : Int) + (c : Int) + (d : Int)) (by omega) (by omega), w64 (by omega) (by omega)] at h
  omega
theorem UrnTexts : ∀ (Aa : ByteArray) (Ab : ByteArray) (Ac : ByteArray) (Ad : ByteArray) (Ae : ByteArray) (Af : Bool) (Ag : Bool) (Ah : Bool), Aa.size ≤ 140737488351232 → Ab.size ≤ 140737488351232 → Ac.size ≤ 140737488351232 → Ad.size ≤ 140737488351232 → Ae.size ≤ 140737488351232 → ∃ k, X.dk k Aa Ab Ac Ad Ae Af Ag Ah = some true := by
  intro sp nm R Q f hR hQ hf h0 h1 h2 h3 h4
  refine mF (r := true) ?_
  unfold dk
  refine Ev.ite (fun _ => bx kx (cW _)) (fun hs => ?_)
  have hz := ox h0 h1 h2 h3 h4 hs
  clear hs
  have hlen : (iK (sp, nm, R, Q, f, hR, hQ, hf, 0)).length ≤ 1000000 := by
    unfold iK
    cases hR <;> cases hQ <;> cases hf <;> simp [bl] <;> omega
  refine bx (nu sp nm R Q f hR hQ hf 0 hlen) (bx (lT sp nm R Q f hR hQ hf 0 hlen) (ah rfl (bx (nK sp nm R Q f hR hQ hf (by omega) (by omega)) (bx (mA sp nm R Q f hR hQ hf (by omega) (by omega)) (ah rfl (bx kx (cW _)))))))
end Go.Proofs.YtojdiklegmhakaaDoor.Pure
