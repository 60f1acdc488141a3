/- Texts that the law's proof needs, joined by a program of this session. -/
import Derived.Test.YtpmflpeckoeooaaGreatDoorZSyntaxParses0
import Derived.Test.YtpmflpeckoeooaaGreatDoorZSyntaxParses1
import Derived.Test.YtpmflpeckoeooaaGreatDoorProg
import Derived.Below
import Derived.Deep.Draws
import Derived.Deep.AppendLies
import Derived.Maps.AppendAt
import Derived.OwnWalk
import Derived.Laws.BytesArg
import Derived.Laws.MakeOwn
import Derived.Laws.OwnMore
import Derived.Deep.OwnRows
import Derived.Tactics
import Derived.Lib.ConvBytes
import Derived.Laws.Slices
import Derived.WalkKit
import Derived.KernelRfl
import Derived.RowKit3
import Derived.Deep.LoopGhost
import Derived.Deep.QuietTactic
import Derived.BigQuiet
import Derived.WideLaws
import Derived.Deep.DeepCutAuto
import Derived.Deep.CutBlock
import Derived.Deep.RegionHeld3
import Derived.Laws.Rows
import Derived.Lib.AppendStr
import Derived.ArgAppend
import Derived.Laws.IdiomCopy
import Derived.OrdersHeld
import Derived.Laws.BitsLemmas
import Derived.RowKit
import Derived.ChangeKeysEq
import Derived.Deep.RegionWith
import Derived.Laws.CopyOwn
import Derived.Laws.CopyRow
import Derived.Laws.Externs
import Derived.Laws.IdiomStrings
import Derived.Laws.NewBlocks
import Derived.Laws.RangeAny
import Derived.Laws.Tables
import Derived.Lib.AppendIntMem
import Derived.Lib.Bytealg
import Derived.Lib.Index
import Derived.Lib.OthersKept
import Derived.Lib.SlBuf
import Derived.Lib.Split
import Derived.Lib.SplitLaws
set_option maxHeartbeats 8000000
set_option maxRecDepth 100000
set_option linter.unusedSimpArgs false
set_option linter.unusedVariables false
namespace Go.Proofs.YtpmflpeckoeooaaGreatDoor.X
open Go.RowKit Go.Proofs.YtpmflpeckoeooaaGreatDoorW.PrintWords Go.Proofs.YtpmflpeckoeooaaGreatDoorW.PrintLast Go.Proofs.YtpmflpeckoeooaaGreatDoorW.PrintMore
attribute [local go_sem] ez ea gJ iY dq ir cv ia ic iU iV gz gA ib ie
theorem fx (l : List UInt8) : l.isEmpty = (l == []) := by cases l <;> rfl
structure GW (w : World) : Prop where
  maxLen : ∃ m, w.cell? ⟨0, 0, none⟩ = some (.int .i64 m)
theorem eZ {w w' : World} (h : GW w) (hb : Below w.heap.size w w') : GW w' := by
  obtain ⟨m, hm⟩ := h.maxLen
  exact ⟨⟨m, ke hb hm⟩⟩
theorem nu {w w' : World} (h : GW w) (hd : Drawn0 w w') : GW w' := eZ h hd.below
def yB : Option Int → Value
  | none => .nilIface
  | some c => .iface 0 (.int .i64 c)
theorem b7 : yB none = .nilIface := rfl
theorem b8 (c : Int) : yB (some c) = .iface 0 (.int .i64 c) := rfl
theorem xr : (Tryz.prog.info? 3).map (fun i => (i.zero, i.size, i.bytes)) = some (some (.int .i64 0), 1, 8) := by kernel_rfl
theorem iP : (Tryz.prog.info? 5).map (fun i => (i.zero, i.size, i.bytes)) = some (some (.int .u8 0), 1, 1) := by kernel_rfl
theorem yY : (Tryz.prog.info? 9).map (fun i => (i.zero, i.size, i.bytes)) = some (some (.string ⟨#[]⟩), 1, 16) := by kernel_rfl
theorem vq : (Tryz.prog.info? 67).map (fun i => (i.zero, i.size, i.bytes)) = some (some (.agg #[(.bool false), (.string ⟨#[]⟩), (.string ⟨#[]⟩), (.bool false), (.string ⟨#[]⟩)]), 5, 64) := by kernel_rfl
theorem tp : (Tryz.prog.info? 111).map (fun i => (i.zero, i.size, i.bytes)) = some (some (.int .u16 0), 1, 2) := by kernel_rfl
structure S67 where
  f0 : Bool
  f1 : ByteArray
  f2 : ByteArray
  f3 : Bool
  f4 : ByteArray
def k67 : Kd S67 := Kd.iso (Kd.pair Kd.bool (Kd.pair Kd.string (Kd.pair Kd.string (Kd.pair Kd.bool Kd.string)))) (fun x : S67 => (x.f0, x.f1, x.f2, x.f3, x.f4))
theorem tq (w : World) (base : Nat) (ok : Nat → Prop) (x : S67)  : k67.M w base ok x [.bool x.f0, .string x.f1, .string x.f2, .bool x.f3, .string x.f4] := ⟨[.bool x.f0], [.string x.f1, .string x.f2, .bool x.f3, .string x.f4], rfl, rfl, ⟨[.string x.f1], [.string x.f2, .bool x.f3, .string x.f4], rfl, rfl, ⟨[.string x.f2], [.bool x.f3, .string x.f4], rfl, rfl, ⟨[.bool x.f3], [.string x.f4], rfl, rfl, rfl⟩⟩⟩⟩
structure S24 where
  f0 : ByteArray
  f1 : Bool
  f2 : ByteArray
  f3 : ByteArray
  f4 : Bool
  f5 : ByteArray
  f6 : Bool
  f7 : ByteArray
def z24 : S24 := ⟨(⟨#[]⟩ : ByteArray), false, (⟨#[]⟩ : ByteArray), (⟨#[]⟩ : ByteArray), false, (⟨#[]⟩ : ByteArray), false, (⟨#[]⟩ : ByteArray)⟩
theorem yW (d : Nat) (w : World) (x0 y0 : ByteArray) (x1 y1 : Bool) (x2 y2 : ByteArray) (x3 y3 : ByteArray) (x4 y4 : Bool) (x5 y5 : ByteArray) (x6 y6 : Bool) (x7 y7 : ByteArray) :
    (Op.equalIn (d + 2) 24 (.agg #[.string x0, .bool x1, .string x2, .string x3, .bool x4, .string x5, .bool x6, .string x7]) (.agg #[.string y0, .bool y1, .string y2, .string y3, .bool y4, .string y5, .bool y6, .string y7])).run Tryz.prog w = .ok (x0.toList == y0.toList && (x1 == y1 && (x2.toList == y2.toList && (x3.toList == y3.toList && (x4 == y4 && (x5.toList == y5.toList && (x6 == y6 && (x7.toList == y7.toList)))))))) w := by
  refine yA Tryz.underlying24 (by kernel_rfl) ?_
  refine kh (by rfl) (by go_simp; rfl) (by go_simp; rfl) (by go_simp) ?_
  refine kh (by rfl) (by go_simp; rfl) (by go_simp; rfl) (by go_simp) ?_
  refine kh (by rfl) (by go_simp; rfl) (by go_simp; rfl) (by go_simp) ?_
  refine kh (by rfl) (by go_simp; rfl) (by go_simp; rfl) (by go_simp) ?_
  refine kh (by rfl) (by go_simp; rfl) (by go_simp; rfl) (by go_simp) ?_
  refine kh (by rfl) (by go_simp; rfl) (by go_simp; rfl) (by go_simp) ?_
  refine kh (by rfl) (by go_simp; rfl) (by go_simp; rfl) (by go_simp) ?_
  exact ww (by rfl) (by go_simp; rfl) (by go_simp; rfl) (by go_simp)
def eR (a0 : Int) : Option (Bool) := if a0 = 4 then (some true) else (some (a0 == 5))
theorem aM (a0 : Int) (r : Bool) (w : World) (h : eR a0 = some r) :
    Calls Tryz.prog 15 #[.int .i64 a0] w fun e w' => e = .returned (.bool r) ∧ Drawn0 w w' := by
 have H := h
 clear h
 unfold eR at H
 refine xid H ?_ ?_ <;> clear H <;> intro c2 H
 {
 obtain ⟨c2b0, c2b1⟩ := xqe c2
 clear c2
 obtain rfl := Option.some.inj H
 go_enter Tryz.func15, Tryz.ntmps15
 go_wp2
 go_ret
 exact ⟨xrr, xdr⟩
 }
 obtain ⟨c2b0, c2b1⟩ := xqn c2
 obtain rfl := Option.some.inj H
 go_enter Tryz.func15, Tryz.ntmps15
 go_wp2
 go_ret
 exact ⟨xrr, xdr⟩
mutual
def fU : Nat → Int → Bool → Option (Int × Int × Int)
  | 0, _, _ => none
  | k + 1, x0, x8 => if x8 = true then (some (2, 128, 191)) else (if x0 = 224 then (some (3, 160, 191)) else (if x0 = 237 then (some (3, 128, 159)) else (if x0 ≥ 225 then (fV k x0 (decide (x0 ≤ 239))) else (fV k x0 false))))
def fV : Nat → Int → Bool → Option (Int × Int × Int)
  | 0, _, _ => none
  | k + 1, x0, x21 => if x21 = true then (some (3, 128, 191)) else (if x0 = 240 then (some (4, 144, 191)) else (if x0 = 244 then (some (4, 128, 143)) else (if x0 ≥ 241 then (if x0 ≤ 243 then (some (4, 128, 191)) else (some (0, 0, 0))) else (some (0, 0, 0)))))
end
def hD (k : Nat) (a0 : Int) : Option (Int × Int × Int) := if a0 < 128 then (some (1, 0, 0)) else (if a0 ≥ 194 then (fU k a0 (decide (a0 ≤ 223))) else (fU k a0 false))
theorem mw : ∀ k, (∀ y0 y1, LeO (fU k y0 y1) (fU (k + 1) y0 y1)) ∧ (∀ y0 y1, LeO (fV k y0 y1) (fV (k + 1) y0 y1))
  | 0 => ⟨fun _ _ r h => by simp [fU] at h, fun _ _ r h => by simp [fV] at h⟩
  | k + 1 => by
    obtain ⟨ih0, ih1⟩ := mw k
    refine ⟨?_, ?_⟩
    · intro y0 y1
      unfold fU
      exact xmo
    · intro y0 y1
      unfold fV
      exact xmo
theorem kZ : ∀ a0 k, LeO (hD k a0) (hD (k + 1) a0) := by
  intro a0 k
  obtain ⟨ih0, ih1⟩ := mw k
  unfold hD
  exact xmo
theorem mQ (k : Nat) (a0 : Int) (r1 : Int) (r2 : Int) (r3 : Int) (w : World) (h : hD k a0 = some (r1, r2, r3)) :
    Calls Tryz.prog 73 #[.int .u8 a0] w fun e w' => e = .returned (.tuple #[.int .i64 r1, .int .u8 r2, .int .u8 r3]) ∧ Drawn0 w w' := by
 have H := h
 clear h
 unfold hD at H
 refine xid H ?_ ?_ <;> clear H <;> intro c2 H
 {
 have Ae := xdt c2
 clear c2
 simp only [Option.some.injEq, Prod.mk.injEq] at H
 obtain ⟨rfl, rfl, rfl⟩ := H
 go_enter Tryz.func73, Tryz.ntmps73
 go_wp2
 go_ret3
 exact ⟨xrr, xdr⟩
 }
 have Ae := xdf c2
 clear c2
 have Ap := Zz.mk H
 clear H
 go_enter Tryz.func73, Tryz.ntmps73
 go_upto_region 3 with (fail)
 go_cut [8] (fun v8 wc => ∃ kq Ad, v8 = .bool Ad ∧ Zz (fU kq a0 Ad = some (r1, r2, r3)) ∧ Zz (kq ≤ k) ∧ Drawn0 w wc)
 case first => (
 have H := Ap.out
 clear Ap
 refine xid H ?_ ?_ <;> clear H <;> intro c4 H
 {
 have Aa := xdt c4
 clear c4
 (first | rw [Aa] | (simp only [ag, ak]; rw [Aa]) | skip)
 replace H := xa H
 go_wp2
 go_meet
 case rel => exact ⟨_, (decide (a0 ≤ 223)), xrr, H, ⟨xom⟩, xdr⟩
 }
 have Aa := xdf c4
 clear c4
 (first | rw [Aa] | (simp only [ag, ak]; rw [Aa]) | skip)
 replace H := xa H
 go_wp2
 go_meet
 case rel => exact ⟨_, (false), xrr, H, ⟨xom⟩, xdr⟩
 )
 case rest => (
 clear Ap
 clear Ae
 obtain ⟨kq, Ad, rfl, HA, HJ2, ⟨mc2, rfl⟩⟩ := hcut
 cases kq with
 | zero => exact absurd HA.out (by simp [fU])
 | succ kj2 => (
 have H := HA.out
 clear HA
 simp only [fU] at H
 refine xib H ?_ ?_ <;> clear H <;> rintro rfl H
 {
 simp only [Option.some.injEq, Prod.mk.injEq] at H
 obtain ⟨rfl, rfl, rfl⟩ := H
 go_wp2
 go_ret3
 exact ⟨xrr, xdr⟩
 }
 refine xid H ?_ ?_ <;> clear H <;> intro c6 H
 {
 obtain ⟨Af, Ag⟩ := xqe c6
 clear c6
 simp only [Option.some.injEq, Prod.mk.injEq] at H
 obtain ⟨rfl, rfl, rfl⟩ := H
 go_wp2
 go_ret3
 exact ⟨xrr, xdr⟩
 }
 obtain ⟨Af, Ag⟩ := xqn c6
 refine xid H ?_ ?_ <;> clear H <;> intro c7 H
 {
 obtain ⟨Ah, Ai⟩ := xqe c7
 clear c7
 simp only [Option.some.injEq, Prod.mk.injEq] at H
 obtain ⟨rfl, rfl, rfl⟩ := H
 go_wp2
 go_ret3
 exact ⟨xrr, xdr⟩
 }
 obtain ⟨Ah, Ai⟩ := xqn c7
 have Aq := Zz.mk H
 clear H
 go_upto_region 9 with (fail)
 go_cut [21] (fun v21 wc => ∃ kq Ab, v21 = .bool Ab ∧ Zz (fV kq a0 Ab = some (r1, r2, r3)) ∧ Zz (kq ≤ kj2) ∧ Drawn0 w wc)
 case first => (
 have H := Aq.out
 clear Aq
 refine xid H ?_ ?_ <;> clear H <;> intro c9 H
 {
 have Ac := xdt c9
 clear c9
 (first | rw [Ac] | (simp only [ag, ak]; rw [Ac]) | skip)
 replace H := xa H
 go_wp2
 go_meet
 case rel => exact ⟨_, (decide (a0 ≤ 239)), xrr, H, ⟨xoj HJ2⟩, xdr⟩
 }
 have Ac := xdf c9
 clear c9
 (first | rw [Ac] | (simp only [ag, ak]; rw [Ac]) | skip)
 replace H := xa H
 go_wp2
 go_meet
 case rel => exact ⟨_, (false), xrr, H, ⟨xoj HJ2⟩, xdr⟩
 )
 case rest => (
 clear Aq
 clear Af Ag Ah Ai
 obtain ⟨kq, Ab, rfl, HA, HJ7, ⟨mc7, rfl⟩⟩ := hcut
 cases kq with
 | zero => exact absurd HA.out (by simp [fV])
 | succ kj7 => (
 have H := HA.out
 clear HA
 simp only [fV] at H
 refine xib H ?_ ?_ <;> clear H <;> rintro rfl H
 {
 simp only [Option.some.injEq, Prod.mk.injEq] at H
 obtain ⟨rfl, rfl, rfl⟩ := H
 go_wp2
 go_ret3
 exact ⟨xrr, xdr⟩
 }
 refine xid H ?_ ?_ <;> clear H <;> intro c11 H
 {
 obtain ⟨Aj, Ak⟩ := xqe c11
 clear c11
 simp only [Option.some.injEq, Prod.mk.injEq] at H
 obtain ⟨rfl, rfl, rfl⟩ := H
 go_wp2
 go_ret3
 exact ⟨xrr, xdr⟩
 }
 obtain ⟨Aj, Ak⟩ := xqn c11
 refine xid H ?_ ?_ <;> clear H <;> intro c12 H
 {
 obtain ⟨Al, Am⟩ := xqe c12
 clear c12
 simp only [Option.some.injEq, Prod.mk.injEq] at H
 obtain ⟨rfl, rfl, rfl⟩ := H
 go_wp2
 go_ret3
 exact ⟨xrr, xdr⟩
 }
 obtain ⟨Al, Am⟩ := xqn c12
 refine xid H ?_ ?_ <;> clear H <;> intro c13 H
 {
 have An := xdt c13
 clear c13
 refine xid H ?_ ?_ <;> clear H <;> intro c14 H
 {
 have Ao := xdt c14
 clear c14
 simp only [Option.some.injEq, Prod.mk.injEq] at H
 obtain ⟨rfl, rfl, rfl⟩ := H
 go_wp2
 go_ret3
 exact ⟨xrr, xdr⟩
 }
 have Ao := xdf c14
 clear c14
 simp only [Option.some.injEq, Prod.mk.injEq] at H
 obtain ⟨rfl, rfl, rfl⟩ := H
 go_wp2
 go_ret3
 exact ⟨xrr, xdr⟩
 }
 have An := xdf c13
 clear c13
 simp only [Option.some.injEq, Prod.mk.injEq] at H
 obtain ⟨rfl, rfl, rfl⟩ := H
 go_wp2
 go_ret3
 exact ⟨xrr, xdr⟩
 )
 )
 )
 )
def fj : Nat → ByteArray → Int → Int → Int → Int → Option (Int × Int)
  | 0, _, _, _, _, _ => none
  | k + 1, x0, x4, x5, x6, x7 => if x7 < x4 then (if x7 < (x0.size : Int) then (if 0 ≤ x7 then (if (bt x0 x7) ≥ x5 then (if (bt x0 x7) ≤ x6 then (fj k x0 x4 128 191 (wrap64 (x7 + 1))) else (some (x7, x4))) else (some (x7, x4))) else (none)) else (some (x7, x4))) else (some (x7, x4))
def g9 (k : Nat) (a0 : ByteArray) : Option (Int × Int) := if (a0.size : Int) = 0 then (some (0, 0)) else (if 0 < (a0.size : Int) then ((hD k (bt a0 0)).bind fun bt101 => (if bt101.1 = 0 then (some (1, 0)) else (fj k a0 bt101.1 bt101.2.1 bt101.2.2 1))) else (none))
theorem mv : ∀ k, (∀ y0 y1 y2 y3 y4, LeO (fj k y0 y1 y2 y3 y4) (fj (k + 1) y0 y1 y2 y3 y4))
  | 0 => fun _ _ _ _ _ r h => by simp [fj] at h
  | k + 1 => by
    have ih0 := mv k
    have m0 := @kZ
    · intro y0 y1 y2 y3 y4
      unfold fj
      exact xmo
theorem nt : ∀ a0 k, LeO (g9 k a0) (g9 (k + 1) a0) := by
  intro a0 k
  have ih0 := mv k
  have m0 := @kZ
  unfold g9
  exact xmo
theorem kN (k : Nat) (a0 : ByteArray) (r1 : Int) (r2 : Int) (w : World) (h : g9 k a0 = some (r1, r2)) :
    Calls Tryz.prog 60 #[.string a0] w fun e w' => e = .returned (.tuple #[.int .i64 r1, .int .i64 r2]) ∧ Drawn0 w w' := by
 have H := h
 clear h
 unfold g9 at H
 refine xid H ?_ ?_ <;> clear H <;> intro c2 H
 {
 obtain ⟨Ad, Ae⟩ := xqe c2
 clear c2
 simp only [Option.some.injEq, Prod.mk.injEq] at H
 obtain ⟨rfl, rfl⟩ := H
 go_enter Tryz.func60, Tryz.ntmps60
 go_wp2
 go_ret2
 exact ⟨xrr, xdr⟩
 }
 obtain ⟨Ad, Ae⟩ := xqn c2
 refine xin H ?_; clear H; intro c3 H
 have Aj := xdt c3
 have Ak : decide (0 < a0.size) = true := decide_eq_true (by omega)
 clear c3
 replace H := xbd H
 obtain ⟨⟨Al, Am, An⟩, A5, H⟩ := H
 try dsimp only at H
 refine xid H ?_ ?_ <;> clear H <;> intro c6 H
 {
 obtain ⟨Af, Ag⟩ := xqe c6
 clear c6
 simp only [Option.some.injEq, Prod.mk.injEq] at H
 obtain ⟨rfl, rfl⟩ := H
 obtain ⟨q4, Aq, hx4⟩ := xi0 a0 xod
 go_enter Tryz.func60, Tryz.ntmps60
 go_wp2_with (first | ((with_reducible refine xgc (f := 73) rfl ?_); refine xca 14 Tryz.func73 (mQ (w := _) (h := A5.out)) ?_; rintro w' ⟨nd, rfl⟩))
 go_ret2
 exact ⟨xrr, xdr⟩
 }
 obtain ⟨Af, Ag⟩ := xqn c6
 have H' := Zz.mk H
 clear H
 obtain ⟨q4, Aq, hx4⟩ := xi0 a0 xod
 go_enter Tryz.func60, Tryz.ntmps60
 go_wp2_with (first | ((with_reducible refine xgc (f := 73) rfl ?_); refine xca 14 Tryz.func73 (mQ (w := _) (h := A5.out)) ?_; rintro w' ⟨nd, rfl⟩))
 go_loopg [5, 6, 7] k (fun kq v5 v6 v7 w' => ∃ Ab Ac Aa, v5 = .int .u8 Ab ∧ v6 = .int .u8 Ac ∧ v7 = .int .i64 Aa ∧ Zz (fj kq a0 Al Ab Ac Aa = some (r1, r2)) ∧ Zz (kq ≤ k) ∧ Drawn0 w w')
 case atStart => exact ⟨(Am), (An), (1), xrr, xrr, xrr, H', ⟨Nat.le_refl _⟩, xdr⟩
 case round => (
 clear H'
 clear Ad Ae Aj Ak q4 hx4 Aq Af Ag
 obtain ⟨Ab, Ac, Aa, rfl, rfl, rfl, HA, HK1, ⟨m1, rfl⟩⟩ := hrel
 cases gk with
 | zero => exact absurd HA.out (by simp [fj])
 | succ k1 => (
 have H := HA.out
 clear HA
 simp only [fj] at H
 refine xid H ?_ ?_ <;> clear H <;> intro c7 H
 {
 have Ao := xdt c7
 clear c7
 refine xid H ?_ ?_ <;> clear H <;> intro c8 H
 {
 have Ap := xdt c8
 clear c8
 refine xin H ?_; clear H; intro c9 H
 have Ar := xdt c9
 clear c9
 refine xid H ?_ ?_ <;> clear H <;> intro c11 H
 {
 have Ah := xdt c11
 clear c11
 refine xid H ?_ ?_ <;> clear H <;> intro c13 H
 {
 have Ai := xdt c13
 clear c13
 replace H := xa H
 obtain ⟨p10, q10, hx10⟩ := xiv a0 Aa xod xod
 obtain ⟨p12, q12, hx12⟩ := xiv a0 Aa xod xod
 go_wp2
 go_roundg k1
 case measure => have := HK1.out; omega
 case rel => exact ⟨(128), (191), (wrap64 (Aa + 1)), xrr, xrr, xrr, H, ⟨by have := HK1.out; omega⟩, xdr⟩
 }
 have Ai := xdf c13
 clear c13
 simp only [Option.some.injEq, Prod.mk.injEq] at H
 obtain ⟨rfl, rfl⟩ := H
 obtain ⟨p10, q10, hx10⟩ := xiv a0 Aa xod xod
 obtain ⟨p12, q12, hx12⟩ := xiv a0 Aa xod xod
 go_wp2
 go_ret2
 exact ⟨xrr, xdr⟩
 }
 have Ah := xdf c11
 clear c11
 simp only [Option.some.injEq, Prod.mk.injEq] at H
 obtain ⟨rfl, rfl⟩ := H
 obtain ⟨p10, q10, hx10⟩ := xiv a0 Aa xod xod
 go_wp2
 go_ret2
 exact ⟨xrr, xdr⟩
 }
 have Ap := xdf c8
 clear c8
 simp only [Option.some.injEq, Prod.mk.injEq] at H
 obtain ⟨rfl, rfl⟩ := H
 go_wp2
 go_ret2
 exact ⟨xrr, xdr⟩
 }
 have Ao := xdf c7
 clear c7
 simp only [Option.some.injEq, Prod.mk.injEq] at H
 obtain ⟨rfl, rfl⟩ := H
 go_wp2
 go_ret2
 exact ⟨xrr, xdr⟩
 )
 )
mutual
def dA : Nat → ByteArray → Int → Int → Bool → Option (Int × Int × Bool)
  | 0, _, _, _, _ => none
  | k + 1, x0, x5, x6, x20 => if x20 = true then (some (0, x5, false)) else (if 0 < (x0.size : Int) then (if 0 ≤ x6 then (if x6 = 0 then (aZ k x0 (wrap32 (Go.bits .and .u8 (bt x0 0) 0)) x6 1) else (if x6 = 1 then (aZ k x0 (wrap32 (Go.bits .and .u8 (bt x0 0) 127)) x6 1) else (if x6 = 2 then (aZ k x0 (wrap32 (Go.bits .and .u8 (bt x0 0) 31)) x6 1) else (if x6 = 3 then (aZ k x0 (wrap32 (Go.bits .and .u8 (bt x0 0) 15)) x6 1) else (if x6 = 4 then (aZ k x0 (wrap32 (Go.bits .and .u8 (bt x0 0) 7)) x6 1) else (none)))))) else (none)) else (none))
def aZ : Nat → ByteArray → Int → Int → Int → Option (Int × Int × Bool)
  | 0, _, _, _, _ => none
  | k + 1, x0, x2, x6, x8 => if x8 < x6 then (if 0 ≤ x8 then (if x8 < (x0.size : Int) then (aZ k x0 (Go.bits .or .i32 (wrap32 (x2 * 64)) (wrap32 (Go.bits .and .u8 (bt x0 x8) 63))) x6 (wrap64 (x8 + 1))) else (none)) else (none)) else (some (x2, x6, true))
end
def fT (k : Nat) (a0 : ByteArray) : Option (Int × Int × Bool) := (g9 k a0).bind fun Aa => (if Aa.2 = 0 then (dA k a0 Aa.1 Aa.2 true) else (dA k a0 Aa.1 Aa.2 (decide (Aa.1 < Aa.2))))
theorem lK : ∀ k, (∀ y0 y1 y2 y3, LeO (dA k y0 y1 y2 y3) (dA (k + 1) y0 y1 y2 y3)) ∧ (∀ y0 y1 y2 y3, LeO (aZ k y0 y1 y2 y3) (aZ (k + 1) y0 y1 y2 y3))
  | 0 => ⟨fun _ _ _ _ r h => by simp [dA] at h, fun _ _ _ _ r h => by simp [aZ] at h⟩
  | k + 1 => by
    obtain ⟨ih0, ih1⟩ := lK k
    have m0 := @nt
    refine ⟨?_, ?_⟩
    · intro y0 y1 y2 y3
      unfold dA
      exact xmo
    · intro y0 y1 y2 y3
      unfold aZ
      exact xmo
theorem kM : ∀ a0 k, LeO (fT k a0) (fT (k + 1) a0) := by
  intro a0 k
  obtain ⟨ih0, ih1⟩ := lK k
  have m0 := @nt
  unfold fT
  exact xmo
theorem iq (k : Nat) (a0 : ByteArray) (r1 : Int) (r2 : Int) (r3 : Bool) (w : World) (h : fT k a0 = some (r1, r2, r3)) :
    Calls Tryz.prog 44 #[.string a0] w fun e w' => e = .returned (.tuple #[.int .i32 r1, .int .i64 r2, .bool r3]) ∧ Below w.heap.size w w' := by
 have hu86 := Tryz.underlying86
 have HB := Zz.mk (Below.refl w.heap.size w)
 have H := h
 clear h
 unfold fT at H
 replace H := xbd H
 obtain ⟨⟨Aj, Ag⟩, A2, H⟩ := H
 try dsimp only at H
 have Au := Zz.mk H
 clear H
 go_enter Tryz.func44, Tryz.ntmps44
 go_upto_region 2 with (first | (go_at_call 60; (with_reducible refine (kN (w := _) (h := A2.out)).mono ?_); rintro e w' ⟨rfl, ⟨nd, rfl⟩⟩; (try exact xdd)))
 repeat (go_quiet (first | (go_at_call 60; (with_reducible refine (kN (w := _) (h := A2.out)).mono ?_); rintro e w' ⟨rfl, ⟨nd, rfl⟩⟩; (try exact xdd))); go_upto_region 2 with (first | (go_at_call 60; (with_reducible refine (kN k a0 Aj Ag _ A2.out).mono ?_); rintro e w' ⟨rfl, ⟨nd, rfl⟩⟩; (try exact xdd))))
 (try simp only [Act.put, xl1, xl2, xl3])
 go_cut [20] (fun v20 wc => ∃ kq Ah, v20 = .bool Ah ∧ Zz (dA kq a0 Aj Ag Ah = some (r1, r2, r3)) ∧ Zz (kq ≤ k) ∧ Zz (Below w.heap.size w wc))
 case first => (
 have H := Au.out
 clear Au
 refine xid H ?_ ?_ <;> clear H <;> intro c4 H
 {
 obtain ⟨Ai, Av⟩ := xqe c4
 clear c4
 (first | rw [Ai] | (simp only [ag, ak]; rw [Ai]) | skip)
 replace H := xa H
 go_wp2
 repeat (go_quiet (fail); try go_wp2)
 go_meet
 case rel => exact ⟨_, (true), xrr, H, ⟨xom⟩, ⟨xbl⟩⟩
 }
 obtain ⟨Ai, Av⟩ := xqn c4
 (first | rw [Ai] | (simp only [ag, ak]; rw [Ai]) | skip)
 replace H := xa H
 go_wp2
 repeat (go_quiet (fail); try go_wp2)
 go_meet
 case rel => exact ⟨_, (decide (Aj < Ag)), xrr, H, ⟨xom⟩, ⟨xbl⟩⟩
 )
 case rest => (
 clear Au
 obtain ⟨kq, Ah, rfl, HA, HJ2, HB⟩ := hcut
 cases kq with
 | zero => exact absurd HA.out (by simp [dA])
 | succ kj2 => (
 have H := HA.out
 clear HA
 simp only [dA] at H
 refine xib H ?_ ?_ <;> clear H <;> rintro rfl H
 {
 simp only [Option.some.injEq, Prod.mk.injEq] at H
 obtain ⟨rfl, rfl, rfl⟩ := H
 go_wp2
 repeat (go_quiet (fail); try go_wp2)
 go_ret3
 exact ⟨xre, xbl⟩
 }
 refine xin H ?_; clear H; intro c6 H
 have Aw := xdt c6
 have Ax : decide (0 < a0.size) = true := decide_eq_true (by omega)
 clear c6
 refine xin H ?_; clear H; intro c8 H
 have Ay := xdt c8
 clear c8
 by_cases c9 : Ag = 0
 {
 subst c9
 rw [if_pos rfl] at H
 have H' := Zz.mk H
 clear H
 go_wp2_with (first | ((with_reducible refine aj (N := 7) rfl ?_); refine xew 7 ?_; intro Ac w10 Aa Ae hb hg; replace HB := xst hb; clear hb hg; have Ak := xz5 Aa.out; obtain ⟨q7, Af, hx7⟩ := xi0 a0 xod))
 repeat (go_quiet (first | ((with_reducible refine aj (N := 7) rfl ?_); refine xew 7 ?_; intro Ac w10 Aa Ae hb hg; replace HB := xst hb; clear hb hg; have Ak := xz5 Aa.out; obtain ⟨q7, Af, hx7⟩ := xi0 a0 xod)); try go_wp2_with (first | ((with_reducible refine aj (N := 7) rfl ?_); refine xew 7 ?_; intro Ac w10 Aa Ae hb hg; replace HB := xst hb; clear hb hg; have Ak := xz5 Aa.out; obtain ⟨q7, Af, hx7⟩ := xi0 a0 xod)))
 go_loopg [2, 8] kj2 (fun kq v2 v8 w' => ∃ Ad Ab, v2 = .int .i32 Ad ∧ v8 = .int .i64 Ab ∧ Zz (aZ kq a0 Ad 0 Ab = some (r1, r2, r3)) ∧ Zz (kq ≤ kj2) ∧ Zz (w'.heap[Ac]? = some (.cells #[.int .u8 0, .int .u8 127, .int .u8 31, .int .u8 15, .int .u8 7] 86 (0, 0))) ∧ Zz (Below w.heap.size w w'))
 case atStart => exact ⟨(wrap32 (Go.bits .and .u8 (bt a0 0) 0)), (1), xrr, xrr, H', ⟨Nat.le_refl _⟩, ⟨xbK⟩, ⟨xbl⟩⟩
 case round => (
 clear H'
 clear Aw Ax Ay
 try clear p7
 try clear q7
 try clear hx7
 try clear Af
 obtain ⟨Ad, Ab, rfl, rfl, HA, HK2, Aa, HB⟩ := hrel
 cases gk with
 | zero => exact absurd HA.out (by simp [aZ])
 | succ k2 => (
 have H := HA.out
 clear HA
 simp only [aZ] at H
 refine xid H ?_ ?_ <;> clear H <;> intro c12 H
 {
 have Al := xdt c12
 clear c12
 refine xin H ?_; clear H; intro c13 H
 have Az := xdt c13
 clear c13
 refine xin H ?_; clear H; intro c14 H
 have AA := xdt c14
 clear c14
 replace H := xa H
 obtain ⟨p15, q15, hx15⟩ := xiv a0 Ab xod xod
 go_wp2
 repeat (go_quiet (fail); try go_wp2)
 go_roundg k2
 case measure => have := HJ2.out; have := HK2.out; omega
 case rel => exact ⟨(Go.bits .or .i32 (wrap32 (Ad * 64)) (wrap32 (Go.bits .and .u8 (bt a0 Ab) 63))), (wrap64 (Ab + 1)), xrr, xrr, H, ⟨by have := HJ2.out; have := HK2.out; omega⟩, ⟨xbk⟩, ⟨xbl⟩⟩
 }
 have Al := xdf c12
 clear c12
 simp only [Option.some.injEq, Prod.mk.injEq] at H
 obtain ⟨rfl, rfl, rfl⟩ := H
 go_wp2
 repeat (go_quiet (fail); try go_wp2)
 go_ret3
 exact ⟨xre, xbl⟩
 )
 )
 }
 {
 rw [if_neg c9] at H
 clear c9
 by_cases c16 : Ag = 1
 {
 subst c16
 rw [if_pos rfl] at H
 have H' := Zz.mk H
 clear H
 go_wp2_with (first | ((with_reducible refine aj (N := 7) rfl ?_); refine xew 7 ?_; intro Ac w17 Aa Ae hb hg; replace HB := xst hb; clear hb hg; have Am := xz5 Aa.out; obtain ⟨q7, Af, hx7⟩ := xi0 a0 xod))
 repeat (go_quiet (first | ((with_reducible refine aj (N := 7) rfl ?_); refine xew 7 ?_; intro Ac w17 Aa Ae hb hg; replace HB := xst hb; clear hb hg; have Am := xz5 Aa.out; obtain ⟨q7, Af, hx7⟩ := xi0 a0 xod)); try go_wp2_with (first | ((with_reducible refine aj (N := 7) rfl ?_); refine xew 7 ?_; intro Ac w17 Aa Ae hb hg; replace HB := xst hb; clear hb hg; have Am := xz5 Aa.out; obtain ⟨q7, Af, hx7⟩ := xi0 a0 xod)))
 go_loopg [2, 8] kj2 (fun kq v2 v8 w' => ∃ Ad Ab, v2 = .int .i32 Ad ∧ v8 = .int .i64 Ab ∧ Zz (aZ kq a0 Ad 1 Ab = some (r1, r2, r3)) ∧ Zz (kq ≤ kj2) ∧ Zz (w'.heap[Ac]? = some (.cells #[.int .u8 0, .int .u8 127, .int .u8 31, .int .u8 15, .int .u8 7] 86 (0, 0))) ∧ Zz (Below w.heap.size w w'))
 case atStart => exact ⟨(wrap32 (Go.bits .and .u8 (bt a0 0) 127)), (1), xrr, xrr, H', ⟨Nat.le_refl _⟩, ⟨xbK⟩, ⟨xbl⟩⟩
 case round => (
 clear H'
 try clear p7
 try clear q7
 try clear hx7
 try clear Af
 obtain ⟨Ad, Ab, rfl, rfl, HA, HK2, Aa, HB⟩ := hrel
 cases gk with
 | zero => exact absurd HA.out (by simp [aZ])
 | succ k2 => (
 have H := HA.out
 clear HA
 simp only [aZ] at H
 refine xid H ?_ ?_ <;> clear H <;> intro c19 H
 {
 have An := xdt c19
 clear c19
 refine xin H ?_; clear H; intro c20 H
 have AB := xdt c20
 clear c20
 refine xin H ?_; clear H; intro c21 H
 have AC := xdt c21
 clear c21
 replace H := xa H
 obtain ⟨p22, q22, hx22⟩ := xiv a0 Ab xod xod
 go_wp2
 repeat (go_quiet (fail); try go_wp2)
 go_roundg k2
 case measure => have := HJ2.out; have := HK2.out; omega
 case rel => exact ⟨(Go.bits .or .i32 (wrap32 (Ad * 64)) (wrap32 (Go.bits .and .u8 (bt a0 Ab) 63))), (wrap64 (Ab + 1)), xrr, xrr, H, ⟨by have := HJ2.out; have := HK2.out; omega⟩, ⟨xbk⟩, ⟨xbl⟩⟩
 }
 have An := xdf c19
 clear c19
 simp only [Option.some.injEq, Prod.mk.injEq] at H
 obtain ⟨rfl, rfl, rfl⟩ := H
 go_wp2
 repeat (go_quiet (fail); try go_wp2)
 go_ret3
 exact ⟨xre, xbl⟩
 )
 )
 }
 {
 rw [if_neg c16] at H
 clear c16
 by_cases c23 : Ag = 2
 {
 subst c23
 rw [if_pos rfl] at H
 have H' := Zz.mk H
 clear H
 go_wp2_with (first | ((with_reducible refine aj (N := 7) rfl ?_); refine xew 7 ?_; intro Ac w24 Aa Ae hb hg; replace HB := xst hb; clear hb hg; have Ao := xz5 Aa.out; obtain ⟨q7, Af, hx7⟩ := xi0 a0 xod))
 repeat (go_quiet (first | ((with_reducible refine aj (N := 7) rfl ?_); refine xew 7 ?_; intro Ac w24 Aa Ae hb hg; replace HB := xst hb; clear hb hg; have Ao := xz5 Aa.out; obtain ⟨q7, Af, hx7⟩ := xi0 a0 xod)); try go_wp2_with (first | ((with_reducible refine aj (N := 7) rfl ?_); refine xew 7 ?_; intro Ac w24 Aa Ae hb hg; replace HB := xst hb; clear hb hg; have Ao := xz5 Aa.out; obtain ⟨q7, Af, hx7⟩ := xi0 a0 xod)))
 go_loopg [2, 8] kj2 (fun kq v2 v8 w' => ∃ Ad Ab, v2 = .int .i32 Ad ∧ v8 = .int .i64 Ab ∧ Zz (aZ kq a0 Ad 2 Ab = some (r1, r2, r3)) ∧ Zz (kq ≤ kj2) ∧ Zz (w'.heap[Ac]? = some (.cells #[.int .u8 0, .int .u8 127, .int .u8 31, .int .u8 15, .int .u8 7] 86 (0, 0))) ∧ Zz (Below w.heap.size w w'))
 case atStart => exact ⟨(wrap32 (Go.bits .and .u8 (bt a0 0) 31)), (1), xrr, xrr, H', ⟨Nat.le_refl _⟩, ⟨xbK⟩, ⟨xbl⟩⟩
 case round => (
 clear H'
 try clear p7
 try clear q7
 try clear hx7
 try clear Af
 obtain ⟨Ad, Ab, rfl, rfl, HA, HK2, Aa, HB⟩ := hrel
 cases gk with
 | zero => exact absurd HA.out (by simp [aZ])
 | succ k2 => (
 have H := HA.out
 clear HA
 simp only [aZ] at H
 refine xid H ?_ ?_ <;> clear H <;> intro c26 H
 {
 have Ap := xdt c26
 clear c26
 refine xin H ?_; clear H; intro c27 H
 have AD := xdt c27
 clear c27
 refine xin H ?_; clear H; intro c28 H
 have AE := xdt c28
 clear c28
 replace H := xa H
 obtain ⟨p29, q29, hx29⟩ := xiv a0 Ab xod xod
 go_wp2
 repeat (go_quiet (fail); try go_wp2)
 go_roundg k2
 case measure => have := HJ2.out; have := HK2.out; omega
 case rel => exact ⟨(Go.bits .or .i32 (wrap32 (Ad * 64)) (wrap32 (Go.bits .and .u8 (bt a0 Ab) 63))), (wrap64 (Ab + 1)), xrr, xrr, H, ⟨by have := HJ2.out; have := HK2.out; omega⟩, ⟨xbk⟩, ⟨xbl⟩⟩
 }
 have Ap := xdf c26
 clear c26
 simp only [Option.some.injEq, Prod.mk.injEq] at H
 obtain ⟨rfl, rfl, rfl⟩ := H
 go_wp2
 repeat (go_quiet (fail); try go_wp2)
 go_ret3
 exact ⟨xre, xbl⟩
 )
 )
 }
 {
 rw [if_neg c23] at H
 clear c23
 by_cases c30 : Ag = 3
 {
 subst c30
 rw [if_pos rfl] at H
 have H' := Zz.mk H
 clear H
 go_wp2_with (first | ((with_reducible refine aj (N := 7) rfl ?_); refine xew 7 ?_; intro Ac w31 Aa Ae hb hg; replace HB := xst hb; clear hb hg; have Aq := xz5 Aa.out; obtain ⟨q7, Af, hx7⟩ := xi0 a0 xod))
 repeat (go_quiet (first | ((with_reducible refine aj (N := 7) rfl ?_); refine xew 7 ?_; intro Ac w31 Aa Ae hb hg; replace HB := xst hb; clear hb hg; have Aq := xz5 Aa.out; obtain ⟨q7, Af, hx7⟩ := xi0 a0 xod)); try go_wp2_with (first | ((with_reducible refine aj (N := 7) rfl ?_); refine xew 7 ?_; intro Ac w31 Aa Ae hb hg; replace HB := xst hb; clear hb hg; have Aq := xz5 Aa.out; obtain ⟨q7, Af, hx7⟩ := xi0 a0 xod)))
 go_loopg [2, 8] kj2 (fun kq v2 v8 w' => ∃ Ad Ab, v2 = .int .i32 Ad ∧ v8 = .int .i64 Ab ∧ Zz (aZ kq a0 Ad 3 Ab = some (r1, r2, r3)) ∧ Zz (kq ≤ kj2) ∧ Zz (w'.heap[Ac]? = some (.cells #[.int .u8 0, .int .u8 127, .int .u8 31, .int .u8 15, .int .u8 7] 86 (0, 0))) ∧ Zz (Below w.heap.size w w'))
 case atStart => exact ⟨(wrap32 (Go.bits .and .u8 (bt a0 0) 15)), (1), xrr, xrr, H', ⟨Nat.le_refl _⟩, ⟨xbK⟩, ⟨xbl⟩⟩
 case round => (
 clear H'
 try clear p7
 try clear q7
 try clear hx7
 try clear Af
 obtain ⟨Ad, Ab, rfl, rfl, HA, HK2, Aa, HB⟩ := hrel
 cases gk with
 | zero => exact absurd HA.out (by simp [aZ])
 | succ k2 => (
 have H := HA.out
 clear HA
 simp only [aZ] at H
 refine xid H ?_ ?_ <;> clear H <;> intro c33 H
 {
 have Ar := xdt c33
 clear c33
 refine xin H ?_; clear H; intro c34 H
 have AF := xdt c34
 clear c34
 refine xin H ?_; clear H; intro c35 H
 have AG := xdt c35
 clear c35
 replace H := xa H
 obtain ⟨p36, q36, hx36⟩ := xiv a0 Ab xod xod
 go_wp2
 repeat (go_quiet (fail); try go_wp2)
 go_roundg k2
 case measure => have := HJ2.out; have := HK2.out; omega
 case rel => exact ⟨(Go.bits .or .i32 (wrap32 (Ad * 64)) (wrap32 (Go.bits .and .u8 (bt a0 Ab) 63))), (wrap64 (Ab + 1)), xrr, xrr, H, ⟨by have := HJ2.out; have := HK2.out; omega⟩, ⟨xbk⟩, ⟨xbl⟩⟩
 }
 have Ar := xdf c33
 clear c33
 simp only [Option.some.injEq, Prod.mk.injEq] at H
 obtain ⟨rfl, rfl, rfl⟩ := H
 go_wp2
 repeat (go_quiet (fail); try go_wp2)
 go_ret3
 exact ⟨xre, xbl⟩
 )
 )
 }
 {
 rw [if_neg c30] at H
 clear c30
 by_cases c37 : Ag = 4
 {
 subst c37
 rw [if_pos rfl] at H
 have H' := Zz.mk H
 clear H
 go_wp2_with (first | ((with_reducible refine aj (N := 7) rfl ?_); refine xew 7 ?_; intro Ac w38 Aa Ae hb hg; replace HB := xst hb; clear hb hg; have As := xz5 Aa.out; obtain ⟨q7, Af, hx7⟩ := xi0 a0 xod))
 repeat (go_quiet (first | ((with_reducible refine aj (N := 7) rfl ?_); refine xew 7 ?_; intro Ac w38 Aa Ae hb hg; replace HB := xst hb; clear hb hg; have As := xz5 Aa.out; obtain ⟨q7, Af, hx7⟩ := xi0 a0 xod)); try go_wp2_with (first | ((with_reducible refine aj (N := 7) rfl ?_); refine xew 7 ?_; intro Ac w38 Aa Ae hb hg; replace HB := xst hb; clear hb hg; have As := xz5 Aa.out; obtain ⟨q7, Af, hx7⟩ := xi0 a0 xod)))
 go_loopg [2, 8] kj2 (fun kq v2 v8 w' => ∃ Ad Ab, v2 = .int .i32 Ad ∧ v8 = .int .i64 Ab ∧ Zz (aZ kq a0 Ad 4 Ab = some (r1, r2, r3)) ∧ Zz (kq ≤ kj2) ∧ Zz (w'.heap[Ac]? = some (.cells #[.int .u8 0, .int .u8 127, .int .u8 31, .int .u8 15, .int .u8 7] 86 (0, 0))) ∧ Zz (Below w.heap.size w w'))
 case atStart => exact ⟨(wrap32 (Go.bits .and .u8 (bt a0 0) 7)), (1), xrr, xrr, H', ⟨Nat.le_refl _⟩, ⟨xbK⟩, ⟨xbl⟩⟩
 case round => (
 clear H'
 try clear p7
 try clear q7
 try clear hx7
 try clear Af
 obtain ⟨Ad, Ab, rfl, rfl, HA, HK2, Aa, HB⟩ := hrel
 cases gk with
 | zero => exact absurd HA.out (by simp [aZ])
 | succ k2 => (
 have H := HA.out
 clear HA
 simp only [aZ] at H
 refine xid H ?_ ?_ <;> clear H <;> intro c40 H
 {
 have At := xdt c40
 clear c40
 refine xin H ?_; clear H; intro c41 H
 have AH := xdt c41
 clear c41
 refine xin H ?_; clear H; intro c42 H
 have AI := xdt c42
 clear c42
 replace H := xa H
 obtain ⟨p43, q43, hx43⟩ := xiv a0 Ab xod xod
 go_wp2
 repeat (go_quiet (fail); try go_wp2)
 go_roundg k2
 case measure => have := HJ2.out; have := HK2.out; omega
 case rel => exact ⟨(Go.bits .or .i32 (wrap32 (Ad * 64)) (wrap32 (Go.bits .and .u8 (bt a0 Ab) 63))), (wrap64 (Ab + 1)), xrr, xrr, H, ⟨by have := HJ2.out; have := HK2.out; omega⟩, ⟨xbk⟩, ⟨xbl⟩⟩
 }
 have At := xdf c40
 clear c40
 simp only [Option.some.injEq, Prod.mk.injEq] at H
 obtain ⟨rfl, rfl, rfl⟩ := H
 go_wp2
 repeat (go_quiet (fail); try go_wp2)
 go_ret3
 exact ⟨xre, xbl⟩
 )
 )
 }
 {
 rw [if_neg c37] at H
 clear c37
 exact absurd H (by simp)
 }
 }
 }
 }
 }
 )
 )
def dM : Nat → ByteArray → Nat → Option Int
  | 0, _, _ => none
  | k + 1, s, pos => if pos < s.size then (if ((Utf8.decode s pos).1 : Int) = 65533 then (fT k (s.extract pos s.size)).bind fun d => (if d.2.2 = true then dM k s (pos + (Utf8.decode s pos).2) else some (pos : Int)) else dM k s (pos + (Utf8.decode s pos).2)) else some (-1)
def kc (k : Nat) (a0 : ByteArray) : Option Int := dM k a0 0
theorem kk : ∀ k y0 y1, LeO (dM k y0 y1) (dM (k + 1) y0 y1)
  | 0 => fun _ _ r h => by simp [dM] at h
  | k + 1 => by
    intro y0 y1
    unfold dM
    exact LeO.ite (LeO.ite (LeO.bind (kM _ _) (fun d => LeO.ite (kk k _ _) (LeO.refl _))) (kk k _ _)) (LeO.refl _)
theorem qc : ∀ a0 k, LeO (kc k a0) (kc (k + 1) a0) := fun a0 k => kk k a0 0
set_option maxHeartbeats 4000000 in
theorem pJ (k : Nat) (a0 : ByteArray) (r : Int) (w : World) (h : kc k a0 = some r) :
    Calls Tryz.prog 27 #[.string a0] w fun e w' => e = .returned (.int .i64 r) ∧ Below w.heap.size w w' := by
 have H' := Zz.mk (show dM k a0 0 = some r from h)
 clear h
 go_enter Tryz.func27, Tryz.ntmps27
 go_wp2
 go_loopg [3] k (fun kq v3 wr => ∃ pos : Nat, Zz (dM kq a0 pos = some r) ∧ Zz (kq ≤ k) ∧ Zz (wr.heap[w.heap.size]? = some (.stringIter a0 pos)) ∧ Zz (Below w.heap.size w wr))
 case atStart => exact ⟨0, H', ⟨Nat.le_refl _⟩, ⟨World.iter_heap w a0 0⟩, ⟨(Below.refl _ _).alloc (Nat.le_refl _) _⟩⟩
 case round =>
  clear H'
  obtain ⟨pos, HA, HK, HI, HB⟩ := hrel
  cases gk with
  | zero => exact absurd HA.out (by simp [dM])
  | succ k1 =>
   have H := HA.out
   clear HA
   simp only [dM] at H
   by_cases hp : pos < a0.size
   · rw [if_pos hp] at H
     have hnx : ∀ ty, (Instr.next (.pointer (some ⟨w.heap.size, 0, none⟩)) true ty).run Tryz.prog wr = _ := fun ty => Lib.run_next_any_at wr w.heap.size a0 pos ty HI.out hp
     have HI2 := Zz.mk (Lib.iterAt_heap wr w.heap.size a0 pos (pos + (Utf8.decode a0 pos).2) HI.out)
     have HB2 := Zz.mk (Lib.below_iterAt HB.out (k := w.heap.size) (Nat.le_refl _) a0 (pos + (Utf8.decode a0 pos).2))
     obtain ⟨W1, hW1⟩ : ∃ W1, W1 = wr.iterAt w.heap.size a0 (pos + (Utf8.decode a0 pos).2) := ⟨_, rfl⟩
     rw [← hW1] at hnx HI2 HB2
     clear hW1 HI HB
     by_cases hc : ((Utf8.decode a0 pos).1 : Int) = 65533
     · rw [if_pos hc] at H
       obtain ⟨⟨d1, d2, d3⟩, HD0, H⟩ := Option.bind_eq_some_iff.1 H
       simp only at H
       have HD := Zz.mk HD0
       clear HD0
       have hq0 : (0 : Int) ≤ (pos : Int) := Int.natCast_nonneg _
       have hq1 : (pos : Int) ≤ (a0.size : Int) := by omega
       have hb0 : (((Utf8.decode a0 pos).1 : Int) == 65533) = true := beq_iff_eq.2 hc
       have hb1 : (((Utf8.decode a0 pos).1 : Int) != 65533) = false := by rw [bne, hb0]; rfl
       generalize ((Utf8.decode a0 pos).1 : Int) = cc at hnx hb0 hb1
       clear hc
       cases d3 with
       | true =>
        rw [if_pos rfl] at H
        replace H := xa H
        go_wp2_with (first | (go_at_call 44; (with_reducible refine (iq (w := _) (h := HD.out)).mono ?_); rintro e w2 ⟨rfl, hb⟩; replace HI2 := Zz.mk ((hb.block _ (by have := (Array.getElem?_eq_some_iff.1 HI2.out).1; omega)).trans HI2.out); replace HB2 := Zz.mk (HB2.out.trans (hb.mono HB2.out.size)); clear hb))
        go_roundg k1
        case measure => have := HK.out; omega
        case rel => exact ⟨_, H, ⟨by have := HK.out; omega⟩, HI2, HB2⟩
       | false =>
        rw [if_neg (by simp)] at H
        obtain rfl := Option.some.inj H
        go_wp2_with (first | (go_at_call 44; (with_reducible refine (iq (w := _) (h := HD.out)).mono ?_); rintro e w2 ⟨rfl, hb⟩; replace HB2 := Zz.mk (HB2.out.trans (hb.mono HB2.out.size)); clear hb))
        go_ret
        exact ⟨rfl, HB2.out⟩
     · rw [if_neg hc] at H
       have hb0 : (((Utf8.decode a0 pos).1 : Int) == 65533) = false := by simpa using hc
       have hb1 : (((Utf8.decode a0 pos).1 : Int) != 65533) = true := by rw [bne, hb0]; rfl
       generalize ((Utf8.decode a0 pos).1 : Int) = cc at hnx hb0 hb1
       clear hc
       replace H := xa H
       go_wp2
       go_roundg k1
       case measure => have := HK.out; omega
       case rel => exact ⟨_, H, ⟨by have := HK.out; omega⟩, HI2, HB2⟩
   · rw [if_neg hp] at H
     obtain rfl := Option.some.inj H
     have hnx : ∀ ty, (Instr.next (.pointer (some ⟨w.heap.size, 0, none⟩)) true ty).run Tryz.prog wr = _ := fun ty => Lib.run_next_end_at wr w.heap.size a0 pos ty HI.out hp
     go_wp2
     go_ret
     exact ⟨rfl, HB.out⟩
def iN (k : Nat) (a0 : ByteArray) : Option (Bool) := (kc k a0).bind fun t107 => (some (decide (t107 < 0)))
theorem nr : ∀ a0 k, LeO (iN k a0) (iN (k + 1) a0) := by
  intro a0 k
  have m0 := @qc
  unfold iN
  exact xmo
theorem pK (k : Nat) (a0 : ByteArray) (r : Bool) (w : World) (h : iN k a0 = some r) :
    Calls Tryz.prog 18 #[.string a0] w fun e w' => e = .returned (.bool r) ∧ Below w.heap.size w w' := by
 have HB := Zz.mk (Below.refl w.heap.size w)
 have H := h
 clear h
 unfold iN at H
 replace H := xbd H
 obtain ⟨t107, A2, H⟩ := H
 try dsimp only at H
 obtain rfl := Option.some.inj H
 go_enter Tryz.func18, Tryz.ntmps18
 go_wp2_with (first | ((with_reducible refine xgc (f := 27) rfl ?_); refine xca 4 Tryz.func27 (pJ (w := _) (h := A2.out)) ?_; rintro w3 hb; replace HB := xst hb; (try clear hb)))
 go_ret
 exact ⟨xre, xbl⟩
mutual
def d7 : Nat → ByteArray → ByteArray → Int → Option (Int)
  | 0, _, _, _ => none
  | k + 1, x0, x2, x7 => if x7 < (x0.size : Int) then (eB k x0 x2 x7 (x2.size : Int) 0) else (some (-1))
def eB : Nat → ByteArray → ByteArray → Int → Int → Int → Option (Int)
  | 0, _, _, _, _, _ => none
  | k + 1, x0, x2, x7, x18, x19 => if x19 < x18 then (if 0 ≤ x7 then (if x7 < (x0.size : Int) then (if 0 ≤ x19 then (if x19 < (x2.size : Int) then (if (bt x0 x7) = (bt x2 x19) then (some x7) else (eB k x0 x2 x7 x18 (wrap64 (x19 + 1)))) else (none)) else (none)) else (none)) else (none)) else (d7 k x0 x2 (wrap64 (x7 + 1)))
end
def dg (k : Nat) (a0 : ByteArray) (a1 : Int) (a2 : ByteArray) : Option (Int) := d7 k a0 a2 (mx a1 0)
theorem lE : ∀ k, (∀ y0 y1 y2, LeO (d7 k y0 y1 y2) (d7 (k + 1) y0 y1 y2)) ∧ (∀ y0 y1 y2 y3 y4, LeO (eB k y0 y1 y2 y3 y4) (eB (k + 1) y0 y1 y2 y3 y4))
  | 0 => ⟨fun _ _ _ r h => by simp [d7] at h, fun _ _ _ _ _ r h => by simp [eB] at h⟩
  | k + 1 => by
    obtain ⟨ih0, ih1⟩ := lE k
    refine ⟨?_, ?_⟩
    · intro y0 y1 y2
      unfold d7
      exact xmo
    · intro y0 y1 y2 y3 y4
      unfold eB
      exact xmo
theorem iI : ∀ a0 a1 a2 k, LeO (dg k a0 a1 a2) (dg (k + 1) a0 a1 a2) := by
  intro a0 a1 a2 k
  obtain ⟨ih0, ih1⟩ := lE k
  unfold dg
  exact xmo
theorem dY (k : Nat) (a0 : ByteArray) (a1 : Int) (a2 : ByteArray) (r : Int) (w : World) (h : dg k a0 a1 a2 = some r) :
    Calls Tryz.prog 45 #[.string a0, .int .i64 a1, .string a2] w fun e w' => e = .returned (.int .i64 r) ∧ Below w.heap.size w w' := by
 have HB := Zz.mk (Below.refl w.heap.size w)
 have H := h
 clear h
 unfold dg at H
 obtain ⟨Ag, Ab⟩ : ∃ j_ : Int, (mx a1 0) = j_ := ⟨_, rfl⟩
 first | rw [Ab] at H | simp only [Ab] at H | skip
 (try (have Ai : 0 ≤ Ag := by (rw [← Ab]; unfold mx; (repeat' split) <;> omega)))
 (try (have Aj : 0 ≤ Ag := by omega))
 have hji4_ : (if a1 < 0 then 0 else a1) = Ag := Ab
 have H' := Zz.mk H
 clear H
 go_enter Tryz.func45, Tryz.ntmps45
 go_wp2
 repeat (go_quiet (fail); try go_wp2)
 go_loopg [7] k (fun kq v7 w' => ∃ Ac, v7 = .int .i64 Ac ∧ Zz (d7 kq a0 a2 Ac = some r) ∧ Zz (kq ≤ k) ∧ Zz (Below w.heap.size w w'))
 case atStart => exact ⟨(Ag), (by first | exact xrs | (simp only [← Ab] <;> (first | rfl | simp)) | exact xrr), H', ⟨Nat.le_refl _⟩, ⟨xbl⟩⟩
 case round => (
 clear H'
 obtain ⟨Ac, rfl, HA, HK1, HB⟩ := hrel
 cases gk with
 | zero => exact absurd HA.out (by simp [d7])
 | succ k1 => (
 have H := HA.out
 clear HA
 simp only [d7] at H
 refine xid H ?_ ?_ <;> clear H <;> intro c5 H
 {
 have Ad := xdt c5
 clear c5
 have H' := Zz.mk H
 clear H
 go_wp2
 repeat (go_quiet (fail); try go_wp2)
 go_loopg [19] k1 (fun kq v19 w' => ∃ Aa, v19 = .int .i64 Aa ∧ Zz (eB kq a0 a2 Ac (a2.size : Int) Aa = some r) ∧ Zz (kq ≤ k1) ∧ Zz (Below w.heap.size w w'))
 case atStart => exact ⟨(0), xrr, H', ⟨Nat.le_refl _⟩, ⟨xbl⟩⟩
 case round => (
 clear H'
 clear Ad
 obtain ⟨Aa, rfl, HA, HK2, HB⟩ := hrel
 cases gk with
 | zero => exact absurd HA.out (by simp [eB])
 | succ k2 => (
 have H := HA.out
 clear HA
 simp only [eB] at H
 refine xid H ?_ ?_ <;> clear H <;> intro c6 H
 {
 have Ah := xdt c6
 clear c6
 refine xin H ?_; clear H; intro c7 H
 have Am := xdt c7
 clear c7
 refine xin H ?_; clear H; intro c8 H
 have An := xdt c8
 clear c8
 refine xin H ?_; clear H; intro c10 H
 have Ak := xdt c10
 clear c10
 refine xin H ?_; clear H; intro c11 H
 have Al := xdt c11
 clear c11
 refine xid H ?_ ?_ <;> clear H <;> intro c13 H
 {
 obtain ⟨Ae, Af⟩ := xqe c13
 clear c13
 obtain rfl := Option.some.inj H
 obtain ⟨p9, q9, hx9⟩ := xiv a0 Ac xod xod
 obtain ⟨p12, q12, hx12⟩ := xiv a2 Aa xod xod
 go_wp2
 repeat (go_quiet (fail); try go_wp2)
 go_ret
 exact ⟨by first | exact xrd | (simp only [← Ab]; exact xrd) | exact xre, xbl⟩
 }
 obtain ⟨Ae, Af⟩ := xqn c13
 replace H := xa H
 obtain ⟨p9, q9, hx9⟩ := xiv a0 Ac xod xod
 obtain ⟨p12, q12, hx12⟩ := xiv a2 Aa xod xod
 go_wp2
 repeat (go_quiet (fail); try go_wp2)
 go_roundg k2
 case measure => have := HK1.out; have := HK2.out; omega
 case rel => exact ⟨(wrap64 (Aa + 1)), xrr, H, ⟨by have := HK1.out; have := HK2.out; omega⟩, ⟨xbl⟩⟩
 }
 have Ah := xdf c6
 clear c6
 replace H := xa H
 go_wp2
 repeat (go_quiet (fail); try go_wp2)
 go_roundg k2
 case measure => have := HK1.out; have := HK2.out; omega
 case rel => exact ⟨(wrap64 (Ac + 1)), xrr, H, ⟨by have := HK1.out; have := HK2.out; omega⟩, ⟨xbl⟩⟩
 )
 )
 }
 have Ad := xdf c5
 clear c5
 obtain rfl := Option.some.inj H
 go_wp2
 repeat (go_quiet (fail); try go_wp2)
 go_ret
 exact ⟨by first | exact xrd | (simp only [← Ab]; exact xrd) | exact xre, xbl⟩
 )
 )
mutual
def d9 : Nat → Int → Bool → Option (Int)
  | 0, _, _ => none
  | k + 1, x3, x4 => if x4 = true then (some 4) else (if x3 = 33 then (bB k x3 (x3 == 33)) else (if x3 = 36 then (bB k x3 (x3 == 36)) else (if x3 = 38 then (bB k x3 (x3 == 38)) else (if x3 = 39 then (bB k x3 (x3 == 39)) else (if x3 = 40 then (bB k x3 (x3 == 40)) else (if x3 = 41 then (bB k x3 (x3 == 41)) else (if x3 = 42 then (bB k x3 (x3 == 42)) else (if x3 = 43 then (bB k x3 (x3 == 43)) else (if x3 = 44 then (bB k x3 (x3 == 44)) else (if x3 = 59 then (bB k x3 (x3 == 59)) else (bB k x3 (x3 == 61))))))))))))
def bB : Nat → Int → Bool → Option (Int)
  | 0, _, _ => none
  | k + 1, x3, x9 => if x9 = true then (some 8) else (if x3 = 58 then (some 16) else (if x3 = 47 then (some 16) else (if x3 = 63 then (some 16) else (if x3 = 35 then (some 16) else (if x3 = 91 then (some 16) else (if x3 = 93 then (some 16) else (if x3 = 64 then (some 16) else (some 0))))))))
end
def ik (k : Nat) (a0 : Int) : Option (Int) := if a0 = 45 then (d9 k a0 (a0 == 45)) else (if a0 = 46 then (d9 k a0 (a0 == 46)) else (if a0 = 95 then (d9 k a0 (a0 == 95)) else (d9 k a0 (a0 == 126))))
theorem lG : ∀ k, (∀ y0 y1, LeO (d9 k y0 y1) (d9 (k + 1) y0 y1)) ∧ (∀ y0 y1, LeO (bB k y0 y1) (bB (k + 1) y0 y1))
  | 0 => ⟨fun _ _ r h => by simp [d9] at h, fun _ _ r h => by simp [bB] at h⟩
  | k + 1 => by
    obtain ⟨ih0, ih1⟩ := lG k
    refine ⟨?_, ?_⟩
    · intro y0 y1
      unfold d9
      exact xmo
    · intro y0 y1
      unfold bB
      exact xmo
theorem mM : ∀ a0 k, LeO (ik k a0) (ik (k + 1) a0) := by
  intro a0 k
  obtain ⟨ih0, ih1⟩ := lG k
  unfold ik
  exact xmo
theorem ml (k : Nat) (a0 : Int) (r : Int) (w : World) (h : ik k a0 = some r) :
    Calls Tryz.prog 91 #[.int .u8 a0] w fun e w' => e = .returned (.int .i64 r) ∧ Drawn0 w w' := by
 have H := h
 clear h
 unfold ik at H
 have AI := Zz.mk H
 clear H
 go_enter Tryz.func91, Tryz.ntmps91
 go_upto_if 4 with (fail)
 go_cut [4] (fun v4 wc => ∃ kq Ac, v4 = .bool Ac ∧ Zz (d9 kq a0 Ac = some r) ∧ Zz (kq ≤ k) ∧ Drawn0 w wc)
 case first => (
 have H := AI.out
 clear AI
 refine xid H ?_ ?_ <;> clear H <;> intro c3 H
 {
 obtain ⟨Aa, AJ⟩ := xqe c3
 clear c3
 (first | rw [Aa] | (simp only [ag, ak]; rw [Aa]) | skip)
 replace H := xa H
 go_wp2
 go_meet
 case rel => exact ⟨_, ((a0 == 45)), xrr, H, ⟨xom⟩, xdr⟩
 }
 obtain ⟨Aa, AJ⟩ := xqn c3
 (first | rw [Aa] | (simp only [ag, ak]; rw [Aa]) | skip)
 refine xid H ?_ ?_ <;> clear H <;> intro c4 H
 {
 obtain ⟨AK, AL⟩ := xqe c4
 clear c4
 replace H := xa H
 go_wp2
 go_meet
 case rel => exact ⟨_, ((a0 == 46)), xrr, H, ⟨xom⟩, xdr⟩
 }
 obtain ⟨AK, AL⟩ := xqn c4
 refine xid H ?_ ?_ <;> clear H <;> intro c5 H
 {
 obtain ⟨AM, AN⟩ := xqe c5
 clear c5
 replace H := xa H
 go_wp2
 go_meet
 case rel => exact ⟨_, ((a0 == 95)), xrr, H, ⟨xom⟩, xdr⟩
 }
 obtain ⟨AM, AN⟩ := xqn c5
 replace H := xa H
 go_wp2
 go_meet
 case rel => exact ⟨_, ((a0 == 126)), xrr, H, ⟨xom⟩, xdr⟩
 )
 case rest => (
 clear AI
 obtain ⟨kq, Ac, rfl, HA, HJ1, ⟨mc1, rfl⟩⟩ := hcut
 cases kq with
 | zero => exact absurd HA.out (by simp [d9])
 | succ kj1 => (
 have H := HA.out
 clear HA
 simp only [d9] at H
 refine xib H ?_ ?_ <;> clear H <;> rintro rfl H
 {
 obtain rfl := Option.some.inj H
 go_wp2
 go_ret
 exact ⟨xrr, xdr⟩
 }
 have AO := Zz.mk H
 clear H
 go_upto_if 9 with (fail)
 go_cut [9] (fun v9 wc => ∃ kq Ad, v9 = .bool Ad ∧ Zz (bB kq a0 Ad = some r) ∧ Zz (kq ≤ kj1) ∧ Drawn0 w wc)
 case first => (
 have H := AO.out
 clear AO
 refine xid H ?_ ?_ <;> clear H <;> intro c8 H
 {
 obtain ⟨Ab, AP⟩ := xqe c8
 clear c8
 (first | rw [Ab] | (simp only [ag, ak]; rw [Ab]) | skip)
 replace H := xa H
 go_wp2
 go_meet
 case rel => exact ⟨_, ((a0 == 33)), xrr, H, ⟨xoj HJ1⟩, xdr⟩
 }
 obtain ⟨Ab, AP⟩ := xqn c8
 (first | rw [Ab] | (simp only [ag, ak]; rw [Ab]) | skip)
 refine xid H ?_ ?_ <;> clear H <;> intro c9 H
 {
 obtain ⟨AQ, AR⟩ := xqe c9
 clear c9
 replace H := xa H
 go_wp2
 go_meet
 case rel => exact ⟨_, ((a0 == 36)), xrr, H, ⟨xoj HJ1⟩, xdr⟩
 }
 obtain ⟨AQ, AR⟩ := xqn c9
 refine xid H ?_ ?_ <;> clear H <;> intro c10 H
 {
 obtain ⟨Ae, Af⟩ := xqe c10
 clear c10
 replace H := xa H
 go_wp2
 go_meet
 case rel => exact ⟨_, ((a0 == 38)), xrr, H, ⟨xoj HJ1⟩, xdr⟩
 }
 obtain ⟨Ae, Af⟩ := xqn c10
 refine xid H ?_ ?_ <;> clear H <;> intro c11 H
 {
 obtain ⟨Ag, Ah⟩ := xqe c11
 clear c11
 replace H := xa H
 go_wp2
 go_meet
 case rel => exact ⟨_, ((a0 == 39)), xrr, H, ⟨xoj HJ1⟩, xdr⟩
 }
 obtain ⟨Ag, Ah⟩ := xqn c11
 refine xid H ?_ ?_ <;> clear H <;> intro c12 H
 {
 obtain ⟨Ai, Aj⟩ := xqe c12
 clear c12
 replace H := xa H
 go_wp2
 go_meet
 case rel => exact ⟨_, ((a0 == 40)), xrr, H, ⟨xoj HJ1⟩, xdr⟩
 }
 obtain ⟨Ai, Aj⟩ := xqn c12
 refine xid H ?_ ?_ <;> clear H <;> intro c13 H
 {
 obtain ⟨Ak, Al⟩ := xqe c13
 clear c13
 replace H := xa H
 go_wp2
 go_meet
 case rel => exact ⟨_, ((a0 == 41)), xrr, H, ⟨xoj HJ1⟩, xdr⟩
 }
 obtain ⟨Ak, Al⟩ := xqn c13
 refine xid H ?_ ?_ <;> clear H <;> intro c14 H
 {
 obtain ⟨Am, An⟩ := xqe c14
 clear c14
 replace H := xa H
 go_wp2
 go_meet
 case rel => exact ⟨_, ((a0 == 42)), xrr, H, ⟨xoj HJ1⟩, xdr⟩
 }
 obtain ⟨Am, An⟩ := xqn c14
 refine xid H ?_ ?_ <;> clear H <;> intro c15 H
 {
 obtain ⟨Ao, Ap⟩ := xqe c15
 clear c15
 replace H := xa H
 go_wp2
 go_meet
 case rel => exact ⟨_, ((a0 == 43)), xrr, H, ⟨xoj HJ1⟩, xdr⟩
 }
 obtain ⟨Ao, Ap⟩ := xqn c15
 refine xid H ?_ ?_ <;> clear H <;> intro c16 H
 {
 obtain ⟨Aq, Ar⟩ := xqe c16
 clear c16
 replace H := xa H
 go_wp2
 go_meet
 case rel => exact ⟨_, ((a0 == 44)), xrr, H, ⟨xoj HJ1⟩, xdr⟩
 }
 obtain ⟨Aq, Ar⟩ := xqn c16
 refine xid H ?_ ?_ <;> clear H <;> intro c17 H
 {
 obtain ⟨As, At⟩ := xqe c17
 clear c17
 replace H := xa H
 go_wp2
 go_meet
 case rel => exact ⟨_, ((a0 == 59)), xrr, H, ⟨xoj HJ1⟩, xdr⟩
 }
 obtain ⟨As, At⟩ := xqn c17
 replace H := xa H
 go_wp2
 go_meet
 case rel => exact ⟨_, ((a0 == 61)), xrr, H, ⟨xoj HJ1⟩, xdr⟩
 )
 case rest => (
 clear AO
 obtain ⟨kq, Ad, rfl, HA, HJ6, ⟨mc6, rfl⟩⟩ := hcut
 cases kq with
 | zero => exact absurd HA.out (by simp [bB])
 | succ kj6 => (
 have H := HA.out
 clear HA
 simp only [bB] at H
 refine xib H ?_ ?_ <;> clear H <;> rintro rfl H
 {
 obtain rfl := Option.some.inj H
 go_wp2
 go_ret
 exact ⟨xrr, xdr⟩
 }
 refine xid H ?_ ?_ <;> clear H <;> intro c19 H
 {
 obtain ⟨Au, Av⟩ := xqe c19
 clear c19
 obtain rfl := Option.some.inj H
 go_wp2
 go_ret
 exact ⟨xrr, xdr⟩
 }
 obtain ⟨Au, Av⟩ := xqn c19
 refine xid H ?_ ?_ <;> clear H <;> intro c20 H
 {
 obtain ⟨Aw, Ax⟩ := xqe c20
 clear c20
 obtain rfl := Option.some.inj H
 go_wp2
 go_ret
 exact ⟨xrr, xdr⟩
 }
 obtain ⟨Aw, Ax⟩ := xqn c20
 refine xid H ?_ ?_ <;> clear H <;> intro c21 H
 {
 obtain ⟨Ay, Az⟩ := xqe c21
 clear c21
 obtain rfl := Option.some.inj H
 go_wp2
 go_ret
 exact ⟨xrr, xdr⟩
 }
 obtain ⟨Ay, Az⟩ := xqn c21
 refine xid H ?_ ?_ <;> clear H <;> intro c22 H
 {
 obtain ⟨AA, AB⟩ := xqe c22
 clear c22
 obtain rfl := Option.some.inj H
 go_wp2
 go_ret
 exact ⟨xrr, xdr⟩
 }
 obtain ⟨AA, AB⟩ := xqn c22
 refine xid H ?_ ?_ <;> clear H <;> intro c23 H
 {
 obtain ⟨AC, AD⟩ := xqe c23
 clear c23
 obtain rfl := Option.some.inj H
 go_wp2
 go_ret
 exact ⟨xrr, xdr⟩
 }
 obtain ⟨AC, AD⟩ := xqn c23
 refine xid H ?_ ?_ <;> clear H <;> intro c24 H
 {
 obtain ⟨AE, AF⟩ := xqe c24
 clear c24
 obtain rfl := Option.some.inj H
 go_wp2
 go_ret
 exact ⟨xrr, xdr⟩
 }
 obtain ⟨AE, AF⟩ := xqn c24
 refine xid H ?_ ?_ <;> clear H <;> intro c25 H
 {
 obtain ⟨AG, AH⟩ := xqe c25
 clear c25
 obtain rfl := Option.some.inj H
 go_wp2
 go_ret
 exact ⟨xrr, xdr⟩
 }
 obtain ⟨AG, AH⟩ := xqn c25
 obtain rfl := Option.some.inj H
 go_wp2
 go_ret
 exact ⟨xrr, xdr⟩
 )
 )
 )
 )
mutual
def eL : Nat → Int → Bool → Option (Int)
  | 0, _, _ => none
  | k + 1, x0, x3 => if x3 = true then (some 34) else (if x0 ≥ 97 then (eM k x0 (decide (x0 ≤ 102))) else (eM k x0 false))
def eM : Nat → Int → Bool → Option (Int)
  | 0, _, _ => none
  | k + 1, x0, x10 => if x10 = true then (ef k x0 x10) else (if x0 ≥ 65 then (ef k x0 (decide (x0 ≤ 70))) else (ef k x0 false))
def ef : Nat → Int → Bool → Option (Int)
  | 0, _, _ => none
  | k + 1, x0, x10 => if x10 = true then (some 33) else (if x0 ≥ 103 then (eN k x0 (decide (x0 ≤ 122))) else (eN k x0 false))
def eN : Nat → Int → Bool → Option (Int)
  | 0, _, _ => none
  | k + 1, x0, x23 => if x23 = true then (some 1) else (if x0 ≥ 71 then (if x0 ≤ 90 then (some 1) else ((ik k x0).bind fun t108 => (some t108))) else ((ik k x0).bind fun t109 => (some t109)))
end
def fY (k : Nat) (a0 : Int) : Option (Int) := if a0 ≥ 48 then (eL k a0 (decide (a0 ≤ 57))) else (eL k a0 false)
theorem lg : ∀ k, (∀ y0 y1, LeO (eL k y0 y1) (eL (k + 1) y0 y1)) ∧ (∀ y0 y1, LeO (eM k y0 y1) (eM (k + 1) y0 y1)) ∧ (∀ y0 y1, LeO (ef k y0 y1) (ef (k + 1) y0 y1)) ∧ (∀ y0 y1, LeO (eN k y0 y1) (eN (k + 1) y0 y1))
  | 0 => ⟨fun _ _ r h => by simp [eL] at h, fun _ _ r h => by simp [eM] at h, fun _ _ r h => by simp [ef] at h, fun _ _ r h => by simp [eN] at h⟩
  | k + 1 => by
    obtain ⟨ih0, ih1, ih2, ih3⟩ := lg k
    have m0 := @mM
    refine ⟨?_, ?_, ?_, ?_⟩
    · intro y0 y1
      unfold eL
      exact xmo
    · intro y0 y1
      unfold eM
      exact xmo
    · intro y0 y1
      unfold ef
      exact xmo
    · intro y0 y1
      unfold eN
      exact xmo
theorem mj : ∀ a0 k, LeO (fY k a0) (fY (k + 1) a0) := by
  intro a0 k
  obtain ⟨ih0, ih1, ih2, ih3⟩ := lg k
  have m0 := @mM
  unfold fY
  exact xmo
theorem oz (k : Nat) (a0 : Int) (r : Int) (w : World) (h : fY k a0 = some r) :
    Calls Tryz.prog 74 #[.int .u8 a0] w fun e w' => e = .returned (.int .i64 r) ∧ Drawn0 w w' := by
 have H := h
 clear h
 unfold fY at H
 have Al := Zz.mk H
 clear H
 go_enter Tryz.func74, Tryz.ntmps74
 go_upto_region 1 with (fail)
 go_cut [3] (fun v3 wc => ∃ kq Ah, v3 = .bool Ah ∧ Zz (eL kq a0 Ah = some r) ∧ Zz (kq ≤ k) ∧ Drawn0 w wc)
 case first => (
 have H := Al.out
 clear Al
 refine xid H ?_ ?_ <;> clear H <;> intro c3 H
 {
 have Ac := xdt c3
 clear c3
 (first | rw [Ac] | (simp only [ag, ak]; rw [Ac]) | skip)
 replace H := xa H
 go_wp2
 go_meet
 case rel => exact ⟨_, (decide (a0 ≤ 57)), xrr, H, ⟨xom⟩, xdr⟩
 }
 have Ac := xdf c3
 clear c3
 (first | rw [Ac] | (simp only [ag, ak]; rw [Ac]) | skip)
 replace H := xa H
 go_wp2
 go_meet
 case rel => exact ⟨_, (false), xrr, H, ⟨xom⟩, xdr⟩
 )
 case rest => (
 clear Al
 obtain ⟨kq, Ah, rfl, HA, HJ1, ⟨mc1, rfl⟩⟩ := hcut
 cases kq with
 | zero => exact absurd HA.out (by simp [eL])
 | succ kj1 => (
 have H := HA.out
 clear HA
 simp only [eL] at H
 refine xib H ?_ ?_ <;> clear H <;> rintro rfl H
 {
 obtain rfl := Option.some.inj H
 go_wp2
 go_ret
 exact ⟨xrr, xdr⟩
 }
 have Am := Zz.mk H
 clear H
 go_upto_region 3 with (fail)
 go_cut [10] (fun v10 wc => ∃ kq Ad, v10 = .bool Ad ∧ Zz (eM kq a0 Ad = some r) ∧ Zz (kq ≤ kj1) ∧ Drawn0 w wc)
 case first => (
 have H := Am.out
 clear Am
 refine xid H ?_ ?_ <;> clear H <;> intro c6 H
 {
 have Ae := xdt c6
 clear c6
 (first | rw [Ae] | (simp only [ag, ak]; rw [Ae]) | skip)
 replace H := xa H
 go_wp2
 go_meet
 case rel => exact ⟨_, (decide (a0 ≤ 102)), xrr, H, ⟨xoj HJ1⟩, xdr⟩
 }
 have Ae := xdf c6
 clear c6
 (first | rw [Ae] | (simp only [ag, ak]; rw [Ae]) | skip)
 replace H := xa H
 go_wp2
 go_meet
 case rel => exact ⟨_, (false), xrr, H, ⟨xoj HJ1⟩, xdr⟩
 )
 case rest => (
 clear Am
 obtain ⟨kq, Ad, rfl, HA, HJ4, ⟨mc4, rfl⟩⟩ := hcut
 cases kq with
 | zero => exact absurd HA.out (by simp [eM])
 | succ kj4 => (
 have H := HA.out
 clear HA
 simp only [eM] at H
 have An := Zz.mk H
 clear H
 go_upto_if 10 with (fail)
 go_cut [10] (fun v10 wc => ∃ kq Af, v10 = .bool Af ∧ Zz (ef kq a0 Af = some r) ∧ Zz (kq ≤ kj4) ∧ Drawn0 w wc)
 case first => (
 have H := An.out
 clear An
 refine xib H ?_ ?_ <;> clear H <;> rintro rfl H
 {
 replace H := xa H
 go_wp2
 go_meet
 case rel => exact ⟨_, (true), xrr, H, ⟨xoJ HJ1 HJ4⟩, xdr⟩
 }
 refine xid H ?_ ?_ <;> clear H <;> intro c9 H
 {
 have Ag := xdt c9
 clear c9
 (first | rw [Ag] | (simp only [ag, ak]; rw [Ag]) | skip)
 replace H := xa H
 go_wp2
 go_meet
 case rel => exact ⟨_, (decide (a0 ≤ 70)), xrr, H, ⟨xoJ HJ1 HJ4⟩, xdr⟩
 }
 have Ag := xdf c9
 clear c9
 (first | rw [Ag] | (simp only [ag, ak]; rw [Ag]) | skip)
 replace H := xa H
 go_wp2
 go_meet
 case rel => exact ⟨_, (false), xrr, H, ⟨xoJ HJ1 HJ4⟩, xdr⟩
 )
 case rest => (
 clear An
 obtain ⟨kq, Af, rfl, HA, HJ6, ⟨mc6, rfl⟩⟩ := hcut
 cases kq with
 | zero => exact absurd HA.out (by simp [ef])
 | succ kj6 => (
 have H := HA.out
 clear HA
 simp only [ef] at H
 refine xib H ?_ ?_ <;> clear H <;> rintro rfl H
 {
 obtain rfl := Option.some.inj H
 go_wp2
 go_ret
 exact ⟨xrr, xdr⟩
 }
 have Ai := Zz.mk H
 clear H
 go_upto_region 6 with (fail)
 go_cut [23] (fun v23 wc => ∃ kq Ab, v23 = .bool Ab ∧ Zz (eN kq a0 Ab = some r) ∧ Zz (kq ≤ kj6) ∧ Drawn0 w wc)
 case first => (
 have H := Ai.out
 clear Ai
 refine xid H ?_ ?_ <;> clear H <;> intro c12 H
 {
 have Aa := xdt c12
 clear c12
 (first | rw [Aa] | (simp only [ag, ak]; rw [Aa]) | skip)
 replace H := xa H
 go_wp2
 go_meet
 case rel => exact ⟨_, (decide (a0 ≤ 122)), xrr, H, ⟨by have := HJ1.out; have := HJ4.out; have := HJ6.out; first | omega | exact Nat.le_refl _⟩, xdr⟩
 }
 have Aa := xdf c12
 clear c12
 (first | rw [Aa] | (simp only [ag, ak]; rw [Aa]) | skip)
 replace H := xa H
 go_wp2
 go_meet
 case rel => exact ⟨_, (false), xrr, H, ⟨by have := HJ1.out; have := HJ4.out; have := HJ6.out; first | omega | exact Nat.le_refl _⟩, xdr⟩
 )
 case rest => (
 clear Ai
 obtain ⟨kq, Ab, rfl, HA, HJ10, ⟨mc10, rfl⟩⟩ := hcut
 cases kq with
 | zero => exact absurd HA.out (by simp [eN])
 | succ kj10 => (
 have H := HA.out
 clear HA
 simp only [eN] at H
 refine xib H ?_ ?_ <;> clear H <;> rintro rfl H
 {
 obtain rfl := Option.some.inj H
 go_wp2
 go_ret
 exact ⟨xrr, xdr⟩
 }
 refine xid H ?_ ?_ <;> clear H <;> intro c14 H
 {
 have Aj := xdt c14
 clear c14
 refine xid H ?_ ?_ <;> clear H <;> intro c15 H
 {
 have Ak := xdt c15
 clear c15
 obtain rfl := Option.some.inj H
 go_wp2
 go_ret
 exact ⟨xrr, xdr⟩
 }
 have Ak := xdf c15
 clear c15
 replace H := xbd H
 obtain ⟨Ao, A16, H⟩ := H
 try dsimp only at H
 obtain rfl := Option.some.inj H
 go_wp2_with (first | ((with_reducible refine xgc (f := 91) rfl ?_); refine xca 37 Tryz.func91 (ml (w := _) (h := A16.out)) ?_; rintro w' ⟨nd, rfl⟩))
 go_ret
 exact ⟨xrr, xdr⟩
 }
 have Aj := xdf c14
 clear c14
 replace H := xbd H
 obtain ⟨Ap, A17, H⟩ := H
 try dsimp only at H
 obtain rfl := Option.some.inj H
 go_wp2_with (first | ((with_reducible refine xgc (f := 91) rfl ?_); refine xca 37 Tryz.func91 (ml (w := _) (h := A17.out)) ?_; rintro w' ⟨nd, rfl⟩))
 go_ret
 exact ⟨xrr, xdr⟩
 )
 )
 )
 )
 )
 )
 )
 )
def fq (k : Nat) (a0 : Int) (a1 : Int) : Option (Bool) := (fY k a0).bind fun t110 => (some ((Go.bits .and .i64 t110 a1) != 0))
theorem ft : ∀ a0 a1 k, LeO (fq k a0 a1) (fq (k + 1) a0 a1) := by
  intro a0 a1 k
  have m0 := @mj
  unfold fq
  exact xmo
theorem cX (k : Nat) (a0 : Int) (a1 : Int) (r : Bool) (w : World) (h : fq k a0 a1 = some r) :
    Calls Tryz.prog 61 #[.int .u8 a0, .int .i64 a1] w fun e w' => e = .returned (.bool r) ∧ Drawn0 w w' := by
 have H := h
 clear h
 unfold fq at H
 replace H := xbd H
 obtain ⟨t110, A3, H⟩ := H
 try dsimp only at H
 obtain rfl := Option.some.inj H
 go_enter Tryz.func61, Tryz.ntmps61
 go_wp2_with (first | ((with_reducible refine xgc (f := 74) rfl ?_); refine xca 6 Tryz.func74 (oz (w := _) (h := A3.out)) ?_; rintro w' ⟨nd, rfl⟩))
 go_ret
 exact ⟨xrr, xdr⟩
mutual
def cZ : Nat → ByteArray → Bool → Option (Bool)
  | 0, _, _ => none
  | k + 1, x0, x11 => if x11 = true then (some false) else (ce k x0 (x0.size : Int) 0)
def ce : Nat → ByteArray → Int → Int → Option (Bool)
  | 0, _, _, _ => none
  | k + 1, x0, Ab, Aa => if Aa < Ab then (if 0 ≤ Aa then (if Aa < (x0.size : Int) then ((fq k (bt x0 Aa) 3).bind fun Ac => (if Ac = true then (ce k x0 Ab (wrap64 (Aa + 1))) else (if Aa ≤ (wrap64 (Aa + 1)) then (if (wrap64 (Aa + 1)) ≤ (x0.size : Int) then ((dg k (⟨#[43, 45, 46]⟩ : ByteArray) 0 (x0.extract (Aa : Int).toNat ((wrap64 (Aa + 1)) : Int).toNat)).bind fun Ad => (if Ad < 0 then (some false) else (ce k x0 Ab (wrap64 (Aa + 1))))) else (none)) else (none)))) else (none)) else (none)) else (some true)
end
def fB (k : Nat) (a0 : ByteArray) : Option (Bool) := if a0.toList = ([] : List UInt8) then (cZ k a0 true) else (if 0 < (a0.size : Int) then ((fq k (bt a0 0) 1).bind fun t111 => (cZ k a0 (!t111))) else (none))
theorem kQ : ∀ k, (∀ y0 y1, LeO (cZ k y0 y1) (cZ (k + 1) y0 y1)) ∧ (∀ y0 y1 y2, LeO (ce k y0 y1 y2) (ce (k + 1) y0 y1 y2))
  | 0 => ⟨fun _ _ r h => by simp [cZ] at h, fun _ _ _ r h => by simp [ce] at h⟩
  | k + 1 => by
    obtain ⟨ih0, ih1⟩ := kQ k
    have m0 := @iI; have m1 := @ft
    refine ⟨?_, ?_⟩
    · intro y0 y1
      unfold cZ
      exact xmo
    · intro y0 y1 y2
      unfold ce
      exact xmo
theorem oy : ∀ a0 k, LeO (fB k a0) (fB (k + 1) a0) := by
  intro a0 k
  obtain ⟨ih0, ih1⟩ := kQ k
  have m0 := @iI; have m1 := @ft
  unfold fB
  exact xmo
theorem lf (k : Nat) (a0 : ByteArray) (r : Bool) (w : World) (h : fB k a0 = some r) :
    Calls Tryz.prog 46 #[.string a0] w fun e w' => e = .returned (.bool r) ∧ Below w.heap.size w w' := by
 have HB := Zz.mk (Below.refl w.heap.size w)
 have H := h
 clear h
 unfold fB at H
 have Aj := Zz.mk H
 clear H
 go_enter Tryz.func46, Tryz.ntmps46
 go_upto_region 1 with (fail)
 go_cut [11] (fun v11 wc => ∃ kq Ad, v11 = .bool Ad ∧ Zz (cZ kq a0 Ad = some r) ∧ Zz (kq ≤ k) ∧ Zz (Below w.heap.size w wc))
 case first => (
 have H := Aj.out
 clear Aj
 refine xid H ?_ ?_ <;> clear H <;> intro c3 H
 {
 obtain ⟨Ae, Ak⟩ := xqe c3
 (try (have Af : a0.toList.isEmpty = true := by simpa using c3))
 clear c3
 (first | rw [Ae] | (simp only [ag, ak]; rw [Ae]) | (rw [Af]; (try simp only [Bool.not_false, Bool.not_true])) | skip)
 replace H := xa H
 go_wp2
 go_meet
 case rel => exact ⟨_, (true), xrr, H, ⟨xom⟩, ⟨xbl⟩⟩
 }
 obtain ⟨Ae, Ak⟩ := xqn c3
 (try (have Af : a0.toList.isEmpty = false := by simpa using c3))
 (first | rw [Ae] | (simp only [ag, ak]; rw [Ae]) | (rw [Af]; (try simp only [Bool.not_false, Bool.not_true])) | skip)
 refine xin H ?_; clear H; intro c4 H
 have Au := xdt c4
 have Av : decide (0 < a0.size) = true := decide_eq_true (by omega)
 clear c4
 replace H := xbd H
 obtain ⟨Al, A6, H⟩ := H
 try dsimp only at H
 replace H := xa H
 obtain ⟨q5, AA, hx5⟩ := xi0 a0 xod
 go_wp2_with (first | (go_at_call 61; (with_reducible refine (cX (w := _) (h := A6.out)).mono ?_); rintro e w' ⟨rfl, ⟨nd, rfl⟩⟩))
 go_meet
 case rel => exact ⟨_, (!Al), xrr, H, ⟨xom⟩, ⟨xbl⟩⟩
 )
 case rest => (
 clear Aj
 obtain ⟨kq, Ad, rfl, HA, HJ1, HB⟩ := hcut
 cases kq with
 | zero => exact absurd HA.out (by simp [cZ])
 | succ kj1 => (
 have H := HA.out
 clear HA
 simp only [cZ] at H
 refine xib H ?_ ?_ <;> clear H <;> rintro rfl H
 {
 obtain rfl := Option.some.inj H
 go_wp2
 go_ret
 exact ⟨xre, xbl⟩
 }
 have H' := Zz.mk H
 clear H
 go_wp2
 go_loopg [14] kj1 (fun kq v14 w' => ∃ Aa, v14 = .int .i64 Aa ∧ Zz (ce kq a0 (a0.size : Int) Aa = some r) ∧ Zz (kq ≤ kj1) ∧ Zz (Below w.heap.size w w'))
 case atStart => exact ⟨(0), xrr, H', ⟨Nat.le_refl _⟩, ⟨xbl⟩⟩
 case round => (
 clear H'
 obtain ⟨Aa, rfl, HA, HK2, HB⟩ := hrel
 cases gk with
 | zero => exact absurd HA.out (by simp [ce])
 | succ k2 => (
 have H := HA.out
 clear HA
 simp only [ce] at H
 refine xid H ?_ ?_ <;> clear H <;> intro c8 H
 {
 have Am := xdt c8
 clear c8
 refine xin H ?_; clear H; intro c9 H
 have Aw := xdt c9
 clear c9
 refine xin H ?_; clear H; intro c10 H
 have Ao := xdt c10
 clear c10
 replace H := xbd H
 obtain ⟨Ax, A12, H⟩ := H
 try dsimp only at H
 refine xib H ?_ ?_ <;> clear H <;> rintro rfl H
 {
 replace H := xa H
 obtain ⟨p11, q11, hx11⟩ := xiv a0 Aa xod xod
 go_wp2_with (first | ((with_reducible refine xgc (f := 61) rfl ?_); refine xca 20 Tryz.func61 (cX (w := _) (h := A12.out)) ?_; rintro w' ⟨nd, rfl⟩))
 go_roundg k2
 case measure => have := HJ1.out; have := HK2.out; omega
 case rel => exact ⟨(wrap64 (Aa + 1)), xrr, H, ⟨by have := HJ1.out; have := HK2.out; omega⟩, ⟨xbl⟩⟩
 }
 have Ap := eq_true (xod : 0 ≤ Aa)
 obtain ⟨Ag, Ab⟩ : ∃ j_ : Int, (wrap64 (Aa + 1)) = j_ := ⟨_, rfl⟩
 first | rw [Ab] at H | simp only [Ab] at H | skip
 (try rw [Ab] at A12)
 have An : (IntKind.i64.wrap (Aa + 1)) = Ag := (ag _).trans Ab
 refine xin H ?_; clear H; intro c16 H
 obtain ⟨Aq, Ar⟩ := xcp c16
 clear c16
 refine xin H ?_; clear H; intro c17 H
 obtain ⟨As, At⟩ := xcp c17
 clear c17
 obtain ⟨Ay, Ac⟩ : ∃ j_ : ByteArray, (a0.extract (Aa : Int).toNat ((Ag) : Int).toNat) = j_ := ⟨_, rfl⟩
 try (have Ah := Ac; simp only [Int.toNat_natCast] at Ah)
 first | rw [Ac] at H | simp only [Ac] at H | skip
 (try rw [Ac] at A12)
 replace H := xbd H
 obtain ⟨Az, A19, H⟩ := H
 try dsimp only at H
 refine xid H ?_ ?_ <;> clear H <;> intro c20 H
 {
 have Ai := xdt c20
 clear c20
 obtain rfl := Option.some.inj H
 obtain ⟨p11, q11, hx11⟩ := xiv a0 Aa xod xod
 go_wp2_with (first | ((with_reducible refine xgc (f := 61) rfl ?_); refine xca 20 Tryz.func61 (cX (w := _) (h := A12.out)) ?_; rintro w' ⟨nd, rfl⟩) | (go_at_call 45; (with_reducible refine (dY (w := _) (h := A19.out)).mono ?_); rintro e w21 ⟨rfl, hb⟩; replace HB := xst hb; (try clear hb)))
 go_ret
 exact ⟨by first | exact xrd | (simp only [← Ab, ← Ac]; exact xrd) | exact xre, xbl⟩
 }
 have Ai := xdf c20
 clear c20
 replace H := xa H
 obtain ⟨p11, q11, hx11⟩ := xiv a0 Aa xod xod
 go_wp2_with (first | ((with_reducible refine xgc (f := 61) rfl ?_); refine xca 20 Tryz.func61 (cX (w := _) (h := A12.out)) ?_; rintro w' ⟨nd, rfl⟩) | (go_at_call 45; (with_reducible refine (dY (w := _) (h := A19.out)).mono ?_); rintro e w22 ⟨rfl, hb⟩; replace HB := xst hb; (try clear hb)))
 first | go_roundg k2 | (simp only [← Ab, ← Ac]; go_roundg k2)
 case measure => have := HJ1.out; have := HK2.out; omega
 case rel => exact ⟨(Ag), (by first | exact xrs | (simp only [← Ab] <;> (first | rfl | simp)) | exact xrr), H, ⟨by have := HJ1.out; have := HK2.out; omega⟩, ⟨xbl⟩⟩
 }
 have Am := xdf c8
 clear c8
 obtain rfl := Option.some.inj H
 go_wp2
 go_ret
 exact ⟨xre, xbl⟩
 )
 )
 )
 )
 
 
def IsS53 (w0 W : World) (g : Nat) (f0 : ByteArray) (f1 : Int) (f2 : Bool) (f3 : ByteArray) (f4 : Bool) (f5 : ByteArray) (f6 : ByteArray) (f7 : Bool) (f8 : ByteArray) (f9 : Bool) (f10 : ByteArray) : Prop := W.heap[g]? = some (.cells #[.string f0, .int .i64 f1, .bool f2, .string f3, .bool f4, .string f5, .string f6, .bool f7, .string f8, .bool f9, .string f10] 53 (0, 0)) ∧ w0.heap.size ≤ g
theorem IsS53.grown {w0 W : World} {g : Nat} {f0 : ByteArray} {f1 : Int} {f2 : Bool} {f3 : ByteArray} {f4 : Bool} {f5 : ByteArray} {f6 : ByteArray} {f7 : Bool} {f8 : ByteArray} {f9 : Bool} {f10 : ByteArray} {W1 : World} {row : Option Nat} (h : IsS53 w0 W g f0 f1 f2 f3 f4 f5 f6 f7 f8 f9 f10) (hw : W.grownBy W1 row) (hne : some g ≠ row) : IsS53 w0 W1 g f0 f1 f2 f3 f4 f5 f6 f7 f8 f9 f10 := by
  obtain ⟨hb, hg⟩ := h
  exact ⟨b5 hb hw hne, hg⟩
theorem IsS53.kept {w0 W : World} {g : Nat} {f0 : ByteArray} {f1 : Int} {f2 : Bool} {f3 : ByteArray} {f4 : Bool} {f5 : ByteArray} {f6 : ByteArray} {f7 : Bool} {f8 : ByteArray} {f9 : Bool} {f10 : ByteArray} {W1 : World} {S : Nat → Prop} (h : IsS53 w0 W g f0 f1 f2 f3 f4 f5 f6 f7 f8 f9 f10) (hk : Kept W W1 S) (hne : ¬ S g) : IsS53 w0 W1 g f0 f1 f2 f3 f4 f5 f6 f7 f8 f9 f10 := by
  obtain ⟨hb, hg⟩ := h
  exact ⟨wn hb hk hne, hg⟩
theorem IsS53.below {w0 W : World} {g : Nat} {f0 : ByteArray} {f1 : Int} {f2 : Bool} {f3 : ByteArray} {f4 : Bool} {f5 : ByteArray} {f6 : ByteArray} {f7 : Bool} {f8 : ByteArray} {f9 : Bool} {f10 : ByteArray} {W1 : World} (h : IsS53 w0 W g f0 f1 f2 f3 f4 f5 f6 f7 f8 f9 f10) (hw : Below W.heap.size W W1) : IsS53 w0 W1 g f0 f1 f2 f3 f4 f5 f6 f7 f8 f9 f10 := h.grown (mZ hw none) (by simp)
theorem IsS53.alloc {w0 W : World} {g : Nat} {f0 : ByteArray} {f1 : Int} {f2 : Bool} {f3 : ByteArray} {f4 : Bool} {f5 : ByteArray} {f6 : ByteArray} {f7 : Bool} {f8 : ByteArray} {f9 : Bool} {f10 : ByteArray} (h : IsS53 w0 W g f0 f1 f2 f3 f4 f5 f6 f7 f8 f9 f10) (o : Obj) : IsS53 w0 (W.alloc o) g f0 f1 f2 f3 f4 f5 f6 f7 f8 f9 f10 := h.below (ec (Below.refl _ _) o)
theorem IsS53.drewN {w0 W : World} {g : Nat} {f0 : ByteArray} {f1 : Int} {f2 : Bool} {f3 : ByteArray} {f4 : Bool} {f5 : ByteArray} {f6 : ByteArray} {f7 : Bool} {f8 : ByteArray} {f9 : Bool} {f10 : ByteArray} (h : IsS53 w0 W g f0 f1 f2 f3 f4 f5 f6 f7 f8 f9 f10) (m : Nat) : IsS53 w0 (W.drewN m) g f0 f1 f2 f3 f4 f5 f6 f7 f8 f9 f10 := h
theorem IsS53.drew {w0 W : World} {g : Nat} {f0 : ByteArray} {f1 : Int} {f2 : Bool} {f3 : ByteArray} {f4 : Bool} {f5 : ByteArray} {f6 : ByteArray} {f7 : Bool} {f8 : ByteArray} {f9 : Bool} {f10 : ByteArray} (h : IsS53 w0 W g f0 f1 f2 f3 f4 f5 f6 f7 f8 f9 f10) : IsS53 w0 W.drew g f0 f1 f2 f3 f4 f5 f6 f7 f8 f9 f10 := h
theorem IsS53.at_ {w0 W : World} {g : Nat} {f0 : ByteArray} {f1 : Int} {f2 : Bool} {f3 : ByteArray} {f4 : Bool} {f5 : ByteArray} {f6 : ByteArray} {f7 : Bool} {f8 : ByteArray} {f9 : Bool} {f10 : ByteArray} {w' : World} {m : Nat} (hq : W.drewN m = w') (h : IsS53 w0 W g f0 f1 f2 f3 f4 f5 f6 f7 f8 f9 f10) : IsS53 w0 w' g f0 f1 f2 f3 f4 f5 f6 f7 f8 f9 f10 := by subst hq; exact IsS53.drewN h m
theorem IsS53.apart {w0 W : World} {g : Nat} {f0 : ByteArray} {f1 : Int} {f2 : Bool} {f3 : ByteArray} {f4 : Bool} {f5 : ByteArray} {f6 : ByteArray} {f7 : Bool} {f8 : ByteArray} {f9 : Bool} {f10 : ByteArray} {α : Type} {d : Kd α} {e : Nat} {base : Nat} {ok : Nat → Prop} {v : Value} {xs : List α} (h : IsS53 w0 W g f0 f1 f2 f3 f4 f5 f6 f7 f8 f9 f10) (ho : d.R e W base ok v xs) (ht : ∀ q, q ∈ e :: d.E → q ≠ 53) : d.R e W base (fun k => ok k ∧ k ≠ g) v xs := by
  obtain ⟨hb, hg⟩ := h
  exact Kd.R_types ho hb ht
theorem IsS53.own_ne {w0 W : World} {g : Nat} {f0 : ByteArray} {f1 : Int} {f2 : Bool} {f3 : ByteArray} {f4 : Bool} {f5 : ByteArray} {f6 : ByteArray} {f7 : Bool} {f8 : ByteArray} {f9 : Bool} {f10 : ByteArray} {α : Type} {d : Kd α} {e : Nat} {base : Nat} {ok : Nat → Prop} {v : Value} {xs : List α} (h : IsS53 w0 W g f0 f1 f2 f3 f4 f5 f6 f7 f8 f9 f10) (ho : d.R e W base ok v xs) (ht : e ≠ 53) : some g ≠ v.ownBlock := by
  obtain ⟨hb, hg⟩ := h
  exact Kd.R_ne ho hb ht
theorem IsS53.lt {w0 W : World} {g : Nat} {f0 : ByteArray} {f1 : Int} {f2 : Bool} {f3 : ByteArray} {f4 : Bool} {f5 : ByteArray} {f6 : ByteArray} {f7 : Bool} {f8 : ByteArray} {f9 : Bool} {f10 : ByteArray} (h : IsS53 w0 W g f0 f1 f2 f3 f4 f5 f6 f7 f8 f9 f10) : g < W.heap.size := by
  obtain ⟨hb, hg⟩ := h
  exact ky hb
theorem IsS53.ge {w0 W : World} {g : Nat} {f0 : ByteArray} {f1 : Int} {f2 : Bool} {f3 : ByteArray} {f4 : Bool} {f5 : ByteArray} {f6 : ByteArray} {f7 : Bool} {f8 : ByteArray} {f9 : Bool} {f10 : ByteArray} (h : IsS53 w0 W g f0 f1 f2 f3 f4 f5 f6 f7 f8 f9 f10) : w0.heap.size ≤ g := by
  obtain ⟨hb, hg⟩ := h
  exact hg
theorem IsS53.far {w0 W : World} {g : Nat} {f0 : ByteArray} {f1 : Int} {f2 : Bool} {f3 : ByteArray} {f4 : Bool} {f5 : ByteArray} {f6 : ByteArray} {f7 : Bool} {f8 : ByteArray} {f9 : Bool} {f10 : ByteArray} {p : Addr} (h : IsS53 w0 W g f0 f1 f2 f3 f4 f5 f6 f7 f8 f9 f10) (hne : g ≠ p.block) (u : Value) : IsS53 w0 (W.setCell p u) g f0 f1 f2 f3 f4 f5 f6 f7 f8 f9 f10 := by
  obtain ⟨hb, hg⟩ := h
  exact ⟨ji hb hne u, hg⟩
theorem IsS53.set_0 {w0 W : World} {g : Nat} {f0 : ByteArray} {f1 : Int} {f2 : Bool} {f3 : ByteArray} {f4 : Bool} {f5 : ByteArray} {f6 : ByteArray} {f7 : Bool} {f8 : ByteArray} {f9 : Bool} {f10 : ByteArray} (h : IsS53 w0 W g f0 f1 f2 f3 f4 f5 f6 f7 f8 f9 f10) (x : ByteArray) : IsS53 w0 (W.setCell ⟨g, 0, none⟩ (.string x)) g x f1 f2 f3 f4 f5 f6 f7 f8 f9 f10 := by
  obtain ⟨hb, hg⟩ := h
  exact ⟨by simpa using gh hb 0 (.string x), hg⟩
theorem IsS53.set_1 {w0 W : World} {g : Nat} {f0 : ByteArray} {f1 : Int} {f2 : Bool} {f3 : ByteArray} {f4 : Bool} {f5 : ByteArray} {f6 : ByteArray} {f7 : Bool} {f8 : ByteArray} {f9 : Bool} {f10 : ByteArray} (h : IsS53 w0 W g f0 f1 f2 f3 f4 f5 f6 f7 f8 f9 f10) (x : Int) : IsS53 w0 (W.setCell ⟨g, 1, none⟩ (.int .i64 x)) g f0 x f2 f3 f4 f5 f6 f7 f8 f9 f10 := by
  obtain ⟨hb, hg⟩ := h
  exact ⟨by simpa using gh hb 1 (.int .i64 x), hg⟩
theorem IsS53.set_2 {w0 W : World} {g : Nat} {f0 : ByteArray} {f1 : Int} {f2 : Bool} {f3 : ByteArray} {f4 : Bool} {f5 : ByteArray} {f6 : ByteArray} {f7 : Bool} {f8 : ByteArray} {f9 : Bool} {f10 : ByteArray} (h : IsS53 w0 W g f0 f1 f2 f3 f4 f5 f6 f7 f8 f9 f10) (x : Bool) : IsS53 w0 (W.setCell ⟨g, 2, none⟩ (.bool x)) g f0 f1 x f3 f4 f5 f6 f7 f8 f9 f10 := by
  obtain ⟨hb, hg⟩ := h
  exact ⟨by simpa using gh hb 2 (.bool x), hg⟩
theorem IsS53.set_3 {w0 W : World} {g : Nat} {f0 : ByteArray} {f1 : Int} {f2 : Bool} {f3 : ByteArray} {f4 : Bool} {f5 : ByteArray} {f6 : ByteArray} {f7 : Bool} {f8 : ByteArray} {f9 : Bool} {f10 : ByteArray} (h : IsS53 w0 W g f0 f1 f2 f3 f4 f5 f6 f7 f8 f9 f10) (x : ByteArray) : IsS53 w0 (W.setCell ⟨g, 3, none⟩ (.string x)) g f0 f1 f2 x f4 f5 f6 f7 f8 f9 f10 := by
  obtain ⟨hb, hg⟩ := h
  exact ⟨by simpa using gh hb 3 (.string x), hg⟩
theorem IsS53.set_4 {w0 W : World} {g : Nat} {f0 : ByteArray} {f1 : Int} {f2 : Bool} {f3 : ByteArray} {f4 : Bool} {f5 : ByteArray} {f6 : ByteArray} {f7 : Bool} {f8 : ByteArray} {f9 : Bool} {f10 : ByteArray} (h : IsS53 w0 W g f0 f1 f2 f3 f4 f5 f6 f7 f8 f9 f10) (x : Bool) : IsS53 w0 (W.setCell ⟨g, 4, none⟩ (.bool x)) g f0 f1 f2 f3 x f5 f6 f7 f8 f9 f10 := by
  obtain ⟨hb, hg⟩ := h
  exact ⟨by simpa using gh hb 4 (.bool x), hg⟩
theorem IsS53.set_5 {w0 W : World} {g : Nat} {f0 : ByteArray} {f1 : Int} {f2 : Bool} {f3 : ByteArray} {f4 : Bool} {f5 : ByteArray} {f6 : ByteArray} {f7 : Bool} {f8 : ByteArray} {f9 : Bool} {f10 : ByteArray} (h : IsS53 w0 W g f0 f1 f2 f3 f4 f5 f6 f7 f8 f9 f10) (x : ByteArray) : IsS53 w0 (W.setCell ⟨g, 5, none⟩ (.string x)) g f0 f1 f2 f3 f4 x f6 f7 f8 f9 f10 := by
  obtain ⟨hb, hg⟩ := h
  exact ⟨by simpa using gh hb 5 (.string x), hg⟩
theorem IsS53.set_6 {w0 W : World} {g : Nat} {f0 : ByteArray} {f1 : Int} {f2 : Bool} {f3 : ByteArray} {f4 : Bool} {f5 : ByteArray} {f6 : ByteArray} {f7 : Bool} {f8 : ByteArray} {f9 : Bool} {f10 : ByteArray} (h : IsS53 w0 W g f0 f1 f2 f3 f4 f5 f6 f7 f8 f9 f10) (x : ByteArray) : IsS53 w0 (W.setCell ⟨g, 6, none⟩ (.string x)) g f0 f1 f2 f3 f4 f5 x f7 f8 f9 f10 := by
  obtain ⟨hb, hg⟩ := h
  exact ⟨by simpa using gh hb 6 (.string x), hg⟩
theorem IsS53.set_7 {w0 W : World} {g : Nat} {f0 : ByteArray} {f1 : Int} {f2 : Bool} {f3 : ByteArray} {f4 : Bool} {f5 : ByteArray} {f6 : ByteArray} {f7 : Bool} {f8 : ByteArray} {f9 : Bool} {f10 : ByteArray} (h : IsS53 w0 W g f0 f1 f2 f3 f4 f5 f6 f7 f8 f9 f10) (x : Bool) : IsS53 w0 (W.setCell ⟨g, 7, none⟩ (.bool x)) g f0 f1 f2 f3 f4 f5 f6 x f8 f9 f10 := by
  obtain ⟨hb, hg⟩ := h
  exact ⟨by simpa using gh hb 7 (.bool x), hg⟩
theorem IsS53.set_8 {w0 W : World} {g : Nat} {f0 : ByteArray} {f1 : Int} {f2 : Bool} {f3 : ByteArray} {f4 : Bool} {f5 : ByteArray} {f6 : ByteArray} {f7 : Bool} {f8 : ByteArray} {f9 : Bool} {f10 : ByteArray} (h : IsS53 w0 W g f0 f1 f2 f3 f4 f5 f6 f7 f8 f9 f10) (x : ByteArray) : IsS53 w0 (W.setCell ⟨g, 8, none⟩ (.string x)) g f0 f1 f2 f3 f4 f5 f6 f7 x f9 f10 := by
  obtain ⟨hb, hg⟩ := h
  exact ⟨by simpa using gh hb 8 (.string x), hg⟩
theorem IsS53.set_9 {w0 W : World} {g : Nat} {f0 : ByteArray} {f1 : Int} {f2 : Bool} {f3 : ByteArray} {f4 : Bool} {f5 : ByteArray} {f6 : ByteArray} {f7 : Bool} {f8 : ByteArray} {f9 : Bool} {f10 : ByteArray} (h : IsS53 w0 W g f0 f1 f2 f3 f4 f5 f6 f7 f8 f9 f10) (x : Bool) : IsS53 w0 (W.setCell ⟨g, 9, none⟩ (.bool x)) g f0 f1 f2 f3 f4 f5 f6 f7 f8 x f10 := by
  obtain ⟨hb, hg⟩ := h
  exact ⟨by simpa using gh hb 9 (.bool x), hg⟩
theorem IsS53.set_10 {w0 W : World} {g : Nat} {f0 : ByteArray} {f1 : Int} {f2 : Bool} {f3 : ByteArray} {f4 : Bool} {f5 : ByteArray} {f6 : ByteArray} {f7 : Bool} {f8 : ByteArray} {f9 : Bool} {f10 : ByteArray} (h : IsS53 w0 W g f0 f1 f2 f3 f4 f5 f6 f7 f8 f9 f10) (x : ByteArray) : IsS53 w0 (W.setCell ⟨g, 10, none⟩ (.string x)) g f0 f1 f2 f3 f4 f5 f6 f7 f8 f9 x := by
  obtain ⟨hb, hg⟩ := h
  exact ⟨by simpa using gh hb 10 (.string x), hg⟩
theorem iX {p : Prop} (h : p := by first | (with_reducible exact hG) | exact eZ hG (by repeat (first | (with_reducible first | exact HB.out | apply ec | apply fF | apply aA | refine iC ?_ (IsS53.ge (Zz.out (by assumption))) | refine iC ?_ (Zz.out (by assumption))) | exact HB.out))) : p := h
theorem aE {p : Prop} (h : p := by repeat (first | (with_reducible first | exact Zz.out (by assumption) | apply IsS53.alloc | apply IsS53.drewN | apply IsS53.drew | apply IsS53.set_0 | apply IsS53.set_1 | apply IsS53.set_2 | apply IsS53.set_3 | apply IsS53.set_4 | apply IsS53.set_5 | apply IsS53.set_6 | apply IsS53.set_7 | apply IsS53.set_8 | apply IsS53.set_9 | apply IsS53.set_10 | refine IsS53.far ?_ (Zz.out (by assumption)) _) | exact HI0.out)) : p := h
theorem ax {p : Prop} (h : p := by repeat (first | (with_reducible first | exact HB.out | apply ec | apply fF | apply aA | refine iC ?_ (IsS53.ge (Zz.out (by assumption))) | refine iC ?_ (Zz.out (by assumption))) | exact HB.out)) : p := h
def cy (k : Nat) (Aa : ByteArray) (Ak : Int) (Ad : Bool) (Al : ByteArray) (Ae : Bool) (Af : ByteArray) (Ag : ByteArray) (Ah : Bool) (Ai : ByteArray) (Aj : Bool) (Ac : ByteArray) : Option (Bool × ByteArray × Int × Bool × ByteArray × Bool × ByteArray × ByteArray × Bool × ByteArray × Bool × ByteArray) := (dg k Aa 0 (⟨#[58, 47, 63, 35]⟩ : ByteArray)).bind fun Ab => (if Ab < 0 then (some (false, Aa, Ak, Ad, Al, Ae, Af, Ag, Ah, Ai, Aj, Ac)) else (if 0 ≤ Ab then (if Ab < (Aa.size : Int) then (if (bt Aa Ab) = 58 then (if Ab ≤ (Aa.size : Int) then ((fB k (Aa.extract 0 (Ab : Int).toNat)).bind fun Am => (if Am = true then (some (true, Aa, wrap64 (Ab + 1), Ad, Aa.extract 0 (Ab : Int).toNat, Ae, Af, Ag, Ah, Ai, Aj, Ac)) else (some (false, Aa, Ak, Ad, Al, Ae, Af, Ag, Ah, Ai, Aj, Ac)))) else (none)) else (some (false, Aa, Ak, Ad, Al, Ae, Af, Ag, Ah, Ai, Aj, Ac))) else (none)) else (none)))
theorem mB : ∀ a0 a1 a2 a3 a4 a5 a6 a7 a8 a9 a10 k, LeO (cy k a0 a1 a2 a3 a4 a5 a6 a7 a8 a9 a10) (cy (k + 1) a0 a1 a2 a3 a4 a5 a6 a7 a8 a9 a10) := by
  intro a0 a1 a2 a3 a4 a5 a6 a7 a8 a9 a10 k
  have m0 := @oy; have m1 := @iI
  unfold cy
  exact xmo
theorem aN (k : Nat) (g : Nat) (Ab : ByteArray) (Af : Int) (Ag : Bool) (Ah : ByteArray) (Ai : Bool) (Aj : ByteArray) (Ak : ByteArray) (Al : Bool) (Am : ByteArray) (An : Bool) (Ad : ByteArray) (r1 : Bool) (r2 : ByteArray) (r3 : Int) (r4 : Bool) (r5 : ByteArray) (r6 : Bool) (r7 : ByteArray) (r8 : ByteArray) (r9 : Bool) (r10 : ByteArray) (r11 : Bool) (r12 : ByteArray) (w0 w : World) (hI : IsS53 w0 w g Ab Af Ag Ah Ai Aj Ak Al Am An Ad) (hB : Below w0.heap.size w0 w) (h : cy k Ab Af Ag Ah Ai Aj Ak Al Am An Ad = some (r1, r2, r3, r4, r5, r6, r7, r8, r9, r10, r11, r12)) :
    Calls Tryz.prog 28 #[.pointer (some ⟨g, 0, none⟩)] w fun e w' => e = .returned (.bool r1) ∧ IsS53 w0 w' g r2 r3 r4 r5 r6 r7 r8 r9 r10 r11 r12 ∧ Below w0.heap.size w0 w' ∧ KeepBut w w' g none := by
 have HI0 := Zz.mk hI
 have HK := Zz.mk (KeepBut.refl w g none)
 have HL := Zz.mk hB.size
 clear hI
 have HW0 := Zz.mk hB.size
 have HB := Zz.mk hB
 clear hB
 have H := h
 clear h
 unfold cy at H
 replace H := xbd H
 obtain ⟨Ac, A2, H⟩ := H
 try dsimp only at H
 refine xid H ?_ ?_ <;> clear H <;> intro c3 H
 {
 have Ao := xdt c3
 clear c3
 simp only [Option.some.injEq, Prod.mk.injEq] at H
 obtain ⟨rfl, rfl, rfl, rfl, rfl, rfl, rfl, rfl, rfl, rfl, rfl, rfl⟩ := H
 have AH := eY HI0.out.1
 go_enter Tryz.func28, Tryz.ntmps28
 go_wp2_with (first | ((with_reducible refine xgc (f := 45) rfl ?_); refine xca 8 Tryz.func45 (dY (w := _) (h := A2.out)) ?_; rintro w5 hb; replace HK := Zz.mk (KeepBut.trans xk (KeepBut.of_below hb g none) (.inl rfl)); replace HB := Zz.mk (cJ ax hb); replace HI0 := Zz.mk (IsS53.below aE hb); (try clear hb)))
 go_ret
 exact ⟨xre, aE, ax, xk⟩
 }
 have Ao := xdf c3
 clear c3
 refine xin H ?_; clear H; intro c6 H
 have Aw := xdt c6
 clear c6
 refine xin H ?_; clear H; intro c7 H
 have Ax := xdt c7
 clear c7
 refine xid H ?_ ?_ <;> clear H <;> intro c9 H
 {
 obtain ⟨Ap, Aq⟩ := xqe c9
 clear c9
 have Ar := eq_true (xod : 0 ≤ Ac)
 refine xin H ?_; clear H; intro c11 H
 obtain ⟨As, At⟩ := xcp c11
 clear c11
 obtain ⟨Ay, Aa⟩ : ∃ j_ : ByteArray, (Ab.extract 0 (Ac : Int).toNat) = j_ := ⟨_, rfl⟩
 try (have Ae := Aa; simp only [Int.toNat_natCast] at Ae)
 first | rw [Aa] at H | simp only [Aa] at H | skip
 (try rw [Aa] at A2)
 replace H := xbd H
 obtain ⟨Az, A13, H⟩ := H
 try dsimp only at H
 refine xib H ?_ ?_ <;> clear H <;> rintro rfl H
 {
 have Au := eq_true (xod : 0 ≤ Ac)
 have Av := eq_true (xod : Ac ≤ (Ab.size : Int))
 first | rw [Aa] at H | simp only [Aa] at H | skip
 (try rw [Aa] at A2)
 (try rw [Aa] at A13)
 simp only [Option.some.injEq, Prod.mk.injEq] at H
 obtain ⟨rfl, rfl, rfl, rfl, rfl, rfl, rfl, rfl, rfl, rfl, rfl, rfl⟩ := H
 have AA := eY HI0.out.1
 go_enter Tryz.func28, Tryz.ntmps28
 go_wp2_with (first | ((with_reducible refine xgc (f := 45) rfl ?_); refine xca 8 Tryz.func45 (dY (w := _) (h := A2.out)) ?_; rintro w18 hb; replace HK := Zz.mk (KeepBut.trans xk (KeepBut.of_below hb g none) (.inl rfl)); replace HB := Zz.mk (cJ ax hb); replace HI0 := Zz.mk (IsS53.below aE hb); (try clear hb); have AB := eY HI0.out.1; obtain ⟨p8, q8, hx8⟩ := xiv Ab Ac xod xod) | (go_at_call 46; (with_reducible refine (lf (w := _) (h := A13.out)).mono ?_); rintro e w20 ⟨rfl, hb⟩; replace HK := Zz.mk (KeepBut.trans xk (KeepBut.of_below hb g none) (.inl rfl)); replace HB := Zz.mk (cJ ax hb); replace HI0 := Zz.mk (IsS53.below aE hb); (try clear hb); have AC := eY HI0.out.1))
 go_ret
 exact ⟨by first | exact xrd | (simp only [← Aa, ← Aa]; exact xrd) | exact xre, aE, ax, xk⟩
 }
 simp only [Option.some.injEq, Prod.mk.injEq] at H
 obtain ⟨rfl, rfl, rfl, rfl, rfl, rfl, rfl, rfl, rfl, rfl, rfl, rfl⟩ := H
 have AD := eY HI0.out.1
 go_enter Tryz.func28, Tryz.ntmps28
 go_wp2_with (first | ((with_reducible refine xgc (f := 45) rfl ?_); refine xca 8 Tryz.func45 (dY (w := _) (h := A2.out)) ?_; rintro w23 hb; replace HK := Zz.mk (KeepBut.trans xk (KeepBut.of_below hb g none) (.inl rfl)); replace HB := Zz.mk (cJ ax hb); replace HI0 := Zz.mk (IsS53.below aE hb); (try clear hb); have AE := eY HI0.out.1; obtain ⟨p8, q8, hx8⟩ := xiv Ab Ac xod xod) | (go_at_call 46; (with_reducible refine (lf (w := _) (h := A13.out)).mono ?_); rintro e w25 ⟨rfl, hb⟩; replace HK := Zz.mk (KeepBut.trans xk (KeepBut.of_below hb g none) (.inl rfl)); replace HB := Zz.mk (cJ ax hb); replace HI0 := Zz.mk (IsS53.below aE hb); (try clear hb)))
 go_ret
 exact ⟨by first | exact xrd | (simp only [← Aa]; exact xrd) | exact xre, aE, ax, xk⟩
 }
 obtain ⟨Ap, Aq⟩ := xqn c9
 simp only [Option.some.injEq, Prod.mk.injEq] at H
 obtain ⟨rfl, rfl, rfl, rfl, rfl, rfl, rfl, rfl, rfl, rfl, rfl, rfl⟩ := H
 have AF := eY HI0.out.1
 go_enter Tryz.func28, Tryz.ntmps28
 go_wp2_with (first | ((with_reducible refine xgc (f := 45) rfl ?_); refine xca 8 Tryz.func45 (dY (w := _) (h := A2.out)) ?_; rintro w27 hb; replace HK := Zz.mk (KeepBut.trans xk (KeepBut.of_below hb g none) (.inl rfl)); replace HB := Zz.mk (cJ ax hb); replace HI0 := Zz.mk (IsS53.below aE hb); (try clear hb); have AG := eY HI0.out.1; obtain ⟨p8, q8, hx8⟩ := xiv Ab Ac xod xod))
 go_ret
 exact ⟨xre, aE, ax, xk⟩
def cV (a0 : ByteArray) (a1 : ByteArray) : Option (Bool) := if (a0.size : Int) ≥ (a1.size : Int) then (if 0 ≤ (a1.size : Int) then (if (a1.size : Int) ≤ (a0.size : Int) then (some ((a0.extract 0 ((a1.size : Int) : Int).toNat).toList == a1.toList)) else (none)) else (none)) else (some false)
theorem gH (a0 : ByteArray) (a1 : ByteArray) (r : Bool) (w : World) (h : cV a0 a1 = some r) :
    Calls Tryz.prog 42 #[.string a0, .string a1] w fun e w' => e = .returned (.bool r) ∧ Drawn0 w w' := by
 have H := h
 clear h
 unfold cV at H
 refine xid H ?_ ?_ <;> clear H <;> intro c3 H
 {
 have Ac := xdt c3
 have Ad : decide (a1.size ≤ a0.size) = true := decide_eq_true (Int.ofNat_le.mp c3)
 clear c3
 refine xin H ?_; clear H; intro c4 H
 obtain ⟨Ae, Af⟩ := xcp c4
 clear c4
 refine xin H ?_; clear H; intro c5 H
 obtain ⟨Ag, Ah⟩ := xcp c5
 clear c5
 obtain ⟨Ai, Aa⟩ : ∃ j_ : ByteArray, (a0.extract 0 ((a1.size : Int) : Int).toNat) = j_ := ⟨_, rfl⟩
 try (have Ab := Aa; simp only [Int.toNat_natCast] at Ab)
 first | rw [Aa] at H | simp only [Aa] at H | skip
 obtain rfl := Option.some.inj H
 go_enter Tryz.func42, Tryz.ntmps42
 go_wp2
 go_ret
 exact ⟨by first | exact xrs | (simp only [← Aa] <;> (first | rfl | simp)) | exact xrr, xdr⟩
 }
 have Ac := xdf c3
 have Ad : decide (a1.size ≤ a0.size) = false := decide_eq_false (fun h => c3 (Int.ofNat_le.mpr h))
 clear c3
 obtain rfl := Option.some.inj H
 go_enter Tryz.func42, Tryz.ntmps42
 go_wp2
 go_ret
 exact ⟨xrr, xdr⟩
def cM (a0 : ByteArray) (a1 : ByteArray) : Option (Bool) := (cV a0 a1).bind fun t116 => (some t116)
theorem av (a0 : ByteArray) (a1 : ByteArray) (r : Bool) (w : World) (h : cM a0 a1 = some r) :
    Calls Tryz.prog 25 #[.string a0, .string a1] w fun e w' => e = .returned (.bool r) ∧ Drawn0 w w' := by
 have H := h
 clear h
 unfold cM at H
 replace H := xbd H
 obtain ⟨t116, A3, H⟩ := H
 try dsimp only at H
 obtain rfl := Option.some.inj H
 go_enter Tryz.func25, Tryz.ntmps25
 go_wp2_with (first | ((with_reducible refine xgc (f := 42) rfl ?_); refine xca 7 Tryz.func42 (gH (w := _) (h := A3.out)) ?_; rintro w' ⟨nd, rfl⟩))
 go_ret
 exact ⟨xrr, xdr⟩
def ex (Aa : ByteArray) (Ab : Int) (Ad : Bool) (Ae : ByteArray) (Af : Bool) (Ag : ByteArray) (Ah : ByteArray) (Ai : Bool) (Aj : ByteArray) (Ak : Bool) (Ac : ByteArray) (a1 : ByteArray) : Option (Bool × ByteArray × Int × Bool × ByteArray × Bool × ByteArray × ByteArray × Bool × ByteArray × Bool × ByteArray) := if 0 ≤ Ab then (if Ab ≤ (Aa.size : Int) then ((cM (Aa.extract (Ab : Int).toNat Aa.size) a1).bind fun Al => (if Al = true then (some (true, Aa, wrap64 (Ab + (a1.size : Int)), Ad, Ae, Af, Ag, Ah, Ai, Aj, Ak, Ac)) else (some (false, Aa, Ab, Ad, Ae, Af, Ag, Ah, Ai, Aj, Ak, Ac)))) else (none)) else (none)
theorem eh (g : Nat) (Ab : ByteArray) (Ad : Int) (Ae : Bool) (Af : ByteArray) (Ag : Bool) (Ah : ByteArray) (Ai : ByteArray) (Aj : Bool) (Ak : ByteArray) (Al : Bool) (Ac : ByteArray) (a1 : ByteArray) (r1 : Bool) (r2 : ByteArray) (r3 : Int) (r4 : Bool) (r5 : ByteArray) (r6 : Bool) (r7 : ByteArray) (r8 : ByteArray) (r9 : Bool) (r10 : ByteArray) (r11 : Bool) (r12 : ByteArray) (w0 w : World) (hI : IsS53 w0 w g Ab Ad Ae Af Ag Ah Ai Aj Ak Al Ac) (hB : Below w0.heap.size w0 w) (h : ex Ab Ad Ae Af Ag Ah Ai Aj Ak Al Ac a1 = some (r1, r2, r3, r4, r5, r6, r7, r8, r9, r10, r11, r12)) :
    Calls Tryz.prog 47 #[.pointer (some ⟨g, 0, none⟩), .string a1] w fun e w' => e = .returned (.bool r1) ∧ IsS53 w0 w' g r2 r3 r4 r5 r6 r7 r8 r9 r10 r11 r12 ∧ Below w0.heap.size w0 w' ∧ KeepBut w w' g none := by
 have HI0 := Zz.mk hI
 have HK := Zz.mk (KeepBut.refl w g none)
 have HL := Zz.mk hB.size
 clear hI
 have HW0 := Zz.mk hB.size
 have HB := Zz.mk hB
 clear hB
 have H := h
 clear h
 unfold ex at H
 refine xin H ?_; clear H; intro c3 H
 obtain ⟨An, Ao⟩ := xcp c3
 clear c3
 refine xin H ?_; clear H; intro c4 H
 obtain ⟨Ap, Aq⟩ := xcp c4
 clear c4
 obtain ⟨As, Aa⟩ : ∃ j_ : ByteArray, (Ab.extract (Ad : Int).toNat Ab.size) = j_ := ⟨_, rfl⟩
 try (have Am := Aa; simp only [Int.toNat_natCast] at Am)
 first | rw [Aa] at H | simp only [Aa] at H | skip
 replace H := xbd H
 obtain ⟨Ar, A6, H⟩ := H
 try dsimp only at H
 refine xib H ?_ ?_ <;> clear H <;> rintro rfl H
 {
 simp only [Option.some.injEq, Prod.mk.injEq] at H
 obtain ⟨rfl, rfl, rfl, rfl, rfl, rfl, rfl, rfl, rfl, rfl, rfl, rfl⟩ := H
 have At := eY HI0.out.1
 go_enter Tryz.func47, Tryz.ntmps47
 go_wp2_with (first | (go_at_call 25; (with_reducible refine (av (w := _) (h := A6.out)).mono ?_); rintro e w' ⟨rfl, ⟨nd, rfl⟩⟩; (try exact xdd)))
 repeat (go_quiet (first | (go_at_call 25; (with_reducible refine (av (w := _) (h := A6.out)).mono ?_); rintro e w' ⟨rfl, ⟨nd, rfl⟩⟩; (try exact xdd))); try go_wp2_with (first | (go_at_call 25; (with_reducible refine (av (w := _) (h := A6.out)).mono ?_); rintro e w' ⟨rfl, ⟨nd, rfl⟩⟩; (try exact xdd))))
 go_ret
 exact ⟨by first | exact xrd | (simp only [← Aa]; exact xrd) | exact xre, aE, ax, xk⟩
 }
 simp only [Option.some.injEq, Prod.mk.injEq] at H
 obtain ⟨rfl, rfl, rfl, rfl, rfl, rfl, rfl, rfl, rfl, rfl, rfl, rfl⟩ := H
 have Au := eY HI0.out.1
 go_enter Tryz.func47, Tryz.ntmps47
 go_wp2_with (first | (go_at_call 25; (with_reducible refine (av (w := _) (h := A6.out)).mono ?_); rintro e w' ⟨rfl, ⟨nd, rfl⟩⟩; (try exact xdd)))
 repeat (go_quiet (first | (go_at_call 25; (with_reducible refine (av (w := _) (h := A6.out)).mono ?_); rintro e w' ⟨rfl, ⟨nd, rfl⟩⟩; (try exact xdd))); try go_wp2_with (first | (go_at_call 25; (with_reducible refine (av (w := _) (h := A6.out)).mono ?_); rintro e w' ⟨rfl, ⟨nd, rfl⟩⟩; (try exact xdd))))
 go_ret
 exact ⟨by first | exact xrd | (simp only [← Aa]; exact xrd) | exact xre, aE, ax, xk⟩
def bg : Nat → ByteArray → Int → Int → Option (Int)
  | 0, _, _, _ => none
  | k + 1, x0, x1, x5 => if x5 ≥ 0 then (if 0 ≤ x5 then (if x5 < (x0.size : Int) then (if (bt x0 x5) = x1 then (some x5) else (bg k x0 x1 (wrap64 (x5 - 1)))) else (none)) else (none)) else (some (-1))
def bO (k : Nat) (a0 : ByteArray) (a1 : Int) : Option (Int) := bg k a0 a1 (wrap64 ((a0.size : Int) - 1))
theorem gV : ∀ k, (∀ y0 y1 y2, LeO (bg k y0 y1 y2) (bg (k + 1) y0 y1 y2))
  | 0 => fun _ _ _ r h => by simp [bg] at h
  | k + 1 => by
    have ih0 := gV k
    · intro y0 y1 y2
      unfold bg
      exact xmo
theorem kf : ∀ a0 a1 k, LeO (bO k a0 a1) (bO (k + 1) a0 a1) := by
  intro a0 a1 k
  have ih0 := gV k
  unfold bO
  exact xmo
theorem jW (k : Nat) (a0 : ByteArray) (a1 : Int) (r : Int) (w : World) (h : bO k a0 a1 = some r) :
    Calls Tryz.prog 92 #[.string a0, .int .u8 a1] w fun e w' => e = .returned (.int .i64 r) ∧ Drawn0 w w' := by
 have H := h
 clear h
 unfold bO at H
 have H' := Zz.mk H
 clear H
 go_enter Tryz.func92, Tryz.ntmps92
 go_wp2
 go_loopg [5] k (fun kq v5 w' => ∃ Aa, v5 = .int .i64 Aa ∧ Zz (bg kq a0 a1 Aa = some r) ∧ Zz (kq ≤ k) ∧ Drawn0 w w')
 case atStart => exact ⟨(wrap64 ((a0.size : Int) - 1)), xrr, H', ⟨Nat.le_refl _⟩, xdr⟩
 case round => (
 clear H'
 obtain ⟨Aa, rfl, HA, HK1, ⟨m1, rfl⟩⟩ := hrel
 cases gk with
 | zero => exact absurd HA.out (by simp [bg])
 | succ k1 => (
 have H := HA.out
 clear HA
 simp only [bg] at H
 refine xid H ?_ ?_ <;> clear H <;> intro c3 H
 {
 have Ab := xdt c3
 clear c3
 refine xin H ?_; clear H; intro c4 H
 have Ae := xdt c4
 clear c4
 refine xin H ?_; clear H; intro c5 H
 have Af := xdt c5
 clear c5
 refine xid H ?_ ?_ <;> clear H <;> intro c7 H
 {
 obtain ⟨Ac, Ad⟩ := xqe c7
 clear c7
 obtain rfl := Option.some.inj H
 obtain ⟨p6, q6, hx6⟩ := xiv a0 Aa xod xod
 go_wp2
 go_ret
 exact ⟨xrr, xdr⟩
 }
 obtain ⟨Ac, Ad⟩ := xqn c7
 replace H := xa H
 obtain ⟨p6, q6, hx6⟩ := xiv a0 Aa xod xod
 go_wp2
 go_roundg k1
 case measure => have := HK1.out; omega
 case rel => exact ⟨(wrap64 (Aa - 1)), xrr, H, ⟨by have := HK1.out; omega⟩, xdr⟩
 }
 have Ab := xdf c3
 clear c3
 obtain rfl := Option.some.inj H
 go_wp2
 go_ret
 exact ⟨xrr, xdr⟩
 )
 )
def cU (k : Nat) (a0 : ByteArray) (a1 : Int) : Option (Int) := (bO k a0 a1).bind fun t118 => (some t118)
theorem lz : ∀ a0 a1 k, LeO (cU k a0 a1) (cU (k + 1) a0 a1) := by
  intro a0 a1 k
  have m0 := @kf
  unfold cU
  exact xmo
theorem e9 (k : Nat) (a0 : ByteArray) (a1 : Int) (r : Int) (w : World) (h : cU k a0 a1 = some r) :
    Calls Tryz.prog 75 #[.string a0, .int .u8 a1] w fun e w' => e = .returned (.int .i64 r) ∧ Drawn0 w w' := by
 have H := h
 clear h
 unfold cU at H
 replace H := xbd H
 obtain ⟨t118, A3, H⟩ := H
 try dsimp only at H
 obtain rfl := Option.some.inj H
 go_enter Tryz.func75, Tryz.ntmps75
 go_wp2_with (first | ((with_reducible refine xgc (f := 92) rfl ?_); refine xca 7 Tryz.func92 (jW (w := _) (h := A3.out)) ?_; rintro w' ⟨nd, rfl⟩))
 go_ret
 exact ⟨xrr, xdr⟩
def iy (a0 : ByteArray) (a1 : Int) : Option (Int) := some (Go.Lib.indexByte a0.data.toList a1.toNat.toUInt8)
set_option maxHeartbeats 1000000 in
theorem lr (a0 : ByteArray) (a1 : Int) (r : Int) (w : World) (h : iy a0 a1 = some r) :
    Calls Tryz.prog 90 #[.string a0, .int .u8 a1] w fun e w' => e = .returned (.int .i64 r) ∧ Drawn0 w w' := by
 obtain rfl := Option.some.inj h
 clear h
 go_enter Tryz.func90, Tryz.ntmps90
 go_wp2
 rw [run_callFunc_extern Tryz.func103 (by kernel_rfl) (by kernel_rfl) (by kernel_rfl) (e := Extern.BytealgIndexByte.indexByte) (by kernel_rfl), Lib.run_indexByteString]
 simp only [Result.andThen]
 rw [Oper.upon_value]
 go_wp2
 go_ret
 exact ⟨rfl, xdr⟩
def dv (a0 : ByteArray) (a1 : Int) : Option (Int) := (iy a0 a1).bind fun t119 => (some t119)
theorem aD (a0 : ByteArray) (a1 : Int) (r : Int) (w : World) (h : dv a0 a1 = some r) :
    Calls Tryz.prog 69 #[.string a0, .int .u8 a1] w fun e w' => e = .returned (.int .i64 r) ∧ Drawn0 w w' := by
 have H := h
 clear h
 unfold dv at H
 replace H := xbd H
 obtain ⟨t119, A3, H⟩ := H
 try dsimp only at H
 obtain rfl := Option.some.inj H
 go_enter Tryz.func69, Tryz.ntmps69
 go_wp2_with (first | ((with_reducible refine xgc (f := 90) rfl ?_); refine xca 7 Tryz.func90 (lr (w := _) (h := A3.out)) ?_; rintro w' ⟨nd, rfl⟩))
 go_ret
 exact ⟨xrr, xdr⟩
end Go.Proofs.YtpmflpeckoeooaaGreatDoor.X
