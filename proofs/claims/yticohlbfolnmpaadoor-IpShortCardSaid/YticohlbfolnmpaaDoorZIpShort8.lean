/- The law IpShort of layer 19, for every input: What is read as an IPv6 address is written with one byte more at most, if no full stop stands in it. No condition beside the row's own. -/
import Derived.Test.YticohlbfolnmpaaDoorZIpShort1
import Derived.Test.YticohlbfolnmpaaDoorZIpShort2
import Derived.Test.YticohlbfolnmpaaDoorZIpShort3
import Derived.Test.YticohlbfolnmpaaDoorZIpShort4
import Derived.Test.YticohlbfolnmpaaDoorZIpShort5
import Derived.Test.YticohlbfolnmpaaDoorZIpShort6
import Derived.Test.YticohlbfolnmpaaDoorZIpShort7
import Derived.Laws.BitsLemmas
import Derived.Test.YticohlbfolnmpaaDoorRows
import Derived.Test.YticohlbfolnmpaaDoorCards
import Derived.Test.YticohlbfolnmpaaDoorTie
import Derived.WalkKit
import Derived.ProofKit
import Derived.OpenShut
import Derived.ShutString
import Derived.ChangeOld
import Derived.Below
import Derived.SizedLaws
import Derived.ChangeArms
import Derived.Lib.SmallJoins
import Derived.Deep.DeepHandedRow
import Derived.Lib.LaidTab
import Derived.Shelf.Vars
import Derived.MakeChecks
set_option linter.unusedSimpArgs false
set_option linter.unusedVariables false
namespace Go.Proofs.YticohlbfolnmpaaDoor.X
open Go.RowKit Go.Proofs.YticohlbfolnmpaaDoorW.PrintWords Go.Proofs.YticohlbfolnmpaaDoorW.PrintLast Go.Proofs.YticohlbfolnmpaaDoorW.PrintMore
attribute [local go_sem] bA bn cl dg dO cA dh cu cw cY cZ ci cj cv cx
def dX : Nat → ByteArray → Int → Int → Option (Int × Int × Bool)
  | 0, _, _, _ => none
  | k + 1, x0, x3, x4 => if x4 < 9 then ((gv x4).bind fun Aa => ((gh k x0 Aa.1 Aa.2.1 Aa.2.2.1 Aa.2.2.2.1 Aa.2.2.2.2).bind fun Ab => (if Ab = Aa.2.2.2.2 then (if 0 ≤ Ab then (if Ab ≤ (x0.size : Int) then ((f3 k (x0.extract 0 (Ab : Int).toNat)).bind fun Ac => (some (Ac, Ab, true))) else (none)) else (none)) else (dX k x0 (mx x3 Ab) (wrap64 (x4 + 1)))))) else (some (0, x3, false))
def fP (k : Nat) (a0 : ByteArray) : Option (Int × Int × Bool) := if a0.toList = ([] : List UInt8) then (some (0, 0, false)) else (dX k a0 1 0)
def ec : Nat → Int → Int → Bool → ByteArray → ByteArray → ByteArray → ByteArray → ByteArray → ByteArray → ByteArray → ByteArray → Option (Bool)
  | 0, _, _, _, _, _, _, _, _, _, _, _ => none
  | k + 1, x0, x1, Ar, Aa, Ab, Ac, Ad, Ae, Af, Ag, Ah => if Ar = true then (some false) else ((eg k x1).bind fun Ai => (if (Go.bits .and .i64 Ai 15) = 0 then (if 0 ≤ x0 then (if x0 = 0 then ((aw k x1 Aa).bind fun Aj => (some Aj)) else (if x0 = 1 then ((aw k x1 Ab).bind fun Ak => (some Ak)) else (if x0 = 2 then ((aw k x1 Ac).bind fun Al => (some Al)) else (if x0 = 3 then ((aw k x1 Ad).bind fun Am => (some Am)) else (if x0 = 4 then ((aw k x1 Ae).bind fun An => (some An)) else (if x0 = 5 then ((aw k x1 Af).bind fun Ao => (some Ao)) else (if x0 = 6 then ((aw k x1 Ag).bind fun Ap => (some Ap)) else (if x0 = 7 then ((aw k x1 Ah).bind fun Aq => (some Aq)) else (none))))))))) else (none)) else (some true)))
def f4 (k : Nat) (a0 : Int) (a1 : Int) : Option (Bool) := if a0 < 1 then (ec k a0 a1 true (⟨#[]⟩ : ByteArray) (⟨#[58]⟩ : ByteArray) (⟨#[]⟩ : ByteArray) (⟨#[58, 64]⟩ : ByteArray) (⟨#[64]⟩ : ByteArray) (⟨#[58, 64, 47]⟩ : ByteArray) (⟨#[58, 64, 47, 63]⟩ : ByteArray) (⟨#[58, 64, 47, 63]⟩ : ByteArray)) else (ec k a0 a1 (decide (a0 > 7)) (⟨#[]⟩ : ByteArray) (⟨#[58]⟩ : ByteArray) (⟨#[]⟩ : ByteArray) (⟨#[58, 64]⟩ : ByteArray) (⟨#[64]⟩ : ByteArray) (⟨#[58, 64, 47]⟩ : ByteArray) (⟨#[58, 64, 47, 63]⟩ : ByteArray) (⟨#[58, 64, 47, 63]⟩ : ByteArray))
mutual
def aD : Nat → Int → Bool → Option (Bool)
  | 0, _, _ => none
  | k + 1, x0, x25 => if x25 = true then (some true) else (cM k x0 1)
def cM : Nat → Int → Int → Option (Bool)
  | 0, _, _ => none
  | k + 1, x0, x3 => if x3 ≤ 13 then (if x0 ≥ (wrap64 (x3 * 65536)) then (if x0 ≤ (wrap64 ((wrap64 (x3 * 65536)) + 65533)) then (some true) else (cM k x0 (wrap64 (x3 + 1)))) else (cM k x0 (wrap64 (x3 + 1)))) else (if x0 ≥ 921600 then (some (decide (x0 ≤ 983037))) else (some false))
end
def fQ (k : Nat) (a0 : Int) : Option (Bool) := if a0 ≥ 160 then (if a0 ≤ 55295 then (aD k a0 true) else (if a0 ≥ 63744 then (if a0 ≤ 64975 then (aD k a0 true) else (if a0 ≥ 65008 then (aD k a0 (decide (a0 ≤ 65519))) else (aD k a0 false))) else (if a0 ≥ 65008 then (aD k a0 (decide (a0 ≤ 65519))) else (aD k a0 false)))) else (if a0 ≥ 63744 then (if a0 ≤ 64975 then (aD k a0 true) else (if a0 ≥ 65008 then (aD k a0 (decide (a0 ≤ 65519))) else (aD k a0 false))) else (if a0 ≥ 65008 then (aD k a0 (decide (a0 ≤ 65519))) else (aD k a0 false)))
def fC (a0 : Int) : Option (Bool) := if a0 ≥ 57344 then (if a0 ≤ 63743 then (some true) else (if a0 ≥ 983040 then (if a0 ≤ 1048573 then (some true) else (if a0 ≥ 1048576 then (some (decide (a0 ≤ 1114109))) else (some false))) else (if a0 ≥ 1048576 then (some (decide (a0 ≤ 1114109))) else (some false)))) else (if a0 ≥ 983040 then (if a0 ≤ 1048573 then (some true) else (if a0 ≥ 1048576 then (some (decide (a0 ≤ 1114109))) else (some false))) else (if a0 ≥ 1048576 then (some (decide (a0 ≤ 1114109))) else (some false)))
end Go.Proofs.YticohlbfolnmpaaDoor.X
namespace Go.Proofs.YticohlbfolnmpaaDoor.Y
open Go.RowKit Go.Proofs.YticohlbfolnmpaaDoor.X Go.Proofs.YticohlbfolnmpaaDoor.M Go.Proofs.YticohlbfolnmpaaDoorW.PrintWords Go.Proofs.YticohlbfolnmpaaDoorW.PrintLast Go.Proofs.YticohlbfolnmpaaDoorW.PrintMore
end Go.Proofs.YticohlbfolnmpaaDoor.Y
namespace Go.Proofs.YticohlbfolnmpaaDoor.X
open Go.RowKit Go.Proofs.YticohlbfolnmpaaDoorW.PrintWords Go.Proofs.YticohlbfolnmpaaDoorW.PrintLast Go.Proofs.YticohlbfolnmpaaDoorW.PrintMore
attribute [local go_sem] bA bn cl dg dO cA dh cu cw cY cZ ci cj cv cx
mutual
def cJ : Nat → ByteArray → Int → Int → Int → Int → Int → Int → Int → Int → Int → Int → Option (Int × Int × Int × Int × Int × Int × Int × Int × Bool)
  | 0, _, _, _, _, _, _, _, _, _, _, _ => none
  | k + 1, x0, x5, x6, Aa, Ab, Ac, Ad, Ae, Af, Ag, Ah => if (wrap64 (x6 + 1)) < (x0.size : Int) then (if x5 < 0 then (if 0 ≤ x6 then (if x6 ≤ (wrap64 (x6 + 2)) then (if (wrap64 (x6 + 2)) ≤ (x0.size : Int) then (if (x0.extract (x6 : Int).toNat ((wrap64 (x6 + 2)) : Int).toNat).toList = ([58, 58] : List UInt8) then (cJ k x0 x6 (wrap64 (x6 + 1)) Aa Ab Ac Ad Ae Af Ag Ah) else (cJ k x0 x5 (wrap64 (x6 + 1)) Aa Ab Ac Ad Ae Af Ag Ah)) else (none)) else (none)) else (none)) else (cJ k x0 x5 (wrap64 (x6 + 1)) Aa Ab Ac Ad Ae Af Ag Ah)) else (if x5 < 0 then ((dL k x0).bind fun Ak => (if Ak.2 = true then (eH k Ak.1 ((Ak.1.length : Int) != 8) Aa Ab Ac Ad Ae Af Ag Ah) else (eH k Ak.1 true Aa Ab Ac Ad Ae Af Ag Ah))) else (if 0 ≤ x5 then (if x5 ≤ (x0.size : Int) then ((dL k (x0.extract 0 (x5 : Int).toNat)).bind fun Ai => (if 0 ≤ (wrap64 (x5 + 2)) then (if (wrap64 (x5 + 2)) ≤ (x0.size : Int) then ((dL k (x0.extract ((wrap64 (x5 + 2)) : Int).toNat x0.size)).bind fun Aj => (if Ai.2 = true then (if Aj.2 = true then (dK k x0 x5 Ai.1 Aj.1 (decide ((wrap64 ((Ai.1.length : Int) + (Aj.1.length : Int))) > 7)) Aa Ab Ac Ad Ae Af Ag Ah) else (dK k x0 x5 Ai.1 Aj.1 true Aa Ab Ac Ad Ae Af Ag Ah)) else (dK k x0 x5 Ai.1 Aj.1 true Aa Ab Ac Ad Ae Af Ag Ah))) else (none)) else (none))) else (none)) else (none)))
def eH : Nat → List Int → Bool → Int → Int → Int → Int → Int → Int → Int → Int → Option (Int × Int × Int × Int × Int × Int × Int × Int × Bool)
  | 0, _, _, _, _, _, _, _, _, _, _ => none
  | k + 1, x7, Ai, Aa, Ab, Ac, Ad, Ae, Af, Ag, Ah => if Ai = true then (some (Aa, Ab, Ac, Ad, Ae, Af, Ag, Ah, false)) else (aV k x7 0 Aa Ab Ac Ad Ae Af Ag Ah)
def aV : Nat → List Int → Int → Int → Int → Int → Int → Int → Int → Int → Int → Option (Int × Int × Int × Int × Int × Int × Int × Int × Bool)
  | 0, _, _, _, _, _, _, _, _, _, _ => none
  | k + 1, x7, x9, Aa, Ab, Ac, Ad, Ae, Af, Ag, Ah => if x9 < 8 then (if 0 ≤ x9 then (if x9 < (x7.length : Int) then (if x9 = 0 then (aV k x7 (wrap64 (x9 + 1)) (rd x7 x9) Ab Ac Ad Ae Af Ag Ah) else (if x9 = 1 then (aV k x7 (wrap64 (x9 + 1)) Aa (rd x7 x9) Ac Ad Ae Af Ag Ah) else (if x9 = 2 then (aV k x7 (wrap64 (x9 + 1)) Aa Ab (rd x7 x9) Ad Ae Af Ag Ah) else (if x9 = 3 then (aV k x7 (wrap64 (x9 + 1)) Aa Ab Ac (rd x7 x9) Ae Af Ag Ah) else (if x9 = 4 then (aV k x7 (wrap64 (x9 + 1)) Aa Ab Ac Ad (rd x7 x9) Af Ag Ah) else (if x9 = 5 then (aV k x7 (wrap64 (x9 + 1)) Aa Ab Ac Ad Ae (rd x7 x9) Ag Ah) else (if x9 = 6 then (aV k x7 (wrap64 (x9 + 1)) Aa Ab Ac Ad Ae Af (rd x7 x9) Ah) else (if x9 = 7 then (aV k x7 (wrap64 (x9 + 1)) Aa Ab Ac Ad Ae Af Ag (rd x7 x9)) else (none))))))))) else (none)) else (none)) else (some (Aa, Ab, Ac, Ad, Ae, Af, Ag, Ah, true))
def dK : Nat → ByteArray → Int → List Int → List Int → Bool → Int → Int → Int → Int → Int → Int → Int → Int → Option (Int × Int × Int × Int × Int × Int × Int × Int × Bool)
  | 0, _, _, _, _, _, _, _, _, _, _, _, _, _ => none
  | k + 1, x0, x5, Aj, Ak, Al, Aa, Ab, Ac, Ad, Ae, Af, Ag, Ah => if Al = true then (some (Aa, Ab, Ac, Ad, Ae, Af, Ag, Ah, false)) else (if x5 > 0 then (if 0 ≤ x5 then (if x5 ≤ (x0.size : Int) then ((aw k 46 (x0.extract 0 (x5 : Int).toNat)).bind fun Ai => (eI k Aj Ak Ai Aa Ab Ac Ad Ae Af Ag Ah)) else (none)) else (none)) else (eI k Aj Ak false Aa Ab Ac Ad Ae Af Ag Ah))
def eI : Nat → List Int → List Int → Bool → Int → Int → Int → Int → Int → Int → Int → Int → Option (Int × Int × Int × Int × Int × Int × Int × Int × Bool)
  | 0, _, _, _, _, _, _, _, _, _, _, _ => none
  | k + 1, Ai, Aj, Ak, Aa, Ab, Ac, Ad, Ae, Af, Ag, Ah => if Ak = true then (some (Aa, Ab, Ac, Ad, Ae, Af, Ag, Ah, false)) else (aW k Ai Aj 0 Aa Ab Ac Ad Ae Af Ag Ah)
def aW : Nat → List Int → List Int → Int → Int → Int → Int → Int → Int → Int → Int → Int → Option (Int × Int × Int × Int × Int × Int × Int × Int × Bool)
  | 0, _, _, _, _, _, _, _, _, _, _, _ => none
  | k + 1, Aj, Ak, Ai, Aa, Ab, Ac, Ad, Ae, Af, Ag, Ah => if Ai < (Aj.length : Int) then (if 0 ≤ Ai then (if Ai = 0 then (aW k Aj Ak (wrap64 (Ai + 1)) (rd Aj Ai) Ab Ac Ad Ae Af Ag Ah) else (if Ai = 1 then (aW k Aj Ak (wrap64 (Ai + 1)) Aa (rd Aj Ai) Ac Ad Ae Af Ag Ah) else (if Ai = 2 then (aW k Aj Ak (wrap64 (Ai + 1)) Aa Ab (rd Aj Ai) Ad Ae Af Ag Ah) else (if Ai = 3 then (aW k Aj Ak (wrap64 (Ai + 1)) Aa Ab Ac (rd Aj Ai) Ae Af Ag Ah) else (if Ai = 4 then (aW k Aj Ak (wrap64 (Ai + 1)) Aa Ab Ac Ad (rd Aj Ai) Af Ag Ah) else (if Ai = 5 then (aW k Aj Ak (wrap64 (Ai + 1)) Aa Ab Ac Ad Ae (rd Aj Ai) Ag Ah) else (if Ai = 6 then (aW k Aj Ak (wrap64 (Ai + 1)) Aa Ab Ac Ad Ae Af (rd Aj Ai) Ah) else (if Ai = 7 then (aW k Aj Ak (wrap64 (Ai + 1)) Aa Ab Ac Ad Ae Af Ag (rd Aj Ai)) else (none))))))))) else (none)) else (aX k Ak 0 Aa Ab Ac Ad Ae Af Ag Ah)
def aX : Nat → List Int → Int → Int → Int → Int → Int → Int → Int → Int → Int → Option (Int × Int × Int × Int × Int × Int × Int × Int × Bool)
  | 0, _, _, _, _, _, _, _, _, _, _ => none
  | k + 1, Aj, Ai, Aa, Ab, Ac, Ad, Ae, Af, Ag, Ah => if Ai < (Aj.length : Int) then (if 0 ≤ Ai then (if 0 ≤ (wrap64 ((wrap64 (8 - (Aj.length : Int))) + Ai)) then (if (wrap64 ((wrap64 (8 - (Aj.length : Int))) + Ai)) = 0 then (aX k Aj (wrap64 (Ai + 1)) (rd Aj Ai) Ab Ac Ad Ae Af Ag Ah) else (if (wrap64 ((wrap64 (8 - (Aj.length : Int))) + Ai)) = 1 then (aX k Aj (wrap64 (Ai + 1)) Aa (rd Aj Ai) Ac Ad Ae Af Ag Ah) else (if (wrap64 ((wrap64 (8 - (Aj.length : Int))) + Ai)) = 2 then (aX k Aj (wrap64 (Ai + 1)) Aa Ab (rd Aj Ai) Ad Ae Af Ag Ah) else (if (wrap64 ((wrap64 (8 - (Aj.length : Int))) + Ai)) = 3 then (aX k Aj (wrap64 (Ai + 1)) Aa Ab Ac (rd Aj Ai) Ae Af Ag Ah) else (if (wrap64 ((wrap64 (8 - (Aj.length : Int))) + Ai)) = 4 then (aX k Aj (wrap64 (Ai + 1)) Aa Ab Ac Ad (rd Aj Ai) Af Ag Ah) else (if (wrap64 ((wrap64 (8 - (Aj.length : Int))) + Ai)) = 5 then (aX k Aj (wrap64 (Ai + 1)) Aa Ab Ac Ad Ae (rd Aj Ai) Ag Ah) else (if (wrap64 ((wrap64 (8 - (Aj.length : Int))) + Ai)) = 6 then (aX k Aj (wrap64 (Ai + 1)) Aa Ab Ac Ad Ae Af (rd Aj Ai) Ah) else (if (wrap64 ((wrap64 (8 - (Aj.length : Int))) + Ai)) = 7 then (aX k Aj (wrap64 (Ai + 1)) Aa Ab Ac Ad Ae Af Ag (rd Aj Ai)) else (none))))))))) else (none)) else (none)) else (some (Aa, Ab, Ac, Ad, Ae, Af, Ag, Ah, true))
end
def gG (k : Nat) (a0 : ByteArray) : Option (Int × Int × Int × Int × Int × Int × Int × Int × Bool) := cJ k a0 (-1) 0 0 0 0 0 0 0 0 0
mutual
def er : Nat → Int → Bool → Int → Bool → Option (Bool)
  | 0, _, _, _, _ => none
  | k + 1, x0, x1, x2, x12 => if x12 = true then ((f4 k x0 ((x2) % 256)).bind fun t339 => (some t339)) else (if x1 = true then (if x0 < 1 then (dA k x0 x2 true) else (dA k x0 x2 (decide (x0 > 7)))) else (dA k x0 x2 true))
def dA : Nat → Int → Int → Bool → Option (Bool)
  | 0, _, _, _ => none
  | k + 1, x0, x2, x26 => if x26 = true then (some false) else ((fQ k x2).bind fun t340 => (if t340 = true then (some true) else (if x0 = 6 then ((fC x2).bind fun t341 => (some t341)) else (some false))))
end
def gx (k : Nat) (a0 : Int) (a1 : Bool) (a2 : Int) : Option (Bool) := if a2 ≥ 0 then (er k a0 a1 a2 (decide (a2 < 128))) else (er k a0 a1 a2 false)
def ek : Nat → Int → Bool → ByteArray → Int → Bool → Option (Int)
  | 0, _, _, _, _, _ => none
  | k + 1, x0, x1, x2, x3, Ad => if Ad = true then (some 0) else ((gF k x2 x3).bind fun Ab => (if Ab ≥ 0 then (some 3) else (if 0 ≤ x3 then (if x3 ≤ (x2.size : Int) then ((fP k (x2.extract (x3 : Int).toNat x2.size)).bind fun Aa => (if Aa.2.2 = true then ((gx k x0 x1 Aa.1).bind fun Ac => (if Ac = true then (some Aa.2.1) else (some 0))) else (some 0))) else (none)) else (none))))
def es (k : Nat) (a0 : Int) (a1 : Bool) (a2 : ByteArray) (a3 : Int) : Option (Int) := if a0 < 1 then (ek k a0 a1 a2 a3 true) else (ek k a0 a1 a2 a3 (decide (a0 > 7)))
def ej : Nat → Int → Bool → ByteArray → Int → Option (Int)
  | 0, _, _, _, _ => none
  | k + 1, x0, x1, x2, x7 => if x7 < (x2.size : Int) then ((es k x0 x1 x2 x7).bind fun t348 => (if t348 > 0 then ((es k x0 x1 x2 x7).bind fun t349 => (ej k x0 x1 x2 (wrap64 (x7 + t349)))) else (some x7))) else (some x7)
def gi (k : Nat) (a0 : Int) (a1 : Bool) (a2 : ByteArray) : Option (Int) := ej k a0 a1 a2 0
def dt : Nat → Bool → ByteArray → Int → Bool → Option (Int)
  | 0, _, _, _, _ => none
  | k + 1, x0, x1, x5, Ae => if Ae = true then (if 1 ≤ (wrap64 (x5 - 1)) then (if (wrap64 (x5 - 1)) ≤ (x1.size : Int) then ((gG k (x1.extract 1 ((wrap64 (x5 - 1)) : Int).toNat)).bind fun Aa => (if Aa.2.2.2.2.2.2.2.2 = true then (some 3) else ((fR k (x1.extract 1 ((wrap64 (x5 - 1)) : Int).toNat)).bind fun Ac => (if Ac = true then (some 3) else (some 0))))) else (none)) else (none)) else ((eT k x1).bind fun Ab => (if Ab.2.2.2.2 = true then (some 1) else ((gi k 2 x0 x1).bind fun Ad => (if Ad = x5 then (some 2) else (some 0)))))
def et (k : Nat) (a0 : Bool) (a1 : ByteArray) : Option (Int) := if (a1.size : Int) ≥ 2 then (if 0 < (a1.size : Int) then (if (bt a1 0) = 91 then (if 0 ≤ (wrap64 ((a1.size : Int) - 1)) then (if (wrap64 ((a1.size : Int) - 1)) < (a1.size : Int) then (dt k a0 a1 (a1.size : Int) ((bt a1 (wrap64 ((a1.size : Int) - 1))) == 93)) else (none)) else (none)) else (dt k a0 a1 (a1.size : Int) false)) else (none)) else (dt k a0 a1 (a1.size : Int) false)
def fB (k : Nat) (a0 : ByteArray) : Option (Bool) := if (a0.size : Int) > 80 then ((az k).bind fun Aa => (some Aa)) else ((di k false a0).bind fun Ab => ((et k false a0).bind fun Ac => (if Ab = Ac then ((di k true a0).bind fun Ad => ((et k true a0).bind fun Ae => (if Ad = Ae then ((az k).bind fun Af => (some Af)) else (none)))) else (none))))
def ir : Prop := ∀ (a0 : ByteArray), a0.size ≤ 140737488351232 → ∃ k, fB k a0 = some true
end Go.Proofs.YticohlbfolnmpaaDoor.X
namespace Go.Proofs.YticohlbfolnmpaaDoor.Y
open Go.RowKit Go.Proofs.YticohlbfolnmpaaDoor.X Go.Proofs.YticohlbfolnmpaaDoor.M Go.Proofs.YticohlbfolnmpaaDoorW.PrintWords Go.Proofs.YticohlbfolnmpaaDoorW.PrintLast Go.Proofs.YticohlbfolnmpaaDoorW.PrintMore
theorem i2 (s : ByteArray) (i : Nat) : ab (s.extract i s.size) = (ab s).drop i := by
  rw [cD, ← aE, List.take_length]
def p10 : Nat → Int
  | 0 => 1
  | 1 => 10
  | 2 => 100
  | _ => 1000
theorem kM {i : Nat} (hi : i < 3) {n b : Int} (h0 : 0 ≤ n) (h1 : n < p10 i) (b0 : 48 ≤ b) (b1 : b ≤ 57) : 0 ≤ 10 * n + (b - 48) ∧ 10 * n + (b - 48) < p10 (i + 1) ∧ n ≤ 1000 := by
  rcases i with _ | _ | _ | i
  · simp only [p10] at *; omega
  · simp only [p10] at *; omega
  · simp only [p10] at *; omega
  · omega
theorem i3 (s : ByteArray) (h3 : s.size ≤ 3) : ∀ d i : Nat, ∀ n : Int, i + d = s.size → 0 ≤ n → n < p10 i → Ev (fun k => a8 k s n (s.size : Int) (i : Int))
    (if ((ab s).drop i).all dl then (((ab s).drop i).foldl (fun n b => 10 * n + (b - 48)) n % 256, decide (((ab s).drop i).foldl (fun n b => 10 * n + (b - 48)) n ≤ 255)) else (0, false)) := by
  intro d
  induction d with
  | zero =>
    intro i n hi _ _
    rw [List.drop_of_length_le (by rw [aE]; omega)]
    refine Ev.step (fun k => by rw [a8]) ?_
    exact av (by omega) (dD _)
  | succ d ih =>
    intro i n hi h0 h1
    rcases gm s i (by omega) with ⟨h, _⟩ | ⟨h, e, b0, b1⟩
    · omega
    refine Ev.step (fun k => by rw [a8]) ?_
    refine am (by omega) (am (by omega) (am (by omega) (br (l4 2 b0 b1) ?_)))
    rw [e, ks b0 b1, List.all_cons, List.foldl_cons]
    cases hd : dl (bt s (i : Int))
    · refine av (by simp) (Ev.val (by simp))
    · refine am rfl ?_
      have hb := eF.1 hd
      have hst := kM (i := i) (by omega) h0 h1 hb.1 hb.2
      have e1 : wrap64 (wrap64 (10 * n) + (bt s (i : Int) - 48) % 256) = 10 * n + (bt s (i : Int) - 48) := by
        rw [w64 (x := 10 * n) (by omega) (by omega), w64 (by omega) (by omega)]; omega
      rw [e1, w64 (by omega) (by omega)]
      simp only [Bool.true_and]
      exact ih (i + 1) _ (by omega) hst.1 hst.2.1
theorem kh (s : ByteArray) (hs : s.size ≤ 140737488351232) : ∃ n : Int, Ev (fun k => bW k s) (n, decide (0 ≤ d8 (ab s))) ∧ (0 ≤ d8 (ab s) → n = d8 (ab s)) := by
  have bad : (ab s).length = 0 ∨ 3 < (ab s).length ∨ (1 < (ab s).length ∧ (ab s).headD 0 = 48) → Ev (fun k => aG k s true) (0, decide (0 ≤ d8 (ab s))) ∧ ¬ 0 ≤ d8 (ab s) := by
    intro h
    have hd : d8 (ab s) = -1 := by unfold d8; rw [if_pos h]
    rw [hd]
    refine ⟨?_, by omega⟩
    refine Ev.step (fun k => by rw [aG]) ?_
    exact am rfl (dD _)
  have hh : 0 < s.size → (ab s).headD 0 = bt s 0 := by
    intro h
    rcases kB s with ⟨h2, _⟩ | ⟨_, e, _⟩
    · omega
    · rw [e]; rfl
  by_cases hb : (ab s).length = 0 ∨ 3 < (ab s).length ∨ (1 < (ab s).length ∧ (ab s).headD 0 = 48)
  · obtain ⟨h1, h2⟩ := bad hb
    refine ⟨0, ?_, fun h => absurd h h2⟩
    unfold bW
    rw [aE] at hb
    refine Ev.ite (fun _ => h1) (fun _ => Ev.ite (fun _ => h1) (fun _ => Ev.ite (fun _ => am (by omega) ?_) (fun _ => by omega)))
    have : (bt s 0 == 48) = true := by
      rw [beq_iff_eq, ← hh (by omega)]
      omega
    rw [this]
    exact h1
  · have hb2 := hb
    rw [aE] at hb
    have good : Ev (fun k => aG k s false) (if (ab s).all dl then (ef (ab s) % 256, decide (ef (ab s) ≤ 255)) else (0, false)) := by
      refine Ev.step (fun k => by rw [aG]) ?_
      refine av (by simp) ?_
      exact i3 s (by omega) s.size 0 0 (by omega) (by omega) (by decide)
    have all : Ev (fun k => bW k s) (if (ab s).all dl then (ef (ab s) % 256, decide (ef (ab s) ≤ 255)) else (0, false)) := by
      unfold bW
      refine av (by omega) (av (by omega) (Ev.ite (fun _ => am (by omega) ?_) (fun _ => good)))
      have : (bt s 0 == 48) = false := by
        rw [beq_eq_false_iff_ne, ← hh (by omega)]
        intro h
        omega
      rw [this]
      exact good
    have hr := e7 (ab s)
    unfold d8 at hr ⊢
    rw [if_neg hb2] at hr ⊢
    cases ha : (ab s).all dl
    · rw [ha] at all
      exact ⟨0, all, by simp⟩
    · rw [ha] at all
      by_cases h255 : ef (ab s) ≤ 255
      · rw [if_pos h255] at hr ⊢
        simp only [if_true] at hr all ⊢
        have h0 := gI ha
        rw [decide_eq_true h255] at all
        refine ⟨ef (ab s) % 256, ?_, fun _ => by omega⟩
        rw [decide_eq_true h0]
        exact all
      · rw [decide_eq_false h255] at all
        rw [if_neg h255]
        exact ⟨_, all, by simp⟩
def v4T (l : List Int) : Int × Int × Int × Int × Bool := match v4 l with
  | some (a, b, c, d) => (a, b, c, d, true)
  | none => (0, 0, 0, 0, false)
theorem lI (l : List Int) : (v4T l).2.2.2.2 = (v4 l).isSome := by
  unfold v4T
  cases v4 l with
  | none => rfl
  | some x => obtain ⟨a, b, c, d⟩ := x; rfl
theorem ls (l a b c d : List Int) (h : aN 46 l = [a, b, c, d]) : v4 l = if 0 ≤ d8 a ∧ 0 ≤ d8 b ∧ 0 ≤ d8 c ∧ 0 ≤ d8 d then some (d8 a, d8 b, d8 c, d8 d) else none := by
  unfold v4; rw [h]
theorem kY (l : List Int) (h : (aN 46 l).length ≠ 4) : v4 l = none := by
  unfold v4
  split
  · rename_i e; rw [e] at h; simp at h
  · rfl
theorem gE (R : List ByteArray) (i : Nat) (hi : i < R.length) (p : ByteArray) (hp : bH ByteArray.empty R (i : Int) = p) (hsz : p.size ≤ 140737488351232) (h4 : i < 4) (a b c d : Int) (r : Int × Int × Int × Int × Bool)
    (bad : ¬ 0 ≤ d8 (ab p) → r = (0, 0, 0, 0, false))
    (good : 0 ≤ d8 (ab p) → Ev (fun k => bv k R (R.length : Int) ((i : Int) + 1) (if i = 0 then d8 (ab p) else a) (if i = 1 then d8 (ab p) else b) (if i = 2 then d8 (ab p) else c) (if i = 3 then d8 (ab p) else d)) r) :
    Ev (fun k => bv k R (R.length : Int) (i : Int) a b c d) r := by
  obtain ⟨n, h1, h2⟩ := kh p hsz
  refine Ev.step (fun k => by rw [bv]) ?_
  rw [hp]
  refine am (by omega) (am (by omega) (am (by omega) (br h1 ?_)))
  simp only
  by_cases hd : 0 ≤ d8 (ab p)
  · rw [decide_eq_true hd]
    rw [h2 hd, w64 (by omega) (by omega)]
    have g := good hd
    refine am rfl ?_
    have : i = 0 ∨ i = 1 ∨ i = 2 ∨ i = 3 := by omega
    rcases this with rfl | rfl | rfl | rfl
    · exact am (by omega) g
    · exact av (by omega) (am (by omega) g)
    · exact av (by omega) (av (by omega) (am (by omega) g))
    · exact av (by omega) (av (by omega) (av (by omega) (am (by omega) g)))
  · rw [decide_eq_false hd]
    exact av (by simp) (Ev.val (bad hd).symm)
theorem iS {α : Type} {R : List α} (h : R.length = 4) : ∃ a b c d, R = [a, b, c, d] := by
  match R, h with
  | [a, b, c, d], _ => exact ⟨a, b, c, d, rfl⟩
theorem ig {R : List ByteArray} {c : Int} {l : List Int} (h : R.map ab = aN c l) {p : ByteArray} (hp : p ∈ R) : p.size ≤ l.length := by
  rw [← aE]
  exact (g8 (c := c) (l := l) _ (by rw [← h]; exact List.mem_map.2 ⟨p, hp, rfl⟩)).2.2
theorem l8 (s : ByteArray) (hs : s.size ≤ 1000000) : Ev (fun k => d2 k s) (v4T (ab s)) := by
  obtain ⟨R, hR, hL⟩ := iU s (⟨#[46]⟩ : ByteArray) 46 rfl (by omega)
  unfold d2
  refine cT hR ?_
  have hlen : R.length = (aN 46 (ab s)).length := by rw [← hL, List.length_map]
  by_cases h4 : R.length = 4
  · refine am (by omega) ?_
    obtain ⟨a, b, c, d, rfl⟩ := iS h4
    have hsz : ∀ p ∈ [a, b, c, d], p.size ≤ 140737488351232 := fun p hp => by have := ig hL hp; rw [aE] at this; omega
    have hv := ls (ab s) _ _ _ _ (by rw [← hL]; rfl)
    have badv : ¬ (0 ≤ d8 (ab a) ∧ 0 ≤ d8 (ab b) ∧ 0 ≤ d8 (ab c) ∧ 0 ≤ d8 (ab d)) → v4T (ab s) = (0, 0, 0, 0, false) := by
      intro h
      unfold v4T
      rw [hv, if_neg h]
    refine gE [a, b, c, d] 0 (by simp) a rfl (hsz a (by simp)) (by omega) 0 0 0 0 _ (fun h => badv (fun x => h x.1)) (fun ha => ?_)
    refine gE [a, b, c, d] 1 (by simp) b rfl (hsz b (by simp)) (by omega) _ _ _ _ _ (fun h => badv (fun x => h x.2.1)) (fun hb => ?_)
    refine gE [a, b, c, d] 2 (by simp) c rfl (hsz c (by simp)) (by omega) _ _ _ _ _ (fun h => badv (fun x => h x.2.2.1)) (fun hc => ?_)
    refine gE [a, b, c, d] 3 (by simp) d rfl (hsz d (by simp)) (by omega) _ _ _ _ _ (fun h => badv (fun x => h x.2.2.2)) (fun hd => ?_)
    refine Ev.step (fun k => by rw [bv]) ?_
    refine av (by simp) (Ev.val ?_)
    rw [if_pos ⟨ha, hb, hc, hd⟩] at hv
    unfold v4T
    rw [hv]
    simp
  · refine av (by omega) (Ev.val ?_)
    unfold v4T
    rw [kY _ (by omega)]
theorem eM (n : Int) (h0 : 0 ≤ n) (h1 : n < 2 ^ 16) : IntKind.u16.wrap n = n := by
  simp [IntKind.wrap, IntKind.bits, IntKind.signed]
  omega
theorem kA (n : Int) (h0 : 0 ≤ n) (h1 : n < 2 ^ 62) : IntKind.i64.wrap n = n := by
  rw [IntKind.wrap_i64]; omega
theorem iG {a b : Int} (a0 : 0 ≤ a) (a1 : a ≤ 255) (b0 : 0 ≤ b) (b1 : b ≤ 255) : Go.bits .or .u16 (IntKind.u16.wrap (IntKind.u16.wrap a * 256)) (IntKind.u16.wrap b) = 256 * a + b := by
  rw [eM a a0 (by omega), eM (a * 256) (by omega) (by omega), eM b b0 (by omega)]
  rw [bits_join .u16 16 (by decide) eM 8 (a * 256) b (by omega) (by omega) (by omega) (by omega) (by omega) (by omega)]
  omega
theorem lh {a b : Int} (a0 : 0 ≤ a) (a1 : a ≤ 1000000) (b0 : 0 ≤ b) (b1 : b ≤ 15) : Go.bits .or .i64 (wrap64 (a * 16)) b = 16 * a + b := by
  rw [w64 (by omega) (by omega), bits_join .i64 62 (by decide) kA 4 (a * 16) b (by omega) (by omega) (by omega) (by omega) (by omega) (by omega)]
  omega
def p16 : Nat → Int
  | 0 => 1
  | 1 => 16
  | 2 => 256
  | 3 => 4096
  | _ => 65536
theorem kN {i : Nat} (hi : i < 4) {n b : Int} (h0 : 0 ≤ n) (h1 : n < p16 i) (b0 : 0 ≤ b) (b1 : b ≤ 15) : 0 ≤ 16 * n + b ∧ 16 * n + b < p16 (i + 1) ∧ n ≤ 65536 := by
  rcases i with _ | _ | _ | _ | i
  · simp only [p16] at *; omega
  · simp only [p16] at *; omega
  · simp only [p16] at *; omega
  · simp only [p16] at *; omega
  · omega
theorem lu (s : ByteArray) (h4 : s.size ≤ 4) : ∀ d i : Nat, ∀ n : Int, i + d = s.size → 0 ≤ n → n < p16 i → Ev (fun k => bP k s n (s.size : Int) (i : Int))
    (if ((ab s).drop i).all dF then (dn n ((ab s).drop i), true) else (0, false)) := by
  intro d
  induction d with
  | zero =>
    intro i n hi h0 h1
    rw [List.drop_of_length_le (by rw [aE]; omega)]
    refine Ev.step (fun k => by rw [bP]) ?_
    refine av (by omega) (Ev.val ?_)
    have : n < 65536 := by
      have h := h1
      have : i ≤ 4 := by omega
      rcases i with _ | _ | _ | _ | _ | i
      all_goals (first | omega | (simp only [p16] at h; omega))
    rw [eM n h0 (by omega)]
    rfl
  | succ d ih =>
    intro i n hi h0 h1
    rcases gm s i (by omega) with ⟨h, _⟩ | ⟨h, e, b0, b1⟩
    · omega
    refine Ev.step (fun k => by rw [bP]) ?_
    refine am (by omega) (am (by omega) (am (by omega) (br (lt b0 b1) ?_)))
    rw [e, List.all_cons]
    have hr := it (bt s (i : Int))
    by_cases hv0 : hv (bt s (i : Int)) < 0
    · simp only [if_pos hv0]
      rw [(lC _).1 hv0]
      exact av (by simp) (Ev.val (by simp))
    · simp only [if_neg hv0]
      rw [(hI _).1 (by omega)]
      refine am (by simp) ?_
      have hst := kN (i := i) (by omega) h0 h1 (b := hv (bt s (i : Int))) (by omega) (by omega)
      rw [lh h0 (by omega) (by omega) (by omega), w64 (by omega) (by omega)]
      simp only [Bool.true_and, dn]
      exact ih (i + 1) _ (by omega) hst.1 hst.2.1
theorem lL (s : ByteArray) (hs : s.size ≤ 140737488351232) : Ev (fun k => dH k s) (if ca (ab s) < 0 then (0, false) else (ca (ab s), true)) := by
  have hb := fZ (ab s) 0 1
  have bad : (ab s).length = 0 ∨ 4 < (ab s).length → Ev (fun k => bs k s true) (if ca (ab s) < 0 then (0, false) else (ca (ab s), true)) := by
    intro h
    have : ca (ab s) = -1 := by unfold ca; rw [if_pos h]
    rw [this]
    refine Ev.step (fun k => by rw [bs]) ?_
    exact am rfl (dD _)
  unfold dH
  have hl := aE s
  refine Ev.ite (fun h => bad (by omega)) (fun h => ?_)
  by_cases h4 : (s.size : Int) > 4
  · rw [decide_eq_true h4]
    exact bad (by omega)
  · rw [decide_eq_false h4]
    refine Ev.step (fun k => by rw [bs]) ?_
    refine av (by simp) ?_
    have := lu s (by omega) s.size 0 0 (by omega) (by omega) (by decide)
    rw [List.drop_zero] at this
    have e : (if ca (ab s) < 0 then ((0 : Int), false) else (ca (ab s), true)) = (if (ab s).all dF then (dn 0 (ab s), true) else (0, false)) := by
      have hw : ca (ab s) = if (ab s).all dF then dn 0 (ab s) else -1 := by
        unfold ca
        rw [if_neg (by omega)]
      rw [hw]
      by_cases ha : (ab s).all dF = true
      · have := hb ha (by omega) (by omega)
        simp only [if_pos ha]
        rw [if_neg (by omega)]
      · simp only [if_neg ha]
        rw [if_pos (by omega)]
    rw [e]
    exact this
def df (out : List Int) : Option (List Int) → List Int × Bool
  | some w => (out ++ w, true)
  | none => ([], false)
theorem kk {α : Type} {L : List α} {i : Nat} (h : i < L.length) (z : α) : L.drop i = L.getD i z :: L.drop (i + 1) := by
  rw [List.drop_eq_getElem_cons h, List.getD_eq_getElem?_getD, List.getElem?_eq_getElem h]; rfl
theorem ia {α : Type} {L : List α} {i : Nat} (h : i < L.length) : L.drop (i + 1) = [] ↔ i + 1 = L.length := by
  rw [List.drop_eq_nil_iff]; omega
theorem k5 (fin : Bool) (R : List ByteArray) (L : List (List Int)) (hL : R.map ab = L) (hp : ∀ p ∈ R, p.size ≤ 1000000) (hR : R.length ≤ 1000001) : ∀ d i : Nat, i + d = R.length → ∀ out : List Int, out.length ≤ i →
    Ev (fun k => bg k fin out R R (R.length : Int) (i : Int)) (df out (cB fin (L.drop i))) := by
  have hlen : L.length = R.length := by rw [← hL, List.length_map]
  intro d
  induction d with
  | zero =>
    intro i hi out ho
    rw [List.drop_of_length_le (by omega)]
    refine Ev.step (fun k => by rw [bg]) ?_
    exact av (by omega) (Ev.val (by simp [cB, df]))
  | succ d ih =>
    intro i hi out ho
    have hmem : bH ByteArray.empty R (i : Int) ∈ R := by
      unfold bH
      rw [Int.toNat_natCast, List.getD_eq_getElem?_getD, List.getElem?_eq_getElem (by omega)]
      exact List.getElem_mem _
    have hq := kQ hL i
    refine Ev.step (fun k => by rw [bg]) ?_
    refine am (by omega) (am (by omega) (am (by omega) (br (l8 _ (hp _ hmem)) ?_)))
    rw [hq, kk (L := L) (i := i) (by omega) [], dQ, lI]
    have last : ∀ x : ByteArray, ab x = L.getD i [] → x.size ≤ 1000000 → ∀ a b c e : Int, ¬ (L.drop (i + 1) = [] ∧ fin = true ∧ (v4 (L.getD i [])).isSome = true) →
        Ev (fun k => bo k fin out R x R (R.length : Int) (i : Int) false a b c e) (df out (if L.drop (i + 1) = [] ∧ fin = true ∧ (v4 (L.getD i [])).isSome = true then (v4 (L.getD i [])).map fun x => [256 * x.1 + x.2.1, 256 * x.2.2.1 + x.2.2.2] else if ca (L.getD i []) < 0 then none else (cB fin (L.drop (i + 1))).map fun l => ca (L.getD i []) :: l)) := by
      intro x hx hxs a b c e hno
      rw [if_neg hno]
      refine Ev.step (fun k => by rw [bo]) ?_
      refine av (by simp) (br (lL x (by omega)) ?_)
      rw [hx]
      by_cases hw : ca (L.getD i []) < 0
      · simp only [if_pos hw]
        exact av (by simp) (dD _)
      · simp only [if_neg hw]
        refine am (by simp) (am (by omega) ?_)
        rw [w64 (by omega) (by omega)]
        have := ih (i + 1) (by omega) (out ++ [ca (L.getD i [])]) (by rw [List.length_append, List.length_singleton]; omega)
        have e2 : df (out ++ [ca (L.getD i [])]) (cB fin (L.drop (i + 1))) = df out ((cB fin (L.drop (i + 1))).map fun l => ca (L.getD i []) :: l) := by
          cases cB fin (L.drop (i + 1)) with
          | none => rfl
          | some w => simp [df]
        rw [← e2]
        exact this
    refine Ev.ite (fun h4 => ?_) (fun h4 => last _ hq (hp _ hmem) _ _ _ _ (fun x => h4 x.2.2))
    refine Ev.ite (fun hf => ?_) (fun hf => last _ hq (hp _ hmem) _ _ _ _ (fun x => hf x.2.1))
    rw [w64 (by omega) (by omega)]
    by_cases hend : i + 1 = R.length
    · have : ((i : Int) == (R.length : Int) - 1) = true := by rw [beq_iff_eq]; omega
      rw [this, if_pos ⟨(ia (by omega)).2 (by omega), hf, h4⟩]
      refine Ev.step (fun k => by rw [bo]) ?_
      refine am rfl ?_
      obtain ⟨⟨a, b, c, e⟩, hx⟩ := Option.isSome_iff_exists.1 h4
      have hr := iH hx
      rw [hx]
      unfold v4T
      rw [hx]
      simp only
      rw [iG hr.1.1 hr.1.2 hr.2.1.1 hr.2.1.2, iG hr.2.2.1.1 hr.2.2.1.2 hr.2.2.2.1 hr.2.2.2.2]
      refine cT rfl (am (by simp only [List.length_cons, List.length_nil]; omega) (Ev.val ?_))
      rfl
    · have : ((i : Int) == (R.length : Int) - 1) = false := by rw [beq_eq_false_iff_ne]; omega
      rw [this]
      exact last _ hq (hp _ hmem) _ _ _ _ (fun x => hend (by have := (ia (L := L) (i := i) (by omega)).1 x.1; omega))
theorem ib (s : ByteArray) : s.toList = ([] : List UInt8) ↔ ab s = [] := by
  rw [iM]
  unfold ab
  exact List.map_eq_nil_iff.symm
theorem hO (s : ByteArray) (fin : Bool) (hs : s.size ≤ 1000000) : Ev (fun k => aU k s fin) (df [] (eo fin (ab s))) := by
  unfold aU eo
  refine Ev.ite (fun h => ?_) (fun h => ?_)
  · rw [if_pos ((ib s).1 h)]
    exact Ev.val rfl
  · rw [if_neg (fun x => h ((ib s).2 x))]
    obtain ⟨R, hR, hL⟩ := iU s (⟨#[58]⟩ : ByteArray) 58 rfl (by omega)
    refine cT hR ?_
    have hlen := f9 58 (ab s)
    rw [← hL, List.length_map, aE] at hlen
    have := k5 fin R _ hL (fun p hp => by have := ig hL hp; rw [aE] at this; omega) (by omega) R.length 0 (by omega) [] (by simp)
    rw [List.drop_zero] at this
    exact this
end Go.Proofs.YticohlbfolnmpaaDoor.Y
namespace Go.Proofs.YticohlbfolnmpaaDoor.Y
open Go.RowKit Go.Proofs.YticohlbfolnmpaaDoor.X Go.Proofs.YticohlbfolnmpaaDoor.M Go.Proofs.YticohlbfolnmpaaDoorW.PrintWords Go.Proofs.YticohlbfolnmpaaDoorW.PrintLast Go.Proofs.YticohlbfolnmpaaDoorW.PrintMore
def kX (l : List Int) (b : Bool) : Int × Int × Int × Int × Int × Int × Int × Int × Bool := (l.getD 0 0, l.getD 1 0, l.getD 2 0, l.getD 3 0, l.getD 4 0, l.getD 5 0, l.getD 6 0, l.getD 7 0, b)
def lM : List Int := [0, 0, 0, 0, 0, 0, 0, 0]
def v6T (l : List Int) : Int × Int × Int × Int × Int × Int × Int × Int × Bool := match v6 l with
  | some w => kX w true
  | none => kX lM false
theorem lK (l : List Int) : (v6T l).2.2.2.2.2.2.2.2 = (v6 l).isSome := by
  unfold v6T
  cases v6 l <;> rfl
theorem ln (p : List Int) (h : p.length = 8) : an af 0 p 8 = p := by
  unfold an af
  rw [← h, List.take_length, h]
  simp
theorem kO (a b : List Int) (h : a.length + b.length ≤ 7) : an (an af 0 a 8) (8 - b.length) b b.length = a ++ List.replicate (8 - a.length - b.length) 0 ++ b := by
  have hz : af = List.replicate 8 0 := rfl
  unfold an
  rw [hz]
  have e1 : a.take 8 = a := List.take_of_length_le (by omega)
  rw [e1, List.take_length]
  simp only [List.take_zero, List.nil_append, Nat.zero_add]
  rw [List.drop_replicate, List.take_append]
  have e2 : a.take (8 - b.length) = a := List.take_of_length_le (by omega)
  rw [e2, List.take_replicate]
  have e3 : (a ++ List.replicate (8 - a.length) 0).drop (8 - b.length + b.length) = ([] : List Int) := by
    apply List.drop_of_length_le
    rw [List.length_append, List.length_replicate]; omega
  rw [e3, List.append_nil, show min (8 - b.length - a.length) (8 - a.length) = 8 - a.length - b.length by omega]
theorem l9 (s : ByteArray) (hs : s.size ≤ 1000000) : Ev (fun k => cE k s) (v6T (ab s)) := by
  unfold cE
  have hc := kU s (⟨#[58, 58]⟩ : ByteArray) (by omega) (by decide)
  have hb : ab (⟨#[58, 58]⟩ : ByteArray) = [58, 58] := rfl
  have hz : (⟨#[58, 58]⟩ : ByteArray).size = 2 := rfl
  rw [hb, hz] at hc
  refine cT hc ?_
  by_cases hneg : bI [58, 58] (ab s) < 0
  · simp only [if_pos hneg]
    refine br (hO s _ hs) ?_
    simp only [Bool.not_false]
    unfold v6T v6
    rw [if_pos hneg]
    cases hr : eo true (ab s) with
    | none => exact am rfl (Ev.val rfl)
    | some w =>
      refine av (by simp [df]) (am (by simp) ?_)
      simp only [df, List.nil_append, Option.bind_some]
      refine Ev.ite (fun h => ?_) (fun h => ?_)
      · rw [if_pos h, ln w h]
        exact Ev.val rfl
      · rw [if_neg h]
        exact Ev.val rfl
  · simp only [if_neg hneg]
    have hsp := f8 (sub := [58, 58]) (l := ab s) (by omega)
    simp only [List.length_cons, List.length_nil, aE] at hsp
    unfold v6T v6
    rw [if_neg hneg]
    generalize (bI [58, 58] (ab s)).toNat = j at hsp ⊢
    have h1 := hO (s.extract 0 j) (!true) (by rw [← aE, cD, List.length_drop, List.length_take, aE]; omega)
    have h2 := hO (s.extract (j + 2) s.size) true (by rw [← aE, cD, List.length_drop, List.length_take, aE]; omega)
    rw [cD, List.drop_zero] at h1
    rw [i2] at h2
    simp only [Bool.not_true] at h1 ⊢
    refine br h1 ?_
    cases ha : eo false ((ab s).take j) with
    | none => exact am rfl (Ev.val rfl)
    | some a =>
      refine av (by simp [df]) (av (by simp) (br h2 ?_))
      simp only [df, List.nil_append, Option.bind_some]
      have hla : a.length ≤ 1000003 := by
        unfold eo at ha
        split at ha
        · cases ha; simp
        · have := ii ha
          have := f9 58 ((ab s).take j)
          rw [List.length_take, aE] at this; omega
      cases hbb : eo true ((ab s).drop (j + 2)) with
      | none => exact am rfl (Ev.val rfl)
      | some b =>
        have hlb : b.length ≤ 1000003 := by
          unfold eo at hbb
          split at hbb
          · cases hbb; simp
          · have := ii hbb
            have := f9 58 ((ab s).drop (j + 2))
            rw [List.length_drop, aE] at this; omega
        refine av (by simp [df]) ?_
        simp only [df, List.nil_append, Option.bind_some]
        have hw : wrap64 ((a.length : Int) + (b.length : Int)) = (a.length : Int) + (b.length : Int) := w64 (by omega) (by omega)
        simp only [hw]
        refine Ev.ite (fun h => ?_) (fun h => am (by omega) ?_)
        · rw [if_neg (by omega)]
          exact Ev.val rfl
        · rw [if_pos (by omega), kO a b (by omega)]
          exact Ev.val rfl
theorem kD {S : List Int} (h : S.length = 8) : ∃ a b c d e f g i, S = [a, b, c, d, e, f, g, i] := by
  match S, h with
  | [a, b, c, d, e, f, g, i], _ => exact ⟨a, b, c, d, e, f, g, i, rfl⟩
theorem lp (x : List Int) (i : Nat) : rd x (i : Int) = x.getD i 0 := by unfold rd; rw [Int.toNat_natCast]
end Go.Proofs.YticohlbfolnmpaaDoor.Y
namespace Go.Proofs.YticohlbfolnmpaaDoor.Y
open Go.RowKit Go.Proofs.YticohlbfolnmpaaDoor.X Go.Proofs.YticohlbfolnmpaaDoor.M Go.Proofs.YticohlbfolnmpaaDoorW.PrintWords Go.Proofs.YticohlbfolnmpaaDoorW.PrintLast Go.Proofs.YticohlbfolnmpaaDoorW.PrintMore
theorem fY : Ev (fun k => az k) true := iq (fun k => fj k) (k := 60) (by decide +kernel)
theorem f7 {fin : Bool} {l r : List Int} (h : eo fin l = some r) : ∀ w ∈ r, 0 ≤ w ∧ w ≤ 65535 := by
  unfold eo at h
  split at h
  · obtain rfl := Option.some.inj h
    simp
  · exact iO h
theorem kZ {l w : List Int} (h : v6 l = some w) : w.length = 8 ∧ ∀ x ∈ w, 0 ≤ x ∧ x ≤ 65535 := by
  unfold v6 at h
  split at h
  · obtain ⟨r, hr, h⟩ := Option.bind_eq_some_iff.1 h
    split at h
    · obtain rfl := Option.some.inj h
      exact ⟨by assumption, f7 hr⟩
    · cases h
  · obtain ⟨a, ha, h⟩ := Option.bind_eq_some_iff.1 h
    obtain ⟨b, hb, h⟩ := Option.bind_eq_some_iff.1 h
    split at h
    · obtain rfl := Option.some.inj h
      refine ⟨by simp; omega, fun x hx => ?_⟩
      simp only [List.append_assoc, List.mem_append, List.mem_replicate] at hx
      rcases hx with hx | ⟨_, rfl⟩ | hx
      · exact f7 ha x hx
      · omega
      · exact f7 hb x hx
    · cases h
end Go.Proofs.YticohlbfolnmpaaDoor.Y
namespace Go.Proofs.YticohlbfolnmpaaDoor.M
open Go Go.RowKit Go.Proofs.YticohlbfolnmpaaDoorW.PrintWords
def jn (c : Int) : List (List Int) → List Int
  | [] => []
  | [a] => a
  | a :: b :: r => a ++ c :: jn c (b :: r)
theorem iy (c : Int) : ∀ L : List (List Int), L ≠ [] → (jn c L).length + 1 = (L.map List.length).sum + L.length
  | [], h => absurd rfl h
  | [a], _ => by simp [jn]
  | a :: b :: r, _ => by
    have ih := iy c (b :: r) (by simp)
    rw [jn, List.length_append, List.length_cons, List.map_cons, List.sum_cons]
    simp only [List.length_cons] at ih ⊢
    omega
theorem ic (c : Int) : ∀ l : List Int, jn c (aN c l) = l
  | [] => rfl
  | b :: t => by
    have ih := ic c t
    rw [cQ]
    have e := gP c t
    generalize (aN c t).headD [] = h at e ⊢
    generalize (aN c t).tail = r at e ⊢
    rw [e] at ih
    split
    · rename_i hb
      rw [e, hb]
      show ([] : List Int) ++ c :: jn c (h :: r) = _
      rw [ih]; rfl
    · cases r with
      | nil => rw [← ih]; rfl
      | cons d r =>
        rw [← ih]; rfl
def hdg (d : Int) : Int := if d < 10 then 48 + d else 87 + d
def dE (w : Int) : List Int :=
  if w < 16 then [hdg w] else if w < 256 then [hdg (w / 16), hdg (w % 16)] else if w < 4096 then [hdg (w / 256), hdg (w / 16 % 16), hdg (w % 16)] else [hdg (w / 4096), hdg (w / 256 % 16), hdg (w / 16 % 16), hdg (w % 16)]
theorem dw {d : Int} (h0 : 0 ≤ d) (h1 : d < 16) : dF (hdg d) = true ∧ hv (hdg d) = d := by
  have : ∀ n : Fin 16, dF (hdg (n.val : Int)) = true ∧ hv (hdg (n.val : Int)) = (n.val : Int) := by decide
  have h := this ⟨d.toNat, by omega⟩
  have e : ((d.toNat : Nat) : Int) = d := by omega
  simp only [e] at h
  exact h
theorem gS (w : Int) : 1 ≤ (dE w).length ∧ (dE w).length ≤ 4 := by
  unfold dE
  (repeat' split) <;> simp
theorem lg {w : Int} {n : Nat} (hn : 1 ≤ n) (h4 : n ≤ 4) (h : w < 16 ^ n) : (dE w).length ≤ n := by
  have : n = 1 ∨ n = 2 ∨ n = 3 ∨ n = 4 := by omega
  unfold dE
  rcases this with rfl | rfl | rfl | rfl
  · rw [show (16 : Int) ^ 1 = 16 from rfl] at h; rw [if_pos h]; simp
  · rw [show (16 : Int) ^ 2 = 256 from rfl] at h
    (repeat' split) <;> simp only [List.length_cons, List.length_nil] <;> omega
  · rw [show (16 : Int) ^ 3 = 4096 from rfl] at h
    (repeat' split) <;> simp only [List.length_cons, List.length_nil] <;> omega
  · exact (gS w).2
theorem kF {w : Int} (h0 : 0 ≤ w) (h1 : w ≤ 65535) : (dE w).all dF = true ∧ dn 0 (dE w) = w := by
  unfold dE
  split
  · have h := dw h0 (by omega)
    simp only [List.all_cons, List.all_nil, dn, h.1, h.2]
    exact ⟨rfl, by omega⟩
  · split
    · have a := dw (d := w / 16) (by omega) (by omega)
      have b := dw (d := w % 16) (by omega) (by omega)
      simp only [List.all_cons, List.all_nil, dn, a.1, b.1, a.2, b.2]
      exact ⟨rfl, by omega⟩
    · split
      · have a := dw (d := w / 256) (by omega) (by omega)
        have b := dw (d := w / 16 % 16) (by omega) (by omega)
        have c := dw (d := w % 16) (by omega) (by omega)
        simp only [List.all_cons, List.all_nil, dn, a.1, b.1, c.1, a.2, b.2, c.2]
        exact ⟨rfl, by omega⟩
      · have a := dw (d := w / 4096) (by omega) (by omega)
        have b := dw (d := w / 256 % 16) (by omega) (by omega)
        have c := dw (d := w / 16 % 16) (by omega) (by omega)
        have d := dw (d := w % 16) (by omega) (by omega)
        simp only [List.all_cons, List.all_nil, dn, a.1, b.1, c.1, d.1, a.2, b.2, c.2, d.2]
        exact ⟨rfl, by omega⟩
theorem k4 {p : List Int} (h : 0 ≤ ca p) : (dE (ca p)).length ≤ p.length := by
  obtain ⟨h1, h2, h3⟩ := k0 h
  refine lg h2 h3 ?_
  unfold ca
  rw [if_neg (by omega), if_pos h1]
  have := (fZ p 0 1 h1 (by omega) (by omega)).2
  omega
def cU (W : List Int) : List Int := jn 58 (W.map dE)
def okW (W : List Int) : Prop := ∀ w ∈ W, 0 ≤ w ∧ w ≤ 65535
def t6 (W : List Int) (a n : Nat) : List Int := if n = 0 then cU W else cU (W.take a) ++ (58 :: 58 :: cU (W.drop (a + n)))
def Gap (W : List Int) (a n : Nat) : Prop := (n = 0 ∨ 2 ≤ n) ∧ a + n ≤ 8 ∧ (∀ i, a ≤ i → i < a + n → W[i]? = some 0) ∧ ∀ i z, 2 ≤ z → i + z ≤ 8 → (∀ j, i ≤ j → j < i + z → W[j]? = some 0) → z ≤ n
theorem ki {W : List Int} {a n : Nat} (hl : W.length = 8) (ha : a + n ≤ 8) (hz : ∀ i, a ≤ i → i < a + n → W[i]? = some 0) : W = W.take a ++ (List.replicate n 0 ++ W.drop (a + n)) := by
  apply List.ext_getElem?
  intro i
  by_cases h1 : i < a
  · rw [List.getElem?_append_left (by rw [List.length_take]; omega), List.getElem?_take, if_pos h1]
  · rw [List.getElem?_append_right (by rw [List.length_take]; omega), List.length_take, Nat.min_eq_left (by omega)]
    by_cases h2 : i < a + n
    · rw [List.getElem?_append_left (by rw [List.length_replicate]; omega), List.getElem?_replicate, if_pos (by omega), hz i (by omega) h2]
    · rw [List.getElem?_append_right (by rw [List.length_replicate]; omega), List.length_replicate, List.getElem?_drop]
      congr 1; omega
theorem iA {W : List Int} (h : okW W) (a b : Nat) : okW (W.take a) ∧ okW (W.drop b) := ⟨fun w hw => h w (List.mem_of_mem_take hw), fun w hw => h w (List.mem_of_mem_drop hw)⟩
def bE (W : List Int) : Nat := (W.map fun w => (dE w).length).sum
theorem f2 (A B : List Int) : bE (A ++ B) = bE A + bE B := by unfold bE; rw [List.map_append, List.sum_append]
theorem gu : ∀ n : Nat, bE (List.replicate n 0) = n
  | 0 => rfl
  | n + 1 => by
    have ih := gu n
    unfold bE at ih ⊢
    rw [List.replicate_succ, List.map_cons, List.sum_cons, ih]
    show 1 + n = n + 1
    omega
theorem fa (W : List Int) : W = [] ∧ (cU W).length = 0 ∨ 1 ≤ W.length ∧ (cU W).length + 1 = bE W + W.length := by
  cases W with
  | nil => exact .inl ⟨rfl, rfl⟩
  | cons w W =>
    refine .inr ⟨by simp, ?_⟩
    have h := iy 58 ((w :: W).map dE) (by simp)
    rw [List.map_map, List.length_map] at h
    exact h
theorem jh {r : List (List Int)} {W : List Int} (h : cB false r = some W) : W.length = r.length ∧ bE W ≤ (r.map List.length).sum := by
  induction r generalizing W with
  | nil => simp [cB] at h; subst h; exact ⟨rfl, Nat.le_refl _⟩
  | cons p r ih =>
    rw [dQ, if_neg (by simp)] at h
    split at h
    · cases h
    · rename_i hw
      obtain ⟨x, hx, rfl⟩ := Option.map_eq_some_iff.1 h
      obtain ⟨h1, h2⟩ := ih hx
      have := k4 (p := p) (by omega)
      refine ⟨by rw [List.length_cons, List.length_cons, h1], ?_⟩
      unfold bE at h2 ⊢
      rw [List.map_cons, List.sum_cons, List.map_cons, List.sum_cons]
      omega
theorem gz {fin : Bool} {t W : List Int} (hd : (46 : Int) ∉ t) (h : eo fin t = some W) : t = [] ∧ W = [] ∨ 1 ≤ W.length ∧ bE W + W.length ≤ t.length + 1 := by
  unfold eo at h
  by_cases ht : t = []
  · rw [if_pos ht] at h
    exact .inl ⟨ht, (Option.some.inj h).symm⟩
  · rw [if_neg ht, iN (fun p hp hm => hd ((g8 p hp).2.1 _ hm))] at h
    obtain ⟨h1, h2⟩ := jh h
    have h3 := iy 58 (aN 58 t) (gA 58 t)
    rw [ic] at h3
    have h4 : 1 ≤ (aN 58 t).length := by
      have := gA 58 t
      cases e : aN 58 t with
      | nil => exact absurd e this
      | cons a b => simp
    exact .inr ⟨by omega, by omega⟩
theorem kJ {W : List Int} {a n : Nat} (hl : W.length = 8) (ha : a + n ≤ 8) (hz : ∀ i, a ≤ i → i < a + n → W[i]? = some 0) : bE W = bE (W.take a) + n + bE (W.drop (a + n)) := by
  have e := congrArg bE (ki hl ha hz)
  rw [f2, f2, gu] at e
  omega
theorem kW {l W : List Int} {a n : Nat} (hd : (46 : Int) ∉ l) (h : v6 l = some W) (hl : W.length = 8) (hg : Gap W a n) : (t6 W a n).length ≤ l.length + 1 := by
  obtain ⟨hn, ha, hz, hlong⟩ := hg
  have hsum := kJ hl ha hz
  have ht : (t6 W a n).length = if n = 0 then bE W + 7 else (cU (W.take a)).length + 2 + (cU (W.drop (a + n))).length := by
    unfold t6
    split
    · have := fa W
      rcases this with ⟨e, _⟩ | ⟨_, e⟩
      · rw [e] at hl; simp at hl
      · omega
    · rw [List.length_append, List.length_cons, List.length_cons]; omega
  have hX := fa (W.take a)
  have hY := fa (W.drop (a + n))
  have l1 : (W.take a).length = a := by rw [List.length_take]; omega
  have l2 : (W.drop (a + n)).length = 8 - (a + n) := by rw [List.length_drop]; omega
  have hX' : a = 0 ∧ bE (W.take a) = 0 ∧ (cU (W.take a)).length = 0 ∨ 1 ≤ a ∧ (cU (W.take a)).length + 1 = bE (W.take a) + a := by
    rcases hX with ⟨e, e'⟩ | ⟨e, e'⟩
    · exact .inl ⟨by rw [← l1, e]; rfl, by rw [e]; rfl, e'⟩
    · exact .inr ⟨by omega, by omega⟩
  have hY' : a + n = 8 ∧ bE (W.drop (a + n)) = 0 ∧ (cU (W.drop (a + n))).length = 0 ∨ a + n < 8 ∧ (cU (W.drop (a + n))).length + 1 = bE (W.drop (a + n)) + (8 - (a + n)) := by
    rcases hY with ⟨e, e'⟩ | ⟨e, e'⟩
    · exact .inl ⟨by have : (W.drop (a + n)).length = 0 := by rw [e]; rfl
                     omega, by rw [e]; rfl, e'⟩
    · exact .inr ⟨by omega, by omega⟩
  rw [ht]
  clear ht hX hY l1 l2
  generalize (cU (W.take a)).length = x1 at *
  generalize (cU (W.drop (a + n))).length = x2 at *
  generalize bE (W.take a) = x3 at *
  generalize bE (W.drop (a + n)) = x4 at *
  unfold v6 at h
  by_cases hs : bI [58, 58] l < 0
  · rw [if_pos hs] at h
    obtain ⟨r, hr, h⟩ := Option.bind_eq_some_iff.1 h
    split at h
    · obtain rfl := Option.some.inj h
      rcases gz hd hr with ⟨_, e⟩ | ⟨_, e⟩
      · rw [e] at hl; simp at hl
      · rw [hl] at e
        split <;> omega
    · cases h
  · rw [if_neg hs] at h
    obtain ⟨A, hA, h⟩ := Option.bind_eq_some_iff.1 h
    obtain ⟨B, hB, h⟩ := Option.bind_eq_some_iff.1 h
    split at h
    · rename_i hAB
      obtain rfl := Option.some.inj h
      have hsp := f8 (sub := [58, 58]) (l := l) (by omega)
      have hA' := gz (fun hm => hd (List.mem_of_mem_take hm)) hA
      have hB' := gz (fun hm => hd (List.mem_of_mem_drop hm)) hB
      rw [List.length_take] at hA'
      rw [List.length_drop] at hB'
      have hlz : 2 ≤ 8 - A.length - B.length → 8 - A.length - B.length ≤ n := fun h2 => hlong A.length _ h2 (by omega) (fun j h1 h3 => by
        rw [List.append_assoc, List.getElem?_append_right h1, List.getElem?_append_left (by rw [List.length_replicate]; omega), List.getElem?_replicate, if_pos (by omega)])
      have hall : bE (A ++ List.replicate (8 - A.length - B.length) 0 ++ B) = bE A + (8 - A.length - B.length) + bE B := by rw [f2, f2, gu]
      rw [hall] at hsum ⊢
      have l3 : ([58, 58] : List Int).length = 2 := rfl
      rw [l3] at hsp
      generalize (bI [58, 58] l).toNat = q at *
      have hA2 : (A.length = 0 ∧ bE A = 0) ∨ 1 ≤ A.length ∧ bE A + A.length ≤ q + 1 := by
        rcases hA' with ⟨_, e⟩ | ⟨e, e'⟩
        · exact .inl (by rw [e]; exact ⟨rfl, rfl⟩)
        · exact .inr ⟨e, by omega⟩
      have hB2 : (B.length = 0 ∧ bE B = 0) ∨ 1 ≤ B.length ∧ bE B + B.length ≤ l.length - (q + 2) + 1 := by
        rcases hB' with ⟨_, e⟩ | ⟨e, e'⟩
        · exact .inl (by rw [e]; exact ⟨rfl, rfl⟩)
        · exact .inr ⟨e, by omega⟩
      clear hA' hB' hA hB hz hlong hs hd hl
      generalize bE A = a1 at *
      generalize bE B = b1 at *
      generalize A.length = a2 at *
      generalize B.length = b2 at *
      split <;> omega
    · cases h
def zr (w : Int) : Int := if w = 0 then 0 else 1
theorem iV (w : Int) : zr w = 0 ↔ w = 0 := by unfold zr; split <;> simp_all
def jf (L : List Int) (i z : Nat) : Bool := (List.range 8).all fun j => !(decide (i ≤ j) && decide (j < i + z)) || L.getD j 1 == 0
def kE (L : List Int) (a n : Nat) : Bool :=
  (n == 0 || decide (2 ≤ n)) && decide (a + n ≤ 8) && jf L a n && (List.range 9).all fun z => (List.range 9).all fun i => !(decide (2 ≤ z) && decide (i + z ≤ 8) && jf L i z) || decide (z ≤ n)
theorem iD {W : List Int} (hl : W.length = 8) {i z : Nat} (h : i + z ≤ 8) : jf (W.map zr) i z = true ↔ ∀ j, i ≤ j → j < i + z → W[j]? = some 0 := by
  have key : ∀ j, j < 8 → (((W.map zr).getD j 1 == 0) = true ↔ W[j]? = some 0) := by
    intro j hj
    rw [List.getD_eq_getElem?_getD, List.getElem?_map, List.getElem?_eq_getElem (by omega), Option.map_some, Option.getD_some, beq_iff_eq, iV, Option.some.injEq]
  unfold jf
  rw [List.all_eq_true]
  constructor
  · intro h1 j h2 h3
    have := h1 j (List.mem_range.2 (by omega))
    rw [decide_eq_true h2, decide_eq_true h3] at this
    exact (key j (by omega)).1 (by simpa using this)
  · intro h1 j hj
    have hj := List.mem_range.1 hj
    by_cases h2 : i ≤ j ∧ j < i + z
    · rw [(key j hj).2 (h1 j h2.1 h2.2), Bool.or_true]
    · have : (decide (i ≤ j) && decide (j < i + z)) = false := by
        rw [Bool.eq_false_iff, Ne, Bool.and_eq_true, decide_eq_true_iff, decide_eq_true_iff]; exact h2
      rw [this]; rfl
theorem lA {W : List Int} {a n : Nat} (hl : W.length = 8) (h : kE (W.map zr) a n = true) : Gap W a n := by
  unfold kE at h
  rw [Bool.and_eq_true, Bool.and_eq_true, Bool.and_eq_true, Bool.or_eq_true, beq_iff_eq, decide_eq_true_iff, decide_eq_true_iff] at h
  obtain ⟨⟨⟨h1, h2⟩, h3⟩, h4⟩ := h
  refine ⟨h1, h2, (iD hl h2).1 h3, fun i z hz hi hr => ?_⟩
  have h5 := List.all_eq_true.1 h4 z (List.mem_range.2 (by omega))
  have h6 := List.all_eq_true.1 h5 i (List.mem_range.2 (by omega))
  rw [decide_eq_true hz, decide_eq_true hi, (iD hl hi).2 hr] at h6
  simpa using h6
def t4 (a b c d : Int) : List Int := go a ++ 46 :: (go b ++ 46 :: (go c ++ 46 :: go d))
end Go.Proofs.YticohlbfolnmpaaDoor.M
namespace Go.Proofs.YticohlbfolnmpaaDoor.Y
open Go Go.RowKit Go.Proofs.YticohlbfolnmpaaDoor.X Go.Proofs.YticohlbfolnmpaaDoor.M Go.Proofs.YticohlbfolnmpaaDoorW.PrintWords Go.Proofs.YticohlbfolnmpaaDoorW.PrintLast Go.Proofs.YticohlbfolnmpaaDoorW.PrintMore
theorem kj : ∀ k, (∀ x2 x3 x6 a0 a1 a2 a3 a4 a5 a6 a7, aa k x2 x3 x6 a0 a1 a2 a3 a4 a5 a6 a7 = aa k x2 x3 x6 (zr a0) (zr a1) (zr a2) (zr a3) (zr a4) (zr a5) (zr a6) (zr a7)) ∧
    (∀ x2 x3 x4 x5 x6 a0 a1 a2 a3 a4 a5 a6 a7, al k x2 x3 x4 x5 x6 a0 a1 a2 a3 a4 a5 a6 a7 = al k x2 x3 x4 x5 x6 (zr a0) (zr a1) (zr a2) (zr a3) (zr a4) (zr a5) (zr a6) (zr a7))
  | 0 => ⟨fun _ _ _ _ _ _ _ _ _ _ _ => rfl, fun _ _ _ _ _ _ _ _ _ _ _ _ _ => rfl⟩
  | k + 1 => by
    obtain ⟨i0, i1⟩ := kj k
    refine ⟨?_, ?_⟩
    · intro x2 x3 x6 a0 a1 a2 a3 a4 a5 a6 a7
      simp only [aa]
      rw [i1 x2 x3 x6 0 x6 a0 a1 a2 a3 a4 a5 a6 a7]
    · intro x2 x3 x4 x5 x6 a0 a1 a2 a3 a4 a5 a6 a7
      simp only [al, iV]
      rw [i1 x2 x3 x4 (wrap64 (x5 + 1)) x6 a0 a1 a2 a3 a4 a5 a6 a7, i0 x4 x5 (wrap64 (x6 + 1)) a0 a1 a2 a3 a4 a5 a6 a7, i0 x2 x3 (wrap64 (x6 + 1)) a0 a1 a2 a3 a4 a5 a6 a7]
def bz (b : Bool) : Int := if b then 0 else 1
def lz (a0 a1 a2 a3 a4 a5 a6 a7 : Int) : Bool := match cm 100 a0 a1 a2 a3 a4 a5 a6 a7 with
  | some (x, y) => decide (0 ≤ x) && decide (0 ≤ y) && kE [a0, a1, a2, a3, a4, a5, a6, a7] x.toNat y.toNat
  | none => false
set_option maxRecDepth 100000 in
theorem le : ∀ b0 b1 b2 b3 b4 b5 b6 b7 : Bool, lz (bz b0) (bz b1) (bz b2) (bz b3) (bz b4) (bz b5) (bz b6) (bz b7) = true := by decide +kernel
theorem lQ (a : Int) : bz (decide (a = 0)) = zr a := by unfold bz zr; by_cases h : a = 0 <;> simp [h]
theorem lV (a0 a1 a2 a3 a4 a5 a6 a7 : Int) : ∃ a n : Nat, Ev (fun k => cm k a0 a1 a2 a3 a4 a5 a6 a7) ((a : Int), (n : Int)) ∧ Gap [a0, a1, a2, a3, a4, a5, a6, a7] a n := by
  have h := le (decide (a0 = 0)) (decide (a1 = 0)) (decide (a2 = 0)) (decide (a3 = 0)) (decide (a4 = 0)) (decide (a5 = 0)) (decide (a6 = 0)) (decide (a7 = 0))
  simp only [lQ] at h
  unfold lz at h
  have e : cm 100 a0 a1 a2 a3 a4 a5 a6 a7 = cm 100 (zr a0) (zr a1) (zr a2) (zr a3) (zr a4) (zr a5) (zr a6) (zr a7) := by
    unfold cm
    exact (kj 100).1 0 0 0 a0 a1 a2 a3 a4 a5 a6 a7
  rw [← e] at h
  cases hf : cm 100 a0 a1 a2 a3 a4 a5 a6 a7 with
  | none => rw [hf] at h; cases h
  | some p =>
    obtain ⟨x, y⟩ := p
    rw [hf] at h
    dsimp only at h
    rw [Bool.and_eq_true, Bool.and_eq_true, decide_eq_true_iff, decide_eq_true_iff] at h
    obtain ⟨⟨h1, h2⟩, h3⟩ := h
    refine ⟨x.toNat, y.toNat, iq (fun k => gL a0 a1 a2 a3 a4 a5 a6 a7 k) (k := 100) ?_, lA rfl h3⟩
    show cm 100 a0 a1 a2 a3 a4 a5 a6 a7 = _
    rw [hf, Int.toNat_of_nonneg h1, Int.toNat_of_nonneg h2]
theorem gy {l : List Int} (h : ∀ b ∈ l, 0 ≤ b ∧ b ≤ 255) : ab (strOfNums l) = l := by
  unfold ab strOfNums
  show ((l.map fun n => UInt8.ofNat n.toNat).toArray.toList).map _ = l
  rw [List.map_map]
  have : ∀ b ∈ l, ((fun b : UInt8 => (b.toNat : Int)) ∘ fun n : Int => UInt8.ofNat n.toNat) b = b := by
    intro b hb
    have := h b hb
    show ((UInt8.ofNat b.toNat).toNat : Int) = b
    rw [UInt8.toNat_ofNat']
    omega
  rw [List.map_congr_left this, List.map_id'']
  intro b; rfl
theorem kz {s : ByteArray} {l : List Int} (h : ab s = l) : s = strOfNums l := by
  subst h
  exact ke (gy (fun b hb => iI hb)).symm
theorem cK {n : Nat} (h : n < 16) : (((aT n).toNat : Nat) : Int) = hdg (n : Int) := by
  have : ∀ m : Fin 16, (((aT m.val).toNat : Nat) : Int) = hdg (m.val : Int) := by decide +kernel
  exact this ⟨n, h⟩
theorem lU {w : Int} (h0 : 0 ≤ w) (h1 : w ≤ 65535) : ∃ s, bZ w 16 = some s ∧ ab s = dE w := by
  refine ⟨_, by unfold bZ; rw [if_pos ⟨rfl, h0, by omega⟩], ?_⟩
  obtain ⟨u, rfl⟩ : ∃ u : Nat, w = (u : Int) := ⟨w.toNat, by omega⟩
  rw [Int.toNat_natCast]
  unfold ab aA aM dE
  dsimp only
  by_cases c1 : u < 16
  · rw [if_pos c1, if_pos (by omega)]
    simp only [List.range_succ, List.range_zero, List.nil_append, List.map_cons, List.map_nil, List.cons_append]
    simp only [Nat.sub_self, Nat.pow_zero, Nat.div_one]
    rw [cK (by omega), show ((u % 16 : Nat) : Int) = (u : Int) by omega]
  · by_cases c2 : u < 256
    · rw [if_neg c1, if_pos c2, if_neg (by omega), if_pos (by omega)]
      simp only [List.range_succ, List.range_zero, List.nil_append, List.map_cons, List.map_nil, List.cons_append]
      simp only [Nat.sub_self, Nat.sub_zero, Nat.pow_zero, Nat.div_one, Nat.pow_one]
      rw [cK (by omega), cK (by omega), show ((u / 16 % 16 : Nat) : Int) = (u : Int) / 16 by omega, show ((u % 16 : Nat) : Int) = (u : Int) % 16 by omega]
    · by_cases c3 : u < 4096
      · rw [if_neg c1, if_neg c2, if_pos c3, if_neg (by omega), if_neg (by omega), if_pos (by omega)]
        simp only [List.range_succ, List.range_zero, List.nil_append, List.map_cons, List.map_nil, List.cons_append]
        simp only [Nat.sub_self, Nat.sub_zero, Nat.pow_zero, Nat.div_one, show 2 - 1 = 1 from rfl, Nat.pow_one, show (16 : Nat) ^ 2 = 256 from rfl]
        rw [cK (by omega), cK (by omega), cK (by omega), show ((u / 256 % 16 : Nat) : Int) = (u : Int) / 256 by omega, show ((u / 16 % 16 : Nat) : Int) = (u : Int) / 16 % 16 by omega, show ((u % 16 : Nat) : Int) = (u : Int) % 16 by omega]
      · rw [if_neg c1, if_neg c2, if_neg c3, if_neg (by omega), if_neg (by omega), if_neg (by omega)]
        simp only [List.range_succ, List.range_zero, List.nil_append, List.map_cons, List.map_nil, List.cons_append]
        simp only [Nat.sub_self, Nat.sub_zero, Nat.pow_zero, Nat.div_one, show 3 - 1 = 2 from rfl, show 3 - 2 = 1 from rfl, Nat.pow_one, show (16 : Nat) ^ 2 = 256 from rfl, show (16 : Nat) ^ 3 = 4096 from rfl]
        rw [cK (by omega), cK (by omega), cK (by omega), cK (by omega), show ((u / 4096 % 16 : Nat) : Int) = (u : Int) / 4096 by omega, show ((u / 256 % 16 : Nat) : Int) = (u : Int) / 256 % 16 by omega, show ((u / 16 % 16 : Nat) : Int) = (u : Int) / 16 % 16 by omega, show ((u % 16 : Nat) : Int) = (u : Int) % 16 by omega]
theorem kI (x y : List UInt8) (r : List (List UInt8)) (sep : List UInt8) : Go.Lib.join (x :: y :: r) sep = x ++ (sep ++ Go.Lib.join (y :: r) sep) := by
  rw [Go.Lib.join_cons, Go.Lib.join_cons]; simp [Go.Lib.joinTail]
theorem iT (c : UInt8) : ∀ L : List (List UInt8), (Go.Lib.join L [c]).map (fun b => (b.toNat : Int)) = jn (c.toNat : Int) (L.map (List.map fun b => (b.toNat : Int)))
  | [] => rfl
  | [x] => by rw [Go.Lib.join_one]; rfl
  | x :: y :: r => by
    rw [kI, List.map_append, List.map_append, iT c (y :: r)]; rfl
theorem i5 {w : Int} (h0 : 0 ≤ w) (h1 : w ≤ 65535) : ∀ b ∈ dE w, 0 ≤ b ∧ b ≤ 255 := by
  intro b hb
  have := List.all_eq_true.1 (kF h0 h1).1 b hb
  unfold dF at this
  rw [decide_eq_true_iff] at this
  omega
theorem kH {L : List (List Int)} (h : ∀ p ∈ L, ∀ b ∈ p, 0 ≤ b ∧ b ≤ 255) : ∀ b ∈ jn 58 L, 0 ≤ b ∧ b ≤ 255 := by
  induction L with
  | nil => intro b hb; cases hb
  | cons a r ih =>
    have ih := ih (fun p hp => h p (List.mem_cons_of_mem _ hp))
    have ha := h a (List.mem_cons_self ..)
    cases r with
    | nil => exact ha
    | cons c r =>
      intro b hb
      rw [jn, List.mem_append, List.mem_cons] at hb
      rcases hb with hb | rfl | hb
      · exact ha b hb
      · omega
      · exact ih b hb
theorem eY {W : List Int} (hW : okW W) : ∀ b ∈ cU W, 0 ≤ b ∧ b ≤ 255 := kH (fun p hp => by
  obtain ⟨w, hw, rfl⟩ := List.mem_map.1 hp
  exact i5 (hW w hw).1 (hW w hw).2)
theorem lD (P : List ByteArray) (l : List Int) (hl : jn 58 (P.map ab) = l) (hs : l.length ≤ 1000000) (hp : P.length ≤ 1000000) : de P (⟨#[58]⟩ : ByteArray) = some (strOfNums l) := by
  have e : ((Go.Lib.join (P.map (·.data.toList)) (⟨#[58]⟩ : ByteArray).data.toList)).map (fun b => (b.toNat : Int)) = l := by
    rw [show (⟨#[58]⟩ : ByteArray).data.toList = [58] from rfl, iT, List.map_map]
    exact hl
  have e2 : (Go.Lib.join (P.map (·.data.toList)) (⟨#[58]⟩ : ByteArray).data.toList).length = l.length := by rw [← e, List.length_map]
  unfold de
  rw [if_pos ⟨by omega, by omega⟩]
  exact congrArg some (kz e)
theorem l6 {w : Int} (h0 : 0 ≤ w) (h1 : w ≤ 65535) : IntKind.u64.wrap w = w := by
  have e : (2 ^ IntKind.u64.bits : Int) = 18446744073709551616 := by decide
  have hs : IntKind.u64.signed = false := rfl
  unfold IntKind.wrap
  simp only [hs, Bool.false_and, Bool.false_eq_true, if_false, e]
  omega
theorem lB (W : List Int) (hW : okW W) (h8 : W.length ≤ 8) : ∀ d i : Nat, i + d = W.length → ∀ P : List ByteArray, P.length = i → P.map ab = (W.take i).map dE →
    Ev (fun k => bL k P W (W.length : Int) (i : Int)) (strOfNums (cU W)) := by
  intro d
  induction d with
  | zero =>
    intro i hi P hP hm
    refine Ev.step (fun k => by rw [bL]) ?_
    refine av (by omega) (cT (lD P (cU W) ?_ ?_ (by omega)) (dD _))
    · rw [hm, List.take_of_length_le (by omega)]; rfl
    · have := fa W
      have hs : bE W ≤ 4 * W.length := by
        unfold bE
        clear this hm hP hi hW h8
        induction W with
        | nil => simp
        | cons w W ih => rw [List.map_cons, List.sum_cons, List.length_cons]; have := (gS w).2; omega
      omega
  | succ d ih =>
    intro i hi P hP hm
    have hw := hW (W.getD i 0) (by rw [List.getD_eq_getElem?_getD, List.getElem?_eq_getElem (by omega)]; exact List.getElem_mem _)
    obtain ⟨s, hs, hb⟩ := lU hw.1 hw.2
    refine Ev.step (fun k => by rw [bL]) ?_
    rw [lp, l6 hw.1 hw.2]
    refine am (by omega) (am (by omega) (am (by omega) (cT hs (am (by omega) ?_))))
    rw [show wrap64 ((i : Int) + 1) = ((i + 1 : Nat) : Int) by rw [w64 (by omega) (by omega)]; omega]
    refine ih (i + 1) (by omega) (P ++ [s]) (by rw [List.length_append, hP]; rfl) ?_
    rw [List.map_append, hm, List.take_add_one, List.map_append, List.getElem?_eq_getElem (by omega)]
    rw [List.getD_eq_getElem?_getD, List.getElem?_eq_getElem (by omega)] at hb
    show _ ++ [ab s] = _ ++ [dE _]
    rw [hb]; rfl
theorem i6 (W : List Int) (hW : okW W) (h8 : W.length ≤ 8) : Ev (fun k => dp k W) (strOfNums (cU W)) := by
  unfold dp
  exact lB W hW h8 W.length 0 (by omega) [] rfl rfl
theorem lr (W : List Int) (hW : okW W) {a0 a1 a2 a3 a4 a5 a6 a7 : Int} (e : W = [a0, a1, a2, a3, a4, a5, a6, a7]) : ∃ a n : Nat, Gap W a n ∧ Ev (fun k => bU k a0 a1 a2 a3 a4 a5 a6 a7) (strOfNums (t6 W a n)) := by
  obtain ⟨a, n, hf, hg⟩ := lV a0 a1 a2 a3 a4 a5 a6 a7
  rw [← e] at hg
  refine ⟨a, n, hg, ?_⟩
  have hl : W.length = 8 := by rw [e]; rfl
  have hr : ∀ X, okW X → ab (strOfNums (cU X)) = cU X := fun X hX => gy (eY hX)
  have hsz : ∀ X, okW X → X.length ≤ 8 → (strOfNums (cU X)).size ≤ 100 := by
    intro X hX h8
    rw [← aE, hr X hX]
    have := fa X
    have hs : bE X ≤ 4 * X.length := by
      unfold bE
      clear this hX h8
      induction X with
      | nil => simp
      | cons w W ih => rw [List.map_cons, List.sum_cons, List.length_cons]; have := (gS w).2; omega
    omega
  unfold bU
  refine br hf ?_
  dsimp only
  rw [← e]
  unfold t6
  by_cases h0 : n = 0
  · rw [if_pos h0]
    exact am (by omega) (i6 W hW (by omega))
  · obtain ⟨hA, hB⟩ := iA hW a (a + n)
    have l1 : (W.take a).length ≤ 8 := by rw [List.length_take]; omega
    have l2 : (W.drop (a + n)).length ≤ 8 := by rw [List.length_drop]; omega
    have s1 := hsz _ hA l1
    have s2 := hsz _ hB l2
    rw [if_neg h0]
    refine av (by omega) (am ⟨by omega, by omega, by have := hg.2.1; omega⟩ ?_)
    rw [Int.toNat_natCast, Int.toNat_natCast]
    refine br (i6 _ hA l1) (br (i6 _ hB l2) (am (by omega) (Ev.val (kz ?_))))
    have e2 : ab (⟨#[58, 58]⟩ : ByteArray) = [58, 58] := by decide +kernel
    rw [gn, gn, hr _ hA, hr _ hB, e2]
    simp
theorem kV {W : List Int} (hW : okW W) (a n : Nat) : ∀ b ∈ t6 W a n, 0 ≤ b ∧ b ≤ 255 := by
  unfold t6
  split
  · exact eY hW
  · obtain ⟨hA, hB⟩ := iA hW a (a + n)
    intro b hb
    simp only [List.mem_append, List.mem_cons] at hb
    rcases hb with hb | rfl | rfl | hb
    · exact eY hA b hb
    · omega
    · omega
    · exact eY hB b hb
end Go.Proofs.YticohlbfolnmpaaDoor.Y
namespace Go.Proofs.YticohlbfolnmpaaDoor.Pure
open Go.RowKit Go.Proofs.YticohlbfolnmpaaDoor.X Go.Proofs.YticohlbfolnmpaaDoor.M Go.Proofs.YticohlbfolnmpaaDoor.Y Go.Proofs.YticohlbfolnmpaaDoorW.PrintWords Go.Proofs.YticohlbfolnmpaaDoorW.PrintLast Go.Proofs.YticohlbfolnmpaaDoorW.PrintMore
theorem kT (s : ByteArray) (hs : s.size ≤ 80) (ok : Bool) (w0 w1 w2 w3 w4 w5 w6 w7 : Int)
    (hfin : (46 : Int) ∉ ab s → ok = true → Ev (fun k => (bU k w0 w1 w2 w3 w4 w5 w6 w7).bind fun t => if (t.size : Int) ≤ wrap64 ((s.size : Int) + 1) then ((az k).bind fun t387 => (some t387)) else none) true) :
    ∀ d i : Nat, i + d = s.size → (46 : Int) ∉ (ab s).take i → Ev (fun k => aK k s ok (i : Int) w0 w1 w2 w3 w4 w5 w6 w7) true := by
  intro d
  induction d with
  | zero =>
    intro i hi hn
    rw [List.take_of_length_le (by rw [aE]; omega)] at hn
    refine Ev.step (fun k => by rw [aK]) ?_
    exact av (by omega) (Ev.ite (fun h => hfin hn h) (fun _ => br fY (dD _)))
  | succ d ih =>
    intro i hi hn
    refine Ev.step (fun k => by rw [aK]) ?_
    refine am (by omega) (am (by omega) (Ev.ite (fun _ => br fY (dD _)) (fun h => ?_)))
    rw [show wrap64 ((i : Int) + 1) = ((i + 1 : Nat) : Int) by rw [w64 (by omega) (by omega)]; omega]
    refine ih (i + 1) (by omega) ?_
    rw [List.take_add_one, List.mem_append, not_or]
    refine ⟨hn, fun hm => h ?_⟩
    rw [iP, List.getD_eq_getElem?_getD]
    cases e : (ab s)[i]? with
    | none => rw [e] at hm; cases hm
    | some b => rw [e] at hm; have hm2 : (46 : Int) = b := by simpa using hm
                rw [hm2]; rfl
theorem IpShort : e0 := by
  intro s _
  refine j7 (r := true) ?_
  unfold cL
  refine Ev.ite (fun _ => br fY (dD _)) (fun hs => ?_)
  refine br (l9 s (by omega)) ?_
  refine kT s (by omega) _ _ _ _ _ _ _ _ _ ?_ s.size 0 (by omega) (by simp)
  intro hd hok
  rw [lK] at hok
  obtain ⟨W, hW⟩ := Option.isSome_iff_exists.1 hok
  obtain ⟨hl, hr⟩ := kZ hW
  have hT : v6T (ab s) = kX W true := by unfold v6T; rw [hW]
  obtain ⟨a, b, c, d, e, f, g, h, rfl⟩ := kD hl
  rw [hT]
  obtain ⟨x, n, hg, ht⟩ := lr [a, b, c, d, e, f, g, h] hr rfl
  refine br ht ?_
  have hlen := kW hd hW hl hg
  rw [aE] at hlen
  have hsz : (strOfNums (t6 [a, b, c, d, e, f, g, h] x n)).size = (t6 [a, b, c, d, e, f, g, h] x n).length := by rw [← aE, gy (kV hr x n)]
  exact am (by rw [hsz, w64 (by omega) (by omega)]; omega) (br fY (dD _))
end Go.Proofs.YticohlbfolnmpaaDoor.Pure
namespace Go.Proofs.YticohlbfolnmpaaDoor.ipShort
open Go.ChangeShapes Go.WideShapes Go.ChangeAt Go.RowKit
open Go.ChangeMaps (open_string shut_string)
theorem own : ownKnob Tryd.prog.godebug = none := by kernel_rfl
theorem gw_len {W : World} (h : W.ShapedOpen Tryd.prog) : ∃ m, W.cell? ⟨0, 0, none⟩ = some (.int .i64 m) :=
  Go.Proofs.cell_of_shapedOpen_int (g := 0) (t := 3) (zero := #[.int .i64 0]) h (of_decide_eq_true (by kernel_rfl)) (by kernel_rfl) rfl (by kernel_rfl) (by kernel_rfl) Tryd.underlying3
theorem laid_tail {P : Program} {x : String × DataW Unit} {r : List (String × DataW Unit)} {w : World} (h : laidMet P (x :: r) w) : laidMet P r w := by
  obtain ⟨ps, hv, hnd, hrows⟩ := h
  obtain ⟨n, d⟩ := x
  obtain ⟨g, t, cs, fuel, p, q, _, _, _, _, hq, rfl⟩ := hv
  exact ⟨q, hq, List.Nodup.sublist (List.sublist_append_right _ _) hnd, fun b off hm => hrows b off (List.mem_append_right _ hm)⟩
set_option maxRecDepth 100000 in
theorem gw {W : World} (h : W.ShapedOpen Tryd.prog) (hL0 : laidMetH Tryd.prog Rows.ipShortRow.laid W) : X.GW W := by
  have hL : laidMet Tryd.prog Rows.ipShortRow.laid W := by
    rw [← Go.MakeChecks.laidMetH_plain _ _ _ (by kernel_rfl)]
    exact hL0
  exact ⟨gw_len h, Go.Lib.tabIs_of_head (g := 4) (t := 140) (e := 5) (n := 32) (k := .u8) (zs := X.tab4) (by kernel_rfl) (by kernel_rfl) Tryd.underlying140 Tryd.underlying5 (by kernel_rfl) (by kernel_rfl) hL, Go.Lib.tabIs_of_head (g := 5) (t := 141) (e := 5) (n := 64) (k := .u8) (zs := X.tab5) (by kernel_rfl) (by kernel_rfl) Tryd.underlying141 Tryd.underlying5 (by kernel_rfl) (by kernel_rfl) (laid_tail hL), Go.Lib.tabIs_of_head (g := 1) (t := 132) (e := 80) (n := 20) (k := .u64) (zs := X.tab1) (by kernel_rfl) (by kernel_rfl) Tryd.underlying132 Tryd.underlying80 (by kernel_rfl) (by kernel_rfl) (laid_tail (laid_tail hL))⟩
set_option maxRecDepth 100000 in
theorem contract (H : Type) (enc : TypeId × Value → H) (W : World) (base : Nat) (args : Array Value) (ds gs : List (DataW H)) (before : List MemPlace)
    (hval0 : ∀ (j : Nat) t v, Tryd.f5.params[j]? = some t → args[j]? = some v → Value.okWide Tryd.prog W .any base t v)
    (hW : DataW.Whole enc Tryd.prog Tryd.f5.params.toList Rows.ipShortSpec.vars false W args.toList ds gs before)
    (hsz0 : (DataW.weightsEach Tryd.prog (Tryd.f5.params.toList ++ Rows.ipShortSpec.plain.varTypes Tryd.prog) (ds ++ gs)).all (· ≤ reachBytes) = true) (hsh : W.ShapedOpen Tryd.prog) (hL : laidMetH Tryd.prog Rows.ipShortRow.laid W) :
    Calls Tryd.prog 5 args W fun e W' => ∃ v, e = .returned v ∧ Rows.ipShortSpec.post enc Tryd.prog Tryd.f5 false true false false W args v W' := by
  have hsz : (DataW.weightsEach Tryd.prog (Tryd.f5.params.toList ++ Rows.ipShortSpec.plain.varTypes Tryd.prog) (ds ++ gs)).all (· ≤ reachBytes) = true := hsz0
  have dn : ∀ (j : Nat) t v, Tryd.f5.params[j]? = some t → args[j]? = some v → Value.okWide Tryd.prog W .any base t v := hval0
  have hW' := hW
  obtain ⟨p, q, hA0, hV, rfl, hfz, hnd⟩ := hW
  have hA : DataW.TrodAll enc Tryd.prog W 0 (fun _ => true) true Tryd.f5.params.toList args.toList ds p := hA0
  rw [Tryd.params5] at hA dn hsz
  obtain ⟨v0, vs0, d0, ds0, p0, q0, hargs, rfl, rfl, h0, r0⟩ := trodAll_cons hA
  obtain ⟨rfl, rfl, rfl⟩ := trodAll_nil r0
  obtain rfl : args = #[v0] := by cases args; simp_all
  obtain ⟨rfl, rfl⟩ := trodVars_none hV
  obtain ⟨a0, rfl, rfl, rfl, y0⟩ := open_string Tryd.underlying9 (dn 0 9 v0 rfl rfl) h0
  have w0 : a0.size ≤ 140737488351232 := by
    have z := sized_string hsz (j := 0) (t := 9) rfl rfl
    rw [Array.length_toList] at z
    exact z
  clear hA0 hval0 hsz0 hsz
  obtain ⟨k, hk⟩ := Pure.IpShort a0 w0
  refine (X.eN k a0 true W (gw hsh hL) hk).mono fun e W' ⟨he, bel0⟩ => ?_
  have bel : Below W.heap.size W W' := bel0
  subst he
  exact ⟨_, rfl, _, _, _, [], _, [], hW', trodAll_mk1 (shut_bool Tryd.underlying4 _), (trodAll_cons_mk (shut_string Tryd.underlying9 y0) trodAll_mk0), rfl, bel.frame _, fun h => by cases h⟩
def flat : Nat → DataW Unit → List Value
  | 0, _ => []
  | k + 1, .agg l => l.flatMap (flat k)
  | _ + 1, .lit (.int kd n) => [.int kd n]
  | _ + 1, .lit (.bool b) => [.bool b]
  | _ + 1, _ => []
def layAt (g : Nat) (cs : List Value) (h : Array Obj) : Array Obj := h.modify g fun
  | .cells _ t frozen => .cells cs.toArray t frozen
  | x => x
noncomputable def gt (os : Os) : World := { World.holding Tryd.prog os ⟨#[], #[], []⟩ with heap := layAt 2 (flat 9 Rows.laid_unicode_utf8_first) (layAt 3 (flat 9 Rows.laid_unicode_utf8_acceptRanges) (layAt 1 (flat 9 Rows.laid_internal_strconv_uint64pow10) (layAt 5 (flat 9 Rows.laid_math_bits_deBruijn64tab) (layAt 4 (flat 9 Rows.laid_math_bits_deBruijn32tab) ((World.holding Tryd.prog os ⟨#[], #[], []⟩).heap))))) }
theorem laid_met (os : Os) : laidMet Tryd.prog Rows.ipShortRow.laid ((gt os).forCall (fun _ _ => 0) ⟨#[], #[.string ByteArray.empty], []⟩).memory :=
  laidMet_of_run' 8 (by kernel_rfl) (by kernel_rfl)
theorem reads (os : Os) {H : Type} (enc : TypeId × Value → H) : ∃ places, DataW.whole enc Tryd.prog ((gt os).forCall (fun _ _ => 0) ⟨#[], #[.string ByteArray.empty], []⟩).memory Tryd.f5.params.toList Rows.ipShortSpec.vars false (#[.string ByteArray.empty] : Array Value).toList 8 = some ([.lit (.string [])], [], places) :=
  ⟨[], by kernel_rfl⟩
set_option maxRecDepth 100000 in
theorem lifted (os : Os) (started : os.Started) (H : Type) (enc : TypeId × Value → H) (F : Stop.Interp) :
    ReturnsInHanded {} Tryd.checked os 5 .any ((OpenSpec.ofChange Rows.ipShortSpec).preRow enc Tryd.prog Tryd.f5 Rows.ipShortRow.domain false Rows.ipShortRow.laid) (((OpenSpec.ofChange Rows.ipShortSpec).at F).post enc Tryd.prog Tryd.f5 false true false false) := by
  obtain ⟨places, hx⟩ := reads os enc
  refine returnsInHanded_of_row (C := Tryd.checked) (s := OpenSpec.ofChange Rows.ipShortSpec) own started (by kernel_rfl) Tryd.func5
    (witness_row_at (enc := enc) (C := Tryd.checked) false (gt os) #[.string ByteArray.empty] rfl (by kernel_rfl) (by kernel_rfl) (by kernel_rfl)
      (OpenSpec.preRow_of_cond 8 hx (by kernel_rfl) (fun k hk => by cases hk) (by kernel_rfl) (laid_met os))) ?_
  intro W base args ds gs before dn hW _ _ hsz hL hsh _
  exact contract H enc W base args ds gs before dn hW hsz hsh hL
theorem said : Rows.IpShortSaid :=
  OpenClaim.holds_of_cond 5 Tryd.f5 rfl rfl rfl rfl rfl rfl rfl ⟨rfl, rfl, rfl, rfl, rfl⟩ rfl rfl rfl rfl rfl (by kernel_rfl) Tryd.func5 (by kernel_rfl)
    (of_decide_eq_true (by kernel_rfl)) (by unfold Func.isWrapper; first | (rw [if_pos (by decide +kernel)]; kernel_rfl) | (rw [if_neg (by decide +kernel)]; exact ⟨rfl, rfl⟩))
    (fun os started H enc _ F => by rw [OpenClaim.pre_eq_preRow]; exact lifted os started H enc F)
theorem plain (f : FuncId) (fn : Func) (hf : Tryd.pinned.checked.prog.funcNamed "moniker/monikerlaw19.IpShort" = some f) (hfn : Tryd.pinned.checked.prog.funcs[f]? = some fn) :
    false = Tryd.pinned.checked.prog.looks [] ∧ ∀ (j : Nat) t, fn.params[j]? = some t → Tryd.pinned.checked.prog.wantsStandIn t = false := by
  obtain rfl : f = 5 := Option.some.inj ((show Tryd.prog.funcNamed "moniker/monikerlaw19.IpShort" = some 5 by kernel_rfl).symm.trans hf) |>.symm
  obtain rfl : fn = Tryd.f5 := (Option.some.inj (Tryd.func5.symm.trans hfn)).symm
  refine ⟨by kernel_rfl, fun j t ht => ?_⟩
  rw [Tryd.params5] at ht
  have hm := Array.mem_of_getElem? ht
  simp only [List.mem_cons, List.mem_toArray, List.mem_nil_iff, or_false] at hm
  rcases hm with rfl
  · exact (show Tryd.prog.wantsStandIn 9 = false by kernel_rfl)
theorem card : Rows.IpShortCardSaid :=
  Claim7.holds_tied_plain_at .later [] _ _ _ _ said (fun _ h => by cases h) (by kernel_rfl) (fun _ h => by cases h) ipShort_row_tie rfl ⟨rfl, rfl⟩ (by kernel_rfl) rfl plain (by kernel_rfl)
#print axioms card
end Go.Proofs.YticohlbfolnmpaaDoor.ipShort
namespace Go.Proofs.YticohlbfolnmpaaDoor
theorem ipShort_card : Rows.IpShortCardSaid := ipShort.card
end Go.Proofs.YticohlbfolnmpaaDoor
