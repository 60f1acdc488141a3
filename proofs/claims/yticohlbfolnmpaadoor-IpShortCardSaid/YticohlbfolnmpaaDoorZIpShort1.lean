/- Texts that the law's proof needs, joined by a program of this session. -/
import Derived.Test.YticohlbfolnmpaaDoorZIpShort0
import Derived.WalkKit
import Derived.Lib.AppendStr
import Derived.Laws.Tables
import Derived.Laws.CopyOwn
import Derived.WalkMore
import Derived.ScopeJumps
import Derived.Shelf.Strings.Builder1
import Derived.Shelf.Strings.Builder2
import Derived.Shelf.Strings.OnBuilder
import Derived.Shelf.Strings.BuilderF
import Derived.Shelf.Strings.BuilderK
import Derived.Shelf.Utf8.RuneCount
import Derived.Shelf.Strings.Builder2Cap
import Derived.Shelf.Strconv.Itoa0
import Derived.Shelf.Strconv.Itoa1
import Derived.Shelf.LaysM
import Derived.Shelf.Strconv.Itoa2
import Derived.Shelf.Strconv.Itoa3
import Derived.Shelf.Strings.Search1
import Derived.Shelf.Strings.Search2
import Derived.Shelf.Strings.Search3
import Derived.Shelf.Strings.Cut
import Derived.Shelf.Strings.Count
import Derived.Shelf.Strings.Shaped
import Derived.Shelf.Strings.Split
import Derived.Shelf.Strings.SplitShaped
import Derived.Shelf.Unicode.Decode
import Derived.Shelf.Strings.RuneCount
import Derived.Shelf.Strings.Explode
import Derived.Shelf.Unicode.DecodeSlow
import Derived.Shelf.Unicode.DecodeAny
import Derived.Shelf.Strings.BuilderCap
import Derived.Test.YticohlbfolnmpaaDoorProg
import Derived.Below
import Derived.Deep.Draws
import Derived.Deep.AppendLies
import Derived.Maps.AppendAt
import Derived.OwnWalk
import Derived.Laws.BytesArg
import Derived.Laws.MakeOwn
import Derived.Laws.OwnMore
import Derived.Deep.OwnRows
import Derived.Tactics
import Derived.Lib.ConvBytes
import Derived.Laws.Slices
import Derived.KernelRfl
import Derived.RowKit3
import Derived.Deep.LoopGhost
import Derived.Deep.QuietTactic
import Derived.BigQuiet
import Derived.WideLaws
import Derived.Deep.DeepCutAuto
import Derived.Deep.CutBlock
import Derived.Deep.RegionHeld3
import Derived.Laws.Rows
import Derived.ArgAppend
import Derived.Laws.IdiomCopy
import Derived.OrdersHeld
import Derived.Laws.BitsLemmas
import Derived.RowKit
import Derived.ChangeKeysEq
import Derived.Deep.RegionWith
import Derived.Laws.CopyRow
import Derived.Laws.Externs
import Derived.Laws.IdiomStrings
import Derived.Laws.NewBlocks
import Derived.Laws.RangeAny
import Derived.Laws.RangeString
import Derived.Laws.Strings3
import Derived.Lib.AppendIntMem
import Derived.Lib.Bytealg
import Derived.Lib.Index
import Derived.Lib.IndexAny
import Derived.Lib.IndexBytes
import Derived.Lib.OthersKept
import Derived.Lib.SlBuf
import Derived.Lib.Split
import Derived.Lib.SplitLaws
set_option maxHeartbeats 8000000
set_option maxRecDepth 100000
set_option linter.unusedSimpArgs false
set_option linter.unusedVariables false
namespace Go.Proofs.YticohlbfolnmpaaDoorW.PrintMore
open Go.RowKit Go.Proofs.YticohlbfolnmpaaDoorW.PrintWords Go.Proofs.YticohlbfolnmpaaDoorW.PrintLast
section
variable {K : Act → World → Prop} {Q : Exit → Act → World → Prop} {J : Act → World → Prop} {a : Act} {w : World} {l : Nat}
theorem bA : Exit.then K Q (.goto l) a w = Q (.goto l) a w := rfl
theorem bn (id : Nat) : Exit.inBlock id Q (.goto l) a w = Q (.goto l) a w := rfl
theorem cl : Exit.jump l J Q .normal a w = Q .normal a w := rfl
theorem dg (id : Nat) : Exit.jump l J Q (.exit id) a w = Q (.exit id) a w := rfl
theorem dO : Exit.jump l J Q .ret a w = Q .ret a w := rfl
theorem cA (ch : List PanicEntry) : Exit.jump l J Q (.panic ch) a w = Q (.panic ch) a w := rfl
theorem dh : Exit.jump l J Q (.goto l) a w = J a w := propext ⟨fun h => h.2, fun h => ⟨rfl, h⟩⟩
end
theorem ji {w : World} {g : Nat} {t : TypeId} {c0 u : Value} (h : w.heap[g]? = some (.cells #[c0] t (0, 0))) : (w.setCell ⟨g, 0, none⟩ u).heap[g]? = some (.cells #[u] t (0, 0)) := ag h 0 u rfl
theorem jj {w : World} {g : Nat} {t : TypeId} {c0 c1 u : Value} (h : w.heap[g]? = some (.cells #[c0, c1] t (0, 0))) : (w.setCell ⟨g, 0, none⟩ u).heap[g]? = some (.cells #[u, c1] t (0, 0)) := ag h 0 u rfl
theorem jk {w : World} {g : Nat} {t : TypeId} {c0 c1 u : Value} (h : w.heap[g]? = some (.cells #[c0, c1] t (0, 0))) : (w.setCell ⟨g, 1, none⟩ u).heap[g]? = some (.cells #[c0, u] t (0, 0)) := ag h 1 u rfl
theorem jl {w : World} {g : Nat} {t : TypeId} {c0 c1 c2 u : Value} (h : w.heap[g]? = some (.cells #[c0, c1, c2] t (0, 0))) : (w.setCell ⟨g, 0, none⟩ u).heap[g]? = some (.cells #[u, c1, c2] t (0, 0)) := ag h 0 u rfl
theorem jm {w : World} {g : Nat} {t : TypeId} {c0 c1 c2 u : Value} (h : w.heap[g]? = some (.cells #[c0, c1, c2] t (0, 0))) : (w.setCell ⟨g, 1, none⟩ u).heap[g]? = some (.cells #[c0, u, c2] t (0, 0)) := ag h 1 u rfl
theorem jo {w : World} {g : Nat} {t : TypeId} {c0 c1 c2 u : Value} (h : w.heap[g]? = some (.cells #[c0, c1, c2] t (0, 0))) : (w.setCell ⟨g, 2, none⟩ u).heap[g]? = some (.cells #[c0, c1, u] t (0, 0)) := ag h 2 u rfl
theorem jp {w : World} {g : Nat} {t : TypeId} {c0 c1 c2 c3 u : Value} (h : w.heap[g]? = some (.cells #[c0, c1, c2, c3] t (0, 0))) : (w.setCell ⟨g, 0, none⟩ u).heap[g]? = some (.cells #[u, c1, c2, c3] t (0, 0)) := ag h 0 u rfl
theorem jq {w : World} {g : Nat} {t : TypeId} {c0 c1 c2 c3 u : Value} (h : w.heap[g]? = some (.cells #[c0, c1, c2, c3] t (0, 0))) : (w.setCell ⟨g, 1, none⟩ u).heap[g]? = some (.cells #[c0, u, c2, c3] t (0, 0)) := ag h 1 u rfl
theorem jr {w : World} {g : Nat} {t : TypeId} {c0 c1 c2 c3 u : Value} (h : w.heap[g]? = some (.cells #[c0, c1, c2, c3] t (0, 0))) : (w.setCell ⟨g, 2, none⟩ u).heap[g]? = some (.cells #[c0, c1, u, c3] t (0, 0)) := ag h 2 u rfl
theorem js {w : World} {g : Nat} {t : TypeId} {c0 c1 c2 c3 u : Value} (h : w.heap[g]? = some (.cells #[c0, c1, c2, c3] t (0, 0))) : (w.setCell ⟨g, 3, none⟩ u).heap[g]? = some (.cells #[c0, c1, c2, u] t (0, 0)) := ag h 3 u rfl
theorem jt {w : World} {g : Nat} {t : TypeId} {c0 c1 c2 c3 c4 u : Value} (h : w.heap[g]? = some (.cells #[c0, c1, c2, c3, c4] t (0, 0))) : (w.setCell ⟨g, 0, none⟩ u).heap[g]? = some (.cells #[u, c1, c2, c3, c4] t (0, 0)) := ag h 0 u rfl
theorem ju {w : World} {g : Nat} {t : TypeId} {c0 c1 c2 c3 c4 u : Value} (h : w.heap[g]? = some (.cells #[c0, c1, c2, c3, c4] t (0, 0))) : (w.setCell ⟨g, 1, none⟩ u).heap[g]? = some (.cells #[c0, u, c2, c3, c4] t (0, 0)) := ag h 1 u rfl
theorem jv {w : World} {g : Nat} {t : TypeId} {c0 c1 c2 c3 c4 u : Value} (h : w.heap[g]? = some (.cells #[c0, c1, c2, c3, c4] t (0, 0))) : (w.setCell ⟨g, 2, none⟩ u).heap[g]? = some (.cells #[c0, c1, u, c3, c4] t (0, 0)) := ag h 2 u rfl
theorem jw {w : World} {g : Nat} {t : TypeId} {c0 c1 c2 c3 c4 u : Value} (h : w.heap[g]? = some (.cells #[c0, c1, c2, c3, c4] t (0, 0))) : (w.setCell ⟨g, 3, none⟩ u).heap[g]? = some (.cells #[c0, c1, c2, u, c4] t (0, 0)) := ag h 3 u rfl
theorem jx {w : World} {g : Nat} {t : TypeId} {c0 c1 c2 c3 c4 u : Value} (h : w.heap[g]? = some (.cells #[c0, c1, c2, c3, c4] t (0, 0))) : (w.setCell ⟨g, 4, none⟩ u).heap[g]? = some (.cells #[c0, c1, c2, c3, u] t (0, 0)) := ag h 4 u rfl
theorem jy {w : World} {g : Nat} {t : TypeId} {c0 c1 c2 c3 c4 c5 u : Value} (h : w.heap[g]? = some (.cells #[c0, c1, c2, c3, c4, c5] t (0, 0))) : (w.setCell ⟨g, 0, none⟩ u).heap[g]? = some (.cells #[u, c1, c2, c3, c4, c5] t (0, 0)) := ag h 0 u rfl
theorem jz {w : World} {g : Nat} {t : TypeId} {c0 c1 c2 c3 c4 c5 u : Value} (h : w.heap[g]? = some (.cells #[c0, c1, c2, c3, c4, c5] t (0, 0))) : (w.setCell ⟨g, 1, none⟩ u).heap[g]? = some (.cells #[c0, u, c2, c3, c4, c5] t (0, 0)) := ag h 1 u rfl
theorem jA {w : World} {g : Nat} {t : TypeId} {c0 c1 c2 c3 c4 c5 u : Value} (h : w.heap[g]? = some (.cells #[c0, c1, c2, c3, c4, c5] t (0, 0))) : (w.setCell ⟨g, 2, none⟩ u).heap[g]? = some (.cells #[c0, c1, u, c3, c4, c5] t (0, 0)) := ag h 2 u rfl
theorem jB {w : World} {g : Nat} {t : TypeId} {c0 c1 c2 c3 c4 c5 u : Value} (h : w.heap[g]? = some (.cells #[c0, c1, c2, c3, c4, c5] t (0, 0))) : (w.setCell ⟨g, 3, none⟩ u).heap[g]? = some (.cells #[c0, c1, c2, u, c4, c5] t (0, 0)) := ag h 3 u rfl
theorem jC {w : World} {g : Nat} {t : TypeId} {c0 c1 c2 c3 c4 c5 u : Value} (h : w.heap[g]? = some (.cells #[c0, c1, c2, c3, c4, c5] t (0, 0))) : (w.setCell ⟨g, 4, none⟩ u).heap[g]? = some (.cells #[c0, c1, c2, c3, u, c5] t (0, 0)) := ag h 4 u rfl
theorem jD {w : World} {g : Nat} {t : TypeId} {c0 c1 c2 c3 c4 c5 u : Value} (h : w.heap[g]? = some (.cells #[c0, c1, c2, c3, c4, c5] t (0, 0))) : (w.setCell ⟨g, 5, none⟩ u).heap[g]? = some (.cells #[c0, c1, c2, c3, c4, u] t (0, 0)) := ag h 5 u rfl
theorem jE {w : World} {g : Nat} {t : TypeId} {c0 c1 c2 c3 c4 c5 c6 u : Value} (h : w.heap[g]? = some (.cells #[c0, c1, c2, c3, c4, c5, c6] t (0, 0))) : (w.setCell ⟨g, 0, none⟩ u).heap[g]? = some (.cells #[u, c1, c2, c3, c4, c5, c6] t (0, 0)) := ag h 0 u rfl
theorem jF {w : World} {g : Nat} {t : TypeId} {c0 c1 c2 c3 c4 c5 c6 u : Value} (h : w.heap[g]? = some (.cells #[c0, c1, c2, c3, c4, c5, c6] t (0, 0))) : (w.setCell ⟨g, 1, none⟩ u).heap[g]? = some (.cells #[c0, u, c2, c3, c4, c5, c6] t (0, 0)) := ag h 1 u rfl
theorem jG {w : World} {g : Nat} {t : TypeId} {c0 c1 c2 c3 c4 c5 c6 u : Value} (h : w.heap[g]? = some (.cells #[c0, c1, c2, c3, c4, c5, c6] t (0, 0))) : (w.setCell ⟨g, 2, none⟩ u).heap[g]? = some (.cells #[c0, c1, u, c3, c4, c5, c6] t (0, 0)) := ag h 2 u rfl
theorem jH {w : World} {g : Nat} {t : TypeId} {c0 c1 c2 c3 c4 c5 c6 u : Value} (h : w.heap[g]? = some (.cells #[c0, c1, c2, c3, c4, c5, c6] t (0, 0))) : (w.setCell ⟨g, 3, none⟩ u).heap[g]? = some (.cells #[c0, c1, c2, u, c4, c5, c6] t (0, 0)) := ag h 3 u rfl
theorem jI {w : World} {g : Nat} {t : TypeId} {c0 c1 c2 c3 c4 c5 c6 u : Value} (h : w.heap[g]? = some (.cells #[c0, c1, c2, c3, c4, c5, c6] t (0, 0))) : (w.setCell ⟨g, 4, none⟩ u).heap[g]? = some (.cells #[c0, c1, c2, c3, u, c5, c6] t (0, 0)) := ag h 4 u rfl
theorem jJ {w : World} {g : Nat} {t : TypeId} {c0 c1 c2 c3 c4 c5 c6 u : Value} (h : w.heap[g]? = some (.cells #[c0, c1, c2, c3, c4, c5, c6] t (0, 0))) : (w.setCell ⟨g, 5, none⟩ u).heap[g]? = some (.cells #[c0, c1, c2, c3, c4, u, c6] t (0, 0)) := ag h 5 u rfl
theorem jK {w : World} {g : Nat} {t : TypeId} {c0 c1 c2 c3 c4 c5 c6 u : Value} (h : w.heap[g]? = some (.cells #[c0, c1, c2, c3, c4, c5, c6] t (0, 0))) : (w.setCell ⟨g, 6, none⟩ u).heap[g]? = some (.cells #[c0, c1, c2, c3, c4, c5, u] t (0, 0)) := ag h 6 u rfl
theorem jL {w : World} {g : Nat} {t : TypeId} {c0 c1 c2 c3 c4 c5 c6 c7 u : Value} (h : w.heap[g]? = some (.cells #[c0, c1, c2, c3, c4, c5, c6, c7] t (0, 0))) : (w.setCell ⟨g, 0, none⟩ u).heap[g]? = some (.cells #[u, c1, c2, c3, c4, c5, c6, c7] t (0, 0)) := ag h 0 u rfl
theorem jM {w : World} {g : Nat} {t : TypeId} {c0 c1 c2 c3 c4 c5 c6 c7 u : Value} (h : w.heap[g]? = some (.cells #[c0, c1, c2, c3, c4, c5, c6, c7] t (0, 0))) : (w.setCell ⟨g, 1, none⟩ u).heap[g]? = some (.cells #[c0, u, c2, c3, c4, c5, c6, c7] t (0, 0)) := ag h 1 u rfl
theorem jN {w : World} {g : Nat} {t : TypeId} {c0 c1 c2 c3 c4 c5 c6 c7 u : Value} (h : w.heap[g]? = some (.cells #[c0, c1, c2, c3, c4, c5, c6, c7] t (0, 0))) : (w.setCell ⟨g, 2, none⟩ u).heap[g]? = some (.cells #[c0, c1, u, c3, c4, c5, c6, c7] t (0, 0)) := ag h 2 u rfl
theorem jO {w : World} {g : Nat} {t : TypeId} {c0 c1 c2 c3 c4 c5 c6 c7 u : Value} (h : w.heap[g]? = some (.cells #[c0, c1, c2, c3, c4, c5, c6, c7] t (0, 0))) : (w.setCell ⟨g, 3, none⟩ u).heap[g]? = some (.cells #[c0, c1, c2, u, c4, c5, c6, c7] t (0, 0)) := ag h 3 u rfl
theorem jP {w : World} {g : Nat} {t : TypeId} {c0 c1 c2 c3 c4 c5 c6 c7 u : Value} (h : w.heap[g]? = some (.cells #[c0, c1, c2, c3, c4, c5, c6, c7] t (0, 0))) : (w.setCell ⟨g, 4, none⟩ u).heap[g]? = some (.cells #[c0, c1, c2, c3, u, c5, c6, c7] t (0, 0)) := ag h 4 u rfl
theorem jQ {w : World} {g : Nat} {t : TypeId} {c0 c1 c2 c3 c4 c5 c6 c7 u : Value} (h : w.heap[g]? = some (.cells #[c0, c1, c2, c3, c4, c5, c6, c7] t (0, 0))) : (w.setCell ⟨g, 5, none⟩ u).heap[g]? = some (.cells #[c0, c1, c2, c3, c4, u, c6, c7] t (0, 0)) := ag h 5 u rfl
theorem jR {w : World} {g : Nat} {t : TypeId} {c0 c1 c2 c3 c4 c5 c6 c7 u : Value} (h : w.heap[g]? = some (.cells #[c0, c1, c2, c3, c4, c5, c6, c7] t (0, 0))) : (w.setCell ⟨g, 6, none⟩ u).heap[g]? = some (.cells #[c0, c1, c2, c3, c4, c5, u, c7] t (0, 0)) := ag h 6 u rfl
theorem jS {w : World} {g : Nat} {t : TypeId} {c0 c1 c2 c3 c4 c5 c6 c7 u : Value} (h : w.heap[g]? = some (.cells #[c0, c1, c2, c3, c4, c5, c6, c7] t (0, 0))) : (w.setCell ⟨g, 7, none⟩ u).heap[g]? = some (.cells #[c0, c1, c2, c3, c4, c5, c6, u] t (0, 0)) := ag h 7 u rfl
theorem jT {w : World} {g : Nat} {t : TypeId} {c0 c1 c2 c3 c4 c5 c6 c7 c8 u : Value} (h : w.heap[g]? = some (.cells #[c0, c1, c2, c3, c4, c5, c6, c7, c8] t (0, 0))) : (w.setCell ⟨g, 0, none⟩ u).heap[g]? = some (.cells #[u, c1, c2, c3, c4, c5, c6, c7, c8] t (0, 0)) := ag h 0 u rfl
theorem jU {w : World} {g : Nat} {t : TypeId} {c0 c1 c2 c3 c4 c5 c6 c7 c8 u : Value} (h : w.heap[g]? = some (.cells #[c0, c1, c2, c3, c4, c5, c6, c7, c8] t (0, 0))) : (w.setCell ⟨g, 1, none⟩ u).heap[g]? = some (.cells #[c0, u, c2, c3, c4, c5, c6, c7, c8] t (0, 0)) := ag h 1 u rfl
theorem jV {w : World} {g : Nat} {t : TypeId} {c0 c1 c2 c3 c4 c5 c6 c7 c8 u : Value} (h : w.heap[g]? = some (.cells #[c0, c1, c2, c3, c4, c5, c6, c7, c8] t (0, 0))) : (w.setCell ⟨g, 2, none⟩ u).heap[g]? = some (.cells #[c0, c1, u, c3, c4, c5, c6, c7, c8] t (0, 0)) := ag h 2 u rfl
theorem jW {w : World} {g : Nat} {t : TypeId} {c0 c1 c2 c3 c4 c5 c6 c7 c8 u : Value} (h : w.heap[g]? = some (.cells #[c0, c1, c2, c3, c4, c5, c6, c7, c8] t (0, 0))) : (w.setCell ⟨g, 3, none⟩ u).heap[g]? = some (.cells #[c0, c1, c2, u, c4, c5, c6, c7, c8] t (0, 0)) := ag h 3 u rfl
theorem jX {w : World} {g : Nat} {t : TypeId} {c0 c1 c2 c3 c4 c5 c6 c7 c8 u : Value} (h : w.heap[g]? = some (.cells #[c0, c1, c2, c3, c4, c5, c6, c7, c8] t (0, 0))) : (w.setCell ⟨g, 4, none⟩ u).heap[g]? = some (.cells #[c0, c1, c2, c3, u, c5, c6, c7, c8] t (0, 0)) := ag h 4 u rfl
theorem jY {w : World} {g : Nat} {t : TypeId} {c0 c1 c2 c3 c4 c5 c6 c7 c8 u : Value} (h : w.heap[g]? = some (.cells #[c0, c1, c2, c3, c4, c5, c6, c7, c8] t (0, 0))) : (w.setCell ⟨g, 5, none⟩ u).heap[g]? = some (.cells #[c0, c1, c2, c3, c4, u, c6, c7, c8] t (0, 0)) := ag h 5 u rfl
theorem jZ {w : World} {g : Nat} {t : TypeId} {c0 c1 c2 c3 c4 c5 c6 c7 c8 u : Value} (h : w.heap[g]? = some (.cells #[c0, c1, c2, c3, c4, c5, c6, c7, c8] t (0, 0))) : (w.setCell ⟨g, 6, none⟩ u).heap[g]? = some (.cells #[c0, c1, c2, c3, c4, c5, u, c7, c8] t (0, 0)) := ag h 6 u rfl
theorem j5 {w : World} {g : Nat} {t : TypeId} {c0 c1 c2 c3 c4 c5 c6 c7 c8 u : Value} (h : w.heap[g]? = some (.cells #[c0, c1, c2, c3, c4, c5, c6, c7, c8] t (0, 0))) : (w.setCell ⟨g, 7, none⟩ u).heap[g]? = some (.cells #[c0, c1, c2, c3, c4, c5, c6, u, c8] t (0, 0)) := ag h 7 u rfl
theorem j6 {w : World} {g : Nat} {t : TypeId} {c0 c1 c2 c3 c4 c5 c6 c7 c8 u : Value} (h : w.heap[g]? = some (.cells #[c0, c1, c2, c3, c4, c5, c6, c7, c8] t (0, 0))) : (w.setCell ⟨g, 8, none⟩ u).heap[g]? = some (.cells #[c0, c1, c2, c3, c4, c5, c6, c7, u] t (0, 0)) := ag h 8 u rfl
theorem xbl {p : Prop} (h : p := by repeat (first | (with_reducible first | exact HB.out | apply cq | apply dc | apply eA | refine eD ?_ (Zz.out (by assumption))) | exact HB.out)) : p := h
theorem xst {w W w2 : World} (k : Below W.heap.size W w2) (h : Below w.heap.size w W := by repeat (first | (with_reducible first | exact HB.out | apply cq | apply dc | apply eA | refine eD ?_ (Zz.out (by assumption))) | exact HB.out)) : Zz (Below w.heap.size w w2) := ⟨iY h k⟩
theorem xsz {w W : World} {g : Nat} (hg : g = W.heap.size) (h : Below w.heap.size w W := by repeat (first | (with_reducible first | exact HB.out | apply cq | apply dc | apply eA | refine eD ?_ (Zz.out (by assumption))) | exact HB.out)) : Zz (w.heap.size ≤ g) := ⟨by rw [hg]; exact co h⟩
theorem xbk {p : Prop} (h : p := by repeat (first | (with_reducible first | refine ai ?_ _ | refine aj ?_ | refine ah ?_ _ | exact Zz.out (by assumption) | refine cC ?_ (Zz.out (by assumption)) _ | apply ji | apply jj | apply jk | apply jl | apply jm | apply jo | apply jp | apply jq | apply jr | apply js | apply jt | apply ju | apply jv | apply jw | apply jx | apply jy | apply jz | apply jA | apply jB | apply jC | apply jD | apply jE | apply jF | apply jG | apply jH | apply jI | apply jJ | apply jK | apply jL | apply jM | apply jN | apply jO | apply jP | apply jQ | apply jR | apply jS | apply jT | apply jU | apply jV | apply jW | apply jX | apply jY | apply jZ | apply j5 | apply j6) | refine cC ?_ (Zz.out (by assumption)) _ | exact Zz.out (by assumption))) : p := h
theorem xbb {w w1 : World} {g : Nat} {o : Obj} (hb : Below w.heap.size w w1) (h : w.heap[g]? = some o := by repeat (first | (with_reducible first | refine ai ?_ _ | refine aj ?_ | refine ah ?_ _ | exact Zz.out (by assumption) | refine cC ?_ (Zz.out (by assumption)) _ | apply ji | apply jj | apply jk | apply jl | apply jm | apply jo | apply jp | apply jq | apply jr | apply js | apply jt | apply ju | apply jv | apply jw | apply jx | apply jy | apply jz | apply jA | apply jB | apply jC | apply jD | apply jE | apply jF | apply jG | apply jH | apply jI | apply jJ | apply jK | apply jL | apply jM | apply jN | apply jO | apply jP | apply jQ | apply jR | apply jS | apply jT | apply jU | apply jV | apply jW | apply jX | apply jY | apply jZ | apply j5 | apply j6) | refine cC ?_ (Zz.out (by assumption)) _ | exact Zz.out (by assumption))) : Zz (w1.heap[g]? = some o) := ⟨eE h hb⟩
theorem xlt {W : World} {g g' : Nat} {o : Obj} (hg : g' = W.heap.size) (h : W.heap[g]? = some o := by repeat (first | (with_reducible first | refine ai ?_ _ | refine aj ?_ | refine ah ?_ _ | exact Zz.out (by assumption) | refine cC ?_ (Zz.out (by assumption)) _ | apply ji | apply jj | apply jk | apply jl | apply jm | apply jo | apply jp | apply jq | apply jr | apply js | apply jt | apply ju | apply jv | apply jw | apply jx | apply jy | apply jz | apply jA | apply jB | apply jC | apply jD | apply jE | apply jF | apply jG | apply jH | apply jI | apply jJ | apply jK | apply jL | apply jM | apply jN | apply jO | apply jP | apply jQ | apply jR | apply jS | apply jT | apply jU | apply jV | apply jW | apply jX | apply jY | apply jZ | apply j5 | apply j6) | refine cC ?_ (Zz.out (by assumption)) _ | exact Zz.out (by assumption))) : Zz (g ≠ g') := ⟨by rw [hg]; exact Nat.ne_of_lt (fH h)⟩
theorem xgt {W : World} {g g' : Nat} {o : Obj} (hg : g' = W.heap.size) (h : W.heap[g]? = some o := by repeat (first | (with_reducible first | refine ai ?_ _ | refine aj ?_ | refine ah ?_ _ | exact Zz.out (by assumption) | refine cC ?_ (Zz.out (by assumption)) _ | apply ji | apply jj | apply jk | apply jl | apply jm | apply jo | apply jp | apply jq | apply jr | apply js | apply jt | apply ju | apply jv | apply jw | apply jx | apply jy | apply jz | apply jA | apply jB | apply jC | apply jD | apply jE | apply jF | apply jG | apply jH | apply jI | apply jJ | apply jK | apply jL | apply jM | apply jN | apply jO | apply jP | apply jQ | apply jR | apply jS | apply jT | apply jU | apply jV | apply jW | apply jX | apply jY | apply jZ | apply j5 | apply j6) | refine cC ?_ (Zz.out (by assumption)) _ | exact Zz.out (by assumption))) : Zz (g' ≠ g) := ⟨by rw [hg]; exact Nat.ne_of_gt (fH h)⟩
theorem xrr {p : Prop} (h : p := by first | rfl | (simp; done) | (simp [*]; done) | (simp [wrap64]; done)) : p := h
theorem xre {p : Prop} (h : p := by first | rfl | (simp [ap, aq] <;> first | rfl | (simp only [bi, bne, Bool.not_not]; done)) | (simp [*, ap, aq] <;> rfl)) : p := h
theorem xdr {p : Prop} (h : p := by repeat (first | exact Drawn0.refl _ | apply Drawn0.step)) : p := h
theorem xkd {p q : Prop} (f : Zz q) (h : q → p := by intro hq_; (with_reducible repeat (first | apply Kd.R_alloc | apply Kd.R_drewN | apply Kd.R_drew)); exact hq_) : p := h f.out
theorem xom {p : Prop} (h : p := by first | omega | exact Nat.le_refl _) : p := h
theorem xmo {p : Prop} (h : p := by
  repeat' first
   | (with_reducible apply ih0) | (with_reducible apply ih1) | (with_reducible apply ih2) | (with_reducible apply ih3) | (with_reducible apply ih4) | (with_reducible apply ih5) | (with_reducible apply ih6) | (with_reducible apply ih7) | (with_reducible apply ih8) | (with_reducible apply ih9)
   | (with_reducible apply ih10) | (with_reducible apply ih11) | (with_reducible apply ih12) | (with_reducible apply ih13) | (with_reducible apply ih14) | (with_reducible apply ih15) | (with_reducible apply ih16) | (with_reducible apply ih17) | (with_reducible apply ih18) | (with_reducible apply ih19)
   | (with_reducible apply m0) | (with_reducible apply m1) | (with_reducible apply m2) | (with_reducible apply m3) | (with_reducible apply m4) | (with_reducible apply m5) | (with_reducible apply m6) | (with_reducible apply m7) | (with_reducible apply m8) | (with_reducible apply m9)
   | (with_reducible apply m10) | (with_reducible apply m11) | (with_reducible apply m12) | (with_reducible apply m13) | (with_reducible apply m14) | (with_reducible apply m15) | (with_reducible apply m16) | (with_reducible apply m17) | (with_reducible apply m18) | (with_reducible apply m19)
   | (with_reducible exact LeO.refl _) | (with_reducible exact LeO.none _) | (with_reducible refine LeO.ite ?_ ?_) | (with_reducible refine LeO.bind ?_ (fun _ => ?_))
   | apply ih0 | apply ih1 | apply ih2 | apply ih3 | apply ih4 | apply ih5 | apply ih6 | apply ih7 | apply ih8 | apply ih9 | apply ih10 | apply ih11 | apply ih12 | apply ih13 | apply ih14 | apply ih15 | apply ih16 | apply ih17 | apply ih18 | apply ih19
   | apply m0 | apply m1 | apply m2 | apply m3 | apply m4 | apply m5 | apply m6 | apply m7 | apply m8 | apply m9 | apply m10 | apply m11 | apply m12 | apply m13 | apply m14 | apply m15 | apply m16 | apply m17 | apply m18 | apply m19
   | exact LeO.none _ | refine LeO.ite ?_ ?_ | refine LeO.bind ?_ (fun _ => ?_)) : p := h
theorem xod {p : Prop} [Decidable p] (h : decide p = true := by first | (with_reducible assumption) | assumption) : p := of_decide_eq_true h
section
variable {P : Program} {ops : Array Oper} {rest : List Oper} {o : Oper} {a : Act} {Q : Exit → Act → World → Prop}
theorem xgl {w : World} (N : Tmp) {f : FuncId} {fn : Func} {asx : Array Operand} {ts : Array TypeId} (hf : P.funcs[f]? = some fn) (args : Array Value)
    (h : Calls P f args w fun e w' => ∃ v, e = .returned v ∧ wpList P ops Q rest (a.put (some N) v) w')
    (hop : o.op = .call { callee := .value (.func f), args := asx, argTypes := ts } := by rfl) (hd : o.dst = some N := by rfl) (hg : o.guard = none := by rfl)
    (hname : (fn.name == "runtime.NumGoroutine") = false := by kernel_rfl) (hb : fn.body.isSome = true := by rfl)
    (hargs : asx.map a.eval = args := by (try simp only [List.map_toArray, List.map_cons, List.map_nil]); first | done | rfl | (simp only [List.length_drop, List.length_take]; rfl)) : wpList P ops Q (o :: rest) a w :=
  bc (some N) hd hg hf hname hb args hop hargs h
theorem xev {W : World} (N : Tmp) (cs : Array Value) (t : TypeId)
    (h : ∀ g, g = W.heap.size → ∀ w1, w1.heap[g]? = some (.cells cs t (0, 0)) → Below W.heap.size W w1 → wpList P ops Q rest (a.put o.dst (.pointer (some ⟨g, 0, none⟩))) w1)
    (hd : o.dst = some N := by rfl) (hgd : o.guard = none := by rfl)
    (hrun : (execOp a.eval o).run P W = .ok (.value (.pointer (some ⟨W.heap.size, 0, none⟩))) (W.alloc (.cells cs t (0, 0))) := by first | (go_simp; done) | (go_simp; rfl)) : wpList P ops Q (o :: rest) a W :=
  kb hgd hd hrun h
end
section
variable {w : World} {g : Nat} {t : TypeId} {c0 c1 c2 c3 c4 c5 c6 c7 c8 : Value}
theorem xc4 (h : Zz (w.heap[g]? = some (.cells #[c0, c1, c2, c3] t (0, 0)))) : w.cell? ⟨g, 0, none⟩ = some c0 ∧ w.cell? ⟨g, 1, none⟩ = some c1 ∧ w.cell? ⟨g, 2, none⟩ = some c2 ∧ w.cell? ⟨g, 3, none⟩ = some c3 := ⟨(ba h.out 0).trans rfl, (ba h.out 1).trans rfl, (ba h.out 2).trans rfl, (ba h.out 3).trans rfl⟩
theorem xc5 (h : Zz (w.heap[g]? = some (.cells #[c0, c1, c2, c3, c4] t (0, 0)))) : w.cell? ⟨g, 0, none⟩ = some c0 ∧ w.cell? ⟨g, 1, none⟩ = some c1 ∧ w.cell? ⟨g, 2, none⟩ = some c2 ∧ w.cell? ⟨g, 3, none⟩ = some c3 ∧ w.cell? ⟨g, 4, none⟩ = some c4 := ⟨(ba h.out 0).trans rfl, (ba h.out 1).trans rfl, (ba h.out 2).trans rfl, (ba h.out 3).trans rfl, (ba h.out 4).trans rfl⟩
theorem xc8 (h : Zz (w.heap[g]? = some (.cells #[c0, c1, c2, c3, c4, c5, c6, c7] t (0, 0)))) : w.cell? ⟨g, 0, none⟩ = some c0 ∧ w.cell? ⟨g, 1, none⟩ = some c1 ∧ w.cell? ⟨g, 2, none⟩ = some c2 ∧ w.cell? ⟨g, 3, none⟩ = some c3 ∧ w.cell? ⟨g, 4, none⟩ = some c4 ∧ w.cell? ⟨g, 5, none⟩ = some c5 ∧ w.cell? ⟨g, 6, none⟩ = some c6 ∧ w.cell? ⟨g, 7, none⟩ = some c7 := ⟨(ba h.out 0).trans rfl, (ba h.out 1).trans rfl, (ba h.out 2).trans rfl, (ba h.out 3).trans rfl, (ba h.out 4).trans rfl, (ba h.out 5).trans rfl, (ba h.out 6).trans rfl, (ba h.out 7).trans rfl⟩
variable {cs : Array Value}
theorem xf (h : Zz (w.heap[g]? = some (.cells cs t (0, 0)))) : ∀ i, w.frozen? ⟨g, i, none⟩ = false := fun i => gX h.out i
end
end Go.Proofs.YticohlbfolnmpaaDoorW.PrintMore
namespace Go.Proofs
open Go.Shelf
open Go.RowKit in
def Tryd.lays156_ren : Go.Shelf.Ren := ⟨fun | 156 => 36 | 165 => 50 | 166 => 51 | 169 => 52 | 240 => 68 | 241 => 69 | 276 => 92 | 277 => 93 | n => n, fun | 31 => 43 | 9 => 9 | 3 => 3 | 4 => 4 | 0 => 0 | 20 => 20 | 72 => 83 | 76 => 87 | 70 => 81 | 37 => 77 | 75 => 86 | 127 => 103 | 164 => 121 | 5 => 5 | 80 => 89 | n => n, fun | n => n⟩
theorem Tryd.lays156 : Go.Proofs.Lays.n156 Tryd.prog Tryd.lays156_ren := {
  mixed := by kernel_rfl
  f156 := Tryd.func36.trans (congrArg some (by kernel_rfl))
  f165 := Tryd.func50.trans (congrArg some (by kernel_rfl))
  f166 := Tryd.func51.trans (congrArg some (by kernel_rfl))
  f169 := Tryd.func52.trans (congrArg some (by kernel_rfl))
  f240 := Tryd.func68.trans (congrArg some (by kernel_rfl))
  f241 := Tryd.func69.trans (congrArg some (by kernel_rfl))
  f276 := Tryd.func92.trans (congrArg some (by kernel_rfl))
  f277 := Tryd.func93.trans (congrArg some (by kernel_rfl))
  t0 := Tryd.underlying0
  a0 := Tryd.isAgg0
  z0 := Tryd.sizeOf0
  v0 := Tryd.zeroValue0
  t3 := Tryd.underlying3
  a3 := Tryd.isAgg3
  z3 := Tryd.sizeOf3
  v3 := Tryd.zeroValue3
  t4 := Tryd.underlying4
  a4 := Tryd.isAgg4
  z4 := Tryd.sizeOf4
  v4 := Tryd.zeroValue4
  t9 := Tryd.underlying9
  a9 := Tryd.isAgg9
  z9 := Tryd.sizeOf9
  v9 := Tryd.zeroValue9
  t20 := Tryd.underlying20
  a20 := Tryd.isAgg20
  z20 := Tryd.sizeOf20
  v20 := Tryd.zeroValue20
  t31 := Tryd.underlying43
  a31 := Tryd.isAgg43
  z31 := Tryd.sizeOf43
  v31 := Tryd.zeroValue43
  t37 := Tryd.underlying77
  a37 := Tryd.isAgg77
  z37 := Tryd.sizeOf77
  v37 := Tryd.zeroValue77
  t70 := Tryd.underlying81
  a70 := Tryd.isAgg81
  z70 := Tryd.sizeOf81
  v70 := Tryd.zeroValue81
  t72 := Tryd.underlying83
  a72 := Tryd.isAgg83
  z72 := Tryd.sizeOf83
  v72 := Tryd.zeroValue83
  t75 := Tryd.underlying86
  a75 := Tryd.isAgg86
  z75 := Tryd.sizeOf86
  v75 := Tryd.zeroValue86
  t76 := Tryd.underlying87
  a76 := Tryd.isAgg87
  z76 := Tryd.sizeOf87
  v76 := Tryd.zeroValue87
  t127 := Tryd.underlying103
  a127 := Tryd.isAgg103
  z127 := Tryd.sizeOf103
  v127 := Tryd.zeroValue103
  t164 := Tryd.underlying121
  a164 := Tryd.isAgg121
  z164 := Tryd.sizeOf121
  v164 := Tryd.zeroValue121 }
theorem Tryd.Builder_Extra_156 : Builder.Extra Tryd.prog Tryd.lays156_ren := {
  sizeBuilder := by kernel_rfl
  liesBuilder := by kernel_rfl
  t5 := Tryd.underlying5
  a5 := Tryd.isAgg5
  z5 := Tryd.sizeOf5
  v5 := Tryd.zeroValue5
  infoByte := by kernel_rfl
  cellsByte := by kernel_rfl
  sizeByte := by kernel_rfl
  neB5 := by decide }
open Go.RowKit in
theorem Tryd.strings_Join_none (a : Option Addr) (c : Nat) (sep : ByteArray) (w : World) :
    Calls Tryd.prog 36 #[.slice a 0 c, .string sep] w fun e w' => e = .returned (.string ⟨#[]⟩) ∧ w' = w := Any.strings_Join_none Tryd.lays156 Tryd.Builder_Extra_156 a c sep w
open Go.RowKit in
theorem Tryd.strings_Join (bk o c : Nat) (xs : List ByteArray) (sep : ByteArray) (w : World) (hcells : ∀ (j : Nat) x, xs[j]? = some x → w.cell? ⟨bk, o + j, none⟩ = some (.string x)) (hbk : bk < w.heap.size) (hN : xs.length ≤ 140737488355328) (hcap : xs.length ≤ c) (hlen : (Lib.join (xs.map (·.data.toList)) sep.data.toList).length ≤ 140737488355328) :
    Calls Tryd.prog 36 #[.slice (some ⟨bk, o, none⟩) xs.length c, .string sep] w fun e w' => e = .returned (.string ⟨(Lib.join (xs.map (·.data.toList)) sep.data.toList).toArray⟩) ∧ Below w.heap.size w w' := Any.strings_Join Tryd.lays156 Tryd.Builder_Extra_156 bk o c xs sep w hcells hbk hN hcap hlen
open Go.RowKit Go.Lib in
def Tryd.lays219_ren : Go.Shelf.Ren := ⟨fun | 219 => 58 | 217 => 74 | 225 => 75 | 224 => 76 | 267 => 77 | 266 => 95 | 314 => 96 | n => n, fun | 9 => 9 | 3 => 3 | 4 => 4 | 5 => 5 | 46 => 70 | 146 => 125 | 51 => 124 | n => n, fun | 1 => 0 | n => n⟩
theorem Tryd.lays219 : Go.Proofs.Lays.n219 Tryd.prog Tryd.lays219_ren := {
  mixed := by kernel_rfl
  f217 := Tryd.func74.trans (congrArg some (by kernel_rfl))
  f219 := Tryd.func58.trans (congrArg some (by kernel_rfl))
  f224 := Tryd.func76.trans (congrArg some (by kernel_rfl))
  f225 := Tryd.func75.trans (congrArg some (by kernel_rfl))
  f266 := Tryd.func95.trans (congrArg some (by kernel_rfl))
  f267 := Tryd.func77.trans (congrArg some (by kernel_rfl))
  f314 := Tryd.func96.trans (congrArg some (by kernel_rfl))
  t3 := Tryd.underlying3
  a3 := Tryd.isAgg3
  z3 := Tryd.sizeOf3
  v3 := Tryd.zeroValue3
  t4 := Tryd.underlying4
  a4 := Tryd.isAgg4
  z4 := Tryd.sizeOf4
  v4 := Tryd.zeroValue4
  t5 := Tryd.underlying5
  a5 := Tryd.isAgg5
  z5 := Tryd.sizeOf5
  v5 := Tryd.zeroValue5
  t9 := Tryd.underlying9
  a9 := Tryd.isAgg9
  z9 := Tryd.sizeOf9
  v9 := Tryd.zeroValue9
  t46 := Tryd.underlying70
  a46 := Tryd.isAgg70
  z46 := Tryd.sizeOf70
  v46 := Tryd.zeroValue70
  t51 := Tryd.underlying124
  a51 := Tryd.isAgg124
  z51 := Tryd.sizeOf124
  v51 := Tryd.zeroValue124
  t146 := Tryd.underlying125
  a146 := Tryd.isAgg125
  z146 := Tryd.sizeOf125
  v146 := Tryd.zeroValue125
  g1 := by kernel_rfl }
open Go.RowKit Go.Lib in
theorem Tryd.stringslite_Index (s sub : ByteArray) (m : Int) (w : World) (hs : s.size < 4294967281) (hm : w.cell? ⟨0, 0, none⟩ = some (.int .i64 m)) :
    Calls Tryd.prog 58 #[.string s, .string sub] w fun e w' => e = .returned (.int .i64 (Lib.index s.data.toList sub.data.toList)) ∧ w' = w := Any.stringslite_Index Tryd.lays219 s sub m w hs hm
open Go.RowKit Go.Lib in
def Tryd.lays220_ren : Go.Shelf.Ren := ⟨fun | 220 => 41 | 219 => 58 | 217 => 74 | 225 => 75 | 224 => 76 | 267 => 77 | 266 => 95 | 314 => 96 | n => n, fun | 9 => 9 | 4 => 4 | 3 => 3 | 5 => 5 | 46 => 70 | 146 => 125 | 51 => 124 | n => n, fun | 1 => 0 | n => n⟩
theorem Tryd.lays220 : Go.Proofs.Lays.n220 Tryd.prog Tryd.lays220_ren := {
  mixed := by kernel_rfl
  f217 := Tryd.func74.trans (congrArg some (by kernel_rfl))
  f219 := Tryd.func58.trans (congrArg some (by kernel_rfl))
  f220 := Tryd.func41.trans (congrArg some (by kernel_rfl))
  f224 := Tryd.func76.trans (congrArg some (by kernel_rfl))
  f225 := Tryd.func75.trans (congrArg some (by kernel_rfl))
  f266 := Tryd.func95.trans (congrArg some (by kernel_rfl))
  f267 := Tryd.func77.trans (congrArg some (by kernel_rfl))
  f314 := Tryd.func96.trans (congrArg some (by kernel_rfl))
  t3 := Tryd.underlying3
  a3 := Tryd.isAgg3
  z3 := Tryd.sizeOf3
  v3 := Tryd.zeroValue3
  t4 := Tryd.underlying4
  a4 := Tryd.isAgg4
  z4 := Tryd.sizeOf4
  v4 := Tryd.zeroValue4
  t5 := Tryd.underlying5
  a5 := Tryd.isAgg5
  z5 := Tryd.sizeOf5
  v5 := Tryd.zeroValue5
  t9 := Tryd.underlying9
  a9 := Tryd.isAgg9
  z9 := Tryd.sizeOf9
  v9 := Tryd.zeroValue9
  t46 := Tryd.underlying70
  a46 := Tryd.isAgg70
  z46 := Tryd.sizeOf70
  v46 := Tryd.zeroValue70
  t51 := Tryd.underlying124
  a51 := Tryd.isAgg124
  z51 := Tryd.sizeOf124
  v51 := Tryd.zeroValue124
  t146 := Tryd.underlying125
  a146 := Tryd.isAgg125
  z146 := Tryd.sizeOf125
  v146 := Tryd.zeroValue125
  g1 := by kernel_rfl }
open Go.RowKit Go.Lib in
theorem Tryd.stringslite_Cut (s sep : ByteArray) (m : Int) (w : World) (hs : s.size < 4294967281) (hm : w.cell? ⟨0, 0, none⟩ = some (.int .i64 m)) :
    Calls Tryd.prog 41 #[.string s, .string sep] w fun e w' => e = .returned (.tuple #[.string ⟨(Lib.cut s.data.toList sep.data.toList).1.toArray⟩, .string ⟨(Lib.cut s.data.toList sep.data.toList).2.1.toArray⟩, .bool (Lib.cut s.data.toList sep.data.toList).2.2]) ∧ ∃ n, w' = w.drewN n := Any.stringslite_Cut Tryd.lays220 s sep m w hs hm
def Tryd.lays145_ren : Go.Shelf.Ren := ⟨fun | 145 => 22 | 220 => 41 | 219 => 58 | 217 => 74 | 225 => 75 | 224 => 76 | 267 => 77 | 266 => 95 | 314 => 96 | n => n, fun | 9 => 9 | 4 => 4 | 59 => 47 | 3 => 3 | 5 => 5 | 46 => 70 | 146 => 125 | 51 => 124 | n => n, fun | 1 => 0 | n => n⟩
theorem Tryd.lays145 : Go.Proofs.Lays.n145 Tryd.prog Tryd.lays145_ren := {
  mixed := by kernel_rfl
  f145 := Tryd.func22.trans (congrArg some (by kernel_rfl))
  f217 := Tryd.func74.trans (congrArg some (by kernel_rfl))
  f219 := Tryd.func58.trans (congrArg some (by kernel_rfl))
  f220 := Tryd.func41.trans (congrArg some (by kernel_rfl))
  f224 := Tryd.func76.trans (congrArg some (by kernel_rfl))
  f225 := Tryd.func75.trans (congrArg some (by kernel_rfl))
  f266 := Tryd.func95.trans (congrArg some (by kernel_rfl))
  f267 := Tryd.func77.trans (congrArg some (by kernel_rfl))
  f314 := Tryd.func96.trans (congrArg some (by kernel_rfl))
  t3 := Tryd.underlying3
  a3 := Tryd.isAgg3
  z3 := Tryd.sizeOf3
  v3 := Tryd.zeroValue3
  t4 := Tryd.underlying4
  a4 := Tryd.isAgg4
  z4 := Tryd.sizeOf4
  v4 := Tryd.zeroValue4
  t5 := Tryd.underlying5
  a5 := Tryd.isAgg5
  z5 := Tryd.sizeOf5
  v5 := Tryd.zeroValue5
  t9 := Tryd.underlying9
  a9 := Tryd.isAgg9
  z9 := Tryd.sizeOf9
  v9 := Tryd.zeroValue9
  t46 := Tryd.underlying70
  a46 := Tryd.isAgg70
  z46 := Tryd.sizeOf70
  v46 := Tryd.zeroValue70
  t51 := Tryd.underlying124
  a51 := Tryd.isAgg124
  z51 := Tryd.sizeOf124
  v51 := Tryd.zeroValue124
  t59 := Tryd.underlying47
  a59 := Tryd.isAgg47
  z59 := Tryd.sizeOf47
  v59 := Tryd.zeroValue47
  t146 := Tryd.underlying125
  a146 := Tryd.isAgg125
  z146 := Tryd.sizeOf125
  v146 := Tryd.zeroValue125
  g1 := by kernel_rfl }
open Go.RowKit Go.Lib in
theorem Tryd.strings_Cut (s sep : ByteArray) (m : Int) (w : World) (hs : s.size < 4294967281) (hm : w.cell? ⟨0, 0, none⟩ = some (.int .i64 m)) :
    Calls Tryd.prog 22 #[.string s, .string sep] w fun e w' => e = .returned (.tuple #[.string ⟨(Lib.cut s.data.toList sep.data.toList).1.toArray⟩, .string ⟨(Lib.cut s.data.toList sep.data.toList).2.1.toArray⟩, .bool (Lib.cut s.data.toList sep.data.toList).2.2]) ∧ ∃ n, w' = w.drewN n := Any.strings_Cut Tryd.lays145 s sep m w hs hm
open Go.RowKit Go.Lib in
def Tryd.lays146_ren : Go.Shelf.Ren := ⟨fun | 146 => 20 | 221 => 39 | 268 => 54 | 138 => 55 | 143 => 56 | 195 => 70 | 197 => 71 | 218 => 72 | 219 => 58 | 260 => 94 | 217 => 74 | 225 => 75 | 224 => 76 | 267 => 77 | 266 => 95 | 314 => 96 | n => n, fun | 9 => 9 | 31 => 43 | 3 => 3 | 4 => 4 | 0 => 0 | 105 => 104 | 21 => 21 | 5 => 5 | 46 => 70 | 119 => 135 | 139 => 138 | 138 => 137 | 146 => 125 | 51 => 124 | n => n, fun | 1 => 0 | 3 => 2 | 4 => 3 | n => n⟩
theorem Tryd.lays146 : Go.Proofs.Lays.n146 Tryd.prog Tryd.lays146_ren := {
  mixed := by kernel_rfl
  f138 := Tryd.func55.trans (congrArg some (by kernel_rfl))
  f143 := Tryd.func56.trans (congrArg some (by kernel_rfl))
  f146 := Tryd.func20.trans (congrArg some (by kernel_rfl))
  f195 := Tryd.func70.trans (congrArg some (by kernel_rfl))
  f197 := Tryd.func71.trans (congrArg some (by kernel_rfl))
  f217 := Tryd.func74.trans (congrArg some (by kernel_rfl))
  f218 := Tryd.func72.trans (congrArg some (by kernel_rfl))
  f219 := Tryd.func58.trans (congrArg some (by kernel_rfl))
  f221 := Tryd.func39.trans (congrArg some (by kernel_rfl))
  f224 := Tryd.func76.trans (congrArg some (by kernel_rfl))
  f225 := Tryd.func75.trans (congrArg some (by kernel_rfl))
  f260 := Tryd.func94.trans (congrArg some (by kernel_rfl))
  f266 := Tryd.func95.trans (congrArg some (by kernel_rfl))
  f267 := Tryd.func77.trans (congrArg some (by kernel_rfl))
  f268 := Tryd.func54.trans (congrArg some (by kernel_rfl))
  f314 := Tryd.func96.trans (congrArg some (by kernel_rfl))
  t0 := Tryd.underlying0
  a0 := Tryd.isAgg0
  z0 := Tryd.sizeOf0
  v0 := Tryd.zeroValue0
  t3 := Tryd.underlying3
  a3 := Tryd.isAgg3
  z3 := Tryd.sizeOf3
  v3 := Tryd.zeroValue3
  t4 := Tryd.underlying4
  a4 := Tryd.isAgg4
  z4 := Tryd.sizeOf4
  v4 := Tryd.zeroValue4
  t5 := Tryd.underlying5
  a5 := Tryd.isAgg5
  z5 := Tryd.sizeOf5
  v5 := Tryd.zeroValue5
  t9 := Tryd.underlying9
  a9 := Tryd.isAgg9
  z9 := Tryd.sizeOf9
  v9 := Tryd.zeroValue9
  t21 := Tryd.underlying21
  a21 := Tryd.isAgg21
  z21 := Tryd.sizeOf21
  v21 := Tryd.zeroValue21
  t31 := Tryd.underlying43
  a31 := Tryd.isAgg43
  z31 := Tryd.sizeOf43
  v31 := Tryd.zeroValue43
  t46 := Tryd.underlying70
  a46 := Tryd.isAgg70
  z46 := Tryd.sizeOf70
  v46 := Tryd.zeroValue70
  t51 := Tryd.underlying124
  a51 := Tryd.isAgg124
  z51 := Tryd.sizeOf124
  v51 := Tryd.zeroValue124
  t105 := Tryd.underlying104
  a105 := Tryd.isAgg104
  z105 := Tryd.sizeOf104
  v105 := Tryd.zeroValue104
  t119 := Tryd.underlying135
  a119 := Tryd.isAgg135
  z119 := Tryd.sizeOf135
  t138 := Tryd.underlying137
  a138 := Tryd.isAgg137
  z138 := Tryd.sizeOf137
  v138 := Tryd.zeroValue137
  t139 := Tryd.underlying138
  a139 := Tryd.isAgg138
  z139 := Tryd.sizeOf138
  v139 := Tryd.zeroValue138
  t146 := Tryd.underlying125
  a146 := Tryd.isAgg125
  z146 := Tryd.sizeOf125
  v146 := Tryd.zeroValue125
  g1 := by kernel_rfl
  g3 := by kernel_rfl
  g4 := by kernel_rfl }
open Go.RowKit Go.Lib in
theorem Tryd.strings_Split (s sep : ByteArray) (m : Int) (w : World) (hs : s.size < 4294967281) (hm : w.cell? ⟨0, 0, none⟩ = some (.int .i64 m)) (h1 : 1 ≤ sep.size) :
    Calls Tryd.prog 20 #[.string s, .string sep] w fun e w' =>
      e = .returned (.slice (some ⟨w.heap.size, 0, none⟩) (Lib.countB s sep + 1) (Lib.countB s sep + 1)) ∧ w' = w.alloc (.cells ((Lib.splitB sep 0 (Lib.countB s sep) s).map Value.string).toArray 9) := Any.strings_Split Tryd.lays146 (by kernel_rfl) s sep m w hs hm h1
end Go.Proofs
namespace Go.Proofs.YticohlbfolnmpaaDoor.X
open Go.RowKit Go.Proofs.YticohlbfolnmpaaDoorW.PrintWords Go.Proofs.YticohlbfolnmpaaDoorW.PrintLast Go.Proofs.YticohlbfolnmpaaDoorW.PrintMore
attribute [local go_sem] bA bn cl dg dO cA dh cu cw cY cZ ci cj cv cx
theorem bi (l : List UInt8) : l.isEmpty = (l == []) := by cases l <;> rfl
def tab4 : List Int := [0, 1, 28, 2, 29, 14, 24, 3, 30, 22, 20, 15, 25, 17, 4, 8, 31, 27, 13, 23, 21, 19, 16, 7, 26, 12, 18, 6, 11, 5, 10, 9]
def tab5 : List Int := [0, 1, 56, 2, 57, 49, 28, 3, 61, 58, 42, 50, 38, 29, 17, 4, 62, 47, 59, 36, 45, 43, 51, 22, 53, 39, 33, 30, 24, 18, 12, 5, 63, 55, 48, 27, 60, 41, 37, 16, 46, 35, 44, 21, 52, 32, 23, 11, 54, 26, 40, 15, 34, 20, 31, 10, 25, 14, 19, 9, 13, 8, 7, 6]
def tab1 : List Int := Go.Lib.pow10Tab
structure GW (w : World) : Prop where
  maxLen : ∃ m, w.cell? ⟨0, 0, none⟩ = some (.int .i64 m)
  t4 : Go.Lib.TabIs Tryd.prog w "math/bits.deBruijn32tab" .u8 tab4
  t5 : Go.Lib.TabIs Tryd.prog w "math/bits.deBruijn64tab" .u8 tab5
  t1 : Go.Lib.TabIs Tryd.prog w "internal/strconv.uint64pow10" .u64 tab1
theorem iF {w w' : World} {name : String} {k : IntKind} {zs : List Int} {g : Nat} (hg : Tryd.prog.globalNamed name = some g) (h : Go.Lib.TabIs Tryd.prog w name k zs) (hb : Below w.heap.size w w') : Go.Lib.TabIs Tryd.prog w' name k zs := by
  unfold Go.Lib.TabIs World.var? at h ⊢
  rw [hg] at h ⊢
  simp only [Option.bind_some] at h ⊢
  have hlt : g < w.heap.size := by
    rcases Nat.lt_or_ge g w.heap.size with h' | h'
    · exact h'
    · rw [Array.getElem?_eq_none h'] at h; cases h
  rw [hb.block g hlt]
  exact h
theorem aJ {w w' : World} (h : GW w) (hb : Below w.heap.size w w') : GW w' := by
  obtain ⟨m, hm⟩ := h.maxLen
  exact ⟨⟨m, cH hb hm⟩, iF (g := 4) (by kernel_rfl) h.t4 hb, iF (g := 5) (by kernel_rfl) h.t5 hb, iF (g := 1) (by kernel_rfl) h.t1 hb⟩
theorem fX {w w' : World} (h : GW w) (hd : Drawn0 w w') : GW w' := aJ h hd.below
def ly : Option Int → Value
  | none => .nilIface
  | some c => .iface 0 (.int .i64 c)
theorem ap : ly none = .nilIface := rfl
theorem aq (c : Int) : ly (some c) = .iface 0 (.int .i64 c) := rfl
theorem lW : (Tryd.prog.info? 9).map (fun i => (i.zero, i.size, i.bytes)) = some (some (.string ⟨#[]⟩), 1, 16) := by kernel_rfl
theorem kn : (Tryd.prog.info? 26).map (fun i => (i.zero, i.size, i.bytes)) = some (some (.int .u16 0), 1, 2) := by kernel_rfl
def cd (a0 : ByteArray) (a1 : ByteArray) : Option (Int) := if a0.size < 4294967281 then some (Go.Lib.index a0.data.toList a1.data.toList) else none
theorem bh (a0 : ByteArray) (a1 : ByteArray) (r : Int) (w : World) (hG : GW w) (h : cd a0 a1 = some r) :
    Calls Tryd.prog 58 #[.string a0, .string a1] w fun e w' => e = .returned (.int .i64 r) ∧ Drawn0 w w' := by
  unfold cd at h
  by_cases hs : a0.size < 4294967281
  · rw [if_pos hs] at h
    obtain rfl := Option.some.inj h
    obtain ⟨m, hm⟩ := hG.maxLen
    refine (Tryd.stringslite_Index a0 a1 m w hs hm).mono ?_
    rintro e w' ⟨rfl, rfl⟩
    exact ⟨rfl, Drawn0.refl _⟩
  · rw [if_neg hs] at h; cases h
def cS (a0 : ByteArray) (a1 : ByteArray) : Option (ByteArray × ByteArray × Bool) := (cd a0 a1).bind fun t101 => (if t101 ≥ 0 then (if 0 ≤ t101 then (if t101 ≤ (a0.size : Int) then (if 0 ≤ (wrap64 (t101 + (a1.size : Int))) then (if (wrap64 (t101 + (a1.size : Int))) ≤ (a0.size : Int) then (some (a0.extract 0 (t101 : Int).toNat, a0.extract ((wrap64 (t101 + (a1.size : Int))) : Int).toNat a0.size, true)) else (none)) else (none)) else (none)) else (none)) else (some (a0, (⟨#[]⟩ : ByteArray), false)))
theorem fU (a0 : ByteArray) (a1 : ByteArray) (r1 : ByteArray) (r2 : ByteArray) (r3 : Bool) (w : World) (hG : GW w) (h : cS a0 a1 = some (r1, r2, r3)) :
    Calls Tryd.prog 41 #[.string a0, .string a1] w fun e w' => e = .returned (.tuple #[.string r1, .string r2, .bool r3]) ∧ Drawn0 w w' := by
 have H : ((cd a0 a1).bind fun Aa => (if Aa ≥ 0 then (if 0 ≤ Aa then (if Aa ≤ (a0.size : Int) then (if 0 ≤ (wrap64 (Aa + (a1.size : Int))) then (if (wrap64 (Aa + (a1.size : Int))) ≤ (a0.size : Int) then (some (a0.extract 0 (Aa : Int).toNat, a0.extract ((wrap64 (Aa + (a1.size : Int))) : Int).toNat a0.size, true)) else (none)) else (none)) else (none)) else (none)) else (some (a0, (⟨#[]⟩ : ByteArray), false)))) = some (r1, r2, r3) := h
 clear h
 replace H := Option.bind_eq_some_iff.mp H
 obtain ⟨Aa, A30, H⟩ := H
 try dsimp only at H
 have A3 := Zz.mk A30
 clear A30
 by_cases c4 : Aa ≥ 0
 ·
  rw [if_pos c4] at H
  have Ah := decide_eq_true c4
  clear c4
  by_cases c5 : 0 ≤ Aa
  ·
   rw [if_pos c5] at H
   have Al := eq_true c5
   have Am := decide_eq_true c5
   clear c5
   by_cases c6 : Aa ≤ (a0.size : Int)
   ·
    rw [if_pos c6] at H
    have An := eq_true c6
    have Ao := decide_eq_true c6
    clear c6
    obtain ⟨As, Ac⟩ : ∃ j_ : ByteArray, (a0.extract 0 (Aa : Int).toNat) = j_ := ⟨_, rfl⟩
    try (have Af := Ac; simp only [Int.toNat_natCast] at Af)
    first | rw [Ac] at H | simp only [Ac] at H | skip
    (try rw [Ac] at A3)
    obtain ⟨Ag, Ad⟩ : ∃ j_ : Int, (wrap64 (Aa + (a1.size : Int))) = j_ := ⟨_, rfl⟩
    first | rw [Ad] at H | simp only [Ad] at H | skip
    (try rw [Ad] at A3)
    have Ai : (IntKind.i64.wrap (Aa + (a1.size : Int))) = Ag := (aC _).trans Ad
    by_cases c9 : 0 ≤ (Ag)
    ·
     rw [if_pos c9] at H
     have Ap := eq_true c9
     have Aq := decide_eq_true c9
     clear c9
     by_cases c10 : (Ag) ≤ (a0.size : Int)
     ·
      rw [if_pos c10] at H
      have Aj := eq_true c10
      have Ak := decide_eq_true c10
      clear c10
      obtain ⟨Ar, Ab⟩ : ∃ j_ : ByteArray, (a0.extract ((Ag) : Int).toNat a0.size) = j_ := ⟨_, rfl⟩
      try (have Ae := Ab; simp only [Int.toNat_natCast] at Ae)
      first | rw [Ab] at H | simp only [Ab] at H | skip
      (try rw [Ab] at A3)
      simp only [Option.some.injEq, Prod.mk.injEq] at H
      obtain ⟨rfl, rfl, rfl⟩ := H
      go_enter Tryd.func41, Tryd.ntmps41
      go_wp2_with (first | (go_at_call 58; (with_reducible refine (bh a0 a1 Aa _ ?side1 A3.out).mono ?_); (case side1 => first | (with_reducible exact hG) | exact fX hG (by repeat (first | exact Drawn0.refl _ | apply Drawn0.step))); rintro e w' ⟨rfl, ⟨nd, rfl⟩⟩; (try first | exact ⟨rfl, _, World.drewN_drewN _ _ _⟩ | exact ⟨rfl, _, Eq.trans (World.drewN_drewN _ _ _) (congrArg (World.drewN _) (Nat.add_assoc _ _ _))⟩)))
      repeat (go_quiet (first | (go_at_call 58; (with_reducible refine (bh a0 a1 Aa _ ?side1 A3.out).mono ?_); (case side1 => first | (with_reducible exact hG) | exact fX hG (by repeat (first | exact Drawn0.refl _ | apply Drawn0.step))); rintro e w' ⟨rfl, ⟨nd, rfl⟩⟩; (try first | exact ⟨rfl, _, World.drewN_drewN _ _ _⟩ | exact ⟨rfl, _, Eq.trans (World.drewN_drewN _ _ _) (congrArg (World.drewN _) (Nat.add_assoc _ _ _))⟩))); try go_wp2_with (first | (go_at_call 58; (with_reducible refine (bh a0 a1 Aa _ ?side1 A3.out).mono ?_); (case side1 => first | (with_reducible exact hG) | exact fX hG (by repeat (first | exact Drawn0.refl _ | apply Drawn0.step))); rintro e w' ⟨rfl, ⟨nd, rfl⟩⟩; (try first | exact ⟨rfl, _, World.drewN_drewN _ _ _⟩ | exact ⟨rfl, _, Eq.trans (World.drewN_drewN _ _ _) (congrArg (World.drewN _) (Nat.add_assoc _ _ _))⟩))))
      go_ret3
      exact ⟨by first | rfl | (simp; done) | (simp only [← Ac, ← Ad, ← Ab] <;> (first | rfl | simp)) | (simp [*]; done) | (simp [wrap64]; done), xdr⟩
     ·
      rw [if_neg c10] at H
      exact absurd H (by simp)
    ·
     rw [if_neg c9] at H
     exact absurd H (by simp)
   ·
    rw [if_neg c6] at H
    exact absurd H (by simp)
  ·
   rw [if_neg c5] at H
   exact absurd H (by simp)
 ·
  rw [if_neg c4] at H
  have Ah := decide_eq_false c4
  clear c4
  simp only [Option.some.injEq, Prod.mk.injEq] at H
  obtain ⟨rfl, rfl, rfl⟩ := H
  go_enter Tryd.func41, Tryd.ntmps41
  go_wp2_with (first | (go_at_call 58; (with_reducible refine (bh a0 a1 Aa _ ?side1 A3.out).mono ?_); (case side1 => first | (with_reducible exact hG) | exact fX hG (by repeat (first | exact Drawn0.refl _ | apply Drawn0.step))); rintro e w' ⟨rfl, ⟨nd, rfl⟩⟩; (try first | exact ⟨rfl, _, World.drewN_drewN _ _ _⟩ | exact ⟨rfl, _, Eq.trans (World.drewN_drewN _ _ _) (congrArg (World.drewN _) (Nat.add_assoc _ _ _))⟩)))
  repeat (go_quiet (first | (go_at_call 58; (with_reducible refine (bh a0 a1 Aa _ ?side1 A3.out).mono ?_); (case side1 => first | (with_reducible exact hG) | exact fX hG (by repeat (first | exact Drawn0.refl _ | apply Drawn0.step))); rintro e w' ⟨rfl, ⟨nd, rfl⟩⟩; (try first | exact ⟨rfl, _, World.drewN_drewN _ _ _⟩ | exact ⟨rfl, _, Eq.trans (World.drewN_drewN _ _ _) (congrArg (World.drewN _) (Nat.add_assoc _ _ _))⟩))); try go_wp2_with (first | (go_at_call 58; (with_reducible refine (bh a0 a1 Aa _ ?side1 A3.out).mono ?_); (case side1 => first | (with_reducible exact hG) | exact fX hG (by repeat (first | exact Drawn0.refl _ | apply Drawn0.step))); rintro e w' ⟨rfl, ⟨nd, rfl⟩⟩; (try first | exact ⟨rfl, _, World.drewN_drewN _ _ _⟩ | exact ⟨rfl, _, Eq.trans (World.drewN_drewN _ _ _) (congrArg (World.drewN _) (Nat.add_assoc _ _ _))⟩))))
  go_ret3
  exact ⟨xrr, xdr⟩
def bl (a0 : ByteArray) (a1 : ByteArray) : Option (ByteArray × ByteArray × Bool) := (cS a0 a1).bind fun bt102 => (some (bt102.1, bt102.2.1, bt102.2.2))
theorem bJ (a0 : ByteArray) (a1 : ByteArray) (r1 : ByteArray) (r2 : ByteArray) (r3 : Bool) (w : World) (hG : GW w) (h : bl a0 a1 = some (r1, r2, r3)) :
    Calls Tryd.prog 22 #[.string a0, .string a1] w fun e w' => e = .returned (.tuple #[.string r1, .string r2, .bool r3]) ∧ Drawn0 w w' := by
 have H : ((cS a0 a1).bind fun Aa => (some (Aa.1, Aa.2.1, Aa.2.2))) = some (r1, r2, r3) := h
 clear h
 replace H := Option.bind_eq_some_iff.mp H
 obtain ⟨⟨Ab, Ac, Ad⟩, A30, H⟩ := H
 try dsimp only at H
 have A3 := Zz.mk A30
 clear A30
 simp only [Option.some.injEq, Prod.mk.injEq] at H
 obtain ⟨rfl, rfl, rfl⟩ := H
 go_enter Tryd.func22, Tryd.ntmps22
 go_wp2_with (first | ((with_reducible refine ae (f := 41) rfl ?_); refine xgl 9 Tryd.func41 #[.string a0, .string a1] ?_; (with_reducible refine (fU a0 a1 Ab Ac Ad _ ?side1 A3.out).mono ?_); (case side1 => first | (with_reducible exact hG) | exact fX hG (by repeat (first | exact Drawn0.refl _ | apply Drawn0.step))); rintro e w' ⟨rfl, ⟨nd, rfl⟩⟩; refine ⟨_, rfl, ?_⟩))
 go_ret3
 exact ⟨xrr, xdr⟩
def bM (a0 : ByteArray) (a1 : ByteArray) : Option (List ByteArray) := if a0.size < 4294967281 ∧ 1 ≤ a1.size then some (Go.Lib.splitB a1 0 (Go.Lib.countB a0 a1) a0) else none
theorem dB (a0 : ByteArray) (a1 : ByteArray) (r : List ByteArray) (w : World) (hG : GW w) (h : bM a0 a1 = some r) :
    Calls Tryd.prog 20 #[.string a0, .string a1] w fun e w' => ∃ v0_ : Value, e = .returned (v0_) ∧ Kd.R Kd.string 9 w' w.heap.size (fun _ => True) v0_ r ∧ Below w.heap.size w w' := by
  unfold bM at h
  by_cases hs : a0.size < 4294967281 ∧ 1 ≤ a1.size
  · rw [if_pos hs] at h
    obtain rfl := Option.some.inj h
    obtain ⟨m, hm⟩ := hG.maxLen
    refine (Tryd.strings_Split a0 a1 m w hs.1 hm hs.2).mono ?_
    rintro e w' ⟨rfl, rfl⟩
    have hl := Go.Lib.splitB_all a1 hs.2 0 _ a0 rfl
    have hc := Go.Lib.countB_le a1 hs.2 a0.size a0 (Nat.le_refl _)
    refine ⟨_, rfl, ?_, (Below.refl _ _).alloc (Nat.le_refl _) _⟩
    refine Kd.R_of_own ⟨by simp [ex], .inr ⟨w.heap.size, _, _, by rw [hl], Nat.le_refl _, heap_alloc_new _ _, by rw [hl]; exact Nat.le_refl _, ?_, ?_, ?_⟩⟩ (fun _ _ => trivial)
    · have : maxLen = 9223372036854775807 := rfl
      omega
    · simp [hl]
    · simp only [ex, Nat.mul_one, List.toList_toArray]
      exact List.take_of_length_le (by simp)
  · rw [if_neg hs] at h; cases h
mutual
def aQ : Nat → Int → Bool → Option (Int)
  | 0, _, _ => none
  | k + 1, x3, x4 => if x4 = true then (some 4) else (if x3 = 33 then (aH k x3 (x3 == 33)) else (if x3 = 36 then (aH k x3 (x3 == 36)) else (if x3 = 38 then (aH k x3 (x3 == 38)) else (if x3 = 39 then (aH k x3 (x3 == 39)) else (if x3 = 40 then (aH k x3 (x3 == 40)) else (if x3 = 41 then (aH k x3 (x3 == 41)) else (if x3 = 42 then (aH k x3 (x3 == 42)) else (if x3 = 43 then (aH k x3 (x3 == 43)) else (if x3 = 44 then (aH k x3 (x3 == 44)) else (if x3 = 59 then (aH k x3 (x3 == 59)) else (aH k x3 (x3 == 61))))))))))))
def aH : Nat → Int → Bool → Option (Int)
  | 0, _, _ => none
  | k + 1, x3, x9 => if x9 = true then (some 8) else (if x3 = 58 then (some 16) else (if x3 = 47 then (some 16) else (if x3 = 63 then (some 16) else (if x3 = 35 then (some 16) else (if x3 = 91 then (some 16) else (if x3 = 93 then (some 16) else (if x3 = 64 then (some 16) else (some 0))))))))
end
def db (k : Nat) (a0 : Int) : Option (Int) := if a0 = 45 then (aQ k a0 (a0 == 45)) else (if a0 = 46 then (aQ k a0 (a0 == 46)) else (if a0 = 95 then (aQ k a0 (a0 == 95)) else (aQ k a0 (a0 == 126))))
theorem eW : ∀ k, (∀ y0 y1, LeO (aQ k y0 y1) (aQ (k + 1) y0 y1)) ∧ (∀ y0 y1, LeO (aH k y0 y1) (aH (k + 1) y0 y1))
  | 0 => ⟨fun _ _ r h => by simp [aQ] at h, fun _ _ r h => by simp [aH] at h⟩
  | k + 1 => by
    obtain ⟨ih0, ih1⟩ := eW k
    refine ⟨?_, ?_⟩
    · intro y0 y1
      unfold aQ
      exact xmo
    · intro y0 y1
      unfold aH
      exact xmo
theorem fv : ∀ a0 k, LeO (db k a0) (db (k + 1) a0) := by
  intro a0 k
  obtain ⟨ih0, ih1⟩ := eW k
  unfold db
  exact xmo
theorem ff (k : Nat) (a0 : Int) (r : Int) (w : World) (h : db k a0 = some r) :
    Calls Tryd.prog 73 #[.int .u8 a0] w fun e w' => e = .returned (.int .i64 r) ∧ Drawn0 w w' := by
 have H : (if a0 = 45 then (aQ k a0 (a0 == 45)) else (if a0 = 46 then (aQ k a0 (a0 == 46)) else (if a0 = 95 then (aQ k a0 (a0 == 95)) else (aQ k a0 (a0 == 126))))) = some r := h
 clear h
 have AI := Zz.mk H
 clear H
 go_enter Tryd.func73, Tryd.ntmps73
 go_upto_if 4 with (fail)
 go_cut [4] (fun v4 wc => ∃ (kq : Nat) (Ac : Bool), v4 = .bool Ac ∧ Zz (aQ kq a0 Ac = some r) ∧ Zz (kq ≤ k) ∧ Drawn0 w wc)
 case first =>
  have H := AI.out
  clear AI
  by_cases c3 : a0 = 45
  ·
   rw [if_pos c3] at H
   have Aa : (a0 == 45) = true := beq_iff_eq.mpr c3
   have AJ : (a0 != 45) = false := bne_eq_false_iff_eq.mpr c3
   clear c3
   (first | rw [Aa] | (simp only [aC, aI]; rw [Aa]) | (rw [AK]; (try simp only [Bool.not_false, Bool.not_true])) | (rw [AL]; (try simp only [Bool.not_false, Bool.not_true])) | skip)
   have H' := Zz.mk H
   clear H
   go_wp2
   go_meet
   case rel => exact ⟨_, ((a0 == 45)), xrr, H', ⟨xom⟩, xdr⟩
  ·
   rw [if_neg c3] at H
   have Aa : (a0 == 45) = false := beq_eq_false_iff_ne.mpr c3
   have AJ : (a0 != 45) = true := bne_iff_ne.mpr c3
   (first | rw [Aa] | (simp only [aC, aI]; rw [Aa]) | (rw [AK]; (try simp only [Bool.not_false, Bool.not_true])) | (rw [AL]; (try simp only [Bool.not_false, Bool.not_true])) | skip)
   by_cases c4 : a0 = 46
   ·
    rw [if_pos c4] at H
    have AM : (a0 == 46) = true := beq_iff_eq.mpr c4
    have AN : (a0 != 46) = false := bne_eq_false_iff_eq.mpr c4
    clear c4
    have H' := Zz.mk H
    clear H
    go_wp2
    go_meet
    case rel => exact ⟨_, ((a0 == 46)), xrr, H', ⟨xom⟩, xdr⟩
   ·
    rw [if_neg c4] at H
    have AM : (a0 == 46) = false := beq_eq_false_iff_ne.mpr c4
    have AN : (a0 != 46) = true := bne_iff_ne.mpr c4
    by_cases c5 : a0 = 95
    ·
     rw [if_pos c5] at H
     have AO : (a0 == 95) = true := beq_iff_eq.mpr c5
     have AP : (a0 != 95) = false := bne_eq_false_iff_eq.mpr c5
     clear c5
     have H' := Zz.mk H
     clear H
     go_wp2
     go_meet
     case rel => exact ⟨_, ((a0 == 95)), xrr, H', ⟨xom⟩, xdr⟩
    ·
     rw [if_neg c5] at H
     have AO : (a0 == 95) = false := beq_eq_false_iff_ne.mpr c5
     have AP : (a0 != 95) = true := bne_iff_ne.mpr c5
     have H' := Zz.mk H
     clear H
     go_wp2
     go_meet
     case rel => exact ⟨_, ((a0 == 126)), xrr, H', ⟨xom⟩, xdr⟩
 case rest =>
  clear AI
  obtain ⟨kq, Ac, rfl, HA, HJ1, ⟨mc1, rfl⟩⟩ := hcut
  cases kq with
  | zero => exact absurd HA.out (by simp [aQ])
  | succ kj1 =>
   have H := HA.out
   clear HA
   simp only [aQ] at H
   by_cases c6 : Ac = true
   ·
    subst c6
    rw [if_pos rfl] at H
    obtain rfl := Option.some.inj H
    go_wp2
    go_ret
    exact ⟨xrr, xdr⟩
   ·
    replace c6 := Bool.eq_false_iff.mpr c6
    subst c6
    rw [if_neg (show ¬ (false = true) by decide)] at H
    have AQ := Zz.mk H
    clear H
    go_upto_if 9 with (fail)
    go_cut [9] (fun v9 wc => ∃ (kq : Nat) (Ad : Bool), v9 = .bool Ad ∧ Zz (aH kq a0 Ad = some r) ∧ Zz (kq ≤ kj1) ∧ Drawn0 w wc)
    case first =>
     have H := AQ.out
     clear AQ
     by_cases c8 : a0 = 33
     ·
      rw [if_pos c8] at H
      have Ab : (a0 == 33) = true := beq_iff_eq.mpr c8
      have AR : (a0 != 33) = false := bne_eq_false_iff_eq.mpr c8
      clear c8
      (first | rw [Ab] | (simp only [aC, aI]; rw [Ab]) | (rw [AS]; (try simp only [Bool.not_false, Bool.not_true])) | (rw [AT]; (try simp only [Bool.not_false, Bool.not_true])) | skip)
      have H' := Zz.mk H
      clear H
      go_wp2
      go_meet
      case rel => exact ⟨_, ((a0 == 33)), xrr, H', ⟨by have := HJ1.out; first | omega | exact Nat.le_refl _⟩, xdr⟩
     ·
      rw [if_neg c8] at H
      have Ab : (a0 == 33) = false := beq_eq_false_iff_ne.mpr c8
      have AR : (a0 != 33) = true := bne_iff_ne.mpr c8
      (first | rw [Ab] | (simp only [aC, aI]; rw [Ab]) | (rw [AS]; (try simp only [Bool.not_false, Bool.not_true])) | (rw [AT]; (try simp only [Bool.not_false, Bool.not_true])) | skip)
      by_cases c9 : a0 = 36
      ·
       rw [if_pos c9] at H
       have AU : (a0 == 36) = true := beq_iff_eq.mpr c9
       have AV : (a0 != 36) = false := bne_eq_false_iff_eq.mpr c9
       clear c9
       have H' := Zz.mk H
       clear H
       go_wp2
       go_meet
       case rel => exact ⟨_, ((a0 == 36)), xrr, H', ⟨by have := HJ1.out; first | omega | exact Nat.le_refl _⟩, xdr⟩
      ·
       rw [if_neg c9] at H
       have AU : (a0 == 36) = false := beq_eq_false_iff_ne.mpr c9
       have AV : (a0 != 36) = true := bne_iff_ne.mpr c9
       by_cases c10 : a0 = 38
       ·
        rw [if_pos c10] at H
        have Ae : (a0 == 38) = true := beq_iff_eq.mpr c10
        have Af : (a0 != 38) = false := bne_eq_false_iff_eq.mpr c10
        clear c10
        have H' := Zz.mk H
        clear H
        go_wp2
        go_meet
        case rel => exact ⟨_, ((a0 == 38)), xrr, H', ⟨by have := HJ1.out; first | omega | exact Nat.le_refl _⟩, xdr⟩
       ·
        rw [if_neg c10] at H
        have Ae : (a0 == 38) = false := beq_eq_false_iff_ne.mpr c10
        have Af : (a0 != 38) = true := bne_iff_ne.mpr c10
        by_cases c11 : a0 = 39
        ·
         rw [if_pos c11] at H
         have Ag : (a0 == 39) = true := beq_iff_eq.mpr c11
         have Ah : (a0 != 39) = false := bne_eq_false_iff_eq.mpr c11
         clear c11
         have H' := Zz.mk H
         clear H
         go_wp2
         go_meet
         case rel => exact ⟨_, ((a0 == 39)), xrr, H', ⟨by have := HJ1.out; first | omega | exact Nat.le_refl _⟩, xdr⟩
        ·
         rw [if_neg c11] at H
         have Ag : (a0 == 39) = false := beq_eq_false_iff_ne.mpr c11
         have Ah : (a0 != 39) = true := bne_iff_ne.mpr c11
         by_cases c12 : a0 = 40
         ·
          rw [if_pos c12] at H
          have Ai : (a0 == 40) = true := beq_iff_eq.mpr c12
          have Aj : (a0 != 40) = false := bne_eq_false_iff_eq.mpr c12
          clear c12
          have H' := Zz.mk H
          clear H
          go_wp2
          go_meet
          case rel => exact ⟨_, ((a0 == 40)), xrr, H', ⟨by have := HJ1.out; first | omega | exact Nat.le_refl _⟩, xdr⟩
         ·
          rw [if_neg c12] at H
          have Ai : (a0 == 40) = false := beq_eq_false_iff_ne.mpr c12
          have Aj : (a0 != 40) = true := bne_iff_ne.mpr c12
          by_cases c13 : a0 = 41
          ·
           rw [if_pos c13] at H
           have Ak : (a0 == 41) = true := beq_iff_eq.mpr c13
           have Al : (a0 != 41) = false := bne_eq_false_iff_eq.mpr c13
           clear c13
           have H' := Zz.mk H
           clear H
           go_wp2
           go_meet
           case rel => exact ⟨_, ((a0 == 41)), xrr, H', ⟨by have := HJ1.out; first | omega | exact Nat.le_refl _⟩, xdr⟩
          ·
           rw [if_neg c13] at H
           have Ak : (a0 == 41) = false := beq_eq_false_iff_ne.mpr c13
           have Al : (a0 != 41) = true := bne_iff_ne.mpr c13
           by_cases c14 : a0 = 42
           ·
            rw [if_pos c14] at H
            have Am : (a0 == 42) = true := beq_iff_eq.mpr c14
            have An : (a0 != 42) = false := bne_eq_false_iff_eq.mpr c14
            clear c14
            have H' := Zz.mk H
            clear H
            go_wp2
            go_meet
            case rel => exact ⟨_, ((a0 == 42)), xrr, H', ⟨by have := HJ1.out; first | omega | exact Nat.le_refl _⟩, xdr⟩
           ·
            rw [if_neg c14] at H
            have Am : (a0 == 42) = false := beq_eq_false_iff_ne.mpr c14
            have An : (a0 != 42) = true := bne_iff_ne.mpr c14
            by_cases c15 : a0 = 43
            ·
             rw [if_pos c15] at H
             have Ao : (a0 == 43) = true := beq_iff_eq.mpr c15
             have Ap : (a0 != 43) = false := bne_eq_false_iff_eq.mpr c15
             clear c15
             have H' := Zz.mk H
             clear H
             go_wp2
             go_meet
             case rel => exact ⟨_, ((a0 == 43)), xrr, H', ⟨by have := HJ1.out; first | omega | exact Nat.le_refl _⟩, xdr⟩
            ·
             rw [if_neg c15] at H
             have Ao : (a0 == 43) = false := beq_eq_false_iff_ne.mpr c15
             have Ap : (a0 != 43) = true := bne_iff_ne.mpr c15
             by_cases c16 : a0 = 44
             ·
              rw [if_pos c16] at H
              have Aq : (a0 == 44) = true := beq_iff_eq.mpr c16
              have Ar : (a0 != 44) = false := bne_eq_false_iff_eq.mpr c16
              clear c16
              have H' := Zz.mk H
              clear H
              go_wp2
              go_meet
              case rel => exact ⟨_, ((a0 == 44)), xrr, H', ⟨by have := HJ1.out; first | omega | exact Nat.le_refl _⟩, xdr⟩
             ·
              rw [if_neg c16] at H
              have Aq : (a0 == 44) = false := beq_eq_false_iff_ne.mpr c16
              have Ar : (a0 != 44) = true := bne_iff_ne.mpr c16
              by_cases c17 : a0 = 59
              ·
               rw [if_pos c17] at H
               have As : (a0 == 59) = true := beq_iff_eq.mpr c17
               have At : (a0 != 59) = false := bne_eq_false_iff_eq.mpr c17
               clear c17
               have H' := Zz.mk H
               clear H
               go_wp2
               go_meet
               case rel => exact ⟨_, ((a0 == 59)), xrr, H', ⟨by have := HJ1.out; first | omega | exact Nat.le_refl _⟩, xdr⟩
              ·
               rw [if_neg c17] at H
               have As : (a0 == 59) = false := beq_eq_false_iff_ne.mpr c17
               have At : (a0 != 59) = true := bne_iff_ne.mpr c17
               have H' := Zz.mk H
               clear H
               go_wp2
               go_meet
               case rel => exact ⟨_, ((a0 == 61)), xrr, H', ⟨by have := HJ1.out; first | omega | exact Nat.le_refl _⟩, xdr⟩
    case rest =>
     clear AQ
     obtain ⟨kq, Ad, rfl, HA, HJ6, ⟨mc6, rfl⟩⟩ := hcut
     cases kq with
     | zero => exact absurd HA.out (by simp [aH])
     | succ kj6 =>
      have H := HA.out
      clear HA
      simp only [aH] at H
      by_cases c18 : Ad = true
      ·
       subst c18
       rw [if_pos rfl] at H
       obtain rfl := Option.some.inj H
       go_wp2
       go_ret
       exact ⟨xrr, xdr⟩
      ·
       replace c18 := Bool.eq_false_iff.mpr c18
       subst c18
       rw [if_neg (show ¬ (false = true) by decide)] at H
       by_cases c19 : a0 = 58
       ·
        rw [if_pos c19] at H
        have Au : (a0 == 58) = true := beq_iff_eq.mpr c19
        have Av : (a0 != 58) = false := bne_eq_false_iff_eq.mpr c19
        clear c19
        obtain rfl := Option.some.inj H
        go_wp2
        go_ret
        exact ⟨xrr, xdr⟩
       ·
        rw [if_neg c19] at H
        have Au : (a0 == 58) = false := beq_eq_false_iff_ne.mpr c19
        have Av : (a0 != 58) = true := bne_iff_ne.mpr c19
        by_cases c20 : a0 = 47
        ·
         rw [if_pos c20] at H
         have Aw : (a0 == 47) = true := beq_iff_eq.mpr c20
         have Ax : (a0 != 47) = false := bne_eq_false_iff_eq.mpr c20
         clear c20
         obtain rfl := Option.some.inj H
         go_wp2
         go_ret
         exact ⟨xrr, xdr⟩
        ·
         rw [if_neg c20] at H
         have Aw : (a0 == 47) = false := beq_eq_false_iff_ne.mpr c20
         have Ax : (a0 != 47) = true := bne_iff_ne.mpr c20
         by_cases c21 : a0 = 63
         ·
          rw [if_pos c21] at H
          have Ay : (a0 == 63) = true := beq_iff_eq.mpr c21
          have Az : (a0 != 63) = false := bne_eq_false_iff_eq.mpr c21
          clear c21
          obtain rfl := Option.some.inj H
          go_wp2
          go_ret
          exact ⟨xrr, xdr⟩
         ·
          rw [if_neg c21] at H
          have Ay : (a0 == 63) = false := beq_eq_false_iff_ne.mpr c21
          have Az : (a0 != 63) = true := bne_iff_ne.mpr c21
          by_cases c22 : a0 = 35
          ·
           rw [if_pos c22] at H
           have AA : (a0 == 35) = true := beq_iff_eq.mpr c22
           have AB : (a0 != 35) = false := bne_eq_false_iff_eq.mpr c22
           clear c22
           obtain rfl := Option.some.inj H
           go_wp2
           go_ret
           exact ⟨xrr, xdr⟩
          ·
           rw [if_neg c22] at H
           have AA : (a0 == 35) = false := beq_eq_false_iff_ne.mpr c22
           have AB : (a0 != 35) = true := bne_iff_ne.mpr c22
           by_cases c23 : a0 = 91
           ·
            rw [if_pos c23] at H
            have AC : (a0 == 91) = true := beq_iff_eq.mpr c23
            have AD : (a0 != 91) = false := bne_eq_false_iff_eq.mpr c23
            clear c23
            obtain rfl := Option.some.inj H
            go_wp2
            go_ret
            exact ⟨xrr, xdr⟩
           ·
            rw [if_neg c23] at H
            have AC : (a0 == 91) = false := beq_eq_false_iff_ne.mpr c23
            have AD : (a0 != 91) = true := bne_iff_ne.mpr c23
            by_cases c24 : a0 = 93
            ·
             rw [if_pos c24] at H
             have AE : (a0 == 93) = true := beq_iff_eq.mpr c24
             have AF : (a0 != 93) = false := bne_eq_false_iff_eq.mpr c24
             clear c24
             obtain rfl := Option.some.inj H
             go_wp2
             go_ret
             exact ⟨xrr, xdr⟩
            ·
             rw [if_neg c24] at H
             have AE : (a0 == 93) = false := beq_eq_false_iff_ne.mpr c24
             have AF : (a0 != 93) = true := bne_iff_ne.mpr c24
             by_cases c25 : a0 = 64
             ·
              rw [if_pos c25] at H
              have AG : (a0 == 64) = true := beq_iff_eq.mpr c25
              have AH : (a0 != 64) = false := bne_eq_false_iff_eq.mpr c25
              clear c25
              obtain rfl := Option.some.inj H
              go_wp2
              go_ret
              exact ⟨xrr, xdr⟩
             ·
              rw [if_neg c25] at H
              have AG : (a0 == 64) = false := beq_eq_false_iff_ne.mpr c25
              have AH : (a0 != 64) = true := bne_iff_ne.mpr c25
              obtain rfl := Option.some.inj H
              go_wp2
              go_ret
              exact ⟨xrr, xdr⟩
mutual
def be : Nat → Int → Bool → Option (Int)
  | 0, _, _ => none
  | k + 1, x0, x3 => if x3 = true then (some 34) else (if x0 ≥ 97 then (bF k x0 (decide (x0 ≤ 102))) else (bF k x0 false))
def bF : Nat → Int → Bool → Option (Int)
  | 0, _, _ => none
  | k + 1, x0, x10 => if x10 = true then (bp k x0 x10) else (if x0 ≥ 65 then (bp k x0 (decide (x0 ≤ 70))) else (bp k x0 false))
def bp : Nat → Int → Bool → Option (Int)
  | 0, _, _ => none
  | k + 1, x0, x10 => if x10 = true then (some 33) else (if x0 ≥ 103 then (bG k x0 (decide (x0 ≤ 122))) else (bG k x0 false))
def bG : Nat → Int → Bool → Option (Int)
  | 0, _, _ => none
  | k + 1, x0, x23 => if x23 = true then (some 1) else (if x0 ≥ 71 then (if x0 ≤ 90 then (some 1) else ((db k x0).bind fun t105 => (some t105))) else ((db k x0).bind fun t106 => (some t106)))
end
def b9 (k : Nat) (a0 : Int) : Option (Int) := if a0 ≥ 48 then (be k a0 (decide (a0 ≤ 57))) else (be k a0 false)
theorem eJ : ∀ k, (∀ y0 y1, LeO (be k y0 y1) (be (k + 1) y0 y1)) ∧ (∀ y0 y1, LeO (bF k y0 y1) (bF (k + 1) y0 y1)) ∧ (∀ y0 y1, LeO (bp k y0 y1) (bp (k + 1) y0 y1)) ∧ (∀ y0 y1, LeO (bG k y0 y1) (bG (k + 1) y0 y1))
  | 0 => ⟨fun _ _ r h => by simp [be] at h, fun _ _ r h => by simp [bF] at h, fun _ _ r h => by simp [bp] at h, fun _ _ r h => by simp [bG] at h⟩
  | k + 1 => by
    obtain ⟨ih0, ih1, ih2, ih3⟩ := eJ k
    have m0 := @fv
    refine ⟨?_, ?_, ?_, ?_⟩
    · intro y0 y1
      unfold be
      exact xmo
    · intro y0 y1
      unfold bF
      exact xmo
    · intro y0 y1
      unfold bp
      exact xmo
    · intro y0 y1
      unfold bG
      exact xmo
theorem fe : ∀ a0 k, LeO (b9 k a0) (b9 (k + 1) a0) := by
  intro a0 k
  obtain ⟨ih0, ih1, ih2, ih3⟩ := eJ k
  have m0 := @fv
  unfold b9
  exact xmo
theorem gH (k : Nat) (a0 : Int) (r : Int) (w : World) (h : b9 k a0 = some r) :
    Calls Tryd.prog 57 #[.int .u8 a0] w fun e w' => e = .returned (.int .i64 r) ∧ Drawn0 w w' := by
 have H : (if a0 ≥ 48 then (be k a0 (decide (a0 ≤ 57))) else (be k a0 false)) = some r := h
 clear h
 have An := Zz.mk H
 clear H
 go_enter Tryd.func57, Tryd.ntmps57
 go_upto_region 1 with (fail)
 go_cut [3] (fun v3 wc => ∃ (kq : Nat) (Ah : Bool), v3 = .bool Ah ∧ Zz (be kq a0 Ah = some r) ∧ Zz (kq ≤ k) ∧ Drawn0 w wc)
 case first =>
  have H := An.out
  clear An
  by_cases c3 : a0 ≥ 48
  ·
   rw [if_pos c3] at H
   have Ae := decide_eq_true c3
   clear c3
   (first | rw [Ae] | (simp only [aC, aI]; rw [Ae]) | (rw [Ao]; (try simp only [Bool.not_false, Bool.not_true])) | (rw [Ap]; (try simp only [Bool.not_false, Bool.not_true])) | skip)
   have H' := Zz.mk H
   clear H
   go_wp2
   go_meet
   case rel => exact ⟨_, (decide (a0 ≤ 57)), xrr, H', ⟨xom⟩, xdr⟩
  ·
   rw [if_neg c3] at H
   have Ae := decide_eq_false c3
   clear c3
   (first | rw [Ae] | (simp only [aC, aI]; rw [Ae]) | (rw [Ao]; (try simp only [Bool.not_false, Bool.not_true])) | (rw [Ap]; (try simp only [Bool.not_false, Bool.not_true])) | skip)
   have H' := Zz.mk H
   clear H
   go_wp2
   go_meet
   case rel => exact ⟨_, (false), xrr, H', ⟨xom⟩, xdr⟩
 case rest =>
  clear An
  obtain ⟨kq, Ah, rfl, HA, HJ1, ⟨mc1, rfl⟩⟩ := hcut
  cases kq with
  | zero => exact absurd HA.out (by simp [be])
  | succ kj1 =>
   have H := HA.out
   clear HA
   simp only [be] at H
   by_cases c4 : Ah = true
   ·
    subst c4
    rw [if_pos rfl] at H
    obtain rfl := Option.some.inj H
    go_wp2
    go_ret
    exact ⟨xrr, xdr⟩
   ·
    replace c4 := Bool.eq_false_iff.mpr c4
    subst c4
    rw [if_neg (show ¬ (false = true) by decide)] at H
    have Aq := Zz.mk H
    clear H
    go_upto_region 3 with (fail)
    go_cut [10] (fun v10 wc => ∃ (kq : Nat) (Ac : Bool), v10 = .bool Ac ∧ Zz (bF kq a0 Ac = some r) ∧ Zz (kq ≤ kj1) ∧ Drawn0 w wc)
    case first =>
     have H := Aq.out
     clear Aq
     by_cases c6 : a0 ≥ 97
     ·
      rw [if_pos c6] at H
      have Af := decide_eq_true c6
      clear c6
      (first | rw [Af] | (simp only [aC, aI]; rw [Af]) | (rw [Ar]; (try simp only [Bool.not_false, Bool.not_true])) | (rw [As]; (try simp only [Bool.not_false, Bool.not_true])) | skip)
      have H' := Zz.mk H
      clear H
      go_wp2
      go_meet
      case rel => exact ⟨_, (decide (a0 ≤ 102)), xrr, H', ⟨by have := HJ1.out; first | omega | exact Nat.le_refl _⟩, xdr⟩
     ·
      rw [if_neg c6] at H
      have Af := decide_eq_false c6
      clear c6
      (first | rw [Af] | (simp only [aC, aI]; rw [Af]) | (rw [Ar]; (try simp only [Bool.not_false, Bool.not_true])) | (rw [As]; (try simp only [Bool.not_false, Bool.not_true])) | skip)
      have H' := Zz.mk H
      clear H
      go_wp2
      go_meet
      case rel => exact ⟨_, (false), xrr, H', ⟨by have := HJ1.out; first | omega | exact Nat.le_refl _⟩, xdr⟩
    case rest =>
     clear Aq
     obtain ⟨kq, Ac, rfl, HA, HJ4, ⟨mc4, rfl⟩⟩ := hcut
     cases kq with
     | zero => exact absurd HA.out (by simp [bF])
     | succ kj4 =>
      have H := HA.out
      clear HA
      simp only [bF] at H
      have At := Zz.mk H
      clear H
      go_upto_if 10 with (fail)
      go_cut [10] (fun v10 wc => ∃ (kq : Nat) (Ad : Bool), v10 = .bool Ad ∧ Zz (bp kq a0 Ad = some r) ∧ Zz (kq ≤ kj4) ∧ Drawn0 w wc)
      case first =>
       have H := At.out
       clear At
       by_cases c8 : Ac = true
       ·
        subst c8
        rw [if_pos rfl] at H
        have H' := Zz.mk H
        clear H
        go_wp2
        go_meet
        case rel => exact ⟨_, (true), xrr, H', ⟨by have := HJ1.out; have := HJ4.out; first | omega | exact Nat.le_refl _⟩, xdr⟩
       ·
        replace c8 := Bool.eq_false_iff.mpr c8
        subst c8
        rw [if_neg (show ¬ (false = true) by decide)] at H
        by_cases c9 : a0 ≥ 65
        ·
         rw [if_pos c9] at H
         have Ag := decide_eq_true c9
         clear c9
         (first | rw [Ag] | (simp only [aC, aI]; rw [Ag]) | (rw [Au]; (try simp only [Bool.not_false, Bool.not_true])) | (rw [Av]; (try simp only [Bool.not_false, Bool.not_true])) | skip)
         have H' := Zz.mk H
         clear H
         go_wp2
         go_meet
         case rel => exact ⟨_, (decide (a0 ≤ 70)), xrr, H', ⟨by have := HJ1.out; have := HJ4.out; first | omega | exact Nat.le_refl _⟩, xdr⟩
        ·
         rw [if_neg c9] at H
         have Ag := decide_eq_false c9
         clear c9
         (first | rw [Ag] | (simp only [aC, aI]; rw [Ag]) | (rw [Au]; (try simp only [Bool.not_false, Bool.not_true])) | (rw [Av]; (try simp only [Bool.not_false, Bool.not_true])) | skip)
         have H' := Zz.mk H
         clear H
         go_wp2
         go_meet
         case rel => exact ⟨_, (false), xrr, H', ⟨by have := HJ1.out; have := HJ4.out; first | omega | exact Nat.le_refl _⟩, xdr⟩
      case rest =>
       clear At
       obtain ⟨kq, Ad, rfl, HA, HJ6, ⟨mc6, rfl⟩⟩ := hcut
       cases kq with
       | zero => exact absurd HA.out (by simp [bp])
       | succ kj6 =>
        have H := HA.out
        clear HA
        simp only [bp] at H
        by_cases c10 : Ad = true
        ·
         subst c10
         rw [if_pos rfl] at H
         obtain rfl := Option.some.inj H
         go_wp2
         go_ret
         exact ⟨xrr, xdr⟩
        ·
         replace c10 := Bool.eq_false_iff.mpr c10
         subst c10
         rw [if_neg (show ¬ (false = true) by decide)] at H
         have Ai := Zz.mk H
         clear H
         go_upto_region 6 with (fail)
         go_cut [23] (fun v23 wc => ∃ (kq : Nat) (Aa : Bool), v23 = .bool Aa ∧ Zz (bG kq a0 Aa = some r) ∧ Zz (kq ≤ kj6) ∧ Drawn0 w wc)
         case first =>
          have H := Ai.out
          clear Ai
          by_cases c12 : a0 ≥ 103
          ·
           rw [if_pos c12] at H
           have Ab := decide_eq_true c12
           clear c12
           (first | rw [Ab] | (simp only [aC, aI]; rw [Ab]) | (rw [Aj]; (try simp only [Bool.not_false, Bool.not_true])) | (rw [Ak]; (try simp only [Bool.not_false, Bool.not_true])) | skip)
           have H' := Zz.mk H
           clear H
           go_wp2
           go_meet
           case rel => exact ⟨_, (decide (a0 ≤ 122)), xrr, H', ⟨by have := HJ1.out; have := HJ4.out; have := HJ6.out; first | omega | exact Nat.le_refl _⟩, xdr⟩
          ·
           rw [if_neg c12] at H
           have Ab := decide_eq_false c12
           clear c12
           (first | rw [Ab] | (simp only [aC, aI]; rw [Ab]) | (rw [Aj]; (try simp only [Bool.not_false, Bool.not_true])) | (rw [Ak]; (try simp only [Bool.not_false, Bool.not_true])) | skip)
           have H' := Zz.mk H
           clear H
           go_wp2
           go_meet
           case rel => exact ⟨_, (false), xrr, H', ⟨by have := HJ1.out; have := HJ4.out; have := HJ6.out; first | omega | exact Nat.le_refl _⟩, xdr⟩
         case rest =>
          clear Ai
          obtain ⟨kq, Aa, rfl, HA, HJ10, ⟨mc10, rfl⟩⟩ := hcut
          cases kq with
          | zero => exact absurd HA.out (by simp [bG])
          | succ kj10 =>
           have H := HA.out
           clear HA
           simp only [bG] at H
           by_cases c13 : Aa = true
           ·
            subst c13
            rw [if_pos rfl] at H
            obtain rfl := Option.some.inj H
            go_wp2
            go_ret
            exact ⟨xrr, xdr⟩
           ·
            replace c13 := Bool.eq_false_iff.mpr c13
            subst c13
            rw [if_neg (show ¬ (false = true) by decide)] at H
            by_cases c14 : a0 ≥ 71
            ·
             rw [if_pos c14] at H
             have Al := decide_eq_true c14
             clear c14
             by_cases c15 : a0 ≤ 90
             ·
              rw [if_pos c15] at H
              have Am := decide_eq_true c15
              clear c15
              obtain rfl := Option.some.inj H
              go_wp2
              go_ret
              exact ⟨xrr, xdr⟩
             ·
              rw [if_neg c15] at H
              have Am := decide_eq_false c15
              clear c15
              replace H := Option.bind_eq_some_iff.mp H
              obtain ⟨Aw, A160, H⟩ := H
              try dsimp only at H
              have A16 := Zz.mk A160
              clear A160
              obtain rfl := Option.some.inj H
              go_wp2_with (first | ((with_reducible refine ae (f := 73) rfl ?_); refine xgl 37 Tryd.func73 #[.int .u8 a0] ?_; (with_reducible refine (ff kj10 a0 Aw _ A16.out).mono ?_); rintro e w' ⟨rfl, ⟨nd, rfl⟩⟩; refine ⟨_, rfl, ?_⟩))
              go_ret
              exact ⟨xrr, xdr⟩
            ·
             rw [if_neg c14] at H
             have Al := decide_eq_false c14
             clear c14
             replace H := Option.bind_eq_some_iff.mp H
             obtain ⟨Ax, A170, H⟩ := H
             try dsimp only at H
             have A17 := Zz.mk A170
             clear A170
             obtain rfl := Option.some.inj H
             go_wp2_with (first | ((with_reducible refine ae (f := 73) rfl ?_); refine xgl 37 Tryd.func73 #[.int .u8 a0] ?_; (with_reducible refine (ff kj10 a0 Ax _ A17.out).mono ?_); rintro e w' ⟨rfl, ⟨nd, rfl⟩⟩; refine ⟨_, rfl, ?_⟩))
             go_ret
             exact ⟨xrr, xdr⟩
def ce (k : Nat) (a0 : Int) (a1 : Int) : Option (Bool) := (b9 k a0).bind fun t107 => (some ((Go.bits .and .i64 t107 a1) != 0))
theorem cn : ∀ a0 a1 k, LeO (ce k a0 a1) (ce (k + 1) a0 a1) := by
  intro a0 a1 k
  have m0 := @fe
  unfold ce
  exact xmo
theorem bS (k : Nat) (a0 : Int) (a1 : Int) (r : Bool) (w : World) (h : ce k a0 a1 = some r) :
    Calls Tryd.prog 40 #[.int .u8 a0, .int .i64 a1] w fun e w' => e = .returned (.bool r) ∧ Drawn0 w w' := by
 have H : ((b9 k a0).bind fun t107 => (some ((Go.bits .and .i64 t107 a1) != 0))) = some r := h
 clear h
 replace H := Option.bind_eq_some_iff.mp H
 obtain ⟨t107, A30, H⟩ := H
 try dsimp only at H
 have A3 := Zz.mk A30
 clear A30
 obtain rfl := Option.some.inj H
 go_enter Tryd.func40, Tryd.ntmps40
 go_wp2_with (first | ((with_reducible refine ae (f := 57) rfl ?_); refine xgl 6 Tryd.func57 #[.int .u8 a0] ?_; (with_reducible refine (gH k a0 t107 _ A3.out).mono ?_); rintro e w' ⟨rfl, ⟨nd, rfl⟩⟩; refine ⟨_, rfl, ?_⟩))
 go_ret
 exact ⟨xrr, xdr⟩
end Go.Proofs.YticohlbfolnmpaaDoor.X
