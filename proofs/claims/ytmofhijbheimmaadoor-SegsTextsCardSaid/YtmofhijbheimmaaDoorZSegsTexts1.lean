/- Texts that the law's proof needs, joined by a program of this session. -/
import Derived.Test.YtmofhijbheimmaaDoorZSegsTexts0
import Derived.WalkKit
import Derived.Lib.AppendStr
import Derived.Laws.Tables
import Derived.Laws.CopyOwn
import Derived.WalkMore
import Derived.ScopeJumps
import Derived.Shelf.Strings.Builder1
import Derived.Shelf.Strings.Builder2
import Derived.Shelf.Strings.OnBuilder
import Derived.Shelf.Strings.BuilderF
import Derived.Shelf.Strings.BuilderK
import Derived.Shelf.Utf8.RuneCount
import Derived.Shelf.Strings.Builder2Cap
import Derived.Shelf.Strings.Search1
import Derived.Shelf.Strings.Search2
import Derived.Shelf.Strings.Search3
import Derived.Shelf.Strings.Count
import Derived.Shelf.LaysM
import Derived.Shelf.Strings.Shaped
import Derived.Shelf.Strings.LastIndex
import Derived.Shelf.Strings.Split
import Derived.Shelf.Strings.SplitShaped
import Derived.Shelf.Unicode.Decode
import Derived.Shelf.Strings.RuneCount
import Derived.Shelf.Strings.Explode
import Derived.Shelf.Unicode.DecodeSlow
import Derived.Shelf.Unicode.DecodeAny
import Derived.Shelf.Strings.BuilderCap
import Derived.Shelf.Slices.Equal
import Derived.Ground.Names2Prog
import Derived.Shelf.Slices.Clone
import Derived.Shelf.Slices.Empties2
import Derived.Ground.SlgnProg
import Derived.Shelf.SlicesE.Clone
import Derived.Ground.PaProg
import Derived.Shelf.Path.Small
import Derived.Test.YtmofhijbheimmaaDoorProg
import Derived.Below
import Derived.Deep.Draws
import Derived.Deep.AppendLies
import Derived.Maps.AppendAt
import Derived.OwnWalk
import Derived.Laws.BytesArg
import Derived.Laws.MakeOwn
import Derived.Laws.OwnMore
import Derived.Deep.OwnRows
import Derived.Tactics
import Derived.Lib.ConvBytes
import Derived.Laws.Slices
import Derived.KernelRfl
import Derived.RowKit3
import Derived.Deep.LoopGhost
import Derived.Deep.QuietTactic
import Derived.BigQuiet
import Derived.WideLaws
import Derived.Deep.DeepCutAuto
import Derived.Deep.CutBlock
import Derived.Deep.RegionHeld3
import Derived.Laws.Rows
import Derived.ArgAppend
import Derived.Laws.IdiomCopy
import Derived.OrdersHeld
import Derived.Laws.BitsLemmas
import Derived.RowKit
import Derived.ChangeKeysEq
import Derived.Deep.RegionWith
import Derived.Laws.CopyRow
import Derived.Laws.Externs
import Derived.Laws.IdiomStrings
import Derived.Laws.NewBlocks
import Derived.Laws.RangeAny
import Derived.Laws.RangeString
import Derived.Laws.Strings3
import Derived.Lib.AppendIntMem
import Derived.Lib.BufStepsIn
import Derived.Lib.Bytealg
import Derived.Lib.Index
import Derived.Lib.IndexAny
import Derived.Lib.IndexBytes
import Derived.Lib.OthersKept
import Derived.Lib.SlBuf
import Derived.Lib.Split
import Derived.Lib.SplitLaws
import Derived.LoopIn
import Derived.LoopNIn
import Derived.OwnWalkIn
import Derived.RangeFuncBound
import Derived.RangeFuncBox
import Derived.RangeFuncCalls
import Derived.RangeFuncLeaves
import Derived.RangeFuncNested
import Derived.Shelf.Abstract
import Derived.Shelf.RegionOpen
import Derived.TacticsInMore
set_option maxHeartbeats 8000000
set_option maxRecDepth 100000
set_option linter.unusedSimpArgs false
set_option linter.unusedVariables false
namespace Go.Proofs.YtmofhijbheimmaaDoorW.PrintMore
open Go.RowKit Go.Proofs.YtmofhijbheimmaaDoorW.PrintWords Go.Proofs.YtmofhijbheimmaaDoorW.PrintLast
section
variable {K : Act → World → Prop} {Q : Exit → Act → World → Prop} {J : Act → World → Prop} {a : Act} {w : World} {l : Nat}
theorem dg : Exit.then K Q (.goto l) a w = Q (.goto l) a w := rfl
theorem cP (id : Nat) : Exit.inBlock id Q (.goto l) a w = Q (.goto l) a w := rfl
theorem eb : Exit.jump l J Q .normal a w = Q .normal a w := rfl
theorem fs (id : Nat) : Exit.jump l J Q (.exit id) a w = Q (.exit id) a w := rfl
theorem gc : Exit.jump l J Q .ret a w = Q .ret a w := rfl
theorem eQ (ch : List PanicEntry) : Exit.jump l J Q (.panic ch) a w = Q (.panic ch) a w := rfl
theorem ft : Exit.jump l J Q (.goto l) a w = J a w := propext ⟨fun h => h.2, fun h => ⟨rfl, h⟩⟩
end
theorem kz {w : World} {g : Nat} {t : TypeId} {c0 u : Value} (h : w.heap[g]? = some (.cells #[c0] t (0, 0))) : (w.setCell ⟨g, 0, none⟩ u).heap[g]? = some (.cells #[u] t (0, 0)) := ag h 0 u rfl
theorem kA {w : World} {g : Nat} {t : TypeId} {c0 c1 u : Value} (h : w.heap[g]? = some (.cells #[c0, c1] t (0, 0))) : (w.setCell ⟨g, 0, none⟩ u).heap[g]? = some (.cells #[u, c1] t (0, 0)) := ag h 0 u rfl
theorem kB {w : World} {g : Nat} {t : TypeId} {c0 c1 u : Value} (h : w.heap[g]? = some (.cells #[c0, c1] t (0, 0))) : (w.setCell ⟨g, 1, none⟩ u).heap[g]? = some (.cells #[c0, u] t (0, 0)) := ag h 1 u rfl
theorem kC {w : World} {g : Nat} {t : TypeId} {c0 c1 c2 u : Value} (h : w.heap[g]? = some (.cells #[c0, c1, c2] t (0, 0))) : (w.setCell ⟨g, 0, none⟩ u).heap[g]? = some (.cells #[u, c1, c2] t (0, 0)) := ag h 0 u rfl
theorem kD {w : World} {g : Nat} {t : TypeId} {c0 c1 c2 u : Value} (h : w.heap[g]? = some (.cells #[c0, c1, c2] t (0, 0))) : (w.setCell ⟨g, 1, none⟩ u).heap[g]? = some (.cells #[c0, u, c2] t (0, 0)) := ag h 1 u rfl
theorem kE {w : World} {g : Nat} {t : TypeId} {c0 c1 c2 u : Value} (h : w.heap[g]? = some (.cells #[c0, c1, c2] t (0, 0))) : (w.setCell ⟨g, 2, none⟩ u).heap[g]? = some (.cells #[c0, c1, u] t (0, 0)) := ag h 2 u rfl
theorem kF {w : World} {g : Nat} {t : TypeId} {c0 c1 c2 c3 u : Value} (h : w.heap[g]? = some (.cells #[c0, c1, c2, c3] t (0, 0))) : (w.setCell ⟨g, 0, none⟩ u).heap[g]? = some (.cells #[u, c1, c2, c3] t (0, 0)) := ag h 0 u rfl
theorem kG {w : World} {g : Nat} {t : TypeId} {c0 c1 c2 c3 u : Value} (h : w.heap[g]? = some (.cells #[c0, c1, c2, c3] t (0, 0))) : (w.setCell ⟨g, 1, none⟩ u).heap[g]? = some (.cells #[c0, u, c2, c3] t (0, 0)) := ag h 1 u rfl
theorem kH {w : World} {g : Nat} {t : TypeId} {c0 c1 c2 c3 u : Value} (h : w.heap[g]? = some (.cells #[c0, c1, c2, c3] t (0, 0))) : (w.setCell ⟨g, 2, none⟩ u).heap[g]? = some (.cells #[c0, c1, u, c3] t (0, 0)) := ag h 2 u rfl
theorem kI {w : World} {g : Nat} {t : TypeId} {c0 c1 c2 c3 u : Value} (h : w.heap[g]? = some (.cells #[c0, c1, c2, c3] t (0, 0))) : (w.setCell ⟨g, 3, none⟩ u).heap[g]? = some (.cells #[c0, c1, c2, u] t (0, 0)) := ag h 3 u rfl
theorem kJ {w : World} {g : Nat} {t : TypeId} {c0 c1 c2 c3 c4 u : Value} (h : w.heap[g]? = some (.cells #[c0, c1, c2, c3, c4] t (0, 0))) : (w.setCell ⟨g, 0, none⟩ u).heap[g]? = some (.cells #[u, c1, c2, c3, c4] t (0, 0)) := ag h 0 u rfl
theorem kK {w : World} {g : Nat} {t : TypeId} {c0 c1 c2 c3 c4 u : Value} (h : w.heap[g]? = some (.cells #[c0, c1, c2, c3, c4] t (0, 0))) : (w.setCell ⟨g, 1, none⟩ u).heap[g]? = some (.cells #[c0, u, c2, c3, c4] t (0, 0)) := ag h 1 u rfl
theorem kL {w : World} {g : Nat} {t : TypeId} {c0 c1 c2 c3 c4 u : Value} (h : w.heap[g]? = some (.cells #[c0, c1, c2, c3, c4] t (0, 0))) : (w.setCell ⟨g, 2, none⟩ u).heap[g]? = some (.cells #[c0, c1, u, c3, c4] t (0, 0)) := ag h 2 u rfl
theorem kM {w : World} {g : Nat} {t : TypeId} {c0 c1 c2 c3 c4 u : Value} (h : w.heap[g]? = some (.cells #[c0, c1, c2, c3, c4] t (0, 0))) : (w.setCell ⟨g, 3, none⟩ u).heap[g]? = some (.cells #[c0, c1, c2, u, c4] t (0, 0)) := ag h 3 u rfl
theorem kN {w : World} {g : Nat} {t : TypeId} {c0 c1 c2 c3 c4 u : Value} (h : w.heap[g]? = some (.cells #[c0, c1, c2, c3, c4] t (0, 0))) : (w.setCell ⟨g, 4, none⟩ u).heap[g]? = some (.cells #[c0, c1, c2, c3, u] t (0, 0)) := ag h 4 u rfl
theorem kO {w : World} {g : Nat} {t : TypeId} {c0 c1 c2 c3 c4 c5 u : Value} (h : w.heap[g]? = some (.cells #[c0, c1, c2, c3, c4, c5] t (0, 0))) : (w.setCell ⟨g, 0, none⟩ u).heap[g]? = some (.cells #[u, c1, c2, c3, c4, c5] t (0, 0)) := ag h 0 u rfl
theorem kP {w : World} {g : Nat} {t : TypeId} {c0 c1 c2 c3 c4 c5 u : Value} (h : w.heap[g]? = some (.cells #[c0, c1, c2, c3, c4, c5] t (0, 0))) : (w.setCell ⟨g, 1, none⟩ u).heap[g]? = some (.cells #[c0, u, c2, c3, c4, c5] t (0, 0)) := ag h 1 u rfl
theorem kQ {w : World} {g : Nat} {t : TypeId} {c0 c1 c2 c3 c4 c5 u : Value} (h : w.heap[g]? = some (.cells #[c0, c1, c2, c3, c4, c5] t (0, 0))) : (w.setCell ⟨g, 2, none⟩ u).heap[g]? = some (.cells #[c0, c1, u, c3, c4, c5] t (0, 0)) := ag h 2 u rfl
theorem kR {w : World} {g : Nat} {t : TypeId} {c0 c1 c2 c3 c4 c5 u : Value} (h : w.heap[g]? = some (.cells #[c0, c1, c2, c3, c4, c5] t (0, 0))) : (w.setCell ⟨g, 3, none⟩ u).heap[g]? = some (.cells #[c0, c1, c2, u, c4, c5] t (0, 0)) := ag h 3 u rfl
theorem kS {w : World} {g : Nat} {t : TypeId} {c0 c1 c2 c3 c4 c5 u : Value} (h : w.heap[g]? = some (.cells #[c0, c1, c2, c3, c4, c5] t (0, 0))) : (w.setCell ⟨g, 4, none⟩ u).heap[g]? = some (.cells #[c0, c1, c2, c3, u, c5] t (0, 0)) := ag h 4 u rfl
theorem kT {w : World} {g : Nat} {t : TypeId} {c0 c1 c2 c3 c4 c5 u : Value} (h : w.heap[g]? = some (.cells #[c0, c1, c2, c3, c4, c5] t (0, 0))) : (w.setCell ⟨g, 5, none⟩ u).heap[g]? = some (.cells #[c0, c1, c2, c3, c4, u] t (0, 0)) := ag h 5 u rfl
theorem kU {w : World} {g : Nat} {t : TypeId} {c0 c1 c2 c3 c4 c5 c6 u : Value} (h : w.heap[g]? = some (.cells #[c0, c1, c2, c3, c4, c5, c6] t (0, 0))) : (w.setCell ⟨g, 0, none⟩ u).heap[g]? = some (.cells #[u, c1, c2, c3, c4, c5, c6] t (0, 0)) := ag h 0 u rfl
theorem kV {w : World} {g : Nat} {t : TypeId} {c0 c1 c2 c3 c4 c5 c6 u : Value} (h : w.heap[g]? = some (.cells #[c0, c1, c2, c3, c4, c5, c6] t (0, 0))) : (w.setCell ⟨g, 1, none⟩ u).heap[g]? = some (.cells #[c0, u, c2, c3, c4, c5, c6] t (0, 0)) := ag h 1 u rfl
theorem kW {w : World} {g : Nat} {t : TypeId} {c0 c1 c2 c3 c4 c5 c6 u : Value} (h : w.heap[g]? = some (.cells #[c0, c1, c2, c3, c4, c5, c6] t (0, 0))) : (w.setCell ⟨g, 2, none⟩ u).heap[g]? = some (.cells #[c0, c1, u, c3, c4, c5, c6] t (0, 0)) := ag h 2 u rfl
theorem kX {w : World} {g : Nat} {t : TypeId} {c0 c1 c2 c3 c4 c5 c6 u : Value} (h : w.heap[g]? = some (.cells #[c0, c1, c2, c3, c4, c5, c6] t (0, 0))) : (w.setCell ⟨g, 3, none⟩ u).heap[g]? = some (.cells #[c0, c1, c2, u, c4, c5, c6] t (0, 0)) := ag h 3 u rfl
theorem kY {w : World} {g : Nat} {t : TypeId} {c0 c1 c2 c3 c4 c5 c6 u : Value} (h : w.heap[g]? = some (.cells #[c0, c1, c2, c3, c4, c5, c6] t (0, 0))) : (w.setCell ⟨g, 4, none⟩ u).heap[g]? = some (.cells #[c0, c1, c2, c3, u, c5, c6] t (0, 0)) := ag h 4 u rfl
theorem kZ {w : World} {g : Nat} {t : TypeId} {c0 c1 c2 c3 c4 c5 c6 u : Value} (h : w.heap[g]? = some (.cells #[c0, c1, c2, c3, c4, c5, c6] t (0, 0))) : (w.setCell ⟨g, 5, none⟩ u).heap[g]? = some (.cells #[c0, c1, c2, c3, c4, u, c6] t (0, 0)) := ag h 5 u rfl
theorem k5 {w : World} {g : Nat} {t : TypeId} {c0 c1 c2 c3 c4 c5 c6 u : Value} (h : w.heap[g]? = some (.cells #[c0, c1, c2, c3, c4, c5, c6] t (0, 0))) : (w.setCell ⟨g, 6, none⟩ u).heap[g]? = some (.cells #[c0, c1, c2, c3, c4, c5, u] t (0, 0)) := ag h 6 u rfl
theorem k6 {w : World} {g : Nat} {t : TypeId} {c0 c1 c2 c3 c4 c5 c6 c7 u : Value} (h : w.heap[g]? = some (.cells #[c0, c1, c2, c3, c4, c5, c6, c7] t (0, 0))) : (w.setCell ⟨g, 0, none⟩ u).heap[g]? = some (.cells #[u, c1, c2, c3, c4, c5, c6, c7] t (0, 0)) := ag h 0 u rfl
theorem k7 {w : World} {g : Nat} {t : TypeId} {c0 c1 c2 c3 c4 c5 c6 c7 u : Value} (h : w.heap[g]? = some (.cells #[c0, c1, c2, c3, c4, c5, c6, c7] t (0, 0))) : (w.setCell ⟨g, 1, none⟩ u).heap[g]? = some (.cells #[c0, u, c2, c3, c4, c5, c6, c7] t (0, 0)) := ag h 1 u rfl
theorem k8 {w : World} {g : Nat} {t : TypeId} {c0 c1 c2 c3 c4 c5 c6 c7 u : Value} (h : w.heap[g]? = some (.cells #[c0, c1, c2, c3, c4, c5, c6, c7] t (0, 0))) : (w.setCell ⟨g, 2, none⟩ u).heap[g]? = some (.cells #[c0, c1, u, c3, c4, c5, c6, c7] t (0, 0)) := ag h 2 u rfl
theorem k9 {w : World} {g : Nat} {t : TypeId} {c0 c1 c2 c3 c4 c5 c6 c7 u : Value} (h : w.heap[g]? = some (.cells #[c0, c1, c2, c3, c4, c5, c6, c7] t (0, 0))) : (w.setCell ⟨g, 3, none⟩ u).heap[g]? = some (.cells #[c0, c1, c2, u, c4, c5, c6, c7] t (0, 0)) := ag h 3 u rfl
theorem la {w : World} {g : Nat} {t : TypeId} {c0 c1 c2 c3 c4 c5 c6 c7 u : Value} (h : w.heap[g]? = some (.cells #[c0, c1, c2, c3, c4, c5, c6, c7] t (0, 0))) : (w.setCell ⟨g, 4, none⟩ u).heap[g]? = some (.cells #[c0, c1, c2, c3, u, c5, c6, c7] t (0, 0)) := ag h 4 u rfl
theorem lb {w : World} {g : Nat} {t : TypeId} {c0 c1 c2 c3 c4 c5 c6 c7 u : Value} (h : w.heap[g]? = some (.cells #[c0, c1, c2, c3, c4, c5, c6, c7] t (0, 0))) : (w.setCell ⟨g, 5, none⟩ u).heap[g]? = some (.cells #[c0, c1, c2, c3, c4, u, c6, c7] t (0, 0)) := ag h 5 u rfl
theorem lc {w : World} {g : Nat} {t : TypeId} {c0 c1 c2 c3 c4 c5 c6 c7 u : Value} (h : w.heap[g]? = some (.cells #[c0, c1, c2, c3, c4, c5, c6, c7] t (0, 0))) : (w.setCell ⟨g, 6, none⟩ u).heap[g]? = some (.cells #[c0, c1, c2, c3, c4, c5, u, c7] t (0, 0)) := ag h 6 u rfl
theorem ld {w : World} {g : Nat} {t : TypeId} {c0 c1 c2 c3 c4 c5 c6 c7 u : Value} (h : w.heap[g]? = some (.cells #[c0, c1, c2, c3, c4, c5, c6, c7] t (0, 0))) : (w.setCell ⟨g, 7, none⟩ u).heap[g]? = some (.cells #[c0, c1, c2, c3, c4, c5, c6, u] t (0, 0)) := ag h 7 u rfl
theorem le {w : World} {g : Nat} {t : TypeId} {c0 c1 c2 c3 c4 c5 c6 c7 c8 u : Value} (h : w.heap[g]? = some (.cells #[c0, c1, c2, c3, c4, c5, c6, c7, c8] t (0, 0))) : (w.setCell ⟨g, 0, none⟩ u).heap[g]? = some (.cells #[u, c1, c2, c3, c4, c5, c6, c7, c8] t (0, 0)) := ag h 0 u rfl
theorem lf {w : World} {g : Nat} {t : TypeId} {c0 c1 c2 c3 c4 c5 c6 c7 c8 u : Value} (h : w.heap[g]? = some (.cells #[c0, c1, c2, c3, c4, c5, c6, c7, c8] t (0, 0))) : (w.setCell ⟨g, 1, none⟩ u).heap[g]? = some (.cells #[c0, u, c2, c3, c4, c5, c6, c7, c8] t (0, 0)) := ag h 1 u rfl
theorem lg {w : World} {g : Nat} {t : TypeId} {c0 c1 c2 c3 c4 c5 c6 c7 c8 u : Value} (h : w.heap[g]? = some (.cells #[c0, c1, c2, c3, c4, c5, c6, c7, c8] t (0, 0))) : (w.setCell ⟨g, 2, none⟩ u).heap[g]? = some (.cells #[c0, c1, u, c3, c4, c5, c6, c7, c8] t (0, 0)) := ag h 2 u rfl
theorem lh {w : World} {g : Nat} {t : TypeId} {c0 c1 c2 c3 c4 c5 c6 c7 c8 u : Value} (h : w.heap[g]? = some (.cells #[c0, c1, c2, c3, c4, c5, c6, c7, c8] t (0, 0))) : (w.setCell ⟨g, 3, none⟩ u).heap[g]? = some (.cells #[c0, c1, c2, u, c4, c5, c6, c7, c8] t (0, 0)) := ag h 3 u rfl
theorem ll {w : World} {g : Nat} {t : TypeId} {c0 c1 c2 c3 c4 c5 c6 c7 c8 u : Value} (h : w.heap[g]? = some (.cells #[c0, c1, c2, c3, c4, c5, c6, c7, c8] t (0, 0))) : (w.setCell ⟨g, 4, none⟩ u).heap[g]? = some (.cells #[c0, c1, c2, c3, u, c5, c6, c7, c8] t (0, 0)) := ag h 4 u rfl
theorem lm {w : World} {g : Nat} {t : TypeId} {c0 c1 c2 c3 c4 c5 c6 c7 c8 u : Value} (h : w.heap[g]? = some (.cells #[c0, c1, c2, c3, c4, c5, c6, c7, c8] t (0, 0))) : (w.setCell ⟨g, 5, none⟩ u).heap[g]? = some (.cells #[c0, c1, c2, c3, c4, u, c6, c7, c8] t (0, 0)) := ag h 5 u rfl
theorem ln {w : World} {g : Nat} {t : TypeId} {c0 c1 c2 c3 c4 c5 c6 c7 c8 u : Value} (h : w.heap[g]? = some (.cells #[c0, c1, c2, c3, c4, c5, c6, c7, c8] t (0, 0))) : (w.setCell ⟨g, 6, none⟩ u).heap[g]? = some (.cells #[c0, c1, c2, c3, c4, c5, u, c7, c8] t (0, 0)) := ag h 6 u rfl
theorem lq {w : World} {g : Nat} {t : TypeId} {c0 c1 c2 c3 c4 c5 c6 c7 c8 u : Value} (h : w.heap[g]? = some (.cells #[c0, c1, c2, c3, c4, c5, c6, c7, c8] t (0, 0))) : (w.setCell ⟨g, 7, none⟩ u).heap[g]? = some (.cells #[c0, c1, c2, c3, c4, c5, c6, u, c8] t (0, 0)) := ag h 7 u rfl
theorem lr {w : World} {g : Nat} {t : TypeId} {c0 c1 c2 c3 c4 c5 c6 c7 c8 u : Value} (h : w.heap[g]? = some (.cells #[c0, c1, c2, c3, c4, c5, c6, c7, c8] t (0, 0))) : (w.setCell ⟨g, 8, none⟩ u).heap[g]? = some (.cells #[c0, c1, c2, c3, c4, c5, c6, c7, u] t (0, 0)) := ag h 8 u rfl
theorem xbl {p : Prop} (h : p := by repeat (first | (with_reducible first | exact HB.out | apply cA | apply de | apply cU | refine gI ?_ (Zz.out (by assumption))) | exact HB.out)) : p := h
theorem xst {w W w2 : World} (k : Below W.heap.size W w2) (h : Below w.heap.size w W := by repeat (first | (with_reducible first | exact HB.out | apply cA | apply de | apply cU | refine gI ?_ (Zz.out (by assumption))) | exact HB.out)) : Zz (Below w.heap.size w w2) := ⟨ke h k⟩
theorem xsz {w W : World} {g : Nat} (hg : g = W.heap.size) (h : Below w.heap.size w W := by repeat (first | (with_reducible first | exact HB.out | apply cA | apply de | apply cU | refine gI ?_ (Zz.out (by assumption))) | exact HB.out)) : Zz (w.heap.size ≤ g) := ⟨by rw [hg]; exact bh h⟩
theorem xbk {p : Prop} (h : p := by repeat (first | (with_reducible first | refine ai ?_ _ | refine aj ?_ | refine ah ?_ _ | exact Zz.out (by assumption) | refine cN ?_ (Zz.out (by assumption)) _ | apply kz | apply kA | apply kB | apply kC | apply kD | apply kE | apply kF | apply kG | apply kH | apply kI | apply kJ | apply kK | apply kL | apply kM | apply kN | apply kO | apply kP | apply kQ | apply kR | apply kS | apply kT | apply kU | apply kV | apply kW | apply kX | apply kY | apply kZ | apply k5 | apply k6 | apply k7 | apply k8 | apply k9 | apply la | apply lb | apply lc | apply ld | apply le | apply lf | apply lg | apply lh | apply ll | apply lm | apply ln | apply lq | apply lr) | refine cN ?_ (Zz.out (by assumption)) _ | exact Zz.out (by assumption))) : p := h
theorem xbb {w w1 : World} {g : Nat} {o : Obj} (hb : Below w.heap.size w w1) (h : w.heap[g]? = some o := by repeat (first | (with_reducible first | refine ai ?_ _ | refine aj ?_ | refine ah ?_ _ | exact Zz.out (by assumption) | refine cN ?_ (Zz.out (by assumption)) _ | apply kz | apply kA | apply kB | apply kC | apply kD | apply kE | apply kF | apply kG | apply kH | apply kI | apply kJ | apply kK | apply kL | apply kM | apply kN | apply kO | apply kP | apply kQ | apply kR | apply kS | apply kT | apply kU | apply kV | apply kW | apply kX | apply kY | apply kZ | apply k5 | apply k6 | apply k7 | apply k8 | apply k9 | apply la | apply lb | apply lc | apply ld | apply le | apply lf | apply lg | apply lh | apply ll | apply lm | apply ln | apply lq | apply lr) | refine cN ?_ (Zz.out (by assumption)) _ | exact Zz.out (by assumption))) : Zz (w1.heap[g]? = some o) := ⟨lx h hb⟩
theorem xlt {W : World} {g g' : Nat} {o : Obj} (hg : g' = W.heap.size) (h : W.heap[g]? = some o := by repeat (first | (with_reducible first | refine ai ?_ _ | refine aj ?_ | refine ah ?_ _ | exact Zz.out (by assumption) | refine cN ?_ (Zz.out (by assumption)) _ | apply kz | apply kA | apply kB | apply kC | apply kD | apply kE | apply kF | apply kG | apply kH | apply kI | apply kJ | apply kK | apply kL | apply kM | apply kN | apply kO | apply kP | apply kQ | apply kR | apply kS | apply kT | apply kU | apply kV | apply kW | apply kX | apply kY | apply kZ | apply k5 | apply k6 | apply k7 | apply k8 | apply k9 | apply la | apply lb | apply lc | apply ld | apply le | apply lf | apply lg | apply lh | apply ll | apply lm | apply ln | apply lq | apply lr) | refine cN ?_ (Zz.out (by assumption)) _ | exact Zz.out (by assumption))) : Zz (g ≠ g') := ⟨by rw [hg]; exact Nat.ne_of_lt (fW h)⟩
theorem xgt {W : World} {g g' : Nat} {o : Obj} (hg : g' = W.heap.size) (h : W.heap[g]? = some o := by repeat (first | (with_reducible first | refine ai ?_ _ | refine aj ?_ | refine ah ?_ _ | exact Zz.out (by assumption) | refine cN ?_ (Zz.out (by assumption)) _ | apply kz | apply kA | apply kB | apply kC | apply kD | apply kE | apply kF | apply kG | apply kH | apply kI | apply kJ | apply kK | apply kL | apply kM | apply kN | apply kO | apply kP | apply kQ | apply kR | apply kS | apply kT | apply kU | apply kV | apply kW | apply kX | apply kY | apply kZ | apply k5 | apply k6 | apply k7 | apply k8 | apply k9 | apply la | apply lb | apply lc | apply ld | apply le | apply lf | apply lg | apply lh | apply ll | apply lm | apply ln | apply lq | apply lr) | refine cN ?_ (Zz.out (by assumption)) _ | exact Zz.out (by assumption))) : Zz (g' ≠ g) := ⟨by rw [hg]; exact Nat.ne_of_gt (fW h)⟩
theorem xrr {p : Prop} (h : p := by first | rfl | (simp; done) | (simp [*]; done) | (simp [wrap64]; done)) : p := h
theorem xre {p : Prop} (h : p := by first | rfl | (simp [aN, aQ] <;> first | rfl | (simp only [ck, bne, Bool.not_not]; done)) | (simp [*, aN, aQ] <;> rfl)) : p := h
theorem xdr {p : Prop} (h : p := by repeat (first | exact Drawn0.refl _ | apply Drawn0.step)) : p := h
theorem xkd {p q : Prop} (f : Zz q) (h : q → p := by intro hq_; (with_reducible repeat (first | apply Kd.R_alloc | apply Kd.R_drewN | apply Kd.R_drew)); exact hq_) : p := h f.out
theorem xom {p : Prop} (h : p := by first | omega | exact Nat.le_refl _) : p := h
theorem xmo {p : Prop} (h : p := by
  repeat' first
   | (with_reducible apply ih0) | (with_reducible apply ih1) | (with_reducible apply ih2) | (with_reducible apply ih3) | (with_reducible apply ih4) | (with_reducible apply ih5) | (with_reducible apply ih6) | (with_reducible apply ih7) | (with_reducible apply ih8) | (with_reducible apply ih9)
   | (with_reducible apply ih10) | (with_reducible apply ih11) | (with_reducible apply ih12) | (with_reducible apply ih13) | (with_reducible apply ih14) | (with_reducible apply ih15) | (with_reducible apply ih16) | (with_reducible apply ih17) | (with_reducible apply ih18) | (with_reducible apply ih19)
   | (with_reducible apply m0) | (with_reducible apply m1) | (with_reducible apply m2) | (with_reducible apply m3) | (with_reducible apply m4) | (with_reducible apply m5) | (with_reducible apply m6) | (with_reducible apply m7) | (with_reducible apply m8) | (with_reducible apply m9)
   | (with_reducible apply m10) | (with_reducible apply m11) | (with_reducible apply m12) | (with_reducible apply m13) | (with_reducible apply m14) | (with_reducible apply m15) | (with_reducible apply m16) | (with_reducible apply m17) | (with_reducible apply m18) | (with_reducible apply m19)
   | (with_reducible exact LeO.refl _) | (with_reducible exact LeO.none _) | (with_reducible refine LeO.ite ?_ ?_) | (with_reducible refine LeO.bind ?_ (fun _ => ?_))
   | apply ih0 | apply ih1 | apply ih2 | apply ih3 | apply ih4 | apply ih5 | apply ih6 | apply ih7 | apply ih8 | apply ih9 | apply ih10 | apply ih11 | apply ih12 | apply ih13 | apply ih14 | apply ih15 | apply ih16 | apply ih17 | apply ih18 | apply ih19
   | apply m0 | apply m1 | apply m2 | apply m3 | apply m4 | apply m5 | apply m6 | apply m7 | apply m8 | apply m9 | apply m10 | apply m11 | apply m12 | apply m13 | apply m14 | apply m15 | apply m16 | apply m17 | apply m18 | apply m19
   | exact LeO.none _ | refine LeO.ite ?_ ?_ | refine LeO.bind ?_ (fun _ => ?_)) : p := h
theorem xod {p : Prop} [Decidable p] (h : decide p = true := by first | (with_reducible assumption) | assumption) : p := of_decide_eq_true h
section
variable {P : Program} {ops : Array Oper} {rest : List Oper} {o : Oper} {a : Act} {Q : Exit → Act → World → Prop}
theorem xgl {w : World} (N : Tmp) {f : FuncId} {fn : Func} {asx : Array Operand} {ts : Array TypeId} (hf : P.funcs[f]? = some fn) (args : Array Value)
    (h : Calls P f args w fun e w' => ∃ v, e = .returned v ∧ wpList P ops Q rest (a.put (some N) v) w')
    (hop : o.op = .call { callee := .value (.func f), args := asx, argTypes := ts } := by rfl) (hd : o.dst = some N := by rfl) (hg : o.guard = none := by rfl)
    (hname : (fn.name == "runtime.NumGoroutine") = false := by kernel_rfl) (hb : fn.body.isSome = true := by rfl)
    (hargs : asx.map a.eval = args := by (try simp only [List.map_toArray, List.map_cons, List.map_nil]); first | done | rfl | (simp only [List.length_drop, List.length_take]; rfl)) : wpList P ops Q (o :: rest) a w :=
  dF (some N) hd hg hf hname hb args hop hargs h
theorem xev {W : World} (N : Tmp) (cs : Array Value) (t : TypeId)
    (h : ∀ g, g = W.heap.size → ∀ w1, w1.heap[g]? = some (.cells cs t (0, 0)) → Below W.heap.size W w1 → wpList P ops Q rest (a.put o.dst (.pointer (some ⟨g, 0, none⟩))) w1)
    (hd : o.dst = some N := by rfl) (hgd : o.guard = none := by rfl)
    (hrun : (execOp a.eval o).run P W = .ok (.value (.pointer (some ⟨W.heap.size, 0, none⟩))) (W.alloc (.cells cs t (0, 0))) := by first | (go_simp; done) | (go_simp; rfl)) : wpList P ops Q (o :: rest) a W :=
  ly hgd hd hrun h
end
section
variable {w : World} {g : Nat} {t : TypeId} {c0 c1 c2 c3 c4 c5 c6 c7 c8 : Value}
theorem xc2 (h : Zz (w.heap[g]? = some (.cells #[c0, c1] t (0, 0)))) : w.cell? ⟨g, 0, none⟩ = some c0 ∧ w.cell? ⟨g, 1, none⟩ = some c1 := ⟨(ap h.out 0).trans rfl, (ap h.out 1).trans rfl⟩
theorem xc5 (h : Zz (w.heap[g]? = some (.cells #[c0, c1, c2, c3, c4] t (0, 0)))) : w.cell? ⟨g, 0, none⟩ = some c0 ∧ w.cell? ⟨g, 1, none⟩ = some c1 ∧ w.cell? ⟨g, 2, none⟩ = some c2 ∧ w.cell? ⟨g, 3, none⟩ = some c3 ∧ w.cell? ⟨g, 4, none⟩ = some c4 := ⟨(ap h.out 0).trans rfl, (ap h.out 1).trans rfl, (ap h.out 2).trans rfl, (ap h.out 3).trans rfl, (ap h.out 4).trans rfl⟩
variable {cs : Array Value}
theorem xf (h : Zz (w.heap[g]? = some (.cells cs t (0, 0)))) : ∀ i, w.frozen? ⟨g, i, none⟩ = false := fun i => kg h.out i
end
end Go.Proofs.YtmofhijbheimmaaDoorW.PrintMore
namespace Go.Proofs
open Go.Shelf
open Go.RowKit in
def Tryd.lays156_ren : Go.Shelf.Ren := ⟨fun | 156 => 32 | 165 => 49 | 166 => 50 | 169 => 51 | 240 => 73 | 241 => 74 | 276 => 86 | 277 => 87 | n => n, fun | 31 => 23 | 9 => 9 | 3 => 3 | 4 => 4 | 0 => 0 | 20 => 20 | 72 => 70 | 76 => 74 | 70 => 68 | 37 => 60 | 75 => 73 | 127 => 99 | 164 => 110 | 5 => 5 | 80 => 33 | n => n, fun | n => n⟩
theorem Tryd.lays156 : Go.Proofs.Lays.n156 Tryd.prog Tryd.lays156_ren := {
  mixed := by kernel_rfl
  f156 := Tryd.func32.trans (congrArg some (by kernel_rfl))
  f165 := Tryd.func49.trans (congrArg some (by kernel_rfl))
  f166 := Tryd.func50.trans (congrArg some (by kernel_rfl))
  f169 := Tryd.func51.trans (congrArg some (by kernel_rfl))
  f240 := Tryd.func73.trans (congrArg some (by kernel_rfl))
  f241 := Tryd.func74.trans (congrArg some (by kernel_rfl))
  f276 := Tryd.func86.trans (congrArg some (by kernel_rfl))
  f277 := Tryd.func87.trans (congrArg some (by kernel_rfl))
  t0 := Tryd.underlying0
  a0 := Tryd.isAgg0
  z0 := Tryd.sizeOf0
  v0 := Tryd.zeroValue0
  t3 := Tryd.underlying3
  a3 := Tryd.isAgg3
  z3 := Tryd.sizeOf3
  v3 := Tryd.zeroValue3
  t4 := Tryd.underlying4
  a4 := Tryd.isAgg4
  z4 := Tryd.sizeOf4
  v4 := Tryd.zeroValue4
  t9 := Tryd.underlying9
  a9 := Tryd.isAgg9
  z9 := Tryd.sizeOf9
  v9 := Tryd.zeroValue9
  t20 := Tryd.underlying20
  a20 := Tryd.isAgg20
  z20 := Tryd.sizeOf20
  v20 := Tryd.zeroValue20
  t31 := Tryd.underlying23
  a31 := Tryd.isAgg23
  z31 := Tryd.sizeOf23
  v31 := Tryd.zeroValue23
  t37 := Tryd.underlying60
  a37 := Tryd.isAgg60
  z37 := Tryd.sizeOf60
  v37 := Tryd.zeroValue60
  t70 := Tryd.underlying68
  a70 := Tryd.isAgg68
  z70 := Tryd.sizeOf68
  v70 := Tryd.zeroValue68
  t72 := Tryd.underlying70
  a72 := Tryd.isAgg70
  z72 := Tryd.sizeOf70
  v72 := Tryd.zeroValue70
  t75 := Tryd.underlying73
  a75 := Tryd.isAgg73
  z75 := Tryd.sizeOf73
  v75 := Tryd.zeroValue73
  t76 := Tryd.underlying74
  a76 := Tryd.isAgg74
  z76 := Tryd.sizeOf74
  v76 := Tryd.zeroValue74
  t127 := Tryd.underlying99
  a127 := Tryd.isAgg99
  z127 := Tryd.sizeOf99
  v127 := Tryd.zeroValue99
  t164 := Tryd.underlying110
  a164 := Tryd.isAgg110
  z164 := Tryd.sizeOf110
  v164 := Tryd.zeroValue110 }
theorem Tryd.Builder_Extra_156 : Builder.Extra Tryd.prog Tryd.lays156_ren := {
  sizeBuilder := by kernel_rfl
  liesBuilder := by kernel_rfl
  t5 := Tryd.underlying5
  a5 := Tryd.isAgg5
  z5 := Tryd.sizeOf5
  v5 := Tryd.zeroValue5
  infoByte := by kernel_rfl
  cellsByte := by kernel_rfl
  sizeByte := by kernel_rfl
  neB5 := by decide }
open Go.RowKit in
theorem Tryd.strings_Join_none (a : Option Addr) (c : Nat) (sep : ByteArray) (w : World) :
    Calls Tryd.prog 32 #[.slice a 0 c, .string sep] w fun e w' => e = .returned (.string ⟨#[]⟩) ∧ w' = w := Any.strings_Join_none Tryd.lays156 Tryd.Builder_Extra_156 a c sep w
open Go.RowKit in
theorem Tryd.strings_Join (bk o c : Nat) (xs : List ByteArray) (sep : ByteArray) (w : World) (hcells : ∀ (j : Nat) x, xs[j]? = some x → w.cell? ⟨bk, o + j, none⟩ = some (.string x)) (hbk : bk < w.heap.size) (hN : xs.length ≤ 140737488355328) (hcap : xs.length ≤ c) (hlen : (Lib.join (xs.map (·.data.toList)) sep.data.toList).length ≤ 140737488355328) :
    Calls Tryd.prog 32 #[.slice (some ⟨bk, o, none⟩) xs.length c, .string sep] w fun e w' => e = .returned (.string ⟨(Lib.join (xs.map (·.data.toList)) sep.data.toList).toArray⟩) ∧ Below w.heap.size w w' := Any.strings_Join Tryd.lays156 Tryd.Builder_Extra_156 bk o c xs sep w hcells hbk hN hcap hlen
open Go.RowKit Go.Lib in
def Tryd.lays149_ren : Go.Shelf.Ren := ⟨fun | 149 => 37 | 222 => 53 | n => n, fun | 9 => 9 | 5 => 5 | 3 => 3 | 4 => 4 | n => n, fun | n => n⟩
theorem Tryd.lays149 : Go.Proofs.Lays.n149 Tryd.prog Tryd.lays149_ren := {
  mixed := by kernel_rfl
  f149 := Tryd.func37.trans (congrArg some (by kernel_rfl))
  f222 := Tryd.func53.trans (congrArg some (by kernel_rfl))
  t3 := Tryd.underlying3
  a3 := Tryd.isAgg3
  z3 := Tryd.sizeOf3
  v3 := Tryd.zeroValue3
  t4 := Tryd.underlying4
  a4 := Tryd.isAgg4
  z4 := Tryd.sizeOf4
  v4 := Tryd.zeroValue4
  t5 := Tryd.underlying5
  a5 := Tryd.isAgg5
  z5 := Tryd.sizeOf5
  v5 := Tryd.zeroValue5
  t9 := Tryd.underlying9
  a9 := Tryd.isAgg9
  z9 := Tryd.sizeOf9
  v9 := Tryd.zeroValue9 }
open Go.RowKit Go.Lib in
theorem Tryd.strings_LastIndexByte (s : ByteArray) (c : Int) (hs : s.size < 4611686018427387904) (w : World) :
    Calls Tryd.prog 37 #[.string s, .int .u8 c] w fun e w' => e = .returned (.int .i64 (Lib.lastIndexByte s c)) ∧ w' = w := Any.strings_LastIndexByte Tryd.lays149 s c hs w
open Go.RowKit Go.Lib in
def Tryd.lays146_ren : Go.Shelf.Ren := ⟨fun | 146 => 26 | 221 => 40 | 268 => 59 | 138 => 60 | 143 => 61 | 195 => 80 | 197 => 81 | 218 => 82 | 219 => 83 | 260 => 90 | 217 => 91 | 225 => 92 | 224 => 93 | 267 => 94 | 266 => 95 | 314 => 96 | n => n, fun | 9 => 9 | 31 => 23 | 3 => 3 | 4 => 4 | 0 => 0 | 105 => 106 | 21 => 21 | 5 => 5 | 46 => 98 | 119 => 117 | 139 => 120 | 138 => 119 | 146 => 122 | 51 => 121 | n => n, fun | 1 => 0 | 3 => 1 | 4 => 2 | n => n⟩
theorem Tryd.lays146 : Go.Proofs.Lays.n146 Tryd.prog Tryd.lays146_ren := {
  mixed := by kernel_rfl
  f138 := Tryd.func60.trans (congrArg some (by kernel_rfl))
  f143 := Tryd.func61.trans (congrArg some (by kernel_rfl))
  f146 := Tryd.func26.trans (congrArg some (by kernel_rfl))
  f195 := Tryd.func80.trans (congrArg some (by kernel_rfl))
  f197 := Tryd.func81.trans (congrArg some (by kernel_rfl))
  f217 := Tryd.func91.trans (congrArg some (by kernel_rfl))
  f218 := Tryd.func82.trans (congrArg some (by kernel_rfl))
  f219 := Tryd.func83.trans (congrArg some (by kernel_rfl))
  f221 := Tryd.func40.trans (congrArg some (by kernel_rfl))
  f224 := Tryd.func93.trans (congrArg some (by kernel_rfl))
  f225 := Tryd.func92.trans (congrArg some (by kernel_rfl))
  f260 := Tryd.func90.trans (congrArg some (by kernel_rfl))
  f266 := Tryd.func95.trans (congrArg some (by kernel_rfl))
  f267 := Tryd.func94.trans (congrArg some (by kernel_rfl))
  f268 := Tryd.func59.trans (congrArg some (by kernel_rfl))
  f314 := Tryd.func96.trans (congrArg some (by kernel_rfl))
  t0 := Tryd.underlying0
  a0 := Tryd.isAgg0
  z0 := Tryd.sizeOf0
  v0 := Tryd.zeroValue0
  t3 := Tryd.underlying3
  a3 := Tryd.isAgg3
  z3 := Tryd.sizeOf3
  v3 := Tryd.zeroValue3
  t4 := Tryd.underlying4
  a4 := Tryd.isAgg4
  z4 := Tryd.sizeOf4
  v4 := Tryd.zeroValue4
  t5 := Tryd.underlying5
  a5 := Tryd.isAgg5
  z5 := Tryd.sizeOf5
  v5 := Tryd.zeroValue5
  t9 := Tryd.underlying9
  a9 := Tryd.isAgg9
  z9 := Tryd.sizeOf9
  v9 := Tryd.zeroValue9
  t21 := Tryd.underlying21
  a21 := Tryd.isAgg21
  z21 := Tryd.sizeOf21
  v21 := Tryd.zeroValue21
  t31 := Tryd.underlying23
  a31 := Tryd.isAgg23
  z31 := Tryd.sizeOf23
  v31 := Tryd.zeroValue23
  t46 := Tryd.underlying98
  a46 := Tryd.isAgg98
  z46 := Tryd.sizeOf98
  v46 := Tryd.zeroValue98
  t51 := Tryd.underlying121
  a51 := Tryd.isAgg121
  z51 := Tryd.sizeOf121
  v51 := Tryd.zeroValue121
  t105 := Tryd.underlying106
  a105 := Tryd.isAgg106
  z105 := Tryd.sizeOf106
  v105 := Tryd.zeroValue106
  t119 := Tryd.underlying117
  a119 := Tryd.isAgg117
  z119 := Tryd.sizeOf117
  t138 := Tryd.underlying119
  a138 := Tryd.isAgg119
  z138 := Tryd.sizeOf119
  v138 := Tryd.zeroValue119
  t139 := Tryd.underlying120
  a139 := Tryd.isAgg120
  z139 := Tryd.sizeOf120
  v139 := Tryd.zeroValue120
  t146 := Tryd.underlying122
  a146 := Tryd.isAgg122
  z146 := Tryd.sizeOf122
  v146 := Tryd.zeroValue122
  g1 := by kernel_rfl
  g3 := by kernel_rfl
  g4 := by kernel_rfl }
open Go.RowKit Go.Lib in
theorem Tryd.strings_Split (s sep : ByteArray) (m : Int) (w : World) (hs : s.size < 4294967281) (hm : w.cell? ⟨0, 0, none⟩ = some (.int .i64 m)) (h1 : 1 ≤ sep.size) :
    Calls Tryd.prog 26 #[.string s, .string sep] w fun e w' =>
      e = .returned (.slice (some ⟨w.heap.size, 0, none⟩) (Lib.countB s sep + 1) (Lib.countB s sep + 1)) ∧ w' = w.alloc (.cells ((Lib.splitB sep 0 (Lib.countB s sep) s).map Value.string).toArray 9) := Any.strings_Split Tryd.lays146 (by kernel_rfl) s sep m w hs hm h1
open Go.RowKit Go.Lib in
def Tryd.laysPa45_ren : Go.Shelf.Ren := ⟨fun | 45 => 53 | n => n, fun | 9 => 9 | 5 => 5 | 3 => 3 | 4 => 4 | n => n, fun | n => n⟩
theorem Tryd.laysPa45 : Go.Proofs.Lays.p45 Tryd.prog Tryd.laysPa45_ren := {
  mixed := by kernel_rfl
  f45 := Tryd.func53.trans (congrArg some (by kernel_rfl))
  t3 := Tryd.underlying3
  a3 := Tryd.isAgg3
  z3 := Tryd.sizeOf3
  v3 := Tryd.zeroValue3
  t4 := Tryd.underlying4
  a4 := Tryd.isAgg4
  z4 := Tryd.sizeOf4
  v4 := Tryd.zeroValue4
  t5 := Tryd.underlying5
  a5 := Tryd.isAgg5
  z5 := Tryd.sizeOf5
  v5 := Tryd.zeroValue5
  t9 := Tryd.underlying9
  a9 := Tryd.isAgg9
  z9 := Tryd.sizeOf9
  v9 := Tryd.zeroValue9 }
open Go.RowKit Go.Lib in
theorem Tryd.bytealg_LastIndexByteString (s : ByteArray) (c : UInt8) (w : World) (hs : s.size ≤ 9223372036854775807) :
    Calls Tryd.prog 53 #[.string s, .int .u8 c.toNat] w fun e w' => e = .returned (.int .i64 (Pa.lastIndexByte s.data.toList c)) ∧ w' = w := Any.bytealg_LastIndexByteString Tryd.laysPa45 s c w hs
end Go.Proofs
namespace Go.Proofs.YtmofhijbheimmaaDoor.X
open Go.RowKit Go.Proofs.YtmofhijbheimmaaDoorW.PrintWords Go.Proofs.YtmofhijbheimmaaDoorW.PrintLast Go.Proofs.YtmofhijbheimmaaDoorW.PrintMore
attribute [local go_sem] dg cP eb fs gc eQ ft eI eK fo fp dS dT eJ eL
theorem ck (l : List UInt8) : l.isEmpty = (l == []) := by cases l <;> rfl
structure GW (w : World) : Prop where
  maxLen : ∃ m, w.cell? ⟨0, 0, none⟩ = some (.int .i64 m)
theorem eR {w w' : World} (h : GW w) (hb : Below w.heap.size w w') : GW w' := by
  obtain ⟨m, hm⟩ := h.maxLen
  exact ⟨⟨m, dJ hb hm⟩⟩
def nq : Option Int → Value
  | none => .nilIface
  | some c => .iface 0 (.int .i64 c)
theorem aN : nq none = .nilIface := rfl
theorem aQ (c : Int) : nq (some c) = .iface 0 (.int .i64 c) := rfl
theorem jj : (Tryd.prog.info? 5).map (fun i => (i.zero, i.size, i.bytes)) = some (some (.int .u8 0), 1, 1) := by kernel_rfl
theorem mG : (Tryd.prog.info? 9).map (fun i => (i.zero, i.size, i.bytes)) = some (some (.string ⟨#[]⟩), 1, 16) := by kernel_rfl
def cr (a0 : Int) : Option (ByteArray × Bool) := if a0 = 1 then (some ((⟨#[58]⟩ : ByteArray), true)) else (if a0 = 2 then (some ((⟨#[]⟩ : ByteArray), true)) else (if a0 = 3 then (some ((⟨#[58, 64]⟩ : ByteArray), true)) else (if a0 = 4 then (some ((⟨#[64]⟩ : ByteArray), true)) else (if a0 = 5 then (some ((⟨#[58, 64, 47]⟩ : ByteArray), true)) else (if a0 = 6 then (some ((⟨#[58, 64, 47, 63]⟩ : ByteArray), true)) else (if a0 = 7 then (some ((⟨#[58, 64, 47, 63]⟩ : ByteArray), true)) else (some ((⟨#[]⟩ : ByteArray), false))))))))
theorem bp (a0 : Int) (r1 : ByteArray) (r2 : Bool) (w : World) (h : cr a0 = some (r1, r2)) :
    Calls Tryd.prog 55 #[.int .i64 a0] w fun e w' => e = .returned (.tuple #[.string r1, .bool r2]) ∧ Drawn0 w w' := by
 have H : (if a0 = 1 then (some ((⟨#[58]⟩ : ByteArray), true)) else (if a0 = 2 then (some ((⟨#[]⟩ : ByteArray), true)) else (if a0 = 3 then (some ((⟨#[58, 64]⟩ : ByteArray), true)) else (if a0 = 4 then (some ((⟨#[64]⟩ : ByteArray), true)) else (if a0 = 5 then (some ((⟨#[58, 64, 47]⟩ : ByteArray), true)) else (if a0 = 6 then (some ((⟨#[58, 64, 47, 63]⟩ : ByteArray), true)) else (if a0 = 7 then (some ((⟨#[58, 64, 47, 63]⟩ : ByteArray), true)) else (some ((⟨#[]⟩ : ByteArray), false))))))))) = some (r1, r2) := h
 clear h
 by_cases c2 : a0 = 1
 ·
  rw [if_pos c2] at H
  have Aa : (a0 == 1) = true := beq_iff_eq.mpr c2
  have Ab : (a0 != 1) = false := bne_eq_false_iff_eq.mpr c2
  clear c2
  simp only [Option.some.injEq, Prod.mk.injEq] at H
  obtain ⟨rfl, rfl⟩ := H
  go_enter Tryd.func55, Tryd.ntmps55
  go_wp2
  go_ret2
  exact ⟨xrr, xdr⟩
 ·
  rw [if_neg c2] at H
  have Aa : (a0 == 1) = false := beq_eq_false_iff_ne.mpr c2
  have Ab : (a0 != 1) = true := bne_iff_ne.mpr c2
  by_cases c3 : a0 = 2
  ·
   rw [if_pos c3] at H
   have Ac : (a0 == 2) = true := beq_iff_eq.mpr c3
   have Ad : (a0 != 2) = false := bne_eq_false_iff_eq.mpr c3
   clear c3
   simp only [Option.some.injEq, Prod.mk.injEq] at H
   obtain ⟨rfl, rfl⟩ := H
   go_enter Tryd.func55, Tryd.ntmps55
   go_wp2
   go_ret2
   exact ⟨xrr, xdr⟩
  ·
   rw [if_neg c3] at H
   have Ac : (a0 == 2) = false := beq_eq_false_iff_ne.mpr c3
   have Ad : (a0 != 2) = true := bne_iff_ne.mpr c3
   by_cases c4 : a0 = 3
   ·
    rw [if_pos c4] at H
    have Ae : (a0 == 3) = true := beq_iff_eq.mpr c4
    have Af : (a0 != 3) = false := bne_eq_false_iff_eq.mpr c4
    clear c4
    simp only [Option.some.injEq, Prod.mk.injEq] at H
    obtain ⟨rfl, rfl⟩ := H
    go_enter Tryd.func55, Tryd.ntmps55
    go_wp2
    go_ret2
    exact ⟨xrr, xdr⟩
   ·
    rw [if_neg c4] at H
    have Ae : (a0 == 3) = false := beq_eq_false_iff_ne.mpr c4
    have Af : (a0 != 3) = true := bne_iff_ne.mpr c4
    by_cases c5 : a0 = 4
    ·
     rw [if_pos c5] at H
     have Ag : (a0 == 4) = true := beq_iff_eq.mpr c5
     have Ah : (a0 != 4) = false := bne_eq_false_iff_eq.mpr c5
     clear c5
     simp only [Option.some.injEq, Prod.mk.injEq] at H
     obtain ⟨rfl, rfl⟩ := H
     go_enter Tryd.func55, Tryd.ntmps55
     go_wp2
     go_ret2
     exact ⟨xrr, xdr⟩
    ·
     rw [if_neg c5] at H
     have Ag : (a0 == 4) = false := beq_eq_false_iff_ne.mpr c5
     have Ah : (a0 != 4) = true := bne_iff_ne.mpr c5
     by_cases c6 : a0 = 5
     ·
      rw [if_pos c6] at H
      have Ai : (a0 == 5) = true := beq_iff_eq.mpr c6
      have Aj : (a0 != 5) = false := bne_eq_false_iff_eq.mpr c6
      clear c6
      simp only [Option.some.injEq, Prod.mk.injEq] at H
      obtain ⟨rfl, rfl⟩ := H
      go_enter Tryd.func55, Tryd.ntmps55
      go_wp2
      go_ret2
      exact ⟨xrr, xdr⟩
     ·
      rw [if_neg c6] at H
      have Ai : (a0 == 5) = false := beq_eq_false_iff_ne.mpr c6
      have Aj : (a0 != 5) = true := bne_iff_ne.mpr c6
      by_cases c7 : a0 = 6
      ·
       rw [if_pos c7] at H
       have Ak : (a0 == 6) = true := beq_iff_eq.mpr c7
       have Al : (a0 != 6) = false := bne_eq_false_iff_eq.mpr c7
       clear c7
       simp only [Option.some.injEq, Prod.mk.injEq] at H
       obtain ⟨rfl, rfl⟩ := H
       go_enter Tryd.func55, Tryd.ntmps55
       go_wp2
       go_ret2
       exact ⟨xrr, xdr⟩
      ·
       rw [if_neg c7] at H
       have Ak : (a0 == 6) = false := beq_eq_false_iff_ne.mpr c7
       have Al : (a0 != 6) = true := bne_iff_ne.mpr c7
       by_cases c8 : a0 = 7
       ·
        rw [if_pos c8] at H
        have Am : (a0 == 7) = true := beq_iff_eq.mpr c8
        have An : (a0 != 7) = false := bne_eq_false_iff_eq.mpr c8
        clear c8
        simp only [Option.some.injEq, Prod.mk.injEq] at H
        obtain ⟨rfl, rfl⟩ := H
        go_enter Tryd.func55, Tryd.ntmps55
        go_wp2
        go_ret2
        exact ⟨xrr, xdr⟩
       ·
        rw [if_neg c8] at H
        have Am : (a0 == 7) = false := beq_eq_false_iff_ne.mpr c8
        have An : (a0 != 7) = true := bne_iff_ne.mpr c8
        simp only [Option.some.injEq, Prod.mk.injEq] at H
        obtain ⟨rfl, rfl⟩ := H
        go_enter Tryd.func55, Tryd.ntmps55
        go_wp2
        go_ret2
        exact ⟨xrr, xdr⟩
mutual
def a6 : Nat → Int → Bool → Option (Int)
  | 0, _, _ => none
  | k + 1, x3, x4 => if x4 = true then (some 4) else (if x3 = 33 then (aM k x3 (x3 == 33)) else (if x3 = 36 then (aM k x3 (x3 == 36)) else (if x3 = 38 then (aM k x3 (x3 == 38)) else (if x3 = 39 then (aM k x3 (x3 == 39)) else (if x3 = 40 then (aM k x3 (x3 == 40)) else (if x3 = 41 then (aM k x3 (x3 == 41)) else (if x3 = 42 then (aM k x3 (x3 == 42)) else (if x3 = 43 then (aM k x3 (x3 == 43)) else (if x3 = 44 then (aM k x3 (x3 == 44)) else (if x3 = 59 then (aM k x3 (x3 == 59)) else (aM k x3 (x3 == 61))))))))))))
def aM : Nat → Int → Bool → Option (Int)
  | 0, _, _ => none
  | k + 1, x3, x9 => if x9 = true then (some 8) else (if x3 = 58 then (some 16) else (if x3 = 47 then (some 16) else (if x3 = 63 then (some 16) else (if x3 = 35 then (some 16) else (if x3 = 91 then (some 16) else (if x3 = 93 then (some 16) else (if x3 = 64 then (some 16) else (some 0))))))))
end
def dd (k : Nat) (a0 : Int) : Option (Int) := if a0 = 45 then (a6 k a0 (a0 == 45)) else (if a0 = 46 then (a6 k a0 (a0 == 46)) else (if a0 = 95 then (a6 k a0 (a0 == 95)) else (a6 k a0 (a0 == 126))))
theorem fd : ∀ k, (∀ y0 y1, LeO (a6 k y0 y1) (a6 (k + 1) y0 y1)) ∧ (∀ y0 y1, LeO (aM k y0 y1) (aM (k + 1) y0 y1))
  | 0 => ⟨fun _ _ r h => by simp [a6] at h, fun _ _ r h => by simp [aM] at h⟩
  | k + 1 => by
    obtain ⟨ih0, ih1⟩ := fd k
    refine ⟨?_, ?_⟩
    · intro y0 y1
      unfold a6
      exact xmo
    · intro y0 y1
      unfold aM
      exact xmo
theorem fN : ∀ a0 k, LeO (dd k a0) (dd (k + 1) a0) := by
  intro a0 k
  obtain ⟨ih0, ih1⟩ := fd k
  unfold dd
  exact xmo
theorem fA (k : Nat) (a0 : Int) (r : Int) (w : World) (h : dd k a0 = some r) :
    Calls Tryd.prog 85 #[.int .u8 a0] w fun e w' => e = .returned (.int .i64 r) ∧ Drawn0 w w' := by
 have H : (if a0 = 45 then (a6 k a0 (a0 == 45)) else (if a0 = 46 then (a6 k a0 (a0 == 46)) else (if a0 = 95 then (a6 k a0 (a0 == 95)) else (a6 k a0 (a0 == 126))))) = some r := h
 clear h
 have AI := Zz.mk H
 clear H
 go_enter Tryd.func85, Tryd.ntmps85
 go_upto_if 4 with (fail)
 go_cut [4] (fun v4 wc => ∃ (kq : Nat) (Ac : Bool), v4 = .bool Ac ∧ Zz (a6 kq a0 Ac = some r) ∧ Zz (kq ≤ k) ∧ Drawn0 w wc)
 case first =>
  have H := AI.out
  clear AI
  by_cases c3 : a0 = 45
  ·
   rw [if_pos c3] at H
   have Aa : (a0 == 45) = true := beq_iff_eq.mpr c3
   have AJ : (a0 != 45) = false := bne_eq_false_iff_eq.mpr c3
   clear c3
   (first | rw [Aa] | (simp only [an, au]; rw [Aa]) | (rw [AK]; (try simp only [Bool.not_false, Bool.not_true])) | (rw [AL]; (try simp only [Bool.not_false, Bool.not_true])) | skip)
   have H' := Zz.mk H
   clear H
   go_wp2
   go_meet
   case rel => exact ⟨_, ((a0 == 45)), xrr, H', ⟨xom⟩, xdr⟩
  ·
   rw [if_neg c3] at H
   have Aa : (a0 == 45) = false := beq_eq_false_iff_ne.mpr c3
   have AJ : (a0 != 45) = true := bne_iff_ne.mpr c3
   (first | rw [Aa] | (simp only [an, au]; rw [Aa]) | (rw [AK]; (try simp only [Bool.not_false, Bool.not_true])) | (rw [AL]; (try simp only [Bool.not_false, Bool.not_true])) | skip)
   by_cases c4 : a0 = 46
   ·
    rw [if_pos c4] at H
    have AM : (a0 == 46) = true := beq_iff_eq.mpr c4
    have AN : (a0 != 46) = false := bne_eq_false_iff_eq.mpr c4
    clear c4
    have H' := Zz.mk H
    clear H
    go_wp2
    go_meet
    case rel => exact ⟨_, ((a0 == 46)), xrr, H', ⟨xom⟩, xdr⟩
   ·
    rw [if_neg c4] at H
    have AM : (a0 == 46) = false := beq_eq_false_iff_ne.mpr c4
    have AN : (a0 != 46) = true := bne_iff_ne.mpr c4
    by_cases c5 : a0 = 95
    ·
     rw [if_pos c5] at H
     have AO : (a0 == 95) = true := beq_iff_eq.mpr c5
     have AP : (a0 != 95) = false := bne_eq_false_iff_eq.mpr c5
     clear c5
     have H' := Zz.mk H
     clear H
     go_wp2
     go_meet
     case rel => exact ⟨_, ((a0 == 95)), xrr, H', ⟨xom⟩, xdr⟩
    ·
     rw [if_neg c5] at H
     have AO : (a0 == 95) = false := beq_eq_false_iff_ne.mpr c5
     have AP : (a0 != 95) = true := bne_iff_ne.mpr c5
     have H' := Zz.mk H
     clear H
     go_wp2
     go_meet
     case rel => exact ⟨_, ((a0 == 126)), xrr, H', ⟨xom⟩, xdr⟩
 case rest =>
  clear AI
  obtain ⟨kq, Ac, rfl, HA, HJ1, ⟨mc1, rfl⟩⟩ := hcut
  cases kq with
  | zero => exact absurd HA.out (by simp [a6])
  | succ kj1 =>
   have H := HA.out
   clear HA
   simp only [a6] at H
   by_cases c6 : Ac = true
   ·
    subst c6
    rw [if_pos rfl] at H
    obtain rfl := Option.some.inj H
    go_wp2
    go_ret
    exact ⟨xrr, xdr⟩
   ·
    replace c6 := Bool.eq_false_iff.mpr c6
    subst c6
    rw [if_neg (show ¬ (false = true) by decide)] at H
    have AQ := Zz.mk H
    clear H
    go_upto_if 9 with (fail)
    go_cut [9] (fun v9 wc => ∃ (kq : Nat) (Ad : Bool), v9 = .bool Ad ∧ Zz (aM kq a0 Ad = some r) ∧ Zz (kq ≤ kj1) ∧ Drawn0 w wc)
    case first =>
     have H := AQ.out
     clear AQ
     by_cases c8 : a0 = 33
     ·
      rw [if_pos c8] at H
      have Ab : (a0 == 33) = true := beq_iff_eq.mpr c8
      have AR : (a0 != 33) = false := bne_eq_false_iff_eq.mpr c8
      clear c8
      (first | rw [Ab] | (simp only [an, au]; rw [Ab]) | (rw [AS]; (try simp only [Bool.not_false, Bool.not_true])) | (rw [AT]; (try simp only [Bool.not_false, Bool.not_true])) | skip)
      have H' := Zz.mk H
      clear H
      go_wp2
      go_meet
      case rel => exact ⟨_, ((a0 == 33)), xrr, H', ⟨by have := HJ1.out; first | omega | exact Nat.le_refl _⟩, xdr⟩
     ·
      rw [if_neg c8] at H
      have Ab : (a0 == 33) = false := beq_eq_false_iff_ne.mpr c8
      have AR : (a0 != 33) = true := bne_iff_ne.mpr c8
      (first | rw [Ab] | (simp only [an, au]; rw [Ab]) | (rw [AS]; (try simp only [Bool.not_false, Bool.not_true])) | (rw [AT]; (try simp only [Bool.not_false, Bool.not_true])) | skip)
      by_cases c9 : a0 = 36
      ·
       rw [if_pos c9] at H
       have AU : (a0 == 36) = true := beq_iff_eq.mpr c9
       have AV : (a0 != 36) = false := bne_eq_false_iff_eq.mpr c9
       clear c9
       have H' := Zz.mk H
       clear H
       go_wp2
       go_meet
       case rel => exact ⟨_, ((a0 == 36)), xrr, H', ⟨by have := HJ1.out; first | omega | exact Nat.le_refl _⟩, xdr⟩
      ·
       rw [if_neg c9] at H
       have AU : (a0 == 36) = false := beq_eq_false_iff_ne.mpr c9
       have AV : (a0 != 36) = true := bne_iff_ne.mpr c9
       by_cases c10 : a0 = 38
       ·
        rw [if_pos c10] at H
        have Ae : (a0 == 38) = true := beq_iff_eq.mpr c10
        have Af : (a0 != 38) = false := bne_eq_false_iff_eq.mpr c10
        clear c10
        have H' := Zz.mk H
        clear H
        go_wp2
        go_meet
        case rel => exact ⟨_, ((a0 == 38)), xrr, H', ⟨by have := HJ1.out; first | omega | exact Nat.le_refl _⟩, xdr⟩
       ·
        rw [if_neg c10] at H
        have Ae : (a0 == 38) = false := beq_eq_false_iff_ne.mpr c10
        have Af : (a0 != 38) = true := bne_iff_ne.mpr c10
        by_cases c11 : a0 = 39
        ·
         rw [if_pos c11] at H
         have Ag : (a0 == 39) = true := beq_iff_eq.mpr c11
         have Ah : (a0 != 39) = false := bne_eq_false_iff_eq.mpr c11
         clear c11
         have H' := Zz.mk H
         clear H
         go_wp2
         go_meet
         case rel => exact ⟨_, ((a0 == 39)), xrr, H', ⟨by have := HJ1.out; first | omega | exact Nat.le_refl _⟩, xdr⟩
        ·
         rw [if_neg c11] at H
         have Ag : (a0 == 39) = false := beq_eq_false_iff_ne.mpr c11
         have Ah : (a0 != 39) = true := bne_iff_ne.mpr c11
         by_cases c12 : a0 = 40
         ·
          rw [if_pos c12] at H
          have Ai : (a0 == 40) = true := beq_iff_eq.mpr c12
          have Aj : (a0 != 40) = false := bne_eq_false_iff_eq.mpr c12
          clear c12
          have H' := Zz.mk H
          clear H
          go_wp2
          go_meet
          case rel => exact ⟨_, ((a0 == 40)), xrr, H', ⟨by have := HJ1.out; first | omega | exact Nat.le_refl _⟩, xdr⟩
         ·
          rw [if_neg c12] at H
          have Ai : (a0 == 40) = false := beq_eq_false_iff_ne.mpr c12
          have Aj : (a0 != 40) = true := bne_iff_ne.mpr c12
          by_cases c13 : a0 = 41
          ·
           rw [if_pos c13] at H
           have Ak : (a0 == 41) = true := beq_iff_eq.mpr c13
           have Al : (a0 != 41) = false := bne_eq_false_iff_eq.mpr c13
           clear c13
           have H' := Zz.mk H
           clear H
           go_wp2
           go_meet
           case rel => exact ⟨_, ((a0 == 41)), xrr, H', ⟨by have := HJ1.out; first | omega | exact Nat.le_refl _⟩, xdr⟩
          ·
           rw [if_neg c13] at H
           have Ak : (a0 == 41) = false := beq_eq_false_iff_ne.mpr c13
           have Al : (a0 != 41) = true := bne_iff_ne.mpr c13
           by_cases c14 : a0 = 42
           ·
            rw [if_pos c14] at H
            have Am : (a0 == 42) = true := beq_iff_eq.mpr c14
            have An : (a0 != 42) = false := bne_eq_false_iff_eq.mpr c14
            clear c14
            have H' := Zz.mk H
            clear H
            go_wp2
            go_meet
            case rel => exact ⟨_, ((a0 == 42)), xrr, H', ⟨by have := HJ1.out; first | omega | exact Nat.le_refl _⟩, xdr⟩
           ·
            rw [if_neg c14] at H
            have Am : (a0 == 42) = false := beq_eq_false_iff_ne.mpr c14
            have An : (a0 != 42) = true := bne_iff_ne.mpr c14
            by_cases c15 : a0 = 43
            ·
             rw [if_pos c15] at H
             have Ao : (a0 == 43) = true := beq_iff_eq.mpr c15
             have Ap : (a0 != 43) = false := bne_eq_false_iff_eq.mpr c15
             clear c15
             have H' := Zz.mk H
             clear H
             go_wp2
             go_meet
             case rel => exact ⟨_, ((a0 == 43)), xrr, H', ⟨by have := HJ1.out; first | omega | exact Nat.le_refl _⟩, xdr⟩
            ·
             rw [if_neg c15] at H
             have Ao : (a0 == 43) = false := beq_eq_false_iff_ne.mpr c15
             have Ap : (a0 != 43) = true := bne_iff_ne.mpr c15
             by_cases c16 : a0 = 44
             ·
              rw [if_pos c16] at H
              have Aq : (a0 == 44) = true := beq_iff_eq.mpr c16
              have Ar : (a0 != 44) = false := bne_eq_false_iff_eq.mpr c16
              clear c16
              have H' := Zz.mk H
              clear H
              go_wp2
              go_meet
              case rel => exact ⟨_, ((a0 == 44)), xrr, H', ⟨by have := HJ1.out; first | omega | exact Nat.le_refl _⟩, xdr⟩
             ·
              rw [if_neg c16] at H
              have Aq : (a0 == 44) = false := beq_eq_false_iff_ne.mpr c16
              have Ar : (a0 != 44) = true := bne_iff_ne.mpr c16
              by_cases c17 : a0 = 59
              ·
               rw [if_pos c17] at H
               have As : (a0 == 59) = true := beq_iff_eq.mpr c17
               have At : (a0 != 59) = false := bne_eq_false_iff_eq.mpr c17
               clear c17
               have H' := Zz.mk H
               clear H
               go_wp2
               go_meet
               case rel => exact ⟨_, ((a0 == 59)), xrr, H', ⟨by have := HJ1.out; first | omega | exact Nat.le_refl _⟩, xdr⟩
              ·
               rw [if_neg c17] at H
               have As : (a0 == 59) = false := beq_eq_false_iff_ne.mpr c17
               have At : (a0 != 59) = true := bne_iff_ne.mpr c17
               have H' := Zz.mk H
               clear H
               go_wp2
               go_meet
               case rel => exact ⟨_, ((a0 == 61)), xrr, H', ⟨by have := HJ1.out; first | omega | exact Nat.le_refl _⟩, xdr⟩
    case rest =>
     clear AQ
     obtain ⟨kq, Ad, rfl, HA, HJ6, ⟨mc6, rfl⟩⟩ := hcut
     cases kq with
     | zero => exact absurd HA.out (by simp [aM])
     | succ kj6 =>
      have H := HA.out
      clear HA
      simp only [aM] at H
      by_cases c18 : Ad = true
      ·
       subst c18
       rw [if_pos rfl] at H
       obtain rfl := Option.some.inj H
       go_wp2
       go_ret
       exact ⟨xrr, xdr⟩
      ·
       replace c18 := Bool.eq_false_iff.mpr c18
       subst c18
       rw [if_neg (show ¬ (false = true) by decide)] at H
       by_cases c19 : a0 = 58
       ·
        rw [if_pos c19] at H
        have Au : (a0 == 58) = true := beq_iff_eq.mpr c19
        have Av : (a0 != 58) = false := bne_eq_false_iff_eq.mpr c19
        clear c19
        obtain rfl := Option.some.inj H
        go_wp2
        go_ret
        exact ⟨xrr, xdr⟩
       ·
        rw [if_neg c19] at H
        have Au : (a0 == 58) = false := beq_eq_false_iff_ne.mpr c19
        have Av : (a0 != 58) = true := bne_iff_ne.mpr c19
        by_cases c20 : a0 = 47
        ·
         rw [if_pos c20] at H
         have Aw : (a0 == 47) = true := beq_iff_eq.mpr c20
         have Ax : (a0 != 47) = false := bne_eq_false_iff_eq.mpr c20
         clear c20
         obtain rfl := Option.some.inj H
         go_wp2
         go_ret
         exact ⟨xrr, xdr⟩
        ·
         rw [if_neg c20] at H
         have Aw : (a0 == 47) = false := beq_eq_false_iff_ne.mpr c20
         have Ax : (a0 != 47) = true := bne_iff_ne.mpr c20
         by_cases c21 : a0 = 63
         ·
          rw [if_pos c21] at H
          have Ay : (a0 == 63) = true := beq_iff_eq.mpr c21
          have Az : (a0 != 63) = false := bne_eq_false_iff_eq.mpr c21
          clear c21
          obtain rfl := Option.some.inj H
          go_wp2
          go_ret
          exact ⟨xrr, xdr⟩
         ·
          rw [if_neg c21] at H
          have Ay : (a0 == 63) = false := beq_eq_false_iff_ne.mpr c21
          have Az : (a0 != 63) = true := bne_iff_ne.mpr c21
          by_cases c22 : a0 = 35
          ·
           rw [if_pos c22] at H
           have AA : (a0 == 35) = true := beq_iff_eq.mpr c22
           have AB : (a0 != 35) = false := bne_eq_false_iff_eq.mpr c22
           clear c22
           obtain rfl := Option.some.inj H
           go_wp2
           go_ret
           exact ⟨xrr, xdr⟩
          ·
           rw [if_neg c22] at H
           have AA : (a0 == 35) = false := beq_eq_false_iff_ne.mpr c22
           have AB : (a0 != 35) = true := bne_iff_ne.mpr c22
           by_cases c23 : a0 = 91
           ·
            rw [if_pos c23] at H
            have AC : (a0 == 91) = true := beq_iff_eq.mpr c23
            have AD : (a0 != 91) = false := bne_eq_false_iff_eq.mpr c23
            clear c23
            obtain rfl := Option.some.inj H
            go_wp2
            go_ret
            exact ⟨xrr, xdr⟩
           ·
            rw [if_neg c23] at H
            have AC : (a0 == 91) = false := beq_eq_false_iff_ne.mpr c23
            have AD : (a0 != 91) = true := bne_iff_ne.mpr c23
            by_cases c24 : a0 = 93
            ·
             rw [if_pos c24] at H
             have AE : (a0 == 93) = true := beq_iff_eq.mpr c24
             have AF : (a0 != 93) = false := bne_eq_false_iff_eq.mpr c24
             clear c24
             obtain rfl := Option.some.inj H
             go_wp2
             go_ret
             exact ⟨xrr, xdr⟩
            ·
             rw [if_neg c24] at H
             have AE : (a0 == 93) = false := beq_eq_false_iff_ne.mpr c24
             have AF : (a0 != 93) = true := bne_iff_ne.mpr c24
             by_cases c25 : a0 = 64
             ·
              rw [if_pos c25] at H
              have AG : (a0 == 64) = true := beq_iff_eq.mpr c25
              have AH : (a0 != 64) = false := bne_eq_false_iff_eq.mpr c25
              clear c25
              obtain rfl := Option.some.inj H
              go_wp2
              go_ret
              exact ⟨xrr, xdr⟩
             ·
              rw [if_neg c25] at H
              have AG : (a0 == 64) = false := beq_eq_false_iff_ne.mpr c25
              have AH : (a0 != 64) = true := bne_iff_ne.mpr c25
              obtain rfl := Option.some.inj H
              go_wp2
              go_ret
              exact ⟨xrr, xdr⟩
mutual
def bs : Nat → Int → Bool → Option (Int)
  | 0, _, _ => none
  | k + 1, x0, x3 => if x3 = true then (some 34) else (if x0 ≥ 97 then (bO k x0 (decide (x0 ≤ 102))) else (bO k x0 false))
def bO : Nat → Int → Bool → Option (Int)
  | 0, _, _ => none
  | k + 1, x0, x10 => if x10 = true then (bG k x0 x10) else (if x0 ≥ 65 then (bG k x0 (decide (x0 ≤ 70))) else (bG k x0 false))
def bG : Nat → Int → Bool → Option (Int)
  | 0, _, _ => none
  | k + 1, x0, x10 => if x10 = true then (some 33) else (if x0 ≥ 103 then (bP k x0 (decide (x0 ≤ 122))) else (bP k x0 false))
def bP : Nat → Int → Bool → Option (Int)
  | 0, _, _ => none
  | k + 1, x0, x23 => if x23 = true then (some 1) else (if x0 ≥ 71 then (if x0 ≤ 90 then (some 1) else ((dd k x0).bind fun t101 => (some t101))) else ((dd k x0).bind fun t102 => (some t102)))
end
def ce (k : Nat) (a0 : Int) : Option (Int) := if a0 ≥ 48 then (bs k a0 (decide (a0 ≤ 57))) else (bs k a0 false)
theorem eX : ∀ k, (∀ y0 y1, LeO (bs k y0 y1) (bs (k + 1) y0 y1)) ∧ (∀ y0 y1, LeO (bO k y0 y1) (bO (k + 1) y0 y1)) ∧ (∀ y0 y1, LeO (bG k y0 y1) (bG (k + 1) y0 y1)) ∧ (∀ y0 y1, LeO (bP k y0 y1) (bP (k + 1) y0 y1))
  | 0 => ⟨fun _ _ r h => by simp [bs] at h, fun _ _ r h => by simp [bO] at h, fun _ _ r h => by simp [bG] at h, fun _ _ r h => by simp [bP] at h⟩
  | k + 1 => by
    obtain ⟨ih0, ih1, ih2, ih3⟩ := eX k
    have m0 := @fN
    refine ⟨?_, ?_, ?_, ?_⟩
    · intro y0 y1
      unfold bs
      exact xmo
    · intro y0 y1
      unfold bO
      exact xmo
    · intro y0 y1
      unfold bG
      exact xmo
    · intro y0 y1
      unfold bP
      exact xmo
theorem fz : ∀ a0 k, LeO (ce k a0) (ce (k + 1) a0) := by
  intro a0 k
  obtain ⟨ih0, ih1, ih2, ih3⟩ := eX k
  have m0 := @fN
  unfold ce
  exact xmo
theorem hE (k : Nat) (a0 : Int) (r : Int) (w : World) (h : ce k a0 = some r) :
    Calls Tryd.prog 71 #[.int .u8 a0] w fun e w' => e = .returned (.int .i64 r) ∧ Drawn0 w w' := by
 have H : (if a0 ≥ 48 then (bs k a0 (decide (a0 ≤ 57))) else (bs k a0 false)) = some r := h
 clear h
 have An := Zz.mk H
 clear H
 go_enter Tryd.func71, Tryd.ntmps71
 go_upto_region 1 with (fail)
 go_cut [3] (fun v3 wc => ∃ (kq : Nat) (Ah : Bool), v3 = .bool Ah ∧ Zz (bs kq a0 Ah = some r) ∧ Zz (kq ≤ k) ∧ Drawn0 w wc)
 case first =>
  have H := An.out
  clear An
  by_cases c3 : a0 ≥ 48
  ·
   rw [if_pos c3] at H
   have Ae := decide_eq_true c3
   clear c3
   (first | rw [Ae] | (simp only [an, au]; rw [Ae]) | (rw [Ao]; (try simp only [Bool.not_false, Bool.not_true])) | (rw [Ap]; (try simp only [Bool.not_false, Bool.not_true])) | skip)
   have H' := Zz.mk H
   clear H
   go_wp2
   go_meet
   case rel => exact ⟨_, (decide (a0 ≤ 57)), xrr, H', ⟨xom⟩, xdr⟩
  ·
   rw [if_neg c3] at H
   have Ae := decide_eq_false c3
   clear c3
   (first | rw [Ae] | (simp only [an, au]; rw [Ae]) | (rw [Ao]; (try simp only [Bool.not_false, Bool.not_true])) | (rw [Ap]; (try simp only [Bool.not_false, Bool.not_true])) | skip)
   have H' := Zz.mk H
   clear H
   go_wp2
   go_meet
   case rel => exact ⟨_, (false), xrr, H', ⟨xom⟩, xdr⟩
 case rest =>
  clear An
  obtain ⟨kq, Ah, rfl, HA, HJ1, ⟨mc1, rfl⟩⟩ := hcut
  cases kq with
  | zero => exact absurd HA.out (by simp [bs])
  | succ kj1 =>
   have H := HA.out
   clear HA
   simp only [bs] at H
   by_cases c4 : Ah = true
   ·
    subst c4
    rw [if_pos rfl] at H
    obtain rfl := Option.some.inj H
    go_wp2
    go_ret
    exact ⟨xrr, xdr⟩
   ·
    replace c4 := Bool.eq_false_iff.mpr c4
    subst c4
    rw [if_neg (show ¬ (false = true) by decide)] at H
    have Aq := Zz.mk H
    clear H
    go_upto_region 3 with (fail)
    go_cut [10] (fun v10 wc => ∃ (kq : Nat) (Ac : Bool), v10 = .bool Ac ∧ Zz (bO kq a0 Ac = some r) ∧ Zz (kq ≤ kj1) ∧ Drawn0 w wc)
    case first =>
     have H := Aq.out
     clear Aq
     by_cases c6 : a0 ≥ 97
     ·
      rw [if_pos c6] at H
      have Af := decide_eq_true c6
      clear c6
      (first | rw [Af] | (simp only [an, au]; rw [Af]) | (rw [Ar]; (try simp only [Bool.not_false, Bool.not_true])) | (rw [As]; (try simp only [Bool.not_false, Bool.not_true])) | skip)
      have H' := Zz.mk H
      clear H
      go_wp2
      go_meet
      case rel => exact ⟨_, (decide (a0 ≤ 102)), xrr, H', ⟨by have := HJ1.out; first | omega | exact Nat.le_refl _⟩, xdr⟩
     ·
      rw [if_neg c6] at H
      have Af := decide_eq_false c6
      clear c6
      (first | rw [Af] | (simp only [an, au]; rw [Af]) | (rw [Ar]; (try simp only [Bool.not_false, Bool.not_true])) | (rw [As]; (try simp only [Bool.not_false, Bool.not_true])) | skip)
      have H' := Zz.mk H
      clear H
      go_wp2
      go_meet
      case rel => exact ⟨_, (false), xrr, H', ⟨by have := HJ1.out; first | omega | exact Nat.le_refl _⟩, xdr⟩
    case rest =>
     clear Aq
     obtain ⟨kq, Ac, rfl, HA, HJ4, ⟨mc4, rfl⟩⟩ := hcut
     cases kq with
     | zero => exact absurd HA.out (by simp [bO])
     | succ kj4 =>
      have H := HA.out
      clear HA
      simp only [bO] at H
      have At := Zz.mk H
      clear H
      go_upto_if 10 with (fail)
      go_cut [10] (fun v10 wc => ∃ (kq : Nat) (Ad : Bool), v10 = .bool Ad ∧ Zz (bG kq a0 Ad = some r) ∧ Zz (kq ≤ kj4) ∧ Drawn0 w wc)
      case first =>
       have H := At.out
       clear At
       by_cases c8 : Ac = true
       ·
        subst c8
        rw [if_pos rfl] at H
        have H' := Zz.mk H
        clear H
        go_wp2
        go_meet
        case rel => exact ⟨_, (true), xrr, H', ⟨by have := HJ1.out; have := HJ4.out; first | omega | exact Nat.le_refl _⟩, xdr⟩
       ·
        replace c8 := Bool.eq_false_iff.mpr c8
        subst c8
        rw [if_neg (show ¬ (false = true) by decide)] at H
        by_cases c9 : a0 ≥ 65
        ·
         rw [if_pos c9] at H
         have Ag := decide_eq_true c9
         clear c9
         (first | rw [Ag] | (simp only [an, au]; rw [Ag]) | (rw [Au]; (try simp only [Bool.not_false, Bool.not_true])) | (rw [Av]; (try simp only [Bool.not_false, Bool.not_true])) | skip)
         have H' := Zz.mk H
         clear H
         go_wp2
         go_meet
         case rel => exact ⟨_, (decide (a0 ≤ 70)), xrr, H', ⟨by have := HJ1.out; have := HJ4.out; first | omega | exact Nat.le_refl _⟩, xdr⟩
        ·
         rw [if_neg c9] at H
         have Ag := decide_eq_false c9
         clear c9
         (first | rw [Ag] | (simp only [an, au]; rw [Ag]) | (rw [Au]; (try simp only [Bool.not_false, Bool.not_true])) | (rw [Av]; (try simp only [Bool.not_false, Bool.not_true])) | skip)
         have H' := Zz.mk H
         clear H
         go_wp2
         go_meet
         case rel => exact ⟨_, (false), xrr, H', ⟨by have := HJ1.out; have := HJ4.out; first | omega | exact Nat.le_refl _⟩, xdr⟩
      case rest =>
       clear At
       obtain ⟨kq, Ad, rfl, HA, HJ6, ⟨mc6, rfl⟩⟩ := hcut
       cases kq with
       | zero => exact absurd HA.out (by simp [bG])
       | succ kj6 =>
        have H := HA.out
        clear HA
        simp only [bG] at H
        by_cases c10 : Ad = true
        ·
         subst c10
         rw [if_pos rfl] at H
         obtain rfl := Option.some.inj H
         go_wp2
         go_ret
         exact ⟨xrr, xdr⟩
        ·
         replace c10 := Bool.eq_false_iff.mpr c10
         subst c10
         rw [if_neg (show ¬ (false = true) by decide)] at H
         have Ai := Zz.mk H
         clear H
         go_upto_region 6 with (fail)
         go_cut [23] (fun v23 wc => ∃ (kq : Nat) (Aa : Bool), v23 = .bool Aa ∧ Zz (bP kq a0 Aa = some r) ∧ Zz (kq ≤ kj6) ∧ Drawn0 w wc)
         case first =>
          have H := Ai.out
          clear Ai
          by_cases c12 : a0 ≥ 103
          ·
           rw [if_pos c12] at H
           have Ab := decide_eq_true c12
           clear c12
           (first | rw [Ab] | (simp only [an, au]; rw [Ab]) | (rw [Aj]; (try simp only [Bool.not_false, Bool.not_true])) | (rw [Ak]; (try simp only [Bool.not_false, Bool.not_true])) | skip)
           have H' := Zz.mk H
           clear H
           go_wp2
           go_meet
           case rel => exact ⟨_, (decide (a0 ≤ 122)), xrr, H', ⟨by have := HJ1.out; have := HJ4.out; have := HJ6.out; first | omega | exact Nat.le_refl _⟩, xdr⟩
          ·
           rw [if_neg c12] at H
           have Ab := decide_eq_false c12
           clear c12
           (first | rw [Ab] | (simp only [an, au]; rw [Ab]) | (rw [Aj]; (try simp only [Bool.not_false, Bool.not_true])) | (rw [Ak]; (try simp only [Bool.not_false, Bool.not_true])) | skip)
           have H' := Zz.mk H
           clear H
           go_wp2
           go_meet
           case rel => exact ⟨_, (false), xrr, H', ⟨by have := HJ1.out; have := HJ4.out; have := HJ6.out; first | omega | exact Nat.le_refl _⟩, xdr⟩
         case rest =>
          clear Ai
          obtain ⟨kq, Aa, rfl, HA, HJ10, ⟨mc10, rfl⟩⟩ := hcut
          cases kq with
          | zero => exact absurd HA.out (by simp [bP])
          | succ kj10 =>
           have H := HA.out
           clear HA
           simp only [bP] at H
           by_cases c13 : Aa = true
           ·
            subst c13
            rw [if_pos rfl] at H
            obtain rfl := Option.some.inj H
            go_wp2
            go_ret
            exact ⟨xrr, xdr⟩
           ·
            replace c13 := Bool.eq_false_iff.mpr c13
            subst c13
            rw [if_neg (show ¬ (false = true) by decide)] at H
            by_cases c14 : a0 ≥ 71
            ·
             rw [if_pos c14] at H
             have Al := decide_eq_true c14
             clear c14
             by_cases c15 : a0 ≤ 90
             ·
              rw [if_pos c15] at H
              have Am := decide_eq_true c15
              clear c15
              obtain rfl := Option.some.inj H
              go_wp2
              go_ret
              exact ⟨xrr, xdr⟩
             ·
              rw [if_neg c15] at H
              have Am := decide_eq_false c15
              clear c15
              replace H := Option.bind_eq_some_iff.mp H
              obtain ⟨Aw, A160, H⟩ := H
              try dsimp only at H
              have A16 := Zz.mk A160
              clear A160
              obtain rfl := Option.some.inj H
              go_wp2_with (first | ((with_reducible refine ae (f := 85) rfl ?_); refine xgl 37 Tryd.func85 #[.int .u8 a0] ?_; (with_reducible refine (fA kj10 a0 Aw _ A16.out).mono ?_); rintro e w' ⟨rfl, ⟨nd, rfl⟩⟩; refine ⟨_, rfl, ?_⟩))
              go_ret
              exact ⟨xrr, xdr⟩
            ·
             rw [if_neg c14] at H
             have Al := decide_eq_false c14
             clear c14
             replace H := Option.bind_eq_some_iff.mp H
             obtain ⟨Ax, A170, H⟩ := H
             try dsimp only at H
             have A17 := Zz.mk A170
             clear A170
             obtain rfl := Option.some.inj H
             go_wp2_with (first | ((with_reducible refine ae (f := 85) rfl ?_); refine xgl 37 Tryd.func85 #[.int .u8 a0] ?_; (with_reducible refine (fA kj10 a0 Ax _ A17.out).mono ?_); rintro e w' ⟨rfl, ⟨nd, rfl⟩⟩; refine ⟨_, rfl, ?_⟩))
             go_ret
             exact ⟨xrr, xdr⟩
def cy (k : Nat) (a0 : Int) (a1 : Int) : Option (Bool) := (ce k a0).bind fun t103 => (some ((Go.bits .and .i64 t103 a1) != 0))
theorem dl : ∀ a0 a1 k, LeO (cy k a0 a1) (cy (k + 1) a0 a1) := by
  intro a0 a1 k
  have m0 := @fz
  unfold cy
  exact xmo
theorem bY (k : Nat) (a0 : Int) (a1 : Int) (r : Bool) (w : World) (h : cy k a0 a1 = some r) :
    Calls Tryd.prog 47 #[.int .u8 a0, .int .i64 a1] w fun e w' => e = .returned (.bool r) ∧ Drawn0 w w' := by
 have H : ((ce k a0).bind fun t103 => (some ((Go.bits .and .i64 t103 a1) != 0))) = some r := h
 clear h
 replace H := Option.bind_eq_some_iff.mp H
 obtain ⟨t103, A30, H⟩ := H
 try dsimp only at H
 have A3 := Zz.mk A30
 clear A30
 obtain rfl := Option.some.inj H
 go_enter Tryd.func47, Tryd.ntmps47
 go_wp2_with (first | ((with_reducible refine ae (f := 71) rfl ?_); refine xgl 6 Tryd.func71 #[.int .u8 a0] ?_; (with_reducible refine (hE k a0 t103 _ A3.out).mono ?_); rintro e w' ⟨rfl, ⟨nd, rfl⟩⟩; refine ⟨_, rfl, ?_⟩))
 go_ret
 exact ⟨xrr, xdr⟩
def ie (a0 : Int) : Option (Int) := if a0 ≥ 65 then (if a0 ≤ 90 then (some (Go.bits .or .u8 a0 32)) else (some a0)) else (some a0)
theorem iC (a0 : Int) (r : Int) (w : World) (h : ie a0 = some r) :
    Calls Tryd.prog 88 #[.int .u8 a0] w fun e w' => e = .returned (.int .u8 r) ∧ Drawn0 w w' := by
 have H : (if a0 ≥ 65 then (if a0 ≤ 90 then (some (Go.bits .or .u8 a0 32)) else (some a0)) else (some a0)) = some r := h
 clear h
 by_cases c2 : a0 ≥ 65
 ·
  rw [if_pos c2] at H
  have c2b0 := decide_eq_true c2
  clear c2
  by_cases c3 : a0 ≤ 90
  ·
   rw [if_pos c3] at H
   have c3b0 := decide_eq_true c3
   clear c3
   obtain rfl := Option.some.inj H
   go_enter Tryd.func88, Tryd.ntmps88
   go_wp2
   go_ret
   exact ⟨xrr, xdr⟩
  ·
   rw [if_neg c3] at H
   have c3b0 := decide_eq_false c3
   clear c3
   obtain rfl := Option.some.inj H
   go_enter Tryd.func88, Tryd.ntmps88
   go_wp2
   go_ret
   exact ⟨xrr, xdr⟩
 ·
  rw [if_neg c2] at H
  have c2b0 := decide_eq_false c2
  clear c2
  obtain rfl := Option.some.inj H
  go_enter Tryd.func88, Tryd.ntmps88
  go_wp2
  go_ret
  exact ⟨xrr, xdr⟩
def bu : Nat → Int → Bool → Option (Int × Bool)
  | 0, _, _ => none
  | k + 1, x0, x4 => if x4 = true then (some ((x0 - 48) % 256, true)) else ((cy k x0 32).bind fun t104 => (if t104 = true then ((ie x0).bind fun t105 => (some (((t105 - 97) % 256) + 10, true))) else (some (0, false))))
def cf (k : Nat) (a0 : Int) : Option (Int × Bool) := if a0 ≥ 48 then (bu k a0 (decide (a0 ≤ 57))) else (bu k a0 false)
theorem eZ : ∀ k, (∀ y0 y1, LeO (bu k y0 y1) (bu (k + 1) y0 y1))
  | 0 => fun _ _ r h => by simp [bu] at h
  | k + 1 => by
    have ih0 := eZ k
    have m0 := @dl
    · intro y0 y1
      unfold bu
      exact xmo
theorem dM : ∀ a0 k, LeO (cf k a0) (cf (k + 1) a0) := by
  intro a0 k
  have ih0 := eZ k
  have m0 := @dl
  unfold cf
  exact xmo
theorem ca (k : Nat) (a0 : Int) (r1 : Int) (r2 : Bool) (w : World) (h : cf k a0 = some (r1, r2)) :
    Calls Tryd.prog 75 #[.int .u8 a0] w fun e w' => e = .returned (.tuple #[.int .i64 r1, .bool r2]) ∧ Drawn0 w w' := by
 have H : (if a0 ≥ 48 then (bu k a0 (decide (a0 ≤ 57))) else (bu k a0 false)) = some (r1, r2) := h
 clear h
 have Ac := Zz.mk H
 clear H
 go_enter Tryd.func75, Tryd.ntmps75
 go_upto_region 1 with (fail)
 go_cut [4] (fun v4 wc => ∃ (kq : Nat) (Ab : Bool), v4 = .bool Ab ∧ Zz (bu kq a0 Ab = some (r1, r2)) ∧ Zz (kq ≤ k) ∧ Drawn0 w wc)
 case first =>
  have H := Ac.out
  clear Ac
  by_cases c3 : a0 ≥ 48
  ·
   rw [if_pos c3] at H
   have Aa := decide_eq_true c3
   clear c3
   (first | rw [Aa] | (simp only [an, au]; rw [Aa]) | (rw [Ad]; (try simp only [Bool.not_false, Bool.not_true])) | (rw [Ae]; (try simp only [Bool.not_false, Bool.not_true])) | skip)
   have H' := Zz.mk H
   clear H
   go_wp2
   go_meet
   case rel => exact ⟨_, (decide (a0 ≤ 57)), xrr, H', ⟨xom⟩, xdr⟩
  ·
   rw [if_neg c3] at H
   have Aa := decide_eq_false c3
   clear c3
   (first | rw [Aa] | (simp only [an, au]; rw [Aa]) | (rw [Ad]; (try simp only [Bool.not_false, Bool.not_true])) | (rw [Ae]; (try simp only [Bool.not_false, Bool.not_true])) | skip)
   have H' := Zz.mk H
   clear H
   go_wp2
   go_meet
   case rel => exact ⟨_, (false), xrr, H', ⟨xom⟩, xdr⟩
 case rest =>
  clear Ac
  obtain ⟨kq, Ab, rfl, HA, HJ1, ⟨mc1, rfl⟩⟩ := hcut
  cases kq with
  | zero => exact absurd HA.out (by simp [bu])
  | succ kj1 =>
   have H := HA.out
   clear HA
   simp only [bu] at H
   by_cases c4 : Ab = true
   ·
    subst c4
    rw [if_pos rfl] at H
    simp only [Option.some.injEq, Prod.mk.injEq] at H
    obtain ⟨rfl, rfl⟩ := H
    go_wp2
    go_ret2
    exact ⟨xrr, xdr⟩
   ·
    replace c4 := Bool.eq_false_iff.mpr c4
    subst c4
    rw [if_neg (show ¬ (false = true) by decide)] at H
    replace H := Option.bind_eq_some_iff.mp H
    obtain ⟨Af, A50, H⟩ := H
    try dsimp only at H
    have A5 := Zz.mk A50
    clear A50
    by_cases c6 : Af = true
    ·
     subst c6
     rw [if_pos rfl] at H
     replace H := Option.bind_eq_some_iff.mp H
     obtain ⟨Ag, A70, H⟩ := H
     try dsimp only at H
     have A7 := Zz.mk A70
     clear A70
     simp only [Option.some.injEq, Prod.mk.injEq] at H
     obtain ⟨rfl, rfl⟩ := H
     go_wp2_with (first | ((with_reducible refine ae (f := 47) rfl ?_); refine xgl 16 Tryd.func47 #[.int .u8 a0, .int .i64 32] ?_; (with_reducible refine (bY kj1 a0 32 true _ A5.out).mono ?_); rintro e w' ⟨rfl, ⟨nd, rfl⟩⟩; refine ⟨_, rfl, ?_⟩) | ((with_reducible refine ae (f := 88) rfl ?_); refine xgl 18 Tryd.func88 #[.int .u8 a0] ?_; (with_reducible refine (iC a0 Ag _ A7.out).mono ?_); rintro e w' ⟨rfl, ⟨nd, rfl⟩⟩; refine ⟨_, rfl, ?_⟩))
     go_ret2
     exact ⟨xrr, xdr⟩
    ·
     replace c6 := Bool.eq_false_iff.mpr c6
     subst c6
     rw [if_neg (show ¬ (false = true) by decide)] at H
     simp only [Option.some.injEq, Prod.mk.injEq] at H
     obtain ⟨rfl, rfl⟩ := H
     go_wp2_with (first | ((with_reducible refine ae (f := 47) rfl ?_); refine xgl 16 Tryd.func47 #[.int .u8 a0, .int .i64 32] ?_; (with_reducible refine (bY kj1 a0 32 false _ A5.out).mono ?_); rintro e w' ⟨rfl, ⟨nd, rfl⟩⟩; refine ⟨_, rfl, ?_⟩))
     go_ret2
     exact ⟨xrr, xdr⟩
def a7 : Nat → ByteArray → Int → Bool → Option (Int × Bool)
  | 0, _, _, _ => none
  | k + 1, x0, x1, x24 => if x24 = true then (some (0, false)) else (if 0 ≤ (wrap64 (x1 + 1)) then (if (wrap64 (x1 + 1)) < (x0.size : Int) then ((cf k (bt x0 (wrap64 (x1 + 1)))).bind fun bt106 => (if 0 ≤ (wrap64 (x1 + 2)) then (if (wrap64 (x1 + 2)) < (x0.size : Int) then ((cf k (bt x0 (wrap64 (x1 + 2)))).bind fun bt108 => (if bt106.2 = true then (if bt108.2 = true then (some ((Go.bits .or .i64 (wrap64 (bt106.1 * 16)) bt108.1) % 256, true)) else (some (0, false))) else (some (0, false)))) else (none)) else (none))) else (none)) else (none))
def cB (k : Nat) (a0 : ByteArray) (a1 : Int) : Option (Int × Bool) := if a1 < 0 then (a7 k a0 a1 true) else (if a1 > (wrap64 ((a0.size : Int) - 3)) then (a7 k a0 a1 true) else (if 0 ≤ a1 then (if a1 < (a0.size : Int) then (a7 k a0 a1 ((bt a0 a1) != 37)) else (none)) else (none)))
theorem fv : ∀ k, (∀ y0 y1 y2, LeO (a7 k y0 y1 y2) (a7 (k + 1) y0 y1 y2))
  | 0 => fun _ _ _ r h => by simp [a7] at h
  | k + 1 => by
    have ih0 := fv k
    have m0 := @dM
    · intro y0 y1 y2
      unfold a7
      exact xmo
theorem eG : ∀ a0 a1 k, LeO (cB k a0 a1) (cB (k + 1) a0 a1) := by
  intro a0 a1 k
  have ih0 := fv k
  have m0 := @dM
  unfold cB
  exact xmo
theorem co (k : Nat) (a0 : ByteArray) (a1 : Int) (r1 : Int) (r2 : Bool) (w : World) (h : cB k a0 a1 = some (r1, r2)) :
    Calls Tryd.prog 56 #[.string a0, .int .i64 a1] w fun e w' => e = .returned (.tuple #[.int .u8 r1, .bool r2]) ∧ Drawn0 w w' := by
 have H : (if a1 < 0 then (a7 k a0 a1 true) else (if a1 > (wrap64 ((a0.size : Int) - 3)) then (a7 k a0 a1 true) else (if 0 ≤ a1 then (if a1 < (a0.size : Int) then (a7 k a0 a1 ((bt a0 a1) != 37)) else (none)) else (none)))) = some (r1, r2) := h
 clear h
 have Ak := Zz.mk H
 clear H
 go_enter Tryd.func56, Tryd.ntmps56
 go_upto_region 1 with (fail)
 go_cut [24] (fun v24 wc => ∃ (kq : Nat) (Ae : Bool), v24 = .bool Ae ∧ Zz (a7 kq a0 a1 Ae = some (r1, r2)) ∧ Zz (kq ≤ k) ∧ Drawn0 w wc)
 case first =>
  have H := Ak.out
  clear Ak
  by_cases c4 : a1 < 0
  ·
   rw [if_pos c4] at H
   have Af := decide_eq_true c4
   clear c4
   (first | rw [Af] | (simp only [an, au]; rw [Af]) | (rw [Al]; (try simp only [Bool.not_false, Bool.not_true])) | (rw [Am]; (try simp only [Bool.not_false, Bool.not_true])) | skip)
   have H' := Zz.mk H
   clear H
   go_wp2
   go_meet
   case rel => exact ⟨_, (true), xrr, H', ⟨xom⟩, xdr⟩
  ·
   rw [if_neg c4] at H
   have Af := decide_eq_false c4
   clear c4
   (first | rw [Af] | (simp only [an, au]; rw [Af]) | (rw [Al]; (try simp only [Bool.not_false, Bool.not_true])) | (rw [Am]; (try simp only [Bool.not_false, Bool.not_true])) | skip)
   by_cases c5 : a1 > (wrap64 ((a0.size : Int) - 3))
   ·
    rw [if_pos c5] at H
    have An := decide_eq_true c5
    clear c5
    have H' := Zz.mk H
    clear H
    go_wp2
    go_meet
    case rel => exact ⟨_, (true), xrr, H', ⟨xom⟩, xdr⟩
   ·
    rw [if_neg c5] at H
    have An := decide_eq_false c5
    clear c5
    by_cases c6 : 0 ≤ a1
    ·
     rw [if_pos c6] at H
     have Av := decide_eq_true c6
     clear c6
     by_cases c7 : a1 < (a0.size : Int)
     ·
      rw [if_pos c7] at H
      have Aw := decide_eq_true c7
      clear c7
      have H' := Zz.mk H
      clear H
      have p8 : 0 ≤ (a1 : Int) := xod
      have q8 : a1 < (a0.size : Int) := xod
      have hx8 := aD a0 a1
      replace p8 := eq_true p8
      replace q8 := eq_true q8
      try (have Ax := q8; simp only [ByteArray.size_extract, Nat.min_self] at Ax)
      go_wp2
      go_meet
      case rel => exact ⟨_, (((bt a0 a1) != 37)), xrr, H', ⟨xom⟩, xdr⟩
     ·
      rw [if_neg c7] at H
      exact absurd H (by simp)
    ·
     rw [if_neg c6] at H
     exact absurd H (by simp)
 case rest =>
  clear Ak
  obtain ⟨kq, Ae, rfl, HA, HJ2, ⟨mc2, rfl⟩⟩ := hcut
  cases kq with
  | zero => exact absurd HA.out (by simp [a7])
  | succ kj2 =>
   have H := HA.out
   clear HA
   simp only [a7] at H
   by_cases c9 : Ae = true
   ·
    subst c9
    rw [if_pos rfl] at H
    simp only [Option.some.injEq, Prod.mk.injEq] at H
    obtain ⟨rfl, rfl⟩ := H
    go_wp2
    go_ret2
    exact ⟨xrr, xdr⟩
   ·
    replace c9 := Bool.eq_false_iff.mpr c9
    subst c9
    rw [if_neg (show ¬ (false = true) by decide)] at H
    obtain ⟨Aa, Ad⟩ : ∃ j_ : Int, (wrap64 (a1 + 1)) = j_ := ⟨_, rfl⟩
    first | rw [Ad] at H | simp only [Ad] at H | skip
    have Ao : (IntKind.i64.wrap (a1 + 1)) = Aa := (an _).trans Ad
    by_cases c11 : 0 ≤ (Aa)
    ·
     rw [if_pos c11] at H
     have Ar := decide_eq_true c11
     clear c11
     by_cases c12 : (Aa) < (a0.size : Int)
     ·
      rw [if_pos c12] at H
      have As := decide_eq_true c12
      clear c12
      replace H := Option.bind_eq_some_iff.mp H
      obtain ⟨⟨Ah, Ap⟩, A140, H⟩ := H
      try dsimp only at H
      have A14 := Zz.mk A140
      clear A140
      obtain ⟨Ab, Ac⟩ : ∃ j_ : Int, (wrap64 (a1 + 2)) = j_ := ⟨_, rfl⟩
      first | rw [Ac] at H | simp only [Ac] at H | skip
      (try rw [Ac] at A14)
      have Aq : (IntKind.i64.wrap (a1 + 2)) = Ab := (an _).trans Ac
      by_cases c16 : 0 ≤ (Ab)
      ·
       rw [if_pos c16] at H
       have At := decide_eq_true c16
       clear c16
       by_cases c17 : (Ab) < (a0.size : Int)
       ·
        rw [if_pos c17] at H
        have Au := decide_eq_true c17
        clear c17
        replace H := Option.bind_eq_some_iff.mp H
        obtain ⟨⟨Ai, Aj⟩, A190, H⟩ := H
        try dsimp only at H
        have A19 := Zz.mk A190
        clear A190
        by_cases c20 : Ap = true
        ·
         subst c20
         rw [if_pos rfl] at H
         by_cases c21 : Aj = true
         ·
          subst c21
          rw [if_pos rfl] at H
          simp only [Option.some.injEq, Prod.mk.injEq] at H
          obtain ⟨rfl, rfl⟩ := H
          have p13 : 0 ≤ ((Aa) : Int) := xod
          have q13 : (Aa) < (a0.size : Int) := xod
          have hx13 := aD a0 (Aa)
          replace p13 := eq_true p13
          replace q13 := eq_true q13
          try (have Ag := q13; simp only [ByteArray.size_extract, Nat.min_self] at Ag)
          go_wp2_with (first | ((with_reducible refine ae (f := 75) rfl ?_); refine dF (some 30) rfl rfl Tryd.func75 (by kernel_rfl) rfl #[.int .u8 (bt a0 (Aa))] rfl (by (try simp only [List.map_toArray, List.map_cons, List.map_nil]); first | done | (simp only [Ad]; rfl) | rfl | (simp only [List.length_drop, List.length_take]; rfl)) ?_; (with_reducible refine (ca kj2 (bt a0 (Aa)) Ah true _ A14.out).mono ?_); rintro e w' ⟨rfl, ⟨nd, rfl⟩⟩; refine ⟨_, rfl, ?_⟩; have p18 : 0 ≤ ((Ab) : Int) := xod; have q18 : (Ab) < (a0.size : Int) := xod; have hx18 := aD a0 (Ab); replace p18 := eq_true p18; replace q18 := eq_true q18) | ((with_reducible refine ae (f := 75) rfl ?_); refine dF (some 38) rfl rfl Tryd.func75 (by kernel_rfl) rfl #[.int .u8 (bt a0 (Ab))] rfl (by (try simp only [List.map_toArray, List.map_cons, List.map_nil]); first | done | (simp only [Ac]; rfl) | rfl | (simp only [List.length_drop, List.length_take]; rfl)) ?_; (with_reducible refine (ca kj2 (bt a0 (Ab)) Ai true _ A19.out).mono ?_); rintro e w' ⟨rfl, ⟨nd, rfl⟩⟩; refine ⟨_, rfl, ?_⟩))
          go_ret2
          exact ⟨by first | rfl | (simp; done) | (simp only [← Ad, ← Ac] <;> (first | rfl | simp)) | (simp [*]; done) | (simp [wrap64]; done), xdr⟩
         ·
          replace c21 := Bool.eq_false_iff.mpr c21
          subst c21
          rw [if_neg (show ¬ (false = true) by decide)] at H
          simp only [Option.some.injEq, Prod.mk.injEq] at H
          obtain ⟨rfl, rfl⟩ := H
          have p13 : 0 ≤ ((Aa) : Int) := xod
          have q13 : (Aa) < (a0.size : Int) := xod
          have hx13 := aD a0 (Aa)
          replace p13 := eq_true p13
          replace q13 := eq_true q13
          try (have Ag := q13; simp only [ByteArray.size_extract, Nat.min_self] at Ag)
          go_wp2_with (first | ((with_reducible refine ae (f := 75) rfl ?_); refine dF (some 30) rfl rfl Tryd.func75 (by kernel_rfl) rfl #[.int .u8 (bt a0 (Aa))] rfl (by (try simp only [List.map_toArray, List.map_cons, List.map_nil]); first | done | (simp only [Ad]; rfl) | rfl | (simp only [List.length_drop, List.length_take]; rfl)) ?_; (with_reducible refine (ca kj2 (bt a0 (Aa)) Ah true _ A14.out).mono ?_); rintro e w' ⟨rfl, ⟨nd, rfl⟩⟩; refine ⟨_, rfl, ?_⟩; have p18 : 0 ≤ ((Ab) : Int) := xod; have q18 : (Ab) < (a0.size : Int) := xod; have hx18 := aD a0 (Ab); replace p18 := eq_true p18; replace q18 := eq_true q18) | ((with_reducible refine ae (f := 75) rfl ?_); refine dF (some 38) rfl rfl Tryd.func75 (by kernel_rfl) rfl #[.int .u8 (bt a0 (Ab))] rfl (by (try simp only [List.map_toArray, List.map_cons, List.map_nil]); first | done | (simp only [Ac]; rfl) | rfl | (simp only [List.length_drop, List.length_take]; rfl)) ?_; (with_reducible refine (ca kj2 (bt a0 (Ab)) Ai false _ A19.out).mono ?_); rintro e w' ⟨rfl, ⟨nd, rfl⟩⟩; refine ⟨_, rfl, ?_⟩))
          go_ret2
          exact ⟨by first | rfl | (simp; done) | (simp only [← Ad, ← Ac] <;> (first | rfl | simp)) | (simp [*]; done) | (simp [wrap64]; done), xdr⟩
        ·
         replace c20 := Bool.eq_false_iff.mpr c20
         subst c20
         rw [if_neg (show ¬ (false = true) by decide)] at H
         simp only [Option.some.injEq, Prod.mk.injEq] at H
         obtain ⟨rfl, rfl⟩ := H
         have p13 : 0 ≤ ((Aa) : Int) := xod
         have q13 : (Aa) < (a0.size : Int) := xod
         have hx13 := aD a0 (Aa)
         replace p13 := eq_true p13
         replace q13 := eq_true q13
         try (have Ag := q13; simp only [ByteArray.size_extract, Nat.min_self] at Ag)
         go_wp2_with (first | ((with_reducible refine ae (f := 75) rfl ?_); refine dF (some 30) rfl rfl Tryd.func75 (by kernel_rfl) rfl #[.int .u8 (bt a0 (Aa))] rfl (by (try simp only [List.map_toArray, List.map_cons, List.map_nil]); first | done | (simp only [Ad]; rfl) | rfl | (simp only [List.length_drop, List.length_take]; rfl)) ?_; (with_reducible refine (ca kj2 (bt a0 (Aa)) Ah false _ A14.out).mono ?_); rintro e w' ⟨rfl, ⟨nd, rfl⟩⟩; refine ⟨_, rfl, ?_⟩; have p18 : 0 ≤ ((Ab) : Int) := xod; have q18 : (Ab) < (a0.size : Int) := xod; have hx18 := aD a0 (Ab); replace p18 := eq_true p18; replace q18 := eq_true q18) | ((with_reducible refine ae (f := 75) rfl ?_); refine dF (some 38) rfl rfl Tryd.func75 (by kernel_rfl) rfl #[.int .u8 (bt a0 (Ab))] rfl (by (try simp only [List.map_toArray, List.map_cons, List.map_nil]); first | done | (simp only [Ac]; rfl) | rfl | (simp only [List.length_drop, List.length_take]; rfl)) ?_; (with_reducible refine (ca kj2 (bt a0 (Ab)) Ai Aj _ A19.out).mono ?_); rintro e w' ⟨rfl, ⟨nd, rfl⟩⟩; refine ⟨_, rfl, ?_⟩))
         go_ret2
         exact ⟨by first | rfl | (simp; done) | (simp only [← Ad, ← Ac] <;> (first | rfl | simp)) | (simp [*]; done) | (simp [wrap64]; done), xdr⟩
       ·
        rw [if_neg c17] at H
        exact absurd H (by simp)
      ·
       rw [if_neg c16] at H
       exact absurd H (by simp)
     ·
      rw [if_neg c12] at H
      exact absurd H (by simp)
    ·
     rw [if_neg c11] at H
     exact absurd H (by simp)
mutual
def bM : Nat → Int → Bool → Option (Int × Int × Int)
  | 0, _, _ => none
  | k + 1, x0, x8 => if x8 = true then (some (2, 128, 191)) else (if x0 = 224 then (some (3, 160, 191)) else (if x0 = 237 then (some (3, 128, 159)) else (if x0 ≥ 225 then (b9 k x0 (decide (x0 ≤ 239))) else (b9 k x0 false))))
def b9 : Nat → Int → Bool → Option (Int × Int × Int)
  | 0, _, _ => none
  | k + 1, x0, x21 => if x21 = true then (some (3, 128, 191)) else (if x0 = 240 then (some (4, 144, 191)) else (if x0 = 244 then (some (4, 128, 143)) else (if x0 ≥ 241 then (if x0 ≤ 243 then (some (4, 128, 191)) else (some (0, 0, 0))) else (some (0, 0, 0)))))
end
def cE (k : Nat) (a0 : Int) : Option (Int × Int × Int) := if a0 < 128 then (some (1, 0, 0)) else (if a0 ≥ 194 then (bM k a0 (decide (a0 ≤ 223))) else (bM k a0 false))
theorem fE : ∀ k, (∀ y0 y1, LeO (bM k y0 y1) (bM (k + 1) y0 y1)) ∧ (∀ y0 y1, LeO (b9 k y0 y1) (b9 (k + 1) y0 y1))
  | 0 => ⟨fun _ _ r h => by simp [bM] at h, fun _ _ r h => by simp [b9] at h⟩
  | k + 1 => by
    obtain ⟨ih0, ih1⟩ := fE k
    refine ⟨?_, ?_⟩
    · intro y0 y1
      unfold bM
      exact xmo
    · intro y0 y1
      unfold b9
      exact xmo
theorem eP : ∀ a0 k, LeO (cE k a0) (cE (k + 1) a0) := by
  intro a0 k
  obtain ⟨ih0, ih1⟩ := fE k
  unfold cE
  exact xmo
theorem fR (k : Nat) (a0 : Int) (r1 : Int) (r2 : Int) (r3 : Int) (w : World) (h : cE k a0 = some (r1, r2, r3)) :
    Calls Tryd.prog 89 #[.int .u8 a0] w fun e w' => e = .returned (.tuple #[.int .i64 r1, .int .u8 r2, .int .u8 r3]) ∧ Drawn0 w w' := by
 have H : (if a0 < 128 then (some (1, 0, 0)) else (if a0 ≥ 194 then (bM k a0 (decide (a0 ≤ 223))) else (bM k a0 false))) = some (r1, r2, r3) := h
 clear h
 by_cases c2 : a0 < 128
 ·
  rw [if_pos c2] at H
  have Ae := decide_eq_true c2
  clear c2
  simp only [Option.some.injEq, Prod.mk.injEq] at H
  obtain ⟨rfl, rfl, rfl⟩ := H
  go_enter Tryd.func89, Tryd.ntmps89
  go_wp2
  go_ret3
  exact ⟨xrr, xdr⟩
 ·
  rw [if_neg c2] at H
  have Ae := decide_eq_false c2
  clear c2
  have Ap := Zz.mk H
  clear H
  go_enter Tryd.func89, Tryd.ntmps89
  go_upto_region 3 with (fail)
  go_cut [8] (fun v8 wc => ∃ (kq : Nat) (Ad : Bool), v8 = .bool Ad ∧ Zz (bM kq a0 Ad = some (r1, r2, r3)) ∧ Zz (kq ≤ k) ∧ Drawn0 w wc)
  case first =>
   have H := Ap.out
   clear Ap
   by_cases c4 : a0 ≥ 194
   ·
    rw [if_pos c4] at H
    have Ab := decide_eq_true c4
    clear c4
    (first | rw [Ab] | (simp only [an, au]; rw [Ab]) | (rw [Aq]; (try simp only [Bool.not_false, Bool.not_true])) | (rw [Ar]; (try simp only [Bool.not_false, Bool.not_true])) | skip)
    have H' := Zz.mk H
    clear H
    go_wp2
    go_meet
    case rel => exact ⟨_, (decide (a0 ≤ 223)), xrr, H', ⟨xom⟩, xdr⟩
   ·
    rw [if_neg c4] at H
    have Ab := decide_eq_false c4
    clear c4
    (first | rw [Ab] | (simp only [an, au]; rw [Ab]) | (rw [Aq]; (try simp only [Bool.not_false, Bool.not_true])) | (rw [Ar]; (try simp only [Bool.not_false, Bool.not_true])) | skip)
    have H' := Zz.mk H
    clear H
    go_wp2
    go_meet
    case rel => exact ⟨_, (false), xrr, H', ⟨xom⟩, xdr⟩
  case rest =>
   clear Ap
   clear Ae
   obtain ⟨kq, Ad, rfl, HA, HJ2, ⟨mc2, rfl⟩⟩ := hcut
   cases kq with
   | zero => exact absurd HA.out (by simp [bM])
   | succ kj2 =>
    have H := HA.out
    clear HA
    simp only [bM] at H
    by_cases c5 : Ad = true
    ·
     subst c5
     rw [if_pos rfl] at H
     simp only [Option.some.injEq, Prod.mk.injEq] at H
     obtain ⟨rfl, rfl, rfl⟩ := H
     go_wp2
     go_ret3
     exact ⟨xrr, xdr⟩
    ·
     replace c5 := Bool.eq_false_iff.mpr c5
     subst c5
     rw [if_neg (show ¬ (false = true) by decide)] at H
     by_cases c6 : a0 = 224
     ·
      rw [if_pos c6] at H
      have Af : (a0 == 224) = true := beq_iff_eq.mpr c6
      have Ag : (a0 != 224) = false := bne_eq_false_iff_eq.mpr c6
      clear c6
      simp only [Option.some.injEq, Prod.mk.injEq] at H
      obtain ⟨rfl, rfl, rfl⟩ := H
      go_wp2
      go_ret3
      exact ⟨xrr, xdr⟩
     ·
      rw [if_neg c6] at H
      have Af : (a0 == 224) = false := beq_eq_false_iff_ne.mpr c6
      have Ag : (a0 != 224) = true := bne_iff_ne.mpr c6
      by_cases c7 : a0 = 237
      ·
       rw [if_pos c7] at H
       have Ah : (a0 == 237) = true := beq_iff_eq.mpr c7
       have Ai : (a0 != 237) = false := bne_eq_false_iff_eq.mpr c7
       clear c7
       simp only [Option.some.injEq, Prod.mk.injEq] at H
       obtain ⟨rfl, rfl, rfl⟩ := H
       go_wp2
       go_ret3
       exact ⟨xrr, xdr⟩
      ·
       rw [if_neg c7] at H
       have Ah : (a0 == 237) = false := beq_eq_false_iff_ne.mpr c7
       have Ai : (a0 != 237) = true := bne_iff_ne.mpr c7
       have As := Zz.mk H
       clear H
       go_upto_region 9 with (fail)
       go_cut [21] (fun v21 wc => ∃ (kq : Nat) (Aa : Bool), v21 = .bool Aa ∧ Zz (b9 kq a0 Aa = some (r1, r2, r3)) ∧ Zz (kq ≤ kj2) ∧ Drawn0 w wc)
       case first =>
        have H := As.out
        clear As
        by_cases c9 : a0 ≥ 225
        ·
         rw [if_pos c9] at H
         have Ac := decide_eq_true c9
         clear c9
         (first | rw [Ac] | (simp only [an, au]; rw [Ac]) | (rw [At]; (try simp only [Bool.not_false, Bool.not_true])) | (rw [Au]; (try simp only [Bool.not_false, Bool.not_true])) | skip)
         have H' := Zz.mk H
         clear H
         go_wp2
         go_meet
         case rel => exact ⟨_, (decide (a0 ≤ 239)), xrr, H', ⟨by have := HJ2.out; first | omega | exact Nat.le_refl _⟩, xdr⟩
        ·
         rw [if_neg c9] at H
         have Ac := decide_eq_false c9
         clear c9
         (first | rw [Ac] | (simp only [an, au]; rw [Ac]) | (rw [At]; (try simp only [Bool.not_false, Bool.not_true])) | (rw [Au]; (try simp only [Bool.not_false, Bool.not_true])) | skip)
         have H' := Zz.mk H
         clear H
         go_wp2
         go_meet
         case rel => exact ⟨_, (false), xrr, H', ⟨by have := HJ2.out; first | omega | exact Nat.le_refl _⟩, xdr⟩
       case rest =>
        clear As
        clear Af Ag Ah Ai
        obtain ⟨kq, Aa, rfl, HA, HJ7, ⟨mc7, rfl⟩⟩ := hcut
        cases kq with
        | zero => exact absurd HA.out (by simp [b9])
        | succ kj7 =>
         have H := HA.out
         clear HA
         simp only [b9] at H
         by_cases c10 : Aa = true
         ·
          subst c10
          rw [if_pos rfl] at H
          simp only [Option.some.injEq, Prod.mk.injEq] at H
          obtain ⟨rfl, rfl, rfl⟩ := H
          go_wp2
          go_ret3
          exact ⟨xrr, xdr⟩
         ·
          replace c10 := Bool.eq_false_iff.mpr c10
          subst c10
          rw [if_neg (show ¬ (false = true) by decide)] at H
          by_cases c11 : a0 = 240
          ·
           rw [if_pos c11] at H
           have Aj : (a0 == 240) = true := beq_iff_eq.mpr c11
           have Ak : (a0 != 240) = false := bne_eq_false_iff_eq.mpr c11
           clear c11
           simp only [Option.some.injEq, Prod.mk.injEq] at H
           obtain ⟨rfl, rfl, rfl⟩ := H
           go_wp2
           go_ret3
           exact ⟨xrr, xdr⟩
          ·
           rw [if_neg c11] at H
           have Aj : (a0 == 240) = false := beq_eq_false_iff_ne.mpr c11
           have Ak : (a0 != 240) = true := bne_iff_ne.mpr c11
           by_cases c12 : a0 = 244
           ·
            rw [if_pos c12] at H
            have Al : (a0 == 244) = true := beq_iff_eq.mpr c12
            have Am : (a0 != 244) = false := bne_eq_false_iff_eq.mpr c12
            clear c12
            simp only [Option.some.injEq, Prod.mk.injEq] at H
            obtain ⟨rfl, rfl, rfl⟩ := H
            go_wp2
            go_ret3
            exact ⟨xrr, xdr⟩
           ·
            rw [if_neg c12] at H
            have Al : (a0 == 244) = false := beq_eq_false_iff_ne.mpr c12
            have Am : (a0 != 244) = true := bne_iff_ne.mpr c12
            by_cases c13 : a0 ≥ 241
            ·
             rw [if_pos c13] at H
             have An := decide_eq_true c13
             clear c13
             by_cases c14 : a0 ≤ 243
             ·
              rw [if_pos c14] at H
              have Ao := decide_eq_true c14
              clear c14
              simp only [Option.some.injEq, Prod.mk.injEq] at H
              obtain ⟨rfl, rfl, rfl⟩ := H
              go_wp2
              go_ret3
              exact ⟨xrr, xdr⟩
             ·
              rw [if_neg c14] at H
              have Ao := decide_eq_false c14
              clear c14
              simp only [Option.some.injEq, Prod.mk.injEq] at H
              obtain ⟨rfl, rfl, rfl⟩ := H
              go_wp2
              go_ret3
              exact ⟨xrr, xdr⟩
            ·
             rw [if_neg c13] at H
             have An := decide_eq_false c13
             clear c13
             simp only [Option.some.injEq, Prod.mk.injEq] at H
             obtain ⟨rfl, rfl, rfl⟩ := H
             go_wp2
             go_ret3
             exact ⟨xrr, xdr⟩
def bK : Nat → ByteArray → Int → Int → Int → Int → Option (Int × Int)
  | 0, _, _, _, _, _ => none
  | k + 1, x0, x4, x5, x6, x7 => if x7 < x4 then (if x7 < (x0.size : Int) then (if 0 ≤ x7 then (if (bt x0 x7) ≥ x5 then (if (bt x0 x7) ≤ x6 then (bK k x0 x4 128 191 (wrap64 (x7 + 1))) else (some (x7, x4))) else (some (x7, x4))) else (none)) else (some (x7, x4))) else (some (x7, x4))
def cD (k : Nat) (a0 : ByteArray) : Option (Int × Int) := if (a0.size : Int) = 0 then (some (0, 0)) else (if 0 < (a0.size : Int) then ((cE k (bt a0 0)).bind fun bt110 => (if bt110.1 = 0 then (some (1, 0)) else (bK k a0 bt110.1 bt110.2.1 bt110.2.2 1))) else (none))
theorem fD : ∀ k, (∀ y0 y1 y2 y3 y4, LeO (bK k y0 y1 y2 y3 y4) (bK (k + 1) y0 y1 y2 y3 y4))
  | 0 => fun _ _ _ _ _ r h => by simp [bK] at h
  | k + 1 => by
    have ih0 := fD k
    have m0 := @eP
    · intro y0 y1 y2 y3 y4
      unfold bK
      exact xmo
theorem ga : ∀ a0 k, LeO (cD k a0) (cD (k + 1) a0) := by
  intro a0 k
  have ih0 := fD k
  have m0 := @eP
  unfold cD
  exact xmo
theorem ex (k : Nat) (a0 : ByteArray) (r1 : Int) (r2 : Int) (w : World) (h : cD k a0 = some (r1, r2)) :
    Calls Tryd.prog 76 #[.string a0] w fun e w' => e = .returned (.tuple #[.int .i64 r1, .int .i64 r2]) ∧ Drawn0 w w' := by
 have H : (if (a0.size : Int) = 0 then (some (0, 0)) else (if 0 < (a0.size : Int) then ((cE k (bt a0 0)).bind fun Ac => (if Ac.1 = 0 then (some (1, 0)) else (bK k a0 Ac.1 Ac.2.1 Ac.2.2 1))) else (none))) = some (r1, r2) := h
 clear h
 by_cases c2 : (a0.size : Int) = 0
 ·
  rw [if_pos c2] at H
  have Aj : ((a0.size : Int) == 0) = true := beq_iff_eq.mpr c2
  have Ak : ((a0.size : Int) != 0) = false := bne_eq_false_iff_eq.mpr c2
  clear c2
  simp only [Option.some.injEq, Prod.mk.injEq] at H
  obtain ⟨rfl, rfl⟩ := H
  go_enter Tryd.func76, Tryd.ntmps76
  go_wp2
  go_ret2
  exact ⟨xrr, xdr⟩
 ·
  rw [if_neg c2] at H
  have Aj : ((a0.size : Int) == 0) = false := beq_eq_false_iff_ne.mpr c2
  have Ak : ((a0.size : Int) != 0) = true := bne_iff_ne.mpr c2
  by_cases c3 : 0 < (a0.size : Int)
  ·
   rw [if_pos c3] at H
   have Ap := decide_eq_true c3
   have Aq : decide (0 < a0.size) = true := decide_eq_true (by omega)
   clear c3
   replace H := Option.bind_eq_some_iff.mp H
   obtain ⟨⟨Ab, Ag, Ah⟩, A50, H⟩ := H
   try dsimp only at H
   have A5 := Zz.mk A50
   clear A50
   by_cases c6 : Ab = 0
   ·
    rw [if_pos c6] at H
    have Al : (Ab == 0) = true := beq_iff_eq.mpr c6
    have Am : (Ab != 0) = false := bne_eq_false_iff_eq.mpr c6
    clear c6
    simp only [Option.some.injEq, Prod.mk.injEq] at H
    obtain ⟨rfl, rfl⟩ := H
    have p4 : 0 ≤ (0 : Int) := (by omega)
    have q4 : 0 < a0.size := (by have : (0 : Int) < (a0.size : Int) := xod; omega)
    have hx4 : ∀ h : 0 < a0.size, ((a0[0]'h).toNat : Int) = bt a0 0 := aD a0 0
    clear p4
    have Au : (0 < (a0.size : Int)) = True := eq_true (xod)
    replace q4 := eq_true q4
    try (have Ar := q4; simp only [ByteArray.size_extract, Nat.min_self] at Ar)
    go_enter Tryd.func76, Tryd.ntmps76
    go_wp2_with (first | ((with_reducible refine ae (f := 89) rfl ?_); refine xgl 14 Tryd.func89 #[.int .u8 (bt a0 0)] ?_; (with_reducible refine (fR k (bt a0 0) Ab Ag Ah _ A5.out).mono ?_); rintro e w' ⟨rfl, ⟨nd, rfl⟩⟩; refine ⟨_, rfl, ?_⟩))
    go_ret2
    exact ⟨xrr, xdr⟩
   ·
    rw [if_neg c6] at H
    have Al : (Ab == 0) = false := beq_eq_false_iff_ne.mpr c6
    have Am : (Ab != 0) = true := bne_iff_ne.mpr c6
    have H' := Zz.mk H
    clear H
    have p4 : 0 ≤ (0 : Int) := (by omega)
    have q4 : 0 < a0.size := (by have : (0 : Int) < (a0.size : Int) := xod; omega)
    have hx4 : ∀ h : 0 < a0.size, ((a0[0]'h).toNat : Int) = bt a0 0 := aD a0 0
    clear p4
    have Au : (0 < (a0.size : Int)) = True := eq_true (xod)
    replace q4 := eq_true q4
    try (have Ar := q4; simp only [ByteArray.size_extract, Nat.min_self] at Ar)
    go_enter Tryd.func76, Tryd.ntmps76
    go_wp2_with (first | ((with_reducible refine ae (f := 89) rfl ?_); refine xgl 14 Tryd.func89 #[.int .u8 (bt a0 0)] ?_; (with_reducible refine (fR k (bt a0 0) Ab Ag Ah _ A5.out).mono ?_); rintro e w' ⟨rfl, ⟨nd, rfl⟩⟩; refine ⟨_, rfl, ?_⟩))
    go_loopg [5, 6, 7] k (fun kq v5 v6 v7 w' => ∃ (Ae : Int) (Af : Int) (Aa : Int), v5 = .int .u8 Ae ∧ v6 = .int .u8 Af ∧ v7 = .int .i64 Aa ∧ Zz (bK kq a0 Ab Ae Af Aa = some (r1, r2)) ∧ Zz (kq ≤ k) ∧ Drawn0 w w')
    case atStart => exact ⟨(Ag), (Ah), (1), xrr, xrr, xrr, H', ⟨Nat.le_refl _⟩, xdr⟩
    case round =>
     clear H'
     clear Aj Ak Ap Aq q4 hx4 Au Al Am
     obtain ⟨Ae, Af, Aa, rfl, rfl, rfl, HA, HK1, ⟨m1, rfl⟩⟩ := hrel
     cases gk with
     | zero => exact absurd HA.out (by simp [bK])
     | succ k1 =>
      have H := HA.out
      clear HA
      simp only [bK] at H
      by_cases c7 : Aa < Ab
      ·
       rw [if_pos c7] at H
       have As := decide_eq_true c7
       clear c7
       by_cases c8 : Aa < (a0.size : Int)
       ·
        rw [if_pos c8] at H
        have At := decide_eq_true c8
        clear c8
        by_cases c9 : 0 ≤ Aa
        ·
         rw [if_pos c9] at H
         have Av := decide_eq_true c9
         clear c9
         by_cases c11 : (bt a0 Aa) ≥ Ae
         ·
          rw [if_pos c11] at H
          have An := decide_eq_true c11
          clear c11
          by_cases c13 : (bt a0 Aa) ≤ Af
          ·
           rw [if_pos c13] at H
           have Ao := decide_eq_true c13
           clear c13
           have H' := Zz.mk H
           clear H
           have p10 : 0 ≤ (Aa : Int) := xod
           have q10 : Aa < (a0.size : Int) := xod
           have hx10 := aD a0 Aa
           replace p10 := eq_true p10
           replace q10 := eq_true q10
           try (have Ad := q10; simp only [ByteArray.size_extract, Nat.min_self] at Ad)
           have p12 : 0 ≤ (Aa : Int) := xod
           have q12 : Aa < (a0.size : Int) := xod
           have hx12 := aD a0 Aa
           replace p12 := eq_true p12
           replace q12 := eq_true q12
           try (have Ai := q12; simp only [ByteArray.size_extract, Nat.min_self] at Ai)
           go_wp2
           go_roundg k1
           case measure => have := HK1.out; omega
           case rel => exact ⟨(128), (191), (wrap64 (Aa + 1)), xrr, xrr, xrr, H', ⟨by have := HK1.out; omega⟩, xdr⟩
          ·
           rw [if_neg c13] at H
           have Ao := decide_eq_false c13
           clear c13
           simp only [Option.some.injEq, Prod.mk.injEq] at H
           obtain ⟨rfl, rfl⟩ := H
           have p10 : 0 ≤ (Aa : Int) := xod
           have q10 : Aa < (a0.size : Int) := xod
           have hx10 := aD a0 Aa
           replace p10 := eq_true p10
           replace q10 := eq_true q10
           try (have Ad := q10; simp only [ByteArray.size_extract, Nat.min_self] at Ad)
           have p12 : 0 ≤ (Aa : Int) := xod
           have q12 : Aa < (a0.size : Int) := xod
           have hx12 := aD a0 Aa
           replace p12 := eq_true p12
           replace q12 := eq_true q12
           try (have Ai := q12; simp only [ByteArray.size_extract, Nat.min_self] at Ai)
           go_wp2
           go_ret2
           exact ⟨xrr, xdr⟩
         ·
          rw [if_neg c11] at H
          have An := decide_eq_false c11
          clear c11
          simp only [Option.some.injEq, Prod.mk.injEq] at H
          obtain ⟨rfl, rfl⟩ := H
          have p10 : 0 ≤ (Aa : Int) := xod
          have q10 : Aa < (a0.size : Int) := xod
          have hx10 := aD a0 Aa
          replace p10 := eq_true p10
          replace q10 := eq_true q10
          try (have Ad := q10; simp only [ByteArray.size_extract, Nat.min_self] at Ad)
          go_wp2
          go_ret2
          exact ⟨xrr, xdr⟩
        ·
         rw [if_neg c9] at H
         exact absurd H (by simp)
       ·
        rw [if_neg c8] at H
        have At := decide_eq_false c8
        clear c8
        simp only [Option.some.injEq, Prod.mk.injEq] at H
        obtain ⟨rfl, rfl⟩ := H
        go_wp2
        go_ret2
        exact ⟨xrr, xdr⟩
      ·
       rw [if_neg c7] at H
       have As := decide_eq_false c7
       clear c7
       simp only [Option.some.injEq, Prod.mk.injEq] at H
       obtain ⟨rfl, rfl⟩ := H
       go_wp2
       go_ret2
       exact ⟨xrr, xdr⟩
  ·
   rw [if_neg c3] at H
   exact absurd H (by simp)
end Go.Proofs.YtmofhijbheimmaaDoor.X
