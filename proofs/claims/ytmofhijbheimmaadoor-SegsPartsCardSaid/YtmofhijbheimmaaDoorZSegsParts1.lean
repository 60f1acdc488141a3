/- Texts that the law's proof needs, joined by a program of this session. -/
import Derived.Test.YtmofhijbheimmaaDoorZSegsParts0
import Derived.WalkKit
import Derived.Lib.AppendStr
import Derived.Laws.Tables
import Derived.Laws.CopyOwn
import Derived.WalkMore
import Derived.ScopeJumps
import Derived.Shelf.Strings.Builder1
import Derived.Shelf.Strings.Builder2
import Derived.Shelf.Strings.OnBuilder
import Derived.Shelf.Strings.BuilderF
import Derived.Shelf.Strings.BuilderK
import Derived.Shelf.Utf8.RuneCount
import Derived.Shelf.Strings.Builder2Cap
import Derived.Shelf.Strings.Search1
import Derived.Shelf.Strings.Search2
import Derived.Shelf.Strings.Search3
import Derived.Shelf.Strings.Count
import Derived.Shelf.LaysM
import Derived.Shelf.Strings.Shaped
import Derived.Shelf.Strings.LastIndex
import Derived.Shelf.Strings.Split
import Derived.Shelf.Strings.SplitShaped
import Derived.Shelf.Unicode.Decode
import Derived.Shelf.Strings.RuneCount
import Derived.Shelf.Strings.Explode
import Derived.Shelf.Unicode.DecodeSlow
import Derived.Shelf.Unicode.DecodeAny
import Derived.Shelf.Strings.BuilderCap
import Derived.Shelf.Slices.Equal
import Derived.Ground.Names2Prog
import Derived.Shelf.Slices.Clone
import Derived.Shelf.Slices.Empties2
import Derived.Ground.PaProg
import Derived.Shelf.Path.Small
import Derived.Test.YtmofhijbheimmaaDoorProg
import Derived.Below
import Derived.Deep.Draws
import Derived.Deep.AppendLies
import Derived.Maps.AppendAt
import Derived.OwnWalk
import Derived.Laws.BytesArg
import Derived.Laws.MakeOwn
import Derived.Laws.OwnMore
import Derived.Deep.OwnRows
import Derived.Tactics
import Derived.Lib.ConvBytes
import Derived.Laws.Slices
import Derived.KernelRfl
import Derived.RowKit3
import Derived.Deep.LoopGhost
import Derived.Deep.QuietTactic
import Derived.BigQuiet
import Derived.WideLaws
import Derived.Deep.DeepCutAuto
import Derived.Deep.CutBlock
import Derived.Deep.RegionHeld3
import Derived.Laws.Rows
import Derived.ArgAppend
import Derived.Laws.IdiomCopy
import Derived.OrdersHeld
import Derived.Laws.BitsLemmas
import Derived.RowKit
import Derived.ChangeKeysEq
import Derived.Deep.RegionWith
import Derived.Laws.CopyRow
import Derived.Laws.Externs
import Derived.Laws.IdiomStrings
import Derived.Laws.NewBlocks
import Derived.Laws.RangeAny
import Derived.Laws.RangeString
import Derived.Laws.Strings3
import Derived.Lib.AppendIntMem
import Derived.Lib.AppendZerosOnto
import Derived.Lib.BufStepsIn
import Derived.Lib.BufferMore
import Derived.Lib.Bytealg
import Derived.Lib.Index
import Derived.Lib.IndexAny
import Derived.Lib.IndexBytes
import Derived.Lib.OthersKept
import Derived.Lib.Overlaps
import Derived.Lib.SlBuf
import Derived.Lib.Split
import Derived.Lib.SplitLaws
import Derived.LoopIn
import Derived.LoopNIn
import Derived.LoopTactic
import Derived.OwnWalkIn
import Derived.RangeFuncBound
import Derived.RangeFuncBox
import Derived.RangeFuncCalls
import Derived.RangeFuncLeaves
import Derived.RangeFuncNested
import Derived.Shelf.Abstract
import Derived.Shelf.RegionOpen
import Derived.Shelf.Spec.SlicesInsertGrow
import Derived.TacticsInMore
set_option maxHeartbeats 8000000
set_option maxRecDepth 100000
set_option linter.unusedSimpArgs false
set_option linter.unusedVariables false
namespace Go.Proofs.YtmofhijbheimmaaDoorW.PrintMore
open Go.RowKit Go.Proofs.YtmofhijbheimmaaDoorW.PrintWords
namespace Kd
open Go.Proofs.YtmofhijbheimmaaDoorW.PrintWords.Kd
end Kd
namespace Kd
open Go.Proofs.YtmofhijbheimmaaDoorW.PrintWords.Kd
end Kd
theorem ef (k k' : IntKind) (x y : Int) : Builtin.max2 (.int k x) (.int k' y) = pure (.int k (if x < y then y else x)) := by simp only [Builtin.max2, gt_iff_lt]
theorem eh (k k' : IntKind) (x y : Int) : Builtin.min2 (.int k x) (.int k' y) = pure (.int k (if y < x then y else x)) := by simp only [Builtin.min2]
theorem eJ (ats : Array TypeId) (ty : TypeId) (a b : Value) : Builtin.max_ ats ty #[a, b] = (Builtin.max2 a b >>= fun s => pure s) := by simp only [Builtin.max_, List.foldlM_cons, List.foldlM_nil]
theorem eK (ats : Array TypeId) (ty : TypeId) (a b : Value) : Builtin.min_ ats ty #[a, b] = (Builtin.min2 a b >>= fun s => pure s) := by simp only [Builtin.min_, List.foldlM_cons, List.foldlM_nil]
theorem dK (ats : Array TypeId) (ty : TypeId) (a b c : Value) : Builtin.max_ ats ty #[a, b, c] = (Builtin.max2 a b >>= fun s => Builtin.max2 s c >>= fun s => pure s) := by simp only [Builtin.max_, List.foldlM_cons, List.foldlM_nil]
theorem dL (ats : Array TypeId) (ty : TypeId) (a b c : Value) : Builtin.min_ ats ty #[a, b, c] = (Builtin.min2 a b >>= fun s => Builtin.min2 s c >>= fun s => pure s) := by simp only [Builtin.min_, List.foldlM_cons, List.foldlM_nil]
theorem eg (ats : Array TypeId) (ty : TypeId) (a b c d : Value) : Builtin.max_ ats ty #[a, b, c, d] = (Builtin.max2 a b >>= fun s => Builtin.max2 s c >>= fun s => Builtin.max2 s d >>= fun s => pure s) := by simp only [Builtin.max_, List.foldlM_cons, List.foldlM_nil]
theorem ei (ats : Array TypeId) (ty : TypeId) (a b c d : Value) : Builtin.min_ ats ty #[a, b, c, d] = (Builtin.min2 a b >>= fun s => Builtin.min2 s c >>= fun s => Builtin.min2 s d >>= fun s => pure s) := by simp only [Builtin.min_, List.foldlM_cons, List.foldlM_nil]
end Go.Proofs.YtmofhijbheimmaaDoorW.PrintMore
namespace Go.Proofs.YtmofhijbheimmaaDoorW.PrintWords
open Go.RowKit
section
variable {P : Program} {ops : Array Oper} {rest : List Oper} {o : Oper} {a : Act} {Q : Exit → Act → World → Prop} {W : World}
theorem cH {b : Builtin} {xs : Array Operand} {ts : Array TypeId} (_ho : o.op = .call { callee := .builtin b, args := xs, argTypes := ts }) (h : wpList P ops Q (o :: rest) a W) : wpList P ops Q (o :: rest) a W := h
end
def mx (a b : Int) : Int := if a < b then b else a
def mn (a b : Int) : Int := if b < a then b else a
namespace Kd
end Kd
end Go.Proofs.YtmofhijbheimmaaDoorW.PrintWords
namespace Go.Proofs.YtmofhijbheimmaaDoorW.PrintWords
open Go.RowKit
namespace Kd
def V {α : Type} (d : Kd α) (_e : Nat) (W : World) (_base : Nat) (ok : Nat → Prop) (v : Value) (xs : List α) : Prop := ∃ A c, v = .slice A xs.length c ∧ xs.length ≤ c ∧ F d W ok A xs.length xs
section
variable {α β : Type} {d : Kd α} {e base base' n m c g N' lo hi : Nat} {ok ok' S : Nat → Prop} {w W w1 : World} {A : Option Addr} {ad : Addr} {u v v1 : Value} {xs : List α}
theorem V_nil (d : Kd α) (e : Nat) (W : World) (base : Nat) (ok : Nat → Prop) : V d e W base ok (.slice none 0 0) [] := ⟨none, 0, rfl, Nat.le_refl _, jC d W ok⟩
end
end Kd
end Go.Proofs.YtmofhijbheimmaaDoorW.PrintWords
namespace Go.Proofs.YtmofhijbheimmaaDoorW.PrintMore
open Go.RowKit Go.Proofs.YtmofhijbheimmaaDoorW.PrintWords Go.Proofs.YtmofhijbheimmaaDoorW.PrintLast
section
variable {K : Act → World → Prop} {Q : Exit → Act → World → Prop} {J : Act → World → Prop} {a : Act} {w : World} {l : Nat}
theorem cJ : Exit.then K Q (.goto l) a w = Q (.goto l) a w := rfl
theorem cx (id : Nat) : Exit.inBlock id Q (.goto l) a w = Q (.goto l) a w := rfl
theorem dT : Exit.jump l J Q .normal a w = Q .normal a w := rfl
theorem eS (id : Nat) : Exit.jump l J Q (.exit id) a w = Q (.exit id) a w := rfl
theorem fs : Exit.jump l J Q .ret a w = Q .ret a w := rfl
theorem er (ch : List PanicEntry) : Exit.jump l J Q (.panic ch) a w = Q (.panic ch) a w := rfl
theorem eT : Exit.jump l J Q (.goto l) a w = J a w := propext ⟨fun h => h.2, fun h => ⟨rfl, h⟩⟩
end
theorem gC {w : World} {g : Nat} {t : TypeId} {c0 u : Value} (h : w.heap[g]? = some (.cells #[c0] t (0, 0))) : (w.setCell ⟨g, 0, none⟩ u).heap[g]? = some (.cells #[u] t (0, 0)) := ag h 0 u rfl
theorem gD {w : World} {g : Nat} {t : TypeId} {c0 c1 u : Value} (h : w.heap[g]? = some (.cells #[c0, c1] t (0, 0))) : (w.setCell ⟨g, 0, none⟩ u).heap[g]? = some (.cells #[u, c1] t (0, 0)) := ag h 0 u rfl
theorem gE {w : World} {g : Nat} {t : TypeId} {c0 c1 u : Value} (h : w.heap[g]? = some (.cells #[c0, c1] t (0, 0))) : (w.setCell ⟨g, 1, none⟩ u).heap[g]? = some (.cells #[c0, u] t (0, 0)) := ag h 1 u rfl
theorem gF {w : World} {g : Nat} {t : TypeId} {c0 c1 c2 u : Value} (h : w.heap[g]? = some (.cells #[c0, c1, c2] t (0, 0))) : (w.setCell ⟨g, 0, none⟩ u).heap[g]? = some (.cells #[u, c1, c2] t (0, 0)) := ag h 0 u rfl
theorem gG {w : World} {g : Nat} {t : TypeId} {c0 c1 c2 u : Value} (h : w.heap[g]? = some (.cells #[c0, c1, c2] t (0, 0))) : (w.setCell ⟨g, 1, none⟩ u).heap[g]? = some (.cells #[c0, u, c2] t (0, 0)) := ag h 1 u rfl
theorem gH {w : World} {g : Nat} {t : TypeId} {c0 c1 c2 u : Value} (h : w.heap[g]? = some (.cells #[c0, c1, c2] t (0, 0))) : (w.setCell ⟨g, 2, none⟩ u).heap[g]? = some (.cells #[c0, c1, u] t (0, 0)) := ag h 2 u rfl
theorem gI {w : World} {g : Nat} {t : TypeId} {c0 c1 c2 c3 u : Value} (h : w.heap[g]? = some (.cells #[c0, c1, c2, c3] t (0, 0))) : (w.setCell ⟨g, 0, none⟩ u).heap[g]? = some (.cells #[u, c1, c2, c3] t (0, 0)) := ag h 0 u rfl
theorem gJ {w : World} {g : Nat} {t : TypeId} {c0 c1 c2 c3 u : Value} (h : w.heap[g]? = some (.cells #[c0, c1, c2, c3] t (0, 0))) : (w.setCell ⟨g, 1, none⟩ u).heap[g]? = some (.cells #[c0, u, c2, c3] t (0, 0)) := ag h 1 u rfl
theorem gK {w : World} {g : Nat} {t : TypeId} {c0 c1 c2 c3 u : Value} (h : w.heap[g]? = some (.cells #[c0, c1, c2, c3] t (0, 0))) : (w.setCell ⟨g, 2, none⟩ u).heap[g]? = some (.cells #[c0, c1, u, c3] t (0, 0)) := ag h 2 u rfl
theorem gL {w : World} {g : Nat} {t : TypeId} {c0 c1 c2 c3 u : Value} (h : w.heap[g]? = some (.cells #[c0, c1, c2, c3] t (0, 0))) : (w.setCell ⟨g, 3, none⟩ u).heap[g]? = some (.cells #[c0, c1, c2, u] t (0, 0)) := ag h 3 u rfl
theorem gM {w : World} {g : Nat} {t : TypeId} {c0 c1 c2 c3 c4 u : Value} (h : w.heap[g]? = some (.cells #[c0, c1, c2, c3, c4] t (0, 0))) : (w.setCell ⟨g, 0, none⟩ u).heap[g]? = some (.cells #[u, c1, c2, c3, c4] t (0, 0)) := ag h 0 u rfl
theorem gN {w : World} {g : Nat} {t : TypeId} {c0 c1 c2 c3 c4 u : Value} (h : w.heap[g]? = some (.cells #[c0, c1, c2, c3, c4] t (0, 0))) : (w.setCell ⟨g, 1, none⟩ u).heap[g]? = some (.cells #[c0, u, c2, c3, c4] t (0, 0)) := ag h 1 u rfl
theorem gO {w : World} {g : Nat} {t : TypeId} {c0 c1 c2 c3 c4 u : Value} (h : w.heap[g]? = some (.cells #[c0, c1, c2, c3, c4] t (0, 0))) : (w.setCell ⟨g, 2, none⟩ u).heap[g]? = some (.cells #[c0, c1, u, c3, c4] t (0, 0)) := ag h 2 u rfl
theorem gP {w : World} {g : Nat} {t : TypeId} {c0 c1 c2 c3 c4 u : Value} (h : w.heap[g]? = some (.cells #[c0, c1, c2, c3, c4] t (0, 0))) : (w.setCell ⟨g, 3, none⟩ u).heap[g]? = some (.cells #[c0, c1, c2, u, c4] t (0, 0)) := ag h 3 u rfl
theorem gQ {w : World} {g : Nat} {t : TypeId} {c0 c1 c2 c3 c4 u : Value} (h : w.heap[g]? = some (.cells #[c0, c1, c2, c3, c4] t (0, 0))) : (w.setCell ⟨g, 4, none⟩ u).heap[g]? = some (.cells #[c0, c1, c2, c3, u] t (0, 0)) := ag h 4 u rfl
theorem gR {w : World} {g : Nat} {t : TypeId} {c0 c1 c2 c3 c4 c5 u : Value} (h : w.heap[g]? = some (.cells #[c0, c1, c2, c3, c4, c5] t (0, 0))) : (w.setCell ⟨g, 0, none⟩ u).heap[g]? = some (.cells #[u, c1, c2, c3, c4, c5] t (0, 0)) := ag h 0 u rfl
theorem gS {w : World} {g : Nat} {t : TypeId} {c0 c1 c2 c3 c4 c5 u : Value} (h : w.heap[g]? = some (.cells #[c0, c1, c2, c3, c4, c5] t (0, 0))) : (w.setCell ⟨g, 1, none⟩ u).heap[g]? = some (.cells #[c0, u, c2, c3, c4, c5] t (0, 0)) := ag h 1 u rfl
theorem gT {w : World} {g : Nat} {t : TypeId} {c0 c1 c2 c3 c4 c5 u : Value} (h : w.heap[g]? = some (.cells #[c0, c1, c2, c3, c4, c5] t (0, 0))) : (w.setCell ⟨g, 2, none⟩ u).heap[g]? = some (.cells #[c0, c1, u, c3, c4, c5] t (0, 0)) := ag h 2 u rfl
theorem gU {w : World} {g : Nat} {t : TypeId} {c0 c1 c2 c3 c4 c5 u : Value} (h : w.heap[g]? = some (.cells #[c0, c1, c2, c3, c4, c5] t (0, 0))) : (w.setCell ⟨g, 3, none⟩ u).heap[g]? = some (.cells #[c0, c1, c2, u, c4, c5] t (0, 0)) := ag h 3 u rfl
theorem gV {w : World} {g : Nat} {t : TypeId} {c0 c1 c2 c3 c4 c5 u : Value} (h : w.heap[g]? = some (.cells #[c0, c1, c2, c3, c4, c5] t (0, 0))) : (w.setCell ⟨g, 4, none⟩ u).heap[g]? = some (.cells #[c0, c1, c2, c3, u, c5] t (0, 0)) := ag h 4 u rfl
theorem gW {w : World} {g : Nat} {t : TypeId} {c0 c1 c2 c3 c4 c5 u : Value} (h : w.heap[g]? = some (.cells #[c0, c1, c2, c3, c4, c5] t (0, 0))) : (w.setCell ⟨g, 5, none⟩ u).heap[g]? = some (.cells #[c0, c1, c2, c3, c4, u] t (0, 0)) := ag h 5 u rfl
theorem gX {w : World} {g : Nat} {t : TypeId} {c0 c1 c2 c3 c4 c5 c6 u : Value} (h : w.heap[g]? = some (.cells #[c0, c1, c2, c3, c4, c5, c6] t (0, 0))) : (w.setCell ⟨g, 0, none⟩ u).heap[g]? = some (.cells #[u, c1, c2, c3, c4, c5, c6] t (0, 0)) := ag h 0 u rfl
theorem gY {w : World} {g : Nat} {t : TypeId} {c0 c1 c2 c3 c4 c5 c6 u : Value} (h : w.heap[g]? = some (.cells #[c0, c1, c2, c3, c4, c5, c6] t (0, 0))) : (w.setCell ⟨g, 1, none⟩ u).heap[g]? = some (.cells #[c0, u, c2, c3, c4, c5, c6] t (0, 0)) := ag h 1 u rfl
theorem gZ {w : World} {g : Nat} {t : TypeId} {c0 c1 c2 c3 c4 c5 c6 u : Value} (h : w.heap[g]? = some (.cells #[c0, c1, c2, c3, c4, c5, c6] t (0, 0))) : (w.setCell ⟨g, 2, none⟩ u).heap[g]? = some (.cells #[c0, c1, u, c3, c4, c5, c6] t (0, 0)) := ag h 2 u rfl
theorem g5 {w : World} {g : Nat} {t : TypeId} {c0 c1 c2 c3 c4 c5 c6 u : Value} (h : w.heap[g]? = some (.cells #[c0, c1, c2, c3, c4, c5, c6] t (0, 0))) : (w.setCell ⟨g, 3, none⟩ u).heap[g]? = some (.cells #[c0, c1, c2, u, c4, c5, c6] t (0, 0)) := ag h 3 u rfl
theorem g6 {w : World} {g : Nat} {t : TypeId} {c0 c1 c2 c3 c4 c5 c6 u : Value} (h : w.heap[g]? = some (.cells #[c0, c1, c2, c3, c4, c5, c6] t (0, 0))) : (w.setCell ⟨g, 4, none⟩ u).heap[g]? = some (.cells #[c0, c1, c2, c3, u, c5, c6] t (0, 0)) := ag h 4 u rfl
theorem g7 {w : World} {g : Nat} {t : TypeId} {c0 c1 c2 c3 c4 c5 c6 u : Value} (h : w.heap[g]? = some (.cells #[c0, c1, c2, c3, c4, c5, c6] t (0, 0))) : (w.setCell ⟨g, 5, none⟩ u).heap[g]? = some (.cells #[c0, c1, c2, c3, c4, u, c6] t (0, 0)) := ag h 5 u rfl
theorem g8 {w : World} {g : Nat} {t : TypeId} {c0 c1 c2 c3 c4 c5 c6 u : Value} (h : w.heap[g]? = some (.cells #[c0, c1, c2, c3, c4, c5, c6] t (0, 0))) : (w.setCell ⟨g, 6, none⟩ u).heap[g]? = some (.cells #[c0, c1, c2, c3, c4, c5, u] t (0, 0)) := ag h 6 u rfl
theorem g9 {w : World} {g : Nat} {t : TypeId} {c0 c1 c2 c3 c4 c5 c6 c7 u : Value} (h : w.heap[g]? = some (.cells #[c0, c1, c2, c3, c4, c5, c6, c7] t (0, 0))) : (w.setCell ⟨g, 0, none⟩ u).heap[g]? = some (.cells #[u, c1, c2, c3, c4, c5, c6, c7] t (0, 0)) := ag h 0 u rfl
theorem hE {w : World} {g : Nat} {t : TypeId} {c0 c1 c2 c3 c4 c5 c6 c7 u : Value} (h : w.heap[g]? = some (.cells #[c0, c1, c2, c3, c4, c5, c6, c7] t (0, 0))) : (w.setCell ⟨g, 1, none⟩ u).heap[g]? = some (.cells #[c0, u, c2, c3, c4, c5, c6, c7] t (0, 0)) := ag h 1 u rfl
theorem hH {w : World} {g : Nat} {t : TypeId} {c0 c1 c2 c3 c4 c5 c6 c7 u : Value} (h : w.heap[g]? = some (.cells #[c0, c1, c2, c3, c4, c5, c6, c7] t (0, 0))) : (w.setCell ⟨g, 2, none⟩ u).heap[g]? = some (.cells #[c0, c1, u, c3, c4, c5, c6, c7] t (0, 0)) := ag h 2 u rfl
theorem hM {w : World} {g : Nat} {t : TypeId} {c0 c1 c2 c3 c4 c5 c6 c7 u : Value} (h : w.heap[g]? = some (.cells #[c0, c1, c2, c3, c4, c5, c6, c7] t (0, 0))) : (w.setCell ⟨g, 3, none⟩ u).heap[g]? = some (.cells #[c0, c1, c2, u, c4, c5, c6, c7] t (0, 0)) := ag h 3 u rfl
theorem hO {w : World} {g : Nat} {t : TypeId} {c0 c1 c2 c3 c4 c5 c6 c7 u : Value} (h : w.heap[g]? = some (.cells #[c0, c1, c2, c3, c4, c5, c6, c7] t (0, 0))) : (w.setCell ⟨g, 4, none⟩ u).heap[g]? = some (.cells #[c0, c1, c2, c3, u, c5, c6, c7] t (0, 0)) := ag h 4 u rfl
theorem hP {w : World} {g : Nat} {t : TypeId} {c0 c1 c2 c3 c4 c5 c6 c7 u : Value} (h : w.heap[g]? = some (.cells #[c0, c1, c2, c3, c4, c5, c6, c7] t (0, 0))) : (w.setCell ⟨g, 5, none⟩ u).heap[g]? = some (.cells #[c0, c1, c2, c3, c4, u, c6, c7] t (0, 0)) := ag h 5 u rfl
theorem hU {w : World} {g : Nat} {t : TypeId} {c0 c1 c2 c3 c4 c5 c6 c7 u : Value} (h : w.heap[g]? = some (.cells #[c0, c1, c2, c3, c4, c5, c6, c7] t (0, 0))) : (w.setCell ⟨g, 6, none⟩ u).heap[g]? = some (.cells #[c0, c1, c2, c3, c4, c5, u, c7] t (0, 0)) := ag h 6 u rfl
theorem hX {w : World} {g : Nat} {t : TypeId} {c0 c1 c2 c3 c4 c5 c6 c7 u : Value} (h : w.heap[g]? = some (.cells #[c0, c1, c2, c3, c4, c5, c6, c7] t (0, 0))) : (w.setCell ⟨g, 7, none⟩ u).heap[g]? = some (.cells #[c0, c1, c2, c3, c4, c5, c6, u] t (0, 0)) := ag h 7 u rfl
theorem hZ {w : World} {g : Nat} {t : TypeId} {c0 c1 c2 c3 c4 c5 c6 c7 c8 u : Value} (h : w.heap[g]? = some (.cells #[c0, c1, c2, c3, c4, c5, c6, c7, c8] t (0, 0))) : (w.setCell ⟨g, 0, none⟩ u).heap[g]? = some (.cells #[u, c1, c2, c3, c4, c5, c6, c7, c8] t (0, 0)) := ag h 0 u rfl
theorem ia {w : World} {g : Nat} {t : TypeId} {c0 c1 c2 c3 c4 c5 c6 c7 c8 u : Value} (h : w.heap[g]? = some (.cells #[c0, c1, c2, c3, c4, c5, c6, c7, c8] t (0, 0))) : (w.setCell ⟨g, 1, none⟩ u).heap[g]? = some (.cells #[c0, u, c2, c3, c4, c5, c6, c7, c8] t (0, 0)) := ag h 1 u rfl
theorem ib {w : World} {g : Nat} {t : TypeId} {c0 c1 c2 c3 c4 c5 c6 c7 c8 u : Value} (h : w.heap[g]? = some (.cells #[c0, c1, c2, c3, c4, c5, c6, c7, c8] t (0, 0))) : (w.setCell ⟨g, 2, none⟩ u).heap[g]? = some (.cells #[c0, c1, u, c3, c4, c5, c6, c7, c8] t (0, 0)) := ag h 2 u rfl
theorem ic {w : World} {g : Nat} {t : TypeId} {c0 c1 c2 c3 c4 c5 c6 c7 c8 u : Value} (h : w.heap[g]? = some (.cells #[c0, c1, c2, c3, c4, c5, c6, c7, c8] t (0, 0))) : (w.setCell ⟨g, 3, none⟩ u).heap[g]? = some (.cells #[c0, c1, c2, u, c4, c5, c6, c7, c8] t (0, 0)) := ag h 3 u rfl
theorem ie {w : World} {g : Nat} {t : TypeId} {c0 c1 c2 c3 c4 c5 c6 c7 c8 u : Value} (h : w.heap[g]? = some (.cells #[c0, c1, c2, c3, c4, c5, c6, c7, c8] t (0, 0))) : (w.setCell ⟨g, 4, none⟩ u).heap[g]? = some (.cells #[c0, c1, c2, c3, u, c5, c6, c7, c8] t (0, 0)) := ag h 4 u rfl
theorem ig {w : World} {g : Nat} {t : TypeId} {c0 c1 c2 c3 c4 c5 c6 c7 c8 u : Value} (h : w.heap[g]? = some (.cells #[c0, c1, c2, c3, c4, c5, c6, c7, c8] t (0, 0))) : (w.setCell ⟨g, 5, none⟩ u).heap[g]? = some (.cells #[c0, c1, c2, c3, c4, u, c6, c7, c8] t (0, 0)) := ag h 5 u rfl
theorem ii {w : World} {g : Nat} {t : TypeId} {c0 c1 c2 c3 c4 c5 c6 c7 c8 u : Value} (h : w.heap[g]? = some (.cells #[c0, c1, c2, c3, c4, c5, c6, c7, c8] t (0, 0))) : (w.setCell ⟨g, 6, none⟩ u).heap[g]? = some (.cells #[c0, c1, c2, c3, c4, c5, u, c7, c8] t (0, 0)) := ag h 6 u rfl
theorem ij {w : World} {g : Nat} {t : TypeId} {c0 c1 c2 c3 c4 c5 c6 c7 c8 u : Value} (h : w.heap[g]? = some (.cells #[c0, c1, c2, c3, c4, c5, c6, c7, c8] t (0, 0))) : (w.setCell ⟨g, 7, none⟩ u).heap[g]? = some (.cells #[c0, c1, c2, c3, c4, c5, c6, u, c8] t (0, 0)) := ag h 7 u rfl
theorem ik {w : World} {g : Nat} {t : TypeId} {c0 c1 c2 c3 c4 c5 c6 c7 c8 u : Value} (h : w.heap[g]? = some (.cells #[c0, c1, c2, c3, c4, c5, c6, c7, c8] t (0, 0))) : (w.setCell ⟨g, 8, none⟩ u).heap[g]? = some (.cells #[c0, c1, c2, c3, c4, c5, c6, c7, u] t (0, 0)) := ag h 8 u rfl
theorem xbl {p : Prop} (h : p := by repeat (first | (with_reducible first | exact HB.out | apply bK | apply b5 | apply bM | refine eu ?_ (Zz.out (by assumption))) | exact HB.out)) : p := h
theorem xst {w W w2 : World} (k : Below W.heap.size W w2) (h : Below w.heap.size w W := by repeat (first | (with_reducible first | exact HB.out | apply bK | apply b5 | apply bM | refine eu ?_ (Zz.out (by assumption))) | exact HB.out)) : Zz (Below w.heap.size w w2) := ⟨iw h k⟩
theorem xsz {w W : World} {g : Nat} (hg : g = W.heap.size) (h : Below w.heap.size w W := by repeat (first | (with_reducible first | exact HB.out | apply bK | apply b5 | apply bM | refine eu ?_ (Zz.out (by assumption))) | exact HB.out)) : Zz (w.heap.size ≤ g) := ⟨by rw [hg]; exact aA h⟩
theorem xbk {p : Prop} (h : p := by repeat (first | (with_reducible first | refine cW ?_ _ | refine bT ?_ | refine cV ?_ _ | exact Zz.out (by assumption) | refine cK ?_ (Zz.out (by assumption)) _ | apply gC | apply gD | apply gE | apply gF | apply gG | apply gH | apply gI | apply gJ | apply gK | apply gL | apply gM | apply gN | apply gO | apply gP | apply gQ | apply gR | apply gS | apply gT | apply gU | apply gV | apply gW | apply gX | apply gY | apply gZ | apply g5 | apply g6 | apply g7 | apply g8 | apply g9 | apply hE | apply hH | apply hM | apply hO | apply hP | apply hU | apply hX | apply hZ | apply ia | apply ib | apply ic | apply ie | apply ig | apply ii | apply ij | apply ik) | refine cK ?_ (Zz.out (by assumption)) _ | exact Zz.out (by assumption))) : p := h
theorem xbb {w w1 : World} {g : Nat} {o : Obj} (hb : Below w.heap.size w w1) (h : w.heap[g]? = some o := by repeat (first | (with_reducible first | refine cW ?_ _ | refine bT ?_ | refine cV ?_ _ | exact Zz.out (by assumption) | refine cK ?_ (Zz.out (by assumption)) _ | apply gC | apply gD | apply gE | apply gF | apply gG | apply gH | apply gI | apply gJ | apply gK | apply gL | apply gM | apply gN | apply gO | apply gP | apply gQ | apply gR | apply gS | apply gT | apply gU | apply gV | apply gW | apply gX | apply gY | apply gZ | apply g5 | apply g6 | apply g7 | apply g8 | apply g9 | apply hE | apply hH | apply hM | apply hO | apply hP | apply hU | apply hX | apply hZ | apply ia | apply ib | apply ic | apply ie | apply ig | apply ii | apply ij | apply ik) | refine cK ?_ (Zz.out (by assumption)) _ | exact Zz.out (by assumption))) : Zz (w1.heap[g]? = some o) := ⟨ge h hb⟩
theorem xlt {W : World} {g g' : Nat} {o : Obj} (hg : g' = W.heap.size) (h : W.heap[g]? = some o := by repeat (first | (with_reducible first | refine cW ?_ _ | refine bT ?_ | refine cV ?_ _ | exact Zz.out (by assumption) | refine cK ?_ (Zz.out (by assumption)) _ | apply gC | apply gD | apply gE | apply gF | apply gG | apply gH | apply gI | apply gJ | apply gK | apply gL | apply gM | apply gN | apply gO | apply gP | apply gQ | apply gR | apply gS | apply gT | apply gU | apply gV | apply gW | apply gX | apply gY | apply gZ | apply g5 | apply g6 | apply g7 | apply g8 | apply g9 | apply hE | apply hH | apply hM | apply hO | apply hP | apply hU | apply hX | apply hZ | apply ia | apply ib | apply ic | apply ie | apply ig | apply ii | apply ij | apply ik) | refine cK ?_ (Zz.out (by assumption)) _ | exact Zz.out (by assumption))) : Zz (g ≠ g') := ⟨by rw [hg]; exact Nat.ne_of_lt (eF h)⟩
theorem xgt {W : World} {g g' : Nat} {o : Obj} (hg : g' = W.heap.size) (h : W.heap[g]? = some o := by repeat (first | (with_reducible first | refine cW ?_ _ | refine bT ?_ | refine cV ?_ _ | exact Zz.out (by assumption) | refine cK ?_ (Zz.out (by assumption)) _ | apply gC | apply gD | apply gE | apply gF | apply gG | apply gH | apply gI | apply gJ | apply gK | apply gL | apply gM | apply gN | apply gO | apply gP | apply gQ | apply gR | apply gS | apply gT | apply gU | apply gV | apply gW | apply gX | apply gY | apply gZ | apply g5 | apply g6 | apply g7 | apply g8 | apply g9 | apply hE | apply hH | apply hM | apply hO | apply hP | apply hU | apply hX | apply hZ | apply ia | apply ib | apply ic | apply ie | apply ig | apply ii | apply ij | apply ik) | refine cK ?_ (Zz.out (by assumption)) _ | exact Zz.out (by assumption))) : Zz (g' ≠ g) := ⟨by rw [hg]; exact Nat.ne_of_gt (eF h)⟩
theorem xrr {p : Prop} (h : p := by first | rfl | (simp; done) | (simp [*]; done) | (simp [wrap64]; done)) : p := h
theorem xre {p : Prop} (h : p := by first | rfl | (simp [bO, bP] <;> first | rfl | (simp only [cM, bne, Bool.not_not]; done)) | (simp [*, bO, bP] <;> rfl)) : p := h
theorem xdr {p : Prop} (h : p := by repeat (first | exact Drawn0.refl _ | apply Drawn0.step)) : p := h
theorem xkd {p q : Prop} (f : Zz q) (h : q → p := by intro hq_; (with_reducible repeat (first | apply Kd.R_alloc | apply Kd.R_drewN | apply Kd.R_drew)); exact hq_) : p := h f.out
theorem xom {p : Prop} (h : p := by first | omega | exact Nat.le_refl _) : p := h
theorem xmo {p : Prop} (h : p := by
  repeat' first
   | (with_reducible apply ih0) | (with_reducible apply ih1) | (with_reducible apply ih2) | (with_reducible apply ih3) | (with_reducible apply ih4) | (with_reducible apply ih5) | (with_reducible apply ih6) | (with_reducible apply ih7) | (with_reducible apply ih8) | (with_reducible apply ih9)
   | (with_reducible apply ih10) | (with_reducible apply ih11) | (with_reducible apply ih12) | (with_reducible apply ih13) | (with_reducible apply ih14) | (with_reducible apply ih15) | (with_reducible apply ih16) | (with_reducible apply ih17) | (with_reducible apply ih18) | (with_reducible apply ih19)
   | (with_reducible apply m0) | (with_reducible apply m1) | (with_reducible apply m2) | (with_reducible apply m3) | (with_reducible apply m4) | (with_reducible apply m5) | (with_reducible apply m6) | (with_reducible apply m7) | (with_reducible apply m8) | (with_reducible apply m9)
   | (with_reducible apply m10) | (with_reducible apply m11) | (with_reducible apply m12) | (with_reducible apply m13) | (with_reducible apply m14) | (with_reducible apply m15) | (with_reducible apply m16) | (with_reducible apply m17) | (with_reducible apply m18) | (with_reducible apply m19)
   | (with_reducible exact LeO.refl _) | (with_reducible exact LeO.none _) | (with_reducible refine LeO.ite ?_ ?_) | (with_reducible refine LeO.bind ?_ (fun _ => ?_))
   | apply ih0 | apply ih1 | apply ih2 | apply ih3 | apply ih4 | apply ih5 | apply ih6 | apply ih7 | apply ih8 | apply ih9 | apply ih10 | apply ih11 | apply ih12 | apply ih13 | apply ih14 | apply ih15 | apply ih16 | apply ih17 | apply ih18 | apply ih19
   | apply m0 | apply m1 | apply m2 | apply m3 | apply m4 | apply m5 | apply m6 | apply m7 | apply m8 | apply m9 | apply m10 | apply m11 | apply m12 | apply m13 | apply m14 | apply m15 | apply m16 | apply m17 | apply m18 | apply m19
   | exact LeO.none _ | refine LeO.ite ?_ ?_ | refine LeO.bind ?_ (fun _ => ?_)) : p := h
theorem xod {p : Prop} [Decidable p] (h : decide p = true := by first | (with_reducible assumption) | assumption) : p := of_decide_eq_true h
section
variable {P : Program} {ops : Array Oper} {rest : List Oper} {o : Oper} {a : Act} {Q : Exit → Act → World → Prop}
theorem xgl {w : World} (N : Tmp) {f : FuncId} {fn : Func} {asx : Array Operand} {ts : Array TypeId} (hf : P.funcs[f]? = some fn) (args : Array Value)
    (h : Calls P f args w fun e w' => ∃ v, e = .returned v ∧ wpList P ops Q rest (a.put (some N) v) w')
    (hop : o.op = .call { callee := .value (.func f), args := asx, argTypes := ts } := by rfl) (hd : o.dst = some N := by rfl) (hg : o.guard = none := by rfl)
    (hname : (fn.name == "runtime.NumGoroutine") = false := by kernel_rfl) (hb : fn.body.isSome = true := by rfl)
    (hargs : asx.map a.eval = args := by (try simp only [List.map_toArray, List.map_cons, List.map_nil]); first | done | rfl | (simp only [List.length_drop, List.length_take]; rfl)) : wpList P ops Q (o :: rest) a w :=
  iO (some N) hd hg hf hname hb args hop hargs h
theorem xev {W : World} (N : Tmp) (cs : Array Value) (t : TypeId)
    (h : ∀ g, g = W.heap.size → ∀ w1, w1.heap[g]? = some (.cells cs t (0, 0)) → Below W.heap.size W w1 → wpList P ops Q rest (a.put o.dst (.pointer (some ⟨g, 0, none⟩))) w1)
    (hd : o.dst = some N := by rfl) (hgd : o.guard = none := by rfl)
    (hrun : (execOp a.eval o).run P W = .ok (.value (.pointer (some ⟨W.heap.size, 0, none⟩))) (W.alloc (.cells cs t (0, 0))) := by first | (go_simp; done) | (go_simp; rfl)) : wpList P ops Q (o :: rest) a W :=
  iH hgd hd hrun h
end
section
variable {w : World} {g : Nat} {t : TypeId} {c0 c1 c2 c3 c4 c5 c6 c7 c8 : Value}
theorem xc2 (h : Zz (w.heap[g]? = some (.cells #[c0, c1] t (0, 0)))) : w.cell? ⟨g, 0, none⟩ = some c0 ∧ w.cell? ⟨g, 1, none⟩ = some c1 := ⟨(an h.out 0).trans rfl, (an h.out 1).trans rfl⟩
variable {cs : Array Value}
theorem xf (h : Zz (w.heap[g]? = some (.cells cs t (0, 0)))) : ∀ i, w.frozen? ⟨g, i, none⟩ = false := fun i => eV h.out i
end
end Go.Proofs.YtmofhijbheimmaaDoorW.PrintMore
namespace Go.Proofs
open Go.Shelf
open Go.RowKit in
def Tryd.lays156_ren : Go.Shelf.Ren := ⟨fun | 156 => 32 | 165 => 49 | 166 => 50 | 169 => 51 | 240 => 73 | 241 => 74 | 276 => 86 | 277 => 87 | n => n, fun | 31 => 23 | 9 => 9 | 3 => 3 | 4 => 4 | 0 => 0 | 20 => 20 | 72 => 70 | 76 => 74 | 70 => 68 | 37 => 60 | 75 => 73 | 127 => 99 | 164 => 110 | 5 => 5 | 80 => 33 | n => n, fun | n => n⟩
theorem Tryd.lays156 : Go.Proofs.Lays.n156 Tryd.prog Tryd.lays156_ren := {
  mixed := by kernel_rfl
  f156 := Tryd.func32.trans (congrArg some (by kernel_rfl))
  f165 := Tryd.func49.trans (congrArg some (by kernel_rfl))
  f166 := Tryd.func50.trans (congrArg some (by kernel_rfl))
  f169 := Tryd.func51.trans (congrArg some (by kernel_rfl))
  f240 := Tryd.func73.trans (congrArg some (by kernel_rfl))
  f241 := Tryd.func74.trans (congrArg some (by kernel_rfl))
  f276 := Tryd.func86.trans (congrArg some (by kernel_rfl))
  f277 := Tryd.func87.trans (congrArg some (by kernel_rfl))
  t0 := Tryd.underlying0
  a0 := Tryd.isAgg0
  z0 := Tryd.sizeOf0
  v0 := Tryd.zeroValue0
  t3 := Tryd.underlying3
  a3 := Tryd.isAgg3
  z3 := Tryd.sizeOf3
  v3 := Tryd.zeroValue3
  t4 := Tryd.underlying4
  a4 := Tryd.isAgg4
  z4 := Tryd.sizeOf4
  v4 := Tryd.zeroValue4
  t9 := Tryd.underlying9
  a9 := Tryd.isAgg9
  z9 := Tryd.sizeOf9
  v9 := Tryd.zeroValue9
  t20 := Tryd.underlying20
  a20 := Tryd.isAgg20
  z20 := Tryd.sizeOf20
  v20 := Tryd.zeroValue20
  t31 := Tryd.underlying23
  a31 := Tryd.isAgg23
  z31 := Tryd.sizeOf23
  v31 := Tryd.zeroValue23
  t37 := Tryd.underlying60
  a37 := Tryd.isAgg60
  z37 := Tryd.sizeOf60
  v37 := Tryd.zeroValue60
  t70 := Tryd.underlying68
  a70 := Tryd.isAgg68
  z70 := Tryd.sizeOf68
  v70 := Tryd.zeroValue68
  t72 := Tryd.underlying70
  a72 := Tryd.isAgg70
  z72 := Tryd.sizeOf70
  v72 := Tryd.zeroValue70
  t75 := Tryd.underlying73
  a75 := Tryd.isAgg73
  z75 := Tryd.sizeOf73
  v75 := Tryd.zeroValue73
  t76 := Tryd.underlying74
  a76 := Tryd.isAgg74
  z76 := Tryd.sizeOf74
  v76 := Tryd.zeroValue74
  t127 := Tryd.underlying99
  a127 := Tryd.isAgg99
  z127 := Tryd.sizeOf99
  v127 := Tryd.zeroValue99
  t164 := Tryd.underlying110
  a164 := Tryd.isAgg110
  z164 := Tryd.sizeOf110
  v164 := Tryd.zeroValue110 }
theorem Tryd.Builder_Extra_156 : Builder.Extra Tryd.prog Tryd.lays156_ren := {
  sizeBuilder := by kernel_rfl
  liesBuilder := by kernel_rfl
  t5 := Tryd.underlying5
  a5 := Tryd.isAgg5
  z5 := Tryd.sizeOf5
  v5 := Tryd.zeroValue5
  infoByte := by kernel_rfl
  cellsByte := by kernel_rfl
  sizeByte := by kernel_rfl
  neB5 := by decide }
open Go.RowKit in
theorem Tryd.strings_Join_none (a : Option Addr) (c : Nat) (sep : ByteArray) (w : World) :
    Calls Tryd.prog 32 #[.slice a 0 c, .string sep] w fun e w' => e = .returned (.string ⟨#[]⟩) ∧ w' = w := Any.strings_Join_none Tryd.lays156 Tryd.Builder_Extra_156 a c sep w
open Go.RowKit in
theorem Tryd.strings_Join (bk o c : Nat) (xs : List ByteArray) (sep : ByteArray) (w : World) (hcells : ∀ (j : Nat) x, xs[j]? = some x → w.cell? ⟨bk, o + j, none⟩ = some (.string x)) (hbk : bk < w.heap.size) (hN : xs.length ≤ 140737488355328) (hcap : xs.length ≤ c) (hlen : (Lib.join (xs.map (·.data.toList)) sep.data.toList).length ≤ 140737488355328) :
    Calls Tryd.prog 32 #[.slice (some ⟨bk, o, none⟩) xs.length c, .string sep] w fun e w' => e = .returned (.string ⟨(Lib.join (xs.map (·.data.toList)) sep.data.toList).toArray⟩) ∧ Below w.heap.size w w' := Any.strings_Join Tryd.lays156 Tryd.Builder_Extra_156 bk o c xs sep w hcells hbk hN hcap hlen
open Go.RowKit Go.Lib in
def Tryd.lays149_ren : Go.Shelf.Ren := ⟨fun | 149 => 37 | 222 => 53 | n => n, fun | 9 => 9 | 5 => 5 | 3 => 3 | 4 => 4 | n => n, fun | n => n⟩
theorem Tryd.lays149 : Go.Proofs.Lays.n149 Tryd.prog Tryd.lays149_ren := {
  mixed := by kernel_rfl
  f149 := Tryd.func37.trans (congrArg some (by kernel_rfl))
  f222 := Tryd.func53.trans (congrArg some (by kernel_rfl))
  t3 := Tryd.underlying3
  a3 := Tryd.isAgg3
  z3 := Tryd.sizeOf3
  v3 := Tryd.zeroValue3
  t4 := Tryd.underlying4
  a4 := Tryd.isAgg4
  z4 := Tryd.sizeOf4
  v4 := Tryd.zeroValue4
  t5 := Tryd.underlying5
  a5 := Tryd.isAgg5
  z5 := Tryd.sizeOf5
  v5 := Tryd.zeroValue5
  t9 := Tryd.underlying9
  a9 := Tryd.isAgg9
  z9 := Tryd.sizeOf9
  v9 := Tryd.zeroValue9 }
open Go.RowKit Go.Lib in
theorem Tryd.strings_LastIndexByte (s : ByteArray) (c : Int) (hs : s.size < 4611686018427387904) (w : World) :
    Calls Tryd.prog 37 #[.string s, .int .u8 c] w fun e w' => e = .returned (.int .i64 (Lib.lastIndexByte s c)) ∧ w' = w := Any.strings_LastIndexByte Tryd.lays149 s c hs w
open Go.RowKit Go.Lib in
def Tryd.lays146_ren : Go.Shelf.Ren := ⟨fun | 146 => 26 | 221 => 40 | 268 => 59 | 138 => 60 | 143 => 61 | 195 => 80 | 197 => 81 | 218 => 82 | 219 => 83 | 260 => 90 | 217 => 91 | 225 => 92 | 224 => 93 | 267 => 94 | 266 => 95 | 314 => 96 | n => n, fun | 9 => 9 | 31 => 23 | 3 => 3 | 4 => 4 | 0 => 0 | 105 => 106 | 21 => 21 | 5 => 5 | 46 => 98 | 119 => 117 | 139 => 120 | 138 => 119 | 146 => 122 | 51 => 121 | n => n, fun | 1 => 0 | 3 => 1 | 4 => 2 | n => n⟩
theorem Tryd.lays146 : Go.Proofs.Lays.n146 Tryd.prog Tryd.lays146_ren := {
  mixed := by kernel_rfl
  f138 := Tryd.func60.trans (congrArg some (by kernel_rfl))
  f143 := Tryd.func61.trans (congrArg some (by kernel_rfl))
  f146 := Tryd.func26.trans (congrArg some (by kernel_rfl))
  f195 := Tryd.func80.trans (congrArg some (by kernel_rfl))
  f197 := Tryd.func81.trans (congrArg some (by kernel_rfl))
  f217 := Tryd.func91.trans (congrArg some (by kernel_rfl))
  f218 := Tryd.func82.trans (congrArg some (by kernel_rfl))
  f219 := Tryd.func83.trans (congrArg some (by kernel_rfl))
  f221 := Tryd.func40.trans (congrArg some (by kernel_rfl))
  f224 := Tryd.func93.trans (congrArg some (by kernel_rfl))
  f225 := Tryd.func92.trans (congrArg some (by kernel_rfl))
  f260 := Tryd.func90.trans (congrArg some (by kernel_rfl))
  f266 := Tryd.func95.trans (congrArg some (by kernel_rfl))
  f267 := Tryd.func94.trans (congrArg some (by kernel_rfl))
  f268 := Tryd.func59.trans (congrArg some (by kernel_rfl))
  f314 := Tryd.func96.trans (congrArg some (by kernel_rfl))
  t0 := Tryd.underlying0
  a0 := Tryd.isAgg0
  z0 := Tryd.sizeOf0
  v0 := Tryd.zeroValue0
  t3 := Tryd.underlying3
  a3 := Tryd.isAgg3
  z3 := Tryd.sizeOf3
  v3 := Tryd.zeroValue3
  t4 := Tryd.underlying4
  a4 := Tryd.isAgg4
  z4 := Tryd.sizeOf4
  v4 := Tryd.zeroValue4
  t5 := Tryd.underlying5
  a5 := Tryd.isAgg5
  z5 := Tryd.sizeOf5
  v5 := Tryd.zeroValue5
  t9 := Tryd.underlying9
  a9 := Tryd.isAgg9
  z9 := Tryd.sizeOf9
  v9 := Tryd.zeroValue9
  t21 := Tryd.underlying21
  a21 := Tryd.isAgg21
  z21 := Tryd.sizeOf21
  v21 := Tryd.zeroValue21
  t31 := Tryd.underlying23
  a31 := Tryd.isAgg23
  z31 := Tryd.sizeOf23
  v31 := Tryd.zeroValue23
  t46 := Tryd.underlying98
  a46 := Tryd.isAgg98
  z46 := Tryd.sizeOf98
  v46 := Tryd.zeroValue98
  t51 := Tryd.underlying121
  a51 := Tryd.isAgg121
  z51 := Tryd.sizeOf121
  v51 := Tryd.zeroValue121
  t105 := Tryd.underlying106
  a105 := Tryd.isAgg106
  z105 := Tryd.sizeOf106
  v105 := Tryd.zeroValue106
  t119 := Tryd.underlying117
  a119 := Tryd.isAgg117
  z119 := Tryd.sizeOf117
  t138 := Tryd.underlying119
  a138 := Tryd.isAgg119
  z138 := Tryd.sizeOf119
  v138 := Tryd.zeroValue119
  t139 := Tryd.underlying120
  a139 := Tryd.isAgg120
  z139 := Tryd.sizeOf120
  v139 := Tryd.zeroValue120
  t146 := Tryd.underlying122
  a146 := Tryd.isAgg122
  z146 := Tryd.sizeOf122
  v146 := Tryd.zeroValue122
  g1 := by kernel_rfl
  g3 := by kernel_rfl
  g4 := by kernel_rfl }
open Go.RowKit Go.Lib in
theorem Tryd.strings_Split (s sep : ByteArray) (m : Int) (w : World) (hs : s.size < 4294967281) (hm : w.cell? ⟨0, 0, none⟩ = some (.int .i64 m)) (h1 : 1 ≤ sep.size) :
    Calls Tryd.prog 26 #[.string s, .string sep] w fun e w' =>
      e = .returned (.slice (some ⟨w.heap.size, 0, none⟩) (Lib.countB s sep + 1) (Lib.countB s sep + 1)) ∧ w' = w.alloc (.cells ((Lib.splitB sep 0 (Lib.countB s sep) s).map Value.string).toArray 9) := Any.strings_Split Tryd.lays146 (by kernel_rfl) s sep m w hs hm h1
open Go.RowKit Go.Lib in
def Tryd.laysPa45_ren : Go.Shelf.Ren := ⟨fun | 45 => 53 | n => n, fun | 9 => 9 | 5 => 5 | 3 => 3 | 4 => 4 | n => n, fun | n => n⟩
theorem Tryd.laysPa45 : Go.Proofs.Lays.p45 Tryd.prog Tryd.laysPa45_ren := {
  mixed := by kernel_rfl
  f45 := Tryd.func53.trans (congrArg some (by kernel_rfl))
  t3 := Tryd.underlying3
  a3 := Tryd.isAgg3
  z3 := Tryd.sizeOf3
  v3 := Tryd.zeroValue3
  t4 := Tryd.underlying4
  a4 := Tryd.isAgg4
  z4 := Tryd.sizeOf4
  v4 := Tryd.zeroValue4
  t5 := Tryd.underlying5
  a5 := Tryd.isAgg5
  z5 := Tryd.sizeOf5
  v5 := Tryd.zeroValue5
  t9 := Tryd.underlying9
  a9 := Tryd.isAgg9
  z9 := Tryd.sizeOf9
  v9 := Tryd.zeroValue9 }
open Go.RowKit Go.Lib in
theorem Tryd.bytealg_LastIndexByteString (s : ByteArray) (c : UInt8) (w : World) (hs : s.size ≤ 9223372036854775807) :
    Calls Tryd.prog 53 #[.string s, .int .u8 c.toNat] w fun e w' => e = .returned (.int .i64 (Pa.lastIndexByte s.data.toList c)) ∧ w' = w := Any.bytealg_LastIndexByteString Tryd.laysPa45 s c w hs
end Go.Proofs
namespace Go.Proofs.YtmofhijbheimmaaDoorW.PrintMore
open Go.RowKit Go.Proofs.YtmofhijbheimmaaDoorW.PrintWords Go.Proofs.YtmofhijbheimmaaDoorW.PrintLast
section
variable {w : World} {g : Nat} {t : TypeId} {c0 c1 c2 c3 c4 c5 c6 c7 c8 c9 c10 c11 : Value}
abbrev xS1 (g : Nat) (c0 : Value) (w : World) : Prop := w.cell? ⟨g, 0, none⟩ = some c0
abbrev xS2 (g : Nat) (c0 c1 : Value) (w : World) : Prop := w.cell? ⟨g, 0, none⟩ = some c0 ∧ w.cell? ⟨g, 1, none⟩ = some c1
theorem xs2 (h : w.heap[g]? = some (.cells #[c0, c1] t (0, 0))) : xS2 g c0 c1 w := ⟨(an h 0).trans rfl, (an h 1).trans rfl⟩
theorem xz2 (h : w.heap[g]? = some (.cells #[c0, c1] t (0, 0))) : (w.cell? ⟨g, 0, none⟩ = some c0 ∧ w.cell? ⟨g, 1, none⟩ = some c1) ∧ ∀ i, w.frozen? ⟨g, i, none⟩ = false := ⟨xs2 h, fun i => eV h i⟩
abbrev xS3 (g : Nat) (c0 c1 c2 : Value) (w : World) : Prop := w.cell? ⟨g, 0, none⟩ = some c0 ∧ w.cell? ⟨g, 1, none⟩ = some c1 ∧ w.cell? ⟨g, 2, none⟩ = some c2
abbrev xS4 (g : Nat) (c0 c1 c2 c3 : Value) (w : World) : Prop := w.cell? ⟨g, 0, none⟩ = some c0 ∧ w.cell? ⟨g, 1, none⟩ = some c1 ∧ w.cell? ⟨g, 2, none⟩ = some c2 ∧ w.cell? ⟨g, 3, none⟩ = some c3
abbrev xS5 (g : Nat) (c0 c1 c2 c3 c4 : Value) (w : World) : Prop := w.cell? ⟨g, 0, none⟩ = some c0 ∧ w.cell? ⟨g, 1, none⟩ = some c1 ∧ w.cell? ⟨g, 2, none⟩ = some c2 ∧ w.cell? ⟨g, 3, none⟩ = some c3 ∧ w.cell? ⟨g, 4, none⟩ = some c4
theorem xs5 (h : w.heap[g]? = some (.cells #[c0, c1, c2, c3, c4] t (0, 0))) : xS5 g c0 c1 c2 c3 c4 w := ⟨(an h 0).trans rfl, (an h 1).trans rfl, (an h 2).trans rfl, (an h 3).trans rfl, (an h 4).trans rfl⟩
theorem xz5 (h : w.heap[g]? = some (.cells #[c0, c1, c2, c3, c4] t (0, 0))) : (w.cell? ⟨g, 0, none⟩ = some c0 ∧ w.cell? ⟨g, 1, none⟩ = some c1 ∧ w.cell? ⟨g, 2, none⟩ = some c2 ∧ w.cell? ⟨g, 3, none⟩ = some c3 ∧ w.cell? ⟨g, 4, none⟩ = some c4) ∧ ∀ i, w.frozen? ⟨g, i, none⟩ = false := ⟨xs5 h, fun i => eV h i⟩
abbrev xS6 (g : Nat) (c0 c1 c2 c3 c4 c5 : Value) (w : World) : Prop := w.cell? ⟨g, 0, none⟩ = some c0 ∧ w.cell? ⟨g, 1, none⟩ = some c1 ∧ w.cell? ⟨g, 2, none⟩ = some c2 ∧ w.cell? ⟨g, 3, none⟩ = some c3 ∧ w.cell? ⟨g, 4, none⟩ = some c4 ∧ w.cell? ⟨g, 5, none⟩ = some c5
abbrev xS7 (g : Nat) (c0 c1 c2 c3 c4 c5 c6 : Value) (w : World) : Prop := w.cell? ⟨g, 0, none⟩ = some c0 ∧ w.cell? ⟨g, 1, none⟩ = some c1 ∧ w.cell? ⟨g, 2, none⟩ = some c2 ∧ w.cell? ⟨g, 3, none⟩ = some c3 ∧ w.cell? ⟨g, 4, none⟩ = some c4 ∧ w.cell? ⟨g, 5, none⟩ = some c5 ∧ w.cell? ⟨g, 6, none⟩ = some c6
abbrev xS8 (g : Nat) (c0 c1 c2 c3 c4 c5 c6 c7 : Value) (w : World) : Prop := w.cell? ⟨g, 0, none⟩ = some c0 ∧ w.cell? ⟨g, 1, none⟩ = some c1 ∧ w.cell? ⟨g, 2, none⟩ = some c2 ∧ w.cell? ⟨g, 3, none⟩ = some c3 ∧ w.cell? ⟨g, 4, none⟩ = some c4 ∧ w.cell? ⟨g, 5, none⟩ = some c5 ∧ w.cell? ⟨g, 6, none⟩ = some c6 ∧ w.cell? ⟨g, 7, none⟩ = some c7
abbrev xS9 (g : Nat) (c0 c1 c2 c3 c4 c5 c6 c7 c8 : Value) (w : World) : Prop := w.cell? ⟨g, 0, none⟩ = some c0 ∧ w.cell? ⟨g, 1, none⟩ = some c1 ∧ w.cell? ⟨g, 2, none⟩ = some c2 ∧ w.cell? ⟨g, 3, none⟩ = some c3 ∧ w.cell? ⟨g, 4, none⟩ = some c4 ∧ w.cell? ⟨g, 5, none⟩ = some c5 ∧ w.cell? ⟨g, 6, none⟩ = some c6 ∧ w.cell? ⟨g, 7, none⟩ = some c7 ∧ w.cell? ⟨g, 8, none⟩ = some c8
abbrev jJ (g : Nat) (c0 c1 c2 c3 c4 c5 c6 c7 c8 c9 : Value) (w : World) : Prop := w.cell? ⟨g, 0, none⟩ = some c0 ∧ w.cell? ⟨g, 1, none⟩ = some c1 ∧ w.cell? ⟨g, 2, none⟩ = some c2 ∧ w.cell? ⟨g, 3, none⟩ = some c3 ∧ w.cell? ⟨g, 4, none⟩ = some c4 ∧ w.cell? ⟨g, 5, none⟩ = some c5 ∧ w.cell? ⟨g, 6, none⟩ = some c6 ∧ w.cell? ⟨g, 7, none⟩ = some c7 ∧ w.cell? ⟨g, 8, none⟩ = some c8 ∧ w.cell? ⟨g, 9, none⟩ = some c9
abbrev jK (g : Nat) (c0 c1 c2 c3 c4 c5 c6 c7 c8 c9 c10 : Value) (w : World) : Prop := w.cell? ⟨g, 0, none⟩ = some c0 ∧ w.cell? ⟨g, 1, none⟩ = some c1 ∧ w.cell? ⟨g, 2, none⟩ = some c2 ∧ w.cell? ⟨g, 3, none⟩ = some c3 ∧ w.cell? ⟨g, 4, none⟩ = some c4 ∧ w.cell? ⟨g, 5, none⟩ = some c5 ∧ w.cell? ⟨g, 6, none⟩ = some c6 ∧ w.cell? ⟨g, 7, none⟩ = some c7 ∧ w.cell? ⟨g, 8, none⟩ = some c8 ∧ w.cell? ⟨g, 9, none⟩ = some c9 ∧ w.cell? ⟨g, 10, none⟩ = some c10
abbrev jL (g : Nat) (c0 c1 c2 c3 c4 c5 c6 c7 c8 c9 c10 c11 : Value) (w : World) : Prop := w.cell? ⟨g, 0, none⟩ = some c0 ∧ w.cell? ⟨g, 1, none⟩ = some c1 ∧ w.cell? ⟨g, 2, none⟩ = some c2 ∧ w.cell? ⟨g, 3, none⟩ = some c3 ∧ w.cell? ⟨g, 4, none⟩ = some c4 ∧ w.cell? ⟨g, 5, none⟩ = some c5 ∧ w.cell? ⟨g, 6, none⟩ = some c6 ∧ w.cell? ⟨g, 7, none⟩ = some c7 ∧ w.cell? ⟨g, 8, none⟩ = some c8 ∧ w.cell? ⟨g, 9, none⟩ = some c9 ∧ w.cell? ⟨g, 10, none⟩ = some c10 ∧ w.cell? ⟨g, 11, none⟩ = some c11
end
theorem xm1 {α β : Type} (f : α → β) (l : List α) : l.toArray.map f = (l.map f).toArray := by simp
theorem xm2 {α β : Type} (f : α → β) (a : α) (l : List α) : (a :: l).map f = f a :: l.map f := rfl
theorem xm3 {α β : Type} (f : α → β) : ([] : List α).map f = [] := rfl
def xW (T : List (List Nat × List Nat)) : List Nat := T.foldl (fun B r => B ++ [upM B B.length r.1]) []
section
variable {P : Program} {ops : Array Oper} {Q : Exit → Act → World → Prop} {S : World → Prop} {ds : List Nat} {md : Region.Mode}
theorem xsr {id : Nat} {a : Act} {w : World} {l : Array Bool} (n : Nat) (ds : List Nat) (hS : S w.drew) (h : S w.drew → ah P .any ops Q S ds n l a w.drew)
    (hm : P.follows .mixedOrders = true := by kernel_rfl) (hn : ops.size = n := by rfl) (hl : (List.replicate n false).toArray = l := by simp only [List.replicate_succ, List.replicate_zero]; rfl) : (Code.region id ops true).wp P Q a w :=
  gz l hm hn (by subst hl; simp) hS h
theorem xpu {oi : Oper} {v : Value} {fuel : Nat} {l l' : Array Bool} {a a' : Act} {w : World} (i : Nat) (N : Tmp) (h : ah P md ops Q S ds fuel l' a' w)
    (hi : ops[i]? = some oi := by rfl) (hN : oi.dst = some N := by rfl)
    (hl : l.setIfInBounds i true = l' := by simp only [List.setIfInBounds_toArray, List.set_cons_zero, List.set_cons_succ]; rfl)
    (hc : iT (bY md ops) l.toList l'.toList i = true := by kernel_rfl)
    (hQ : ∀ c a w, Q (.panic c) (a.put oi.dst v) w → Q (.panic c) a w := by exact fun _ _ _ h => h)
    (hw : Region.wanted oi (yielded ops a.tmps) = true := by rfl)
    (hv : ∀ w, (execOp a.eval oi).run P w = .ok (.value v) w := by intro w'; go_simp; with_reducible rfl)
    (ha : a.put (some N) v = a' := by simp only [Act.put, List.setIfInBounds_toArray, List.set_cons_zero, List.set_cons_succ, am, az]; rfl) : ah P md ops Q S ds (fuel + 1) l a w :=
  fU l' hi hN (jn rfl hc) hQ (Or.inl ⟨hw, hv⟩) ha h
theorem xtk {oi : Oper} {v : Value} {fuel : Nat} {l l' : Array Bool} {a a' : Act} {w : World} (i : Nat) (N : Tmp) (h : ah P md ops Q S ds fuel l' a' w)
    (hB : f9 (bY md ops).2 (xW (bY md ops).2) = true := by kernel_rfl) (hS : S w := by exact hHeld) (hi : ops[i]? = some oi := by rfl) (hN : oi.dst = some N := by rfl)
    (hl : l.setIfInBounds i true = l' := by simp only [List.setIfInBounds_toArray, List.set_cons_zero, List.set_cons_succ]; rfl)
    (hc : iB (bY md ops) (xW (bY md ops).2) ds l.toList l'.toList i = true := by kernel_rfl)
    (hQ : ∀ c a w, Q (.panic c) (a.put oi.dst v) w → Q (.panic c) a w := by exact fun _ _ _ h => h)
    (hw : Region.wanted oi (yielded ops a.tmps) = true := by rfl)
    (hv : ∀ w, S w → (execOp a.eval oi).run P w = .ok (.value v) w := by intro w' hs_; (try simp only [xS1, xS2, xS3, xS4, xS5, xS6, xS7, xS8, xS9, jJ, jK, jL] at hs_); go_simp; with_reducible rfl)
    (ha : a.put (some N) v = a' := by simp only [Act.put, List.setIfInBounds_toArray, List.set_cons_zero, List.set_cons_succ, am, az]; rfl) : ah P md ops Q S ds (fuel + 1) l a w :=
  take_ l' hi hN (i1 rfl hB hc) hQ (Or.inl ⟨hw, hv⟩) hS ha h
theorem xdn {l : Array Bool} {a : Act} {w : World} {n : Nat} (h : Q .normal a w) (hc : (eP (bY md ops).2 l.toList == []) = true := by kernel_rfl) : ah P md ops Q S ds n l a w := i3 (jb rfl hc) h
end
section
variable {P : Program} {ops : Array Oper} {rest : List Oper} {o : Oper} {a : Act} {Q : Exit → Act → World → Prop}
theorem xca {w : World} {v : Value} {R : World → Prop} (N : Tmp) {f : FuncId} {fn : Func} {asx : Array Operand} {ts : Array TypeId} (hf : P.funcs[f]? = some fn) {args : Array Value}
    (C : Calls P f args w fun e w' => e = .returned v ∧ R w') (h : ∀ w', R w' → wpList P ops Q rest (a.put (some N) v) w')
    (hop : o.op = .call { callee := .value (.func f), args := asx, argTypes := ts } := by rfl) (hd : o.dst = some N := by rfl) (hg : o.guard = none := by rfl)
    (hname : (fn.name == "runtime.NumGoroutine") = false := by kernel_rfl) (hb : fn.body.isSome = true := by rfl)
    (hargs : asx.map a.eval = args := by (try simp only [List.map_toArray, List.map_cons, List.map_nil]); first | done | rfl | (simp only [List.length_drop, List.length_take]; rfl)) : wpList P ops Q (o :: rest) a w :=
  iO (some N) hd hg hf hname hb args hop hargs (C.mono fun e w' ⟨he, hr⟩ => ⟨v, he, h w' hr⟩)
theorem xgc {W : World} {f : FuncId} {asx : Array Operand} {ts : Array TypeId} (_ho : o.op = .call { callee := .value (.func f), args := asx, argTypes := ts }) (h : wpList P ops Q (o :: rest) a W) : wpList P ops Q (o :: rest) a W := h
end
section
variable {α : Type} {x y z : Option α} {G : Prop}
theorem xib {b : Bool} (H : (if b = true then x else y) = z) (h1 : b = true → x = z → G) (h2 : b = false → y = z → G) : G := by
  cases b with
  | true => exact h1 rfl (by rw [if_pos rfl] at H; exact H)
  | false => exact h2 rfl (by rw [if_neg (by decide)] at H; exact H)
theorem xid {c : Prop} [Decidable c] (H : (if c then x else y) = z) (h1 : c → x = z → G) (h2 : ¬c → y = z → G) : G := by
  by_cases hc : c
  · exact h1 hc (by rw [if_pos hc] at H; exact H)
  · exact h2 hc (by rw [if_neg hc] at H; exact H)
theorem xin {c : Prop} [Decidable c] {r : α} (H : (if c then x else none) = some r) (h : c → x = some r → G) : G := by
  by_cases hc : c
  · exact h hc (by rw [if_pos hc] at H; exact H)
  · rw [if_neg hc] at H
    exact absurd H (by simp)
theorem xbd {β : Type} {f : α → Option β} {r : β} (H : x.bind f = some r) : ∃ t, Zz (x = some t) ∧ f t = some r := by
  obtain ⟨t, h1, h2⟩ := Option.bind_eq_some_iff.mp H
  exact ⟨t, ⟨h1⟩, h2⟩
end
theorem xcp {c : Prop} [Decidable c] (h : c) : (c = True) ∧ decide c = true := ⟨eq_true h, decide_eq_true h⟩
theorem jA {w : World} {g b i : Nat} {t : TypeId} {cs : Array Value} {u : Value} (h : w.heap[g]? = some (.cells cs t (0, 0))) (hp : Zz (g ≠ b)) : (w.setCell ⟨b, i, none⟩ u).heap[g]? = some (.cells cs t (0, 0)) := cK h hp.out u
theorem xbK {p : Prop} (h : p := by repeat (with_reducible first | refine cW ?_ _ | refine bT ?_ | refine cV ?_ _ | exact Zz.out (by assumption) | refine jA ?_ (by assumption) | apply gC | apply gD | apply gE | apply gF | apply gG | apply gH | apply gI | apply gJ | apply gK | apply gL | apply gM | apply gN | apply gO | apply gP | apply gQ | apply gR | apply gS | apply gT | apply gU | apply gV | apply gW | apply gX | apply gY | apply gZ | apply g5 | apply g6 | apply g7 | apply g8 | apply g9 | apply hE | apply hH | apply hM | apply hO | apply hP | apply hU | apply hX | apply hZ | apply ia | apply ib | apply ic | apply ie | apply ig | apply ii | apply ij | apply ik)) : p := h
theorem xbq (g : Nat) {W w1 : World} {cs cs' : Array Value} {t : TypeId} (hb : Below W.heap.size W w1) (h1 : W.heap[g]? = some (.cells cs t (0, 0)) := by repeat (first | (with_reducible first | refine cW ?_ _ | refine bT ?_ | refine cV ?_ _ | exact Zz.out (by assumption) | refine jA ?_ (by assumption) | refine io ?_ _ _)))
    (h2 : cs = cs' := by (try simp only [List.setIfInBounds_toArray, List.set_cons_zero, List.set_cons_succ]); rfl) : Zz (w1.heap[g]? = some (.cells cs' t (0, 0))) := ⟨h2 ▸ ge h1 hb⟩
theorem xoj {p q : Prop} (H : Zz q) (h : q → p := by intro hq_; first | omega | exact Nat.le_refl _) : p := h H.out
theorem xoJ {p q r : Prop} (H : Zz q) (K : Zz r) (h : q → r → p := by intro hq_ hr_; first | omega | exact Nat.le_refl _) : p := h H.out K.out
theorem xiv (s : ByteArray) (i : Int) (hp : 0 ≤ i) (hq : i < (s.size : Int)) : ((0 ≤ i) = True) ∧ ((i < (s.size : Int)) = True) ∧ ∀ h : i.toNat < s.size, ((s[i.toNat]'h).toNat : Int) = bt s i := ⟨eq_true hp, eq_true hq, i2 s i⟩
theorem xi0 (s : ByteArray) (hq : (0 : Int) < (s.size : Int)) : ((0 < s.size) = True) ∧ ((0 < (s.size : Int)) = True) ∧ ∀ h : 0 < s.size, ((s[0]'h).toNat : Int) = bt s 0 := ⟨eq_true (by omega), eq_true hq, i2 s 0⟩
theorem xdd {p : Prop} (h : p := by first | exact ⟨rfl, _, World.drewN_drewN _ _ _⟩ | exact ⟨rfl, _, Eq.trans (World.drewN_drewN _ _ _) (congrArg (World.drewN _) (Nat.add_assoc _ _ _))⟩) : p := h
theorem xqe {α : Type} [BEq α] [LawfulBEq α] {a b : α} (h : a = b) : ((a == b) = true) ∧ (a != b) = false := ⟨beq_iff_eq.mpr h, bne_eq_false_iff_eq.mpr h⟩
theorem xqn {α : Type} [BEq α] [LawfulBEq α] {a b : α} (h : ¬ a = b) : ((a == b) = false) ∧ (a != b) = true := ⟨beq_eq_false_iff_ne.mpr h, bne_iff_ne.mpr h⟩
theorem xdt {p : Prop} [Decidable p] (h : p) : decide p = true := decide_eq_true h
theorem xdf {p : Prop} [Decidable p] (h : ¬ p) : decide p = false := decide_eq_false h
theorem xl1 {α : Type} {l : List α} {i : Nat} {a : α} : l.toArray.setIfInBounds i a = (l.set i a).toArray := List.setIfInBounds_toArray ..
theorem xl2 {α : Type} {x a : α} {l : List α} : (x :: l).set 0 a = a :: l := rfl
theorem xl3 {α : Type} {x a : α} {l : List α} {n : Nat} : (x :: l).set (n + 1) a = x :: l.set n a := rfl
theorem xrd {p : Prop} (h : p := by first | rfl | (simp [bO, bP] <;> first | rfl | (simp only [cM, bne, Bool.not_not]; done))) : p := h
theorem xrs {p : Prop} (h : p := by first | rfl | (simp; done)) : p := h
theorem xa {p : Prop} (h : p) : Zz p := ⟨h⟩
theorem xew {P : Program} {ops : Array Oper} {rest : List Oper} {o : Oper} {a : Act} {Q : Exit → Act → World → Prop} {w W : World} (N : Tmp) {cs : Array Value} {t : TypeId}
    (h : ∀ g w1, Zz (w1.heap[g]? = some (.cells cs t (0, 0))) → Zz (w.heap.size ≤ g) → Below W.heap.size W w1 → g = W.heap.size → wpList P ops Q rest (a.put o.dst (.pointer (some ⟨g, 0, none⟩))) w1)
    (hd : o.dst = some N := by rfl) (hgd : o.guard = none := by rfl)
    (hrun : (execOp a.eval o).run P W = .ok (.value (.pointer (some ⟨W.heap.size, 0, none⟩))) (W.alloc (.cells cs t (0, 0))) := by first | (go_simp; done) | (go_simp; rfl))
    (hb : Below w.heap.size w W := by repeat (first | (with_reducible first | exact HB.out | apply bK | apply b5 | apply bM | refine eu ?_ (Zz.out (by assumption))) | exact HB.out)) : wpList P ops Q (o :: rest) a W :=
  xev N cs t (fun g hg w1 hx hb1 => h g w1 ⟨hx⟩ ⟨by rw [hg]; exact aA hb⟩ hb1 hg) hd hgd hrun
theorem xG {p : Prop} (h : p := by first | (with_reducible exact hG) | exact gp hG xbl) : p := h
end Go.Proofs.YtmofhijbheimmaaDoorW.PrintMore
namespace Go.Proofs.YtmofhijbheimmaaDoor.X
open Go.RowKit Go.Proofs.YtmofhijbheimmaaDoorW.PrintWords Go.Proofs.YtmofhijbheimmaaDoorW.PrintLast Go.Proofs.YtmofhijbheimmaaDoorW.PrintMore
attribute [local go_sem] cJ cx dT eS fs er eT ef eh eJ eK dK dL eg ei
theorem cM (l : List UInt8) : l.isEmpty = (l == []) := by cases l <;> rfl
structure GW (w : World) : Prop where
  maxLen : ∃ m, w.cell? ⟨0, 0, none⟩ = some (.int .i64 m)
theorem gp {w w' : World} (h : GW w) (hb : Below w.heap.size w w') : GW w' := by
  obtain ⟨m, hm⟩ := h.maxLen
  exact ⟨⟨m, cR hb hm⟩⟩
def jo : Option Int → Value
  | none => .nilIface
  | some c => .iface 0 (.int .i64 c)
theorem bO : jo none = .nilIface := rfl
theorem bP (c : Int) : jo (some c) = .iface 0 (.int .i64 c) := rfl
theorem gq : (Tryd.prog.info? 5).map (fun i => (i.zero, i.size, i.bytes)) = some (some (.int .u8 0), 1, 1) := by kernel_rfl
theorem eY : (Tryd.prog.info? 9).map (fun i => (i.zero, i.size, i.bytes)) = some (some (.string ⟨#[]⟩), 1, 16) := by kernel_rfl
def cu (a0 : Int) : Option (ByteArray × Bool) := if a0 = 1 then (some ((⟨#[58]⟩ : ByteArray), true)) else (if a0 = 2 then (some ((⟨#[]⟩ : ByteArray), true)) else (if a0 = 3 then (some ((⟨#[58, 64]⟩ : ByteArray), true)) else (if a0 = 4 then (some ((⟨#[64]⟩ : ByteArray), true)) else (if a0 = 5 then (some ((⟨#[58, 64, 47]⟩ : ByteArray), true)) else (if a0 = 6 then (some ((⟨#[58, 64, 47, 63]⟩ : ByteArray), true)) else (if a0 = 7 then (some ((⟨#[58, 64, 47, 63]⟩ : ByteArray), true)) else (some ((⟨#[]⟩ : ByteArray), false))))))))
theorem aM (a0 : Int) (r1 : ByteArray) (r2 : Bool) (w : World) (h : cu a0 = some (r1, r2)) :
    Calls Tryd.prog 55 #[.int .i64 a0] w fun e w' => e = .returned (.tuple #[.string r1, .bool r2]) ∧ Drawn0 w w' := by
 have H := h
 clear h
 unfold cu at H
 refine xid H ?_ ?_ <;> clear H <;> intro c2 H
 {
 obtain ⟨Aa, Ab⟩ := xqe c2
 clear c2
 simp only [Option.some.injEq, Prod.mk.injEq] at H
 obtain ⟨rfl, rfl⟩ := H
 go_enter Tryd.func55, Tryd.ntmps55
 go_wp2
 go_ret2
 exact ⟨xrr, xdr⟩
 }
 obtain ⟨Aa, Ab⟩ := xqn c2
 refine xid H ?_ ?_ <;> clear H <;> intro c3 H
 {
 obtain ⟨Ac, Ad⟩ := xqe c3
 clear c3
 simp only [Option.some.injEq, Prod.mk.injEq] at H
 obtain ⟨rfl, rfl⟩ := H
 go_enter Tryd.func55, Tryd.ntmps55
 go_wp2
 go_ret2
 exact ⟨xrr, xdr⟩
 }
 obtain ⟨Ac, Ad⟩ := xqn c3
 refine xid H ?_ ?_ <;> clear H <;> intro c4 H
 {
 obtain ⟨Ae, Af⟩ := xqe c4
 clear c4
 simp only [Option.some.injEq, Prod.mk.injEq] at H
 obtain ⟨rfl, rfl⟩ := H
 go_enter Tryd.func55, Tryd.ntmps55
 go_wp2
 go_ret2
 exact ⟨xrr, xdr⟩
 }
 obtain ⟨Ae, Af⟩ := xqn c4
 refine xid H ?_ ?_ <;> clear H <;> intro c5 H
 {
 obtain ⟨Ag, Ah⟩ := xqe c5
 clear c5
 simp only [Option.some.injEq, Prod.mk.injEq] at H
 obtain ⟨rfl, rfl⟩ := H
 go_enter Tryd.func55, Tryd.ntmps55
 go_wp2
 go_ret2
 exact ⟨xrr, xdr⟩
 }
 obtain ⟨Ag, Ah⟩ := xqn c5
 refine xid H ?_ ?_ <;> clear H <;> intro c6 H
 {
 obtain ⟨Ai, Aj⟩ := xqe c6
 clear c6
 simp only [Option.some.injEq, Prod.mk.injEq] at H
 obtain ⟨rfl, rfl⟩ := H
 go_enter Tryd.func55, Tryd.ntmps55
 go_wp2
 go_ret2
 exact ⟨xrr, xdr⟩
 }
 obtain ⟨Ai, Aj⟩ := xqn c6
 refine xid H ?_ ?_ <;> clear H <;> intro c7 H
 {
 obtain ⟨Ak, Al⟩ := xqe c7
 clear c7
 simp only [Option.some.injEq, Prod.mk.injEq] at H
 obtain ⟨rfl, rfl⟩ := H
 go_enter Tryd.func55, Tryd.ntmps55
 go_wp2
 go_ret2
 exact ⟨xrr, xdr⟩
 }
 obtain ⟨Ak, Al⟩ := xqn c7
 refine xid H ?_ ?_ <;> clear H <;> intro c8 H
 {
 obtain ⟨Am, An⟩ := xqe c8
 clear c8
 simp only [Option.some.injEq, Prod.mk.injEq] at H
 obtain ⟨rfl, rfl⟩ := H
 go_enter Tryd.func55, Tryd.ntmps55
 go_wp2
 go_ret2
 exact ⟨xrr, xdr⟩
 }
 obtain ⟨Am, An⟩ := xqn c8
 simp only [Option.some.injEq, Prod.mk.injEq] at H
 obtain ⟨rfl, rfl⟩ := H
 go_enter Tryd.func55, Tryd.ntmps55
 go_wp2
 go_ret2
 exact ⟨xrr, xdr⟩
mutual
def aT : Nat → Int → Bool → Option (Int)
  | 0, _, _ => none
  | k + 1, x3, x4 => if x4 = true then (some 4) else (if x3 = 33 then (ar k x3 (x3 == 33)) else (if x3 = 36 then (ar k x3 (x3 == 36)) else (if x3 = 38 then (ar k x3 (x3 == 38)) else (if x3 = 39 then (ar k x3 (x3 == 39)) else (if x3 = 40 then (ar k x3 (x3 == 40)) else (if x3 = 41 then (ar k x3 (x3 == 41)) else (if x3 = 42 then (ar k x3 (x3 == 42)) else (if x3 = 43 then (ar k x3 (x3 == 43)) else (if x3 = 44 then (ar k x3 (x3 == 44)) else (if x3 = 59 then (ar k x3 (x3 == 59)) else (ar k x3 (x3 == 61))))))))))))
def ar : Nat → Int → Bool → Option (Int)
  | 0, _, _ => none
  | k + 1, x3, x9 => if x9 = true then (some 8) else (if x3 = 58 then (some 16) else (if x3 = 47 then (some 16) else (if x3 = 63 then (some 16) else (if x3 = 35 then (some 16) else (if x3 = 91 then (some 16) else (if x3 = 93 then (some 16) else (if x3 = 64 then (some 16) else (some 0))))))))
end
def b7 (k : Nat) (a0 : Int) : Option (Int) := if a0 = 45 then (aT k a0 (a0 == 45)) else (if a0 = 46 then (aT k a0 (a0 == 46)) else (if a0 = 95 then (aT k a0 (a0 == 95)) else (aT k a0 (a0 == 126))))
theorem d4 : ∀ k, (∀ y0 y1, LeO (aT k y0 y1) (aT (k + 1) y0 y1)) ∧ (∀ y0 y1, LeO (ar k y0 y1) (ar (k + 1) y0 y1))
  | 0 => ⟨fun _ _ r h => by simp [aT] at h, fun _ _ r h => by simp [ar] at h⟩
  | k + 1 => by
    obtain ⟨ih0, ih1⟩ := d4 k
    refine ⟨?_, ?_⟩
    · intro y0 y1
      unfold aT
      exact xmo
    · intro y0 y1
      unfold ar
      exact xmo
theorem ew : ∀ a0 k, LeO (b7 k a0) (b7 (k + 1) a0) := by
  intro a0 k
  obtain ⟨ih0, ih1⟩ := d4 k
  unfold b7
  exact xmo
theorem en (k : Nat) (a0 : Int) (r : Int) (w : World) (h : b7 k a0 = some r) :
    Calls Tryd.prog 85 #[.int .u8 a0] w fun e w' => e = .returned (.int .i64 r) ∧ Drawn0 w w' := by
 have H := h
 clear h
 unfold b7 at H
 have AK := Zz.mk H
 clear H
 go_enter Tryd.func85, Tryd.ntmps85
 go_upto_if 4 with (fail)
 go_cut [4] (fun v4 wc => ∃ kq Ac, v4 = .bool Ac ∧ Zz (aT kq a0 Ac = some r) ∧ Zz (kq ≤ k) ∧ Drawn0 w wc)
 case first => (
 have H := AK.out
 clear AK
 refine xid H ?_ ?_ <;> clear H <;> intro c3 H
 {
 obtain ⟨Aa, Ad⟩ := xqe c3
 clear c3
 (first | rw [Aa] | (simp only [am, az]; rw [Aa]) | (rw [AL]; (try simp only [Bool.not_false, Bool.not_true])) | (rw [AM]; (try simp only [Bool.not_false, Bool.not_true])) | rw [Ad] | skip)
 replace H := xa H
 go_wp2
 go_meet
 case rel => exact ⟨_, ((a0 == 45)), xrr, H, ⟨xom⟩, xdr⟩
 }
 obtain ⟨Aa, Ad⟩ := xqn c3
 (first | rw [Aa] | (simp only [am, az]; rw [Aa]) | (rw [AL]; (try simp only [Bool.not_false, Bool.not_true])) | (rw [AM]; (try simp only [Bool.not_false, Bool.not_true])) | rw [Ad] | skip)
 refine xid H ?_ ?_ <;> clear H <;> intro c4 H
 {
 obtain ⟨AN, AO⟩ := xqe c4
 clear c4
 replace H := xa H
 go_wp2
 go_meet
 case rel => exact ⟨_, ((a0 == 46)), xrr, H, ⟨xom⟩, xdr⟩
 }
 obtain ⟨AN, AO⟩ := xqn c4
 refine xid H ?_ ?_ <;> clear H <;> intro c5 H
 {
 obtain ⟨AP, AQ⟩ := xqe c5
 clear c5
 replace H := xa H
 go_wp2
 go_meet
 case rel => exact ⟨_, ((a0 == 95)), xrr, H, ⟨xom⟩, xdr⟩
 }
 obtain ⟨AP, AQ⟩ := xqn c5
 replace H := xa H
 go_wp2
 go_meet
 case rel => exact ⟨_, ((a0 == 126)), xrr, H, ⟨xom⟩, xdr⟩
 )
 case rest => (
 clear AK
 obtain ⟨kq, Ac, rfl, HA, HJ1, ⟨mc1, rfl⟩⟩ := hcut
 cases kq with
 | zero => exact absurd HA.out (by simp [aT])
 | succ kj1 => (
 have H := HA.out
 clear HA
 simp only [aT] at H
 refine xib H ?_ ?_ <;> clear H <;> rintro rfl H
 {
 obtain rfl := Option.some.inj H
 go_wp2
 go_ret
 exact ⟨xrr, xdr⟩
 }
 have AR := Zz.mk H
 clear H
 go_upto_if 9 with (fail)
 go_cut [9] (fun v9 wc => ∃ kq Ae, v9 = .bool Ae ∧ Zz (ar kq a0 Ae = some r) ∧ Zz (kq ≤ kj1) ∧ Drawn0 w wc)
 case first => (
 have H := AR.out
 clear AR
 refine xid H ?_ ?_ <;> clear H <;> intro c8 H
 {
 obtain ⟨Ab, Af⟩ := xqe c8
 clear c8
 (first | rw [Ab] | (simp only [am, az]; rw [Ab]) | (rw [AS]; (try simp only [Bool.not_false, Bool.not_true])) | (rw [AT]; (try simp only [Bool.not_false, Bool.not_true])) | rw [Af] | skip)
 replace H := xa H
 go_wp2
 go_meet
 case rel => exact ⟨_, ((a0 == 33)), xrr, H, ⟨xoj HJ1⟩, xdr⟩
 }
 obtain ⟨Ab, Af⟩ := xqn c8
 (first | rw [Ab] | (simp only [am, az]; rw [Ab]) | (rw [AS]; (try simp only [Bool.not_false, Bool.not_true])) | (rw [AT]; (try simp only [Bool.not_false, Bool.not_true])) | rw [Af] | skip)
 refine xid H ?_ ?_ <;> clear H <;> intro c9 H
 {
 obtain ⟨AU, AV⟩ := xqe c9
 clear c9
 replace H := xa H
 go_wp2
 go_meet
 case rel => exact ⟨_, ((a0 == 36)), xrr, H, ⟨xoj HJ1⟩, xdr⟩
 }
 obtain ⟨AU, AV⟩ := xqn c9
 refine xid H ?_ ?_ <;> clear H <;> intro c10 H
 {
 obtain ⟨Ag, Ah⟩ := xqe c10
 clear c10
 replace H := xa H
 go_wp2
 go_meet
 case rel => exact ⟨_, ((a0 == 38)), xrr, H, ⟨xoj HJ1⟩, xdr⟩
 }
 obtain ⟨Ag, Ah⟩ := xqn c10
 refine xid H ?_ ?_ <;> clear H <;> intro c11 H
 {
 obtain ⟨Ai, Aj⟩ := xqe c11
 clear c11
 replace H := xa H
 go_wp2
 go_meet
 case rel => exact ⟨_, ((a0 == 39)), xrr, H, ⟨xoj HJ1⟩, xdr⟩
 }
 obtain ⟨Ai, Aj⟩ := xqn c11
 refine xid H ?_ ?_ <;> clear H <;> intro c12 H
 {
 obtain ⟨Ak, Al⟩ := xqe c12
 clear c12
 replace H := xa H
 go_wp2
 go_meet
 case rel => exact ⟨_, ((a0 == 40)), xrr, H, ⟨xoj HJ1⟩, xdr⟩
 }
 obtain ⟨Ak, Al⟩ := xqn c12
 refine xid H ?_ ?_ <;> clear H <;> intro c13 H
 {
 obtain ⟨Am, An⟩ := xqe c13
 clear c13
 replace H := xa H
 go_wp2
 go_meet
 case rel => exact ⟨_, ((a0 == 41)), xrr, H, ⟨xoj HJ1⟩, xdr⟩
 }
 obtain ⟨Am, An⟩ := xqn c13
 refine xid H ?_ ?_ <;> clear H <;> intro c14 H
 {
 obtain ⟨Ao, Ap⟩ := xqe c14
 clear c14
 replace H := xa H
 go_wp2
 go_meet
 case rel => exact ⟨_, ((a0 == 42)), xrr, H, ⟨xoj HJ1⟩, xdr⟩
 }
 obtain ⟨Ao, Ap⟩ := xqn c14
 refine xid H ?_ ?_ <;> clear H <;> intro c15 H
 {
 obtain ⟨Aq, Ar⟩ := xqe c15
 clear c15
 replace H := xa H
 go_wp2
 go_meet
 case rel => exact ⟨_, ((a0 == 43)), xrr, H, ⟨xoj HJ1⟩, xdr⟩
 }
 obtain ⟨Aq, Ar⟩ := xqn c15
 refine xid H ?_ ?_ <;> clear H <;> intro c16 H
 {
 obtain ⟨As, At⟩ := xqe c16
 clear c16
 replace H := xa H
 go_wp2
 go_meet
 case rel => exact ⟨_, ((a0 == 44)), xrr, H, ⟨xoj HJ1⟩, xdr⟩
 }
 obtain ⟨As, At⟩ := xqn c16
 refine xid H ?_ ?_ <;> clear H <;> intro c17 H
 {
 obtain ⟨Au, Av⟩ := xqe c17
 clear c17
 replace H := xa H
 go_wp2
 go_meet
 case rel => exact ⟨_, ((a0 == 59)), xrr, H, ⟨xoj HJ1⟩, xdr⟩
 }
 obtain ⟨Au, Av⟩ := xqn c17
 replace H := xa H
 go_wp2
 go_meet
 case rel => exact ⟨_, ((a0 == 61)), xrr, H, ⟨xoj HJ1⟩, xdr⟩
 )
 case rest => (
 clear AR
 obtain ⟨kq, Ae, rfl, HA, HJ6, ⟨mc6, rfl⟩⟩ := hcut
 cases kq with
 | zero => exact absurd HA.out (by simp [ar])
 | succ kj6 => (
 have H := HA.out
 clear HA
 simp only [ar] at H
 refine xib H ?_ ?_ <;> clear H <;> rintro rfl H
 {
 obtain rfl := Option.some.inj H
 go_wp2
 go_ret
 exact ⟨xrr, xdr⟩
 }
 refine xid H ?_ ?_ <;> clear H <;> intro c19 H
 {
 obtain ⟨Aw, Ax⟩ := xqe c19
 clear c19
 obtain rfl := Option.some.inj H
 go_wp2
 go_ret
 exact ⟨xrr, xdr⟩
 }
 obtain ⟨Aw, Ax⟩ := xqn c19
 refine xid H ?_ ?_ <;> clear H <;> intro c20 H
 {
 obtain ⟨Ay, Az⟩ := xqe c20
 clear c20
 obtain rfl := Option.some.inj H
 go_wp2
 go_ret
 exact ⟨xrr, xdr⟩
 }
 obtain ⟨Ay, Az⟩ := xqn c20
 refine xid H ?_ ?_ <;> clear H <;> intro c21 H
 {
 obtain ⟨AA, AB⟩ := xqe c21
 clear c21
 obtain rfl := Option.some.inj H
 go_wp2
 go_ret
 exact ⟨xrr, xdr⟩
 }
 obtain ⟨AA, AB⟩ := xqn c21
 refine xid H ?_ ?_ <;> clear H <;> intro c22 H
 {
 obtain ⟨AC, AD⟩ := xqe c22
 clear c22
 obtain rfl := Option.some.inj H
 go_wp2
 go_ret
 exact ⟨xrr, xdr⟩
 }
 obtain ⟨AC, AD⟩ := xqn c22
 refine xid H ?_ ?_ <;> clear H <;> intro c23 H
 {
 obtain ⟨AE, AF⟩ := xqe c23
 clear c23
 obtain rfl := Option.some.inj H
 go_wp2
 go_ret
 exact ⟨xrr, xdr⟩
 }
 obtain ⟨AE, AF⟩ := xqn c23
 refine xid H ?_ ?_ <;> clear H <;> intro c24 H
 {
 obtain ⟨AG, AH⟩ := xqe c24
 clear c24
 obtain rfl := Option.some.inj H
 go_wp2
 go_ret
 exact ⟨xrr, xdr⟩
 }
 obtain ⟨AG, AH⟩ := xqn c24
 refine xid H ?_ ?_ <;> clear H <;> intro c25 H
 {
 obtain ⟨AI, AJ⟩ := xqe c25
 clear c25
 obtain rfl := Option.some.inj H
 go_wp2
 go_ret
 exact ⟨xrr, xdr⟩
 }
 obtain ⟨AI, AJ⟩ := xqn c25
 obtain rfl := Option.some.inj H
 go_wp2
 go_ret
 exact ⟨xrr, xdr⟩
 )
 )
 )
 )
mutual
def a7 : Nat → Int → Bool → Option (Int)
  | 0, _, _ => none
  | k + 1, x0, x3 => if x3 = true then (some 34) else (if x0 ≥ 97 then (a8 k x0 (decide (x0 ≤ 102))) else (a8 k x0 false))
def a8 : Nat → Int → Bool → Option (Int)
  | 0, _, _ => none
  | k + 1, x0, x10 => if x10 = true then (aU k x0 x10) else (if x0 ≥ 65 then (aU k x0 (decide (x0 ≤ 70))) else (aU k x0 false))
def aU : Nat → Int → Bool → Option (Int)
  | 0, _, _ => none
  | k + 1, x0, x10 => if x10 = true then (some 33) else (if x0 ≥ 103 then (ba k x0 (decide (x0 ≤ 122))) else (ba k x0 false))
def ba : Nat → Int → Bool → Option (Int)
  | 0, _, _ => none
  | k + 1, x0, x23 => if x23 = true then (some 1) else (if x0 ≥ 71 then (if x0 ≤ 90 then (some 1) else ((b7 k x0).bind fun t101 => (some t101))) else ((b7 k x0).bind fun t102 => (some t102)))
end
def cb (k : Nat) (a0 : Int) : Option (Int) := if a0 ≥ 48 then (a7 k a0 (decide (a0 ≤ 57))) else (a7 k a0 false)
theorem dN : ∀ k, (∀ y0 y1, LeO (a7 k y0 y1) (a7 (k + 1) y0 y1)) ∧ (∀ y0 y1, LeO (a8 k y0 y1) (a8 (k + 1) y0 y1)) ∧ (∀ y0 y1, LeO (aU k y0 y1) (aU (k + 1) y0 y1)) ∧ (∀ y0 y1, LeO (ba k y0 y1) (ba (k + 1) y0 y1))
  | 0 => ⟨fun _ _ r h => by simp [a7] at h, fun _ _ r h => by simp [a8] at h, fun _ _ r h => by simp [aU] at h, fun _ _ r h => by simp [ba] at h⟩
  | k + 1 => by
    obtain ⟨ih0, ih1, ih2, ih3⟩ := dN k
    have m0 := @ew
    refine ⟨?_, ?_, ?_, ?_⟩
    · intro y0 y1
      unfold a7
      exact xmo
    · intro y0 y1
      unfold a8
      exact xmo
    · intro y0 y1
      unfold aU
      exact xmo
    · intro y0 y1
      unfold ba
      exact xmo
theorem fH : ∀ a0 k, LeO (cb k a0) (cb (k + 1) a0) := by
  intro a0 k
  obtain ⟨ih0, ih1, ih2, ih3⟩ := dN k
  have m0 := @ew
  unfold cb
  exact xmo
theorem fw (k : Nat) (a0 : Int) (r : Int) (w : World) (h : cb k a0 = some r) :
    Calls Tryd.prog 71 #[.int .u8 a0] w fun e w' => e = .returned (.int .i64 r) ∧ Drawn0 w w' := by
 have H := h
 clear h
 unfold cb at H
 have Ao := Zz.mk H
 clear H
 go_enter Tryd.func71, Tryd.ntmps71
 go_upto_region 1 with (fail)
 go_cut [3] (fun v3 wc => ∃ kq Ah, v3 = .bool Ah ∧ Zz (a7 kq a0 Ah = some r) ∧ Zz (kq ≤ k) ∧ Drawn0 w wc)
 case first => (
 have H := Ao.out
 clear Ao
 refine xid H ?_ ?_ <;> clear H <;> intro c3 H
 {
 have Ac := xdt c3
 clear c3
 (first | rw [Ac] | (simp only [am, az]; rw [Ac]) | (rw [Ap]; (try simp only [Bool.not_false, Bool.not_true])) | (rw [Aq]; (try simp only [Bool.not_false, Bool.not_true])) | rw [Ar] | skip)
 replace H := xa H
 go_wp2
 go_meet
 case rel => exact ⟨_, (decide (a0 ≤ 57)), xrr, H, ⟨xom⟩, xdr⟩
 }
 have Ac := xdf c3
 clear c3
 (first | rw [Ac] | (simp only [am, az]; rw [Ac]) | (rw [Ap]; (try simp only [Bool.not_false, Bool.not_true])) | (rw [Aq]; (try simp only [Bool.not_false, Bool.not_true])) | rw [Ar] | skip)
 replace H := xa H
 go_wp2
 go_meet
 case rel => exact ⟨_, (false), xrr, H, ⟨xom⟩, xdr⟩
 )
 case rest => (
 clear Ao
 obtain ⟨kq, Ah, rfl, HA, HJ1, ⟨mc1, rfl⟩⟩ := hcut
 cases kq with
 | zero => exact absurd HA.out (by simp [a7])
 | succ kj1 => (
 have H := HA.out
 clear HA
 simp only [a7] at H
 refine xib H ?_ ?_ <;> clear H <;> rintro rfl H
 {
 obtain rfl := Option.some.inj H
 go_wp2
 go_ret
 exact ⟨xrr, xdr⟩
 }
 have As := Zz.mk H
 clear H
 go_upto_region 3 with (fail)
 go_cut [10] (fun v10 wc => ∃ kq Ad, v10 = .bool Ad ∧ Zz (a8 kq a0 Ad = some r) ∧ Zz (kq ≤ kj1) ∧ Drawn0 w wc)
 case first => (
 have H := As.out
 clear As
 refine xid H ?_ ?_ <;> clear H <;> intro c6 H
 {
 have Ae := xdt c6
 clear c6
 (first | rw [Ae] | (simp only [am, az]; rw [Ae]) | (rw [At]; (try simp only [Bool.not_false, Bool.not_true])) | (rw [Au]; (try simp only [Bool.not_false, Bool.not_true])) | rw [Av] | skip)
 replace H := xa H
 go_wp2
 go_meet
 case rel => exact ⟨_, (decide (a0 ≤ 102)), xrr, H, ⟨xoj HJ1⟩, xdr⟩
 }
 have Ae := xdf c6
 clear c6
 (first | rw [Ae] | (simp only [am, az]; rw [Ae]) | (rw [At]; (try simp only [Bool.not_false, Bool.not_true])) | (rw [Au]; (try simp only [Bool.not_false, Bool.not_true])) | rw [Av] | skip)
 replace H := xa H
 go_wp2
 go_meet
 case rel => exact ⟨_, (false), xrr, H, ⟨xoj HJ1⟩, xdr⟩
 )
 case rest => (
 clear As
 obtain ⟨kq, Ad, rfl, HA, HJ4, ⟨mc4, rfl⟩⟩ := hcut
 cases kq with
 | zero => exact absurd HA.out (by simp [a8])
 | succ kj4 => (
 have H := HA.out
 clear HA
 simp only [a8] at H
 have Aw := Zz.mk H
 clear H
 go_upto_if 10 with (fail)
 go_cut [10] (fun v10 wc => ∃ kq Af, v10 = .bool Af ∧ Zz (aU kq a0 Af = some r) ∧ Zz (kq ≤ kj4) ∧ Drawn0 w wc)
 case first => (
 have H := Aw.out
 clear Aw
 refine xib H ?_ ?_ <;> clear H <;> rintro rfl H
 {
 replace H := xa H
 go_wp2
 go_meet
 case rel => exact ⟨_, (true), xrr, H, ⟨xoJ HJ1 HJ4⟩, xdr⟩
 }
 refine xid H ?_ ?_ <;> clear H <;> intro c9 H
 {
 have Ag := xdt c9
 clear c9
 (first | rw [Ag] | (simp only [am, az]; rw [Ag]) | (rw [Ax]; (try simp only [Bool.not_false, Bool.not_true])) | (rw [Ay]; (try simp only [Bool.not_false, Bool.not_true])) | rw [Az] | skip)
 replace H := xa H
 go_wp2
 go_meet
 case rel => exact ⟨_, (decide (a0 ≤ 70)), xrr, H, ⟨xoJ HJ1 HJ4⟩, xdr⟩
 }
 have Ag := xdf c9
 clear c9
 (first | rw [Ag] | (simp only [am, az]; rw [Ag]) | (rw [Ax]; (try simp only [Bool.not_false, Bool.not_true])) | (rw [Ay]; (try simp only [Bool.not_false, Bool.not_true])) | rw [Az] | skip)
 replace H := xa H
 go_wp2
 go_meet
 case rel => exact ⟨_, (false), xrr, H, ⟨xoJ HJ1 HJ4⟩, xdr⟩
 )
 case rest => (
 clear Aw
 obtain ⟨kq, Af, rfl, HA, HJ6, ⟨mc6, rfl⟩⟩ := hcut
 cases kq with
 | zero => exact absurd HA.out (by simp [aU])
 | succ kj6 => (
 have H := HA.out
 clear HA
 simp only [aU] at H
 refine xib H ?_ ?_ <;> clear H <;> rintro rfl H
 {
 obtain rfl := Option.some.inj H
 go_wp2
 go_ret
 exact ⟨xrr, xdr⟩
 }
 have Ai := Zz.mk H
 clear H
 go_upto_region 6 with (fail)
 go_cut [23] (fun v23 wc => ∃ kq Ab, v23 = .bool Ab ∧ Zz (ba kq a0 Ab = some r) ∧ Zz (kq ≤ kj6) ∧ Drawn0 w wc)
 case first => (
 have H := Ai.out
 clear Ai
 refine xid H ?_ ?_ <;> clear H <;> intro c12 H
 {
 have Aa := xdt c12
 clear c12
 (first | rw [Aa] | (simp only [am, az]; rw [Aa]) | (rw [Aj]; (try simp only [Bool.not_false, Bool.not_true])) | (rw [Ak]; (try simp only [Bool.not_false, Bool.not_true])) | rw [Al] | skip)
 replace H := xa H
 go_wp2
 go_meet
 case rel => exact ⟨_, (decide (a0 ≤ 122)), xrr, H, ⟨by have := HJ1.out; have := HJ4.out; have := HJ6.out; first | omega | exact Nat.le_refl _⟩, xdr⟩
 }
 have Aa := xdf c12
 clear c12
 (first | rw [Aa] | (simp only [am, az]; rw [Aa]) | (rw [Aj]; (try simp only [Bool.not_false, Bool.not_true])) | (rw [Ak]; (try simp only [Bool.not_false, Bool.not_true])) | rw [Al] | skip)
 replace H := xa H
 go_wp2
 go_meet
 case rel => exact ⟨_, (false), xrr, H, ⟨by have := HJ1.out; have := HJ4.out; have := HJ6.out; first | omega | exact Nat.le_refl _⟩, xdr⟩
 )
 case rest => (
 clear Ai
 obtain ⟨kq, Ab, rfl, HA, HJ10, ⟨mc10, rfl⟩⟩ := hcut
 cases kq with
 | zero => exact absurd HA.out (by simp [ba])
 | succ kj10 => (
 have H := HA.out
 clear HA
 simp only [ba] at H
 refine xib H ?_ ?_ <;> clear H <;> rintro rfl H
 {
 obtain rfl := Option.some.inj H
 go_wp2
 go_ret
 exact ⟨xrr, xdr⟩
 }
 refine xid H ?_ ?_ <;> clear H <;> intro c14 H
 {
 have Am := xdt c14
 clear c14
 refine xid H ?_ ?_ <;> clear H <;> intro c15 H
 {
 have An := xdt c15
 clear c15
 obtain rfl := Option.some.inj H
 go_wp2
 go_ret
 exact ⟨xrr, xdr⟩
 }
 have An := xdf c15
 clear c15
 replace H := xbd H
 obtain ⟨AA, A16, H⟩ := H
 try dsimp only at H
 obtain rfl := Option.some.inj H
 go_wp2_with (first | ((with_reducible refine xgc (f := 85) rfl ?_); refine xca 37 Tryd.func85 (en (w := _) (h := A16.out)) ?_; rintro w' ⟨nd, rfl⟩))
 go_ret
 exact ⟨xrr, xdr⟩
 }
 have Am := xdf c14
 clear c14
 replace H := xbd H
 obtain ⟨AB, A17, H⟩ := H
 try dsimp only at H
 obtain rfl := Option.some.inj H
 go_wp2_with (first | ((with_reducible refine xgc (f := 85) rfl ?_); refine xca 37 Tryd.func85 (en (w := _) (h := A17.out)) ?_; rintro w' ⟨nd, rfl⟩))
 go_ret
 exact ⟨xrr, xdr⟩
 )
 )
 )
 )
 )
 )
 )
 )
def cg (k : Nat) (a0 : Int) (a1 : Int) : Option (Bool) := (cb k a0).bind fun t103 => (some ((Go.bits .and .i64 t103 a1) != 0))
theorem cv : ∀ a0 a1 k, LeO (cg k a0 a1) (cg (k + 1) a0 a1) := by
  intro a0 a1 k
  have m0 := @fH
  unfold cg
  exact xmo
theorem bp (k : Nat) (a0 : Int) (a1 : Int) (r : Bool) (w : World) (h : cg k a0 a1 = some r) :
    Calls Tryd.prog 47 #[.int .u8 a0, .int .i64 a1] w fun e w' => e = .returned (.bool r) ∧ Drawn0 w w' := by
 have H := h
 clear h
 unfold cg at H
 replace H := xbd H
 obtain ⟨t103, A3, H⟩ := H
 try dsimp only at H
 obtain rfl := Option.some.inj H
 go_enter Tryd.func47, Tryd.ntmps47
 go_wp2_with (first | ((with_reducible refine xgc (f := 71) rfl ?_); refine xca 6 Tryd.func71 (fw (w := _) (h := A3.out)) ?_; rintro w' ⟨nd, rfl⟩))
 go_ret
 exact ⟨xrr, xdr⟩
def eD (a0 : Int) : Option (Int) := if a0 ≥ 65 then (if a0 ≤ 90 then (some (Go.bits .or .u8 a0 32)) else (some a0)) else (some a0)
theorem fT (a0 : Int) (r : Int) (w : World) (h : eD a0 = some r) :
    Calls Tryd.prog 88 #[.int .u8 a0] w fun e w' => e = .returned (.int .u8 r) ∧ Drawn0 w w' := by
 have H := h
 clear h
 unfold eD at H
 refine xid H ?_ ?_ <;> clear H <;> intro c2 H
 {
 have c2b0 := xdt c2
 clear c2
 refine xid H ?_ ?_ <;> clear H <;> intro c3 H
 {
 have c3b0 := xdt c3
 clear c3
 obtain rfl := Option.some.inj H
 go_enter Tryd.func88, Tryd.ntmps88
 go_wp2
 go_ret
 exact ⟨xrr, xdr⟩
 }
 have c3b0 := xdf c3
 clear c3
 obtain rfl := Option.some.inj H
 go_enter Tryd.func88, Tryd.ntmps88
 go_wp2
 go_ret
 exact ⟨xrr, xdr⟩
 }
 have c2b0 := xdf c2
 clear c2
 obtain rfl := Option.some.inj H
 go_enter Tryd.func88, Tryd.ntmps88
 go_wp2
 go_ret
 exact ⟨xrr, xdr⟩
def bc : Nat → Int → Bool → Option (Int × Bool)
  | 0, _, _ => none
  | k + 1, x0, x4 => if x4 = true then (some ((x0 - 48) % 256, true)) else ((cg k x0 32).bind fun t104 => (if t104 = true then ((eD x0).bind fun t105 => (some (((t105 - 97) % 256) + 10, true))) else (some (0, false))))
def bV (k : Nat) (a0 : Int) : Option (Int × Bool) := if a0 ≥ 48 then (bc k a0 (decide (a0 ≤ 57))) else (bc k a0 false)
theorem dP : ∀ k, (∀ y0 y1, LeO (bc k y0 y1) (bc (k + 1) y0 y1))
  | 0 => fun _ _ r h => by simp [bc] at h
  | k + 1 => by
    have ih0 := dP k
    have m0 := @cv
    · intro y0 y1
      unfold bc
      exact xmo
theorem el : ∀ a0 k, LeO (bV k a0) (bV (k + 1) a0) := by
  intro a0 k
  have ih0 := dP k
  have m0 := @cv
  unfold bV
  exact xmo
theorem bE (k : Nat) (a0 : Int) (r1 : Int) (r2 : Bool) (w : World) (h : bV k a0 = some (r1, r2)) :
    Calls Tryd.prog 75 #[.int .u8 a0] w fun e w' => e = .returned (.tuple #[.int .i64 r1, .bool r2]) ∧ Drawn0 w w' := by
 have H := h
 clear h
 unfold bV at H
 have Ac := Zz.mk H
 clear H
 go_enter Tryd.func75, Tryd.ntmps75
 go_upto_region 1 with (fail)
 go_cut [4] (fun v4 wc => ∃ kq Ab, v4 = .bool Ab ∧ Zz (bc kq a0 Ab = some (r1, r2)) ∧ Zz (kq ≤ k) ∧ Drawn0 w wc)
 case first => (
 have H := Ac.out
 clear Ac
 refine xid H ?_ ?_ <;> clear H <;> intro c3 H
 {
 have Aa := xdt c3
 clear c3
 (first | rw [Aa] | (simp only [am, az]; rw [Aa]) | (rw [Ad]; (try simp only [Bool.not_false, Bool.not_true])) | (rw [Ae]; (try simp only [Bool.not_false, Bool.not_true])) | rw [Af] | skip)
 replace H := xa H
 go_wp2
 go_meet
 case rel => exact ⟨_, (decide (a0 ≤ 57)), xrr, H, ⟨xom⟩, xdr⟩
 }
 have Aa := xdf c3
 clear c3
 (first | rw [Aa] | (simp only [am, az]; rw [Aa]) | (rw [Ad]; (try simp only [Bool.not_false, Bool.not_true])) | (rw [Ae]; (try simp only [Bool.not_false, Bool.not_true])) | rw [Af] | skip)
 replace H := xa H
 go_wp2
 go_meet
 case rel => exact ⟨_, (false), xrr, H, ⟨xom⟩, xdr⟩
 )
 case rest => (
 clear Ac
 obtain ⟨kq, Ab, rfl, HA, HJ1, ⟨mc1, rfl⟩⟩ := hcut
 cases kq with
 | zero => exact absurd HA.out (by simp [bc])
 | succ kj1 => (
 have H := HA.out
 clear HA
 simp only [bc] at H
 refine xib H ?_ ?_ <;> clear H <;> rintro rfl H
 {
 simp only [Option.some.injEq, Prod.mk.injEq] at H
 obtain ⟨rfl, rfl⟩ := H
 go_wp2
 go_ret2
 exact ⟨xrr, xdr⟩
 }
 replace H := xbd H
 obtain ⟨Ag, A5, H⟩ := H
 try dsimp only at H
 refine xib H ?_ ?_ <;> clear H <;> rintro rfl H
 {
 replace H := xbd H
 obtain ⟨Ah, A7, H⟩ := H
 try dsimp only at H
 simp only [Option.some.injEq, Prod.mk.injEq] at H
 obtain ⟨rfl, rfl⟩ := H
 go_wp2_with (first | ((with_reducible refine xgc (f := 47) rfl ?_); refine xca 16 Tryd.func47 (bp (w := _) (h := A5.out)) ?_; rintro w' ⟨nd, rfl⟩) | ((with_reducible refine xgc (f := 88) rfl ?_); refine xca 18 Tryd.func88 (fT (w := _) (h := A7.out)) ?_; rintro w' ⟨nd, rfl⟩))
 go_ret2
 exact ⟨xrr, xdr⟩
 }
 simp only [Option.some.injEq, Prod.mk.injEq] at H
 obtain ⟨rfl, rfl⟩ := H
 go_wp2_with (first | ((with_reducible refine xgc (f := 47) rfl ?_); refine xca 16 Tryd.func47 (bp (w := _) (h := A5.out)) ?_; rintro w' ⟨nd, rfl⟩))
 go_ret2
 exact ⟨xrr, xdr⟩
 )
 )
def bg : Nat → ByteArray → Int → Bool → Option (Int × Bool)
  | 0, _, _, _ => none
  | k + 1, x0, x1, x24 => if x24 = true then (some (0, false)) else (if 0 ≤ (wrap64 (x1 + 1)) then (if (wrap64 (x1 + 1)) < (x0.size : Int) then ((bV k (bt x0 (wrap64 (x1 + 1)))).bind fun bt106 => (if 0 ≤ (wrap64 (x1 + 2)) then (if (wrap64 (x1 + 2)) < (x0.size : Int) then ((bV k (bt x0 (wrap64 (x1 + 2)))).bind fun bt108 => (if bt106.2 = true then (if bt108.2 = true then (some ((Go.bits .or .i64 (wrap64 (bt106.1 * 16)) bt108.1) % 256, true)) else (some (0, false))) else (some (0, false)))) else (none)) else (none))) else (none)) else (none))
def cj (k : Nat) (a0 : ByteArray) (a1 : Int) : Option (Int × Bool) := if a1 < 0 then (bg k a0 a1 true) else (if a1 > (wrap64 ((a0.size : Int) - 3)) then (bg k a0 a1 true) else (if 0 ≤ a1 then (if a1 < (a0.size : Int) then (bg k a0 a1 ((bt a0 a1) != 37)) else (none)) else (none)))
theorem ec : ∀ k, (∀ y0 y1 y2, LeO (bg k y0 y1 y2) (bg (k + 1) y0 y1 y2))
  | 0 => fun _ _ _ r h => by simp [bg] at h
  | k + 1 => by
    have ih0 := ec k
    have m0 := @el
    · intro y0 y1 y2
      unfold bg
      exact xmo
theorem dF : ∀ a0 a1 k, LeO (cj k a0 a1) (cj (k + 1) a0 a1) := by
  intro a0 a1 k
  have ih0 := ec k
  have m0 := @el
  unfold cj
  exact xmo
theorem bR (k : Nat) (a0 : ByteArray) (a1 : Int) (r1 : Int) (r2 : Bool) (w : World) (h : cj k a0 a1 = some (r1, r2)) :
    Calls Tryd.prog 56 #[.string a0, .int .i64 a1] w fun e w' => e = .returned (.tuple #[.int .u8 r1, .bool r2]) ∧ Drawn0 w w' := by
 have H := h
 clear h
 unfold cj at H
 have Ag := Zz.mk H
 clear H
 go_enter Tryd.func56, Tryd.ntmps56
 go_upto_region 1 with (fail)
 go_cut [24] (fun v24 wc => ∃ kq Ac, v24 = .bool Ac ∧ Zz (bg kq a0 a1 Ac = some (r1, r2)) ∧ Zz (kq ≤ k) ∧ Drawn0 w wc)
 case first => (
 have H := Ag.out
 clear Ag
 refine xid H ?_ ?_ <;> clear H <;> intro c4 H
 {
 have Ad := xdt c4
 clear c4
 (first | rw [Ad] | (simp only [am, az]; rw [Ad]) | (rw [Ah]; (try simp only [Bool.not_false, Bool.not_true])) | (rw [Ai]; (try simp only [Bool.not_false, Bool.not_true])) | rw [Aj] | skip)
 replace H := xa H
 go_wp2
 go_meet
 case rel => exact ⟨_, (true), xrr, H, ⟨xom⟩, xdr⟩
 }
 have Ad := xdf c4
 clear c4
 (first | rw [Ad] | (simp only [am, az]; rw [Ad]) | (rw [Ah]; (try simp only [Bool.not_false, Bool.not_true])) | (rw [Ai]; (try simp only [Bool.not_false, Bool.not_true])) | rw [Aj] | skip)
 refine xid H ?_ ?_ <;> clear H <;> intro c5 H
 {
 have Ak := xdt c5
 clear c5
 replace H := xa H
 go_wp2
 go_meet
 case rel => exact ⟨_, (true), xrr, H, ⟨xom⟩, xdr⟩
 }
 have Ak := xdf c5
 clear c5
 refine xin H ?_; clear H; intro c6 H
 have Ar := xdt c6
 clear c6
 refine xin H ?_; clear H; intro c7 H
 have As := xdt c7
 clear c7
 replace H := xa H
 obtain ⟨p8, q8, hx8⟩ := xiv a0 a1 xod xod
 go_wp2
 go_meet
 case rel => exact ⟨_, (((bt a0 a1) != 37)), xrr, H, ⟨xom⟩, xdr⟩
 )
 case rest => (
 clear Ag
 obtain ⟨kq, Ac, rfl, HA, HJ2, ⟨mc2, rfl⟩⟩ := hcut
 cases kq with
 | zero => exact absurd HA.out (by simp [bg])
 | succ kj2 => (
 have H := HA.out
 clear HA
 simp only [bg] at H
 refine xib H ?_ ?_ <;> clear H <;> rintro rfl H
 {
 simp only [Option.some.injEq, Prod.mk.injEq] at H
 obtain ⟨rfl, rfl⟩ := H
 go_wp2
 go_ret2
 exact ⟨xrr, xdr⟩
 }
 obtain ⟨Ae, Ab⟩ : ∃ j_ : Int, (wrap64 (a1 + 1)) = j_ := ⟨_, rfl⟩
 first | rw [Ab] at H | simp only [Ab] at H | skip
 have Al : (IntKind.i64.wrap (a1 + 1)) = Ae := (am _).trans Ab
 refine xin H ?_; clear H; intro c11 H
 have An := xdt c11
 clear c11
 refine xin H ?_; clear H; intro c12 H
 have Ao := xdt c12
 clear c12
 replace H := xbd H
 obtain ⟨⟨At, Au⟩, A14, H⟩ := H
 try dsimp only at H
 obtain ⟨Af, Aa⟩ : ∃ j_ : Int, (wrap64 (a1 + 2)) = j_ := ⟨_, rfl⟩
 first | rw [Aa] at H | simp only [Aa] at H | skip
 (try rw [Aa] at A14)
 have Am : (IntKind.i64.wrap (a1 + 2)) = Af := (am _).trans Aa
 refine xin H ?_; clear H; intro c16 H
 have Ap := xdt c16
 clear c16
 refine xin H ?_; clear H; intro c17 H
 have Aq := xdt c17
 clear c17
 replace H := xbd H
 obtain ⟨⟨Av, Aw⟩, A19, H⟩ := H
 try dsimp only at H
 refine xib H ?_ ?_ <;> clear H <;> rintro rfl H
 {
 refine xib H ?_ ?_ <;> clear H <;> rintro rfl H
 {
 simp only [Option.some.injEq, Prod.mk.injEq] at H
 obtain ⟨rfl, rfl⟩ := H
 obtain ⟨p13, q13, hx13⟩ := xiv a0 (Ae) xod xod
 go_wp2_with (first | ((with_reducible refine xgc (f := 75) rfl ?_); refine xca 30 Tryd.func75 (bE (w := _) (h := A14.out)) ?_ (hargs := by (try simp only [xm1, xm2, xm3]); first | done | (simp only [Ab]; rfl) | rfl); rintro w' ⟨nd, rfl⟩; obtain ⟨p18, q18, hx18⟩ := xiv a0 (Af) xod xod) | ((with_reducible refine xgc (f := 75) rfl ?_); refine xca 38 Tryd.func75 (bE (w := _) (h := A19.out)) ?_ (hargs := by (try simp only [xm1, xm2, xm3]); first | done | (simp only [Aa]; rfl) | rfl); rintro w' ⟨nd, rfl⟩))
 go_ret2
 exact ⟨by first | exact xrs | (simp only [← Ab, ← Aa] <;> (first | rfl | simp)) | exact xrr, xdr⟩
 }
 simp only [Option.some.injEq, Prod.mk.injEq] at H
 obtain ⟨rfl, rfl⟩ := H
 obtain ⟨p13, q13, hx13⟩ := xiv a0 (Ae) xod xod
 go_wp2_with (first | ((with_reducible refine xgc (f := 75) rfl ?_); refine xca 30 Tryd.func75 (bE (w := _) (h := A14.out)) ?_ (hargs := by (try simp only [xm1, xm2, xm3]); first | done | (simp only [Ab]; rfl) | rfl); rintro w' ⟨nd, rfl⟩; obtain ⟨p18, q18, hx18⟩ := xiv a0 (Af) xod xod) | ((with_reducible refine xgc (f := 75) rfl ?_); refine xca 38 Tryd.func75 (bE (w := _) (h := A19.out)) ?_ (hargs := by (try simp only [xm1, xm2, xm3]); first | done | (simp only [Aa]; rfl) | rfl); rintro w' ⟨nd, rfl⟩))
 go_ret2
 exact ⟨by first | exact xrs | (simp only [← Ab, ← Aa] <;> (first | rfl | simp)) | exact xrr, xdr⟩
 }
 simp only [Option.some.injEq, Prod.mk.injEq] at H
 obtain ⟨rfl, rfl⟩ := H
 obtain ⟨p13, q13, hx13⟩ := xiv a0 (Ae) xod xod
 go_wp2_with (first | ((with_reducible refine xgc (f := 75) rfl ?_); refine xca 30 Tryd.func75 (bE (w := _) (h := A14.out)) ?_ (hargs := by (try simp only [xm1, xm2, xm3]); first | done | (simp only [Ab]; rfl) | rfl); rintro w' ⟨nd, rfl⟩; obtain ⟨p18, q18, hx18⟩ := xiv a0 (Af) xod xod) | ((with_reducible refine xgc (f := 75) rfl ?_); refine xca 38 Tryd.func75 (bE (w := _) (h := A19.out)) ?_ (hargs := by (try simp only [xm1, xm2, xm3]); first | done | (simp only [Aa]; rfl) | rfl); rintro w' ⟨nd, rfl⟩))
 go_ret2
 exact ⟨by first | exact xrs | (simp only [← Ab, ← Aa] <;> (first | rfl | simp)) | exact xrr, xdr⟩
 )
 )
mutual
def bA : Nat → Int → Bool → Option (Int × Int × Int)
  | 0, _, _ => none
  | k + 1, x0, x8 => if x8 = true then (some (2, 128, 191)) else (if x0 = 224 then (some (3, 160, 191)) else (if x0 = 237 then (some (3, 128, 159)) else (if x0 ≥ 225 then (bC k x0 (decide (x0 ≤ 239))) else (bC k x0 false))))
def bC : Nat → Int → Bool → Option (Int × Int × Int)
  | 0, _, _ => none
  | k + 1, x0, x21 => if x21 = true then (some (3, 128, 191)) else (if x0 = 240 then (some (4, 144, 191)) else (if x0 = 244 then (some (4, 128, 143)) else (if x0 ≥ 241 then (if x0 ≤ 243 then (some (4, 128, 191)) else (some (0, 0, 0))) else (some (0, 0, 0)))))
end
def cC (k : Nat) (a0 : Int) : Option (Int × Int × Int) := if a0 < 128 then (some (1, 0, 0)) else (if a0 ≥ 194 then (bA k a0 (decide (a0 ≤ 223))) else (bA k a0 false))
theorem eq : ∀ k, (∀ y0 y1, LeO (bA k y0 y1) (bA (k + 1) y0 y1)) ∧ (∀ y0 y1, LeO (bC k y0 y1) (bC (k + 1) y0 y1))
  | 0 => ⟨fun _ _ r h => by simp [bA] at h, fun _ _ r h => by simp [bC] at h⟩
  | k + 1 => by
    obtain ⟨ih0, ih1⟩ := eq k
    refine ⟨?_, ?_⟩
    · intro y0 y1
      unfold bA
      exact xmo
    · intro y0 y1
      unfold bC
      exact xmo
theorem eR : ∀ a0 k, LeO (cC k a0) (cC (k + 1) a0) := by
  intro a0 k
  obtain ⟨ih0, ih1⟩ := eq k
  unfold cC
  exact xmo
theorem eB (k : Nat) (a0 : Int) (r1 : Int) (r2 : Int) (r3 : Int) (w : World) (h : cC k a0 = some (r1, r2, r3)) :
    Calls Tryd.prog 89 #[.int .u8 a0] w fun e w' => e = .returned (.tuple #[.int .i64 r1, .int .u8 r2, .int .u8 r3]) ∧ Drawn0 w w' := by
 have H := h
 clear h
 unfold cC at H
 refine xid H ?_ ?_ <;> clear H <;> intro c2 H
 {
 have Ae := xdt c2
 clear c2
 simp only [Option.some.injEq, Prod.mk.injEq] at H
 obtain ⟨rfl, rfl, rfl⟩ := H
 go_enter Tryd.func89, Tryd.ntmps89
 go_wp2
 go_ret3
 exact ⟨xrr, xdr⟩
 }
 have Ae := xdf c2
 clear c2
 have Ap := Zz.mk H
 clear H
 go_enter Tryd.func89, Tryd.ntmps89
 go_upto_region 3 with (fail)
 go_cut [8] (fun v8 wc => ∃ kq Ad, v8 = .bool Ad ∧ Zz (bA kq a0 Ad = some (r1, r2, r3)) ∧ Zz (kq ≤ k) ∧ Drawn0 w wc)
 case first => (
 have H := Ap.out
 clear Ap
 refine xid H ?_ ?_ <;> clear H <;> intro c4 H
 {
 have Aa := xdt c4
 clear c4
 (first | rw [Aa] | (simp only [am, az]; rw [Aa]) | (rw [Aq]; (try simp only [Bool.not_false, Bool.not_true])) | (rw [Ar]; (try simp only [Bool.not_false, Bool.not_true])) | rw [As] | skip)
 replace H := xa H
 go_wp2
 go_meet
 case rel => exact ⟨_, (decide (a0 ≤ 223)), xrr, H, ⟨xom⟩, xdr⟩
 }
 have Aa := xdf c4
 clear c4
 (first | rw [Aa] | (simp only [am, az]; rw [Aa]) | (rw [Aq]; (try simp only [Bool.not_false, Bool.not_true])) | (rw [Ar]; (try simp only [Bool.not_false, Bool.not_true])) | rw [As] | skip)
 replace H := xa H
 go_wp2
 go_meet
 case rel => exact ⟨_, (false), xrr, H, ⟨xom⟩, xdr⟩
 )
 case rest => (
 clear Ap
 clear Ae
 obtain ⟨kq, Ad, rfl, HA, HJ2, ⟨mc2, rfl⟩⟩ := hcut
 cases kq with
 | zero => exact absurd HA.out (by simp [bA])
 | succ kj2 => (
 have H := HA.out
 clear HA
 simp only [bA] at H
 refine xib H ?_ ?_ <;> clear H <;> rintro rfl H
 {
 simp only [Option.some.injEq, Prod.mk.injEq] at H
 obtain ⟨rfl, rfl, rfl⟩ := H
 go_wp2
 go_ret3
 exact ⟨xrr, xdr⟩
 }
 refine xid H ?_ ?_ <;> clear H <;> intro c6 H
 {
 obtain ⟨Af, Ag⟩ := xqe c6
 clear c6
 simp only [Option.some.injEq, Prod.mk.injEq] at H
 obtain ⟨rfl, rfl, rfl⟩ := H
 go_wp2
 go_ret3
 exact ⟨xrr, xdr⟩
 }
 obtain ⟨Af, Ag⟩ := xqn c6
 refine xid H ?_ ?_ <;> clear H <;> intro c7 H
 {
 obtain ⟨Ah, Ai⟩ := xqe c7
 clear c7
 simp only [Option.some.injEq, Prod.mk.injEq] at H
 obtain ⟨rfl, rfl, rfl⟩ := H
 go_wp2
 go_ret3
 exact ⟨xrr, xdr⟩
 }
 obtain ⟨Ah, Ai⟩ := xqn c7
 have At := Zz.mk H
 clear H
 go_upto_region 9 with (fail)
 go_cut [21] (fun v21 wc => ∃ kq Ab, v21 = .bool Ab ∧ Zz (bC kq a0 Ab = some (r1, r2, r3)) ∧ Zz (kq ≤ kj2) ∧ Drawn0 w wc)
 case first => (
 have H := At.out
 clear At
 refine xid H ?_ ?_ <;> clear H <;> intro c9 H
 {
 have Ac := xdt c9
 clear c9
 (first | rw [Ac] | (simp only [am, az]; rw [Ac]) | (rw [Au]; (try simp only [Bool.not_false, Bool.not_true])) | (rw [Av]; (try simp only [Bool.not_false, Bool.not_true])) | rw [Aw] | skip)
 replace H := xa H
 go_wp2
 go_meet
 case rel => exact ⟨_, (decide (a0 ≤ 239)), xrr, H, ⟨xoj HJ2⟩, xdr⟩
 }
 have Ac := xdf c9
 clear c9
 (first | rw [Ac] | (simp only [am, az]; rw [Ac]) | (rw [Au]; (try simp only [Bool.not_false, Bool.not_true])) | (rw [Av]; (try simp only [Bool.not_false, Bool.not_true])) | rw [Aw] | skip)
 replace H := xa H
 go_wp2
 go_meet
 case rel => exact ⟨_, (false), xrr, H, ⟨xoj HJ2⟩, xdr⟩
 )
 case rest => (
 clear At
 clear Af Ag Ah Ai
 obtain ⟨kq, Ab, rfl, HA, HJ7, ⟨mc7, rfl⟩⟩ := hcut
 cases kq with
 | zero => exact absurd HA.out (by simp [bC])
 | succ kj7 => (
 have H := HA.out
 clear HA
 simp only [bC] at H
 refine xib H ?_ ?_ <;> clear H <;> rintro rfl H
 {
 simp only [Option.some.injEq, Prod.mk.injEq] at H
 obtain ⟨rfl, rfl, rfl⟩ := H
 go_wp2
 go_ret3
 exact ⟨xrr, xdr⟩
 }
 refine xid H ?_ ?_ <;> clear H <;> intro c11 H
 {
 obtain ⟨Aj, Ak⟩ := xqe c11
 clear c11
 simp only [Option.some.injEq, Prod.mk.injEq] at H
 obtain ⟨rfl, rfl, rfl⟩ := H
 go_wp2
 go_ret3
 exact ⟨xrr, xdr⟩
 }
 obtain ⟨Aj, Ak⟩ := xqn c11
 refine xid H ?_ ?_ <;> clear H <;> intro c12 H
 {
 obtain ⟨Al, Am⟩ := xqe c12
 clear c12
 simp only [Option.some.injEq, Prod.mk.injEq] at H
 obtain ⟨rfl, rfl, rfl⟩ := H
 go_wp2
 go_ret3
 exact ⟨xrr, xdr⟩
 }
 obtain ⟨Al, Am⟩ := xqn c12
 refine xid H ?_ ?_ <;> clear H <;> intro c13 H
 {
 have An := xdt c13
 clear c13
 refine xid H ?_ ?_ <;> clear H <;> intro c14 H
 {
 have Ao := xdt c14
 clear c14
 simp only [Option.some.injEq, Prod.mk.injEq] at H
 obtain ⟨rfl, rfl, rfl⟩ := H
 go_wp2
 go_ret3
 exact ⟨xrr, xdr⟩
 }
 have Ao := xdf c14
 clear c14
 simp only [Option.some.injEq, Prod.mk.injEq] at H
 obtain ⟨rfl, rfl, rfl⟩ := H
 go_wp2
 go_ret3
 exact ⟨xrr, xdr⟩
 }
 have An := xdf c13
 clear c13
 simp only [Option.some.injEq, Prod.mk.injEq] at H
 obtain ⟨rfl, rfl, rfl⟩ := H
 go_wp2
 go_ret3
 exact ⟨xrr, xdr⟩
 )
 )
 )
 )
def bz : Nat → ByteArray → Int → Int → Int → Int → Option (Int × Int)
  | 0, _, _, _, _, _ => none
  | k + 1, x0, x4, x5, x6, x7 => if x7 < x4 then (if x7 < (x0.size : Int) then (if 0 ≤ x7 then (if (bt x0 x7) ≥ x5 then (if (bt x0 x7) ≤ x6 then (bz k x0 x4 128 191 (wrap64 (x7 + 1))) else (some (x7, x4))) else (some (x7, x4))) else (none)) else (some (x7, x4))) else (some (x7, x4))
def cB (k : Nat) (a0 : ByteArray) : Option (Int × Int) := if (a0.size : Int) = 0 then (some (0, 0)) else (if 0 < (a0.size : Int) then ((cC k (bt a0 0)).bind fun bt110 => (if bt110.1 = 0 then (some (1, 0)) else (bz k a0 bt110.1 bt110.2.1 bt110.2.2 1))) else (none))
theorem ep : ∀ k, (∀ y0 y1 y2 y3 y4, LeO (bz k y0 y1 y2 y3 y4) (bz (k + 1) y0 y1 y2 y3 y4))
  | 0 => fun _ _ _ _ _ r h => by simp [bz] at h
  | k + 1 => by
    have ih0 := ep k
    have m0 := @eR
    · intro y0 y1 y2 y3 y4
      unfold bz
      exact xmo
theorem eQ : ∀ a0 k, LeO (cB k a0) (cB (k + 1) a0) := by
  intro a0 k
  have ih0 := ep k
  have m0 := @eR
  unfold cB
  exact xmo
theorem dA (k : Nat) (a0 : ByteArray) (r1 : Int) (r2 : Int) (w : World) (h : cB k a0 = some (r1, r2)) :
    Calls Tryd.prog 76 #[.string a0] w fun e w' => e = .returned (.tuple #[.int .i64 r1, .int .i64 r2]) ∧ Drawn0 w w' := by
 have H := h
 clear h
 unfold cB at H
 refine xid H ?_ ?_ <;> clear H <;> intro c2 H
 {
 obtain ⟨Ad, Ae⟩ := xqe c2
 clear c2
 simp only [Option.some.injEq, Prod.mk.injEq] at H
 obtain ⟨rfl, rfl⟩ := H
 go_enter Tryd.func76, Tryd.ntmps76
 go_wp2
 go_ret2
 exact ⟨xrr, xdr⟩
 }
 obtain ⟨Ad, Ae⟩ := xqn c2
 refine xin H ?_; clear H; intro c3 H
 have Aj := xdt c3
 have Ak : decide (0 < a0.size) = true := decide_eq_true (by omega)
 clear c3
 replace H := xbd H
 obtain ⟨⟨Al, Am, An⟩, A5, H⟩ := H
 try dsimp only at H
 refine xid H ?_ ?_ <;> clear H <;> intro c6 H
 {
 obtain ⟨Af, Ag⟩ := xqe c6
 clear c6
 simp only [Option.some.injEq, Prod.mk.injEq] at H
 obtain ⟨rfl, rfl⟩ := H
 obtain ⟨q4, Aq, hx4⟩ := xi0 a0 xod
 go_enter Tryd.func76, Tryd.ntmps76
 go_wp2_with (first | ((with_reducible refine xgc (f := 89) rfl ?_); refine xca 14 Tryd.func89 (eB (w := _) (h := A5.out)) ?_; rintro w' ⟨nd, rfl⟩))
 go_ret2
 exact ⟨xrr, xdr⟩
 }
 obtain ⟨Af, Ag⟩ := xqn c6
 have H' := Zz.mk H
 clear H
 obtain ⟨q4, Aq, hx4⟩ := xi0 a0 xod
 go_enter Tryd.func76, Tryd.ntmps76
 go_wp2_with (first | ((with_reducible refine xgc (f := 89) rfl ?_); refine xca 14 Tryd.func89 (eB (w := _) (h := A5.out)) ?_; rintro w' ⟨nd, rfl⟩))
 go_loopg [5, 6, 7] k (fun kq v5 v6 v7 w' => ∃ Ab Ac Aa, v5 = .int .u8 Ab ∧ v6 = .int .u8 Ac ∧ v7 = .int .i64 Aa ∧ Zz (bz kq a0 Al Ab Ac Aa = some (r1, r2)) ∧ Zz (kq ≤ k) ∧ Drawn0 w w')
 case atStart => exact ⟨(Am), (An), (1), xrr, xrr, xrr, H', ⟨Nat.le_refl _⟩, xdr⟩
 case round => (
 clear H'
 clear Ad Ae Aj Ak q4 hx4 Aq Af Ag
 obtain ⟨Ab, Ac, Aa, rfl, rfl, rfl, HA, HK1, ⟨m1, rfl⟩⟩ := hrel
 cases gk with
 | zero => exact absurd HA.out (by simp [bz])
 | succ k1 => (
 have H := HA.out
 clear HA
 simp only [bz] at H
 refine xid H ?_ ?_ <;> clear H <;> intro c7 H
 {
 have Ao := xdt c7
 clear c7
 refine xid H ?_ ?_ <;> clear H <;> intro c8 H
 {
 have Ap := xdt c8
 clear c8
 refine xin H ?_; clear H; intro c9 H
 have Ar := xdt c9
 clear c9
 refine xid H ?_ ?_ <;> clear H <;> intro c11 H
 {
 have Ah := xdt c11
 clear c11
 refine xid H ?_ ?_ <;> clear H <;> intro c13 H
 {
 have Ai := xdt c13
 clear c13
 replace H := xa H
 obtain ⟨p10, q10, hx10⟩ := xiv a0 Aa xod xod
 obtain ⟨p12, q12, hx12⟩ := xiv a0 Aa xod xod
 go_wp2
 go_roundg k1
 case measure => have := HK1.out; omega
 case rel => exact ⟨(128), (191), (wrap64 (Aa + 1)), xrr, xrr, xrr, H, ⟨by have := HK1.out; omega⟩, xdr⟩
 }
 have Ai := xdf c13
 clear c13
 simp only [Option.some.injEq, Prod.mk.injEq] at H
 obtain ⟨rfl, rfl⟩ := H
 obtain ⟨p10, q10, hx10⟩ := xiv a0 Aa xod xod
 obtain ⟨p12, q12, hx12⟩ := xiv a0 Aa xod xod
 go_wp2
 go_ret2
 exact ⟨xrr, xdr⟩
 }
 have Ah := xdf c11
 clear c11
 simp only [Option.some.injEq, Prod.mk.injEq] at H
 obtain ⟨rfl, rfl⟩ := H
 obtain ⟨p10, q10, hx10⟩ := xiv a0 Aa xod xod
 go_wp2
 go_ret2
 exact ⟨xrr, xdr⟩
 }
 have Ap := xdf c8
 clear c8
 simp only [Option.some.injEq, Prod.mk.injEq] at H
 obtain ⟨rfl, rfl⟩ := H
 go_wp2
 go_ret2
 exact ⟨xrr, xdr⟩
 }
 have Ao := xdf c7
 clear c7
 simp only [Option.some.injEq, Prod.mk.injEq] at H
 obtain ⟨rfl, rfl⟩ := H
 go_wp2
 go_ret2
 exact ⟨xrr, xdr⟩
 )
 )
end Go.Proofs.YtmofhijbheimmaaDoor.X
