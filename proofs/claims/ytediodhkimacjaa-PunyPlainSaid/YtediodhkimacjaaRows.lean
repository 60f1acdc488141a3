/-
  No cell of these rows narrows 'for every input' (looked for: loops, veiled, ifaces, maps, wideKeys, modest, calm, conditions, laid).
  DERIVED. THE GIVEN ROWS OF THIS SEAT. 3 by the template 'for every input the law returns true; each argument reads behind the call as it read before'; 0 by the template 'total and deterministic' (their statements: YtediodhkimacjaaTotals.lean).
  GIVEN WITH THE SEED: the statements are not yours to turn. If you find one false, say at which input.
  Laid BY PROGRAM, IN A SANDBOX (cutbox-rows.mjs): the forced cells as the released guide's own fill.sh prints them over the translation 259f123721303236… (all of the seat's roots in one cut). By AI agents, Wed Nov 11 2026. No macro, syntax, notation, axiom, sorry.
-/
import Derived.Test.YtediodhkimacjaaChecked
import GoSem.Claim
import GoSem.ClaimJoined
import GoSem.ClaimMapViews
import Derived.JoinedTies
import Derived.KernelRfl
namespace Go.Proofs.Ytediodhkimacjaa
/- THE CELL 'sum', in the pinned program and in every row, IS THE sha256 OF THE DUMP (.gsa) THAT YtediodhkimacjaaProg.lean LOADS. Nothing in Lean hashes anything: it is a label: what it is worth is what the hold of that sum in a sandbox is worth. -/
noncomputable def Try.pinned : Pinned := { name := "ytediodhkimacjaa", sum := "259f1237213032365171a31050612155193ff019e390211c40e5e936f09d9322", checked := Try.checked }
namespace Rows
def none {H : Type} : Left H := { results := [], args := [] }

/-- 'monikerlaw11.PunyDecodes': WHATEVER THE INPUT: true; the input reads as it did. -/
def punyDecodesSpec : ChangeSpec := { name := "punyDecodes", fn := fun _ => fun
  | [d] => { results := [.lit (.bool true)], args := [d] }
  | _ => none }
def punyDecodesRow : OpenClaim := { program := "ytediodhkimacjaa", sum := "259f1237213032365171a31050612155193ff019e390211c40e5e936f09d9322", func := "moniker/monikerlaw11.PunyDecodes", spec := "punyDecodes", inPlace := ["slices.overlaps[rune]"], apart := false }
def PunyDecodesSaid : Prop := punyDecodesRow.holds Try.pinned (OpenSpec.ofChange punyDecodesSpec)

/-- ITS FALSE NEIGHBOUR: 'it returns false'. Refute it at one input. -/
def punyDecodesWrong : ChangeSpec := { name := "punyDecodes", fn := fun _ => fun
  | [d] => { results := [.lit (.bool false)], args := [d] }
  | _ => none }
def PunyDecodesWrongFalsely : Prop := punyDecodesRow.holds Try.pinned (OpenSpec.ofChange punyDecodesWrong)

/-- 'monikerlaw11.PunyDigits': WHATEVER THE INPUT: true; the input reads as it did. -/
def punyDigitsSpec : ChangeSpec := { name := "punyDigits", fn := fun _ => fun
  | [d1, d2, d3, d4, d5, d6, d7] => { results := [.lit (.bool true)], args := [d1, d2, d3, d4, d5, d6, d7] }
  | _ => none }
def punyDigitsRow : OpenClaim := { program := "ytediodhkimacjaa", sum := "259f1237213032365171a31050612155193ff019e390211c40e5e936f09d9322", func := "moniker/monikerlaw11.PunyDigits", spec := "punyDigits", inPlace := ["slices.overlaps[rune]"], apart := false }
def PunyDigitsSaid : Prop := punyDigitsRow.holds Try.pinned (OpenSpec.ofChange punyDigitsSpec)

/-- ITS FALSE NEIGHBOUR: 'it returns false'. Refute it at one input. -/
def punyDigitsWrong : ChangeSpec := { name := "punyDigits", fn := fun _ => fun
  | [d1, d2, d3, d4, d5, d6, d7] => { results := [.lit (.bool false)], args := [d1, d2, d3, d4, d5, d6, d7] }
  | _ => none }
def PunyDigitsWrongFalsely : Prop := punyDigitsRow.holds Try.pinned (OpenSpec.ofChange punyDigitsWrong)

/-- 'monikerlaw11.PunyPlain': WHATEVER THE INPUT: true; the input reads as it did. -/
def punyPlainSpec : ChangeSpec := { name := "punyPlain", fn := fun _ => fun
  | [d] => { results := [.lit (.bool true)], args := [d] }
  | _ => none }
def punyPlainRow : OpenClaim := { program := "ytediodhkimacjaa", sum := "259f1237213032365171a31050612155193ff019e390211c40e5e936f09d9322", func := "moniker/monikerlaw11.PunyPlain", spec := "punyPlain", inPlace := ["slices.overlaps[rune]"], apart := false }
def PunyPlainSaid : Prop := punyPlainRow.holds Try.pinned (OpenSpec.ofChange punyPlainSpec)

/-- ITS FALSE NEIGHBOUR: 'it returns false'. Refute it at one input. -/
def punyPlainWrong : ChangeSpec := { name := "punyPlain", fn := fun _ => fun
  | [d] => { results := [.lit (.bool false)], args := [d] }
  | _ => none }
def PunyPlainWrongFalsely : Prop := punyPlainRow.holds Try.pinned (OpenSpec.ofChange punyPlainWrong)

/- THE SECOND FORM. 'bulk': how many values and letters a reading holds, each counted each time it is reached (what is shared counts as often as it is met; a slice's spare places count too). A statement '..UptoSaid' is the law's where the arguments, and the package variables that the reading takes, are together of bulk at most 1048576: NARROWER than '..Said'. Prove '..Said' where nothing that the law and all that it calls make is longer than what came in: it says more and counts as full. Else prove '..UptoSaid'. A law counts once. -/
mutual
def uptoBulk {H : Type} : DataW H → Nat
  | .lit (.string bytes) => bytes.length + 1
  | .lit _ => 1
  | .nil => 1
  | .ptr d => uptoBulk d + 1
  | .slice elems spare => uptoBulkAll elems + uptoBulkAll spare + 1
  | .agg parts => uptoBulkAll parts + 1
  | .iface _ d => uptoBulk d + 1
  | .map entries => uptoBulkEntries entries + 1
  | .held _ => 1
def uptoBulkAll {H : Type} : List (DataW H) → Nat
  | [] => 0
  | d :: r => uptoBulk d + uptoBulkAll r
def uptoBulkEntries {H : Type} : List (Lit × DataW H) → Nat
  | [] => 0
  | x :: r => uptoBulkEntry x + uptoBulkEntries r
def uptoBulkEntry {H : Type} : Lit × DataW H → Nat
  | (.string bytes, d) => bytes.length + uptoBulk d + 1
  | (_, d) => uptoBulk d + 1
 end
def uptoSmall : (H : Type) → List (DataW H) → Bool := fun _ ds => decide (uptoBulkAll ds ≤ 1048576)
def OpenSpec.upto (s : _root_.Go.ChangeSpec) : _root_.Go.OpenSpec := { _root_.Go.OpenSpec.ofChange s with cond := some uptoSmall }

/-- 'monikerlaw11.PunyDecodes', WHERE WHAT IT READS IS OF BULK AT MOST 1048576: true; the input reads as it did. -/
def punyDecodesUptoRow : OpenClaim := { program := "ytediodhkimacjaa", sum := "259f1237213032365171a31050612155193ff019e390211c40e5e936f09d9322", func := "moniker/monikerlaw11.PunyDecodes", spec := "punyDecodes", inPlace := ["slices.overlaps[rune]"], apart := false, narrowed := true }
def PunyDecodesUptoSaid : Prop := punyDecodesUptoRow.holds Try.pinned (OpenSpec.upto punyDecodesSpec)

/-- 'monikerlaw11.PunyDigits', WHERE WHAT IT READS IS OF BULK AT MOST 1048576: true; the input reads as it did. -/
def punyDigitsUptoRow : OpenClaim := { program := "ytediodhkimacjaa", sum := "259f1237213032365171a31050612155193ff019e390211c40e5e936f09d9322", func := "moniker/monikerlaw11.PunyDigits", spec := "punyDigits", inPlace := ["slices.overlaps[rune]"], apart := false, narrowed := true }
def PunyDigitsUptoSaid : Prop := punyDigitsUptoRow.holds Try.pinned (OpenSpec.upto punyDigitsSpec)

/-- 'monikerlaw11.PunyPlain', WHERE WHAT IT READS IS OF BULK AT MOST 1048576: true; the input reads as it did. -/
def punyPlainUptoRow : OpenClaim := { program := "ytediodhkimacjaa", sum := "259f1237213032365171a31050612155193ff019e390211c40e5e936f09d9322", func := "moniker/monikerlaw11.PunyPlain", spec := "punyPlain", inPlace := ["slices.overlaps[rune]"], apart := false, narrowed := true }
def PunyPlainUptoSaid : Prop := punyPlainUptoRow.holds Try.pinned (OpenSpec.upto punyPlainSpec)

end Rows
end Go.Proofs.Ytediodhkimacjaa
