/- Texts that the law's proof needs, joined by a program of this session. -/
import Derived.Test.YtpmflpeckoeooaaGreatDoorZSyntaxKinds0
import Derived.Laws.StructEq
import Derived.WalkKit
import Derived.Lib.AppendStr
import Derived.Laws.Tables
import Derived.Laws.CopyOwn
import Derived.WalkMore
import Derived.ScopeJumps
import Derived.Shelf.Small.Utf8
import Derived.Shelf.Small.Strs
import Derived.Shelf.Small.Wraps
import Derived.Shelf.Utf8.RuneCount
import Derived.Shelf.Strings.Search1
import Derived.Shelf.Strings.Search2
import Derived.Shelf.Strings.Search3
import Derived.Shelf.Strings.Cut
import Derived.Shelf.Strings.Count
import Derived.Shelf.LaysM
import Derived.Shelf.Strings.Shaped
import Derived.Shelf.Strings.LastIndex
import Derived.Shelf.Strings.Prefix
import Derived.Shelf.Strings.Split
import Derived.Shelf.Strings.SplitShaped
import Derived.Shelf.Unicode.Decode
import Derived.Shelf.Strings.Runes
import Derived.Shelf.Strings.RuneCount
import Derived.Shelf.Strings.IndexAny
import Derived.Shelf.Strings.AsciiSet
import Derived.Shelf.Strings.IndexAnyAll
import Derived.Shelf.Strings.Explode
import Derived.Shelf.Unicode.DecodeSlow
import Derived.Shelf.Unicode.DecodeAny
import Derived.Ground.PaProg
import Derived.Shelf.Path.Small
import Derived.Test.YtpmflpeckoeooaaGreatDoorProg
import Derived.Below
import Derived.Deep.Draws
import Derived.Deep.AppendLies
import Derived.Maps.AppendAt
import Derived.OwnWalk
import Derived.Laws.BytesArg
import Derived.Laws.MakeOwn
import Derived.Laws.OwnMore
import Derived.Deep.OwnRows
import Derived.Tactics
import Derived.Lib.ConvBytes
import Derived.Laws.Slices
import Derived.KernelRfl
import Derived.RowKit3
import Derived.Deep.LoopGhost
import Derived.Deep.QuietTactic
import Derived.BigQuiet
import Derived.WideLaws
import Derived.Deep.DeepCutAuto
import Derived.Deep.CutBlock
import Derived.Deep.RegionHeld3
import Derived.Laws.Rows
import Derived.ArgAppend
import Derived.Laws.IdiomCopy
import Derived.OrdersHeld
import Derived.Laws.BitsLemmas
import Derived.RowKit
import Derived.ChangeKeysEq
import Derived.Deep.RegionWith
import Derived.Laws.CopyRow
import Derived.Laws.Externs
import Derived.Laws.IdiomStrings
import Derived.Laws.NewBlocks
import Derived.Laws.RangeAny
import Derived.Lib.AppendIntMem
import Derived.Lib.Bytealg
import Derived.Lib.Index
import Derived.Lib.OthersKept
import Derived.Lib.SlBuf
import Derived.Lib.Split
import Derived.Lib.SplitLaws
set_option maxHeartbeats 8000000
set_option maxRecDepth 100000
set_option linter.unusedSimpArgs false
set_option linter.unusedVariables false
namespace Go.Proofs.YtpmflpeckoeooaaGreatDoorW.PrintWords
open Go.RowKit
namespace Kd
structure Heap {α : Type} (d : Kd α) : Prop where
  K : ∀ {w w1 : World} {x : α} {cs : List Value}, (∀ k, k < w.heap.size → w1.heap[k]? = w.heap[k]?) → d.K w x cs → d.K w1 x cs
theorem uN {w w1 : World} (hb : ∀ k, k < w.heap.size → w1.heap[k]? = w.heap[k]?) {a : Addr} {v : Value} (h : w.cell? a = some v) : w1.cell? a = some v := by
  have := hb a.block (World.block_lt_of_cell? w a h)
  simpa [World.cell?, this] using h
theorem Heap.C {α : Type} {d : Kd α} (hd : Heap d) {w w1 : World} {A : Option Addr} {n : Nat} {xs : List α} (hb : ∀ k, k < w.heap.size → w1.heap[k]? = w.heap[k]?) (h : d.C w A n xs) : d.C w1 A n xs :=
  ⟨h.1, h.2.1, fun hn => by
    obtain ⟨ad, e, hc⟩ := h.2.2 hn
    refine ⟨ad, e, fun j p hj => ?_⟩
    obtain ⟨c, hs, hr, hcell⟩ := hc j p hj
    exact ⟨c, hs, hd.K hb hr, fun i u hu => uN hb (hcell i u hu)⟩⟩
end Kd
end Go.Proofs.YtpmflpeckoeooaaGreatDoorW.PrintWords
namespace Go.Proofs.YtpmflpeckoeooaaGreatDoorW.PrintWords
open Go.RowKit
def Kept (w W : World) (S : Nat → Prop) : Prop := w.heap.size ≤ W.heap.size ∧ ∀ i, i < w.heap.size → ¬ S i → W.heap[i]? = w.heap[i]?
section
variable {w W W2 : World} {S S2 S' : Nat → Prop}
theorem Kept.refl (w : World) (S : Nat → Prop) : Kept w w S := ⟨Nat.le_refl _, fun _ _ _ => rfl⟩
theorem Kept.of_below (h : Below w.heap.size w W) (S : Nat → Prop) : Kept w W S := ⟨h.size, fun i hi _ => h.block i hi⟩
theorem Kept.mono (h : Kept w W S) (hs : ∀ k, S k → S' k) : Kept w W S' := ⟨h.1, fun i hi hn => h.2 i hi (fun hk => hn (hs i hk))⟩
theorem Kept.then_ (h : Kept w W S) (k : Kept W W2 S2) (hs : ∀ k, S2 k → S k ∨ w.heap.size ≤ k) : Kept w W2 S :=
  ⟨Nat.le_trans h.1 k.1, fun i hi hn => (k.2 i (Nat.lt_of_lt_of_le hi h.1) (fun h2 => (hs i h2).elim hn (fun h3 => by omega))).trans (h.2 i hi hn)⟩
theorem Kept.of_grown {row : Option Nat} (hg : W.grownBy W2 row) (h : Kept w W S) (hr : ∀ k, row = some k → S k ∨ w.heap.size ≤ k) : Kept w W2 S :=
  h.then_ (S2 := fun k => row = some k) ⟨hg.size, fun i hi hn => hg.block i hi (fun he => hn he.symm)⟩ hr
theorem Kept.below (h : Kept w W S) (hb : Below W.heap.size W W2) : Kept w W2 S := h.then_ (Kept.of_below hb (fun _ => False)) (fun _ hk => hk.elim)
theorem Kept.alloc (h : Kept w W S) (o : Obj) : Kept w (W.alloc o) S := h.below (d5 (Below.refl _ _) o)
theorem Kept.drew (h : Kept w W S) : Kept w W.drew S := h
theorem Kept.drewN (h : Kept w W S) (m : Nat) : Kept w (W.drewN m) S := h
theorem Kept.setCell (h : Kept w W S) {p : Addr} (hp : S p.block ∨ w.heap.size ≤ p.block) (u : Value) : Kept w (W.setCell p u) S :=
  h.then_ (S2 := fun k => k = p.block) ⟨by simp [World.setCell], fun i _ hn => Below.heap_setCell W p u i hn⟩ (fun k hk => by rw [hk]; exact hp)
theorem wb {g : Nat} {o : Obj} (hb : W.heap[g]? = some o) (hk : Kept W W2 S) (hne : ¬ S g) : W2.heap[g]? = some o := (hk.2 g (kg hb) hne).trans hb
end
namespace Kd
end Kd
end Go.Proofs.YtpmflpeckoeooaaGreatDoorW.PrintWords
namespace Go.Proofs.YtpmflpeckoeooaaGreatDoorW.PrintWords
open Go.RowKit
def Foot (P : World → Prop) (W : World) (ok : Nat → Prop) : Prop := ∀ W' : World, (∀ k, ok k → k < W.heap.size → W'.heap[k]? = W.heap[k]?) → P W'
theorem xI {W W1 : World} {k : Nat} (h : W1.heap[k]? = W.heap[k]?) (hlt : k < W.heap.size) : k < W1.heap.size := by
  rw [Array.getElem?_eq_getElem hlt] at h
  exact (Array.getElem?_eq_some_iff.1 h).1
namespace Foot
variable {P Q : World → Prop} {W W1 : World} {ok ok' : Nat → Prop}
theorem now (h : Foot P W ok) : P W := h W (fun _ _ _ => rfl)
theorem mono (h : Foot P W ok) (hok : ∀ k, ok k → ok' k) : Foot P W ok' := fun W' hW => h W' (fun k hk hlt => hW k (hok k hk) hlt)
theorem bound (h : Foot P W ok) : Foot P W (fun k => ok k ∧ k < W.heap.size) := fun W' hW => h W' (fun k hk hlt => hW k ⟨hk, hlt⟩ hlt)
theorem step (h : Foot P W ok) (hm : ∀ k, ok k → k < W.heap.size → W1.heap[k]? = W.heap[k]?) : Foot P W1 ok := fun W' hW => h W' (fun k hk hlt => (hW k hk (xI (hm k hk hlt) hlt)).trans (hm k hk hlt))
theorem old (h : Foot P W ok) (hb : Below W.heap.size W W1) : Foot P W1 (fun k => ok k ∧ k < W.heap.size) := (h.bound).step (fun k _ hlt => hb.block k hlt)
end Foot
namespace Kd
def F {α : Type} (d : Kd α) (W : World) (ok : Nat → Prop) (A : Option Addr) (n : Nat) (xs : List α) : Prop := Foot (fun W => d.C W A n xs) W ok
def FK {α : Type} (d : Kd α) (W : World) (ok : Nat → Prop) (x : α) (c : List Value) : Prop := Foot (fun W => d.K W x c) W ok
section
variable {α β : Type} {d : Kd α} {e base n n' cc g N : Nat} {ok ok' okp S : Nat → Prop} {w w0 w1 W W1 : World} {A A' : Option Addr} {u v v1 : Value} {xs : List α} {xs' : List β} {d' : Kd β} {x : α} {c : List Value}
theorem yK (d : Kd α) (W : World) (ok : Nat → Prop) : F d W ok none ([] : List α).length [] := fun W' _ => yJ d W'
theorem xo (h : d.M W base ok x c) : FK d W ok x c := fun _ hW => d.K_of_M (uD h hW)
end
end Kd
end Go.Proofs.YtpmflpeckoeooaaGreatDoorW.PrintWords
namespace Go.Proofs.YtpmflpeckoeooaaGreatDoorW.PrintWords
open Go.RowKit
namespace Kd
def lK (sz : Nat) (n : Nat) (inner : List Value) : List (List Value) := (List.range n).map fun j => (inner.drop (j * sz)).take sz
theorem iX (sz n : Nat) (inner : List Value) : (lK sz n inner).length = n := by simp [lK]
theorem uO {sz n : Nat} {inner : List Value} {j : Nat} (hj : j < n) : (lK sz n inner)[j]? = some ((inner.drop (j * sz)).take sz) := by simp [lK, hj]
theorem o3 {sz n : Nat} {inner : List Value} {j : Nat} {c : List Value} (h : (lK sz n inner)[j]? = some c) : c = (inner.drop (j * sz)).take sz := by
  have hj : j < n := by have := (List.getElem?_eq_some_iff.1 h).1; rwa [iX] at this
  rw [uO hj] at h
  injection h with h
  exact h.symm
theorem wL {α : Type} {Rr : α → List Value → Prop} {sz : Nat} {xs : List α} {inner : List Value} (h : Reps Rr sz xs inner) (hR : ∀ x c, Rr x c → c.length = sz ∧ ∀ u ∈ c, u.oneCell' = true) : Reps (fun x cs => cs = x ∧ cs.length = sz ∧ ∀ u ∈ cs, u.oneCell' = true) sz (lK sz xs.length inner) inner := by
  refine ⟨by rw [iX]; exact h.1, fun j p hj => ?_⟩
  have hjl : j < xs.length := by have := (List.getElem?_eq_some_iff.1 hj).1; rwa [iX] at this
  have hp := o3 hj
  exact ⟨hp.symm, hR _ _ (h.2 j _ (List.getElem?_eq_getElem hjl))⟩
section
variable {α : Type} {d : Kd α} {e base n cc g : Nat} {ok ok' okp S : Nat → Prop} {w w1 W W1 : World} {A : Option Addr} {u v v1 : Value} {xs : List α} {x : α} {c : List Value}
def N {α : Type} (d : Kd α) (e : Nat) (w : World) (base : Nat) (ok : Nat → Prop) (v : Value) (xs : List α) : Prop :=
  (∀ k, v.ownBlock = some k → ok k) ∧ ∃ rows : List (List Value), rows.length = xs.length ∧ (raw d.sz).R e w base (fun k => some k = v.ownBlock) v rows ∧ ∀ (j : Nat) (x : α) (c : List Value), xs[j]? = some x → rows[j]? = some c → FK d w (fun k => ok k ∧ some k ≠ v.ownBlock) x c
theorem R_N (h : d.R e w base ok v xs) : N d e w base ok v xs := by
  obtain ⟨h0, inner, ho, hr⟩ := h
  refine ⟨h0, lK d.sz xs.length inner, iX _ _ _, ⟨fun k hk => hk.symm, inner, by rw [iX]; exact ho, wL hr (fun x c hp => ⟨d.K_len (d.K_of_M hp), d.K_one (d.K_of_M hp)⟩)⟩, fun j x c hx hc => ?_⟩
  rw [o3 hc]
  exact xo (hr.2 j x hx)
theorem N_nil (d : Kd α) (e : Nat) (w : World) (base : Nat) (ok : Nat → Prop) : N d e w base ok (.slice none 0 0) [] := R_N (R_nil _ _ _ _ _)
end
end Kd
end Go.Proofs.YtpmflpeckoeooaaGreatDoorW.PrintWords
namespace Go.Proofs.YtpmflpeckoeooaaGreatDoorW.PrintWords
open Go.RowKit
namespace Kd
end Kd
end Go.Proofs.YtpmflpeckoeooaaGreatDoorW.PrintWords
namespace Go.Proofs.YtpmflpeckoeooaaGreatDoorW.PrintWords
open Go.RowKit
namespace Kd
end Kd
end Go.Proofs.YtpmflpeckoeooaaGreatDoorW.PrintWords
namespace Go.Proofs.YtpmflpeckoeooaaGreatDoorW.PrintWords
open Go.RowKit
end Go.Proofs.YtpmflpeckoeooaaGreatDoorW.PrintWords
namespace Go.Proofs.YtpmflpeckoeooaaGreatDoorW.PrintWords
theorem Reps.one {α : Type} {R : α → List Value → Prop} {ps : List α} {cs : List Value} {p : α} {v : Value} (hp : R p [v]) (h : Reps R 1 ps cs) : Reps R 1 (p :: ps) (v :: cs) := by
  refine ⟨by simp [h.1], fun j q hq => ?_⟩
  cases j with
  | zero =>
    simp only [List.getElem?_cons_zero, Option.some.injEq] at hq
    subst hq
    simpa using hp
  | succ j =>
    simp only [List.getElem?_cons_succ] at hq
    have h1 := h.2 j q hq
    simpa [Nat.mul_one] using h1
theorem Reps.front {α : Type} {R : α → List Value → Prop} {size : Nat} {ps : List α} {cs c all : List Value} {p : α} (hp : R p c) (hc : c.length = size) (h : Reps R size ps cs) (ha : c ++ cs = all) : Reps R size (p :: ps) all := by
  subst ha
  refine ⟨by rw [List.length_append, hc, h.1, List.length_cons, Nat.succ_mul, Nat.add_comm], fun j q hq => ?_⟩
  cases j with
  | zero =>
    simp only [List.getElem?_cons_zero, Option.some.injEq] at hq
    subst hq
    rw [Nat.zero_mul, List.drop_zero, List.take_append_of_le_length (by omega), List.take_of_length_le (by omega)]
    exact hp
  | succ j =>
    simp only [List.getElem?_cons_succ] at hq
    have h1 := h.2 j q hq
    rw [Nat.succ_mul, List.drop_append, List.drop_of_length_le (by rw [hc]; exact Nat.le_add_left _ _), List.nil_append, hc, Nat.add_sub_cancel]
    exact h1
theorem Reps.c2 {α : Type} {R : α → List Value → Prop} {ps : List α} {cs : List Value} {p : α} {va vb : Value} (hp : R p [va, vb]) (h : Reps R 2 ps cs) : Reps R 2 (p :: ps) (va :: vb :: cs) := Reps.front hp rfl h rfl
theorem Reps.c3 {α : Type} {R : α → List Value → Prop} {ps : List α} {cs : List Value} {p : α} {va vb vc : Value} (hp : R p [va, vb, vc]) (h : Reps R 3 ps cs) : Reps R 3 (p :: ps) (va :: vb :: vc :: cs) := Reps.front hp rfl h rfl
theorem Reps.c4 {α : Type} {R : α → List Value → Prop} {ps : List α} {cs : List Value} {p : α} {va vb vc vd : Value} (hp : R p [va, vb, vc, vd]) (h : Reps R 4 ps cs) : Reps R 4 (p :: ps) (va :: vb :: vc :: vd :: cs) := Reps.front hp rfl h rfl
theorem Reps.c5 {α : Type} {R : α → List Value → Prop} {ps : List α} {cs : List Value} {p : α} {va vb vc vd ve : Value} (hp : R p [va, vb, vc, vd, ve]) (h : Reps R 5 ps cs) : Reps R 5 (p :: ps) (va :: vb :: vc :: vd :: ve :: cs) := Reps.front hp rfl h rfl
theorem Reps.c6 {α : Type} {R : α → List Value → Prop} {ps : List α} {cs : List Value} {p : α} {va vb vc vd ve vf : Value} (hp : R p [va, vb, vc, vd, ve, vf]) (h : Reps R 6 ps cs) : Reps R 6 (p :: ps) (va :: vb :: vc :: vd :: ve :: vf :: cs) := Reps.front hp rfl h rfl
theorem Reps.c7 {α : Type} {R : α → List Value → Prop} {ps : List α} {cs : List Value} {p : α} {va vb vc vd ve vf vg : Value} (hp : R p [va, vb, vc, vd, ve, vf, vg]) (h : Reps R 7 ps cs) : Reps R 7 (p :: ps) (va :: vb :: vc :: vd :: ve :: vf :: vg :: cs) := Reps.front hp rfl h rfl
theorem Reps.c8 {α : Type} {R : α → List Value → Prop} {ps : List α} {cs : List Value} {p : α} {va vb vc vd ve vf vg vh : Value} (hp : R p [va, vb, vc, vd, ve, vf, vg, vh]) (h : Reps R 8 ps cs) : Reps R 8 (p :: ps) (va :: vb :: vc :: vd :: ve :: vf :: vg :: vh :: cs) := Reps.front hp rfl h rfl
theorem Reps.c9 {α : Type} {R : α → List Value → Prop} {ps : List α} {cs : List Value} {p : α} {va vb vc vd ve vf vg vh vi : Value} (hp : R p [va, vb, vc, vd, ve, vf, vg, vh, vi]) (h : Reps R 9 ps cs) : Reps R 9 (p :: ps) (va :: vb :: vc :: vd :: ve :: vf :: vg :: vh :: vi :: cs) := Reps.front hp rfl h rfl
theorem Reps.c10 {α : Type} {R : α → List Value → Prop} {ps : List α} {cs : List Value} {p : α} {va vb vc vd ve vf vg vh vi vj : Value} (hp : R p [va, vb, vc, vd, ve, vf, vg, vh, vi, vj]) (h : Reps R 10 ps cs) : Reps R 10 (p :: ps) (va :: vb :: vc :: vd :: ve :: vf :: vg :: vh :: vi :: vj :: cs) := Reps.front hp rfl h rfl
end Go.Proofs.YtpmflpeckoeooaaGreatDoorW.PrintWords
namespace Go.Proofs.YtpmflpeckoeooaaGreatDoorW.PrintLast
end Go.Proofs.YtpmflpeckoeooaaGreatDoorW.PrintLast
namespace Go.Proofs.YtpmflpeckoeooaaGreatDoorW.PrintWords
open Go.RowKit
end Go.Proofs.YtpmflpeckoeooaaGreatDoorW.PrintWords
namespace Go.Proofs.YtpmflpeckoeooaaGreatDoorW.PrintLast
end Go.Proofs.YtpmflpeckoeooaaGreatDoorW.PrintLast
namespace Go.Proofs.YtpmflpeckoeooaaGreatDoorW.PrintWords
open Go.RowKit
section
variable {P : Program} {ops : Array Oper} {rest : List Oper} {o : Oper} {a : Act} {Q : Exit → Act → World → Prop} {W : World}
theorem cb (hw : Region.wanted o (yielded ops a.tmps) = true) (h : wpList P ops Q ({ o with guard := none } :: rest) a W) : wpList P ops Q (o :: rest) a W := by
  have h1 : Region.wanted { o with guard := none } (yielded ops a.tmps) = true := rfl
  unfold wpList at h ⊢
  rw [if_pos h1] at h
  rw [if_pos hw]
  exact h
end
end Go.Proofs.YtpmflpeckoeooaaGreatDoorW.PrintWords
namespace Go.Proofs.YtpmflpeckoeooaaGreatDoorW.PrintWords
open Go.RowKit
namespace Kd
end Kd
end Go.Proofs.YtpmflpeckoeooaaGreatDoorW.PrintWords
namespace Go.Proofs.YtpmflpeckoeooaaGreatDoorW.PrintMore
open Go.RowKit Go.Proofs.YtpmflpeckoeooaaGreatDoorW.PrintWords
namespace Kd
open Go.Proofs.YtpmflpeckoeooaaGreatDoorW.PrintWords.Kd
end Kd
namespace Kd
open Go.Proofs.YtpmflpeckoeooaaGreatDoorW.PrintWords.Kd
end Kd
theorem ip (k k' : IntKind) (x y : Int) : Builtin.max2 (.int k x) (.int k' y) = pure (.int k (if x < y then y else x)) := by simp only [Builtin.max2, gt_iff_lt]
theorem ir (k k' : IntKind) (x y : Int) : Builtin.min2 (.int k x) (.int k' y) = pure (.int k (if y < x then y else x)) := by simp only [Builtin.min2]
theorem i4 (ats : Array TypeId) (ty : TypeId) (a b : Value) : Builtin.max_ ats ty #[a, b] = (Builtin.max2 a b >>= fun s => pure s) := by simp only [Builtin.max_, List.foldlM_cons, List.foldlM_nil]
theorem i5 (ats : Array TypeId) (ty : TypeId) (a b : Value) : Builtin.min_ ats ty #[a, b] = (Builtin.min2 a b >>= fun s => pure s) := by simp only [Builtin.min_, List.foldlM_cons, List.foldlM_nil]
theorem gP (ats : Array TypeId) (ty : TypeId) (a b c : Value) : Builtin.max_ ats ty #[a, b, c] = (Builtin.max2 a b >>= fun s => Builtin.max2 s c >>= fun s => pure s) := by simp only [Builtin.max_, List.foldlM_cons, List.foldlM_nil]
theorem gQ (ats : Array TypeId) (ty : TypeId) (a b c : Value) : Builtin.min_ ats ty #[a, b, c] = (Builtin.min2 a b >>= fun s => Builtin.min2 s c >>= fun s => pure s) := by simp only [Builtin.min_, List.foldlM_cons, List.foldlM_nil]
theorem iq (ats : Array TypeId) (ty : TypeId) (a b c d : Value) : Builtin.max_ ats ty #[a, b, c, d] = (Builtin.max2 a b >>= fun s => Builtin.max2 s c >>= fun s => Builtin.max2 s d >>= fun s => pure s) := by simp only [Builtin.max_, List.foldlM_cons, List.foldlM_nil]
theorem it (ats : Array TypeId) (ty : TypeId) (a b c d : Value) : Builtin.min_ ats ty #[a, b, c, d] = (Builtin.min2 a b >>= fun s => Builtin.min2 s c >>= fun s => Builtin.min2 s d >>= fun s => pure s) := by simp only [Builtin.min_, List.foldlM_cons, List.foldlM_nil]
end Go.Proofs.YtpmflpeckoeooaaGreatDoorW.PrintMore
namespace Go.Proofs.YtpmflpeckoeooaaGreatDoorW.PrintWords
open Go.RowKit
section
variable {P : Program} {ops : Array Oper} {rest : List Oper} {o : Oper} {a : Act} {Q : Exit → Act → World → Prop} {W : World}
theorem eY {f : FuncId} {asx : Array Operand} {ts : Array TypeId} (_ho : o.op = .call { callee := .value (.func f), args := asx, argTypes := ts }) (h : wpList P ops Q (o :: rest) a W) : wpList P ops Q (o :: rest) a W := h
theorem gY {b : Builtin} {xs : Array Operand} {ts : Array TypeId} (_ho : o.op = .call { callee := .builtin b, args := xs, argTypes := ts }) (h : wpList P ops Q (o :: rest) a W) : wpList P ops Q (o :: rest) a W := h
end
def mx (a b : Int) : Int := if a < b then b else a
def shl (k : IntKind) (x y : Int) : Int := k.wrap (x * 2 ^ min y.toNat k.bits)
theorem qt {k : IntKind} {x y j : Int} (h : shl k x y = j) (hy : y ≤ k.bits) : k.wrap (x * 2 ^ y.toNat) = j := by rw [← h]; unfold shl; rw [Nat.min_eq_left (by omega)]
theorem aU (w : World) (n : Nat) : w.drewN n = w.drewN n := rfl
namespace Kd
end Kd
end Go.Proofs.YtpmflpeckoeooaaGreatDoorW.PrintWords
namespace Go.Proofs.YtpmflpeckoeooaaGreatDoorW.PrintWords
open Go.RowKit
namespace Kd
def V {α : Type} (d : Kd α) (_e : Nat) (W : World) (_base : Nat) (ok : Nat → Prop) (v : Value) (xs : List α) : Prop := ∃ A c, v = .slice A xs.length c ∧ xs.length ≤ c ∧ F d W ok A xs.length xs
section
variable {α β : Type} {d : Kd α} {e base base' n m c g N' lo hi : Nat} {ok ok' S : Nat → Prop} {w W w1 : World} {A : Option Addr} {ad : Addr} {u v v1 : Value} {xs : List α}
theorem V_nil (d : Kd α) (e : Nat) (W : World) (base : Nat) (ok : Nat → Prop) : V d e W base ok (.slice none 0 0) [] := ⟨none, 0, rfl, Nat.le_refl _, yK d W ok⟩
end
end Kd
end Go.Proofs.YtpmflpeckoeooaaGreatDoorW.PrintWords
namespace Go.Proofs.YtpmflpeckoeooaaGreatDoorW.PrintMore
open Go.RowKit Go.Proofs.YtpmflpeckoeooaaGreatDoorW.PrintWords Go.Proofs.YtpmflpeckoeooaaGreatDoorW.PrintLast
theorem gt {P : Program} {Q : Exit → Act → World → Prop} {a : Act} {w : World} {c rest : Code} (l : Nat) (hf : findLabel c l = some rest) (h : c.wp P (Exit.jump l (fun a w => rest.wp P (Exit.jump l (fun _ _ => False) Q) a w) Q) a w) : (Code.scope c).wp P Q a w :=
  wp_scope_jumps l (fun a w => rest.wp P (Exit.jump l (fun _ _ => False) Q) a w) (fun _ _ => 0) hf h fun a w hJ => wp_mono hJ fun e a w hq => by
    cases e with
    | goto l' => exact ⟨hq.1, hq.2.elim⟩
    | _ => exact hq
section
variable {K : Act → World → Prop} {Q : Exit → Act → World → Prop} {J : Act → World → Prop} {a : Act} {w : World} {l : Nat}
theorem fd : Exit.then K Q (.goto l) a w = Q (.goto l) a w := rfl
theorem eu (id : Nat) : Exit.inBlock id Q (.goto l) a w = Q (.goto l) a w := rfl
theorem gU : Exit.jump l J Q .normal a w = Q .normal a w := rfl
theorem i9 (id : Nat) : Exit.jump l J Q (.exit id) a w = Q (.exit id) a w := rfl
theorem dJ : Exit.jump l J Q .ret a w = Q .ret a w := rfl
theorem iw (ch : List PanicEntry) : Exit.jump l J Q (.panic ch) a w = Q (.panic ch) a w := rfl
theorem cE : Exit.jump l J Q (.goto l) a w = J a w := propext ⟨fun h => h.2, fun h => ⟨rfl, h⟩⟩
end
theorem yI {P : Program} {ops : Array Oper} {rest : List Oper} {o : Oper} {a : Act} {w w0 : World} {B : Nat} {Q : Exit → Act → World → Prop} (hgd : o.guard = none) (ty : TypeId) (x y : Operand) (ho : o.op = .store ty x y)
    (g : Nat) (cells : Array Value) (hx : a.eval x = .pointer (some ⟨g, 0, none⟩)) (hy : a.eval y = .agg cells)
    (t : TypeId) (old : Array Value) (hg : w.heap[g]? = some (.cells old t (0, 0))) (hi : (P.info? ty).map (·.size) = some cells.size)
    (hold : old.size = cells.size) (h1 : cells.all (·.oneCell') = true) (hb : Below B w0 w) (hB : B ≤ g)
    (h : ∀ w', w'.heap[g]? = some (.cells cells t (0, 0)) → Below B w0 w' → wpList P ops Q rest (a.put o.dst undef) w') : wpList P ops Q (o :: rest) a w :=
  wpList_store_row hgd ty x y ho g cells hx hy t old hg hi hold h1 (h _ (setRow_heap _ _ _ _ _ _ hg) (below_setRow hb hB _))
theorem rE {w : World} {g : Nat} {t : TypeId} {c0 u : Value} (h : w.heap[g]? = some (.cells #[c0] t (0, 0))) : (w.setCell ⟨g, 0, none⟩ u).heap[g]? = some (.cells #[u] t (0, 0)) := aZ h 0 u rfl
theorem rF {w : World} {g : Nat} {t : TypeId} {c0 c1 u : Value} (h : w.heap[g]? = some (.cells #[c0, c1] t (0, 0))) : (w.setCell ⟨g, 0, none⟩ u).heap[g]? = some (.cells #[u, c1] t (0, 0)) := aZ h 0 u rfl
theorem rG {w : World} {g : Nat} {t : TypeId} {c0 c1 u : Value} (h : w.heap[g]? = some (.cells #[c0, c1] t (0, 0))) : (w.setCell ⟨g, 1, none⟩ u).heap[g]? = some (.cells #[c0, u] t (0, 0)) := aZ h 1 u rfl
theorem rH {w : World} {g : Nat} {t : TypeId} {c0 c1 c2 u : Value} (h : w.heap[g]? = some (.cells #[c0, c1, c2] t (0, 0))) : (w.setCell ⟨g, 0, none⟩ u).heap[g]? = some (.cells #[u, c1, c2] t (0, 0)) := aZ h 0 u rfl
theorem rI {w : World} {g : Nat} {t : TypeId} {c0 c1 c2 u : Value} (h : w.heap[g]? = some (.cells #[c0, c1, c2] t (0, 0))) : (w.setCell ⟨g, 1, none⟩ u).heap[g]? = some (.cells #[c0, u, c2] t (0, 0)) := aZ h 1 u rfl
theorem rJ {w : World} {g : Nat} {t : TypeId} {c0 c1 c2 u : Value} (h : w.heap[g]? = some (.cells #[c0, c1, c2] t (0, 0))) : (w.setCell ⟨g, 2, none⟩ u).heap[g]? = some (.cells #[c0, c1, u] t (0, 0)) := aZ h 2 u rfl
theorem rK {w : World} {g : Nat} {t : TypeId} {c0 c1 c2 c3 u : Value} (h : w.heap[g]? = some (.cells #[c0, c1, c2, c3] t (0, 0))) : (w.setCell ⟨g, 0, none⟩ u).heap[g]? = some (.cells #[u, c1, c2, c3] t (0, 0)) := aZ h 0 u rfl
theorem rL {w : World} {g : Nat} {t : TypeId} {c0 c1 c2 c3 u : Value} (h : w.heap[g]? = some (.cells #[c0, c1, c2, c3] t (0, 0))) : (w.setCell ⟨g, 1, none⟩ u).heap[g]? = some (.cells #[c0, u, c2, c3] t (0, 0)) := aZ h 1 u rfl
theorem rM {w : World} {g : Nat} {t : TypeId} {c0 c1 c2 c3 u : Value} (h : w.heap[g]? = some (.cells #[c0, c1, c2, c3] t (0, 0))) : (w.setCell ⟨g, 2, none⟩ u).heap[g]? = some (.cells #[c0, c1, u, c3] t (0, 0)) := aZ h 2 u rfl
theorem rN {w : World} {g : Nat} {t : TypeId} {c0 c1 c2 c3 u : Value} (h : w.heap[g]? = some (.cells #[c0, c1, c2, c3] t (0, 0))) : (w.setCell ⟨g, 3, none⟩ u).heap[g]? = some (.cells #[c0, c1, c2, u] t (0, 0)) := aZ h 3 u rfl
theorem rO {w : World} {g : Nat} {t : TypeId} {c0 c1 c2 c3 c4 u : Value} (h : w.heap[g]? = some (.cells #[c0, c1, c2, c3, c4] t (0, 0))) : (w.setCell ⟨g, 0, none⟩ u).heap[g]? = some (.cells #[u, c1, c2, c3, c4] t (0, 0)) := aZ h 0 u rfl
theorem rP {w : World} {g : Nat} {t : TypeId} {c0 c1 c2 c3 c4 u : Value} (h : w.heap[g]? = some (.cells #[c0, c1, c2, c3, c4] t (0, 0))) : (w.setCell ⟨g, 1, none⟩ u).heap[g]? = some (.cells #[c0, u, c2, c3, c4] t (0, 0)) := aZ h 1 u rfl
theorem rQ {w : World} {g : Nat} {t : TypeId} {c0 c1 c2 c3 c4 u : Value} (h : w.heap[g]? = some (.cells #[c0, c1, c2, c3, c4] t (0, 0))) : (w.setCell ⟨g, 2, none⟩ u).heap[g]? = some (.cells #[c0, c1, u, c3, c4] t (0, 0)) := aZ h 2 u rfl
theorem rR {w : World} {g : Nat} {t : TypeId} {c0 c1 c2 c3 c4 u : Value} (h : w.heap[g]? = some (.cells #[c0, c1, c2, c3, c4] t (0, 0))) : (w.setCell ⟨g, 3, none⟩ u).heap[g]? = some (.cells #[c0, c1, c2, u, c4] t (0, 0)) := aZ h 3 u rfl
theorem rS {w : World} {g : Nat} {t : TypeId} {c0 c1 c2 c3 c4 u : Value} (h : w.heap[g]? = some (.cells #[c0, c1, c2, c3, c4] t (0, 0))) : (w.setCell ⟨g, 4, none⟩ u).heap[g]? = some (.cells #[c0, c1, c2, c3, u] t (0, 0)) := aZ h 4 u rfl
theorem rT {w : World} {g : Nat} {t : TypeId} {c0 c1 c2 c3 c4 c5 u : Value} (h : w.heap[g]? = some (.cells #[c0, c1, c2, c3, c4, c5] t (0, 0))) : (w.setCell ⟨g, 0, none⟩ u).heap[g]? = some (.cells #[u, c1, c2, c3, c4, c5] t (0, 0)) := aZ h 0 u rfl
theorem rU {w : World} {g : Nat} {t : TypeId} {c0 c1 c2 c3 c4 c5 u : Value} (h : w.heap[g]? = some (.cells #[c0, c1, c2, c3, c4, c5] t (0, 0))) : (w.setCell ⟨g, 1, none⟩ u).heap[g]? = some (.cells #[c0, u, c2, c3, c4, c5] t (0, 0)) := aZ h 1 u rfl
theorem rV {w : World} {g : Nat} {t : TypeId} {c0 c1 c2 c3 c4 c5 u : Value} (h : w.heap[g]? = some (.cells #[c0, c1, c2, c3, c4, c5] t (0, 0))) : (w.setCell ⟨g, 2, none⟩ u).heap[g]? = some (.cells #[c0, c1, u, c3, c4, c5] t (0, 0)) := aZ h 2 u rfl
theorem rW {w : World} {g : Nat} {t : TypeId} {c0 c1 c2 c3 c4 c5 u : Value} (h : w.heap[g]? = some (.cells #[c0, c1, c2, c3, c4, c5] t (0, 0))) : (w.setCell ⟨g, 3, none⟩ u).heap[g]? = some (.cells #[c0, c1, c2, u, c4, c5] t (0, 0)) := aZ h 3 u rfl
theorem rX {w : World} {g : Nat} {t : TypeId} {c0 c1 c2 c3 c4 c5 u : Value} (h : w.heap[g]? = some (.cells #[c0, c1, c2, c3, c4, c5] t (0, 0))) : (w.setCell ⟨g, 4, none⟩ u).heap[g]? = some (.cells #[c0, c1, c2, c3, u, c5] t (0, 0)) := aZ h 4 u rfl
theorem rY {w : World} {g : Nat} {t : TypeId} {c0 c1 c2 c3 c4 c5 u : Value} (h : w.heap[g]? = some (.cells #[c0, c1, c2, c3, c4, c5] t (0, 0))) : (w.setCell ⟨g, 5, none⟩ u).heap[g]? = some (.cells #[c0, c1, c2, c3, c4, u] t (0, 0)) := aZ h 5 u rfl
theorem rZ {w : World} {g : Nat} {t : TypeId} {c0 c1 c2 c3 c4 c5 c6 u : Value} (h : w.heap[g]? = some (.cells #[c0, c1, c2, c3, c4, c5, c6] t (0, 0))) : (w.setCell ⟨g, 0, none⟩ u).heap[g]? = some (.cells #[u, c1, c2, c3, c4, c5, c6] t (0, 0)) := aZ h 0 u rfl
theorem sa {w : World} {g : Nat} {t : TypeId} {c0 c1 c2 c3 c4 c5 c6 u : Value} (h : w.heap[g]? = some (.cells #[c0, c1, c2, c3, c4, c5, c6] t (0, 0))) : (w.setCell ⟨g, 1, none⟩ u).heap[g]? = some (.cells #[c0, u, c2, c3, c4, c5, c6] t (0, 0)) := aZ h 1 u rfl
theorem sb {w : World} {g : Nat} {t : TypeId} {c0 c1 c2 c3 c4 c5 c6 u : Value} (h : w.heap[g]? = some (.cells #[c0, c1, c2, c3, c4, c5, c6] t (0, 0))) : (w.setCell ⟨g, 2, none⟩ u).heap[g]? = some (.cells #[c0, c1, u, c3, c4, c5, c6] t (0, 0)) := aZ h 2 u rfl
theorem sc {w : World} {g : Nat} {t : TypeId} {c0 c1 c2 c3 c4 c5 c6 u : Value} (h : w.heap[g]? = some (.cells #[c0, c1, c2, c3, c4, c5, c6] t (0, 0))) : (w.setCell ⟨g, 3, none⟩ u).heap[g]? = some (.cells #[c0, c1, c2, u, c4, c5, c6] t (0, 0)) := aZ h 3 u rfl
theorem sd {w : World} {g : Nat} {t : TypeId} {c0 c1 c2 c3 c4 c5 c6 u : Value} (h : w.heap[g]? = some (.cells #[c0, c1, c2, c3, c4, c5, c6] t (0, 0))) : (w.setCell ⟨g, 4, none⟩ u).heap[g]? = some (.cells #[c0, c1, c2, c3, u, c5, c6] t (0, 0)) := aZ h 4 u rfl
theorem se {w : World} {g : Nat} {t : TypeId} {c0 c1 c2 c3 c4 c5 c6 u : Value} (h : w.heap[g]? = some (.cells #[c0, c1, c2, c3, c4, c5, c6] t (0, 0))) : (w.setCell ⟨g, 5, none⟩ u).heap[g]? = some (.cells #[c0, c1, c2, c3, c4, u, c6] t (0, 0)) := aZ h 5 u rfl
theorem sf {w : World} {g : Nat} {t : TypeId} {c0 c1 c2 c3 c4 c5 c6 u : Value} (h : w.heap[g]? = some (.cells #[c0, c1, c2, c3, c4, c5, c6] t (0, 0))) : (w.setCell ⟨g, 6, none⟩ u).heap[g]? = some (.cells #[c0, c1, c2, c3, c4, c5, u] t (0, 0)) := aZ h 6 u rfl
theorem sg {w : World} {g : Nat} {t : TypeId} {c0 c1 c2 c3 c4 c5 c6 c7 u : Value} (h : w.heap[g]? = some (.cells #[c0, c1, c2, c3, c4, c5, c6, c7] t (0, 0))) : (w.setCell ⟨g, 0, none⟩ u).heap[g]? = some (.cells #[u, c1, c2, c3, c4, c5, c6, c7] t (0, 0)) := aZ h 0 u rfl
theorem si {w : World} {g : Nat} {t : TypeId} {c0 c1 c2 c3 c4 c5 c6 c7 u : Value} (h : w.heap[g]? = some (.cells #[c0, c1, c2, c3, c4, c5, c6, c7] t (0, 0))) : (w.setCell ⟨g, 1, none⟩ u).heap[g]? = some (.cells #[c0, u, c2, c3, c4, c5, c6, c7] t (0, 0)) := aZ h 1 u rfl
theorem sj {w : World} {g : Nat} {t : TypeId} {c0 c1 c2 c3 c4 c5 c6 c7 u : Value} (h : w.heap[g]? = some (.cells #[c0, c1, c2, c3, c4, c5, c6, c7] t (0, 0))) : (w.setCell ⟨g, 2, none⟩ u).heap[g]? = some (.cells #[c0, c1, u, c3, c4, c5, c6, c7] t (0, 0)) := aZ h 2 u rfl
theorem sk {w : World} {g : Nat} {t : TypeId} {c0 c1 c2 c3 c4 c5 c6 c7 u : Value} (h : w.heap[g]? = some (.cells #[c0, c1, c2, c3, c4, c5, c6, c7] t (0, 0))) : (w.setCell ⟨g, 3, none⟩ u).heap[g]? = some (.cells #[c0, c1, c2, u, c4, c5, c6, c7] t (0, 0)) := aZ h 3 u rfl
theorem sl {w : World} {g : Nat} {t : TypeId} {c0 c1 c2 c3 c4 c5 c6 c7 u : Value} (h : w.heap[g]? = some (.cells #[c0, c1, c2, c3, c4, c5, c6, c7] t (0, 0))) : (w.setCell ⟨g, 4, none⟩ u).heap[g]? = some (.cells #[c0, c1, c2, c3, u, c5, c6, c7] t (0, 0)) := aZ h 4 u rfl
theorem sm {w : World} {g : Nat} {t : TypeId} {c0 c1 c2 c3 c4 c5 c6 c7 u : Value} (h : w.heap[g]? = some (.cells #[c0, c1, c2, c3, c4, c5, c6, c7] t (0, 0))) : (w.setCell ⟨g, 5, none⟩ u).heap[g]? = some (.cells #[c0, c1, c2, c3, c4, u, c6, c7] t (0, 0)) := aZ h 5 u rfl
theorem sn {w : World} {g : Nat} {t : TypeId} {c0 c1 c2 c3 c4 c5 c6 c7 u : Value} (h : w.heap[g]? = some (.cells #[c0, c1, c2, c3, c4, c5, c6, c7] t (0, 0))) : (w.setCell ⟨g, 6, none⟩ u).heap[g]? = some (.cells #[c0, c1, c2, c3, c4, c5, u, c7] t (0, 0)) := aZ h 6 u rfl
theorem so {w : World} {g : Nat} {t : TypeId} {c0 c1 c2 c3 c4 c5 c6 c7 u : Value} (h : w.heap[g]? = some (.cells #[c0, c1, c2, c3, c4, c5, c6, c7] t (0, 0))) : (w.setCell ⟨g, 7, none⟩ u).heap[g]? = some (.cells #[c0, c1, c2, c3, c4, c5, c6, u] t (0, 0)) := aZ h 7 u rfl
theorem sp {w : World} {g : Nat} {t : TypeId} {c0 c1 c2 c3 c4 c5 c6 c7 c8 u : Value} (h : w.heap[g]? = some (.cells #[c0, c1, c2, c3, c4, c5, c6, c7, c8] t (0, 0))) : (w.setCell ⟨g, 0, none⟩ u).heap[g]? = some (.cells #[u, c1, c2, c3, c4, c5, c6, c7, c8] t (0, 0)) := aZ h 0 u rfl
theorem sq {w : World} {g : Nat} {t : TypeId} {c0 c1 c2 c3 c4 c5 c6 c7 c8 u : Value} (h : w.heap[g]? = some (.cells #[c0, c1, c2, c3, c4, c5, c6, c7, c8] t (0, 0))) : (w.setCell ⟨g, 1, none⟩ u).heap[g]? = some (.cells #[c0, u, c2, c3, c4, c5, c6, c7, c8] t (0, 0)) := aZ h 1 u rfl
theorem sr {w : World} {g : Nat} {t : TypeId} {c0 c1 c2 c3 c4 c5 c6 c7 c8 u : Value} (h : w.heap[g]? = some (.cells #[c0, c1, c2, c3, c4, c5, c6, c7, c8] t (0, 0))) : (w.setCell ⟨g, 2, none⟩ u).heap[g]? = some (.cells #[c0, c1, u, c3, c4, c5, c6, c7, c8] t (0, 0)) := aZ h 2 u rfl
theorem ss {w : World} {g : Nat} {t : TypeId} {c0 c1 c2 c3 c4 c5 c6 c7 c8 u : Value} (h : w.heap[g]? = some (.cells #[c0, c1, c2, c3, c4, c5, c6, c7, c8] t (0, 0))) : (w.setCell ⟨g, 3, none⟩ u).heap[g]? = some (.cells #[c0, c1, c2, u, c4, c5, c6, c7, c8] t (0, 0)) := aZ h 3 u rfl
theorem st {w : World} {g : Nat} {t : TypeId} {c0 c1 c2 c3 c4 c5 c6 c7 c8 u : Value} (h : w.heap[g]? = some (.cells #[c0, c1, c2, c3, c4, c5, c6, c7, c8] t (0, 0))) : (w.setCell ⟨g, 4, none⟩ u).heap[g]? = some (.cells #[c0, c1, c2, c3, u, c5, c6, c7, c8] t (0, 0)) := aZ h 4 u rfl
theorem su {w : World} {g : Nat} {t : TypeId} {c0 c1 c2 c3 c4 c5 c6 c7 c8 u : Value} (h : w.heap[g]? = some (.cells #[c0, c1, c2, c3, c4, c5, c6, c7, c8] t (0, 0))) : (w.setCell ⟨g, 5, none⟩ u).heap[g]? = some (.cells #[c0, c1, c2, c3, c4, u, c6, c7, c8] t (0, 0)) := aZ h 5 u rfl
theorem sv {w : World} {g : Nat} {t : TypeId} {c0 c1 c2 c3 c4 c5 c6 c7 c8 u : Value} (h : w.heap[g]? = some (.cells #[c0, c1, c2, c3, c4, c5, c6, c7, c8] t (0, 0))) : (w.setCell ⟨g, 6, none⟩ u).heap[g]? = some (.cells #[c0, c1, c2, c3, c4, c5, u, c7, c8] t (0, 0)) := aZ h 6 u rfl
theorem sw {w : World} {g : Nat} {t : TypeId} {c0 c1 c2 c3 c4 c5 c6 c7 c8 u : Value} (h : w.heap[g]? = some (.cells #[c0, c1, c2, c3, c4, c5, c6, c7, c8] t (0, 0))) : (w.setCell ⟨g, 7, none⟩ u).heap[g]? = some (.cells #[c0, c1, c2, c3, c4, c5, c6, u, c8] t (0, 0)) := aZ h 7 u rfl
theorem sx {w : World} {g : Nat} {t : TypeId} {c0 c1 c2 c3 c4 c5 c6 c7 c8 u : Value} (h : w.heap[g]? = some (.cells #[c0, c1, c2, c3, c4, c5, c6, c7, c8] t (0, 0))) : (w.setCell ⟨g, 8, none⟩ u).heap[g]? = some (.cells #[c0, c1, c2, c3, c4, c5, c6, c7, u] t (0, 0)) := aZ h 8 u rfl
theorem xbl {p : Prop} (h : p := by repeat (first | (with_reducible first | exact HB.out | apply d5 | apply fv | apply aM | refine ie ?_ (Zz.out (by assumption))) | exact HB.out)) : p := h
theorem xst {w W w2 : World} (k : Below W.heap.size W w2) (h : Below w.heap.size w W := by repeat (first | (with_reducible first | exact HB.out | apply d5 | apply fv | apply aM | refine ie ?_ (Zz.out (by assumption))) | exact HB.out)) : Zz (Below w.heap.size w w2) := ⟨cJ h k⟩
theorem xsz {w W : World} {g : Nat} (hg : g = W.heap.size) (h : Below w.heap.size w W := by repeat (first | (with_reducible first | exact HB.out | apply d5 | apply fv | apply aM | refine ie ?_ (Zz.out (by assumption))) | exact HB.out)) : Zz (w.heap.size ≤ g) := ⟨by rw [hg]; exact aH h⟩
theorem xbk {p : Prop} (h : p := by repeat (first | (with_reducible first | refine ig ?_ _ | refine bP ?_ | refine iH ?_ _ | exact Zz.out (by assumption) | refine i2 ?_ (Zz.out (by assumption)) _ | apply rE | apply rF | apply rG | apply rH | apply rI | apply rJ | apply rK | apply rL | apply rM | apply rN | apply rO | apply rP | apply rQ | apply rR | apply rS | apply rT | apply rU | apply rV | apply rW | apply rX | apply rY | apply rZ | apply sa | apply sb | apply sc | apply sd | apply se | apply sf | apply sg | apply si | apply sj | apply sk | apply sl | apply sm | apply sn | apply so | apply sp | apply sq | apply sr | apply ss | apply st | apply su | apply sv | apply sw | apply sx) | refine i2 ?_ (Zz.out (by assumption)) _ | exact Zz.out (by assumption))) : p := h
theorem xbb {w w1 : World} {g : Nat} {o : Obj} (hb : Below w.heap.size w w1) (h : w.heap[g]? = some o := by repeat (first | (with_reducible first | refine ig ?_ _ | refine bP ?_ | refine iH ?_ _ | exact Zz.out (by assumption) | refine i2 ?_ (Zz.out (by assumption)) _ | apply rE | apply rF | apply rG | apply rH | apply rI | apply rJ | apply rK | apply rL | apply rM | apply rN | apply rO | apply rP | apply rQ | apply rR | apply rS | apply rT | apply rU | apply rV | apply rW | apply rX | apply rY | apply rZ | apply sa | apply sb | apply sc | apply sd | apply se | apply sf | apply sg | apply si | apply sj | apply sk | apply sl | apply sm | apply sn | apply so | apply sp | apply sq | apply sr | apply ss | apply st | apply su | apply sv | apply sw | apply sx) | refine i2 ?_ (Zz.out (by assumption)) _ | exact Zz.out (by assumption))) : Zz (w1.heap[g]? = some o) := ⟨qa h hb⟩
theorem xlt {W : World} {g g' : Nat} {o : Obj} (hg : g' = W.heap.size) (h : W.heap[g]? = some o := by repeat (first | (with_reducible first | refine ig ?_ _ | refine bP ?_ | refine iH ?_ _ | exact Zz.out (by assumption) | refine i2 ?_ (Zz.out (by assumption)) _ | apply rE | apply rF | apply rG | apply rH | apply rI | apply rJ | apply rK | apply rL | apply rM | apply rN | apply rO | apply rP | apply rQ | apply rR | apply rS | apply rT | apply rU | apply rV | apply rW | apply rX | apply rY | apply rZ | apply sa | apply sb | apply sc | apply sd | apply se | apply sf | apply sg | apply si | apply sj | apply sk | apply sl | apply sm | apply sn | apply so | apply sp | apply sq | apply sr | apply ss | apply st | apply su | apply sv | apply sw | apply sx) | refine i2 ?_ (Zz.out (by assumption)) _ | exact Zz.out (by assumption))) : Zz (g ≠ g') := ⟨by rw [hg]; exact Nat.ne_of_lt (kg h)⟩
theorem xgt {W : World} {g g' : Nat} {o : Obj} (hg : g' = W.heap.size) (h : W.heap[g]? = some o := by repeat (first | (with_reducible first | refine ig ?_ _ | refine bP ?_ | refine iH ?_ _ | exact Zz.out (by assumption) | refine i2 ?_ (Zz.out (by assumption)) _ | apply rE | apply rF | apply rG | apply rH | apply rI | apply rJ | apply rK | apply rL | apply rM | apply rN | apply rO | apply rP | apply rQ | apply rR | apply rS | apply rT | apply rU | apply rV | apply rW | apply rX | apply rY | apply rZ | apply sa | apply sb | apply sc | apply sd | apply se | apply sf | apply sg | apply si | apply sj | apply sk | apply sl | apply sm | apply sn | apply so | apply sp | apply sq | apply sr | apply ss | apply st | apply su | apply sv | apply sw | apply sx) | refine i2 ?_ (Zz.out (by assumption)) _ | exact Zz.out (by assumption))) : Zz (g' ≠ g) := ⟨by rw [hg]; exact Nat.ne_of_gt (kg h)⟩
theorem xrr {p : Prop} (h : p := by first | rfl | (simp; done) | (simp [*]; done) | (simp [wrap64]; done)) : p := h
theorem xre {p : Prop} (h : p := by first | rfl | (simp [b7, b8] <;> first | rfl | (simp only [fl, bne, Bool.not_not]; done)) | (simp [*, b7, b8] <;> rfl)) : p := h
theorem xdr {p : Prop} (h : p := by repeat (first | exact Drawn0.refl _ | apply Drawn0.step)) : p := h
theorem xkd {p q : Prop} (f : Zz q) (h : q → p := by intro hq_; (with_reducible repeat (first | apply Kd.R_alloc | apply Kd.R_drewN | apply Kd.R_drew)); exact hq_) : p := h f.out
theorem xom {p : Prop} (h : p := by first | omega | exact Nat.le_refl _) : p := h
theorem xmo {p : Prop} (h : p := by
  repeat' first
   | (with_reducible apply ih0) | (with_reducible apply ih1) | (with_reducible apply ih2) | (with_reducible apply ih3) | (with_reducible apply ih4) | (with_reducible apply ih5) | (with_reducible apply ih6) | (with_reducible apply ih7) | (with_reducible apply ih8) | (with_reducible apply ih9)
   | (with_reducible apply ih10) | (with_reducible apply ih11) | (with_reducible apply ih12) | (with_reducible apply ih13) | (with_reducible apply ih14) | (with_reducible apply ih15) | (with_reducible apply ih16) | (with_reducible apply ih17) | (with_reducible apply ih18) | (with_reducible apply ih19)
   | (with_reducible apply m0) | (with_reducible apply m1) | (with_reducible apply m2) | (with_reducible apply m3) | (with_reducible apply m4) | (with_reducible apply m5) | (with_reducible apply m6) | (with_reducible apply m7) | (with_reducible apply m8) | (with_reducible apply m9)
   | (with_reducible apply m10) | (with_reducible apply m11) | (with_reducible apply m12) | (with_reducible apply m13) | (with_reducible apply m14) | (with_reducible apply m15) | (with_reducible apply m16) | (with_reducible apply m17) | (with_reducible apply m18) | (with_reducible apply m19)
   | (with_reducible exact LeO.refl _) | (with_reducible exact LeO.none _) | (with_reducible refine LeO.ite ?_ ?_) | (with_reducible refine LeO.bind ?_ (fun _ => ?_))
   | apply ih0 | apply ih1 | apply ih2 | apply ih3 | apply ih4 | apply ih5 | apply ih6 | apply ih7 | apply ih8 | apply ih9 | apply ih10 | apply ih11 | apply ih12 | apply ih13 | apply ih14 | apply ih15 | apply ih16 | apply ih17 | apply ih18 | apply ih19
   | apply m0 | apply m1 | apply m2 | apply m3 | apply m4 | apply m5 | apply m6 | apply m7 | apply m8 | apply m9 | apply m10 | apply m11 | apply m12 | apply m13 | apply m14 | apply m15 | apply m16 | apply m17 | apply m18 | apply m19
   | exact LeO.none _ | refine LeO.ite ?_ ?_ | refine LeO.bind ?_ (fun _ => ?_)) : p := h
theorem xod {p : Prop} [Decidable p] (h : decide p = true := by first | (with_reducible assumption) | assumption) : p := of_decide_eq_true h
section
variable {P : Program} {ops : Array Oper} {rest : List Oper} {o : Oper} {a : Act} {Q : Exit → Act → World → Prop}
theorem xgl {w : World} (N : Tmp) {f : FuncId} {fn : Func} {asx : Array Operand} {ts : Array TypeId} (hf : P.funcs[f]? = some fn) (args : Array Value)
    (h : Calls P f args w fun e w' => ∃ v, e = .returned v ∧ wpList P ops Q rest (a.put (some N) v) w')
    (hop : o.op = .call { callee := .value (.func f), args := asx, argTypes := ts } := by rfl) (hd : o.dst = some N := by rfl) (hg : o.guard = none := by rfl)
    (hname : (fn.name == "runtime.NumGoroutine") = false := by kernel_rfl) (hb : fn.body.isSome = true := by rfl)
    (hargs : asx.map a.eval = args := by (try simp only [List.map_toArray, List.map_cons, List.map_nil]); first | done | rfl | (simp only [List.length_drop, List.length_take]; rfl)) : wpList P ops Q (o :: rest) a w :=
  gZ (some N) hd hg hf hname hb args hop hargs h
theorem xev {W : World} (N : Tmp) (cs : Array Value) (t : TypeId)
    (h : ∀ g, g = W.heap.size → ∀ w1, w1.heap[g]? = some (.cells cs t (0, 0)) → Below W.heap.size W w1 → wpList P ops Q rest (a.put o.dst (.pointer (some ⟨g, 0, none⟩))) w1)
    (hd : o.dst = some N := by rfl) (hgd : o.guard = none := by rfl)
    (hrun : (execOp a.eval o).run P W = .ok (.value (.pointer (some ⟨W.heap.size, 0, none⟩))) (W.alloc (.cells cs t (0, 0))) := by first | (go_simp; done) | (go_simp; rfl)) : wpList P ops Q (o :: rest) a W :=
  uL hgd hd hrun h
end
section
variable {w : World} {g : Nat} {t : TypeId} {c0 c1 c2 c3 c4 c5 c6 c7 c8 : Value}
variable {cs : Array Value}
theorem xf (h : Zz (w.heap[g]? = some (.cells cs t (0, 0)))) : ∀ i, w.frozen? ⟨g, i, none⟩ = false := fun i => ev h.out i
end
section
variable {w : World} {g : Nat} {t : TypeId} {c0 c1 c2 c3 c4 c5 c6 c7 c8 c9 c10 c11 : Value}
abbrev xS1 (g : Nat) (c0 : Value) (w : World) : Prop := w.cell? ⟨g, 0, none⟩ = some c0
theorem xs1 (h : w.heap[g]? = some (.cells #[c0] t (0, 0))) : xS1 g c0 w := (aA h 0).trans rfl
theorem xz1 (h : w.heap[g]? = some (.cells #[c0] t (0, 0))) : (w.cell? ⟨g, 0, none⟩ = some c0) ∧ ∀ i, w.frozen? ⟨g, i, none⟩ = false := ⟨xs1 h, fun i => ev h i⟩
abbrev xS2 (g : Nat) (c0 c1 : Value) (w : World) : Prop := w.cell? ⟨g, 0, none⟩ = some c0 ∧ w.cell? ⟨g, 1, none⟩ = some c1
abbrev xS3 (g : Nat) (c0 c1 c2 : Value) (w : World) : Prop := w.cell? ⟨g, 0, none⟩ = some c0 ∧ w.cell? ⟨g, 1, none⟩ = some c1 ∧ w.cell? ⟨g, 2, none⟩ = some c2
theorem xs3 (h : w.heap[g]? = some (.cells #[c0, c1, c2] t (0, 0))) : xS3 g c0 c1 c2 w := ⟨(aA h 0).trans rfl, (aA h 1).trans rfl, (aA h 2).trans rfl⟩
theorem xz3 (h : w.heap[g]? = some (.cells #[c0, c1, c2] t (0, 0))) : (w.cell? ⟨g, 0, none⟩ = some c0 ∧ w.cell? ⟨g, 1, none⟩ = some c1 ∧ w.cell? ⟨g, 2, none⟩ = some c2) ∧ ∀ i, w.frozen? ⟨g, i, none⟩ = false := ⟨xs3 h, fun i => ev h i⟩
abbrev xS4 (g : Nat) (c0 c1 c2 c3 : Value) (w : World) : Prop := w.cell? ⟨g, 0, none⟩ = some c0 ∧ w.cell? ⟨g, 1, none⟩ = some c1 ∧ w.cell? ⟨g, 2, none⟩ = some c2 ∧ w.cell? ⟨g, 3, none⟩ = some c3
theorem xs4 (h : w.heap[g]? = some (.cells #[c0, c1, c2, c3] t (0, 0))) : xS4 g c0 c1 c2 c3 w := ⟨(aA h 0).trans rfl, (aA h 1).trans rfl, (aA h 2).trans rfl, (aA h 3).trans rfl⟩
theorem xz4 (h : w.heap[g]? = some (.cells #[c0, c1, c2, c3] t (0, 0))) : (w.cell? ⟨g, 0, none⟩ = some c0 ∧ w.cell? ⟨g, 1, none⟩ = some c1 ∧ w.cell? ⟨g, 2, none⟩ = some c2 ∧ w.cell? ⟨g, 3, none⟩ = some c3) ∧ ∀ i, w.frozen? ⟨g, i, none⟩ = false := ⟨xs4 h, fun i => ev h i⟩
abbrev xS5 (g : Nat) (c0 c1 c2 c3 c4 : Value) (w : World) : Prop := w.cell? ⟨g, 0, none⟩ = some c0 ∧ w.cell? ⟨g, 1, none⟩ = some c1 ∧ w.cell? ⟨g, 2, none⟩ = some c2 ∧ w.cell? ⟨g, 3, none⟩ = some c3 ∧ w.cell? ⟨g, 4, none⟩ = some c4
theorem xs5 (h : w.heap[g]? = some (.cells #[c0, c1, c2, c3, c4] t (0, 0))) : xS5 g c0 c1 c2 c3 c4 w := ⟨(aA h 0).trans rfl, (aA h 1).trans rfl, (aA h 2).trans rfl, (aA h 3).trans rfl, (aA h 4).trans rfl⟩
theorem xz5 (h : w.heap[g]? = some (.cells #[c0, c1, c2, c3, c4] t (0, 0))) : (w.cell? ⟨g, 0, none⟩ = some c0 ∧ w.cell? ⟨g, 1, none⟩ = some c1 ∧ w.cell? ⟨g, 2, none⟩ = some c2 ∧ w.cell? ⟨g, 3, none⟩ = some c3 ∧ w.cell? ⟨g, 4, none⟩ = some c4) ∧ ∀ i, w.frozen? ⟨g, i, none⟩ = false := ⟨xs5 h, fun i => ev h i⟩
abbrev xS6 (g : Nat) (c0 c1 c2 c3 c4 c5 : Value) (w : World) : Prop := w.cell? ⟨g, 0, none⟩ = some c0 ∧ w.cell? ⟨g, 1, none⟩ = some c1 ∧ w.cell? ⟨g, 2, none⟩ = some c2 ∧ w.cell? ⟨g, 3, none⟩ = some c3 ∧ w.cell? ⟨g, 4, none⟩ = some c4 ∧ w.cell? ⟨g, 5, none⟩ = some c5
abbrev xS7 (g : Nat) (c0 c1 c2 c3 c4 c5 c6 : Value) (w : World) : Prop := w.cell? ⟨g, 0, none⟩ = some c0 ∧ w.cell? ⟨g, 1, none⟩ = some c1 ∧ w.cell? ⟨g, 2, none⟩ = some c2 ∧ w.cell? ⟨g, 3, none⟩ = some c3 ∧ w.cell? ⟨g, 4, none⟩ = some c4 ∧ w.cell? ⟨g, 5, none⟩ = some c5 ∧ w.cell? ⟨g, 6, none⟩ = some c6
abbrev xS8 (g : Nat) (c0 c1 c2 c3 c4 c5 c6 c7 : Value) (w : World) : Prop := w.cell? ⟨g, 0, none⟩ = some c0 ∧ w.cell? ⟨g, 1, none⟩ = some c1 ∧ w.cell? ⟨g, 2, none⟩ = some c2 ∧ w.cell? ⟨g, 3, none⟩ = some c3 ∧ w.cell? ⟨g, 4, none⟩ = some c4 ∧ w.cell? ⟨g, 5, none⟩ = some c5 ∧ w.cell? ⟨g, 6, none⟩ = some c6 ∧ w.cell? ⟨g, 7, none⟩ = some c7
theorem xs8 (h : w.heap[g]? = some (.cells #[c0, c1, c2, c3, c4, c5, c6, c7] t (0, 0))) : xS8 g c0 c1 c2 c3 c4 c5 c6 c7 w := ⟨(aA h 0).trans rfl, (aA h 1).trans rfl, (aA h 2).trans rfl, (aA h 3).trans rfl, (aA h 4).trans rfl, (aA h 5).trans rfl, (aA h 6).trans rfl, (aA h 7).trans rfl⟩
theorem xz8 (h : w.heap[g]? = some (.cells #[c0, c1, c2, c3, c4, c5, c6, c7] t (0, 0))) : (w.cell? ⟨g, 0, none⟩ = some c0 ∧ w.cell? ⟨g, 1, none⟩ = some c1 ∧ w.cell? ⟨g, 2, none⟩ = some c2 ∧ w.cell? ⟨g, 3, none⟩ = some c3 ∧ w.cell? ⟨g, 4, none⟩ = some c4 ∧ w.cell? ⟨g, 5, none⟩ = some c5 ∧ w.cell? ⟨g, 6, none⟩ = some c6 ∧ w.cell? ⟨g, 7, none⟩ = some c7) ∧ ∀ i, w.frozen? ⟨g, i, none⟩ = false := ⟨xs8 h, fun i => ev h i⟩
abbrev xS9 (g : Nat) (c0 c1 c2 c3 c4 c5 c6 c7 c8 : Value) (w : World) : Prop := w.cell? ⟨g, 0, none⟩ = some c0 ∧ w.cell? ⟨g, 1, none⟩ = some c1 ∧ w.cell? ⟨g, 2, none⟩ = some c2 ∧ w.cell? ⟨g, 3, none⟩ = some c3 ∧ w.cell? ⟨g, 4, none⟩ = some c4 ∧ w.cell? ⟨g, 5, none⟩ = some c5 ∧ w.cell? ⟨g, 6, none⟩ = some c6 ∧ w.cell? ⟨g, 7, none⟩ = some c7 ∧ w.cell? ⟨g, 8, none⟩ = some c8
abbrev zk (g : Nat) (c0 c1 c2 c3 c4 c5 c6 c7 c8 c9 : Value) (w : World) : Prop := w.cell? ⟨g, 0, none⟩ = some c0 ∧ w.cell? ⟨g, 1, none⟩ = some c1 ∧ w.cell? ⟨g, 2, none⟩ = some c2 ∧ w.cell? ⟨g, 3, none⟩ = some c3 ∧ w.cell? ⟨g, 4, none⟩ = some c4 ∧ w.cell? ⟨g, 5, none⟩ = some c5 ∧ w.cell? ⟨g, 6, none⟩ = some c6 ∧ w.cell? ⟨g, 7, none⟩ = some c7 ∧ w.cell? ⟨g, 8, none⟩ = some c8 ∧ w.cell? ⟨g, 9, none⟩ = some c9
abbrev yH (g : Nat) (c0 c1 c2 c3 c4 c5 c6 c7 c8 c9 c10 : Value) (w : World) : Prop := w.cell? ⟨g, 0, none⟩ = some c0 ∧ w.cell? ⟨g, 1, none⟩ = some c1 ∧ w.cell? ⟨g, 2, none⟩ = some c2 ∧ w.cell? ⟨g, 3, none⟩ = some c3 ∧ w.cell? ⟨g, 4, none⟩ = some c4 ∧ w.cell? ⟨g, 5, none⟩ = some c5 ∧ w.cell? ⟨g, 6, none⟩ = some c6 ∧ w.cell? ⟨g, 7, none⟩ = some c7 ∧ w.cell? ⟨g, 8, none⟩ = some c8 ∧ w.cell? ⟨g, 9, none⟩ = some c9 ∧ w.cell? ⟨g, 10, none⟩ = some c10
theorem gr (h : w.heap[g]? = some (.cells #[c0, c1, c2, c3, c4, c5, c6, c7, c8, c9, c10] t (0, 0))) : yH g c0 c1 c2 c3 c4 c5 c6 c7 c8 c9 c10 w := ⟨(aA h 0).trans rfl, (aA h 1).trans rfl, (aA h 2).trans rfl, (aA h 3).trans rfl, (aA h 4).trans rfl, (aA h 5).trans rfl, (aA h 6).trans rfl, (aA h 7).trans rfl, (aA h 8).trans rfl, (aA h 9).trans rfl, (aA h 10).trans rfl⟩
theorem eN (h : w.heap[g]? = some (.cells #[c0, c1, c2, c3, c4, c5, c6, c7, c8, c9, c10] t (0, 0))) : (w.cell? ⟨g, 0, none⟩ = some c0 ∧ w.cell? ⟨g, 1, none⟩ = some c1 ∧ w.cell? ⟨g, 2, none⟩ = some c2 ∧ w.cell? ⟨g, 3, none⟩ = some c3 ∧ w.cell? ⟨g, 4, none⟩ = some c4 ∧ w.cell? ⟨g, 5, none⟩ = some c5 ∧ w.cell? ⟨g, 6, none⟩ = some c6 ∧ w.cell? ⟨g, 7, none⟩ = some c7 ∧ w.cell? ⟨g, 8, none⟩ = some c8 ∧ w.cell? ⟨g, 9, none⟩ = some c9 ∧ w.cell? ⟨g, 10, none⟩ = some c10) ∧ ∀ i, w.frozen? ⟨g, i, none⟩ = false := ⟨gr h, fun i => ev h i⟩
abbrev zl (g : Nat) (c0 c1 c2 c3 c4 c5 c6 c7 c8 c9 c10 c11 : Value) (w : World) : Prop := w.cell? ⟨g, 0, none⟩ = some c0 ∧ w.cell? ⟨g, 1, none⟩ = some c1 ∧ w.cell? ⟨g, 2, none⟩ = some c2 ∧ w.cell? ⟨g, 3, none⟩ = some c3 ∧ w.cell? ⟨g, 4, none⟩ = some c4 ∧ w.cell? ⟨g, 5, none⟩ = some c5 ∧ w.cell? ⟨g, 6, none⟩ = some c6 ∧ w.cell? ⟨g, 7, none⟩ = some c7 ∧ w.cell? ⟨g, 8, none⟩ = some c8 ∧ w.cell? ⟨g, 9, none⟩ = some c9 ∧ w.cell? ⟨g, 10, none⟩ = some c10 ∧ w.cell? ⟨g, 11, none⟩ = some c11
end
theorem xm1 {α β : Type} (f : α → β) (l : List α) : l.toArray.map f = (l.map f).toArray := by simp
theorem xm2 {α β : Type} (f : α → β) (a : α) (l : List α) : (a :: l).map f = f a :: l.map f := rfl
theorem xm3 {α β : Type} (f : α → β) : ([] : List α).map f = [] := rfl
def xW (T : List (List Nat × List Nat)) : List Nat := T.foldl (fun B r => B ++ [upM B B.length r.1]) []
section
variable {P : Program} {ops : Array Oper} {Q : Exit → Act → World → Prop} {S : World → Prop} {ds : List Nat} {md : Region.Mode}
theorem xsr {id : Nat} {a : Act} {w : World} {l : Array Bool} (n : Nat) (ds : List Nat) (hS : S w.drew) (h : S w.drew → aG P .any ops Q S ds n l a w.drew)
    (hm : P.follows .mixedOrders = true := by kernel_rfl) (hn : ops.size = n := by rfl) (hl : (List.replicate n false).toArray = l := by simp only [List.replicate_succ, List.replicate_zero]; rfl) : (Code.region id ops true).wp P Q a w :=
  nW l hm hn (by subst hl; simp) hS h
theorem xpu {oi : Oper} {v : Value} {fuel : Nat} {l l' : Array Bool} {a a' : Act} {w : World} (i : Nat) (N : Tmp) (h : aG P md ops Q S ds fuel l' a' w)
    (hi : ops[i]? = some oi := by rfl) (hN : oi.dst = some N := by rfl)
    (hl : l.setIfInBounds i true = l' := by simp only [List.setIfInBounds_toArray, List.set_cons_zero, List.set_cons_succ]; rfl)
    (hc : tz (fy md ops) l.toList l'.toList i = true := by kernel_rfl)
    (hQ : ∀ c a w, Q (.panic c) (a.put oi.dst v) w → Q (.panic c) a w := by exact fun _ _ _ h => h)
    (hw : Region.wanted oi (yielded ops a.tmps) = true := by rfl)
    (hv : ∀ w, (execOp a.eval oi).run P w = .ok (.value v) w := by intro w'; go_simp; with_reducible rfl)
    (ha : a.put (some N) v = a' := by simp only [Act.put, List.setIfInBounds_toArray, List.set_cons_zero, List.set_cons_succ, am, ao]; rfl) : aG P md ops Q S ds (fuel + 1) l a w :=
  gz l' hi hN (uJ rfl hc) hQ (Or.inl ⟨hw, hv⟩) ha h
theorem xpo {oi : Oper} {fuel : Nat} {l l' : Array Bool} {a a' : Act} {w : World} (i : Nat) (N : Tmp) (h : aG P md ops Q S ds fuel l' a' w)
    (hi : ops[i]? = some oi := by rfl) (hN : oi.dst = some N := by rfl)
    (hl : l.setIfInBounds i true = l' := by simp only [List.setIfInBounds_toArray, List.set_cons_zero, List.set_cons_succ]; rfl)
    (hc : tz (fy md ops) l.toList l'.toList i = true := by kernel_rfl)
    (hQ : ∀ c a w, Q (.panic c) (a.put oi.dst undef) w → Q (.panic c) a w := by exact fun _ _ _ h => h)
    (hw : Region.wanted oi (yielded ops a.tmps) = false := by rfl)
    (ha : a.put (some N) undef = a' := by simp only [Act.put, List.setIfInBounds_toArray, List.set_cons_zero, List.set_cons_succ, am, ao]; rfl) : aG P md ops Q S ds (fuel + 1) l a w :=
  gz l' hi hN (uJ rfl hc) hQ (Or.inr ⟨hw, rfl⟩) ha h
theorem xtk {oi : Oper} {v : Value} {fuel : Nat} {l l' : Array Bool} {a a' : Act} {w : World} (i : Nat) (N : Tmp) (h : aG P md ops Q S ds fuel l' a' w)
    (hB : pU (fy md ops).2 (xW (fy md ops).2) = true := by kernel_rfl) (hS : S w := by exact hHeld) (hi : ops[i]? = some oi := by rfl) (hN : oi.dst = some N := by rfl)
    (hl : l.setIfInBounds i true = l' := by simp only [List.setIfInBounds_toArray, List.set_cons_zero, List.set_cons_succ]; rfl)
    (hc : uA (fy md ops) (xW (fy md ops).2) ds l.toList l'.toList i = true := by kernel_rfl)
    (hQ : ∀ c a w, Q (.panic c) (a.put oi.dst v) w → Q (.panic c) a w := by exact fun _ _ _ h => h)
    (hw : Region.wanted oi (yielded ops a.tmps) = true := by rfl)
    (hv : ∀ w, S w → (execOp a.eval oi).run P w = .ok (.value v) w := by intro w' hs_; (try simp only [xS1, xS2, xS3, xS4, xS5, xS6, xS7, xS8, xS9, zk, yH, zl] at hs_); go_simp; with_reducible rfl)
    (ha : a.put (some N) v = a' := by simp only [Act.put, List.setIfInBounds_toArray, List.set_cons_zero, List.set_cons_succ, am, ao]; rfl) : aG P md ops Q S ds (fuel + 1) l a w :=
  take_ l' hi hN (wW rfl hB hc) hQ (Or.inl ⟨hw, hv⟩) hS ha h
theorem xon {oi : Oper} {v : Value} {R : World → Prop} {fuel : Nat} {l l' : Array Bool} {a a' : Act} {w : World} {f : FuncId} {fn : Func} {asx : Array Operand} {ts : Array TypeId} {args : Array Value} (i : Nat) (N : Tmp) (hf : P.funcs[f]? = some fn)
    (C : Calls P f args w fun e w' => e = .returned v ∧ R w') (h : ∀ w', R w' → S w' ∧ (S w' → aG P md ops Q S ds fuel l' a' w'))
    (hi : ops[i]? = some oi := by rfl) (hN : oi.dst = some N := by rfl)
    (hl : l.setIfInBounds i true = l' := by simp only [List.setIfInBounds_toArray, List.set_cons_zero, List.set_cons_succ]; rfl)
    (hc : (jv (fy md ops).2 l.toList == [i] && l.toList.set i true == l'.toList) = true := by kernel_rfl) (hd : i ∉ ds := by decide)
    (hop : oi.op = .call { callee := .value (.func f), args := asx, argTypes := ts } := by rfl) (hname : (fn.name == "runtime.NumGoroutine") = false := by kernel_rfl) (hb : fn.body.isSome = true := by rfl)
    (hw : Region.wanted oi (yielded ops a.tmps) = true := by rfl)
    (hargs : asx.map a.eval = args := by (try simp only [List.map_toArray, List.map_cons, List.map_nil]); first | done | rfl | (simp only [List.length_drop, List.length_take]; rfl))
    (ha : a.put (some N) v = a' := by simp only [Act.put, List.setIfInBounds_toArray, List.set_cons_zero, List.set_cons_succ, am, ao]; rfl) : aG P md ops Q S ds (fuel + 1) l a w :=
  ld l' hi hN (lX rfl hc) hd fun K hK => o9 hf hname hb args hw hN hop hargs (C.mono fun e w' ⟨he, hr⟩ => ⟨v, he, hK.out _ _ (h w' hr).1 (fun hs => ha ▸ (h w' hr).2 hs)⟩)
theorem xos {oi : Oper} {fuel : Nat} {l l' : Array Bool} {a : Act} {w w1 : World} (i : Nat) (h : S w1 ∧ (S w1 → aG P md ops Q S ds fuel l' a w1))
    (hi : ops[i]? = some oi := by rfl) (hN : oi.dst = none := by rfl)
    (hl : l.setIfInBounds i true = l' := by simp only [List.setIfInBounds_toArray, List.set_cons_zero, List.set_cons_succ]; rfl)
    (hc : (jv (fy md ops).2 l.toList == [i] && l.toList.set i true == l'.toList) = true := by kernel_rfl) (hd : i ∉ ds := by decide)
    (hw : Region.wanted oi (yielded ops a.tmps) = true := by rfl) (hrun : (execOp a.eval oi).run P w = .ok .skip w1 := by go_simp; rfl) : aG P md ops Q S ds (fuel + 1) l a w :=
  ld l' hi hN (lX rfl hc) hd fun K hK => mw hw hN hrun (hK.out _ _ h.1 h.2)
theorem xls {oi : Oper} {fuel : Nat} {l l' : Array Bool} {a : Act} {w w1 : World} (i : Nat) (h : aG P md ops Q S ds fuel l' a w1)
    (hi : ops[i]? = some oi := by rfl) (hN : oi.dst = none := by rfl)
    (hl : l.setIfInBounds i true = l' := by simp only [List.setIfInBounds_toArray, List.set_cons_zero, List.set_cons_succ]; rfl)
    (hc : (jv (fy md ops).2 l.toList == [i] && l.toList.set i true == l'.toList) = true := by kernel_rfl) (hd : i ∈ ds := by decide)
    (hw : Region.wanted oi (yielded ops a.tmps) = true := by rfl) (hrun : (execOp a.eval oi).run P w = .ok .skip w1 := by go_simp; rfl) : aG P md ops Q S ds (fuel + 1) l a w :=
  yU l' hi hN (lX rfl hc) hd fun K hK => mw hw hN hrun (hK.out _ _ h)
theorem xdn {l : Array Bool} {a : Act} {w : World} {n : Nat} (h : Q .normal a w) (hc : (jv (fy md ops).2 l.toList == []) = true := by kernel_rfl) : aG P md ops Q S ds n l a w := o6 (xz rfl hc) h
end
section
variable {P : Program} {ops : Array Oper} {rest : List Oper} {o : Oper} {a : Act} {Q : Exit → Act → World → Prop}
theorem xca {w : World} {v : Value} {R : World → Prop} (N : Tmp) {f : FuncId} {fn : Func} {asx : Array Operand} {ts : Array TypeId} (hf : P.funcs[f]? = some fn) {args : Array Value}
    (C : Calls P f args w fun e w' => e = .returned v ∧ R w') (h : ∀ w', R w' → wpList P ops Q rest (a.put (some N) v) w')
    (hop : o.op = .call { callee := .value (.func f), args := asx, argTypes := ts } := by rfl) (hd : o.dst = some N := by rfl) (hg : o.guard = none := by rfl)
    (hname : (fn.name == "runtime.NumGoroutine") = false := by kernel_rfl) (hb : fn.body.isSome = true := by rfl)
    (hargs : asx.map a.eval = args := by (try simp only [List.map_toArray, List.map_cons, List.map_nil]); first | done | rfl | (simp only [List.length_drop, List.length_take]; rfl)) : wpList P ops Q (o :: rest) a w :=
  gZ (some N) hd hg hf hname hb args hop hargs (C.mono fun e w' ⟨he, hr⟩ => ⟨v, he, h w' hr⟩)
theorem xgc {W : World} {f : FuncId} {asx : Array Operand} {ts : Array TypeId} (_ho : o.op = .call { callee := .value (.func f), args := asx, argTypes := ts }) (h : wpList P ops Q (o :: rest) a W) : wpList P ops Q (o :: rest) a W := h
end
section
variable {α : Type} {x y z : Option α} {G : Prop}
theorem xib {b : Bool} (H : (if b = true then x else y) = z) (h1 : b = true → x = z → G) (h2 : b = false → y = z → G) : G := by
  cases b with
  | true => exact h1 rfl (by rw [if_pos rfl] at H; exact H)
  | false => exact h2 rfl (by rw [if_neg (by decide)] at H; exact H)
theorem xid {c : Prop} [Decidable c] (H : (if c then x else y) = z) (h1 : c → x = z → G) (h2 : ¬c → y = z → G) : G := by
  by_cases hc : c
  · exact h1 hc (by rw [if_pos hc] at H; exact H)
  · exact h2 hc (by rw [if_neg hc] at H; exact H)
theorem xin {c : Prop} [Decidable c] {r : α} (H : (if c then x else none) = some r) (h : c → x = some r → G) : G := by
  by_cases hc : c
  · exact h hc (by rw [if_pos hc] at H; exact H)
  · rw [if_neg hc] at H
    exact absurd H (by simp)
theorem xbd {β : Type} {f : α → Option β} {r : β} (H : x.bind f = some r) : ∃ t, Zz (x = some t) ∧ f t = some r := by
  obtain ⟨t, h1, h2⟩ := Option.bind_eq_some_iff.mp H
  exact ⟨t, ⟨h1⟩, h2⟩
end
theorem xcp {c : Prop} [Decidable c] (h : c) : (c = True) ∧ decide c = true := ⟨eq_true h, decide_eq_true h⟩
theorem uB {w : World} {g b i : Nat} {t : TypeId} {cs : Array Value} {u : Value} (h : w.heap[g]? = some (.cells cs t (0, 0))) (hp : Zz (g ≠ b)) : (w.setCell ⟨b, i, none⟩ u).heap[g]? = some (.cells cs t (0, 0)) := i2 h hp.out u
theorem xbK {p : Prop} (h : p := by repeat (with_reducible first | refine ig ?_ _ | refine bP ?_ | refine iH ?_ _ | exact Zz.out (by assumption) | refine uB ?_ (by assumption) | apply rE | apply rF | apply rG | apply rH | apply rI | apply rJ | apply rK | apply rL | apply rM | apply rN | apply rO | apply rP | apply rQ | apply rR | apply rS | apply rT | apply rU | apply rV | apply rW | apply rX | apply rY | apply rZ | apply sa | apply sb | apply sc | apply sd | apply se | apply sf | apply sg | apply si | apply sj | apply sk | apply sl | apply sm | apply sn | apply so | apply sp | apply sq | apply sr | apply ss | apply st | apply su | apply sv | apply sw | apply sx)) : p := h
theorem xbq (g : Nat) {W w1 : World} {cs cs' : Array Value} {t : TypeId} (hb : Below W.heap.size W w1) (h1 : W.heap[g]? = some (.cells cs t (0, 0)) := by repeat (first | (with_reducible first | refine ig ?_ _ | refine bP ?_ | refine iH ?_ _ | exact Zz.out (by assumption) | refine uB ?_ (by assumption) | refine fW ?_ _ _)))
    (h2 : cs = cs' := by (try simp only [List.setIfInBounds_toArray, List.set_cons_zero, List.set_cons_succ]); rfl) : Zz (w1.heap[g]? = some (.cells cs' t (0, 0))) := ⟨h2 ▸ qa h1 hb⟩
theorem xbr (g : Nat) {W w1 : World} {n : Nat} {cs cs' : Array Value} {t : TypeId} (hq : W.drewN n = w1) (h1 : W.heap[g]? = some (.cells cs t (0, 0)) := by repeat (first | (with_reducible first | refine ig ?_ _ | refine bP ?_ | refine iH ?_ _ | exact Zz.out (by assumption) | refine uB ?_ (by assumption) | refine fW ?_ _ _)))
    (h2 : cs = cs' := by (try simp only [List.setIfInBounds_toArray, List.set_cons_zero, List.set_cons_succ]); rfl) : Zz (w1.heap[g]? = some (.cells cs' t (0, 0))) := ⟨by rw [← hq, ← h2]; exact ig h1 _⟩
theorem ca (g : Nat) {W w1 : World} {gs : Nat} {cs cs' : Array Value} {t : TypeId} (hk : KeepBut W w1 gs none) (hn : Zz (g ≠ gs)) (h1 : W.heap[g]? = some (.cells cs t (0, 0)) := by repeat (first | (with_reducible first | refine ig ?_ _ | refine bP ?_ | refine iH ?_ _ | exact Zz.out (by assumption) | refine uB ?_ (by assumption) | refine fW ?_ _ _)))
    (h2 : cs = cs' := by (try simp only [List.setIfInBounds_toArray, List.set_cons_zero, List.set_cons_succ]); rfl) : Zz (w1.heap[g]? = some (.cells cs' t (0, 0))) := ⟨h2 ▸ KeepBut.blk hk h1 hn.out (by simp)⟩
theorem xoj {p q : Prop} (H : Zz q) (h : q → p := by intro hq_; first | omega | exact Nat.le_refl _) : p := h H.out
theorem xoJ {p q r : Prop} (H : Zz q) (K : Zz r) (h : q → r → p := by intro hq_ hr_; first | omega | exact Nat.le_refl _) : p := h H.out K.out
theorem xiv (s : ByteArray) (i : Int) (hp : 0 ≤ i) (hq : i < (s.size : Int)) : ((0 ≤ i) = True) ∧ ((i < (s.size : Int)) = True) ∧ ∀ h : i.toNat < s.size, ((s[i.toNat]'h).toNat : Int) = bt s i := ⟨eq_true hp, eq_true hq, nf s i⟩
theorem xi0 (s : ByteArray) (hq : (0 : Int) < (s.size : Int)) : ((0 < s.size) = True) ∧ ((0 < (s.size : Int)) = True) ∧ ∀ h : 0 < s.size, ((s[0]'h).toNat : Int) = bt s 0 := ⟨eq_true (by omega), eq_true hq, nf s 0⟩
theorem xdd {p : Prop} (h : p := by first | exact ⟨rfl, _, World.drewN_drewN _ _ _⟩ | exact ⟨rfl, _, Eq.trans (World.drewN_drewN _ _ _) (congrArg (World.drewN _) (Nat.add_assoc _ _ _))⟩) : p := h
theorem xqe {α : Type} [BEq α] [LawfulBEq α] {a b : α} (h : a = b) : ((a == b) = true) ∧ (a != b) = false := ⟨beq_iff_eq.mpr h, bne_eq_false_iff_eq.mpr h⟩
theorem xqn {α : Type} [BEq α] [LawfulBEq α] {a b : α} (h : ¬ a = b) : ((a == b) = false) ∧ (a != b) = true := ⟨beq_eq_false_iff_ne.mpr h, bne_iff_ne.mpr h⟩
theorem xdt {p : Prop} [Decidable p] (h : p) : decide p = true := decide_eq_true h
theorem xdf {p : Prop} [Decidable p] (h : ¬ p) : decide p = false := decide_eq_false h
theorem xwr {P : Program} {ops : Array Oper} {rest : List Oper} {o : Oper} {a : Act} {w w0 : World} {Q : Exit → Act → World → Prop} (ty : TypeId) (x y : Tmp) {g : Nat} {cells old : Array Value} {t : TypeId} (n : Nat)
    (hg : Zz (w.heap[g]? = some (.cells old t (0, 0)))) (hB : Zz (w0.heap.size ≤ g))
    (h : ∀ w', Zz (w'.heap[g]? = some (.cells cells t (0, 0))) → Zz (Below w0.heap.size w0 w') → wpList P ops Q rest (a.put o.dst undef) w')
    (hb : Zz (Below w0.heap.size w0 w) := by exact HB) (hgd : o.guard = none := by rfl) (ho : o.op = .store ty (.tmp x) (.tmp y) := by rfl) (hx : a.eval (.tmp x) = .pointer (some ⟨g, 0, none⟩) := by rfl) (hy : a.eval (.tmp y) = .agg cells := by rfl)
    (hi : (P.info? ty).map (·.size) = some n := by kernel_rfl) (hn : n = cells.size := by rfl) (hold : old.size = cells.size := by rfl) (h1 : cells.all (·.oneCell') = true := by rfl) : wpList P ops Q (o :: rest) a w :=
  yI hgd ty (.tmp x) (.tmp y) ho g cells hx hy t old hg.out (hi.trans (congrArg some hn)) hold h1 hb.out hB.out (fun w' h2 h3 => h w' ⟨h2⟩ ⟨h3⟩)
theorem xl1 {α : Type} {l : List α} {i : Nat} {a : α} : l.toArray.setIfInBounds i a = (l.set i a).toArray := List.setIfInBounds_toArray ..
theorem xl2 {α : Type} {x a : α} {l : List α} : (x :: l).set 0 a = a :: l := rfl
theorem xl3 {α : Type} {x a : α} {l : List α} {n : Nat} : (x :: l).set (n + 1) a = x :: l.set n a := rfl
theorem xrd {p : Prop} (h : p := by first | rfl | (simp [b7, b8] <;> first | rfl | (simp only [fl, bne, Bool.not_not]; done))) : p := h
theorem xrs {p : Prop} (h : p := by first | rfl | (simp; done)) : p := h
theorem xa {p : Prop} (h : p) : Zz p := ⟨h⟩
theorem xew {P : Program} {ops : Array Oper} {rest : List Oper} {o : Oper} {a : Act} {Q : Exit → Act → World → Prop} {w W : World} (N : Tmp) {cs : Array Value} {t : TypeId}
    (h : ∀ g w1, Zz (w1.heap[g]? = some (.cells cs t (0, 0))) → Zz (w.heap.size ≤ g) → Below W.heap.size W w1 → g = W.heap.size → wpList P ops Q rest (a.put o.dst (.pointer (some ⟨g, 0, none⟩))) w1)
    (hd : o.dst = some N := by rfl) (hgd : o.guard = none := by rfl)
    (hrun : (execOp a.eval o).run P W = .ok (.value (.pointer (some ⟨W.heap.size, 0, none⟩))) (W.alloc (.cells cs t (0, 0))) := by first | (go_simp; done) | (go_simp; rfl))
    (hb : Below w.heap.size w W := by repeat (first | (with_reducible first | exact HB.out | apply d5 | apply fv | apply aM | refine ie ?_ (Zz.out (by assumption))) | exact HB.out)) : wpList P ops Q (o :: rest) a W :=
  xev N cs t (fun g hg w1 hx hb1 => h g w1 ⟨hx⟩ ⟨by rw [hg]; exact aH hb⟩ hb1 hg) hd hgd hrun
theorem xG {p : Prop} (h : p := by first | (with_reducible exact hG) | exact fZ hG xbl) : p := h
theorem xk {p : Prop} (h : p := by repeat (first | (with_reducible first | exact HK.out | apply KeepBut.set_ | apply tW | apply ek | apply tV | refine wt ?_ (Zz.out (by assumption)) _) | exact HK.out)) : p := h
end Go.Proofs.YtpmflpeckoeooaaGreatDoorW.PrintMore
namespace Go.Proofs
open Go.Shelf
def Tryz.lays137_ren : Go.Shelf.Ren := ⟨fun | 137 => 69 | 217 => 90 | 266 => 103 | n => n, fun | 9 => 9 | 5 => 5 | 3 => 3 | n => n, fun | n => n⟩
theorem Tryz.lays137 : Go.Proofs.Lays.n137 Tryz.prog Tryz.lays137_ren := {
  mixed := by kernel_rfl
  f137 := Tryz.func69.trans (congrArg some (by kernel_rfl))
  f217 := Tryz.func90.trans (congrArg some (by kernel_rfl))
  f266 := Tryz.func103.trans (congrArg some (by kernel_rfl))
  t3 := Tryz.underlying3
  a3 := Tryz.isAgg3
  z3 := Tryz.sizeOf3
  v3 := Tryz.zeroValue3
  t5 := Tryz.underlying5
  a5 := Tryz.isAgg5
  z5 := Tryz.sizeOf5
  v5 := Tryz.zeroValue5
  t9 := Tryz.underlying9
  a9 := Tryz.isAgg9
  z9 := Tryz.sizeOf9
  v9 := Tryz.zeroValue9 }
open Go.RowKit in
theorem Tryz.strings_IndexByte (s : ByteArray) (c : Int) (w : World) :
    Calls Tryz.prog 69 #[.string s, .int .u8 c] w fun e w' => e = .returned (.int .i64 (Lib.indexByte s.data.toList c.toNat.toUInt8)) ∧ w' = w := Any.strings_IndexByte Tryz.lays137 s c w
open Go.RowKit in
def Tryz.lays217_ren : Go.Shelf.Ren := ⟨fun | 217 => 90 | 266 => 103 | n => n, fun | 9 => 9 | 5 => 5 | 3 => 3 | n => n, fun | n => n⟩
theorem Tryz.lays217 : Go.Proofs.Lays.n217 Tryz.prog Tryz.lays217_ren := {
  mixed := by kernel_rfl
  f217 := Tryz.func90.trans (congrArg some (by kernel_rfl))
  f266 := Tryz.func103.trans (congrArg some (by kernel_rfl))
  t3 := Tryz.underlying3
  a3 := Tryz.isAgg3
  z3 := Tryz.sizeOf3
  v3 := Tryz.zeroValue3
  t5 := Tryz.underlying5
  a5 := Tryz.isAgg5
  z5 := Tryz.sizeOf5
  v5 := Tryz.zeroValue5
  t9 := Tryz.underlying9
  a9 := Tryz.isAgg9
  z9 := Tryz.sizeOf9
  v9 := Tryz.zeroValue9 }
open Go.RowKit Go.Lib in
theorem Tryz.stringslite_IndexByte (s : ByteArray) (c : Int) (w : World) :
    Calls Tryz.prog 90 #[.string s, .int .u8 c] w fun e w' => e = .returned (.int .i64 (Lib.indexByte s.data.toList c.toNat.toUInt8)) ∧ w' = w := Any.stringslite_IndexByte Tryz.lays217 s c w
open Go.RowKit Go.Lib in
def Tryz.lays219_ren : Go.Shelf.Ren := ⟨fun | 219 => 113 | 217 => 90 | 225 => 72 | 224 => 71 | 267 => 117 | 266 => 103 | 314 => 121 | n => n, fun | 9 => 9 | 3 => 3 | 4 => 4 | 5 => 5 | 46 => 87 | 146 => 141 | 51 => 140 | n => n, fun | 1 => 0 | n => n⟩
theorem Tryz.lays219 : Go.Proofs.Lays.n219 Tryz.prog Tryz.lays219_ren := {
  mixed := by kernel_rfl
  f217 := Tryz.func90.trans (congrArg some (by kernel_rfl))
  f219 := Tryz.func113.trans (congrArg some (by kernel_rfl))
  f224 := Tryz.func71.trans (congrArg some (by kernel_rfl))
  f225 := Tryz.func72.trans (congrArg some (by kernel_rfl))
  f266 := Tryz.func103.trans (congrArg some (by kernel_rfl))
  f267 := Tryz.func117.trans (congrArg some (by kernel_rfl))
  f314 := Tryz.func121.trans (congrArg some (by kernel_rfl))
  t3 := Tryz.underlying3
  a3 := Tryz.isAgg3
  z3 := Tryz.sizeOf3
  v3 := Tryz.zeroValue3
  t4 := Tryz.underlying4
  a4 := Tryz.isAgg4
  z4 := Tryz.sizeOf4
  v4 := Tryz.zeroValue4
  t5 := Tryz.underlying5
  a5 := Tryz.isAgg5
  z5 := Tryz.sizeOf5
  v5 := Tryz.zeroValue5
  t9 := Tryz.underlying9
  a9 := Tryz.isAgg9
  z9 := Tryz.sizeOf9
  v9 := Tryz.zeroValue9
  t46 := Tryz.underlying87
  a46 := Tryz.isAgg87
  z46 := Tryz.sizeOf87
  v46 := Tryz.zeroValue87
  t51 := Tryz.underlying140
  a51 := Tryz.isAgg140
  z51 := Tryz.sizeOf140
  v51 := Tryz.zeroValue140
  t146 := Tryz.underlying141
  a146 := Tryz.isAgg141
  z146 := Tryz.sizeOf141
  v146 := Tryz.zeroValue141
  g1 := by kernel_rfl }
open Go.RowKit Go.Lib in
theorem Tryz.stringslite_Index (s sub : ByteArray) (m : Int) (w : World) (hs : s.size < 4294967281) (hm : w.cell? ⟨0, 0, none⟩ = some (.int .i64 m)) :
    Calls Tryz.prog 113 #[.string s, .string sub] w fun e w' => e = .returned (.int .i64 (Lib.index s.data.toList sub.data.toList)) ∧ w' = w := Any.stringslite_Index Tryz.lays219 s sub m w hs hm
open Go.RowKit Go.Lib in
def Tryz.lays220_ren : Go.Shelf.Ren := ⟨fun | 220 => 110 | 219 => 113 | 217 => 90 | 225 => 72 | 224 => 71 | 267 => 117 | 266 => 103 | 314 => 121 | n => n, fun | 9 => 9 | 4 => 4 | 3 => 3 | 5 => 5 | 46 => 87 | 146 => 141 | 51 => 140 | n => n, fun | 1 => 0 | n => n⟩
theorem Tryz.lays220 : Go.Proofs.Lays.n220 Tryz.prog Tryz.lays220_ren := {
  mixed := by kernel_rfl
  f217 := Tryz.func90.trans (congrArg some (by kernel_rfl))
  f219 := Tryz.func113.trans (congrArg some (by kernel_rfl))
  f220 := Tryz.func110.trans (congrArg some (by kernel_rfl))
  f224 := Tryz.func71.trans (congrArg some (by kernel_rfl))
  f225 := Tryz.func72.trans (congrArg some (by kernel_rfl))
  f266 := Tryz.func103.trans (congrArg some (by kernel_rfl))
  f267 := Tryz.func117.trans (congrArg some (by kernel_rfl))
  f314 := Tryz.func121.trans (congrArg some (by kernel_rfl))
  t3 := Tryz.underlying3
  a3 := Tryz.isAgg3
  z3 := Tryz.sizeOf3
  v3 := Tryz.zeroValue3
  t4 := Tryz.underlying4
  a4 := Tryz.isAgg4
  z4 := Tryz.sizeOf4
  v4 := Tryz.zeroValue4
  t5 := Tryz.underlying5
  a5 := Tryz.isAgg5
  z5 := Tryz.sizeOf5
  v5 := Tryz.zeroValue5
  t9 := Tryz.underlying9
  a9 := Tryz.isAgg9
  z9 := Tryz.sizeOf9
  v9 := Tryz.zeroValue9
  t46 := Tryz.underlying87
  a46 := Tryz.isAgg87
  z46 := Tryz.sizeOf87
  v46 := Tryz.zeroValue87
  t51 := Tryz.underlying140
  a51 := Tryz.isAgg140
  z51 := Tryz.sizeOf140
  v51 := Tryz.zeroValue140
  t146 := Tryz.underlying141
  a146 := Tryz.isAgg141
  z146 := Tryz.sizeOf141
  v146 := Tryz.zeroValue141
  g1 := by kernel_rfl }
open Go.RowKit Go.Lib in
theorem Tryz.stringslite_Cut (s sep : ByteArray) (m : Int) (w : World) (hs : s.size < 4294967281) (hm : w.cell? ⟨0, 0, none⟩ = some (.int .i64 m)) :
    Calls Tryz.prog 110 #[.string s, .string sep] w fun e w' => e = .returned (.tuple #[.string ⟨(Lib.cut s.data.toList sep.data.toList).1.toArray⟩, .string ⟨(Lib.cut s.data.toList sep.data.toList).2.1.toArray⟩, .bool (Lib.cut s.data.toList sep.data.toList).2.2]) ∧ ∃ n, w' = w.drewN n := Any.stringslite_Cut Tryz.lays220 s sep m w hs hm
def Tryz.lays145_ren : Go.Shelf.Ren := ⟨fun | 145 => 104 | 220 => 110 | 219 => 113 | 217 => 90 | 225 => 72 | 224 => 71 | 267 => 117 | 266 => 103 | 314 => 121 | n => n, fun | 9 => 9 | 4 => 4 | 59 => 126 | 3 => 3 | 5 => 5 | 46 => 87 | 146 => 141 | 51 => 140 | n => n, fun | 1 => 0 | n => n⟩
theorem Tryz.lays145 : Go.Proofs.Lays.n145 Tryz.prog Tryz.lays145_ren := {
  mixed := by kernel_rfl
  f145 := Tryz.func104.trans (congrArg some (by kernel_rfl))
  f217 := Tryz.func90.trans (congrArg some (by kernel_rfl))
  f219 := Tryz.func113.trans (congrArg some (by kernel_rfl))
  f220 := Tryz.func110.trans (congrArg some (by kernel_rfl))
  f224 := Tryz.func71.trans (congrArg some (by kernel_rfl))
  f225 := Tryz.func72.trans (congrArg some (by kernel_rfl))
  f266 := Tryz.func103.trans (congrArg some (by kernel_rfl))
  f267 := Tryz.func117.trans (congrArg some (by kernel_rfl))
  f314 := Tryz.func121.trans (congrArg some (by kernel_rfl))
  t3 := Tryz.underlying3
  a3 := Tryz.isAgg3
  z3 := Tryz.sizeOf3
  v3 := Tryz.zeroValue3
  t4 := Tryz.underlying4
  a4 := Tryz.isAgg4
  z4 := Tryz.sizeOf4
  v4 := Tryz.zeroValue4
  t5 := Tryz.underlying5
  a5 := Tryz.isAgg5
  z5 := Tryz.sizeOf5
  v5 := Tryz.zeroValue5
  t9 := Tryz.underlying9
  a9 := Tryz.isAgg9
  z9 := Tryz.sizeOf9
  v9 := Tryz.zeroValue9
  t46 := Tryz.underlying87
  a46 := Tryz.isAgg87
  z46 := Tryz.sizeOf87
  v46 := Tryz.zeroValue87
  t51 := Tryz.underlying140
  a51 := Tryz.isAgg140
  z51 := Tryz.sizeOf140
  v51 := Tryz.zeroValue140
  t59 := Tryz.underlying126
  a59 := Tryz.isAgg126
  z59 := Tryz.sizeOf126
  v59 := Tryz.zeroValue126
  t146 := Tryz.underlying141
  a146 := Tryz.isAgg141
  z146 := Tryz.sizeOf141
  v146 := Tryz.zeroValue141
  g1 := by kernel_rfl }
open Go.RowKit Go.Lib in
theorem Tryz.strings_Cut (s sep : ByteArray) (m : Int) (w : World) (hs : s.size < 4294967281) (hm : w.cell? ⟨0, 0, none⟩ = some (.int .i64 m)) :
    Calls Tryz.prog 104 #[.string s, .string sep] w fun e w' => e = .returned (.tuple #[.string ⟨(Lib.cut s.data.toList sep.data.toList).1.toArray⟩, .string ⟨(Lib.cut s.data.toList sep.data.toList).2.1.toArray⟩, .bool (Lib.cut s.data.toList sep.data.toList).2.2]) ∧ ∃ n, w' = w.drewN n := Any.strings_Cut Tryz.lays145 s sep m w hs hm
open Go.RowKit Go.Lib in
def Tryz.lays149_ren : Go.Shelf.Ren := ⟨fun | 149 => 75 | 222 => 92 | n => n, fun | 9 => 9 | 5 => 5 | 3 => 3 | 4 => 4 | n => n, fun | n => n⟩
theorem Tryz.lays149 : Go.Proofs.Lays.n149 Tryz.prog Tryz.lays149_ren := {
  mixed := by kernel_rfl
  f149 := Tryz.func75.trans (congrArg some (by kernel_rfl))
  f222 := Tryz.func92.trans (congrArg some (by kernel_rfl))
  t3 := Tryz.underlying3
  a3 := Tryz.isAgg3
  z3 := Tryz.sizeOf3
  v3 := Tryz.zeroValue3
  t4 := Tryz.underlying4
  a4 := Tryz.isAgg4
  z4 := Tryz.sizeOf4
  v4 := Tryz.zeroValue4
  t5 := Tryz.underlying5
  a5 := Tryz.isAgg5
  z5 := Tryz.sizeOf5
  v5 := Tryz.zeroValue5
  t9 := Tryz.underlying9
  a9 := Tryz.isAgg9
  z9 := Tryz.sizeOf9
  v9 := Tryz.zeroValue9 }
open Go.RowKit Go.Lib in
theorem Tryz.strings_LastIndexByte (s : ByteArray) (c : Int) (hs : s.size < 4611686018427387904) (w : World) :
    Calls Tryz.prog 75 #[.string s, .int .u8 c] w fun e w' => e = .returned (.int .i64 (Lib.lastIndexByte s c)) ∧ w' = w := Any.strings_LastIndexByte Tryz.lays149 s c hs w
def Tryz.lays206_ren : Go.Shelf.Ren := ⟨fun | 206 => 42 | n => n, fun | 9 => 9 | 4 => 4 | 3 => 3 | n => n, fun | n => n⟩
theorem Tryz.lays206 : Go.Proofs.Lays.n206 Tryz.prog Tryz.lays206_ren := {
  mixed := by kernel_rfl
  f206 := Tryz.func42.trans (congrArg some (by kernel_rfl))
  t3 := Tryz.underlying3
  a3 := Tryz.isAgg3
  z3 := Tryz.sizeOf3
  v3 := Tryz.zeroValue3
  t4 := Tryz.underlying4
  a4 := Tryz.isAgg4
  z4 := Tryz.sizeOf4
  v4 := Tryz.zeroValue4
  t9 := Tryz.underlying9
  a9 := Tryz.isAgg9
  z9 := Tryz.sizeOf9
  v9 := Tryz.zeroValue9 }
open Go.RowKit Go.Lib in
theorem Tryz.stringslite_HasPrefix (s p : ByteArray) (w : World) :
    Calls Tryz.prog 42 #[.string s, .string p] w fun e w' => e = .returned (.bool (Lib.hasPrefix s.data.toList p.data.toList)) ∧ w' = w := Any.stringslite_HasPrefix Tryz.lays206 s p w
def Tryz.lays99_ren : Go.Shelf.Ren := ⟨fun | 99 => 25 | 206 => 42 | n => n, fun | 9 => 9 | 4 => 4 | 3 => 3 | n => n, fun | n => n⟩
theorem Tryz.lays99 : Go.Proofs.Lays.n99 Tryz.prog Tryz.lays99_ren := {
  mixed := by kernel_rfl
  f99 := Tryz.func25.trans (congrArg some (by kernel_rfl))
  f206 := Tryz.func42.trans (congrArg some (by kernel_rfl))
  t3 := Tryz.underlying3
  a3 := Tryz.isAgg3
  z3 := Tryz.sizeOf3
  v3 := Tryz.zeroValue3
  t4 := Tryz.underlying4
  a4 := Tryz.isAgg4
  z4 := Tryz.sizeOf4
  v4 := Tryz.zeroValue4
  t9 := Tryz.underlying9
  a9 := Tryz.isAgg9
  z9 := Tryz.sizeOf9
  v9 := Tryz.zeroValue9 }
open Go.RowKit Go.Lib in
theorem Tryz.strings_HasPrefix (s p : ByteArray) (w : World) :
    Calls Tryz.prog 25 #[.string s, .string p] w fun e w' => e = .returned (.bool (Lib.hasPrefix s.data.toList p.data.toList)) ∧ w' = w := Any.strings_HasPrefix Tryz.lays99 s p w
open Go.RowKit Go.Lib in
def Tryz.lays146_ren : Go.Shelf.Ren := ⟨fun | 146 => 106 | 221 => 112 | 268 => 114 | 138 => 115 | 143 => 116 | 195 => 118 | 197 => 119 | 218 => 120 | 219 => 113 | 260 => 122 | 217 => 90 | 225 => 72 | 224 => 71 | 267 => 117 | 266 => 103 | 314 => 121 | n => n, fun | 9 => 9 | 31 => 123 | 3 => 3 | 4 => 4 | 0 => 0 | 105 => 138 | 21 => 21 | 5 => 5 | 46 => 87 | 119 => 143 | 139 => 146 | 138 => 145 | 146 => 141 | 51 => 140 | n => n, fun | 1 => 0 | 3 => 1 | 4 => 2 | n => n⟩
theorem Tryz.lays146 : Go.Proofs.Lays.n146 Tryz.prog Tryz.lays146_ren := {
  mixed := by kernel_rfl
  f138 := Tryz.func115.trans (congrArg some (by kernel_rfl))
  f143 := Tryz.func116.trans (congrArg some (by kernel_rfl))
  f146 := Tryz.func106.trans (congrArg some (by kernel_rfl))
  f195 := Tryz.func118.trans (congrArg some (by kernel_rfl))
  f197 := Tryz.func119.trans (congrArg some (by kernel_rfl))
  f217 := Tryz.func90.trans (congrArg some (by kernel_rfl))
  f218 := Tryz.func120.trans (congrArg some (by kernel_rfl))
  f219 := Tryz.func113.trans (congrArg some (by kernel_rfl))
  f221 := Tryz.func112.trans (congrArg some (by kernel_rfl))
  f224 := Tryz.func71.trans (congrArg some (by kernel_rfl))
  f225 := Tryz.func72.trans (congrArg some (by kernel_rfl))
  f260 := Tryz.func122.trans (congrArg some (by kernel_rfl))
  f266 := Tryz.func103.trans (congrArg some (by kernel_rfl))
  f267 := Tryz.func117.trans (congrArg some (by kernel_rfl))
  f268 := Tryz.func114.trans (congrArg some (by kernel_rfl))
  f314 := Tryz.func121.trans (congrArg some (by kernel_rfl))
  t0 := Tryz.underlying0
  a0 := Tryz.isAgg0
  z0 := Tryz.sizeOf0
  v0 := Tryz.zeroValue0
  t3 := Tryz.underlying3
  a3 := Tryz.isAgg3
  z3 := Tryz.sizeOf3
  v3 := Tryz.zeroValue3
  t4 := Tryz.underlying4
  a4 := Tryz.isAgg4
  z4 := Tryz.sizeOf4
  v4 := Tryz.zeroValue4
  t5 := Tryz.underlying5
  a5 := Tryz.isAgg5
  z5 := Tryz.sizeOf5
  v5 := Tryz.zeroValue5
  t9 := Tryz.underlying9
  a9 := Tryz.isAgg9
  z9 := Tryz.sizeOf9
  v9 := Tryz.zeroValue9
  t21 := Tryz.underlying21
  a21 := Tryz.isAgg21
  z21 := Tryz.sizeOf21
  v21 := Tryz.zeroValue21
  t31 := Tryz.underlying123
  a31 := Tryz.isAgg123
  z31 := Tryz.sizeOf123
  v31 := Tryz.zeroValue123
  t46 := Tryz.underlying87
  a46 := Tryz.isAgg87
  z46 := Tryz.sizeOf87
  v46 := Tryz.zeroValue87
  t51 := Tryz.underlying140
  a51 := Tryz.isAgg140
  z51 := Tryz.sizeOf140
  v51 := Tryz.zeroValue140
  t105 := Tryz.underlying138
  a105 := Tryz.isAgg138
  z105 := Tryz.sizeOf138
  v105 := Tryz.zeroValue138
  t119 := Tryz.underlying143
  a119 := Tryz.isAgg143
  z119 := Tryz.sizeOf143
  t138 := Tryz.underlying145
  a138 := Tryz.isAgg145
  z138 := Tryz.sizeOf145
  v138 := Tryz.zeroValue145
  t139 := Tryz.underlying146
  a139 := Tryz.isAgg146
  z139 := Tryz.sizeOf146
  v139 := Tryz.zeroValue146
  t146 := Tryz.underlying141
  a146 := Tryz.isAgg141
  z146 := Tryz.sizeOf141
  v146 := Tryz.zeroValue141
  g1 := by kernel_rfl
  g3 := by kernel_rfl
  g4 := by kernel_rfl }
open Go.RowKit Go.Lib in
theorem Tryz.strings_Split (s sep : ByteArray) (m : Int) (w : World) (hs : s.size < 4294967281) (hm : w.cell? ⟨0, 0, none⟩ = some (.int .i64 m)) (h1 : 1 ≤ sep.size) :
    Calls Tryz.prog 106 #[.string s, .string sep] w fun e w' =>
      e = .returned (.slice (some ⟨w.heap.size, 0, none⟩) (Lib.countB s sep + 1) (Lib.countB s sep + 1)) ∧ w' = w.alloc (.cells ((Lib.splitB sep 0 (Lib.countB s sep) s).map Value.string).toArray 9) := Any.strings_Split Tryz.lays146 (by kernel_rfl) s sep m w hs hm h1
open Go.RowKit Go.Lib in
def Tryz.laysPa45_ren : Go.Shelf.Ren := ⟨fun | 45 => 92 | n => n, fun | 9 => 9 | 5 => 5 | 3 => 3 | 4 => 4 | n => n, fun | n => n⟩
theorem Tryz.laysPa45 : Go.Proofs.Lays.p45 Tryz.prog Tryz.laysPa45_ren := {
  mixed := by kernel_rfl
  f45 := Tryz.func92.trans (congrArg some (by kernel_rfl))
  t3 := Tryz.underlying3
  a3 := Tryz.isAgg3
  z3 := Tryz.sizeOf3
  v3 := Tryz.zeroValue3
  t4 := Tryz.underlying4
  a4 := Tryz.isAgg4
  z4 := Tryz.sizeOf4
  v4 := Tryz.zeroValue4
  t5 := Tryz.underlying5
  a5 := Tryz.isAgg5
  z5 := Tryz.sizeOf5
  v5 := Tryz.zeroValue5
  t9 := Tryz.underlying9
  a9 := Tryz.isAgg9
  z9 := Tryz.sizeOf9
  v9 := Tryz.zeroValue9 }
open Go.RowKit Go.Lib in
theorem Tryz.bytealg_LastIndexByteString (s : ByteArray) (c : UInt8) (w : World) (hs : s.size ≤ 9223372036854775807) :
    Calls Tryz.prog 92 #[.string s, .int .u8 c.toNat] w fun e w' => e = .returned (.int .i64 (Pa.lastIndexByte s.data.toList c)) ∧ w' = w := Any.bytealg_LastIndexByteString Tryz.laysPa45 s c w hs
end Go.Proofs
namespace Go.Proofs.YtpmflpeckoeooaaGreatDoor.X
open Go.RowKit Go.Proofs.YtpmflpeckoeooaaGreatDoorW.PrintWords Go.Proofs.YtpmflpeckoeooaaGreatDoorW.PrintLast Go.Proofs.YtpmflpeckoeooaaGreatDoorW.PrintMore
attribute [local go_sem] fd eu gU i9 dJ iw cE ip ir i4 i5 gP gQ iq it
theorem fl (l : List UInt8) : l.isEmpty = (l == []) := by cases l <;> rfl
structure GW (w : World) : Prop where
  maxLen : ∃ m, w.cell? ⟨0, 0, none⟩ = some (.int .i64 m)
theorem fZ {w w' : World} (h : GW w) (hb : Below w.heap.size w w') : GW w' := by
  obtain ⟨m, hm⟩ := h.maxLen
  exact ⟨⟨m, jW hb hm⟩⟩
theorem nb {w w' : World} (h : GW w) (hd : Drawn0 w w') : GW w' := fZ h hd.below
def yp : Option Int → Value
  | none => .nilIface
  | some c => .iface 0 (.int .i64 c)
theorem b7 : yp none = .nilIface := rfl
theorem b8 (c : Int) : yp (some c) = .iface 0 (.int .i64 c) := rfl
theorem xe : (Tryz.prog.info? 3).map (fun i => (i.zero, i.size, i.bytes)) = some (some (.int .i64 0), 1, 8) := by kernel_rfl
theorem yT : (Tryz.prog.info? 9).map (fun i => (i.zero, i.size, i.bytes)) = some (some (.string ⟨#[]⟩), 1, 16) := by kernel_rfl
theorem u2 : (Tryz.prog.info? 67).map (fun i => (i.zero, i.size, i.bytes)) = some (some (.agg #[(.bool false), (.string ⟨#[]⟩), (.string ⟨#[]⟩), (.bool false), (.string ⟨#[]⟩)]), 5, 64) := by kernel_rfl
theorem td : (Tryz.prog.info? 111).map (fun i => (i.zero, i.size, i.bytes)) = some (some (.int .u16 0), 1, 2) := by kernel_rfl
structure S67 where
  f0 : Bool
  f1 : ByteArray
  f2 : ByteArray
  f3 : Bool
  f4 : ByteArray
def k67 : Kd S67 := Kd.iso (Kd.pair Kd.bool (Kd.pair Kd.string (Kd.pair Kd.string (Kd.pair Kd.bool Kd.string)))) (fun x : S67 => (x.f0, x.f1, x.f2, x.f3, x.f4))
theorem te (w : World) (base : Nat) (ok : Nat → Prop) (x : S67)  : k67.M w base ok x [.bool x.f0, .string x.f1, .string x.f2, .bool x.f3, .string x.f4] := ⟨[.bool x.f0], [.string x.f1, .string x.f2, .bool x.f3, .string x.f4], rfl, rfl, ⟨[.string x.f1], [.string x.f2, .bool x.f3, .string x.f4], rfl, rfl, ⟨[.string x.f2], [.bool x.f3, .string x.f4], rfl, rfl, ⟨[.bool x.f3], [.string x.f4], rfl, rfl, rfl⟩⟩⟩⟩
structure S24 where
  f0 : ByteArray
  f1 : Bool
  f2 : ByteArray
  f3 : ByteArray
  f4 : Bool
  f5 : ByteArray
  f6 : Bool
  f7 : ByteArray
def gW (a0 : Int) : Option (Bool) := if a0 = 4 then (some true) else (some (a0 == 5))
theorem aY (a0 : Int) (r : Bool) (w : World) (h : gW a0 = some r) :
    Calls Tryz.prog 15 #[.int .i64 a0] w fun e w' => e = .returned (.bool r) ∧ Drawn0 w w' := by
 have H := h
 clear h
 unfold gW at H
 refine xid H ?_ ?_ <;> clear H <;> intro c2 H
 {
 obtain ⟨c2b0, c2b1⟩ := xqe c2
 clear c2
 obtain rfl := Option.some.inj H
 go_enter Tryz.func15, Tryz.ntmps15
 go_wp2
 go_ret
 exact ⟨xrr, xdr⟩
 }
 obtain ⟨c2b0, c2b1⟩ := xqn c2
 obtain rfl := Option.some.inj H
 go_enter Tryz.func15, Tryz.ntmps15
 go_wp2
 go_ret
 exact ⟨xrr, xdr⟩
mutual
def fH : Nat → Int → Bool → Option (Int × Int × Int)
  | 0, _, _ => none
  | k + 1, x0, x8 => if x8 = true then (some (2, 128, 191)) else (if x0 = 224 then (some (3, 160, 191)) else (if x0 = 237 then (some (3, 128, 159)) else (if x0 ≥ 225 then (fI k x0 (decide (x0 ≤ 239))) else (fI k x0 false))))
def fI : Nat → Int → Bool → Option (Int × Int × Int)
  | 0, _, _ => none
  | k + 1, x0, x21 => if x21 = true then (some (3, 128, 191)) else (if x0 = 240 then (some (4, 144, 191)) else (if x0 = 244 then (some (4, 128, 143)) else (if x0 ≥ 241 then (if x0 ≤ 243 then (some (4, 128, 191)) else (some (0, 0, 0))) else (some (0, 0, 0)))))
end
def gT (k : Nat) (a0 : Int) : Option (Int × Int × Int) := if a0 < 128 then (some (1, 0, 0)) else (if a0 ≥ 194 then (fH k a0 (decide (a0 ≤ 223))) else (fH k a0 false))
theorem l9 : ∀ k, (∀ y0 y1, LeO (fH k y0 y1) (fH (k + 1) y0 y1)) ∧ (∀ y0 y1, LeO (fI k y0 y1) (fI (k + 1) y0 y1))
  | 0 => ⟨fun _ _ r h => by simp [fH] at h, fun _ _ r h => by simp [fI] at h⟩
  | k + 1 => by
    obtain ⟨ih0, ih1⟩ := l9 k
    refine ⟨?_, ?_⟩
    · intro y0 y1
      unfold fH
      exact xmo
    · intro y0 y1
      unfold fI
      exact xmo
theorem kG : ∀ a0 k, LeO (gT k a0) (gT (k + 1) a0) := by
  intro a0 k
  obtain ⟨ih0, ih1⟩ := l9 k
  unfold gT
  exact xmo
theorem my (k : Nat) (a0 : Int) (r1 : Int) (r2 : Int) (r3 : Int) (w : World) (h : gT k a0 = some (r1, r2, r3)) :
    Calls Tryz.prog 73 #[.int .u8 a0] w fun e w' => e = .returned (.tuple #[.int .i64 r1, .int .u8 r2, .int .u8 r3]) ∧ Drawn0 w w' := by
 have H := h
 clear h
 unfold gT at H
 refine xid H ?_ ?_ <;> clear H <;> intro c2 H
 {
 have Ae := xdt c2
 clear c2
 simp only [Option.some.injEq, Prod.mk.injEq] at H
 obtain ⟨rfl, rfl, rfl⟩ := H
 go_enter Tryz.func73, Tryz.ntmps73
 go_wp2
 go_ret3
 exact ⟨xrr, xdr⟩
 }
 have Ae := xdf c2
 clear c2
 have Ap := Zz.mk H
 clear H
 go_enter Tryz.func73, Tryz.ntmps73
 go_upto_region 3 with (fail)
 go_cut [8] (fun v8 wc => ∃ kq Ad, v8 = .bool Ad ∧ Zz (fH kq a0 Ad = some (r1, r2, r3)) ∧ Zz (kq ≤ k) ∧ Drawn0 w wc)
 case first => (
 have H := Ap.out
 clear Ap
 refine xid H ?_ ?_ <;> clear H <;> intro c4 H
 {
 have Aa := xdt c4
 clear c4
 (first | rw [Aa] | (simp only [am, ao]; rw [Aa]) | skip)
 replace H := xa H
 go_wp2
 go_meet
 case rel => exact ⟨_, (decide (a0 ≤ 223)), xrr, H, ⟨xom⟩, xdr⟩
 }
 have Aa := xdf c4
 clear c4
 (first | rw [Aa] | (simp only [am, ao]; rw [Aa]) | skip)
 replace H := xa H
 go_wp2
 go_meet
 case rel => exact ⟨_, (false), xrr, H, ⟨xom⟩, xdr⟩
 )
 case rest => (
 clear Ap
 clear Ae
 obtain ⟨kq, Ad, rfl, HA, HJ2, ⟨mc2, rfl⟩⟩ := hcut
 cases kq with
 | zero => exact absurd HA.out (by simp [fH])
 | succ kj2 => (
 have H := HA.out
 clear HA
 simp only [fH] at H
 refine xib H ?_ ?_ <;> clear H <;> rintro rfl H
 {
 simp only [Option.some.injEq, Prod.mk.injEq] at H
 obtain ⟨rfl, rfl, rfl⟩ := H
 go_wp2
 go_ret3
 exact ⟨xrr, xdr⟩
 }
 refine xid H ?_ ?_ <;> clear H <;> intro c6 H
 {
 obtain ⟨Af, Ag⟩ := xqe c6
 clear c6
 simp only [Option.some.injEq, Prod.mk.injEq] at H
 obtain ⟨rfl, rfl, rfl⟩ := H
 go_wp2
 go_ret3
 exact ⟨xrr, xdr⟩
 }
 obtain ⟨Af, Ag⟩ := xqn c6
 refine xid H ?_ ?_ <;> clear H <;> intro c7 H
 {
 obtain ⟨Ah, Ai⟩ := xqe c7
 clear c7
 simp only [Option.some.injEq, Prod.mk.injEq] at H
 obtain ⟨rfl, rfl, rfl⟩ := H
 go_wp2
 go_ret3
 exact ⟨xrr, xdr⟩
 }
 obtain ⟨Ah, Ai⟩ := xqn c7
 have Aq := Zz.mk H
 clear H
 go_upto_region 9 with (fail)
 go_cut [21] (fun v21 wc => ∃ kq Ab, v21 = .bool Ab ∧ Zz (fI kq a0 Ab = some (r1, r2, r3)) ∧ Zz (kq ≤ kj2) ∧ Drawn0 w wc)
 case first => (
 have H := Aq.out
 clear Aq
 refine xid H ?_ ?_ <;> clear H <;> intro c9 H
 {
 have Ac := xdt c9
 clear c9
 (first | rw [Ac] | (simp only [am, ao]; rw [Ac]) | skip)
 replace H := xa H
 go_wp2
 go_meet
 case rel => exact ⟨_, (decide (a0 ≤ 239)), xrr, H, ⟨xoj HJ2⟩, xdr⟩
 }
 have Ac := xdf c9
 clear c9
 (first | rw [Ac] | (simp only [am, ao]; rw [Ac]) | skip)
 replace H := xa H
 go_wp2
 go_meet
 case rel => exact ⟨_, (false), xrr, H, ⟨xoj HJ2⟩, xdr⟩
 )
 case rest => (
 clear Aq
 clear Af Ag Ah Ai
 obtain ⟨kq, Ab, rfl, HA, HJ7, ⟨mc7, rfl⟩⟩ := hcut
 cases kq with
 | zero => exact absurd HA.out (by simp [fI])
 | succ kj7 => (
 have H := HA.out
 clear HA
 simp only [fI] at H
 refine xib H ?_ ?_ <;> clear H <;> rintro rfl H
 {
 simp only [Option.some.injEq, Prod.mk.injEq] at H
 obtain ⟨rfl, rfl, rfl⟩ := H
 go_wp2
 go_ret3
 exact ⟨xrr, xdr⟩
 }
 refine xid H ?_ ?_ <;> clear H <;> intro c11 H
 {
 obtain ⟨Aj, Ak⟩ := xqe c11
 clear c11
 simp only [Option.some.injEq, Prod.mk.injEq] at H
 obtain ⟨rfl, rfl, rfl⟩ := H
 go_wp2
 go_ret3
 exact ⟨xrr, xdr⟩
 }
 obtain ⟨Aj, Ak⟩ := xqn c11
 refine xid H ?_ ?_ <;> clear H <;> intro c12 H
 {
 obtain ⟨Al, Am⟩ := xqe c12
 clear c12
 simp only [Option.some.injEq, Prod.mk.injEq] at H
 obtain ⟨rfl, rfl, rfl⟩ := H
 go_wp2
 go_ret3
 exact ⟨xrr, xdr⟩
 }
 obtain ⟨Al, Am⟩ := xqn c12
 refine xid H ?_ ?_ <;> clear H <;> intro c13 H
 {
 have An := xdt c13
 clear c13
 refine xid H ?_ ?_ <;> clear H <;> intro c14 H
 {
 have Ao := xdt c14
 clear c14
 simp only [Option.some.injEq, Prod.mk.injEq] at H
 obtain ⟨rfl, rfl, rfl⟩ := H
 go_wp2
 go_ret3
 exact ⟨xrr, xdr⟩
 }
 have Ao := xdf c14
 clear c14
 simp only [Option.some.injEq, Prod.mk.injEq] at H
 obtain ⟨rfl, rfl, rfl⟩ := H
 go_wp2
 go_ret3
 exact ⟨xrr, xdr⟩
 }
 have An := xdf c13
 clear c13
 simp only [Option.some.injEq, Prod.mk.injEq] at H
 obtain ⟨rfl, rfl, rfl⟩ := H
 go_wp2
 go_ret3
 exact ⟨xrr, xdr⟩
 )
 )
 )
 )
def fb : Nat → ByteArray → Int → Int → Int → Int → Option (Int × Int)
  | 0, _, _, _, _, _ => none
  | k + 1, x0, x4, x5, x6, x7 => if x7 < x4 then (if x7 < (x0.size : Int) then (if 0 ≤ x7 then (if (bt x0 x7) ≥ x5 then (if (bt x0 x7) ≤ x6 then (fb k x0 x4 128 191 (wrap64 (x7 + 1))) else (some (x7, x4))) else (some (x7, x4))) else (none)) else (some (x7, x4))) else (some (x7, x4))
def gS (k : Nat) (a0 : ByteArray) : Option (Int × Int) := if (a0.size : Int) = 0 then (some (0, 0)) else (if 0 < (a0.size : Int) then ((gT k (bt a0 0)).bind fun bt101 => (if bt101.1 = 0 then (some (1, 0)) else (fb k a0 bt101.1 bt101.2.1 bt101.2.2 1))) else (none))
theorem l8 : ∀ k, (∀ y0 y1 y2 y3 y4, LeO (fb k y0 y1 y2 y3 y4) (fb (k + 1) y0 y1 y2 y3 y4))
  | 0 => fun _ _ _ _ _ r h => by simp [fb] at h
  | k + 1 => by
    have ih0 := l8 k
    have m0 := @kG
    · intro y0 y1 y2 y3 y4
      unfold fb
      exact xmo
theorem na : ∀ a0 k, LeO (gS k a0) (gS (k + 1) a0) := by
  intro a0 k
  have ih0 := l8 k
  have m0 := @kG
  unfold gS
  exact xmo
theorem kw (k : Nat) (a0 : ByteArray) (r1 : Int) (r2 : Int) (w : World) (h : gS k a0 = some (r1, r2)) :
    Calls Tryz.prog 60 #[.string a0] w fun e w' => e = .returned (.tuple #[.int .i64 r1, .int .i64 r2]) ∧ Drawn0 w w' := by
 have H := h
 clear h
 unfold gS at H
 refine xid H ?_ ?_ <;> clear H <;> intro c2 H
 {
 obtain ⟨Ad, Ae⟩ := xqe c2
 clear c2
 simp only [Option.some.injEq, Prod.mk.injEq] at H
 obtain ⟨rfl, rfl⟩ := H
 go_enter Tryz.func60, Tryz.ntmps60
 go_wp2
 go_ret2
 exact ⟨xrr, xdr⟩
 }
 obtain ⟨Ad, Ae⟩ := xqn c2
 refine xin H ?_; clear H; intro c3 H
 have Aj := xdt c3
 have Ak : decide (0 < a0.size) = true := decide_eq_true (by omega)
 clear c3
 replace H := xbd H
 obtain ⟨⟨Al, Am, An⟩, A5, H⟩ := H
 try dsimp only at H
 refine xid H ?_ ?_ <;> clear H <;> intro c6 H
 {
 obtain ⟨Af, Ag⟩ := xqe c6
 clear c6
 simp only [Option.some.injEq, Prod.mk.injEq] at H
 obtain ⟨rfl, rfl⟩ := H
 obtain ⟨q4, Aq, hx4⟩ := xi0 a0 xod
 go_enter Tryz.func60, Tryz.ntmps60
 go_wp2_with (first | ((with_reducible refine xgc (f := 73) rfl ?_); refine xca 14 Tryz.func73 (my (w := _) (h := A5.out)) ?_; rintro w' ⟨nd, rfl⟩))
 go_ret2
 exact ⟨xrr, xdr⟩
 }
 obtain ⟨Af, Ag⟩ := xqn c6
 have H' := Zz.mk H
 clear H
 obtain ⟨q4, Aq, hx4⟩ := xi0 a0 xod
 go_enter Tryz.func60, Tryz.ntmps60
 go_wp2_with (first | ((with_reducible refine xgc (f := 73) rfl ?_); refine xca 14 Tryz.func73 (my (w := _) (h := A5.out)) ?_; rintro w' ⟨nd, rfl⟩))
 go_loopg [5, 6, 7] k (fun kq v5 v6 v7 w' => ∃ Ab Ac Aa, v5 = .int .u8 Ab ∧ v6 = .int .u8 Ac ∧ v7 = .int .i64 Aa ∧ Zz (fb kq a0 Al Ab Ac Aa = some (r1, r2)) ∧ Zz (kq ≤ k) ∧ Drawn0 w w')
 case atStart => exact ⟨(Am), (An), (1), xrr, xrr, xrr, H', ⟨Nat.le_refl _⟩, xdr⟩
 case round => (
 clear H'
 clear Ad Ae Aj Ak q4 hx4 Aq Af Ag
 obtain ⟨Ab, Ac, Aa, rfl, rfl, rfl, HA, HK1, ⟨m1, rfl⟩⟩ := hrel
 cases gk with
 | zero => exact absurd HA.out (by simp [fb])
 | succ k1 => (
 have H := HA.out
 clear HA
 simp only [fb] at H
 refine xid H ?_ ?_ <;> clear H <;> intro c7 H
 {
 have Ao := xdt c7
 clear c7
 refine xid H ?_ ?_ <;> clear H <;> intro c8 H
 {
 have Ap := xdt c8
 clear c8
 refine xin H ?_; clear H; intro c9 H
 have Ar := xdt c9
 clear c9
 refine xid H ?_ ?_ <;> clear H <;> intro c11 H
 {
 have Ah := xdt c11
 clear c11
 refine xid H ?_ ?_ <;> clear H <;> intro c13 H
 {
 have Ai := xdt c13
 clear c13
 replace H := xa H
 obtain ⟨p10, q10, hx10⟩ := xiv a0 Aa xod xod
 obtain ⟨p12, q12, hx12⟩ := xiv a0 Aa xod xod
 go_wp2
 go_roundg k1
 case measure => have := HK1.out; omega
 case rel => exact ⟨(128), (191), (wrap64 (Aa + 1)), xrr, xrr, xrr, H, ⟨by have := HK1.out; omega⟩, xdr⟩
 }
 have Ai := xdf c13
 clear c13
 simp only [Option.some.injEq, Prod.mk.injEq] at H
 obtain ⟨rfl, rfl⟩ := H
 obtain ⟨p10, q10, hx10⟩ := xiv a0 Aa xod xod
 obtain ⟨p12, q12, hx12⟩ := xiv a0 Aa xod xod
 go_wp2
 go_ret2
 exact ⟨xrr, xdr⟩
 }
 have Ah := xdf c11
 clear c11
 simp only [Option.some.injEq, Prod.mk.injEq] at H
 obtain ⟨rfl, rfl⟩ := H
 obtain ⟨p10, q10, hx10⟩ := xiv a0 Aa xod xod
 go_wp2
 go_ret2
 exact ⟨xrr, xdr⟩
 }
 have Ap := xdf c8
 clear c8
 simp only [Option.some.injEq, Prod.mk.injEq] at H
 obtain ⟨rfl, rfl⟩ := H
 go_wp2
 go_ret2
 exact ⟨xrr, xdr⟩
 }
 have Ao := xdf c7
 clear c7
 simp only [Option.some.injEq, Prod.mk.injEq] at H
 obtain ⟨rfl, rfl⟩ := H
 go_wp2
 go_ret2
 exact ⟨xrr, xdr⟩
 )
 )
end Go.Proofs.YtpmflpeckoeooaaGreatDoor.X
