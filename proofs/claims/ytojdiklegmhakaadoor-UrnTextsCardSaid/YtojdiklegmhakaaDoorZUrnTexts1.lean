/- Texts that the law's proof needs, joined by a program of this session. -/
import Derived.Test.YtojdiklegmhakaaDoorZUrnTexts0
import Derived.Laws.StructEq
import Derived.WalkKit
import Derived.Lib.AppendStr
import Derived.Laws.Tables
import Derived.Laws.CopyOwn
import Derived.WalkMore
import Derived.ScopeJumps
import Derived.Shelf.Small.Strs
import Derived.Shelf.Small.Wraps
import Derived.Shelf.Utf8.RuneCount
import Derived.Shelf.Strings.Search1
import Derived.Shelf.Strings.Search2
import Derived.Shelf.Strings.Search3
import Derived.Shelf.Strings.Cut
import Derived.Shelf.Strings.Count
import Derived.Shelf.LaysM
import Derived.Shelf.Strings.Shaped
import Derived.Shelf.Strings.LastIndex
import Derived.Shelf.Strings.Prefix
import Derived.Shelf.Strings.Split
import Derived.Shelf.Strings.SplitShaped
import Derived.Shelf.Unicode.Decode
import Derived.Shelf.Strings.RuneCount
import Derived.Shelf.Strings.Explode
import Derived.Shelf.Unicode.DecodeSlow
import Derived.Shelf.Unicode.DecodeAny
import Derived.Ground.PaProg
import Derived.Shelf.Path.Small
import Derived.Test.YtojdiklegmhakaaDoorProg
import Derived.Below
import Derived.Deep.Draws
import Derived.Deep.AppendLies
import Derived.Maps.AppendAt
import Derived.OwnWalk
import Derived.Laws.BytesArg
import Derived.Laws.MakeOwn
import Derived.Laws.OwnMore
import Derived.Deep.OwnRows
import Derived.Tactics
import Derived.Lib.ConvBytes
import Derived.Laws.Slices
import Derived.KernelRfl
import Derived.RowKit3
import Derived.Deep.LoopGhost
import Derived.Deep.QuietTactic
import Derived.BigQuiet
import Derived.WideLaws
import Derived.Deep.DeepCutAuto
import Derived.Deep.CutBlock
import Derived.Deep.RegionHeld3
import Derived.Laws.Rows
import Derived.ArgAppend
import Derived.Laws.IdiomCopy
import Derived.OrdersHeld
import Derived.Laws.BitsLemmas
import Derived.RowKit
import Derived.ChangeKeysEq
import Derived.Deep.RegionWith
import Derived.Laws.CopyRow
import Derived.Laws.Externs
import Derived.Laws.IdiomStrings
import Derived.Laws.NewBlocks
import Derived.Laws.RangeAny
import Derived.Laws.RangeString
import Derived.Laws.Strings3
import Derived.Lib.AppendIntMem
import Derived.Lib.AppendZerosOnto
import Derived.Lib.BufStepsIn
import Derived.Lib.Bytealg
import Derived.Lib.Index
import Derived.Lib.IndexAny
import Derived.Lib.IndexBytes
import Derived.Lib.OthersKept
import Derived.Lib.Overlaps
import Derived.Lib.SlBuf
import Derived.Lib.Split
import Derived.Lib.SplitLaws
import Derived.LoopIn
import Derived.LoopNIn
import Derived.LoopTactic
import Derived.OwnWalkIn
import Derived.RangeFuncBound
import Derived.RangeFuncBox
import Derived.RangeFuncCalls
import Derived.RangeFuncLeaves
import Derived.RangeFuncNested
import Derived.Shelf.Abstract
import Derived.Shelf.RegionOpen
import Derived.Shelf.Spec.SlicesInsertGrow
import Derived.TacticsInMore
set_option maxHeartbeats 8000000
set_option maxRecDepth 100000
set_option linter.unusedSimpArgs false
set_option linter.unusedVariables false
namespace Go.Proofs.YtojdiklegmhakaaDoorW.PrintWords
open Go.RowKit
namespace Kd
def hU (sz : Nat) (n : Nat) (inner : List Value) : List (List Value) := (List.range n).map fun j => (inner.drop (j * sz)).take sz
theorem eX (sz n : Nat) (inner : List Value) : (hU sz n inner).length = n := by simp [hU]
theorem mN {sz n : Nat} {inner : List Value} {j : Nat} (hj : j < n) : (hU sz n inner)[j]? = some ((inner.drop (j * sz)).take sz) := by simp [hU, hj]
theorem jS {sz n : Nat} {inner : List Value} {j : Nat} {c : List Value} (h : (hU sz n inner)[j]? = some c) : c = (inner.drop (j * sz)).take sz := by
  have hj : j < n := by have := (List.getElem?_eq_some_iff.1 h).1; rwa [eX] at this
  rw [mN hj] at h
  injection h with h
  exact h.symm
theorem nr {α : Type} {Rr : α → List Value → Prop} {sz : Nat} {xs : List α} {inner : List Value} (h : Reps Rr sz xs inner) (hR : ∀ x c, Rr x c → c.length = sz ∧ ∀ u ∈ c, u.oneCell' = true) : Reps (fun x cs => cs = x ∧ cs.length = sz ∧ ∀ u ∈ cs, u.oneCell' = true) sz (hU sz xs.length inner) inner := by
  refine ⟨by rw [eX]; exact h.1, fun j p hj => ?_⟩
  have hjl : j < xs.length := by have := (List.getElem?_eq_some_iff.1 hj).1; rwa [eX] at this
  have hp := jS hj
  exact ⟨hp.symm, hR _ _ (h.2 j _ (List.getElem?_eq_getElem hjl))⟩
section
variable {α : Type} {d : Kd α} {e base n cc g : Nat} {ok ok' okp S : Nat → Prop} {w w1 W W1 : World} {A : Option Addr} {u v v1 : Value} {xs : List α} {x : α} {c : List Value}
def N {α : Type} (d : Kd α) (e : Nat) (w : World) (base : Nat) (ok : Nat → Prop) (v : Value) (xs : List α) : Prop :=
  (∀ k, v.ownBlock = some k → ok k) ∧ ∃ rows : List (List Value), rows.length = xs.length ∧ (raw d.sz).R e w base (fun k => some k = v.ownBlock) v rows ∧ ∀ (j : Nat) (x : α) (c : List Value), xs[j]? = some x → rows[j]? = some c → FK d w (fun k => ok k ∧ some k ≠ v.ownBlock) x c
theorem R_N (h : d.R e w base ok v xs) : N d e w base ok v xs := by
  obtain ⟨h0, inner, ho, hr⟩ := h
  refine ⟨h0, hU d.sz xs.length inner, eX _ _ _, ⟨fun k hk => hk.symm, inner, by rw [eX]; exact ho, nr hr (fun x c hp => ⟨d.K_len (d.K_of_M hp), d.K_one (d.K_of_M hp)⟩)⟩, fun j x c hx hc => ?_⟩
  rw [jS hc]
  exact nC (hr.2 j x hx)
theorem N_nil (d : Kd α) (e : Nat) (w : World) (base : Nat) (ok : Nat → Prop) : N d e w base ok (.slice none 0 0) [] := R_N (R_nil _ _ _ _ _)
end
end Kd
end Go.Proofs.YtojdiklegmhakaaDoorW.PrintWords
namespace Go.Proofs.YtojdiklegmhakaaDoorW.PrintWords
open Go.RowKit
namespace Kd
end Kd
end Go.Proofs.YtojdiklegmhakaaDoorW.PrintWords
namespace Go.Proofs.YtojdiklegmhakaaDoorW.PrintWords
open Go.RowKit
namespace Kd
end Kd
end Go.Proofs.YtojdiklegmhakaaDoorW.PrintWords
namespace Go.Proofs.YtojdiklegmhakaaDoorW.PrintWords
open Go.RowKit
section
variable {P : Program} {d : Nat} {xs ys : Array Value} {f : Field} {fs : List Field} {a b : Value} {r s : Bool} {w : World}
theorem nc (hn : (f.name == "_") = false) (ha : (part f.type xs f.offset).run P w = .ok a w) (hb : (part f.type ys f.offset).run P w = .ok b w) (he : (Op.equalIn d f.type a b).run P w = .ok r w) : (Op.eqFields d xs ys [f]).run P w = .ok r w := by
  have hn' : f.name ≠ "_" := by simpa using hn
  simp only [Op.eqFields, if_pos hn', Sem.run_bind, ha, hb, he, Result.andThen_ok]
  cases r <;> simp
theorem fX (hn : (f.name == "_") = false) (ha : (part f.type xs f.offset).run P w = .ok a w) (hb : (part f.type ys f.offset).run P w = .ok b w) (he : (Op.equalIn d f.type a b).run P w = .ok r w) (hr : (Op.eqFields d xs ys fs).run P w = .ok s w) : (Op.eqFields d xs ys (f :: fs)).run P w = .ok (r && s) w := by
  have hn' : f.name ≠ "_" := by simpa using hn
  rw [Op.eqFields]
  simp only [if_pos hn', Sem.run_bind, ha, hb, he, Result.andThen_ok]
  cases r
  · simp
  · simpa using hr
theorem nT {t : TypeId} {fs : Array Field} (hu : P.underlying t = some (.struct fs)) (hp : P.stoodInHeld t = false) (h : (Op.eqFields d xs ys fs.toList).run P w = .ok r w) : (Op.equalIn (d + 1) t (.agg xs) (.agg ys)).run P w = .ok r w := by
  have hf : P.fieldsOf t = fs := by simp [Program.fieldsOf, hu]
  rw [run_equalIn_struct (P := P) w d t xs ys (by rw [hf]; exact hu) hp, hf]
  exact h
end
end Go.Proofs.YtojdiklegmhakaaDoorW.PrintWords
namespace Go.Proofs.YtojdiklegmhakaaDoorW.PrintWords
theorem Reps.one {α : Type} {R : α → List Value → Prop} {ps : List α} {cs : List Value} {p : α} {v : Value} (hp : R p [v]) (h : Reps R 1 ps cs) : Reps R 1 (p :: ps) (v :: cs) := by
  refine ⟨by simp [h.1], fun j q hq => ?_⟩
  cases j with
  | zero =>
    simp only [List.getElem?_cons_zero, Option.some.injEq] at hq
    subst hq
    simpa using hp
  | succ j =>
    simp only [List.getElem?_cons_succ] at hq
    have h1 := h.2 j q hq
    simpa [Nat.mul_one] using h1
theorem Reps.front {α : Type} {R : α → List Value → Prop} {size : Nat} {ps : List α} {cs c all : List Value} {p : α} (hp : R p c) (hc : c.length = size) (h : Reps R size ps cs) (ha : c ++ cs = all) : Reps R size (p :: ps) all := by
  subst ha
  refine ⟨by rw [List.length_append, hc, h.1, List.length_cons, Nat.succ_mul, Nat.add_comm], fun j q hq => ?_⟩
  cases j with
  | zero =>
    simp only [List.getElem?_cons_zero, Option.some.injEq] at hq
    subst hq
    rw [Nat.zero_mul, List.drop_zero, List.take_append_of_le_length (by omega), List.take_of_length_le (by omega)]
    exact hp
  | succ j =>
    simp only [List.getElem?_cons_succ] at hq
    have h1 := h.2 j q hq
    rw [Nat.succ_mul, List.drop_append, List.drop_of_length_le (by rw [hc]; exact Nat.le_add_left _ _), List.nil_append, hc, Nat.add_sub_cancel]
    exact h1
theorem Reps.c2 {α : Type} {R : α → List Value → Prop} {ps : List α} {cs : List Value} {p : α} {va vb : Value} (hp : R p [va, vb]) (h : Reps R 2 ps cs) : Reps R 2 (p :: ps) (va :: vb :: cs) := Reps.front hp rfl h rfl
theorem Reps.c3 {α : Type} {R : α → List Value → Prop} {ps : List α} {cs : List Value} {p : α} {va vb vc : Value} (hp : R p [va, vb, vc]) (h : Reps R 3 ps cs) : Reps R 3 (p :: ps) (va :: vb :: vc :: cs) := Reps.front hp rfl h rfl
theorem Reps.c4 {α : Type} {R : α → List Value → Prop} {ps : List α} {cs : List Value} {p : α} {va vb vc vd : Value} (hp : R p [va, vb, vc, vd]) (h : Reps R 4 ps cs) : Reps R 4 (p :: ps) (va :: vb :: vc :: vd :: cs) := Reps.front hp rfl h rfl
theorem Reps.c5 {α : Type} {R : α → List Value → Prop} {ps : List α} {cs : List Value} {p : α} {va vb vc vd ve : Value} (hp : R p [va, vb, vc, vd, ve]) (h : Reps R 5 ps cs) : Reps R 5 (p :: ps) (va :: vb :: vc :: vd :: ve :: cs) := Reps.front hp rfl h rfl
theorem Reps.c6 {α : Type} {R : α → List Value → Prop} {ps : List α} {cs : List Value} {p : α} {va vb vc vd ve vf : Value} (hp : R p [va, vb, vc, vd, ve, vf]) (h : Reps R 6 ps cs) : Reps R 6 (p :: ps) (va :: vb :: vc :: vd :: ve :: vf :: cs) := Reps.front hp rfl h rfl
theorem Reps.c7 {α : Type} {R : α → List Value → Prop} {ps : List α} {cs : List Value} {p : α} {va vb vc vd ve vf vg : Value} (hp : R p [va, vb, vc, vd, ve, vf, vg]) (h : Reps R 7 ps cs) : Reps R 7 (p :: ps) (va :: vb :: vc :: vd :: ve :: vf :: vg :: cs) := Reps.front hp rfl h rfl
theorem Reps.c8 {α : Type} {R : α → List Value → Prop} {ps : List α} {cs : List Value} {p : α} {va vb vc vd ve vf vg vh : Value} (hp : R p [va, vb, vc, vd, ve, vf, vg, vh]) (h : Reps R 8 ps cs) : Reps R 8 (p :: ps) (va :: vb :: vc :: vd :: ve :: vf :: vg :: vh :: cs) := Reps.front hp rfl h rfl
theorem Reps.c9 {α : Type} {R : α → List Value → Prop} {ps : List α} {cs : List Value} {p : α} {va vb vc vd ve vf vg vh vi : Value} (hp : R p [va, vb, vc, vd, ve, vf, vg, vh, vi]) (h : Reps R 9 ps cs) : Reps R 9 (p :: ps) (va :: vb :: vc :: vd :: ve :: vf :: vg :: vh :: vi :: cs) := Reps.front hp rfl h rfl
theorem Reps.c10 {α : Type} {R : α → List Value → Prop} {ps : List α} {cs : List Value} {p : α} {va vb vc vd ve vf vg vh vi vj : Value} (hp : R p [va, vb, vc, vd, ve, vf, vg, vh, vi, vj]) (h : Reps R 10 ps cs) : Reps R 10 (p :: ps) (va :: vb :: vc :: vd :: ve :: vf :: vg :: vh :: vi :: vj :: cs) := Reps.front hp rfl h rfl
end Go.Proofs.YtojdiklegmhakaaDoorW.PrintWords
namespace Go.Proofs.YtojdiklegmhakaaDoorW.PrintLast
def up (b : Nat → Bool) (i : Nat) : Nat → Bool := fun j => if j = i then true else b j
end Go.Proofs.YtojdiklegmhakaaDoorW.PrintLast
namespace Go.Proofs.YtojdiklegmhakaaDoorW.PrintWords
open Go.RowKit
end Go.Proofs.YtojdiklegmhakaaDoorW.PrintWords
namespace Go.Proofs.YtojdiklegmhakaaDoorW.PrintLast
end Go.Proofs.YtojdiklegmhakaaDoorW.PrintLast
namespace Go.Proofs.YtojdiklegmhakaaDoorW.PrintWords
open Go.RowKit
section
variable {P : Program} {ops : Array Oper} {rest : List Oper} {o : Oper} {a : Act} {Q : Exit → Act → World → Prop} {W : World}
theorem el (hw : Region.wanted o (yielded ops a.tmps) = true) (h : wpList P ops Q ({ o with guard := none } :: rest) a W) : wpList P ops Q (o :: rest) a W := by
  have h1 : Region.wanted { o with guard := none } (yielded ops a.tmps) = true := rfl
  unfold wpList at h ⊢
  rw [if_pos h1] at h
  rw [if_pos hw]
  exact h
end
end Go.Proofs.YtojdiklegmhakaaDoorW.PrintWords
namespace Go.Proofs.YtojdiklegmhakaaDoorW.PrintWords
open Go.RowKit
namespace Kd
end Kd
end Go.Proofs.YtojdiklegmhakaaDoorW.PrintWords
namespace Go.Proofs.YtojdiklegmhakaaDoorW.PrintMore
open Go.RowKit Go.Proofs.YtojdiklegmhakaaDoorW.PrintWords
namespace Kd
open Go.Proofs.YtojdiklegmhakaaDoorW.PrintWords.Kd
end Kd
namespace Kd
open Go.Proofs.YtojdiklegmhakaaDoorW.PrintWords.Kd
end Kd
theorem eN (k k' : IntKind) (x y : Int) : Builtin.max2 (.int k x) (.int k' y) = pure (.int k (if x < y then y else x)) := by simp only [Builtin.max2, gt_iff_lt]
theorem eP (k k' : IntKind) (x y : Int) : Builtin.min2 (.int k x) (.int k' y) = pure (.int k (if y < x then y else x)) := by simp only [Builtin.min2]
theorem fB (ats : Array TypeId) (ty : TypeId) (a b : Value) : Builtin.max_ ats ty #[a, b] = (Builtin.max2 a b >>= fun s => pure s) := by simp only [Builtin.max_, List.foldlM_cons, List.foldlM_nil]
theorem fC (ats : Array TypeId) (ty : TypeId) (a b : Value) : Builtin.min_ ats ty #[a, b] = (Builtin.min2 a b >>= fun s => pure s) := by simp only [Builtin.min_, List.foldlM_cons, List.foldlM_nil]
theorem eo (ats : Array TypeId) (ty : TypeId) (a b c : Value) : Builtin.max_ ats ty #[a, b, c] = (Builtin.max2 a b >>= fun s => Builtin.max2 s c >>= fun s => pure s) := by simp only [Builtin.max_, List.foldlM_cons, List.foldlM_nil]
theorem ep (ats : Array TypeId) (ty : TypeId) (a b c : Value) : Builtin.min_ ats ty #[a, b, c] = (Builtin.min2 a b >>= fun s => Builtin.min2 s c >>= fun s => pure s) := by simp only [Builtin.min_, List.foldlM_cons, List.foldlM_nil]
theorem eO (ats : Array TypeId) (ty : TypeId) (a b c d : Value) : Builtin.max_ ats ty #[a, b, c, d] = (Builtin.max2 a b >>= fun s => Builtin.max2 s c >>= fun s => Builtin.max2 s d >>= fun s => pure s) := by simp only [Builtin.max_, List.foldlM_cons, List.foldlM_nil]
theorem eQ (ats : Array TypeId) (ty : TypeId) (a b c d : Value) : Builtin.min_ ats ty #[a, b, c, d] = (Builtin.min2 a b >>= fun s => Builtin.min2 s c >>= fun s => Builtin.min2 s d >>= fun s => pure s) := by simp only [Builtin.min_, List.foldlM_cons, List.foldlM_nil]
end Go.Proofs.YtojdiklegmhakaaDoorW.PrintMore
namespace Go.Proofs.YtojdiklegmhakaaDoorW.PrintWords
open Go.RowKit
section
variable {P : Program} {ops : Array Oper} {rest : List Oper} {o : Oper} {a : Act} {Q : Exit → Act → World → Prop} {W : World}
theorem cE {f : FuncId} {asx : Array Operand} {ts : Array TypeId} (_ho : o.op = .call { callee := .value (.func f), args := asx, argTypes := ts }) (h : wpList P ops Q (o :: rest) a W) : wpList P ops Q (o :: rest) a W := h
theorem gi {b : Builtin} {xs : Array Operand} {ts : Array TypeId} (_ho : o.op = .call { callee := .builtin b, args := xs, argTypes := ts }) (h : wpList P ops Q (o :: rest) a W) : wpList P ops Q (o :: rest) a W := h
end
def mx (a b : Int) : Int := if a < b then b else a
theorem aG (w : World) (n : Nat) : w.drewN n = w.drewN n := rfl
namespace Kd
end Kd
end Go.Proofs.YtojdiklegmhakaaDoorW.PrintWords
namespace Go.Proofs.YtojdiklegmhakaaDoorW.PrintWords
open Go.RowKit
namespace Kd
def V {α : Type} (d : Kd α) (_e : Nat) (W : World) (_base : Nat) (ok : Nat → Prop) (v : Value) (xs : List α) : Prop := ∃ A c, v = .slice A xs.length c ∧ xs.length ≤ c ∧ F d W ok A xs.length xs
section
variable {α β : Type} {d : Kd α} {e base base' n m c g N' lo hi : Nat} {ok ok' S : Nat → Prop} {w W w1 : World} {A : Option Addr} {ad : Addr} {u v v1 : Value} {xs : List α}
theorem V_nil (d : Kd α) (e : Nat) (W : World) (base : Nat) (ok : Nat → Prop) : V d e W base ok (.slice none 0 0) [] := ⟨none, 0, rfl, Nat.le_refl _, oc d W ok⟩
end
end Kd
end Go.Proofs.YtojdiklegmhakaaDoorW.PrintWords
namespace Go.Proofs.YtojdiklegmhakaaDoorW.PrintMore
open Go.RowKit Go.Proofs.YtojdiklegmhakaaDoorW.PrintWords Go.Proofs.YtojdiklegmhakaaDoorW.PrintLast
theorem dH {P : Program} {Q : Exit → Act → World → Prop} {a : Act} {w : World} {c rest : Code} (l : Nat) (hf : findLabel c l = some rest) (h : c.wp P (Exit.jump l (fun a w => rest.wp P (Exit.jump l (fun _ _ => False) Q) a w) Q) a w) : (Code.scope c).wp P Q a w :=
  wp_scope_jumps l (fun a w => rest.wp P (Exit.jump l (fun _ _ => False) Q) a w) (fun _ _ => 0) hf h fun a w hJ => wp_mono hJ fun e a w hq => by
    cases e with
    | goto l' => exact ⟨hq.1, hq.2.elim⟩
    | _ => exact hq
section
variable {K : Act → World → Prop} {Q : Exit → Act → World → Prop} {J : Act → World → Prop} {a : Act} {w : World} {l : Nat}
theorem di : Exit.then K Q (.goto l) a w = Q (.goto l) a w := rfl
theorem cR (id : Nat) : Exit.inBlock id Q (.goto l) a w = Q (.goto l) a w := rfl
theorem eu : Exit.jump l J Q .normal a w = Q .normal a w := rfl
theorem fH (id : Nat) : Exit.jump l J Q (.exit id) a w = Q (.exit id) a w := rfl
theorem bY : Exit.jump l J Q .ret a w = Q .ret a w := rfl
theorem eW (ch : List PanicEntry) : Exit.jump l J Q (.panic ch) a w = Q (.panic ch) a w := rfl
theorem bv : Exit.jump l J Q (.goto l) a w = J a w := propext ⟨fun h => h.2, fun h => ⟨rfl, h⟩⟩
end
theorem oa {P : Program} {ops : Array Oper} {rest : List Oper} {o : Oper} {a : Act} {w w0 : World} {B : Nat} {Q : Exit → Act → World → Prop} (hgd : o.guard = none) (ty : TypeId) (x y : Operand) (ho : o.op = .store ty x y)
    (g : Nat) (cells : Array Value) (hx : a.eval x = .pointer (some ⟨g, 0, none⟩)) (hy : a.eval y = .agg cells)
    (t : TypeId) (old : Array Value) (hg : w.heap[g]? = some (.cells old t (0, 0))) (hi : (P.info? ty).map (·.size) = some cells.size)
    (hold : old.size = cells.size) (h1 : cells.all (·.oneCell') = true) (hb : Below B w0 w) (hB : B ≤ g)
    (h : ∀ w', w'.heap[g]? = some (.cells cells t (0, 0)) → Below B w0 w' → wpList P ops Q rest (a.put o.dst undef) w') : wpList P ops Q (o :: rest) a w :=
  wpList_store_row hgd ty x y ho g cells hx hy t old hg hi hold h1 (h _ (setRow_heap _ _ _ _ _ _ hg) (below_setRow hb hB _))
theorem kS {w : World} {g : Nat} {t : TypeId} {c0 u : Value} (h : w.heap[g]? = some (.cells #[c0] t (0, 0))) : (w.setCell ⟨g, 0, none⟩ u).heap[g]? = some (.cells #[u] t (0, 0)) := aC h 0 u rfl
theorem kT {w : World} {g : Nat} {t : TypeId} {c0 c1 u : Value} (h : w.heap[g]? = some (.cells #[c0, c1] t (0, 0))) : (w.setCell ⟨g, 0, none⟩ u).heap[g]? = some (.cells #[u, c1] t (0, 0)) := aC h 0 u rfl
theorem kU {w : World} {g : Nat} {t : TypeId} {c0 c1 u : Value} (h : w.heap[g]? = some (.cells #[c0, c1] t (0, 0))) : (w.setCell ⟨g, 1, none⟩ u).heap[g]? = some (.cells #[c0, u] t (0, 0)) := aC h 1 u rfl
theorem kV {w : World} {g : Nat} {t : TypeId} {c0 c1 c2 u : Value} (h : w.heap[g]? = some (.cells #[c0, c1, c2] t (0, 0))) : (w.setCell ⟨g, 0, none⟩ u).heap[g]? = some (.cells #[u, c1, c2] t (0, 0)) := aC h 0 u rfl
theorem kW {w : World} {g : Nat} {t : TypeId} {c0 c1 c2 u : Value} (h : w.heap[g]? = some (.cells #[c0, c1, c2] t (0, 0))) : (w.setCell ⟨g, 1, none⟩ u).heap[g]? = some (.cells #[c0, u, c2] t (0, 0)) := aC h 1 u rfl
theorem kX {w : World} {g : Nat} {t : TypeId} {c0 c1 c2 u : Value} (h : w.heap[g]? = some (.cells #[c0, c1, c2] t (0, 0))) : (w.setCell ⟨g, 2, none⟩ u).heap[g]? = some (.cells #[c0, c1, u] t (0, 0)) := aC h 2 u rfl
theorem kY {w : World} {g : Nat} {t : TypeId} {c0 c1 c2 c3 u : Value} (h : w.heap[g]? = some (.cells #[c0, c1, c2, c3] t (0, 0))) : (w.setCell ⟨g, 0, none⟩ u).heap[g]? = some (.cells #[u, c1, c2, c3] t (0, 0)) := aC h 0 u rfl
theorem kZ {w : World} {g : Nat} {t : TypeId} {c0 c1 c2 c3 u : Value} (h : w.heap[g]? = some (.cells #[c0, c1, c2, c3] t (0, 0))) : (w.setCell ⟨g, 1, none⟩ u).heap[g]? = some (.cells #[c0, u, c2, c3] t (0, 0)) := aC h 1 u rfl
theorem k8 {w : World} {g : Nat} {t : TypeId} {c0 c1 c2 c3 u : Value} (h : w.heap[g]? = some (.cells #[c0, c1, c2, c3] t (0, 0))) : (w.setCell ⟨g, 2, none⟩ u).heap[g]? = some (.cells #[c0, c1, u, c3] t (0, 0)) := aC h 2 u rfl
theorem k9 {w : World} {g : Nat} {t : TypeId} {c0 c1 c2 c3 u : Value} (h : w.heap[g]? = some (.cells #[c0, c1, c2, c3] t (0, 0))) : (w.setCell ⟨g, 3, none⟩ u).heap[g]? = some (.cells #[c0, c1, c2, u] t (0, 0)) := aC h 3 u rfl
theorem la {w : World} {g : Nat} {t : TypeId} {c0 c1 c2 c3 c4 u : Value} (h : w.heap[g]? = some (.cells #[c0, c1, c2, c3, c4] t (0, 0))) : (w.setCell ⟨g, 0, none⟩ u).heap[g]? = some (.cells #[u, c1, c2, c3, c4] t (0, 0)) := aC h 0 u rfl
theorem lb {w : World} {g : Nat} {t : TypeId} {c0 c1 c2 c3 c4 u : Value} (h : w.heap[g]? = some (.cells #[c0, c1, c2, c3, c4] t (0, 0))) : (w.setCell ⟨g, 1, none⟩ u).heap[g]? = some (.cells #[c0, u, c2, c3, c4] t (0, 0)) := aC h 1 u rfl
theorem lc {w : World} {g : Nat} {t : TypeId} {c0 c1 c2 c3 c4 u : Value} (h : w.heap[g]? = some (.cells #[c0, c1, c2, c3, c4] t (0, 0))) : (w.setCell ⟨g, 2, none⟩ u).heap[g]? = some (.cells #[c0, c1, u, c3, c4] t (0, 0)) := aC h 2 u rfl
theorem ld {w : World} {g : Nat} {t : TypeId} {c0 c1 c2 c3 c4 u : Value} (h : w.heap[g]? = some (.cells #[c0, c1, c2, c3, c4] t (0, 0))) : (w.setCell ⟨g, 3, none⟩ u).heap[g]? = some (.cells #[c0, c1, c2, u, c4] t (0, 0)) := aC h 3 u rfl
theorem le {w : World} {g : Nat} {t : TypeId} {c0 c1 c2 c3 c4 u : Value} (h : w.heap[g]? = some (.cells #[c0, c1, c2, c3, c4] t (0, 0))) : (w.setCell ⟨g, 4, none⟩ u).heap[g]? = some (.cells #[c0, c1, c2, c3, u] t (0, 0)) := aC h 4 u rfl
theorem lf {w : World} {g : Nat} {t : TypeId} {c0 c1 c2 c3 c4 c5 u : Value} (h : w.heap[g]? = some (.cells #[c0, c1, c2, c3, c4, c5] t (0, 0))) : (w.setCell ⟨g, 0, none⟩ u).heap[g]? = some (.cells #[u, c1, c2, c3, c4, c5] t (0, 0)) := aC h 0 u rfl
theorem lg {w : World} {g : Nat} {t : TypeId} {c0 c1 c2 c3 c4 c5 u : Value} (h : w.heap[g]? = some (.cells #[c0, c1, c2, c3, c4, c5] t (0, 0))) : (w.setCell ⟨g, 1, none⟩ u).heap[g]? = some (.cells #[c0, u, c2, c3, c4, c5] t (0, 0)) := aC h 1 u rfl
theorem lh {w : World} {g : Nat} {t : TypeId} {c0 c1 c2 c3 c4 c5 u : Value} (h : w.heap[g]? = some (.cells #[c0, c1, c2, c3, c4, c5] t (0, 0))) : (w.setCell ⟨g, 2, none⟩ u).heap[g]? = some (.cells #[c0, c1, u, c3, c4, c5] t (0, 0)) := aC h 2 u rfl
theorem ll {w : World} {g : Nat} {t : TypeId} {c0 c1 c2 c3 c4 c5 u : Value} (h : w.heap[g]? = some (.cells #[c0, c1, c2, c3, c4, c5] t (0, 0))) : (w.setCell ⟨g, 3, none⟩ u).heap[g]? = some (.cells #[c0, c1, c2, u, c4, c5] t (0, 0)) := aC h 3 u rfl
theorem lm {w : World} {g : Nat} {t : TypeId} {c0 c1 c2 c3 c4 c5 u : Value} (h : w.heap[g]? = some (.cells #[c0, c1, c2, c3, c4, c5] t (0, 0))) : (w.setCell ⟨g, 4, none⟩ u).heap[g]? = some (.cells #[c0, c1, c2, c3, u, c5] t (0, 0)) := aC h 4 u rfl
theorem ln {w : World} {g : Nat} {t : TypeId} {c0 c1 c2 c3 c4 c5 u : Value} (h : w.heap[g]? = some (.cells #[c0, c1, c2, c3, c4, c5] t (0, 0))) : (w.setCell ⟨g, 5, none⟩ u).heap[g]? = some (.cells #[c0, c1, c2, c3, c4, u] t (0, 0)) := aC h 5 u rfl
theorem lq {w : World} {g : Nat} {t : TypeId} {c0 c1 c2 c3 c4 c5 c6 u : Value} (h : w.heap[g]? = some (.cells #[c0, c1, c2, c3, c4, c5, c6] t (0, 0))) : (w.setCell ⟨g, 0, none⟩ u).heap[g]? = some (.cells #[u, c1, c2, c3, c4, c5, c6] t (0, 0)) := aC h 0 u rfl
theorem lr {w : World} {g : Nat} {t : TypeId} {c0 c1 c2 c3 c4 c5 c6 u : Value} (h : w.heap[g]? = some (.cells #[c0, c1, c2, c3, c4, c5, c6] t (0, 0))) : (w.setCell ⟨g, 1, none⟩ u).heap[g]? = some (.cells #[c0, u, c2, c3, c4, c5, c6] t (0, 0)) := aC h 1 u rfl
theorem ls {w : World} {g : Nat} {t : TypeId} {c0 c1 c2 c3 c4 c5 c6 u : Value} (h : w.heap[g]? = some (.cells #[c0, c1, c2, c3, c4, c5, c6] t (0, 0))) : (w.setCell ⟨g, 2, none⟩ u).heap[g]? = some (.cells #[c0, c1, u, c3, c4, c5, c6] t (0, 0)) := aC h 2 u rfl
theorem lu {w : World} {g : Nat} {t : TypeId} {c0 c1 c2 c3 c4 c5 c6 u : Value} (h : w.heap[g]? = some (.cells #[c0, c1, c2, c3, c4, c5, c6] t (0, 0))) : (w.setCell ⟨g, 3, none⟩ u).heap[g]? = some (.cells #[c0, c1, c2, u, c4, c5, c6] t (0, 0)) := aC h 3 u rfl
theorem lv {w : World} {g : Nat} {t : TypeId} {c0 c1 c2 c3 c4 c5 c6 u : Value} (h : w.heap[g]? = some (.cells #[c0, c1, c2, c3, c4, c5, c6] t (0, 0))) : (w.setCell ⟨g, 4, none⟩ u).heap[g]? = some (.cells #[c0, c1, c2, c3, u, c5, c6] t (0, 0)) := aC h 4 u rfl
theorem lw {w : World} {g : Nat} {t : TypeId} {c0 c1 c2 c3 c4 c5 c6 u : Value} (h : w.heap[g]? = some (.cells #[c0, c1, c2, c3, c4, c5, c6] t (0, 0))) : (w.setCell ⟨g, 5, none⟩ u).heap[g]? = some (.cells #[c0, c1, c2, c3, c4, u, c6] t (0, 0)) := aC h 5 u rfl
theorem lx {w : World} {g : Nat} {t : TypeId} {c0 c1 c2 c3 c4 c5 c6 u : Value} (h : w.heap[g]? = some (.cells #[c0, c1, c2, c3, c4, c5, c6] t (0, 0))) : (w.setCell ⟨g, 6, none⟩ u).heap[g]? = some (.cells #[c0, c1, c2, c3, c4, c5, u] t (0, 0)) := aC h 6 u rfl
theorem ly {w : World} {g : Nat} {t : TypeId} {c0 c1 c2 c3 c4 c5 c6 c7 u : Value} (h : w.heap[g]? = some (.cells #[c0, c1, c2, c3, c4, c5, c6, c7] t (0, 0))) : (w.setCell ⟨g, 0, none⟩ u).heap[g]? = some (.cells #[u, c1, c2, c3, c4, c5, c6, c7] t (0, 0)) := aC h 0 u rfl
theorem lz {w : World} {g : Nat} {t : TypeId} {c0 c1 c2 c3 c4 c5 c6 c7 u : Value} (h : w.heap[g]? = some (.cells #[c0, c1, c2, c3, c4, c5, c6, c7] t (0, 0))) : (w.setCell ⟨g, 1, none⟩ u).heap[g]? = some (.cells #[c0, u, c2, c3, c4, c5, c6, c7] t (0, 0)) := aC h 1 u rfl
theorem lA {w : World} {g : Nat} {t : TypeId} {c0 c1 c2 c3 c4 c5 c6 c7 u : Value} (h : w.heap[g]? = some (.cells #[c0, c1, c2, c3, c4, c5, c6, c7] t (0, 0))) : (w.setCell ⟨g, 2, none⟩ u).heap[g]? = some (.cells #[c0, c1, u, c3, c4, c5, c6, c7] t (0, 0)) := aC h 2 u rfl
theorem lB {w : World} {g : Nat} {t : TypeId} {c0 c1 c2 c3 c4 c5 c6 c7 u : Value} (h : w.heap[g]? = some (.cells #[c0, c1, c2, c3, c4, c5, c6, c7] t (0, 0))) : (w.setCell ⟨g, 3, none⟩ u).heap[g]? = some (.cells #[c0, c1, c2, u, c4, c5, c6, c7] t (0, 0)) := aC h 3 u rfl
theorem lC {w : World} {g : Nat} {t : TypeId} {c0 c1 c2 c3 c4 c5 c6 c7 u : Value} (h : w.heap[g]? = some (.cells #[c0, c1, c2, c3, c4, c5, c6, c7] t (0, 0))) : (w.setCell ⟨g, 4, none⟩ u).heap[g]? = some (.cells #[c0, c1, c2, c3, u, c5, c6, c7] t (0, 0)) := aC h 4 u rfl
theorem lD {w : World} {g : Nat} {t : TypeId} {c0 c1 c2 c3 c4 c5 c6 c7 u : Value} (h : w.heap[g]? = some (.cells #[c0, c1, c2, c3, c4, c5, c6, c7] t (0, 0))) : (w.setCell ⟨g, 5, none⟩ u).heap[g]? = some (.cells #[c0, c1, c2, c3, c4, u, c6, c7] t (0, 0)) := aC h 5 u rfl
theorem lE {w : World} {g : Nat} {t : TypeId} {c0 c1 c2 c3 c4 c5 c6 c7 u : Value} (h : w.heap[g]? = some (.cells #[c0, c1, c2, c3, c4, c5, c6, c7] t (0, 0))) : (w.setCell ⟨g, 6, none⟩ u).heap[g]? = some (.cells #[c0, c1, c2, c3, c4, c5, u, c7] t (0, 0)) := aC h 6 u rfl
theorem lF {w : World} {g : Nat} {t : TypeId} {c0 c1 c2 c3 c4 c5 c6 c7 u : Value} (h : w.heap[g]? = some (.cells #[c0, c1, c2, c3, c4, c5, c6, c7] t (0, 0))) : (w.setCell ⟨g, 7, none⟩ u).heap[g]? = some (.cells #[c0, c1, c2, c3, c4, c5, c6, u] t (0, 0)) := aC h 7 u rfl
theorem lG {w : World} {g : Nat} {t : TypeId} {c0 c1 c2 c3 c4 c5 c6 c7 c8 u : Value} (h : w.heap[g]? = some (.cells #[c0, c1, c2, c3, c4, c5, c6, c7, c8] t (0, 0))) : (w.setCell ⟨g, 0, none⟩ u).heap[g]? = some (.cells #[u, c1, c2, c3, c4, c5, c6, c7, c8] t (0, 0)) := aC h 0 u rfl
theorem lH {w : World} {g : Nat} {t : TypeId} {c0 c1 c2 c3 c4 c5 c6 c7 c8 u : Value} (h : w.heap[g]? = some (.cells #[c0, c1, c2, c3, c4, c5, c6, c7, c8] t (0, 0))) : (w.setCell ⟨g, 1, none⟩ u).heap[g]? = some (.cells #[c0, u, c2, c3, c4, c5, c6, c7, c8] t (0, 0)) := aC h 1 u rfl
theorem lI {w : World} {g : Nat} {t : TypeId} {c0 c1 c2 c3 c4 c5 c6 c7 c8 u : Value} (h : w.heap[g]? = some (.cells #[c0, c1, c2, c3, c4, c5, c6, c7, c8] t (0, 0))) : (w.setCell ⟨g, 2, none⟩ u).heap[g]? = some (.cells #[c0, c1, u, c3, c4, c5, c6, c7, c8] t (0, 0)) := aC h 2 u rfl
theorem lJ {w : World} {g : Nat} {t : TypeId} {c0 c1 c2 c3 c4 c5 c6 c7 c8 u : Value} (h : w.heap[g]? = some (.cells #[c0, c1, c2, c3, c4, c5, c6, c7, c8] t (0, 0))) : (w.setCell ⟨g, 3, none⟩ u).heap[g]? = some (.cells #[c0, c1, c2, u, c4, c5, c6, c7, c8] t (0, 0)) := aC h 3 u rfl
theorem lK {w : World} {g : Nat} {t : TypeId} {c0 c1 c2 c3 c4 c5 c6 c7 c8 u : Value} (h : w.heap[g]? = some (.cells #[c0, c1, c2, c3, c4, c5, c6, c7, c8] t (0, 0))) : (w.setCell ⟨g, 4, none⟩ u).heap[g]? = some (.cells #[c0, c1, c2, c3, u, c5, c6, c7, c8] t (0, 0)) := aC h 4 u rfl
theorem lL {w : World} {g : Nat} {t : TypeId} {c0 c1 c2 c3 c4 c5 c6 c7 c8 u : Value} (h : w.heap[g]? = some (.cells #[c0, c1, c2, c3, c4, c5, c6, c7, c8] t (0, 0))) : (w.setCell ⟨g, 5, none⟩ u).heap[g]? = some (.cells #[c0, c1, c2, c3, c4, u, c6, c7, c8] t (0, 0)) := aC h 5 u rfl
theorem lM {w : World} {g : Nat} {t : TypeId} {c0 c1 c2 c3 c4 c5 c6 c7 c8 u : Value} (h : w.heap[g]? = some (.cells #[c0, c1, c2, c3, c4, c5, c6, c7, c8] t (0, 0))) : (w.setCell ⟨g, 6, none⟩ u).heap[g]? = some (.cells #[c0, c1, c2, c3, c4, c5, u, c7, c8] t (0, 0)) := aC h 6 u rfl
theorem lN {w : World} {g : Nat} {t : TypeId} {c0 c1 c2 c3 c4 c5 c6 c7 c8 u : Value} (h : w.heap[g]? = some (.cells #[c0, c1, c2, c3, c4, c5, c6, c7, c8] t (0, 0))) : (w.setCell ⟨g, 7, none⟩ u).heap[g]? = some (.cells #[c0, c1, c2, c3, c4, c5, c6, u, c8] t (0, 0)) := aC h 7 u rfl
theorem lO {w : World} {g : Nat} {t : TypeId} {c0 c1 c2 c3 c4 c5 c6 c7 c8 u : Value} (h : w.heap[g]? = some (.cells #[c0, c1, c2, c3, c4, c5, c6, c7, c8] t (0, 0))) : (w.setCell ⟨g, 8, none⟩ u).heap[g]? = some (.cells #[c0, c1, c2, c3, c4, c5, c6, c7, u] t (0, 0)) := aC h 8 u rfl
theorem xbl {p : Prop} (h : p := by repeat (first | (with_reducible first | exact HB.out | apply bw | apply bA | apply aw | refine dj ?_ (Zz.out (by assumption))) | exact HB.out)) : p := h
theorem xst {w W w2 : World} (k : Below W.heap.size W w2) (h : Below w.heap.size w W := by repeat (first | (with_reducible first | exact HB.out | apply bw | apply bA | apply aw | refine dj ?_ (Zz.out (by assumption))) | exact HB.out)) : Zz (Below w.heap.size w w2) := ⟨bq h k⟩
theorem xsz {w W : World} {g : Nat} (hg : g = W.heap.size) (h : Below w.heap.size w W := by repeat (first | (with_reducible first | exact HB.out | apply bw | apply bA | apply aw | refine dj ?_ (Zz.out (by assumption))) | exact HB.out)) : Zz (w.heap.size ≤ g) := ⟨by rw [hg]; exact aD h⟩
theorem xbk {p : Prop} (h : p := by repeat (first | (with_reducible first | refine ek ?_ _ | refine bg ?_ | refine eI ?_ _ | exact Zz.out (by assumption) | refine ez ?_ (Zz.out (by assumption)) _ | apply kS | apply kT | apply kU | apply kV | apply kW | apply kX | apply kY | apply kZ | apply k8 | apply k9 | apply la | apply lb | apply lc | apply ld | apply le | apply lf | apply lg | apply lh | apply ll | apply lm | apply ln | apply lq | apply lr | apply ls | apply lu | apply lv | apply lw | apply lx | apply ly | apply lz | apply lA | apply lB | apply lC | apply lD | apply lE | apply lF | apply lG | apply lH | apply lI | apply lJ | apply lK | apply lL | apply lM | apply lN | apply lO) | refine ez ?_ (Zz.out (by assumption)) _ | exact Zz.out (by assumption))) : p := h
theorem xbb {w w1 : World} {g : Nat} {o : Obj} (hb : Below w.heap.size w w1) (h : w.heap[g]? = some o := by repeat (first | (with_reducible first | refine ek ?_ _ | refine bg ?_ | refine eI ?_ _ | exact Zz.out (by assumption) | refine ez ?_ (Zz.out (by assumption)) _ | apply kS | apply kT | apply kU | apply kV | apply kW | apply kX | apply kY | apply kZ | apply k8 | apply k9 | apply la | apply lb | apply lc | apply ld | apply le | apply lf | apply lg | apply lh | apply ll | apply lm | apply ln | apply lq | apply lr | apply ls | apply lu | apply lv | apply lw | apply lx | apply ly | apply lz | apply lA | apply lB | apply lC | apply lD | apply lE | apply lF | apply lG | apply lH | apply lI | apply lJ | apply lK | apply lL | apply lM | apply lN | apply lO) | refine ez ?_ (Zz.out (by assumption)) _ | exact Zz.out (by assumption))) : Zz (w1.heap[g]? = some o) := ⟨ky h hb⟩
theorem xlt {W : World} {g g' : Nat} {o : Obj} (hg : g' = W.heap.size) (h : W.heap[g]? = some o := by repeat (first | (with_reducible first | refine ek ?_ _ | refine bg ?_ | refine eI ?_ _ | exact Zz.out (by assumption) | refine ez ?_ (Zz.out (by assumption)) _ | apply kS | apply kT | apply kU | apply kV | apply kW | apply kX | apply kY | apply kZ | apply k8 | apply k9 | apply la | apply lb | apply lc | apply ld | apply le | apply lf | apply lg | apply lh | apply ll | apply lm | apply ln | apply lq | apply lr | apply ls | apply lu | apply lv | apply lw | apply lx | apply ly | apply lz | apply lA | apply lB | apply lC | apply lD | apply lE | apply lF | apply lG | apply lH | apply lI | apply lJ | apply lK | apply lL | apply lM | apply lN | apply lO) | refine ez ?_ (Zz.out (by assumption)) _ | exact Zz.out (by assumption))) : Zz (g ≠ g') := ⟨by rw [hg]; exact Nat.ne_of_lt (gg h)⟩
theorem xgt {W : World} {g g' : Nat} {o : Obj} (hg : g' = W.heap.size) (h : W.heap[g]? = some o := by repeat (first | (with_reducible first | refine ek ?_ _ | refine bg ?_ | refine eI ?_ _ | exact Zz.out (by assumption) | refine ez ?_ (Zz.out (by assumption)) _ | apply kS | apply kT | apply kU | apply kV | apply kW | apply kX | apply kY | apply kZ | apply k8 | apply k9 | apply la | apply lb | apply lc | apply ld | apply le | apply lf | apply lg | apply lh | apply ll | apply lm | apply ln | apply lq | apply lr | apply ls | apply lu | apply lv | apply lw | apply lx | apply ly | apply lz | apply lA | apply lB | apply lC | apply lD | apply lE | apply lF | apply lG | apply lH | apply lI | apply lJ | apply lK | apply lL | apply lM | apply lN | apply lO) | refine ez ?_ (Zz.out (by assumption)) _ | exact Zz.out (by assumption))) : Zz (g' ≠ g) := ⟨by rw [hg]; exact Nat.ne_of_gt (gg h)⟩
theorem xrr {p : Prop} (h : p := by first | rfl | (simp; done) | (simp [*]; done) | (simp [wrap64]; done)) : p := h
theorem xre {p : Prop} (h : p := by first | rfl | (simp [dz, dA] <;> first | rfl | (simp only [fI, bne, Bool.not_not]; done)) | (simp [*, dz, dA] <;> rfl)) : p := h
theorem xdr {p : Prop} (h : p := by repeat (first | exact Drawn0.refl _ | apply Drawn0.step)) : p := h
theorem xkd {p q : Prop} (f : Zz q) (h : q → p := by intro hq_; (with_reducible repeat (first | apply Kd.R_alloc | apply Kd.R_drewN | apply Kd.R_drew)); exact hq_) : p := h f.out
theorem xom {p : Prop} (h : p := by first | omega | exact Nat.le_refl _) : p := h
theorem xmo {p : Prop} (h : p := by
  repeat' first
   | (with_reducible apply ih0) | (with_reducible apply ih1) | (with_reducible apply ih2) | (with_reducible apply ih3) | (with_reducible apply ih4) | (with_reducible apply ih5) | (with_reducible apply ih6) | (with_reducible apply ih7) | (with_reducible apply ih8) | (with_reducible apply ih9)
   | (with_reducible apply ih10) | (with_reducible apply ih11) | (with_reducible apply ih12) | (with_reducible apply ih13) | (with_reducible apply ih14) | (with_reducible apply ih15) | (with_reducible apply ih16) | (with_reducible apply ih17) | (with_reducible apply ih18) | (with_reducible apply ih19)
   | (with_reducible apply m0) | (with_reducible apply m1) | (with_reducible apply m2) | (with_reducible apply m3) | (with_reducible apply m4) | (with_reducible apply m5) | (with_reducible apply m6) | (with_reducible apply m7) | (with_reducible apply m8) | (with_reducible apply m9)
   | (with_reducible apply m10) | (with_reducible apply m11) | (with_reducible apply m12) | (with_reducible apply m13) | (with_reducible apply m14) | (with_reducible apply m15) | (with_reducible apply m16) | (with_reducible apply m17) | (with_reducible apply m18) | (with_reducible apply m19)
   | (with_reducible exact LeO.refl _) | (with_reducible exact LeO.none _) | (with_reducible refine LeO.ite ?_ ?_) | (with_reducible refine LeO.bind ?_ (fun _ => ?_))
   | apply ih0 | apply ih1 | apply ih2 | apply ih3 | apply ih4 | apply ih5 | apply ih6 | apply ih7 | apply ih8 | apply ih9 | apply ih10 | apply ih11 | apply ih12 | apply ih13 | apply ih14 | apply ih15 | apply ih16 | apply ih17 | apply ih18 | apply ih19
   | apply m0 | apply m1 | apply m2 | apply m3 | apply m4 | apply m5 | apply m6 | apply m7 | apply m8 | apply m9 | apply m10 | apply m11 | apply m12 | apply m13 | apply m14 | apply m15 | apply m16 | apply m17 | apply m18 | apply m19
   | exact LeO.none _ | refine LeO.ite ?_ ?_ | refine LeO.bind ?_ (fun _ => ?_)) : p := h
theorem xod {p : Prop} [Decidable p] (h : decide p = true := by first | (with_reducible assumption) | assumption) : p := of_decide_eq_true h
section
variable {P : Program} {ops : Array Oper} {rest : List Oper} {o : Oper} {a : Act} {Q : Exit → Act → World → Prop}
theorem xgl {w : World} (N : Tmp) {f : FuncId} {fn : Func} {asx : Array Operand} {ts : Array TypeId} (hf : P.funcs[f]? = some fn) (args : Array Value)
    (h : Calls P f args w fun e w' => ∃ v, e = .returned v ∧ wpList P ops Q rest (a.put (some N) v) w')
    (hop : o.op = .call { callee := .value (.func f), args := asx, argTypes := ts } := by rfl) (hd : o.dst = some N := by rfl) (hg : o.guard = none := by rfl)
    (hname : (fn.name == "runtime.NumGoroutine") = false := by kernel_rfl) (hb : fn.body.isSome = true := by rfl)
    (hargs : asx.map a.eval = args := by (try simp only [List.map_toArray, List.map_cons, List.map_nil]); first | done | rfl | (simp only [List.length_drop, List.length_take]; rfl)) : wpList P ops Q (o :: rest) a w :=
  eB (some N) hd hg hf hname hb args hop hargs h
theorem xev {W : World} (N : Tmp) (cs : Array Value) (t : TypeId)
    (h : ∀ g, g = W.heap.size → ∀ w1, w1.heap[g]? = some (.cells cs t (0, 0)) → Below W.heap.size W w1 → wpList P ops Q rest (a.put o.dst (.pointer (some ⟨g, 0, none⟩))) w1)
    (hd : o.dst = some N := by rfl) (hgd : o.guard = none := by rfl)
    (hrun : (execOp a.eval o).run P W = .ok (.value (.pointer (some ⟨W.heap.size, 0, none⟩))) (W.alloc (.cells cs t (0, 0))) := by first | (go_simp; done) | (go_simp; rfl)) : wpList P ops Q (o :: rest) a W :=
  mK hgd hd hrun h
end
section
variable {w : World} {g : Nat} {t : TypeId} {c0 c1 c2 c3 c4 c5 c6 c7 c8 : Value}
variable {cs : Array Value}
theorem xf (h : Zz (w.heap[g]? = some (.cells cs t (0, 0)))) : ∀ i, w.frozen? ⟨g, i, none⟩ = false := fun i => b6 h.out i
end
end Go.Proofs.YtojdiklegmhakaaDoorW.PrintMore
namespace Go.Proofs
open Go.Shelf
def Tryd.lays137_ren : Go.Shelf.Ren := ⟨fun | 137 => 77 | 217 => 55 | 266 => 66 | n => n, fun | 9 => 9 | 5 => 5 | 3 => 3 | n => n, fun | n => n⟩
theorem Tryd.lays137 : Go.Proofs.Lays.n137 Tryd.prog Tryd.lays137_ren := {
  mixed := by kernel_rfl
  f137 := Tryd.func77.trans (congrArg some (by kernel_rfl))
  f217 := Tryd.func55.trans (congrArg some (by kernel_rfl))
  f266 := Tryd.func66.trans (congrArg some (by kernel_rfl))
  t3 := Tryd.underlying3
  a3 := Tryd.isAgg3
  z3 := Tryd.sizeOf3
  v3 := Tryd.zeroValue3
  t5 := Tryd.underlying5
  a5 := Tryd.isAgg5
  z5 := Tryd.sizeOf5
  v5 := Tryd.zeroValue5
  t9 := Tryd.underlying9
  a9 := Tryd.isAgg9
  z9 := Tryd.sizeOf9
  v9 := Tryd.zeroValue9 }
open Go.RowKit in
theorem Tryd.strings_IndexByte (s : ByteArray) (c : Int) (w : World) :
    Calls Tryd.prog 77 #[.string s, .int .u8 c] w fun e w' => e = .returned (.int .i64 (Lib.indexByte s.data.toList c.toNat.toUInt8)) ∧ w' = w := Any.strings_IndexByte Tryd.lays137 s c w
def Tryd.lays210_ren : Go.Shelf.Ren := ⟨fun | 210 => 45 | 206 => 60 | n => n, fun | 9 => 9 | 4 => 4 | 3 => 3 | n => n, fun | n => n⟩
theorem Tryd.lays210 : Go.Proofs.Lays.n210 Tryd.prog Tryd.lays210_ren := {
  mixed := by kernel_rfl
  f206 := Tryd.func60.trans (congrArg some (by kernel_rfl))
  f210 := Tryd.func45.trans (congrArg some (by kernel_rfl))
  t3 := Tryd.underlying3
  a3 := Tryd.isAgg3
  z3 := Tryd.sizeOf3
  v3 := Tryd.zeroValue3
  t4 := Tryd.underlying4
  a4 := Tryd.isAgg4
  z4 := Tryd.sizeOf4
  v4 := Tryd.zeroValue4
  t9 := Tryd.underlying9
  a9 := Tryd.isAgg9
  z9 := Tryd.sizeOf9
  v9 := Tryd.zeroValue9 }
open Go.RowKit in
theorem Tryd.stringslite_CutPrefix (s p : ByteArray) (w : World) :
    Calls Tryd.prog 45 #[.string s, .string p] w fun e w' => e = .returned (.tuple #[.string ⟨(Lib.trimPrefix s.data.toList p.data.toList).toArray⟩, .bool (Lib.hasPrefix s.data.toList p.data.toList)]) ∧ w' = w := Any.stringslite_CutPrefix Tryd.lays210 s p w
def Tryd.lays103_ren : Go.Shelf.Ren := ⟨fun | 103 => 33 | 210 => 45 | 206 => 60 | n => n, fun | 9 => 9 | 4 => 4 | 24 => 57 | 3 => 3 | n => n, fun | n => n⟩
theorem Tryd.lays103 : Go.Proofs.Lays.n103 Tryd.prog Tryd.lays103_ren := {
  mixed := by kernel_rfl
  f103 := Tryd.func33.trans (congrArg some (by kernel_rfl))
  f206 := Tryd.func60.trans (congrArg some (by kernel_rfl))
  f210 := Tryd.func45.trans (congrArg some (by kernel_rfl))
  t3 := Tryd.underlying3
  a3 := Tryd.isAgg3
  z3 := Tryd.sizeOf3
  v3 := Tryd.zeroValue3
  t4 := Tryd.underlying4
  a4 := Tryd.isAgg4
  z4 := Tryd.sizeOf4
  v4 := Tryd.zeroValue4
  t9 := Tryd.underlying9
  a9 := Tryd.isAgg9
  z9 := Tryd.sizeOf9
  v9 := Tryd.zeroValue9
  t24 := Tryd.underlying57
  a24 := Tryd.isAgg57
  z24 := Tryd.sizeOf57
  v24 := Tryd.zeroValue57 }
open Go.RowKit in
theorem Tryd.strings_CutPrefix (s p : ByteArray) (w : World) :
    Calls Tryd.prog 33 #[.string s, .string p] w fun e w' => e = .returned (.tuple #[.string ⟨(Lib.trimPrefix s.data.toList p.data.toList).toArray⟩, .bool (Lib.hasPrefix s.data.toList p.data.toList)]) ∧ w' = w := Any.strings_CutPrefix Tryd.lays103 s p w
open Go.RowKit in
def Tryd.lays217_ren : Go.Shelf.Ren := ⟨fun | 217 => 55 | 266 => 66 | n => n, fun | 9 => 9 | 5 => 5 | 3 => 3 | n => n, fun | n => n⟩
theorem Tryd.lays217 : Go.Proofs.Lays.n217 Tryd.prog Tryd.lays217_ren := {
  mixed := by kernel_rfl
  f217 := Tryd.func55.trans (congrArg some (by kernel_rfl))
  f266 := Tryd.func66.trans (congrArg some (by kernel_rfl))
  t3 := Tryd.underlying3
  a3 := Tryd.isAgg3
  z3 := Tryd.sizeOf3
  v3 := Tryd.zeroValue3
  t5 := Tryd.underlying5
  a5 := Tryd.isAgg5
  z5 := Tryd.sizeOf5
  v5 := Tryd.zeroValue5
  t9 := Tryd.underlying9
  a9 := Tryd.isAgg9
  z9 := Tryd.sizeOf9
  v9 := Tryd.zeroValue9 }
open Go.RowKit Go.Lib in
theorem Tryd.stringslite_IndexByte (s : ByteArray) (c : Int) (w : World) :
    Calls Tryd.prog 55 #[.string s, .int .u8 c] w fun e w' => e = .returned (.int .i64 (Lib.indexByte s.data.toList c.toNat.toUInt8)) ∧ w' = w := Any.stringslite_IndexByte Tryd.lays217 s c w
open Go.RowKit Go.Lib in
def Tryd.lays219_ren : Go.Shelf.Ren := ⟨fun | 219 => 43 | 217 => 55 | 225 => 56 | 224 => 57 | 267 => 58 | 266 => 66 | 314 => 67 | n => n, fun | 9 => 9 | 3 => 3 | 4 => 4 | 5 => 5 | 46 => 64 | 146 => 92 | 51 => 91 | n => n, fun | 1 => 0 | n => n⟩
theorem Tryd.lays219 : Go.Proofs.Lays.n219 Tryd.prog Tryd.lays219_ren := {
  mixed := by kernel_rfl
  f217 := Tryd.func55.trans (congrArg some (by kernel_rfl))
  f219 := Tryd.func43.trans (congrArg some (by kernel_rfl))
  f224 := Tryd.func57.trans (congrArg some (by kernel_rfl))
  f225 := Tryd.func56.trans (congrArg some (by kernel_rfl))
  f266 := Tryd.func66.trans (congrArg some (by kernel_rfl))
  f267 := Tryd.func58.trans (congrArg some (by kernel_rfl))
  f314 := Tryd.func67.trans (congrArg some (by kernel_rfl))
  t3 := Tryd.underlying3
  a3 := Tryd.isAgg3
  z3 := Tryd.sizeOf3
  v3 := Tryd.zeroValue3
  t4 := Tryd.underlying4
  a4 := Tryd.isAgg4
  z4 := Tryd.sizeOf4
  v4 := Tryd.zeroValue4
  t5 := Tryd.underlying5
  a5 := Tryd.isAgg5
  z5 := Tryd.sizeOf5
  v5 := Tryd.zeroValue5
  t9 := Tryd.underlying9
  a9 := Tryd.isAgg9
  z9 := Tryd.sizeOf9
  v9 := Tryd.zeroValue9
  t46 := Tryd.underlying64
  a46 := Tryd.isAgg64
  z46 := Tryd.sizeOf64
  v46 := Tryd.zeroValue64
  t51 := Tryd.underlying91
  a51 := Tryd.isAgg91
  z51 := Tryd.sizeOf91
  v51 := Tryd.zeroValue91
  t146 := Tryd.underlying92
  a146 := Tryd.isAgg92
  z146 := Tryd.sizeOf92
  v146 := Tryd.zeroValue92
  g1 := by kernel_rfl }
open Go.RowKit Go.Lib in
theorem Tryd.stringslite_Index (s sub : ByteArray) (m : Int) (w : World) (hs : s.size < 4294967281) (hm : w.cell? ⟨0, 0, none⟩ = some (.int .i64 m)) :
    Calls Tryd.prog 43 #[.string s, .string sub] w fun e w' => e = .returned (.int .i64 (Lib.index s.data.toList sub.data.toList)) ∧ w' = w := Any.stringslite_Index Tryd.lays219 s sub m w hs hm
open Go.RowKit Go.Lib in
def Tryd.lays220_ren : Go.Shelf.Ren := ⟨fun | 220 => 31 | 219 => 43 | 217 => 55 | 225 => 56 | 224 => 57 | 267 => 58 | 266 => 66 | 314 => 67 | n => n, fun | 9 => 9 | 4 => 4 | 3 => 3 | 5 => 5 | 46 => 64 | 146 => 92 | 51 => 91 | n => n, fun | 1 => 0 | n => n⟩
theorem Tryd.lays220 : Go.Proofs.Lays.n220 Tryd.prog Tryd.lays220_ren := {
  mixed := by kernel_rfl
  f217 := Tryd.func55.trans (congrArg some (by kernel_rfl))
  f219 := Tryd.func43.trans (congrArg some (by kernel_rfl))
  f220 := Tryd.func31.trans (congrArg some (by kernel_rfl))
  f224 := Tryd.func57.trans (congrArg some (by kernel_rfl))
  f225 := Tryd.func56.trans (congrArg some (by kernel_rfl))
  f266 := Tryd.func66.trans (congrArg some (by kernel_rfl))
  f267 := Tryd.func58.trans (congrArg some (by kernel_rfl))
  f314 := Tryd.func67.trans (congrArg some (by kernel_rfl))
  t3 := Tryd.underlying3
  a3 := Tryd.isAgg3
  z3 := Tryd.sizeOf3
  v3 := Tryd.zeroValue3
  t4 := Tryd.underlying4
  a4 := Tryd.isAgg4
  z4 := Tryd.sizeOf4
  v4 := Tryd.zeroValue4
  t5 := Tryd.underlying5
  a5 := Tryd.isAgg5
  z5 := Tryd.sizeOf5
  v5 := Tryd.zeroValue5
  t9 := Tryd.underlying9
  a9 := Tryd.isAgg9
  z9 := Tryd.sizeOf9
  v9 := Tryd.zeroValue9
  t46 := Tryd.underlying64
  a46 := Tryd.isAgg64
  z46 := Tryd.sizeOf64
  v46 := Tryd.zeroValue64
  t51 := Tryd.underlying91
  a51 := Tryd.isAgg91
  z51 := Tryd.sizeOf91
  v51 := Tryd.zeroValue91
  t146 := Tryd.underlying92
  a146 := Tryd.isAgg92
  z146 := Tryd.sizeOf92
  v146 := Tryd.zeroValue92
  g1 := by kernel_rfl }
open Go.RowKit Go.Lib in
theorem Tryd.stringslite_Cut (s sep : ByteArray) (m : Int) (w : World) (hs : s.size < 4294967281) (hm : w.cell? ⟨0, 0, none⟩ = some (.int .i64 m)) :
    Calls Tryd.prog 31 #[.string s, .string sep] w fun e w' => e = .returned (.tuple #[.string ⟨(Lib.cut s.data.toList sep.data.toList).1.toArray⟩, .string ⟨(Lib.cut s.data.toList sep.data.toList).2.1.toArray⟩, .bool (Lib.cut s.data.toList sep.data.toList).2.2]) ∧ ∃ n, w' = w.drewN n := Any.stringslite_Cut Tryd.lays220 s sep m w hs hm
def Tryd.lays145_ren : Go.Shelf.Ren := ⟨fun | 145 => 16 | 220 => 31 | 219 => 43 | 217 => 55 | 225 => 56 | 224 => 57 | 267 => 58 | 266 => 66 | 314 => 67 | n => n, fun | 9 => 9 | 4 => 4 | 59 => 40 | 3 => 3 | 5 => 5 | 46 => 64 | 146 => 92 | 51 => 91 | n => n, fun | 1 => 0 | n => n⟩
theorem Tryd.lays145 : Go.Proofs.Lays.n145 Tryd.prog Tryd.lays145_ren := {
  mixed := by kernel_rfl
  f145 := Tryd.func16.trans (congrArg some (by kernel_rfl))
  f217 := Tryd.func55.trans (congrArg some (by kernel_rfl))
  f219 := Tryd.func43.trans (congrArg some (by kernel_rfl))
  f220 := Tryd.func31.trans (congrArg some (by kernel_rfl))
  f224 := Tryd.func57.trans (congrArg some (by kernel_rfl))
  f225 := Tryd.func56.trans (congrArg some (by kernel_rfl))
  f266 := Tryd.func66.trans (congrArg some (by kernel_rfl))
  f267 := Tryd.func58.trans (congrArg some (by kernel_rfl))
  f314 := Tryd.func67.trans (congrArg some (by kernel_rfl))
  t3 := Tryd.underlying3
  a3 := Tryd.isAgg3
  z3 := Tryd.sizeOf3
  v3 := Tryd.zeroValue3
  t4 := Tryd.underlying4
  a4 := Tryd.isAgg4
  z4 := Tryd.sizeOf4
  v4 := Tryd.zeroValue4
  t5 := Tryd.underlying5
  a5 := Tryd.isAgg5
  z5 := Tryd.sizeOf5
  v5 := Tryd.zeroValue5
  t9 := Tryd.underlying9
  a9 := Tryd.isAgg9
  z9 := Tryd.sizeOf9
  v9 := Tryd.zeroValue9
  t46 := Tryd.underlying64
  a46 := Tryd.isAgg64
  z46 := Tryd.sizeOf64
  v46 := Tryd.zeroValue64
  t51 := Tryd.underlying91
  a51 := Tryd.isAgg91
  z51 := Tryd.sizeOf91
  v51 := Tryd.zeroValue91
  t59 := Tryd.underlying40
  a59 := Tryd.isAgg40
  z59 := Tryd.sizeOf40
  v59 := Tryd.zeroValue40
  t146 := Tryd.underlying92
  a146 := Tryd.isAgg92
  z146 := Tryd.sizeOf92
  v146 := Tryd.zeroValue92
  g1 := by kernel_rfl }
open Go.RowKit Go.Lib in
theorem Tryd.strings_Cut (s sep : ByteArray) (m : Int) (w : World) (hs : s.size < 4294967281) (hm : w.cell? ⟨0, 0, none⟩ = some (.int .i64 m)) :
    Calls Tryd.prog 16 #[.string s, .string sep] w fun e w' => e = .returned (.tuple #[.string ⟨(Lib.cut s.data.toList sep.data.toList).1.toArray⟩, .string ⟨(Lib.cut s.data.toList sep.data.toList).2.1.toArray⟩, .bool (Lib.cut s.data.toList sep.data.toList).2.2]) ∧ ∃ n, w' = w.drewN n := Any.strings_Cut Tryd.lays145 s sep m w hs hm
open Go.RowKit Go.Lib in
def Tryd.lays149_ren : Go.Shelf.Ren := ⟨fun | 149 => 69 | 222 => 76 | n => n, fun | 9 => 9 | 5 => 5 | 3 => 3 | 4 => 4 | n => n, fun | n => n⟩
theorem Tryd.lays149 : Go.Proofs.Lays.n149 Tryd.prog Tryd.lays149_ren := {
  mixed := by kernel_rfl
  f149 := Tryd.func69.trans (congrArg some (by kernel_rfl))
  f222 := Tryd.func76.trans (congrArg some (by kernel_rfl))
  t3 := Tryd.underlying3
  a3 := Tryd.isAgg3
  z3 := Tryd.sizeOf3
  v3 := Tryd.zeroValue3
  t4 := Tryd.underlying4
  a4 := Tryd.isAgg4
  z4 := Tryd.sizeOf4
  v4 := Tryd.zeroValue4
  t5 := Tryd.underlying5
  a5 := Tryd.isAgg5
  z5 := Tryd.sizeOf5
  v5 := Tryd.zeroValue5
  t9 := Tryd.underlying9
  a9 := Tryd.isAgg9
  z9 := Tryd.sizeOf9
  v9 := Tryd.zeroValue9 }
open Go.RowKit Go.Lib in
theorem Tryd.strings_LastIndexByte (s : ByteArray) (c : Int) (hs : s.size < 4611686018427387904) (w : World) :
    Calls Tryd.prog 69 #[.string s, .int .u8 c] w fun e w' => e = .returned (.int .i64 (Lib.lastIndexByte s c)) ∧ w' = w := Any.strings_LastIndexByte Tryd.lays149 s c hs w
def Tryd.lays206_ren : Go.Shelf.Ren := ⟨fun | 206 => 60 | n => n, fun | 9 => 9 | 4 => 4 | 3 => 3 | n => n, fun | n => n⟩
theorem Tryd.lays206 : Go.Proofs.Lays.n206 Tryd.prog Tryd.lays206_ren := {
  mixed := by kernel_rfl
  f206 := Tryd.func60.trans (congrArg some (by kernel_rfl))
  t3 := Tryd.underlying3
  a3 := Tryd.isAgg3
  z3 := Tryd.sizeOf3
  v3 := Tryd.zeroValue3
  t4 := Tryd.underlying4
  a4 := Tryd.isAgg4
  z4 := Tryd.sizeOf4
  v4 := Tryd.zeroValue4
  t9 := Tryd.underlying9
  a9 := Tryd.isAgg9
  z9 := Tryd.sizeOf9
  v9 := Tryd.zeroValue9 }
open Go.RowKit Go.Lib in
theorem Tryd.stringslite_HasPrefix (s p : ByteArray) (w : World) :
    Calls Tryd.prog 60 #[.string s, .string p] w fun e w' => e = .returned (.bool (Lib.hasPrefix s.data.toList p.data.toList)) ∧ w' = w := Any.stringslite_HasPrefix Tryd.lays206 s p w
def Tryd.lays99_ren : Go.Shelf.Ren := ⟨fun | 99 => 54 | 206 => 60 | n => n, fun | 9 => 9 | 4 => 4 | 3 => 3 | n => n, fun | n => n⟩
theorem Tryd.lays99 : Go.Proofs.Lays.n99 Tryd.prog Tryd.lays99_ren := {
  mixed := by kernel_rfl
  f99 := Tryd.func54.trans (congrArg some (by kernel_rfl))
  f206 := Tryd.func60.trans (congrArg some (by kernel_rfl))
  t3 := Tryd.underlying3
  a3 := Tryd.isAgg3
  z3 := Tryd.sizeOf3
  v3 := Tryd.zeroValue3
  t4 := Tryd.underlying4
  a4 := Tryd.isAgg4
  z4 := Tryd.sizeOf4
  v4 := Tryd.zeroValue4
  t9 := Tryd.underlying9
  a9 := Tryd.isAgg9
  z9 := Tryd.sizeOf9
  v9 := Tryd.zeroValue9 }
open Go.RowKit Go.Lib in
theorem Tryd.strings_HasPrefix (s p : ByteArray) (w : World) :
    Calls Tryd.prog 54 #[.string s, .string p] w fun e w' => e = .returned (.bool (Lib.hasPrefix s.data.toList p.data.toList)) ∧ w' = w := Any.strings_HasPrefix Tryd.lays99 s p w
open Go.RowKit Go.Lib in
def Tryd.lays146_ren : Go.Shelf.Ren := ⟨fun | 146 => 85 | 221 => 88 | 268 => 89 | 138 => 90 | 143 => 91 | 195 => 92 | 197 => 93 | 218 => 94 | 219 => 43 | 260 => 95 | 217 => 55 | 225 => 56 | 224 => 57 | 267 => 58 | 266 => 66 | 314 => 67 | n => n, fun | 9 => 9 | 31 => 113 | 3 => 3 | 4 => 4 | 0 => 0 | 105 => 120 | 21 => 21 | 5 => 5 | 46 => 64 | 119 => 122 | 139 => 125 | 138 => 124 | 146 => 92 | 51 => 91 | n => n, fun | 1 => 0 | 3 => 1 | 4 => 2 | n => n⟩
theorem Tryd.lays146 : Go.Proofs.Lays.n146 Tryd.prog Tryd.lays146_ren := {
  mixed := by kernel_rfl
  f138 := Tryd.func90.trans (congrArg some (by kernel_rfl))
  f143 := Tryd.func91.trans (congrArg some (by kernel_rfl))
  f146 := Tryd.func85.trans (congrArg some (by kernel_rfl))
  f195 := Tryd.func92.trans (congrArg some (by kernel_rfl))
  f197 := Tryd.func93.trans (congrArg some (by kernel_rfl))
  f217 := Tryd.func55.trans (congrArg some (by kernel_rfl))
  f218 := Tryd.func94.trans (congrArg some (by kernel_rfl))
  f219 := Tryd.func43.trans (congrArg some (by kernel_rfl))
  f221 := Tryd.func88.trans (congrArg some (by kernel_rfl))
  f224 := Tryd.func57.trans (congrArg some (by kernel_rfl))
  f225 := Tryd.func56.trans (congrArg some (by kernel_rfl))
  f260 := Tryd.func95.trans (congrArg some (by kernel_rfl))
  f266 := Tryd.func66.trans (congrArg some (by kernel_rfl))
  f267 := Tryd.func58.trans (congrArg some (by kernel_rfl))
  f268 := Tryd.func89.trans (congrArg some (by kernel_rfl))
  f314 := Tryd.func67.trans (congrArg some (by kernel_rfl))
  t0 := Tryd.underlying0
  a0 := Tryd.isAgg0
  z0 := Tryd.sizeOf0
  v0 := Tryd.zeroValue0
  t3 := Tryd.underlying3
  a3 := Tryd.isAgg3
  z3 := Tryd.sizeOf3
  v3 := Tryd.zeroValue3
  t4 := Tryd.underlying4
  a4 := Tryd.isAgg4
  z4 := Tryd.sizeOf4
  v4 := Tryd.zeroValue4
  t5 := Tryd.underlying5
  a5 := Tryd.isAgg5
  z5 := Tryd.sizeOf5
  v5 := Tryd.zeroValue5
  t9 := Tryd.underlying9
  a9 := Tryd.isAgg9
  z9 := Tryd.sizeOf9
  v9 := Tryd.zeroValue9
  t21 := Tryd.underlying21
  a21 := Tryd.isAgg21
  z21 := Tryd.sizeOf21
  v21 := Tryd.zeroValue21
  t31 := Tryd.underlying113
  a31 := Tryd.isAgg113
  z31 := Tryd.sizeOf113
  v31 := Tryd.zeroValue113
  t46 := Tryd.underlying64
  a46 := Tryd.isAgg64
  z46 := Tryd.sizeOf64
  v46 := Tryd.zeroValue64
  t51 := Tryd.underlying91
  a51 := Tryd.isAgg91
  z51 := Tryd.sizeOf91
  v51 := Tryd.zeroValue91
  t105 := Tryd.underlying120
  a105 := Tryd.isAgg120
  z105 := Tryd.sizeOf120
  v105 := Tryd.zeroValue120
  t119 := Tryd.underlying122
  a119 := Tryd.isAgg122
  z119 := Tryd.sizeOf122
  t138 := Tryd.underlying124
  a138 := Tryd.isAgg124
  z138 := Tryd.sizeOf124
  v138 := Tryd.zeroValue124
  t139 := Tryd.underlying125
  a139 := Tryd.isAgg125
  z139 := Tryd.sizeOf125
  v139 := Tryd.zeroValue125
  t146 := Tryd.underlying92
  a146 := Tryd.isAgg92
  z146 := Tryd.sizeOf92
  v146 := Tryd.zeroValue92
  g1 := by kernel_rfl
  g3 := by kernel_rfl
  g4 := by kernel_rfl }
open Go.RowKit Go.Lib in
theorem Tryd.strings_Split (s sep : ByteArray) (m : Int) (w : World) (hs : s.size < 4294967281) (hm : w.cell? ⟨0, 0, none⟩ = some (.int .i64 m)) (h1 : 1 ≤ sep.size) :
    Calls Tryd.prog 85 #[.string s, .string sep] w fun e w' =>
      e = .returned (.slice (some ⟨w.heap.size, 0, none⟩) (Lib.countB s sep + 1) (Lib.countB s sep + 1)) ∧ w' = w.alloc (.cells ((Lib.splitB sep 0 (Lib.countB s sep) s).map Value.string).toArray 9) := Any.strings_Split Tryd.lays146 (by kernel_rfl) s sep m w hs hm h1
open Go.RowKit Go.Lib in
def Tryd.laysPa45_ren : Go.Shelf.Ren := ⟨fun | 45 => 76 | n => n, fun | 9 => 9 | 5 => 5 | 3 => 3 | 4 => 4 | n => n, fun | n => n⟩
theorem Tryd.laysPa45 : Go.Proofs.Lays.p45 Tryd.prog Tryd.laysPa45_ren := {
  mixed := by kernel_rfl
  f45 := Tryd.func76.trans (congrArg some (by kernel_rfl))
  t3 := Tryd.underlying3
  a3 := Tryd.isAgg3
  z3 := Tryd.sizeOf3
  v3 := Tryd.zeroValue3
  t4 := Tryd.underlying4
  a4 := Tryd.isAgg4
  z4 := Tryd.sizeOf4
  v4 := Tryd.zeroValue4
  t5 := Tryd.underlying5
  a5 := Tryd.isAgg5
  z5 := Tryd.sizeOf5
  v5 := Tryd.zeroValue5
  t9 := Tryd.underlying9
  a9 := Tryd.isAgg9
  z9 := Tryd.sizeOf9
  v9 := Tryd.zeroValue9 }
open Go.RowKit Go.Lib in
theorem Tryd.bytealg_LastIndexByteString (s : ByteArray) (c : UInt8) (w : World) (hs : s.size ≤ 9223372036854775807) :
    Calls Tryd.prog 76 #[.string s, .int .u8 c.toNat] w fun e w' => e = .returned (.int .i64 (Pa.lastIndexByte s.data.toList c)) ∧ w' = w := Any.bytealg_LastIndexByteString Tryd.laysPa45 s c w hs
end Go.Proofs
namespace Go.Proofs.YtojdiklegmhakaaDoorW.PrintMore
open Go.RowKit Go.Proofs.YtojdiklegmhakaaDoorW.PrintWords Go.Proofs.YtojdiklegmhakaaDoorW.PrintLast
section
variable {w : World} {g : Nat} {t : TypeId} {c0 c1 c2 c3 c4 c5 c6 c7 c8 c9 c10 c11 : Value}
abbrev xS1 (g : Nat) (c0 : Value) (w : World) : Prop := w.cell? ⟨g, 0, none⟩ = some c0
abbrev xS2 (g : Nat) (c0 c1 : Value) (w : World) : Prop := w.cell? ⟨g, 0, none⟩ = some c0 ∧ w.cell? ⟨g, 1, none⟩ = some c1
abbrev xS3 (g : Nat) (c0 c1 c2 : Value) (w : World) : Prop := w.cell? ⟨g, 0, none⟩ = some c0 ∧ w.cell? ⟨g, 1, none⟩ = some c1 ∧ w.cell? ⟨g, 2, none⟩ = some c2
abbrev xS4 (g : Nat) (c0 c1 c2 c3 : Value) (w : World) : Prop := w.cell? ⟨g, 0, none⟩ = some c0 ∧ w.cell? ⟨g, 1, none⟩ = some c1 ∧ w.cell? ⟨g, 2, none⟩ = some c2 ∧ w.cell? ⟨g, 3, none⟩ = some c3
theorem xs4 (h : w.heap[g]? = some (.cells #[c0, c1, c2, c3] t (0, 0))) : xS4 g c0 c1 c2 c3 w := ⟨(ab h 0).trans rfl, (ab h 1).trans rfl, (ab h 2).trans rfl, (ab h 3).trans rfl⟩
theorem xz4 (h : w.heap[g]? = some (.cells #[c0, c1, c2, c3] t (0, 0))) : (w.cell? ⟨g, 0, none⟩ = some c0 ∧ w.cell? ⟨g, 1, none⟩ = some c1 ∧ w.cell? ⟨g, 2, none⟩ = some c2 ∧ w.cell? ⟨g, 3, none⟩ = some c3) ∧ ∀ i, w.frozen? ⟨g, i, none⟩ = false := ⟨xs4 h, fun i => b6 h i⟩
abbrev xS5 (g : Nat) (c0 c1 c2 c3 c4 : Value) (w : World) : Prop := w.cell? ⟨g, 0, none⟩ = some c0 ∧ w.cell? ⟨g, 1, none⟩ = some c1 ∧ w.cell? ⟨g, 2, none⟩ = some c2 ∧ w.cell? ⟨g, 3, none⟩ = some c3 ∧ w.cell? ⟨g, 4, none⟩ = some c4
theorem xs5 (h : w.heap[g]? = some (.cells #[c0, c1, c2, c3, c4] t (0, 0))) : xS5 g c0 c1 c2 c3 c4 w := ⟨(ab h 0).trans rfl, (ab h 1).trans rfl, (ab h 2).trans rfl, (ab h 3).trans rfl, (ab h 4).trans rfl⟩
theorem xz5 (h : w.heap[g]? = some (.cells #[c0, c1, c2, c3, c4] t (0, 0))) : (w.cell? ⟨g, 0, none⟩ = some c0 ∧ w.cell? ⟨g, 1, none⟩ = some c1 ∧ w.cell? ⟨g, 2, none⟩ = some c2 ∧ w.cell? ⟨g, 3, none⟩ = some c3 ∧ w.cell? ⟨g, 4, none⟩ = some c4) ∧ ∀ i, w.frozen? ⟨g, i, none⟩ = false := ⟨xs5 h, fun i => b6 h i⟩
abbrev xS6 (g : Nat) (c0 c1 c2 c3 c4 c5 : Value) (w : World) : Prop := w.cell? ⟨g, 0, none⟩ = some c0 ∧ w.cell? ⟨g, 1, none⟩ = some c1 ∧ w.cell? ⟨g, 2, none⟩ = some c2 ∧ w.cell? ⟨g, 3, none⟩ = some c3 ∧ w.cell? ⟨g, 4, none⟩ = some c4 ∧ w.cell? ⟨g, 5, none⟩ = some c5
abbrev xS7 (g : Nat) (c0 c1 c2 c3 c4 c5 c6 : Value) (w : World) : Prop := w.cell? ⟨g, 0, none⟩ = some c0 ∧ w.cell? ⟨g, 1, none⟩ = some c1 ∧ w.cell? ⟨g, 2, none⟩ = some c2 ∧ w.cell? ⟨g, 3, none⟩ = some c3 ∧ w.cell? ⟨g, 4, none⟩ = some c4 ∧ w.cell? ⟨g, 5, none⟩ = some c5 ∧ w.cell? ⟨g, 6, none⟩ = some c6
abbrev xS8 (g : Nat) (c0 c1 c2 c3 c4 c5 c6 c7 : Value) (w : World) : Prop := w.cell? ⟨g, 0, none⟩ = some c0 ∧ w.cell? ⟨g, 1, none⟩ = some c1 ∧ w.cell? ⟨g, 2, none⟩ = some c2 ∧ w.cell? ⟨g, 3, none⟩ = some c3 ∧ w.cell? ⟨g, 4, none⟩ = some c4 ∧ w.cell? ⟨g, 5, none⟩ = some c5 ∧ w.cell? ⟨g, 6, none⟩ = some c6 ∧ w.cell? ⟨g, 7, none⟩ = some c7
theorem xs8 (h : w.heap[g]? = some (.cells #[c0, c1, c2, c3, c4, c5, c6, c7] t (0, 0))) : xS8 g c0 c1 c2 c3 c4 c5 c6 c7 w := ⟨(ab h 0).trans rfl, (ab h 1).trans rfl, (ab h 2).trans rfl, (ab h 3).trans rfl, (ab h 4).trans rfl, (ab h 5).trans rfl, (ab h 6).trans rfl, (ab h 7).trans rfl⟩
theorem xz8 (h : w.heap[g]? = some (.cells #[c0, c1, c2, c3, c4, c5, c6, c7] t (0, 0))) : (w.cell? ⟨g, 0, none⟩ = some c0 ∧ w.cell? ⟨g, 1, none⟩ = some c1 ∧ w.cell? ⟨g, 2, none⟩ = some c2 ∧ w.cell? ⟨g, 3, none⟩ = some c3 ∧ w.cell? ⟨g, 4, none⟩ = some c4 ∧ w.cell? ⟨g, 5, none⟩ = some c5 ∧ w.cell? ⟨g, 6, none⟩ = some c6 ∧ w.cell? ⟨g, 7, none⟩ = some c7) ∧ ∀ i, w.frozen? ⟨g, i, none⟩ = false := ⟨xs8 h, fun i => b6 h i⟩
abbrev xS9 (g : Nat) (c0 c1 c2 c3 c4 c5 c6 c7 c8 : Value) (w : World) : Prop := w.cell? ⟨g, 0, none⟩ = some c0 ∧ w.cell? ⟨g, 1, none⟩ = some c1 ∧ w.cell? ⟨g, 2, none⟩ = some c2 ∧ w.cell? ⟨g, 3, none⟩ = some c3 ∧ w.cell? ⟨g, 4, none⟩ = some c4 ∧ w.cell? ⟨g, 5, none⟩ = some c5 ∧ w.cell? ⟨g, 6, none⟩ = some c6 ∧ w.cell? ⟨g, 7, none⟩ = some c7 ∧ w.cell? ⟨g, 8, none⟩ = some c8
abbrev oz (g : Nat) (c0 c1 c2 c3 c4 c5 c6 c7 c8 c9 : Value) (w : World) : Prop := w.cell? ⟨g, 0, none⟩ = some c0 ∧ w.cell? ⟨g, 1, none⟩ = some c1 ∧ w.cell? ⟨g, 2, none⟩ = some c2 ∧ w.cell? ⟨g, 3, none⟩ = some c3 ∧ w.cell? ⟨g, 4, none⟩ = some c4 ∧ w.cell? ⟨g, 5, none⟩ = some c5 ∧ w.cell? ⟨g, 6, none⟩ = some c6 ∧ w.cell? ⟨g, 7, none⟩ = some c7 ∧ w.cell? ⟨g, 8, none⟩ = some c8 ∧ w.cell? ⟨g, 9, none⟩ = some c9
abbrev n9 (g : Nat) (c0 c1 c2 c3 c4 c5 c6 c7 c8 c9 c10 : Value) (w : World) : Prop := w.cell? ⟨g, 0, none⟩ = some c0 ∧ w.cell? ⟨g, 1, none⟩ = some c1 ∧ w.cell? ⟨g, 2, none⟩ = some c2 ∧ w.cell? ⟨g, 3, none⟩ = some c3 ∧ w.cell? ⟨g, 4, none⟩ = some c4 ∧ w.cell? ⟨g, 5, none⟩ = some c5 ∧ w.cell? ⟨g, 6, none⟩ = some c6 ∧ w.cell? ⟨g, 7, none⟩ = some c7 ∧ w.cell? ⟨g, 8, none⟩ = some c8 ∧ w.cell? ⟨g, 9, none⟩ = some c9 ∧ w.cell? ⟨g, 10, none⟩ = some c10
theorem dG (h : w.heap[g]? = some (.cells #[c0, c1, c2, c3, c4, c5, c6, c7, c8, c9, c10] t (0, 0))) : n9 g c0 c1 c2 c3 c4 c5 c6 c7 c8 c9 c10 w := ⟨(ab h 0).trans rfl, (ab h 1).trans rfl, (ab h 2).trans rfl, (ab h 3).trans rfl, (ab h 4).trans rfl, (ab h 5).trans rfl, (ab h 6).trans rfl, (ab h 7).trans rfl, (ab h 8).trans rfl, (ab h 9).trans rfl, (ab h 10).trans rfl⟩
theorem cA (h : w.heap[g]? = some (.cells #[c0, c1, c2, c3, c4, c5, c6, c7, c8, c9, c10] t (0, 0))) : (w.cell? ⟨g, 0, none⟩ = some c0 ∧ w.cell? ⟨g, 1, none⟩ = some c1 ∧ w.cell? ⟨g, 2, none⟩ = some c2 ∧ w.cell? ⟨g, 3, none⟩ = some c3 ∧ w.cell? ⟨g, 4, none⟩ = some c4 ∧ w.cell? ⟨g, 5, none⟩ = some c5 ∧ w.cell? ⟨g, 6, none⟩ = some c6 ∧ w.cell? ⟨g, 7, none⟩ = some c7 ∧ w.cell? ⟨g, 8, none⟩ = some c8 ∧ w.cell? ⟨g, 9, none⟩ = some c9 ∧ w.cell? ⟨g, 10, none⟩ = some c10) ∧ ∀ i, w.frozen? ⟨g, i, none⟩ = false := ⟨dG h, fun i => b6 h i⟩
abbrev oA (g : Nat) (c0 c1 c2 c3 c4 c5 c6 c7 c8 c9 c10 c11 : Value) (w : World) : Prop := w.cell? ⟨g, 0, none⟩ = some c0 ∧ w.cell? ⟨g, 1, none⟩ = some c1 ∧ w.cell? ⟨g, 2, none⟩ = some c2 ∧ w.cell? ⟨g, 3, none⟩ = some c3 ∧ w.cell? ⟨g, 4, none⟩ = some c4 ∧ w.cell? ⟨g, 5, none⟩ = some c5 ∧ w.cell? ⟨g, 6, none⟩ = some c6 ∧ w.cell? ⟨g, 7, none⟩ = some c7 ∧ w.cell? ⟨g, 8, none⟩ = some c8 ∧ w.cell? ⟨g, 9, none⟩ = some c9 ∧ w.cell? ⟨g, 10, none⟩ = some c10 ∧ w.cell? ⟨g, 11, none⟩ = some c11
end
theorem xm1 {α β : Type} (f : α → β) (l : List α) : l.toArray.map f = (l.map f).toArray := by simp
theorem xm2 {α β : Type} (f : α → β) (a : α) (l : List α) : (a :: l).map f = f a :: l.map f := rfl
theorem xm3 {α β : Type} (f : α → β) : ([] : List α).map f = [] := rfl
def xW (T : List (List Nat × List Nat)) : List Nat := T.foldl (fun B r => B ++ [upM B B.length r.1]) []
section
variable {P : Program} {ops : Array Oper} {Q : Exit → Act → World → Prop} {S : World → Prop} {ds : List Nat} {md : Region.Mode}
theorem xsr {id : Nat} {a : Act} {w : World} {l : Array Bool} (n : Nat) (ds : List Nat) (hS : S w.drew) (h : S w.drew → aq P .any ops Q S ds n l a w.drew)
    (hm : P.follows .mixedOrders = true := by kernel_rfl) (hn : ops.size = n := by rfl) (hl : (List.replicate n false).toArray = l := by simp only [List.replicate_succ, List.replicate_zero]; rfl) : (Code.region id ops true).wp P Q a w :=
  kc l hm hn (by subst hl; simp) hS h
theorem xpu {oi : Oper} {v : Value} {fuel : Nat} {l l' : Array Bool} {a a' : Act} {w : World} (i : Nat) (N : Tmp) (h : aq P md ops Q S ds fuel l' a' w)
    (hi : ops[i]? = some oi := by rfl) (hN : oi.dst = some N := by rfl)
    (hl : l.setIfInBounds i true = l' := by simp only [List.setIfInBounds_toArray, List.set_cons_zero, List.set_cons_succ]; rfl)
    (hc : mf (dd md ops) l.toList l'.toList i = true := by kernel_rfl)
    (hQ : ∀ c a w, Q (.panic c) (a.put oi.dst v) w → Q (.panic c) a w := by exact fun _ _ _ h => h)
    (hw : Region.wanted oi (yielded ops a.tmps) = true := by rfl)
    (hv : ∀ w, (execOp a.eval oi).run P w = .ok (.value v) w := by intro w'; go_simp; with_reducible rfl)
    (ha : a.put (some N) v = a' := by simp only [Act.put, List.setIfInBounds_toArray, List.set_cons_zero, List.set_cons_succ, an, au]; rfl) : aq P md ops Q S ds (fuel + 1) l a w :=
  fD l' hi hN (mI rfl hc) hQ (Or.inl ⟨hw, hv⟩) ha h
theorem xpo {oi : Oper} {fuel : Nat} {l l' : Array Bool} {a a' : Act} {w : World} (i : Nat) (N : Tmp) (h : aq P md ops Q S ds fuel l' a' w)
    (hi : ops[i]? = some oi := by rfl) (hN : oi.dst = some N := by rfl)
    (hl : l.setIfInBounds i true = l' := by simp only [List.setIfInBounds_toArray, List.set_cons_zero, List.set_cons_succ]; rfl)
    (hc : mf (dd md ops) l.toList l'.toList i = true := by kernel_rfl)
    (hQ : ∀ c a w, Q (.panic c) (a.put oi.dst undef) w → Q (.panic c) a w := by exact fun _ _ _ h => h)
    (hw : Region.wanted oi (yielded ops a.tmps) = false := by rfl)
    (ha : a.put (some N) undef = a' := by simp only [Act.put, List.setIfInBounds_toArray, List.set_cons_zero, List.set_cons_succ, an, au]; rfl) : aq P md ops Q S ds (fuel + 1) l a w :=
  fD l' hi hN (mI rfl hc) hQ (Or.inr ⟨hw, rfl⟩) ha h
theorem xtk {oi : Oper} {v : Value} {fuel : Nat} {l l' : Array Bool} {a a' : Act} {w : World} (i : Nat) (N : Tmp) (h : aq P md ops Q S ds fuel l' a' w)
    (hB : ks (dd md ops).2 (xW (dd md ops).2) = true := by kernel_rfl) (hS : S w := by exact hHeld) (hi : ops[i]? = some oi := by rfl) (hN : oi.dst = some N := by rfl)
    (hl : l.setIfInBounds i true = l' := by simp only [List.setIfInBounds_toArray, List.set_cons_zero, List.set_cons_succ]; rfl)
    (hc : mD (dd md ops) (xW (dd md ops).2) ds l.toList l'.toList i = true := by kernel_rfl)
    (hQ : ∀ c a w, Q (.panic c) (a.put oi.dst v) w → Q (.panic c) a w := by exact fun _ _ _ h => h)
    (hw : Region.wanted oi (yielded ops a.tmps) = true := by rfl)
    (hv : ∀ w, S w → (execOp a.eval oi).run P w = .ok (.value v) w := by intro w' hs_; (try simp only [xS1, xS2, xS3, xS4, xS5, xS6, xS7, xS8, xS9, oz, n9, oA] at hs_); go_simp; with_reducible rfl)
    (ha : a.put (some N) v = a' := by simp only [Act.put, List.setIfInBounds_toArray, List.set_cons_zero, List.set_cons_succ, an, au]; rfl) : aq P md ops Q S ds (fuel + 1) l a w :=
  take_ l' hi hN (nt rfl hB hc) hQ (Or.inl ⟨hw, hv⟩) hS ha h
theorem xon {oi : Oper} {v : Value} {R : World → Prop} {fuel : Nat} {l l' : Array Bool} {a a' : Act} {w : World} {f : FuncId} {fn : Func} {asx : Array Operand} {ts : Array TypeId} {args : Array Value} (i : Nat) (N : Tmp) (hf : P.funcs[f]? = some fn)
    (C : Calls P f args w fun e w' => e = .returned v ∧ R w') (h : ∀ w', R w' → S w' ∧ (S w' → aq P md ops Q S ds fuel l' a' w'))
    (hi : ops[i]? = some oi := by rfl) (hN : oi.dst = some N := by rfl)
    (hl : l.setIfInBounds i true = l' := by simp only [List.setIfInBounds_toArray, List.set_cons_zero, List.set_cons_succ]; rfl)
    (hc : (fS (dd md ops).2 l.toList == [i] && l.toList.set i true == l'.toList) = true := by kernel_rfl) (hd : i ∉ ds := by decide)
    (hop : oi.op = .call { callee := .value (.func f), args := asx, argTypes := ts } := by rfl) (hname : (fn.name == "runtime.NumGoroutine") = false := by kernel_rfl) (hb : fn.body.isSome = true := by rfl)
    (hw : Region.wanted oi (yielded ops a.tmps) = true := by rfl)
    (hargs : asx.map a.eval = args := by (try simp only [List.map_toArray, List.map_cons, List.map_nil]); first | done | rfl | (simp only [List.length_drop, List.length_take]; rfl))
    (ha : a.put (some N) v = a' := by simp only [Act.put, List.setIfInBounds_toArray, List.set_cons_zero, List.set_cons_succ, an, au]; rfl) : aq P md ops Q S ds (fuel + 1) l a w :=
  fv l' hi hN (e4 rfl hc) hd fun K hK => jD hf hname hb args hw hN hop hargs (C.mono fun e w' ⟨he, hr⟩ => ⟨v, he, hK.out _ _ (h w' hr).1 (fun hs => ha ▸ (h w' hr).2 hs)⟩)
theorem xos {oi : Oper} {fuel : Nat} {l l' : Array Bool} {a : Act} {w w1 : World} (i : Nat) (h : S w1 ∧ (S w1 → aq P md ops Q S ds fuel l' a w1))
    (hi : ops[i]? = some oi := by rfl) (hN : oi.dst = none := by rfl)
    (hl : l.setIfInBounds i true = l' := by simp only [List.setIfInBounds_toArray, List.set_cons_zero, List.set_cons_succ]; rfl)
    (hc : (fS (dd md ops).2 l.toList == [i] && l.toList.set i true == l'.toList) = true := by kernel_rfl) (hd : i ∉ ds := by decide)
    (hw : Region.wanted oi (yielded ops a.tmps) = true := by rfl) (hrun : (execOp a.eval oi).run P w = .ok .skip w1 := by go_simp; rfl) : aq P md ops Q S ds (fuel + 1) l a w :=
  fv l' hi hN (e4 rfl hc) hd fun K hK => fU hw hN hrun (hK.out _ _ h.1 h.2)
theorem xls {oi : Oper} {fuel : Nat} {l l' : Array Bool} {a : Act} {w w1 : World} (i : Nat) (h : aq P md ops Q S ds fuel l' a w1)
    (hi : ops[i]? = some oi := by rfl) (hN : oi.dst = none := by rfl)
    (hl : l.setIfInBounds i true = l' := by simp only [List.setIfInBounds_toArray, List.set_cons_zero, List.set_cons_succ]; rfl)
    (hc : (fS (dd md ops).2 l.toList == [i] && l.toList.set i true == l'.toList) = true := by kernel_rfl) (hd : i ∈ ds := by decide)
    (hw : Region.wanted oi (yielded ops a.tmps) = true := by rfl) (hrun : (execOp a.eval oi).run P w = .ok .skip w1 := by go_simp; rfl) : aq P md ops Q S ds (fuel + 1) l a w :=
  om l' hi hN (e4 rfl hc) hd fun K hK => fU hw hN hrun (hK.out _ _ h)
theorem xdn {l : Array Bool} {a : Act} {w : World} {n : Nat} (h : Q .normal a w) (hc : (fS (dd md ops).2 l.toList == []) = true := by kernel_rfl) : aq P md ops Q S ds n l a w := kJ (nE rfl hc) h
end
section
variable {P : Program} {ops : Array Oper} {rest : List Oper} {o : Oper} {a : Act} {Q : Exit → Act → World → Prop}
theorem xca {w : World} {v : Value} {R : World → Prop} (N : Tmp) {f : FuncId} {fn : Func} {asx : Array Operand} {ts : Array TypeId} (hf : P.funcs[f]? = some fn) {args : Array Value}
    (C : Calls P f args w fun e w' => e = .returned v ∧ R w') (h : ∀ w', R w' → wpList P ops Q rest (a.put (some N) v) w')
    (hop : o.op = .call { callee := .value (.func f), args := asx, argTypes := ts } := by rfl) (hd : o.dst = some N := by rfl) (hg : o.guard = none := by rfl)
    (hname : (fn.name == "runtime.NumGoroutine") = false := by kernel_rfl) (hb : fn.body.isSome = true := by rfl)
    (hargs : asx.map a.eval = args := by (try simp only [List.map_toArray, List.map_cons, List.map_nil]); first | done | rfl | (simp only [List.length_drop, List.length_take]; rfl)) : wpList P ops Q (o :: rest) a w :=
  eB (some N) hd hg hf hname hb args hop hargs (C.mono fun e w' ⟨he, hr⟩ => ⟨v, he, h w' hr⟩)
theorem xgc {W : World} {f : FuncId} {asx : Array Operand} {ts : Array TypeId} (_ho : o.op = .call { callee := .value (.func f), args := asx, argTypes := ts }) (h : wpList P ops Q (o :: rest) a W) : wpList P ops Q (o :: rest) a W := h
end
section
variable {α : Type} {x y z : Option α} {G : Prop}
theorem xib {b : Bool} (H : (if b = true then x else y) = z) (h1 : b = true → x = z → G) (h2 : b = false → y = z → G) : G := by
  cases b with
  | true => exact h1 rfl (by rw [if_pos rfl] at H; exact H)
  | false => exact h2 rfl (by rw [if_neg (by decide)] at H; exact H)
theorem xid {c : Prop} [Decidable c] (H : (if c then x else y) = z) (h1 : c → x = z → G) (h2 : ¬c → y = z → G) : G := by
  by_cases hc : c
  · exact h1 hc (by rw [if_pos hc] at H; exact H)
  · exact h2 hc (by rw [if_neg hc] at H; exact H)
theorem xin {c : Prop} [Decidable c] {r : α} (H : (if c then x else none) = some r) (h : c → x = some r → G) : G := by
  by_cases hc : c
  · exact h hc (by rw [if_pos hc] at H; exact H)
  · rw [if_neg hc] at H
    exact absurd H (by simp)
theorem xbd {β : Type} {f : α → Option β} {r : β} (H : x.bind f = some r) : ∃ t, Zz (x = some t) ∧ f t = some r := by
  obtain ⟨t, h1, h2⟩ := Option.bind_eq_some_iff.mp H
  exact ⟨t, ⟨h1⟩, h2⟩
end
theorem xcp {c : Prop} [Decidable c] (h : c) : (c = True) ∧ decide c = true := ⟨eq_true h, decide_eq_true h⟩
theorem mE {w : World} {g b i : Nat} {t : TypeId} {cs : Array Value} {u : Value} (h : w.heap[g]? = some (.cells cs t (0, 0))) (hp : Zz (g ≠ b)) : (w.setCell ⟨b, i, none⟩ u).heap[g]? = some (.cells cs t (0, 0)) := ez h hp.out u
theorem xbK {p : Prop} (h : p := by repeat (with_reducible first | refine ek ?_ _ | refine bg ?_ | refine eI ?_ _ | exact Zz.out (by assumption) | refine mE ?_ (by assumption) | apply kS | apply kT | apply kU | apply kV | apply kW | apply kX | apply kY | apply kZ | apply k8 | apply k9 | apply la | apply lb | apply lc | apply ld | apply le | apply lf | apply lg | apply lh | apply ll | apply lm | apply ln | apply lq | apply lr | apply ls | apply lu | apply lv | apply lw | apply lx | apply ly | apply lz | apply lA | apply lB | apply lC | apply lD | apply lE | apply lF | apply lG | apply lH | apply lI | apply lJ | apply lK | apply lL | apply lM | apply lN | apply lO)) : p := h
theorem xbq (g : Nat) {W w1 : World} {cs cs' : Array Value} {t : TypeId} (hb : Below W.heap.size W w1) (h1 : W.heap[g]? = some (.cells cs t (0, 0)) := by repeat (first | (with_reducible first | refine ek ?_ _ | refine bg ?_ | refine eI ?_ _ | exact Zz.out (by assumption) | refine mE ?_ (by assumption) | refine bR ?_ _ _)))
    (h2 : cs = cs' := by (try simp only [List.setIfInBounds_toArray, List.set_cons_zero, List.set_cons_succ]); rfl) : Zz (w1.heap[g]? = some (.cells cs' t (0, 0))) := ⟨h2 ▸ ky h1 hb⟩
theorem xbr (g : Nat) {W w1 : World} {n : Nat} {cs cs' : Array Value} {t : TypeId} (hq : W.drewN n = w1) (h1 : W.heap[g]? = some (.cells cs t (0, 0)) := by repeat (first | (with_reducible first | refine ek ?_ _ | refine bg ?_ | refine eI ?_ _ | exact Zz.out (by assumption) | refine mE ?_ (by assumption) | refine bR ?_ _ _)))
    (h2 : cs = cs' := by (try simp only [List.setIfInBounds_toArray, List.set_cons_zero, List.set_cons_succ]); rfl) : Zz (w1.heap[g]? = some (.cells cs' t (0, 0))) := ⟨by rw [← hq, ← h2]; exact ek h1 _⟩
theorem aW (g : Nat) {W w1 : World} {gs : Nat} {cs cs' : Array Value} {t : TypeId} (hk : KeepBut W w1 gs none) (hn : Zz (g ≠ gs)) (h1 : W.heap[g]? = some (.cells cs t (0, 0)) := by repeat (first | (with_reducible first | refine ek ?_ _ | refine bg ?_ | refine eI ?_ _ | exact Zz.out (by assumption) | refine mE ?_ (by assumption) | refine bR ?_ _ _)))
    (h2 : cs = cs' := by (try simp only [List.setIfInBounds_toArray, List.set_cons_zero, List.set_cons_succ]); rfl) : Zz (w1.heap[g]? = some (.cells cs' t (0, 0))) := ⟨h2 ▸ KeepBut.blk hk h1 hn.out (by simp)⟩
theorem xoj {p q : Prop} (H : Zz q) (h : q → p := by intro hq_; first | omega | exact Nat.le_refl _) : p := h H.out
theorem xoJ {p q r : Prop} (H : Zz q) (K : Zz r) (h : q → r → p := by intro hq_ hr_; first | omega | exact Nat.le_refl _) : p := h H.out K.out
theorem xiv (s : ByteArray) (i : Int) (hp : 0 ≤ i) (hq : i < (s.size : Int)) : ((0 ≤ i) = True) ∧ ((i < (s.size : Int)) = True) ∧ ∀ h : i.toNat < s.size, ((s[i.toNat]'h).toNat : Int) = bt s i := ⟨eq_true hp, eq_true hq, jc s i⟩
theorem xi0 (s : ByteArray) (hq : (0 : Int) < (s.size : Int)) : ((0 < s.size) = True) ∧ ((0 < (s.size : Int)) = True) ∧ ∀ h : 0 < s.size, ((s[0]'h).toNat : Int) = bt s 0 := ⟨eq_true (by omega), eq_true hq, jc s 0⟩
theorem xdd {p : Prop} (h : p := by first | exact ⟨rfl, _, World.drewN_drewN _ _ _⟩ | exact ⟨rfl, _, Eq.trans (World.drewN_drewN _ _ _) (congrArg (World.drewN _) (Nat.add_assoc _ _ _))⟩) : p := h
theorem xqe {α : Type} [BEq α] [LawfulBEq α] {a b : α} (h : a = b) : ((a == b) = true) ∧ (a != b) = false := ⟨beq_iff_eq.mpr h, bne_eq_false_iff_eq.mpr h⟩
theorem xqn {α : Type} [BEq α] [LawfulBEq α] {a b : α} (h : ¬ a = b) : ((a == b) = false) ∧ (a != b) = true := ⟨beq_eq_false_iff_ne.mpr h, bne_iff_ne.mpr h⟩
theorem xdt {p : Prop} [Decidable p] (h : p) : decide p = true := decide_eq_true h
theorem xdf {p : Prop} [Decidable p] (h : ¬ p) : decide p = false := decide_eq_false h
theorem xwr {P : Program} {ops : Array Oper} {rest : List Oper} {o : Oper} {a : Act} {w w0 : World} {Q : Exit → Act → World → Prop} (ty : TypeId) (x y : Tmp) {g : Nat} {cells old : Array Value} {t : TypeId} (n : Nat)
    (hg : Zz (w.heap[g]? = some (.cells old t (0, 0)))) (hB : Zz (w0.heap.size ≤ g))
    (h : ∀ w', Zz (w'.heap[g]? = some (.cells cells t (0, 0))) → Zz (Below w0.heap.size w0 w') → wpList P ops Q rest (a.put o.dst undef) w')
    (hb : Zz (Below w0.heap.size w0 w) := by exact HB) (hgd : o.guard = none := by rfl) (ho : o.op = .store ty (.tmp x) (.tmp y) := by rfl) (hx : a.eval (.tmp x) = .pointer (some ⟨g, 0, none⟩) := by rfl) (hy : a.eval (.tmp y) = .agg cells := by rfl)
    (hi : (P.info? ty).map (·.size) = some n := by kernel_rfl) (hn : n = cells.size := by rfl) (hold : old.size = cells.size := by rfl) (h1 : cells.all (·.oneCell') = true := by rfl) : wpList P ops Q (o :: rest) a w :=
  oa hgd ty (.tmp x) (.tmp y) ho g cells hx hy t old hg.out (hi.trans (congrArg some hn)) hold h1 hb.out hB.out (fun w' h2 h3 => h w' ⟨h2⟩ ⟨h3⟩)
theorem xl1 {α : Type} {l : List α} {i : Nat} {a : α} : l.toArray.setIfInBounds i a = (l.set i a).toArray := List.setIfInBounds_toArray ..
theorem xl2 {α : Type} {x a : α} {l : List α} : (x :: l).set 0 a = a :: l := rfl
theorem xl3 {α : Type} {x a : α} {l : List α} {n : Nat} : (x :: l).set (n + 1) a = x :: l.set n a := rfl
theorem xrd {p : Prop} (h : p := by first | rfl | (simp [dz, dA] <;> first | rfl | (simp only [fI, bne, Bool.not_not]; done))) : p := h
theorem xrs {p : Prop} (h : p := by first | rfl | (simp; done)) : p := h
theorem xa {p : Prop} (h : p) : Zz p := ⟨h⟩
theorem xew {P : Program} {ops : Array Oper} {rest : List Oper} {o : Oper} {a : Act} {Q : Exit → Act → World → Prop} {w W : World} (N : Tmp) {cs : Array Value} {t : TypeId}
    (h : ∀ g w1, Zz (w1.heap[g]? = some (.cells cs t (0, 0))) → Zz (w.heap.size ≤ g) → Below W.heap.size W w1 → g = W.heap.size → wpList P ops Q rest (a.put o.dst (.pointer (some ⟨g, 0, none⟩))) w1)
    (hd : o.dst = some N := by rfl) (hgd : o.guard = none := by rfl)
    (hrun : (execOp a.eval o).run P W = .ok (.value (.pointer (some ⟨W.heap.size, 0, none⟩))) (W.alloc (.cells cs t (0, 0))) := by first | (go_simp; done) | (go_simp; rfl))
    (hb : Below w.heap.size w W := by repeat (first | (with_reducible first | exact HB.out | apply bw | apply bA | apply aw | refine dj ?_ (Zz.out (by assumption))) | exact HB.out)) : wpList P ops Q (o :: rest) a W :=
  xev N cs t (fun g hg w1 hx hb1 => h g w1 ⟨hx⟩ ⟨by rw [hg]; exact aD hb⟩ hb1 hg) hd hgd hrun
theorem xG {p : Prop} (h : p := by first | (with_reducible exact hG) | exact cT hG xbl) : p := h
theorem xk {p : Prop} (h : p := by repeat (first | (with_reducible first | exact HK.out | apply KeepBut.set_ | apply mq | apply cp | apply mo | refine nj ?_ (Zz.out (by assumption)) _) | exact HK.out)) : p := h
end Go.Proofs.YtojdiklegmhakaaDoorW.PrintMore
namespace Go.Proofs.YtojdiklegmhakaaDoor.X
open Go.RowKit Go.Proofs.YtojdiklegmhakaaDoorW.PrintWords Go.Proofs.YtojdiklegmhakaaDoorW.PrintLast Go.Proofs.YtojdiklegmhakaaDoorW.PrintMore
attribute [local go_sem] di cR eu fH bY eW bv eN eP fB fC eo ep eO eQ
theorem fI (l : List UInt8) : l.isEmpty = (l == []) := by cases l <;> rfl
structure GW (w : World) : Prop where
  maxLen : ∃ m, w.cell? ⟨0, 0, none⟩ = some (.int .i64 m)
theorem cT {w w' : World} (h : GW w) (hb : Below w.heap.size w w') : GW w' := by
  obtain ⟨m, hm⟩ := h.maxLen
  exact ⟨⟨m, fT hb hm⟩⟩
theorem ja {w w' : World} (h : GW w) (hd : Drawn0 w w') : GW w' := cT h hd.below
def nU : Option Int → Value
  | none => .nilIface
  | some c => .iface 0 (.int .i64 c)
theorem dz : nU none = .nilIface := rfl
theorem dA (c : Int) : nU (some c) = .iface 0 (.int .i64 c) := rfl
theorem nz : (Tryd.prog.info? 5).map (fun i => (i.zero, i.size, i.bytes)) = some (some (.int .u8 0), 1, 1) := by kernel_rfl
theorem l8 : (Tryd.prog.info? 102).map (fun i => (i.zero, i.size, i.bytes)) = some (some (.int .u16 0), 1, 2) := by kernel_rfl
def fE (a0 : Int) : Option (Bool) := if a0 = 4 then (some true) else (some (a0 == 5))
theorem ay (a0 : Int) (r : Bool) (w : World) (h : fE a0 = some r) :
    Calls Tryd.prog 28 #[.int .i64 a0] w fun e w' => e = .returned (.bool r) ∧ Drawn0 w w' := by
 have H := h
 clear h
 unfold fE at H
 refine xid H ?_ ?_ <;> clear H <;> intro c2 H
 {
 obtain ⟨c2b0, c2b1⟩ := xqe c2
 clear c2
 obtain rfl := Option.some.inj H
 go_enter Tryd.func28, Tryd.ntmps28
 go_wp2
 go_ret
 exact ⟨xrr, xdr⟩
 }
 obtain ⟨c2b0, c2b1⟩ := xqn c2
 obtain rfl := Option.some.inj H
 go_enter Tryd.func28, Tryd.ntmps28
 go_wp2
 go_ret
 exact ⟨xrr, xdr⟩
mutual
def dg : Nat → Int → Bool → Option (Int × Int × Int)
  | 0, _, _ => none
  | k + 1, x0, x8 => if x8 = true then (some (2, 128, 191)) else (if x0 = 224 then (some (3, 160, 191)) else (if x0 = 237 then (some (3, 128, 159)) else (if x0 ≥ 225 then (dh k x0 (decide (x0 ≤ 239))) else (dh k x0 false))))
def dh : Nat → Int → Bool → Option (Int × Int × Int)
  | 0, _, _ => none
  | k + 1, x0, x21 => if x21 = true then (some (3, 128, 191)) else (if x0 = 240 then (some (4, 144, 191)) else (if x0 = 244 then (some (4, 128, 143)) else (if x0 ≥ 241 then (if x0 ≤ 243 then (some (4, 128, 191)) else (some (0, 0, 0))) else (some (0, 0, 0)))))
end
def fc (k : Nat) (a0 : Int) : Option (Int × Int × Int) := if a0 < 128 then (some (1, 0, 0)) else (if a0 ≥ 194 then (dg k a0 (decide (a0 ≤ 223))) else (dg k a0 false))
theorem iq : ∀ k, (∀ y0 y1, LeO (dg k y0 y1) (dg (k + 1) y0 y1)) ∧ (∀ y0 y1, LeO (dh k y0 y1) (dh (k + 1) y0 y1))
  | 0 => ⟨fun _ _ r h => by simp [dg] at h, fun _ _ r h => by simp [dh] at h⟩
  | k + 1 => by
    obtain ⟨ih0, ih1⟩ := iq k
    refine ⟨?_, ?_⟩
    · intro y0 y1
      unfold dg
      exact xmo
    · intro y0 y1
      unfold dh
      exact xmo
theorem i8 : ∀ a0 k, LeO (fc k a0) (fc (k + 1) a0) := by
  intro a0 k
  obtain ⟨ih0, ih1⟩ := iq k
  unfold fc
  exact xmo
theorem iL (k : Nat) (a0 : Int) (r1 : Int) (r2 : Int) (r3 : Int) (w : World) (h : fc k a0 = some (r1, r2, r3)) :
    Calls Tryd.prog 68 #[.int .u8 a0] w fun e w' => e = .returned (.tuple #[.int .i64 r1, .int .u8 r2, .int .u8 r3]) ∧ Drawn0 w w' := by
 have H := h
 clear h
 unfold fc at H
 refine xid H ?_ ?_ <;> clear H <;> intro c2 H
 {
 have Ae := xdt c2
 clear c2
 simp only [Option.some.injEq, Prod.mk.injEq] at H
 obtain ⟨rfl, rfl, rfl⟩ := H
 go_enter Tryd.func68, Tryd.ntmps68
 go_wp2
 go_ret3
 exact ⟨xrr, xdr⟩
 }
 have Ae := xdf c2
 clear c2
 have Ap := Zz.mk H
 clear H
 go_enter Tryd.func68, Tryd.ntmps68
 go_upto_region 3 with (fail)
 go_cut [8] (fun v8 wc => ∃ kq Ad, v8 = .bool Ad ∧ Zz (dg kq a0 Ad = some (r1, r2, r3)) ∧ Zz (kq ≤ k) ∧ Drawn0 w wc)
 case first => (
 have H := Ap.out
 clear Ap
 refine xid H ?_ ?_ <;> clear H <;> intro c4 H
 {
 have Aa := xdt c4
 clear c4
 (first | rw [Aa] | (simp only [an, au]; rw [Aa]) | (rw [Aq]; (try simp only [Bool.not_false, Bool.not_true])) | (rw [Ar]; (try simp only [Bool.not_false, Bool.not_true])) | rw [As] | skip)
 replace H := xa H
 go_wp2
 go_meet
 case rel => exact ⟨_, (decide (a0 ≤ 223)), xrr, H, ⟨xom⟩, xdr⟩
 }
 have Aa := xdf c4
 clear c4
 (first | rw [Aa] | (simp only [an, au]; rw [Aa]) | (rw [Aq]; (try simp only [Bool.not_false, Bool.not_true])) | (rw [Ar]; (try simp only [Bool.not_false, Bool.not_true])) | rw [As] | skip)
 replace H := xa H
 go_wp2
 go_meet
 case rel => exact ⟨_, (false), xrr, H, ⟨xom⟩, xdr⟩
 )
 case rest => (
 clear Ap
 clear Ae
 obtain ⟨kq, Ad, rfl, HA, HJ2, ⟨mc2, rfl⟩⟩ := hcut
 cases kq with
 | zero => exact absurd HA.out (by simp [dg])
 | succ kj2 => (
 have H := HA.out
 clear HA
 simp only [dg] at H
 refine xib H ?_ ?_ <;> clear H <;> rintro rfl H
 {
 simp only [Option.some.injEq, Prod.mk.injEq] at H
 obtain ⟨rfl, rfl, rfl⟩ := H
 go_wp2
 go_ret3
 exact ⟨xrr, xdr⟩
 }
 refine xid H ?_ ?_ <;> clear H <;> intro c6 H
 {
 obtain ⟨Af, Ag⟩ := xqe c6
 clear c6
 simp only [Option.some.injEq, Prod.mk.injEq] at H
 obtain ⟨rfl, rfl, rfl⟩ := H
 go_wp2
 go_ret3
 exact ⟨xrr, xdr⟩
 }
 obtain ⟨Af, Ag⟩ := xqn c6
 refine xid H ?_ ?_ <;> clear H <;> intro c7 H
 {
 obtain ⟨Ah, Ai⟩ := xqe c7
 clear c7
 simp only [Option.some.injEq, Prod.mk.injEq] at H
 obtain ⟨rfl, rfl, rfl⟩ := H
 go_wp2
 go_ret3
 exact ⟨xrr, xdr⟩
 }
 obtain ⟨Ah, Ai⟩ := xqn c7
 have At := Zz.mk H
 clear H
 go_upto_region 9 with (fail)
 go_cut [21] (fun v21 wc => ∃ kq Ab, v21 = .bool Ab ∧ Zz (dh kq a0 Ab = some (r1, r2, r3)) ∧ Zz (kq ≤ kj2) ∧ Drawn0 w wc)
 case first => (
 have H := At.out
 clear At
 refine xid H ?_ ?_ <;> clear H <;> intro c9 H
 {
 have Ac := xdt c9
 clear c9
 (first | rw [Ac] | (simp only [an, au]; rw [Ac]) | (rw [Au]; (try simp only [Bool.not_false, Bool.not_true])) | (rw [Av]; (try simp only [Bool.not_false, Bool.not_true])) | rw [Aw] | skip)
 replace H := xa H
 go_wp2
 go_meet
 case rel => exact ⟨_, (decide (a0 ≤ 239)), xrr, H, ⟨xoj HJ2⟩, xdr⟩
 }
 have Ac := xdf c9
 clear c9
 (first | rw [Ac] | (simp only [an, au]; rw [Ac]) | (rw [Au]; (try simp only [Bool.not_false, Bool.not_true])) | (rw [Av]; (try simp only [Bool.not_false, Bool.not_true])) | rw [Aw] | skip)
 replace H := xa H
 go_wp2
 go_meet
 case rel => exact ⟨_, (false), xrr, H, ⟨xoj HJ2⟩, xdr⟩
 )
 case rest => (
 clear At
 clear Af Ag Ah Ai
 obtain ⟨kq, Ab, rfl, HA, HJ7, ⟨mc7, rfl⟩⟩ := hcut
 cases kq with
 | zero => exact absurd HA.out (by simp [dh])
 | succ kj7 => (
 have H := HA.out
 clear HA
 simp only [dh] at H
 refine xib H ?_ ?_ <;> clear H <;> rintro rfl H
 {
 simp only [Option.some.injEq, Prod.mk.injEq] at H
 obtain ⟨rfl, rfl, rfl⟩ := H
 go_wp2
 go_ret3
 exact ⟨xrr, xdr⟩
 }
 refine xid H ?_ ?_ <;> clear H <;> intro c11 H
 {
 obtain ⟨Aj, Ak⟩ := xqe c11
 clear c11
 simp only [Option.some.injEq, Prod.mk.injEq] at H
 obtain ⟨rfl, rfl, rfl⟩ := H
 go_wp2
 go_ret3
 exact ⟨xrr, xdr⟩
 }
 obtain ⟨Aj, Ak⟩ := xqn c11
 refine xid H ?_ ?_ <;> clear H <;> intro c12 H
 {
 obtain ⟨Al, Am⟩ := xqe c12
 clear c12
 simp only [Option.some.injEq, Prod.mk.injEq] at H
 obtain ⟨rfl, rfl, rfl⟩ := H
 go_wp2
 go_ret3
 exact ⟨xrr, xdr⟩
 }
 obtain ⟨Al, Am⟩ := xqn c12
 refine xid H ?_ ?_ <;> clear H <;> intro c13 H
 {
 have An := xdt c13
 clear c13
 refine xid H ?_ ?_ <;> clear H <;> intro c14 H
 {
 have Ao := xdt c14
 clear c14
 simp only [Option.some.injEq, Prod.mk.injEq] at H
 obtain ⟨rfl, rfl, rfl⟩ := H
 go_wp2
 go_ret3
 exact ⟨xrr, xdr⟩
 }
 have Ao := xdf c14
 clear c14
 simp only [Option.some.injEq, Prod.mk.injEq] at H
 obtain ⟨rfl, rfl, rfl⟩ := H
 go_wp2
 go_ret3
 exact ⟨xrr, xdr⟩
 }
 have An := xdf c13
 clear c13
 simp only [Option.some.injEq, Prod.mk.injEq] at H
 obtain ⟨rfl, rfl, rfl⟩ := H
 go_wp2
 go_ret3
 exact ⟨xrr, xdr⟩
 )
 )
 )
 )
def df : Nat → ByteArray → Int → Int → Int → Int → Option (Int × Int)
  | 0, _, _, _, _, _ => none
  | k + 1, x0, x4, x5, x6, x7 => if x7 < x4 then (if x7 < (x0.size : Int) then (if 0 ≤ x7 then (if (bt x0 x7) ≥ x5 then (if (bt x0 x7) ≤ x6 then (df k x0 x4 128 191 (wrap64 (x7 + 1))) else (some (x7, x4))) else (some (x7, x4))) else (none)) else (some (x7, x4))) else (some (x7, x4))
def fb (k : Nat) (a0 : ByteArray) : Option (Int × Int) := if (a0.size : Int) = 0 then (some (0, 0)) else (if 0 < (a0.size : Int) then ((fc k (bt a0 0)).bind fun bt101 => (if bt101.1 = 0 then (some (1, 0)) else (df k a0 bt101.1 bt101.2.1 bt101.2.2 1))) else (none))
theorem ip : ∀ k, (∀ y0 y1 y2 y3 y4, LeO (df k y0 y1 y2 y3 y4) (df (k + 1) y0 y1 y2 y3 y4))
  | 0 => fun _ _ _ _ _ r h => by simp [df] at h
  | k + 1 => by
    have ih0 := ip k
    have m0 := @i8
    · intro y0 y1 y2 y3 y4
      unfold df
      exact xmo
theorem i7 : ∀ a0 k, LeO (fb k a0) (fb (k + 1) a0) := by
  intro a0 k
  have ih0 := ip k
  have m0 := @i8
  unfold fb
  exact xmo
theorem gr (k : Nat) (a0 : ByteArray) (r1 : Int) (r2 : Int) (w : World) (h : fb k a0 = some (r1, r2)) :
    Calls Tryd.prog 62 #[.string a0] w fun e w' => e = .returned (.tuple #[.int .i64 r1, .int .i64 r2]) ∧ Drawn0 w w' := by
 have H := h
 clear h
 unfold fb at H
 refine xid H ?_ ?_ <;> clear H <;> intro c2 H
 {
 obtain ⟨Ad, Ae⟩ := xqe c2
 clear c2
 simp only [Option.some.injEq, Prod.mk.injEq] at H
 obtain ⟨rfl, rfl⟩ := H
 go_enter Tryd.func62, Tryd.ntmps62
 go_wp2
 go_ret2
 exact ⟨xrr, xdr⟩
 }
 obtain ⟨Ad, Ae⟩ := xqn c2
 refine xin H ?_; clear H; intro c3 H
 have Aj := xdt c3
 have Ak : decide (0 < a0.size) = true := decide_eq_true (by omega)
 clear c3
 replace H := xbd H
 obtain ⟨⟨Al, Am, An⟩, A5, H⟩ := H
 try dsimp only at H
 refine xid H ?_ ?_ <;> clear H <;> intro c6 H
 {
 obtain ⟨Af, Ag⟩ := xqe c6
 clear c6
 simp only [Option.some.injEq, Prod.mk.injEq] at H
 obtain ⟨rfl, rfl⟩ := H
 obtain ⟨q4, Aq, hx4⟩ := xi0 a0 xod
 go_enter Tryd.func62, Tryd.ntmps62
 go_wp2_with (first | ((with_reducible refine xgc (f := 68) rfl ?_); refine xca 14 Tryd.func68 (iL (w := _) (h := A5.out)) ?_; rintro w' ⟨nd, rfl⟩))
 go_ret2
 exact ⟨xrr, xdr⟩
 }
 obtain ⟨Af, Ag⟩ := xqn c6
 have H' := Zz.mk H
 clear H
 obtain ⟨q4, Aq, hx4⟩ := xi0 a0 xod
 go_enter Tryd.func62, Tryd.ntmps62
 go_wp2_with (first | ((with_reducible refine xgc (f := 68) rfl ?_); refine xca 14 Tryd.func68 (iL (w := _) (h := A5.out)) ?_; rintro w' ⟨nd, rfl⟩))
 go_loopg [5, 6, 7] k (fun kq v5 v6 v7 w' => ∃ Ab Ac Aa, v5 = .int .u8 Ab ∧ v6 = .int .u8 Ac ∧ v7 = .int .i64 Aa ∧ Zz (df kq a0 Al Ab Ac Aa = some (r1, r2)) ∧ Zz (kq ≤ k) ∧ Drawn0 w w')
 case atStart => exact ⟨(Am), (An), (1), xrr, xrr, xrr, H', ⟨Nat.le_refl _⟩, xdr⟩
 case round => (
 clear H'
 clear Ad Ae Aj Ak q4 hx4 Aq Af Ag
 obtain ⟨Ab, Ac, Aa, rfl, rfl, rfl, HA, HK1, ⟨m1, rfl⟩⟩ := hrel
 cases gk with
 | zero => exact absurd HA.out (by simp [df])
 | succ k1 => (
 have H := HA.out
 clear HA
 simp only [df] at H
 refine xid H ?_ ?_ <;> clear H <;> intro c7 H
 {
 have Ao := xdt c7
 clear c7
 refine xid H ?_ ?_ <;> clear H <;> intro c8 H
 {
 have Ap := xdt c8
 clear c8
 refine xin H ?_; clear H; intro c9 H
 have Ar := xdt c9
 clear c9
 refine xid H ?_ ?_ <;> clear H <;> intro c11 H
 {
 have Ah := xdt c11
 clear c11
 refine xid H ?_ ?_ <;> clear H <;> intro c13 H
 {
 have Ai := xdt c13
 clear c13
 replace H := xa H
 obtain ⟨p10, q10, hx10⟩ := xiv a0 Aa xod xod
 obtain ⟨p12, q12, hx12⟩ := xiv a0 Aa xod xod
 go_wp2
 go_roundg k1
 case measure => have := HK1.out; omega
 case rel => exact ⟨(128), (191), (wrap64 (Aa + 1)), xrr, xrr, xrr, H, ⟨by have := HK1.out; omega⟩, xdr⟩
 }
 have Ai := xdf c13
 clear c13
 simp only [Option.some.injEq, Prod.mk.injEq] at H
 obtain ⟨rfl, rfl⟩ := H
 obtain ⟨p10, q10, hx10⟩ := xiv a0 Aa xod xod
 obtain ⟨p12, q12, hx12⟩ := xiv a0 Aa xod xod
 go_wp2
 go_ret2
 exact ⟨xrr, xdr⟩
 }
 have Ah := xdf c11
 clear c11
 simp only [Option.some.injEq, Prod.mk.injEq] at H
 obtain ⟨rfl, rfl⟩ := H
 obtain ⟨p10, q10, hx10⟩ := xiv a0 Aa xod xod
 go_wp2
 go_ret2
 exact ⟨xrr, xdr⟩
 }
 have Ap := xdf c8
 clear c8
 simp only [Option.some.injEq, Prod.mk.injEq] at H
 obtain ⟨rfl, rfl⟩ := H
 go_wp2
 go_ret2
 exact ⟨xrr, xdr⟩
 }
 have Ao := xdf c7
 clear c7
 simp only [Option.some.injEq, Prod.mk.injEq] at H
 obtain ⟨rfl, rfl⟩ := H
 go_wp2
 go_ret2
 exact ⟨xrr, xdr⟩
 )
 )
end Go.Proofs.YtojdiklegmhakaaDoor.X
