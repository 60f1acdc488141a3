/- Texts that the law's proof needs, joined by a program of this session. -/
import Derived.Test.YtojdiklegmhakaaDoorZUrnTexts1
import Derived.Test.YtojdiklegmhakaaDoorZUrnTexts3
import Derived.Test.YtojdiklegmhakaaDoorZUrnTexts7
set_option maxHeartbeats 8000000
set_option maxRecDepth 100000
set_option linter.unusedSimpArgs false
set_option linter.unusedVariables false
namespace Go.Proofs.YtojdiklegmhakaaDoor.X
open Go.RowKit Go.Proofs.YtojdiklegmhakaaDoorW.PrintWords Go.Proofs.YtojdiklegmhakaaDoorW.PrintLast Go.Proofs.YtojdiklegmhakaaDoorW.PrintMore
attribute [local go_sem] di cR eu fH bY eW bv eN eP fB fC eo ep eO eQ
section
attribute [local go_sem] Oper.semAt_some
open Go.Shelf
def eL : Nat → ByteArray → Int → Option (List (Int × Int))
  | 0, _, _ => none
  | k + 1, s, i => if i < (s.size : Int) then (dv k s i).bind fun r => if r.2 = true then (eL k s (i + 3)).bind fun l => some ((i, r.1) :: l) else eL k s (i + 1) else some []
theorem l5 (w : World) (n : Nat) (row : Option Nat) : w.grownBy (w.drewN n) row := ⟨rfl, rfl, rfl, Nat.le_refl _, fun _ _ _ => rfl⟩
set_option maxHeartbeats 2000000 in
theorem nV (n : Nat) (hn : 1 ≤ n) (l B : Nat) (s : ByteArray) (hs : s.size ≤ 140737488351232) (k : Nat) (xs : List (Int × Int)) (hx : eL k s 0 = some xs) (J Jx : List (Int × Int) → World → Prop) (W : World) (hJ : AbidesFrom W.heap.size J)
    (hY : ∀ pre x rest W, xs = pre ++ x :: rest → J pre W → YieldAt Fence.wide (n - 1) Tryd.prog l #[.int .i64 x.1, .int .u8 x.2] W fun e W' =>
      (e = .returned (.bool true) ∧ J (pre ++ [x]) W' ∧ (Boxed W B 9 (.string s) → Boxed W' B 9 (.string s))) ∨ (e = .returned (.bool false) ∧ Jx (pre ++ [x]) W'))
    (hB : Boxed W B 9 (.string s)) (h0 : J [] W) :
    CallsIn Fence.wide n Tryd.prog 46 #[.func (.yield l) #[] #[], .pointer (some ⟨B, 0, none⟩)] W fun e W' => (∃ v, e = .returned v) ∧
      ((∃ ys, ys = xs ∧ J ys W') ∨ (∃ pre, pre <+: xs ∧ Jx pre W')) := by
  refine callsIn_of_wp Tryd.func46 rfl trivial ?_ rfl
  simp only [Tryd.ntmps46, List.size_toArray, List.length_cons, List.length_nil, Nat.reduceAdd, Nat.reduceSub, Array.replicate_succ, Array.replicate_zero, List.push_toArray, List.append_toArray, List.nil_append, List.cons_append]
  gi_wp2
  gi_loopw [3] (fun i wr => ∃ (pre rest : List (Int × Int)) (j : Int) (kq : Nat), i = .int .i64 j ∧ 0 ≤ j ∧ xs = pre ++ rest ∧ eL kq s j = some rest ∧ Boxed wr B 9 (.string s) ∧ J pre wr)
    (fun i _ => s.size + 3 - (intOf i).toNat)
  case atStart => exact ⟨[], xs, 0, k, rfl, by omega, rfl, hx, hB, h0⟩
  case round =>
    obtain ⟨pre, rest, j, kq, rfl, hj0, hxs, ha, hBr, hJs⟩ := hrel
    have hc := hBr.cell
    cases kq with
    | zero => cases ha
    | succ k1 =>
      rw [eL] at ha
      by_cases hlt : j < (s.size : Int)
      · rw [if_pos hlt] at ha
        obtain ⟨⟨b, ok⟩, hAt, ha⟩ := Option.bind_eq_some_iff.1 ha
        dsimp only at ha
        cases ok
        · rw [if_neg (by simp)] at ha
          have hd : 1 ≤ n := hn
          gi_wp2_with (refine ⟨trivial, ?_⟩; gi_at_call 47; refine (callsIn_wide.2 (dI k1 s j b false _ hAt)).mono ?_; rintro e w' ⟨rfl, ⟨nd, rfl⟩⟩)
          go_roundw
          case rel => exact ⟨pre, rest, j + 1, k1, by simp, by omega, hxs, ha, hBr, hJ pre wr _ none hJs (l5 _ _ _) (fun r e => by cases e)⟩
          case measure => first | (simp only [intOf, List.getD_toArray]; unfold wrap64; omega) | (simp [intOf]; omega)
        · rw [if_pos rfl] at ha
          obtain ⟨l', hl', ha⟩ := Option.bind_eq_some_iff.1 ha
          obtain rfl := Option.some.inj ha
          gi_wp2_with (refine ⟨trivial, ?_⟩; gi_at_call 47; refine (callsIn_wide.2 (dI k1 s j b true _ hAt)).mono ?_; rintro e w' ⟨rfl, ⟨nd, rfl⟩⟩; obtain ⟨fn, tmps, assign, body, hy, hR⟩ := hY pre (j, b) l' (wr.drewN nd) hxs (hJ pre wr _ none hJs (l5 _ _ _) (fun r e => by cases e)); dsimp only at hy)
          refine hR.mono ?_
          rintro e W3 (⟨rfl, hJ3, hk3⟩ | ⟨rfl, hJx3⟩)
          · have hB3 := hk3 hBr
            gi_wp2
            go_roundw
            case rel => exact ⟨pre ++ [(j, b)], l', j + 3, k1, by simp; omega, by omega, by simp [hxs], hl', hB3, hJ3⟩
            case measure => first | (simp only [intOf, List.getD_toArray]; unfold wrap64; omega) | (simp [intOf]; omega)
          · gi_wp2
            refine bodyPost_ret (results_none rfl _ _ _) rfl ?_
            exact ⟨⟨_, rfl⟩, .inr ⟨pre ++ [(j, b)], ⟨l', by simp [hxs]⟩, hJx3⟩⟩
      · rw [if_neg hlt] at ha
        obtain rfl := Option.some.inj ha
        gi_wp2
        go_end0
        first | exact ⟨⟨_, rfl⟩, .inl ⟨pre, by simp [hxs], hJs⟩⟩ | exact ⟨⟨_, rfl⟩, .inl hJs⟩ | exact ⟨⟨_, rfl⟩, .inl (by simpa [hxs] using hJs)⟩
set_option maxHeartbeats 1000000 in
theorem ne (n : Nat) (s : ByteArray) (w : World) :
    CallsIn Fence.wide n Tryd.prog 35 #[.string s] w fun e w' => e = .returned (.func (.func 46) #[] #[.pointer (some ⟨w.heap.size, 0, none⟩)]) ∧ w' = w.alloc (.cells #[.string s] 9) := by
  refine callsIn_of_wp Tryd.func35 rfl trivial ?_ rfl
  simp only [Tryd.ntmps35, List.size_toArray, List.length_cons, List.length_nil, Nat.reduceAdd, Nat.reduceSub, Array.replicate_succ, Array.replicate_zero, List.push_toArray, List.append_toArray, List.nil_append, List.cons_append]
  gi_wp2
  go_ret
  exact ⟨rfl, rfl⟩
def nX (B n0 : Nat) (s : ByteArray) (I : List (Int × Int) → World → Prop) (Ix : List (Int × Int) → World → Prop) (pre : List (Int × Int)) (W : World) : Exit → Act → World → Prop
  | .normal, _, W' => KeepsFrom n0 W W' ∧ (Boxed W B 9 (.string s) → Boxed W' B 9 (.string s)) ∧ I pre W'
  | .ret, _, W' => KeepsFrom n0 W W' ∧ Ix pre W'
  | _, _, _ => False
theorem nW (n : Nat) (h3 : 3 ≤ n) {g : Operand} {ps : Array Tmp} {assign body : Code} {Q : Exit → Act → World → Prop} {a : Act} {w : World} (B : Nat) (s : ByteArray) (hs : s.size ≤ 140737488351232) (k : Nat) (xs : List (Int × Int)) (hx : eL k s 0 = some xs)
    (hg : a.eval g = .func (.func 46) #[] #[.pointer (some ⟨B, 0, none⟩)]) (hps : ps.size = 2) (hBl : Boxed w B 9 (.string s))
    (I Ix : List (Int × Int) → World → Prop) (hI : OwnFrom w.heap.size I) (hIx : OwnFrom w.heap.size Ix) (h0 : I [] w) (a₁ : Int × Int → Act)
    (hassign : ∀ (l : Nat) (x : Int × Int) (W : World) (K : Act → World → Prop), K (a₁ x) W →
      assign.wpIn (Fence.wide.inRound l) (n - 1 - 1) Tryd.prog (Exit.then K (fun _ _ _ => False)) { tmps := (ps.zip #[Value.int .i64 x.1, Value.int .u8 x.2]).foldl (fun t (p, v) => t.setIfInBounds p v) a.tmps, defers := [] } W)
    (hbody : ∀ (l : Nat) (pre : List (Int × Int)) (x : Int × Int) (rest : List (Int × Int)) (W : World), xs = pre ++ x :: rest → I pre W → body.wpIn (Fence.wide.inRound l) (n - 1 - 1) Tryd.prog (nX B w.heap.size s I Ix (pre ++ [x]) W) (a₁ x) W)
    (hdone : ∀ (D : Nat) (W : World), w.heap.size ≤ D → I xs W → W.heap[D]? = some (.deferred (some [])) → Q .normal { a with defers := { target := .collected D, args := #[] } :: a.defers } W)
    (hstop : ∀ (D : Nat) (pre : List (Int × Int)) (W : World), w.heap.size ≤ D → pre <+: xs → Ix pre W → W.heap[D]? = some (.deferred (some [])) → Code.ret.wpIn Fence.wide n Tryd.prog Q { a with defers := { target := .collected D, args := #[] } :: a.defers } W) :
    (Code.rangeFunc g ps assign body).wpIn Fence.wide n Tryd.prog Q a w := by
  refine wpIn_rangeFunc ?_
  intro fn hfn
  obtain ⟨lp, hlp⟩ : ∃ lp : LoopState → Option Code → Loop, lp = fun st pe => { state := st, pending := pe, fn, tmps := a.tmps, params := ps, assign, body, defers := w.heap.size } := ⟨_, rfl⟩
  obtain ⟨V, hV⟩ : ∃ V, (w.alloc (.deferred (some []))).alloc (.loop (lp .ready none)) = V := ⟨_, rfl⟩
  have bL : V.heap[w.heap.size + 1]? = some (.loop (lp .ready none)) := by
    rw [← hV]; have := World.alloc_heap_new (w.alloc (.deferred (some []))) (.loop (lp .ready none)); rwa [World.size_alloc] at this
  have bD : V.heap[w.heap.size]? = some (.deferred (some [])) := by
    rw [← hV]; exact (Below.heap_alloc _ _ _ (by simp)).trans (World.alloc_heap_new w _)
  have bI : I [] V := by rw [← hV]; exact hI.alloc _ (hI.alloc _ h0)
  have bB : Boxed V B 9 (.string s) := by rw [← hV]; exact (hBl.alloc _).alloc _
  have bS : V.heap.size = w.heap.size + 2 := by rw [← hV]; simp
  refine ⟨w.heap.size + 1, [{ target := .collected w.heap.size, args := #[] }], V, { target := .fn (.func 46) #[.pointer (some ⟨B, 0, none⟩)], args := #[.func (.yield (w.heap.size + 1)) #[] #[]] }, V, 46,
    #[.func (.yield (w.heap.size + 1)) #[] #[]] ++ #[.pointer (some ⟨B, 0, none⟩)], V, ?_, ?_, ?_, ?_, fun _ => by omega, ?_⟩
  · rw [← hV, hlp]; exact run_enterLoop_outer _ _ _ _ _
  · simp only [resolve, hg]
    simp [go_sem]
  · intro f' hf'; trivial
  · simp [invoke, go_sem, enters_of Tryd.func46 (by kernel_rfl) rfl]
  · have up : ∀ {X : World} {row : Option Nat}, (∀ r, row = some r → V.heap.size ≤ r ∧ ∃ o : Obj, X.heap[r]? = some o ∧ o.isWalk = true) → (∀ r, row = some r → w.heap.size ≤ r ∧ ∃ o : Obj, X.heap[r]? = some o ∧ o.isCells = false) :=
      fun hr r e => by obtain ⟨q, o, ho, hw⟩ := hr r e; exact ⟨by omega, o, ho, Obj.not_cells_of_walk hw⟩
    refine (nV (n - 1) (by omega) (w.heap.size + 1) B s hs k xs hx
      (fun pre X => I pre X ∧ X.heap[w.heap.size + 1]? = some (.loop (lp .ready none)) ∧ X.heap[w.heap.size]? = some (.deferred (some [])))
      (fun pre X => Ix pre X ∧ X.heap[w.heap.size + 1]? = some (.loop (lp .done (some .ret))) ∧ X.heap[w.heap.size]? = some (.deferred (some [])))
      V
      (fun q X Y row hq hg' hr => ⟨hI q X Y row hq.1 hg' (up hr), (grownBy_keeps hg' (fun r e => (hr r e).2) hq.2.1 rfl).trans hq.2.1, (grownBy_keeps hg' (fun r e => (hr r e).2) hq.2.2 rfl).trans hq.2.2⟩)
      ?_ bB ⟨bI, bL, bD⟩).mono ?_
    · rintro pre x rest X hxs ⟨hi, hl, hk⟩
      have hlt : w.heap.size + 1 < X.heap.size := (Array.getElem?_eq_some_iff.1 hl).1
      have hy := run_yield (P := Tryd.prog) (args := #[Value.int .i64 x.1, Value.int .u8 x.2]) hl (by rw [hlp]; exact hps.symm)
      rw [hlp] at hy
      refine ⟨fn, _, assign, body, hy, roundIn_of_wpIn hfn (hassign _ x X _ ⟨_, run_beginRound hl (by rw [hlp]), ?_⟩)⟩
      have l2 : (X.putObj (w.heap.size + 1) (.loop { lp .ready none with state := .busy })).heap[w.heap.size + 1]? = some (.loop { lp .ready none with state := .busy }) := World.putObj_heap_same hlt
      have k2 : (X.putObj (w.heap.size + 1) (.loop { lp .ready none with state := .busy })).heap[w.heap.size]? = some (.deferred (some [])) := (World.putObj_heap_other (by omega)).trans hk
      have bk : ∀ (Y : World) (o o' : Obj), Y.heap[w.heap.size + 1]? = some o → o.isCells = false → Boxed Y B 9 (.string s) → Boxed (Y.putObj (w.heap.size + 1) o') B 9 (.string s) :=
        fun Y o o' h1 h2 hb => by
          refine hb.kept (grownBy_putObj' Y _ o') (fun e => ?_)
          obtain rfl : B = w.heap.size + 1 := by simpa using e
          rw [show Y.heap[w.heap.size + 1]? = _ from hb] at h1
          cases h1
          cases h2
      refine wpIn_mono (hbody _ pre x rest _ hxs (hI.putObj _ hi (by omega) hl rfl)) ?_
      have fin : ∀ (jump : Option Code) (Y : World), KeepsFrom w.heap.size (X.putObj (w.heap.size + 1) (.loop { lp .ready none with state := .busy })) Y →
          (Instr.endRound (w.heap.size + 1) jump).run Tryd.prog Y = .ok (.bool jump.isNone) (Y.putObj (w.heap.size + 1) (.loop (lp (if jump.isNone then .ready else .done) jump))) ∧
          Y.heap[w.heap.size + 1]? = some (.loop { lp .ready none with state := .busy }) ∧
          (Y.putObj (w.heap.size + 1) (.loop (lp (if jump.isNone then .ready else .done) jump))).heap[w.heap.size + 1]? = some (.loop (lp (if jump.isNone then .ready else .done) jump)) ∧
          (Y.putObj (w.heap.size + 1) (.loop (lp (if jump.isNone then .ready else .done) jump))).heap[w.heap.size]? = some (.deferred (some [])) := fun jump Y hk3 => by
        have l3 := hk3.same _ _ (by omega) l2 rfl
        have := run_endRound (P := Tryd.prog) jump l3
        rw [hlp] at this ⊢
        exact ⟨this, by rw [hlp] at l3; exact l3, World.putObj_heap_same (Array.getElem?_eq_some_iff.1 l3).1, (World.putObj_heap_other (by omega)).trans (hk3.same _ _ (Nat.le_refl _) k2 rfl)⟩
      rintro e a3 Y hp
      cases e with
      | normal =>
        obtain ⟨hk3, hb3, hi3⟩ := hp
        obtain ⟨hr, l3, l4, k4⟩ := fin none Y hk3
        exact ⟨_, _, hr, .inl ⟨rfl, ⟨hI.putObj _ hi3 (by omega) l3 rfl, l4, k4⟩, fun hb => bk Y _ _ l3 rfl (hb3 (bk X _ _ hl rfl hb))⟩⟩
      | ret =>
        obtain ⟨hk3, hi3⟩ := hp
        obtain ⟨hr, l3, l4, k4⟩ := fin (some .ret) Y hk3
        exact ⟨_, _, hr, .inr ⟨rfl, hIx.putObj _ hi3 (by omega) l3 rfl, l4, k4⟩⟩
      | exit id => exact hp.elim
      | goto t => exact hp.elim
      | panic ch => exact hp.elim
      | outgrown => exact hp.elim
    · rintro e Y ⟨⟨v, rfl⟩, (⟨ys, rfl, hi, hl, hk⟩ | ⟨pre, hp, hi, hl, hk⟩)⟩
      · exact ⟨none, _, by have := run_endLoop (P := Tryd.prog) hl (by rw [hlp]; simp); rw [hlp] at this; exact this, hdone _ _ (Nat.le_refl _) (hI.putObj _ hi (by omega) hl rfl) ((World.putObj_heap_other (by omega)).trans hk)⟩
      · exact ⟨some .ret, _, by have := run_endLoop (P := Tryd.prog) hl (by rw [hlp]; simp); rw [hlp] at this; exact this, hstop _ pre _ (Nat.le_refl _) hp (hIx.putObj _ hi (by omega) hl rfl) ((World.putObj_heap_other (by omega)).trans hk)⟩
theorem jB {X Y : World} {row : Option Nat} {B : Nat} {t : TypeId} {v : Value} (hb : Boxed X B t v) (hg : X.grownBy Y row) (hr : ∀ r, row = some r → ∃ o : Obj, X.heap[r]? = some o ∧ o.isCells = false) : Boxed Y B t v :=
  hb.kept hg (fun e => by
    obtain ⟨o, ho, hc⟩ := hr B e.symm
    rw [show X.heap[B]? = _ from hb] at ho
    cases ho
    cases hc)
theorem ev {X Y : World} {n B : Nat} {t : TypeId} {v : Value} (h : Below n X Y) (hn : B < n) (hb : Boxed X B t v) : Boxed Y B t v := (h.block B hn).trans hb
theorem jY {X Y : World} {n : Nat} (h : Below X.heap.size X Y) : KeepsFrom n X Y := ⟨h.size, fun k o _ hk _ => (h.block k (Array.getElem?_eq_some_iff.1 hk).1).trans hk⟩
end
theorem jd : ∀ k s i, LeO (eL k s i) (eL (k + 1) s i)
  | 0 => fun s i r h => by simp [eL] at h
  | k + 1 => by
    intro s i
    rw [eL, eL]
    exact LeO.ite (LeO.bind (gC s i k) (fun r => LeO.ite (LeO.bind (jd k s (i + 3)) (fun l => LeO.refl _)) (jd k s (i + 1)))) (LeO.refl _)
section
attribute [local go_sem] Oper.semAt_some
open Go.Shelf
theorem mP : (Tryd.prog.info? 5).map (fun i => (i.zero, i.size, i.bytes)) = some (some (.int .u8 0), 1, 1) := by kernel_rfl
def dN (T : Int → Option (ByteArray × Bool)) (s : ByteArray) : List (Int × Int) → Int → List Int → Option (List Int)
  | [], p, out => if 0 ≤ p ∧ p ≤ (s.size : Int) ∧ out.length ≤ 140000000000000 then some (out ++ ae (s.extract p.toNat s.size)) else none
  | (i, b) :: xs, p, out => if 0 ≤ p ∧ p ≤ i ∧ i ≤ (s.size : Int) ∧ 0 ≤ b ∧ b ≤ 255 ∧ out.length ≤ 140000000000000 then (T b).bind fun x => if x.2 = true then (if x.1.size ≤ 100 then dN T s xs (i + 3) (out ++ ae (s.extract p.toNat i.toNat) ++ ae x.1) else none) else dN T s xs p out else none
theorem nG (s : ByteArray) : Go.Lib.strCells s = fd .u8 (ae s) := by
  unfold Go.Lib.strCells fd ae
  rw [List.map_map]; rfl
theorem jT {W : World} {n0 : Nat} {e : TypeId} {v : Value} {k : Nat} {xs : List Value} (h : W.ownsRow n0 e 1 v k xs) : ∀ j o, v.ownBlock = some j → W.heap[j]? = some o → o.isCells = true := by
  intro j o ej hj
  rcases h.2 with ⟨rfl, _⟩ | ⟨g, cap, cur, rfl, _, hgb, _⟩
  · simp [Value.ownBlock] at ej
  · obtain rfl : g = j := by simpa [Value.ownBlock] using ej
    rw [hgb] at hj; cases hj; rfl
theorem kn {W : World} {n0 : Nat} {e : TypeId} {v : Value} {k : Nat} {xs : List Value} (h : W.ownsRow n0 e 1 v k xs) : ∃ A n c, v = .slice A n c := by
  rcases h.2 with ⟨rfl, _⟩ | ⟨g, cap, cur, rfl, _⟩
  · exact ⟨_, _, _, rfl⟩
  · exact ⟨_, _, _, rfl⟩
theorem ny {W w1 : World} {n0 B : Nat} {t e : TypeId} {v v' : Value} {k m : Nat} {xs ys : List Value} (hv : Boxed W B t v) (hte : t ≠ e) (hrow : W.ownsRow n0 e 1 v k xs) (hn : n0 ≤ W.heap.size) (hB : n0 ≤ B)
    (hown' : w1.ownsRow n0 e 1 v' m ys) (hgrow : W.grownBy w1 v.ownBlock) :
    Boxed (w1.setCell ⟨B, 0, none⟩ v') B t v' ∧ (w1.setCell ⟨B, 0, none⟩ v').ownsRow n0 e 1 v' m ys ∧ KeepsOthers W (w1.setCell ⟨B, 0, none⟩ v') ∧ Below n0 W (w1.setCell ⟨B, 0, none⟩ v') ∧
      ∀ B2 t2 u, B2 ≠ B → t2 ≠ e → Boxed W B2 t2 u → Boxed (w1.setCell ⟨B, 0, none⟩ v') B2 t2 u := by
  have hv1 : Boxed w1 B t v := hv.kept hgrow (hv.not_row hte hrow)
  refine ⟨hv1.set v', hown'.kept (grownBy_setCell' w1 B v') (.inr (hv1.not_row hte hown').symm), ?_, ?_, ?_⟩
  · exact (KeepsOthers.of_grownBy hgrow fun j o ej hj => jT hrow j o ej hj).trans (KeepsOthers.setCell _ _ _)
  · refine ((Below.refl n0 W).grown hgrow hn fun j ej => ?_).setCell (p := ⟨B, 0, none⟩) hB v'
    rcases hrow.2 with ⟨rfl, _⟩ | ⟨g, cap, cur, rfl, hb, _, _⟩
    · simp [Value.ownBlock] at ej
    · obtain rfl : g = j := by simpa [Value.ownBlock] using ej
      exact hb
  · intro B2 t2 u hne ht2 hb
    exact (hb.kept hgrow (hb.not_row ht2 hrow)).kept (grownBy_setCell' w1 B v') (fun e' => hne (by simpa using e'))
theorem cB {F : Fence} {n : Nat} {P : Program} {md : Region.Mode} {ops : Array Oper} {Q : Exit → Act → World → Prop} {f0 : Nat} {l0 : Array Bool} {a0 : Act} {w0 : World} (f1 : Nat) (l1 : Array Bool) (a1 : Act) (w1 : World)
    (h1 : wpAnyIn F n P md ops Q f1 l1 a1 w1) (h : wpAnyIn F n P md ops Q f1 l1 a1 w1 → wpAnyIn F n P md ops Q f0 l0 a0 w0) : wpAnyIn F n P md ops Q f0 l0 a0 w0 := h h1
abbrev aK (fid : FuncId) (caps : Array Value) (tt : ByteArray) (s : ByteArray) (B : Nat) (i b : Int) (x23 x24 x25 x26 x27 : Value) : Act :=
  { tmps := #[.string s, .func (.func fid) #[] caps, .pointer (some ⟨B, 0, none⟩), .pointer (some ⟨B + 1, 0, none⟩), .string ⟨#[]⟩, .pointer (some ⟨B + 1 + 1, 0, none⟩), .pointer (some ⟨B + 1 + 1 + 1, 0, none⟩), .int .i64 i, .int .u8 b, .string tt, .bool true, .string s, .func (.func 46) #[] #[.pointer (some ⟨B + 1 + 1 + 1 + 1, 0, none⟩)], .int .i64 i, .int .u8 b, .tuple #[.string tt, .bool true], .func (.func fid) #[] caps, .int .i64 i, .int .u8 b, .tuple #[.string tt, .bool true], .string tt, .bool true, .bool true, x23, x24, x25, x26, x27, undef, undef, undef, undef, undef, undef, undef, undef, undef, undef, undef, undef], defers := [] }
abbrev ca (fid : FuncId) (caps : Array Value) (s : ByteArray) (B D : Nat) (x34 x35 x36 x37 : Value) : Act :=
  { tmps := #[.string s, .func (.func fid) #[] caps, .pointer (some ⟨B, 0, none⟩), .pointer (some ⟨B + 1, 0, none⟩), .string ⟨#[]⟩, .pointer (some ⟨B + 1 + 1, 0, none⟩), .pointer (some ⟨B + 1 + 1 + 1, 0, none⟩), undef, undef, undef, undef, .string s, .func (.func 46) #[] #[.pointer (some ⟨B + 1 + 1 + 1 + 1, 0, none⟩)], undef, undef, undef, undef, undef, undef, undef, undef, undef, undef, undef, undef, undef, undef, undef, undef, undef, undef, undef, undef, undef, x34, x35, x36, x37, undef, undef], defers := [{ target := .collected D, args := #[] }] }
theorem km {F : Fence} {n : Nat} {o : Oper} {a : Act} {w : World} {K : Act → World → Prop} {Q : Exit → Act → World → Prop} (sl x : Operand) (ho : o.op = .call { callee := .builtin .append, args := #[sl, x], argTypes := #[44, 9] })
    (B : Nat) (v : Value) (out : List Int) (s : ByteArray) (hs : a.eval sl = v) (hx : a.eval x = .string s) (hown : w.ownsRow B 5 1 v out.length (fd .u8 out)) (hlen : out.length + s.size ≤ 140737488355328) (hbase : B ≤ w.heap.size)
    (h : ∀ v' w', w'.ownsRow B 5 1 v' (out ++ ae s).length (fd .u8 (out ++ ae s)) → w.grownBy w' v.ownBlock → K (a.put o.dst v') w') : Oper.wpIn F n Tryd.prog o a w K Q := by
  obtain ⟨i0, hi, hz0, hz1, hz2⟩ := info_parts mP
  obtain ⟨v', w', hr, h2, h3, h4⟩ := Go.Lib.run_append_own_string (P := Tryd.prog) (w := w) B 44 9 o.type 5 i0 Tryd.underlying44 Tryd.underlying9 hi hz0 hz1 hz2 v out.length (fd .u8 out) hown s (by unfold maxLen; omega) hlen hbase
  unfold Oper.wpIn
  refine ⟨?_, ?_⟩
  · simp [Oper.about, ho, resolve, Target.leads, Sem.run_pure]
  · rw [Oper.semAt_plain F _ _ (by rw [ho]; intro c hc'; cases hc')]
    simp [execOp, ho, resolve, invoke, builtin, hs, hx, hr, Result.andThen]
    refine h v' w' ?_ h3
    rw [lQ, List.length_append, eA, ← nG]
    exact h2
theorem ng (fid : FuncId) (caps : Array Value) (T : Int → Option (ByteArray × Bool)) (k : Nat) (s : ByteArray) (hs : s.size ≤ 1000000) (xs : List (Int × Int)) (hx : eL k s 0 = some xs) (o : List Int) (hr : dN T s xs 0 [] = some o) (w : World) (hen : Enters Tryd.prog fid)
    (tell : ∀ i b tt r W, 0 ≤ b → b ≤ 255 → T b = some (tt, r) → Below w.heap.size w W → Calls Tryd.prog fid (#[.int .i64 i, .int .u8 b] ++ caps) W fun e W' => e = .returned (.tuple #[.string tt, .bool r]) ∧ Below W.heap.size W W') :
    Calls Tryd.prog 21 #[.string s, .func (.func fid) #[] caps] w fun e W' => e = .returned (.string (strOfNums o)) ∧ Below w.heap.size w W' := by
  obtain ⟨i0, hi, hz0, hz1, hz2⟩ := info_parts mP
  refine (callsIn_wide (n := 3)).1 ?_
  refine callsIn_of_wp_marks Tryd.func21 rfl trivial ?_ rfl
  simp only [Tryd.ntmps21, List.size_toArray, List.length_cons, List.length_nil, Nat.reduceAdd, Nat.reduceSub, Array.replicate_succ, Array.replicate_zero, List.push_toArray, List.append_toArray, List.nil_append, List.cons_append]
  gi_wp2_with (refine ⟨trivial, ?_⟩; gi_at_call 35; refine (ne _ _ _).mono ?_; rintro e w' ⟨rfl, rfl⟩)
  obtain ⟨V, hV⟩ : ∃ V, (((((w.alloc (.cells #[.string s] 9)).alloc (.cells #[.func (.func fid) #[] caps] 48)).alloc (.cells #[.slice none 0 0] 44)).alloc (.cells #[.int .i64 0] 3)).alloc (.cells #[.string s] 9)) = V := ⟨_, rfl⟩
  have c0 : Boxed V w.heap.size 9 (.string s) := by rw [← hV]; exact ((((Boxed.new w 9 (.string s)).alloc _).alloc _).alloc _).alloc _
  have c1 : Boxed V (w.heap.size + 1) 48 (.func (.func fid) #[] caps) := by
    rw [← hV]; have := Boxed.new (w.alloc (.cells #[.string s] 9)) 48 (.func (.func fid) #[] caps); rw [World.size_alloc] at this; exact ((this.alloc _).alloc _).alloc _
  have c2 : Boxed V (w.heap.size + 1 + 1) 44 (.slice none 0 0) := by
    rw [← hV]; have := Boxed.new ((w.alloc (.cells #[.string s] 9)).alloc (.cells #[.func (.func fid) #[] caps] 48)) 44 (.slice none 0 0); rw [World.size_alloc, World.size_alloc] at this; exact (this.alloc _).alloc _
  have c3 : Boxed V (w.heap.size + 1 + 1 + 1) 3 (.int .i64 0) := by
    rw [← hV]; have := Boxed.new (((w.alloc (.cells #[.string s] 9)).alloc (.cells #[.func (.func fid) #[] caps] 48)).alloc (.cells #[.slice none 0 0] 44)) 3 (.int .i64 0); rw [World.size_alloc, World.size_alloc, World.size_alloc] at this; exact this.alloc _
  have c4 : Boxed V (w.heap.size + 1 + 1 + 1 + 1) 9 (.string s) := by
    rw [← hV]; have := Boxed.new ((((w.alloc (.cells #[.string s] 9)).alloc (.cells #[.func (.func fid) #[] caps] 48)).alloc (.cells #[.slice none 0 0] 44)).alloc (.cells #[.int .i64 0] 3)) 9 (.string s); rw [World.size_alloc, World.size_alloc, World.size_alloc, World.size_alloc] at this; exact this
  have hB0 : Below w.heap.size w V := by
    rw [← hV]
    have b1 := (Below.refl w.heap.size w).alloc (Nat.le_refl _) (.cells #[.string s] 9)
    have b2 := b1.alloc b1.size (.cells #[.func (.func fid) #[] caps] 48)
    have b3 := b2.alloc b2.size (.cells #[.slice none 0 0] 44)
    have b4 := b3.alloc b3.size (.cells #[.int .i64 0] 3)
    exact b4.alloc b4.size _
  have hsz : V.heap.size = w.heap.size + 5 := by rw [← hV]; simp
  rw [hV]
  refine nW 3 (by omega) (w.heap.size + 1 + 1 + 1 + 1) s (by omega) k xs hx rfl rfl c4
    (fun pre W => (Boxed W w.heap.size 9 (.string s) ∧ Boxed W (w.heap.size + 1) 48 (.func (.func fid) #[] caps) ∧ ∃ (v : Value) (out : List Int) (p : Int), Boxed W (w.heap.size + 1 + 1) 44 v ∧ W.ownsRow w.heap.size 5 1 v out.length (fd .u8 out) ∧ Boxed W (w.heap.size + 1 + 1 + 1) 3 (.int .i64 p) ∧ ∀ rest, xs = pre ++ rest → dN T s rest p out = some o) ∧ Below w.heap.size w W)
    (fun pre W => False)
    (OwnFrom.and (Own.from (fun q X Y row hq hg hr => by
      obtain ⟨h0, h1, v, out, p, h2, h3, h4, h5⟩ := hq
      refine ⟨jB h0 hg hr, jB h1 hg hr, v, out, p, jB h2 hg hr, h3.kept hg ?_, jB h4 hg hr, h5⟩
      rcases h3.2 with ⟨rfl, _⟩ | ⟨g, cap, cur, rfl, _, hgb, _⟩
      · exact .inl rfl
      · refine .inr fun e' => ?_
        obtain ⟨o', ho, hc⟩ := hr g (by simpa [Value.ownBlock] using e'.symm)
        rw [hgb] at ho; cases ho; cases hc) _) (ownFrom_below (Nat.le_refl _) (by rw [hsz]; omega)))
    (fun _ _ _ _ hq _ _ => hq)
    ⟨⟨c0, c1, _, [], 0, c2, World.ownsRow_nil _ _ _ _, c3, fun rest hr' => by have h2 : xs = rest := hr'; rw [← h2]; exact hr⟩, hB0⟩
    (fun x => { tmps := #[.string s, .func (.func fid) #[] caps, .pointer (some ⟨w.heap.size, 0, none⟩), .pointer (some ⟨w.heap.size + 1, 0, none⟩), .string ⟨#[]⟩, .pointer (some ⟨w.heap.size + 1 + 1, 0, none⟩), .pointer (some ⟨w.heap.size + 1 + 1 + 1, 0, none⟩), .int .i64 x.1, .int .u8 x.2, undef, undef, .string s, .func (.func 46) #[] #[.pointer (some ⟨w.heap.size + 1 + 1 + 1 + 1, 0, none⟩)], .int .i64 x.1, .int .u8 x.2, undef, undef, undef, undef, undef, undef, undef, undef, undef, undef, undef, undef, undef, undef, undef, undef, undef, undef, undef, undef, undef, undef, undef, undef, undef], defers := [] }) ?assign ?body ?done ?stop
  case assign =>
    intro l x W K hK
    gi_wp2
    exact hK
  case stop =>
    rintro D pre W hD hp hF hK
    exact hF.elim
  case body =>
    rintro l pre ⟨i, b⟩ rest W hxs ⟨⟨d0, d1, v, out, p, d2, drow, d3, hrel⟩, hB⟩
    have h := hrel _ hxs
    rw [dN] at h
    by_cases hc : 0 ≤ p ∧ p ≤ i ∧ i ≤ (s.size : Int) ∧ 0 ≤ b ∧ b ≤ 255 ∧ out.length ≤ 140000000000000
    · rw [if_pos hc] at h
      obtain ⟨p0, p1, p2, q0, q1, q2⟩ := hc
      obtain ⟨⟨tt, rr⟩, hT, h⟩ := Option.bind_eq_some_iff.1 h
      dsimp only at h
      have e1 := d1.cell
      have hmx : Tryd.prog.follows .mixedOrders = true := by kernel_rfl
      cases rr with
      | false =>
        rw [if_neg (by simp)] at h
        gi_wp2_with (refine ⟨trivial, ?_⟩; rw [hen]; refine ⟨fun _ => by omega, ?_⟩; refine (CallsIn.inRound l (callsIn_wide.2 (tell i b tt false _ q0 q1 hT hB))).mono ?_; rintro e w' ⟨rfl, hb⟩)
        have g0 := ev hb d0.lt d0
        have g1 := ev hb d1.lt d1
        have g2 := ev hb d2.lt d2
        have g3 := ev hb d3.lt d3
        have drow' : w'.ownsRow w.heap.size 5 1 v out.length (fd .u8 out) := drow.kept (row := none) ⟨hb.os, hb.tape, hb.output, hb.size, fun k hk _ => hb.block k hk⟩ (Classical.em _)
        refine ⟨jY hb, fun hbx => ev hb hbx.lt hbx, ⟨g0, g1, v, out, p, g2, drow', g3, fun rest' h' => ?_⟩, hB.trans (hb.mono hB.size)⟩
        have e : rest' = rest := by
          rw [hxs, List.append_assoc] at h'
          have := List.append_cancel_left h'
          simpa using this.symm
        rw [e]; exact h
      | true =>
       rw [if_pos rfl] at h
       by_cases hb1 : tt.size ≤ 100
       case neg => rw [if_neg hb1] at h; cases h
       rw [if_pos hb1] at h
       gi_wp2_with (refine ⟨trivial, ?_⟩; rw [hen]; refine ⟨fun _ => by omega, ?_⟩; refine (CallsIn.inRound l (callsIn_wide.2 (tell i b tt true _ q0 q1 hT hB))).mono ?_; rintro e w' ⟨rfl, hb⟩)
       have g0 := ev hb d0.lt d0
       have g1 := ev hb d1.lt d1
       have g2 := ev hb d2.lt d2
       have g3 := ev hb d3.lt d3
       have g0c := g0.cell
       have g2c := g2.cell
       have g2f := g2.frozen
       have g3c := g3.cell
       have hw1 : w.heap.size ≤ w'.heap.size := Nat.le_trans hB.size hb.size
       have drow' : w'.ownsRow w.heap.size 5 1 v out.length (fd .u8 out) := drow.kept (row := none) ⟨hb.os, hb.tape, hb.output, hb.size, fun k hk _ => hb.block k hk⟩ (Classical.em _)
       rename_i Kn hKn
       have next : ∀ (v1 : Value) (W1 : World), W1.ownsRow w.heap.size 5 1 v1 (out ++ ae (s.extract p.toNat i.toNat)).length (fd .u8 (out ++ ae (s.extract p.toNat i.toNat))) → w'.drew.grownBy W1 v.ownBlock →
           Kn { tmps := #[.string s, .func (.func fid) #[] caps, .pointer (some ⟨w.heap.size, 0, none⟩), .pointer (some ⟨w.heap.size + 1, 0, none⟩), .string ⟨#[]⟩, .pointer (some ⟨w.heap.size + 1 + 1, 0, none⟩), .pointer (some ⟨w.heap.size + 1 + 1 + 1, 0, none⟩), .int .i64 i, .int .u8 b, .string tt, .bool true, .string s, .func (.func 46) #[] #[.pointer (some ⟨w.heap.size + 1 + 1 + 1 + 1, 0, none⟩)], .int .i64 i, .int .u8 b, .tuple #[.string tt, .bool true], .func (.func fid) #[] caps, .int .i64 i, .int .u8 b, .tuple #[.string tt, .bool true], .string tt, .bool true, .bool true, v, .string s, .int .i64 p, .int .i64 i, .string (s.extract p.toNat i.toNat), v1, undef, undef, undef, undef, undef, undef, undef, undef, undef, undef, undef], defers := [] } (W1.setCell ⟨w.heap.size + 1 + 1, 0, none⟩ v1) := by
         intro v1 W1 hown1 hgrow1
         refine hKn _ _ ?_
         have g2d : Boxed w'.drew (w.heap.size + 1 + 1) 44 v := g2
         have drowd : w'.drew.ownsRow w.heap.size 5 1 v out.length (fd .u8 out) := drow'
         obtain ⟨j2, j3, j4, j5, j6⟩ := ny g2d (by decide) drowd hw1 (by omega) hown1 hgrow1
         have m0 := j6 w.heap.size 9 _ (by omega) (by decide) g0
         have m1 := j6 (w.heap.size + 1) 48 _ (by omega) (by decide) (show Boxed w'.drew (w.heap.size + 1) 48 (.func (.func fid) #[] caps) from g1)
         have m3 := j6 (w.heap.size + 1 + 1 + 1) 3 _ (by omega) (by decide) g3
         generalize W1.setCell ⟨w.heap.size + 1 + 1, 0, none⟩ v1 = W2 at j2 j3 j4 j5 j6 m0 m1 m3 ⊢
         obtain ⟨A1, n1, c1, rfl⟩ := kn j3
         have j2c := j2.cell
         have j2f := j2.frozen
         have hsz2 : w.heap.size ≤ W2.heap.size := Nat.le_trans hw1 j5.size
         clear hKn hown1 hgrow1
         have w3 : wrap64 (i + 3) = i + 3 := by unfold wrap64; omega
         gi_wp2_with (gi_at_builtin; refine wpListIn_plain rfl fun K hK => ?_; refine km (.tmp 29) (.tmp 30) rfl w.heap.size _ (out ++ ae (s.extract p.toNat i.toNat)) tt (by rfl) (by rfl) j3 (by rw [List.length_append, eA, ByteArray.size_extract]; omega) hsz2 ?_; intro v2 W3 ho2 hg2; have z2 := j2.kept hg2 (j2.not_row (by decide) j3); have z2c := z2.cell; have z2f := z2.frozen; obtain ⟨A2, n2, c2, rfl⟩ := kn ho2; obtain ⟨y2, y3, y4, y5, y6⟩ := ny j2 (by decide) j3 hsz2 (by omega) ho2 hg2; have z3 := (m3.kept hg2 (m3.not_row (by decide) j3)).kept (grownBy_setCell' W3 (w.heap.size + 1 + 1) (.slice A2 n2 c2)) (fun e => by injection e with e; omega); have z3c := z3.cell; have z3f := z3.frozen; refine hK _ _ ?_; clear hK K)
         have u0 := (y6 w.heap.size 9 _ (by omega) (by decide) m0).kept (grownBy_setCell' (W3.setCell ⟨w.heap.size + 1 + 1, 0, none⟩ (.slice A2 n2 c2)) (w.heap.size + 1 + 1 + 1) (.int .i64 (i + 3))) (fun e => by injection e with e; omega)
         have u1 := (y6 (w.heap.size + 1) 48 _ (by omega) (by decide) m1).kept (grownBy_setCell' (W3.setCell ⟨w.heap.size + 1 + 1, 0, none⟩ (.slice A2 n2 c2)) (w.heap.size + 1 + 1 + 1) (.int .i64 (i + 3))) (fun e => by injection e with e; omega)
         have u2 := y2.kept (grownBy_setCell' (W3.setCell ⟨w.heap.size + 1 + 1, 0, none⟩ (.slice A2 n2 c2)) (w.heap.size + 1 + 1 + 1) (.int .i64 (i + 3))) (fun e => by injection e with e; omega)
         have u3 := y3.kept (grownBy_setCell' (W3.setCell ⟨w.heap.size + 1 + 1, 0, none⟩ (.slice A2 n2 c2)) (w.heap.size + 1 + 1 + 1) (.int .i64 (i + 3))) (.inr (z3.not_row (by decide) y3).symm)
         have kk : KeepsFrom V.heap.size W ((W3.setCell ⟨w.heap.size + 1 + 1, 0, none⟩ (.slice A2 n2 c2)).setCell ⟨w.heap.size + 1 + 1 + 1, 0, none⟩ (.int .i64 (i + 3))) :=
           (jY hb).trans ((((KeepsOthers.drew w').trans j4).trans (y4.trans (KeepsOthers.setCell _ _ _))).from _)
         have bb : Below w.heap.size w ((W3.setCell ⟨w.heap.size + 1 + 1, 0, none⟩ (.slice A2 n2 c2)).setCell ⟨w.heap.size + 1 + 1 + 1, 0, none⟩ (.int .i64 (i + 3))) :=
           (((aw (hB.trans (hb.mono hB.size))).trans j5).trans y5).setCell (p := ⟨w.heap.size + 1 + 1 + 1, 0, none⟩) (by simp; omega) _
         refine ⟨kk, fun hbx => ?_, ⟨u0, u1, _, out ++ ae (s.extract p.toNat i.toNat) ++ ae tt, i + 3, u2, ?_, z3.set _, fun rest' h' => ?_⟩, bb⟩
         · exact (y6 (w.heap.size + 1 + 1 + 1 + 1) 9 _ (by omega) (by decide) (j6 (w.heap.size + 1 + 1 + 1 + 1) 9 _ (by omega) (by decide) (show Boxed w'.drew (w.heap.size + 1 + 1 + 1 + 1) 9 (.string s) from (ev hb hbx.lt hbx : Boxed w' (w.heap.size + 1 + 1 + 1 + 1) 9 (.string s))))).kept (grownBy_setCell' (W3.setCell ⟨w.heap.size + 1 + 1, 0, none⟩ (.slice A2 n2 c2)) (w.heap.size + 1 + 1 + 1) (.int .i64 (i + 3))) (fun e => by injection e with e; omega)
         · exact u3
         · have e : rest' = rest := by
             rw [hxs, List.append_assoc] at h'
             have := List.append_cancel_left h'
             simpa using this.symm
           rw [e]; exact h
       refine wpIn_region_any hmx ?_
       (try (change wpAnyIn _ _ _ _ _ _ _ _ _ (World.drew _)))
       refine cB 2 #[true, true, true, true, true, false, false] (aK fid caps tt s w.heap.size i b (v) (.string s) (.int .i64 p) (.int .i64 i) (.string (s.extract p.toNat i.toNat))) w'.drew ?_ (fun h_01234 => ?_)
       · refine wpAnyIn_ready (rs := [5]) (by kernel_rfl) (by simp) ?_
         refine AllReadyIn.cons rfl (fun K hK => ?_) AllReadyIn.nil
         rw [if_pos (by rfl)]
         refine km (.tmp 23) (.tmp 27) rfl w.heap.size v out (s.extract p.toNat i.toNat) (by rfl) (by rfl) drow' (by rw [ByteArray.size_extract]; omega) hw1 ?_
         intro v1 W1 ho hg
         have g2d : Boxed w'.drew (w.heap.size + 1 + 1) 44 v := g2
         have hz := g2d.kept hg (g2d.not_row (by decide) drow')
         have hzc := hz.cell
         have hzf := hz.frozen
         obtain ⟨A, n1, c1, rfl⟩ := kn ho
         refine hK _ _ ?_
         clear hK K
         refine wpAnyIn_ready (rs := [6]) (by kernel_rfl) (by simp) ?_
         refine AllReadyIn.cons rfl (fun K hK => ?_) AllReadyIn.nil
         dsimp only [aK]
         go_simp
         refine hK _ _ ?_
         clear hK K
         refine wpAnyIn_done (by kernel_rfl) ?_ _
         exact next _ W1 ho hg
       refine cB 3 #[true, true, true, true, false, false, false] (aK fid caps tt s w.heap.size i b (v) (.string s) (.int .i64 p) (.int .i64 i) undef) w'.drew ?_ (fun h_0123 => ?_)
       · refine wpAnyIn_ready (rs := [4]) (by kernel_rfl) (by simp) ?_
         refine AllReadyIn.cons rfl (fun K hK => ?_) ?_
         · dsimp only [aK]; go_simp; exact hK _ _ h_01234
         exact AllReadyIn.nil
       refine cB 3 #[false, true, true, true, true, false, false] (aK fid caps tt s w.heap.size i b undef (.string s) (.int .i64 p) (.int .i64 i) (.string (s.extract p.toNat i.toNat))) w'.drew ?_ (fun h_1234 => ?_)
       · refine wpAnyIn_ready (rs := [0]) (by kernel_rfl) (by simp) ?_
         refine AllReadyIn.cons rfl (fun K hK => ?_) ?_
         · dsimp only [aK]; go_simp; exact hK _ _ h_01234
         exact AllReadyIn.nil
       refine cB 4 #[true, true, true, false, false, false, false] (aK fid caps tt s w.heap.size i b (v) (.string s) (.int .i64 p) undef undef) w'.drew ?_ (fun h_012 => ?_)
       · refine wpAnyIn_ready (rs := [3]) (by kernel_rfl) (by simp) ?_
         refine AllReadyIn.cons rfl (fun K hK => ?_) ?_
         · dsimp only [aK]; go_simp; exact hK _ _ h_0123
         exact AllReadyIn.nil
       refine cB 4 #[true, true, false, true, false, false, false] (aK fid caps tt s w.heap.size i b (v) (.string s) undef (.int .i64 i) undef) w'.drew ?_ (fun h_013 => ?_)
       · refine wpAnyIn_ready (rs := [2]) (by kernel_rfl) (by simp) ?_
         refine AllReadyIn.cons rfl (fun K hK => ?_) ?_
         · dsimp only [aK]; go_simp; exact hK _ _ h_0123
         exact AllReadyIn.nil
       refine cB 4 #[true, false, true, true, false, false, false] (aK fid caps tt s w.heap.size i b (v) undef (.int .i64 p) (.int .i64 i) undef) w'.drew ?_ (fun h_023 => ?_)
       · refine wpAnyIn_ready (rs := [1]) (by kernel_rfl) (by simp) ?_
         refine AllReadyIn.cons rfl (fun K hK => ?_) ?_
         · dsimp only [aK]; go_simp; exact hK _ _ h_0123
         exact AllReadyIn.nil
       refine cB 4 #[false, true, true, true, false, false, false] (aK fid caps tt s w.heap.size i b undef (.string s) (.int .i64 p) (.int .i64 i) undef) w'.drew ?_ (fun h_123 => ?_)
       · refine wpAnyIn_ready (rs := [0, 4]) (by kernel_rfl) (by simp) ?_
         refine AllReadyIn.cons rfl (fun K hK => ?_) ?_
         · dsimp only [aK]; go_simp; exact hK _ _ h_0123
         refine AllReadyIn.cons rfl (fun K hK => ?_) ?_
         · dsimp only [aK]; go_simp; exact hK _ _ h_1234
         exact AllReadyIn.nil
       refine cB 5 #[true, true, false, false, false, false, false] (aK fid caps tt s w.heap.size i b (v) (.string s) undef undef undef) w'.drew ?_ (fun h_01 => ?_)
       · refine wpAnyIn_ready (rs := [2, 3]) (by kernel_rfl) (by simp) ?_
         refine AllReadyIn.cons rfl (fun K hK => ?_) ?_
         · dsimp only [aK]; go_simp; exact hK _ _ h_012
         refine AllReadyIn.cons rfl (fun K hK => ?_) ?_
         · dsimp only [aK]; go_simp; exact hK _ _ h_013
         exact AllReadyIn.nil
       refine cB 5 #[true, false, true, false, false, false, false] (aK fid caps tt s w.heap.size i b (v) undef (.int .i64 p) undef undef) w'.drew ?_ (fun h_02 => ?_)
       · refine wpAnyIn_ready (rs := [1, 3]) (by kernel_rfl) (by simp) ?_
         refine AllReadyIn.cons rfl (fun K hK => ?_) ?_
         · dsimp only [aK]; go_simp; exact hK _ _ h_012
         refine AllReadyIn.cons rfl (fun K hK => ?_) ?_
         · dsimp only [aK]; go_simp; exact hK _ _ h_023
         exact AllReadyIn.nil
       refine cB 5 #[true, false, false, true, false, false, false] (aK fid caps tt s w.heap.size i b (v) undef undef (.int .i64 i) undef) w'.drew ?_ (fun h_03 => ?_)
       · refine wpAnyIn_ready (rs := [1, 2]) (by kernel_rfl) (by simp) ?_
         refine AllReadyIn.cons rfl (fun K hK => ?_) ?_
         · dsimp only [aK]; go_simp; exact hK _ _ h_013
         refine AllReadyIn.cons rfl (fun K hK => ?_) ?_
         · dsimp only [aK]; go_simp; exact hK _ _ h_023
         exact AllReadyIn.nil
       refine cB 5 #[false, true, true, false, false, false, false] (aK fid caps tt s w.heap.size i b undef (.string s) (.int .i64 p) undef undef) w'.drew ?_ (fun h_12 => ?_)
       · refine wpAnyIn_ready (rs := [0, 3]) (by kernel_rfl) (by simp) ?_
         refine AllReadyIn.cons rfl (fun K hK => ?_) ?_
         · dsimp only [aK]; go_simp; exact hK _ _ h_012
         refine AllReadyIn.cons rfl (fun K hK => ?_) ?_
         · dsimp only [aK]; go_simp; exact hK _ _ h_123
         exact AllReadyIn.nil
       refine cB 5 #[false, true, false, true, false, false, false] (aK fid caps tt s w.heap.size i b undef (.string s) undef (.int .i64 i) undef) w'.drew ?_ (fun h_13 => ?_)
       · refine wpAnyIn_ready (rs := [0, 2]) (by kernel_rfl) (by simp) ?_
         refine AllReadyIn.cons rfl (fun K hK => ?_) ?_
         · dsimp only [aK]; go_simp; exact hK _ _ h_013
         refine AllReadyIn.cons rfl (fun K hK => ?_) ?_
         · dsimp only [aK]; go_simp; exact hK _ _ h_123
         exact AllReadyIn.nil
       refine cB 5 #[false, false, true, true, false, false, false] (aK fid caps tt s w.heap.size i b undef undef (.int .i64 p) (.int .i64 i) undef) w'.drew ?_ (fun h_23 => ?_)
       · refine wpAnyIn_ready (rs := [0, 1]) (by kernel_rfl) (by simp) ?_
         refine AllReadyIn.cons rfl (fun K hK => ?_) ?_
         · dsimp only [aK]; go_simp; exact hK _ _ h_023
         refine AllReadyIn.cons rfl (fun K hK => ?_) ?_
         · dsimp only [aK]; go_simp; exact hK _ _ h_123
         exact AllReadyIn.nil
       refine cB 6 #[true, false, false, false, false, false, false] (aK fid caps tt s w.heap.size i b (v) undef undef undef undef) w'.drew ?_ (fun h_0 => ?_)
       · refine wpAnyIn_ready (rs := [1, 2, 3]) (by kernel_rfl) (by simp) ?_
         refine AllReadyIn.cons rfl (fun K hK => ?_) ?_
         · dsimp only [aK]; go_simp; exact hK _ _ h_01
         refine AllReadyIn.cons rfl (fun K hK => ?_) ?_
         · dsimp only [aK]; go_simp; exact hK _ _ h_02
         refine AllReadyIn.cons rfl (fun K hK => ?_) ?_
         · dsimp only [aK]; go_simp; exact hK _ _ h_03
         exact AllReadyIn.nil
       refine cB 6 #[false, true, false, false, false, false, false] (aK fid caps tt s w.heap.size i b undef (.string s) undef undef undef) w'.drew ?_ (fun h_1 => ?_)
       · refine wpAnyIn_ready (rs := [0, 2, 3]) (by kernel_rfl) (by simp) ?_
         refine AllReadyIn.cons rfl (fun K hK => ?_) ?_
         · dsimp only [aK]; go_simp; exact hK _ _ h_01
         refine AllReadyIn.cons rfl (fun K hK => ?_) ?_
         · dsimp only [aK]; go_simp; exact hK _ _ h_12
         refine AllReadyIn.cons rfl (fun K hK => ?_) ?_
         · dsimp only [aK]; go_simp; exact hK _ _ h_13
         exact AllReadyIn.nil
       refine cB 6 #[false, false, true, false, false, false, false] (aK fid caps tt s w.heap.size i b undef undef (.int .i64 p) undef undef) w'.drew ?_ (fun h_2 => ?_)
       · refine wpAnyIn_ready (rs := [0, 1, 3]) (by kernel_rfl) (by simp) ?_
         refine AllReadyIn.cons rfl (fun K hK => ?_) ?_
         · dsimp only [aK]; go_simp; exact hK _ _ h_02
         refine AllReadyIn.cons rfl (fun K hK => ?_) ?_
         · dsimp only [aK]; go_simp; exact hK _ _ h_12
         refine AllReadyIn.cons rfl (fun K hK => ?_) ?_
         · dsimp only [aK]; go_simp; exact hK _ _ h_23
         exact AllReadyIn.nil
       refine cB 6 #[false, false, false, true, false, false, false] (aK fid caps tt s w.heap.size i b undef undef undef (.int .i64 i) undef) w'.drew ?_ (fun h_3 => ?_)
       · refine wpAnyIn_ready (rs := [0, 1, 2]) (by kernel_rfl) (by simp) ?_
         refine AllReadyIn.cons rfl (fun K hK => ?_) ?_
         · dsimp only [aK]; go_simp; exact hK _ _ h_03
         refine AllReadyIn.cons rfl (fun K hK => ?_) ?_
         · dsimp only [aK]; go_simp; exact hK _ _ h_13
         refine AllReadyIn.cons rfl (fun K hK => ?_) ?_
         · dsimp only [aK]; go_simp; exact hK _ _ h_23
         exact AllReadyIn.nil
       refine wpAnyIn_ready (rs := [0, 1, 2, 3]) (by kernel_rfl) (by simp) ?_
       refine AllReadyIn.cons rfl (fun K hK => ?_) ?_
       · dsimp only [aK]; go_simp; exact hK _ _ h_0
       refine AllReadyIn.cons rfl (fun K hK => ?_) ?_
       · dsimp only [aK]; go_simp; exact hK _ _ h_1
       refine AllReadyIn.cons rfl (fun K hK => ?_) ?_
       · dsimp only [aK]; go_simp; exact hK _ _ h_2
       refine AllReadyIn.cons rfl (fun K hK => ?_) ?_
       · dsimp only [aK]; go_simp; exact hK _ _ h_3
       exact AllReadyIn.nil
    · rw [if_neg hc] at h; cases h
  case done =>
    rintro D W hD ⟨⟨d0, d1, v, out, p, d2, drow, d3, hrel⟩, hB⟩ hKd0
    have h := hrel [] (by simp)
    rw [dN] at h
    by_cases hc : 0 ≤ p ∧ p ≤ (s.size : Int) ∧ out.length ≤ 140000000000000
    · rw [if_pos hc] at h
      have h := Option.some.inj h
      obtain ⟨p0, p1, p2⟩ := hc
      have e0 := d0.cell
      have e2 := d2.cell
      have e3 := d3.cell
      have hmx : Tryd.prog.follows .mixedOrders = true := by kernel_rfl
      have drowd : W.drew.ownsRow w.heap.size 5 1 v out.length (fd .u8 out) := drow
      have hKd : W.drew.heap[D]? = some (.deferred (some [])) := hKd0
      have hwD : w.heap.size ≤ W.drew.heap.size := hB.size
      gi_wp2
      refine wpIn_region_any hmx ?_
      (try (change wpAnyIn _ _ _ _ _ _ _ _ _ (World.drew _)))
      refine cB 3 #[true, true, true, true, false, false, false] (ca fid caps s w.heap.size D (v) (.string s) (.int .i64 p) (.string (s.extract p.toNat s.size))) W.drew ?_ (fun h_0123 => ?_)
      · refine wpAnyIn_ready (rs := [4]) (by kernel_rfl) (by simp) ?_
        refine AllReadyIn.cons rfl (fun K hK => ?_) AllReadyIn.nil
        rw [if_pos (by rfl)]
        refine km (.tmp 34) (.tmp 37) rfl w.heap.size v out (s.extract p.toNat s.size) (by rfl) (by rfl) drowd (by rw [ByteArray.size_extract]; omega) hwD ?_
        intro v1 W1 ho hg
        have hcv := gm (P := Tryd.prog) Tryd.underlying44 Tryd.underlying5 Tryd.underlying9 ho
        have hK1 : W1.heap[D]? = some (.deferred (some [])) := (hg.block D (Array.getElem?_eq_some_iff.1 hKd).1 (fun e => by have := jT drowd D _ e.symm hKd; cases this)).trans hKd
        have hb1 : Below w.heap.size W.drew W1 := (Below.refl w.heap.size W.drew).grown hg hwD (fun j ej => by
          rcases drowd.2 with ⟨rfl, _⟩ | ⟨g, cap, cur, rfl, hb, _, _⟩
          · simp [Value.ownBlock] at ej
          · obtain rfl : g = j := by simpa [Value.ownBlock] using ej
            exact hb)
        refine hK _ _ ?_
        clear hK K
        refine wpAnyIn_ready (rs := [5]) (by kernel_rfl) (by simp) ?_
        refine AllReadyIn.cons rfl (fun K hK => ?_) AllReadyIn.nil
        dsimp only [ca]
        go_simp
        refine hK _ _ ?_
        clear hK K
        refine wpAnyIn_ready (rs := [6]) (by kernel_rfl) (by simp) ?_
        refine AllReadyIn.cons rfl (fun K hK => ?_) AllReadyIn.nil
        go_simp
        refine hK _ _ ?_
        clear hK K
        refine wpAnyIn_done (by kernel_rfl) ?_ _
        gi_wp2
        refine ⟨by simp, .inl ⟨_, _, rfl, run_takeDeferred hK1, ?_⟩⟩
        exact ⟨_, results_tmp rfl _ _ _, rfl, ((aw hB).trans hb1).trans (belowK_b (w := w) (Nat.le_refl _) W1 D _ _ (by rw [hsz] at hD; omega) hK1 rfl rfl)⟩
      refine cB 4 #[true, true, true, false, false, false, false] (ca fid caps s w.heap.size D (v) (.string s) (.int .i64 p) undef) W.drew ?_ (fun h_012 => ?_)
      · refine wpAnyIn_ready (rs := [3]) (by kernel_rfl) (by simp) ?_
        refine AllReadyIn.cons rfl (fun K hK => ?_) ?_
        · dsimp only [ca]; go_simp; exact hK _ _ h_0123
        exact AllReadyIn.nil
      refine cB 4 #[false, true, true, true, false, false, false] (ca fid caps s w.heap.size D undef (.string s) (.int .i64 p) (.string (s.extract p.toNat s.size))) W.drew ?_ (fun h_123 => ?_)
      · refine wpAnyIn_ready (rs := [0]) (by kernel_rfl) (by simp) ?_
        refine AllReadyIn.cons rfl (fun K hK => ?_) ?_
        · dsimp only [ca]; go_simp; exact hK _ _ h_0123
        exact AllReadyIn.nil
      refine cB 5 #[true, true, false, false, false, false, false] (ca fid caps s w.heap.size D (v) (.string s) undef undef) W.drew ?_ (fun h_01 => ?_)
      · refine wpAnyIn_ready (rs := [2]) (by kernel_rfl) (by simp) ?_
        refine AllReadyIn.cons rfl (fun K hK => ?_) ?_
        · dsimp only [ca]; go_simp; exact hK _ _ h_012
        exact AllReadyIn.nil
      refine cB 5 #[true, false, true, false, false, false, false] (ca fid caps s w.heap.size D (v) undef (.int .i64 p) undef) W.drew ?_ (fun h_02 => ?_)
      · refine wpAnyIn_ready (rs := [1]) (by kernel_rfl) (by simp) ?_
        refine AllReadyIn.cons rfl (fun K hK => ?_) ?_
        · dsimp only [ca]; go_simp; exact hK _ _ h_012
        exact AllReadyIn.nil
      refine cB 5 #[false, true, true, false, false, false, false] (ca fid caps s w.heap.size D undef (.string s) (.int .i64 p) undef) W.drew ?_ (fun h_12 => ?_)
      · refine wpAnyIn_ready (rs := [0, 3]) (by kernel_rfl) (by simp) ?_
        refine AllReadyIn.cons rfl (fun K hK => ?_) ?_
        · dsimp only [ca]; go_simp; exact hK _ _ h_012
        refine AllReadyIn.cons rfl (fun K hK => ?_) ?_
        · dsimp only [ca]; go_simp; exact hK _ _ h_123
        exact AllReadyIn.nil
      refine cB 6 #[true, false, false, false, false, false, false] (ca fid caps s w.heap.size D (v) undef undef undef) W.drew ?_ (fun h_0 => ?_)
      · refine wpAnyIn_ready (rs := [1, 2]) (by kernel_rfl) (by simp) ?_
        refine AllReadyIn.cons rfl (fun K hK => ?_) ?_
        · dsimp only [ca]; go_simp; exact hK _ _ h_01
        refine AllReadyIn.cons rfl (fun K hK => ?_) ?_
        · dsimp only [ca]; go_simp; exact hK _ _ h_02
        exact AllReadyIn.nil
      refine cB 6 #[false, true, false, false, false, false, false] (ca fid caps s w.heap.size D undef (.string s) undef undef) W.drew ?_ (fun h_1 => ?_)
      · refine wpAnyIn_ready (rs := [0, 2]) (by kernel_rfl) (by simp) ?_
        refine AllReadyIn.cons rfl (fun K hK => ?_) ?_
        · dsimp only [ca]; go_simp; exact hK _ _ h_01
        refine AllReadyIn.cons rfl (fun K hK => ?_) ?_
        · dsimp only [ca]; go_simp; exact hK _ _ h_12
        exact AllReadyIn.nil
      refine cB 6 #[false, false, true, false, false, false, false] (ca fid caps s w.heap.size D undef undef (.int .i64 p) undef) W.drew ?_ (fun h_2 => ?_)
      · refine wpAnyIn_ready (rs := [0, 1]) (by kernel_rfl) (by simp) ?_
        refine AllReadyIn.cons rfl (fun K hK => ?_) ?_
        · dsimp only [ca]; go_simp; exact hK _ _ h_02
        refine AllReadyIn.cons rfl (fun K hK => ?_) ?_
        · dsimp only [ca]; go_simp; exact hK _ _ h_12
        exact AllReadyIn.nil
      refine wpAnyIn_ready (rs := [0, 1, 2]) (by kernel_rfl) (by simp) ?_
      refine AllReadyIn.cons rfl (fun K hK => ?_) ?_
      · dsimp only [ca]; go_simp; exact hK _ _ h_0
      refine AllReadyIn.cons rfl (fun K hK => ?_) ?_
      · dsimp only [ca]; go_simp; exact hK _ _ h_1
      refine AllReadyIn.cons rfl (fun K hK => ?_) ?_
      · dsimp only [ca]; go_simp; exact hK _ _ h_2
      exact AllReadyIn.nil
    · rw [if_neg hc] at h; cases h
end
theorem iO {T : Nat → Int → Option (ByteArray × Bool)} (hT : ∀ b k, LeO (T k b) (T (k + 1) b)) (k : Nat) (s : ByteArray) : ∀ xs p out, LeO (dN (T k) s xs p out) (dN (T (k + 1)) s xs p out)
  | [], p, out => by
    rw [dN, dN]
    exact LeO.refl _
  | (i, b) :: xs, p, out => by
    rw [dN, dN]
    exact LeO.ite (LeO.bind (hT b k) (fun x => LeO.ite (LeO.ite (iO hT k s xs (i + 3) _) (LeO.refl _)) (iO hT k s xs p out))) (LeO.refl _)
def fz (k : Nat) (b : Int) : Option (ByteArray × Bool) := (dw k b).bind fun t => some (t, true)
def dr (k : Nat) (a0 : ByteArray) : Option ByteArray := if a0.size ≤ 1000000 then (eL k a0 0).bind fun xs => (dN (fz k) a0 xs 0 []).bind fun o => some (strOfNums o) else none
theorem jF : ∀ a0 k, LeO (dr k a0) (dr (k + 1) a0) := fun a0 k =>
  LeO.ite (LeO.bind (jd k a0 0) (fun xs => LeO.bind (iO (T := fz) (fun b k => LeO.bind (iR b k) (fun t => LeO.refl _)) k a0 xs 0 []) (fun r => LeO.refl _))) (LeO.refl _)
set_option maxHeartbeats 2000000 in
theorem nh (k : Nat) (i b : Int) (tt : ByteArray) (h : dw k b = some tt) (w : World) : Calls Tryd.prog 22 #[.int .i64 i, .int .u8 b] w fun e w' => e = .returned (.tuple #[.string tt, .bool true]) ∧ Below w.heap.size w w' := by
  go_enter Tryd.func22, Tryd.ntmps22
  go_wp2_with (go_at_call 23; refine (jV k b tt _ h).mono ?_; rintro e w' ⟨rfl, hb⟩)
  go_ret2
  exact ⟨rfl, hb⟩
set_option maxHeartbeats 2000000 in
theorem jt (k : Nat) (a0 : ByteArray) (r : ByteArray) (w : World) (h : dr k a0 = some r) :
    Calls Tryd.prog 12 #[.string a0] w fun e w' => e = .returned (.string r) ∧ Below w.heap.size w w' := by
 unfold dr at h
 by_cases hs : a0.size ≤ 1000000
 · rw [if_pos hs] at h
   obtain ⟨xs, hx, h⟩ := Option.bind_eq_some_iff.1 h
   obtain ⟨o, ho, h⟩ := Option.bind_eq_some_iff.1 h
   obtain rfl := Option.some.inj h
   go_enter Tryd.func12, Tryd.ntmps12
   go_wp2_with (go_at_call 21; refine (ng 22 #[] (fz k) k a0 hs xs hx o ho _ (enters_of Tryd.func22 (by kernel_rfl) rfl) (fun i b tt r W h0 h1 hT _ => by obtain ⟨t, ht, hT⟩ := Option.bind_eq_some_iff.1 hT; obtain ⟨rfl, rfl⟩ := Prod.mk.inj (Option.some.inj hT); exact nh k i b t ht W)).mono ?_; rintro e w2 ⟨rfl, hb2⟩)
   go_ret
   exact ⟨rfl, hb2⟩
 · rw [if_neg hs] at h; cases h
def ci (k : Nat) (Ac : ByteArray) (Ad : ByteArray) (Ae : ByteArray) (Af : ByteArray) (Ag : ByteArray) (Ah : Bool) (Ai : Bool) (Aj : Bool) : Option (ByteArray) := (eZ Ac).bind fun Aa => (if 4 + Aa.size ≤ 9223372036854775807 then (if ((⟨#[117, 114, 110, 58]⟩ : ByteArray) ++ Aa).size + 1 ≤ 9223372036854775807 then ((dr k Ad).bind fun Ab => (if (((⟨#[117, 114, 110, 58]⟩ : ByteArray) ++ Aa) ++ (⟨#[58]⟩ : ByteArray)).size + Ab.size ≤ 9223372036854775807 then (some ((((⟨#[117, 114, 110, 58]⟩ : ByteArray) ++ Aa) ++ (⟨#[58]⟩ : ByteArray)) ++ Ab)) else (none))) else (none)) else (none))
theorem jK : ∀ a0 a1 a2 a3 a4 a5 a6 a7 k, LeO (ci k a0 a1 a2 a3 a4 a5 a6 a7) (ci (k + 1) a0 a1 a2 a3 a4 a5 a6 a7) := by
  intro a0 a1 a2 a3 a4 a5 a6 a7 k
  have m0 := @jF
  unfold ci
  exact xmo
theorem fw (k : Nat) (Ac : ByteArray) (Ad : ByteArray) (Ae : ByteArray) (Af : ByteArray) (Ag : ByteArray) (Ah : Bool) (Ai : Bool) (Aj : Bool) (r : ByteArray) (w : World) (h : ci k Ac Ad Ae Af Ag Ah Ai Aj = some r) :
    Calls Tryd.prog 7 #[.agg #[.string Ac, .string Ad, .string Ae, .string Af, .string Ag, .bool Ah, .bool Ai, .bool Aj]] w fun e w' => e = .returned (.string r) ∧ Below w.heap.size w w' := by
 have hu23 := Tryd.underlying23
 have HB := Zz.mk (Below.refl w.heap.size w)
 have H := h
 clear h
 unfold ci at H
 replace H := xbd H
 obtain ⟨Ab, A2, H⟩ := H
 try dsimp only at H
 refine xin H ?_; clear H; intro c3 H
 obtain ⟨An, Ao⟩ := xcp c3
 try have Ap : (9223372036854775807 < 4 + Ab.size) = False := eq_false (Nat.not_lt.2 c3)
 refine xin H ?_; clear H; intro c4 H
 obtain ⟨Aq, Ar⟩ := xcp c4
 try have As : (9223372036854775807 < ((⟨#[117, 114, 110, 58]⟩ : ByteArray) ++ Ab).size + 1) = False := eq_false (Nat.not_lt.2 c4)
 try have At : (9223372036854775807 < 4 + Ab.size + 1) = False := eq_false (Nat.not_lt.2 (by have h_ := c4; simp only [ByteArray.size_append] at h_; exact h_))
 replace H := xbd H
 obtain ⟨Al, A5, H⟩ := H
 try dsimp only at H
 refine xin H ?_; clear H; intro c6 H
 obtain ⟨Au, Av⟩ := xcp c6
 try have Aw : (9223372036854775807 < (((⟨#[117, 114, 110, 58]⟩ : ByteArray) ++ Ab) ++ (⟨#[58]⟩ : ByteArray)).size + Al.size) = False := eq_false (Nat.not_lt.2 c6)
 try have Ax : (9223372036854775807 < 4 + Ab.size + 1 + Al.size) = False := eq_false (Nat.not_lt.2 (by have h_ := c6; simp only [ByteArray.size_append] at h_; exact h_))
 obtain rfl := Option.some.inj H
 go_enter Tryd.func7, Tryd.ntmps7
 try go_wp2_with (first | ((with_reducible refine af (N := 1) rfl ?_); refine xew 1 ?_; intro Ak w7 Aa Am hb hg; replace HB := xst hb; clear hb hg))
 replace Aa := Zz.mk (bg Aa.out)
 replace HB := Zz.mk (aw HB.out)
 refine xsr 10 [] (xs8 Aa.out) (fun hHeld => ?_)
 generalize w7.drew = w8 at Aa HB hHeld ⊢
 refine xpu 0 3 ?_
 refine xpu 5 8 ?_
 refine xtk 1 4 ?_
 refine xtk 6 9 ?_
 refine xon 2 5 Tryd.func11 (jI (w := _) (h := A2.out)) ?_
 rintro w9 hb
 replace Aa := xbb (g := Ak) (o := .cells #[.string Ac, .string Ad, .string Ae, .string Af, .string Ag, .bool Ah, .bool Ai, .bool Aj] 23 (0, 0)) hb
 replace HB := xst hb
 (try clear hb)
 refine ⟨xs8 Aa.out, fun hHeld => ?_⟩
 refine xpu 3 6 ?_
 refine xpu 4 7 ?_
 refine xon 7 10 Tryd.func12 (jt (w := _) (h := A5.out)) ?_
 rintro w10 hb
 replace Aa := xbb (g := Ak) (o := .cells #[.string Ac, .string Ad, .string Ae, .string Af, .string Ag, .bool Ah, .bool Ai, .bool Aj] 23 (0, 0)) hb
 replace HB := xst hb
 (try clear hb)
 refine ⟨xs8 Aa.out, fun hHeld => ?_⟩
 refine xpu 8 11 ?_
 refine xpu 9 2 ?_
 refine xdn ?_
 try go_wp2
 go_ret
 exact ⟨xre, xbl⟩
theorem oh (d : Nat) (w : World) (x0 y0 : ByteArray) (x1 y1 : ByteArray) (x2 y2 : ByteArray) (x3 y3 : ByteArray) (x4 y4 : ByteArray) (x5 y5 : Bool) (x6 y6 : Bool) (x7 y7 : Bool) :
    (Op.equalIn (d + 2) 23 (.agg #[.string x0, .string x1, .string x2, .string x3, .string x4, .bool x5, .bool x6, .bool x7]) (.agg #[.string y0, .string y1, .string y2, .string y3, .string y4, .bool y5, .bool y6, .bool y7])).run Tryd.prog w = .ok (x0.toList == y0.toList && (x1.toList == y1.toList && (x2.toList == y2.toList && (x3.toList == y3.toList && (x4.toList == y4.toList && (x5 == y5 && (x6 == y6 && (x7 == y7)))))))) w := by
  refine nT Tryd.underlying23 (by kernel_rfl) ?_
  refine fX (by rfl) (by go_simp; rfl) (by go_simp; rfl) (by go_simp) ?_
  refine fX (by rfl) (by go_simp; rfl) (by go_simp; rfl) (by go_simp) ?_
  refine fX (by rfl) (by go_simp; rfl) (by go_simp; rfl) (by go_simp) ?_
  refine fX (by rfl) (by go_simp; rfl) (by go_simp; rfl) (by go_simp) ?_
  refine fX (by rfl) (by go_simp; rfl) (by go_simp; rfl) (by go_simp) ?_
  refine fX (by rfl) (by go_simp; rfl) (by go_simp; rfl) (by go_simp) ?_
  refine fX (by rfl) (by go_simp; rfl) (by go_simp; rfl) (by go_simp) ?_
  exact nc (by rfl) (by go_simp; rfl) (by go_simp; rfl) (by go_simp)
attribute [local go_sem high] oh
def fG (k : Nat) (a0 : ByteArray) (a1 : ByteArray) : Option (Bool × Int) := (dU k a0).bind fun Aa => (if Aa.2.2.2.2.2.2.2.2 = 0 then ((dU k a1).bind fun Ab => (if Ab.2.2.2.2.2.2.2.2 = 0 then ((ci k Aa.1 Aa.2.1 Aa.2.2.1 Aa.2.2.2.1 Aa.2.2.2.2.1 Aa.2.2.2.2.2.1 Aa.2.2.2.2.2.2.1 Aa.2.2.2.2.2.2.2.1).bind fun Ac => ((ci k Ab.1 Ab.2.1 Ab.2.2.1 Ab.2.2.2.1 Ab.2.2.2.2.1 Ab.2.2.2.2.2.1 Ab.2.2.2.2.2.2.1 Ab.2.2.2.2.2.2.2.1).bind fun Ad => (some ((Ac.toList == Ad.toList), 0)))) else (some (false, Ab.2.2.2.2.2.2.2.2)))) else (some (false, Aa.2.2.2.2.2.2.2.2)))
theorem kG : ∀ a0 a1 k, LeO (fG k a0 a1) (fG (k + 1) a0 a1) := by
  intro a0 a1 k
  have m0 := @jK; have m1 := @i4
  unfold fG
  exact xmo
theorem fF (k : Nat) (a0 : ByteArray) (a1 : ByteArray) (r1 : Bool) (r2 : Int) (w : World) (hG : GW w) (h : fG k a0 a1 = some (r1, r2)) :
    Calls Tryd.prog 10 #[.string a0, .string a1] w fun e w' => e = .returned (.tuple #[.bool r1, .int .i64 r2]) ∧ Below w.heap.size w w' := by
 have hu23 := Tryd.underlying23
 have HB := Zz.mk (Below.refl w.heap.size w)
 have H := h
 clear h
 unfold fG at H
 replace H := xbd H
 obtain ⟨⟨Ao, Ap, Aq, Ar, As, At, Au, Av, AG⟩, A3, H⟩ := H
 try dsimp only at H
 refine xid H ?_ ?_ <;> clear H <;> intro c4 H
 {
 obtain ⟨Ay, Az⟩ := xqe c4
 clear c4
 replace H := xbd H
 obtain ⟨⟨Ag, Ah, Ai, Aj, Ak, Al, Am, An, AH⟩, A5, H⟩ := H
 try dsimp only at H
 refine xid H ?_ ?_ <;> clear H <;> intro c6 H
 {
 obtain ⟨AA, AB⟩ := xqe c6
 clear c6
 replace H := xbd H
 obtain ⟨AI, A7, H⟩ := H
 try dsimp only at H
 replace H := xbd H
 obtain ⟨AJ, A8, H⟩ := H
 try dsimp only at H
 simp only [Option.some.injEq, Prod.mk.injEq] at H
 obtain ⟨rfl, rfl⟩ := H
 go_enter Tryd.func10, Tryd.ntmps10
 try go_wp2_with (first | ((with_reducible refine xgc (f := 9) rfl ?_); refine xca 11 Tryd.func9 (co (w := _) (hG := xG) (h := A3.out)) ?_; rintro w9 hb; replace HB := xst hb; (try clear hb)) | ((with_reducible refine af (N := 6) rfl ?_); refine xew 6 ?_; intro Ad w10 Ab Aw hb hg; replace HB := xst hb; clear hb hg; have AK := xz8 Ab.out) | ((with_reducible refine xgc (f := 9) rfl ?_); refine xca 19 Tryd.func9 (co (w := _) (hG := xG) (h := A5.out)) ?_; rintro w12 hb; replace Ab := xbb (g := Ad) (o := .cells #[.string Ao, .string Ap, .string Aq, .string Ar, .string As, .bool At, .bool Au, .bool Av] 23 (0, 0)) hb; replace HB := xst hb; (try clear hb)) | ((with_reducible refine af (N := 8) rfl ?_); refine xew 8 ?_; intro Aa w13 Ac Ax hb hg; have Ae := xlt (g := Ad) hg; have Af := xgt (g := Ad) hg; replace Ab := xbq Ad hb; replace HB := xst hb; clear hb hg; have AC := Af.out; have AD := Ae.out; have AL := xz8 Ac.out))
 have n0_ : Zz (((((((((w13.setCell ⟨Aa, 0, none⟩ (.string Ag)).setCell ⟨Aa, 1, none⟩ (.string Ah)).setCell ⟨Aa, 2, none⟩ (.string Ai)).setCell ⟨Aa, 3, none⟩ (.string Aj)).setCell ⟨Aa, 4, none⟩ (.string Ak)).setCell ⟨Aa, 5, none⟩ (.bool Al)).setCell ⟨Aa, 6, none⟩ (.bool Am)).setCell ⟨Aa, 7, none⟩ (.bool An)).heap[Ad]? = some (.cells #[.string Ao, .string Ap, .string Aq, .string Ar, .string As, .bool At, .bool Au, .bool Av] 23 (0, 0))) := ⟨xbK⟩
 have n1_ : Zz (((((((((w13.setCell ⟨Aa, 0, none⟩ (.string Ag)).setCell ⟨Aa, 1, none⟩ (.string Ah)).setCell ⟨Aa, 2, none⟩ (.string Ai)).setCell ⟨Aa, 3, none⟩ (.string Aj)).setCell ⟨Aa, 4, none⟩ (.string Ak)).setCell ⟨Aa, 5, none⟩ (.bool Al)).setCell ⟨Aa, 6, none⟩ (.bool Am)).setCell ⟨Aa, 7, none⟩ (.bool An)).heap[Aa]? = some (.cells #[.string Ag, .string Ah, .string Ai, .string Aj, .string Ak, .bool Al, .bool Am, .bool An] 23 (0, 0))) := ⟨xbK⟩
 have n2_ : Zz (Below w.heap.size w ((((((((w13.setCell ⟨Aa, 0, none⟩ (.string Ag)).setCell ⟨Aa, 1, none⟩ (.string Ah)).setCell ⟨Aa, 2, none⟩ (.string Ai)).setCell ⟨Aa, 3, none⟩ (.string Aj)).setCell ⟨Aa, 4, none⟩ (.string Ak)).setCell ⟨Aa, 5, none⟩ (.bool Al)).setCell ⟨Aa, 6, none⟩ (.bool Am)).setCell ⟨Aa, 7, none⟩ (.bool An))) := ⟨xbl⟩
 (try clear Ab)
 (try clear Ac)
 (try clear HB)
 try simp only [show ∀ (w_ : World) (n_ : Nat) (a_ : Addr) (v_ : Value), (w_.drewN n_).setCell a_ v_ = (w_.setCell a_ v_).drewN n_ from fun _ _ _ _ => rfl]
 generalize ((((((((w13.setCell ⟨Aa, 0, none⟩ (.string Ag)).setCell ⟨Aa, 1, none⟩ (.string Ah)).setCell ⟨Aa, 2, none⟩ (.string Ai)).setCell ⟨Aa, 3, none⟩ (.string Aj)).setCell ⟨Aa, 4, none⟩ (.string Ak)).setCell ⟨Aa, 5, none⟩ (.bool Al)).setCell ⟨Aa, 6, none⟩ (.bool Am)).setCell ⟨Aa, 7, none⟩ (.bool An)) = w16 at n0_ n1_ n2_ ⊢
 have Ab := n0_
 have Ac := n1_
 have HB := n2_
 clear n0_ n1_ n2_
 replace Ab := Zz.mk (bg Ab.out)
 replace Ac := Zz.mk (bg Ac.out)
 replace HB := Zz.mk (aw HB.out)
 refine kc (n := 7) (S := fun w' => w'.cell? ⟨Ad, 0, none⟩ = some (.string Ao) ∧ w'.cell? ⟨Ad, 1, none⟩ = some (.string Ap) ∧ w'.cell? ⟨Ad, 2, none⟩ = some (.string Aq) ∧ w'.cell? ⟨Ad, 3, none⟩ = some (.string Ar) ∧ w'.cell? ⟨Ad, 4, none⟩ = some (.string As) ∧ w'.cell? ⟨Ad, 5, none⟩ = some (.bool At) ∧ w'.cell? ⟨Ad, 6, none⟩ = some (.bool Au) ∧ w'.cell? ⟨Ad, 7, none⟩ = some (.bool Av) ∧ w'.cell? ⟨Aa, 0, none⟩ = some (.string Ag) ∧ w'.cell? ⟨Aa, 1, none⟩ = some (.string Ah) ∧ w'.cell? ⟨Aa, 2, none⟩ = some (.string Ai) ∧ w'.cell? ⟨Aa, 3, none⟩ = some (.string Aj) ∧ w'.cell? ⟨Aa, 4, none⟩ = some (.string Ak) ∧ w'.cell? ⟨Aa, 5, none⟩ = some (.bool Al) ∧ w'.cell? ⟨Aa, 6, none⟩ = some (.bool Am) ∧ w'.cell? ⟨Aa, 7, none⟩ = some (.bool An)) (ds := []) #[false, false, false, false, false, false, false] (by kernel_rfl) rfl rfl ⟨(ab Ab.out 0).trans rfl, (ab Ab.out 1).trans rfl, (ab Ab.out 2).trans rfl, (ab Ab.out 3).trans rfl, (ab Ab.out 4).trans rfl, (ab Ab.out 5).trans rfl, (ab Ab.out 6).trans rfl, (ab Ab.out 7).trans rfl, (ab Ac.out 0).trans rfl, (ab Ac.out 1).trans rfl, (ab Ac.out 2).trans rfl, (ab Ac.out 3).trans rfl, (ab Ac.out 4).trans rfl, (ab Ac.out 5).trans rfl, (ab Ac.out 6).trans rfl, (ab Ac.out 7).trans rfl⟩ (fun hHeld => ?_)
 generalize w16.drew = w17 at Ab Ac HB hHeld ⊢
 refine take_ (i := 0) (N := some 25) (v := ?_) (a' := ?_) #[true, false, false, false, false, false, false] rfl rfl (by kernel_rfl) (fun _ _ _ h => h) (Or.inl ⟨by rfl, ?_⟩) hHeld ?_ ?_
 rotate_left
 {
 rintro w' ⟨s0, s1, s2, s3, s4, s5, s6, s7, s8, s9, s10, s11, s12, s13, s14, s15⟩
 go_simp
 with_reducible rfl
 }
 rotate_left
 {
 simp only [Act.put, xl1, xl2, xl3, an, au]
 rfl
 }
 refine take_ (i := 2) (N := some 27) (v := ?_) (a' := ?_) #[true, false, true, false, false, false, false] rfl rfl (by kernel_rfl) (fun _ _ _ h => h) (Or.inl ⟨by rfl, ?_⟩) hHeld ?_ ?_
 rotate_left
 {
 rintro w' ⟨s0, s1, s2, s3, s4, s5, s6, s7, s8, s9, s10, s11, s12, s13, s14, s15⟩
 go_simp
 with_reducible rfl
 }
 rotate_left
 {
 simp only [Act.put, xl1, xl2, xl3, an, au]
 rfl
 }
 refine fv (i := 1) (N := some 26) #[true, true, true, false, false, false, false] rfl rfl (by kernel_rfl) (by decide) (fun K hK => ?_)
 refine jD Tryd.func7 (by kernel_rfl) rfl #[.agg #[.string Ao, .string Ap, .string Aq, .string Ar, .string As, .bool At, .bool Au, .bool Av]] (by rfl) rfl rfl (by (try simp only [List.map_toArray, List.map_cons, List.map_nil]); first | done | rfl | (simp only [List.length_drop, List.length_take]; rfl)) ?_
 (with_reducible refine (fw (w := _) (h := A7.out)).mono ?_)
 rintro e w18 ⟨rfl, hb⟩
 refine ⟨_, rfl, ?_⟩
 have n0_ := xbb (g := Ad) (o := .cells #[.string Ao, .string Ap, .string Aq, .string Ar, .string As, .bool At, .bool Au, .bool Av] 23 (0, 0)) hb
 have n1_ := xbb (g := Aa) (o := .cells #[.string Ag, .string Ah, .string Ai, .string Aj, .string Ak, .bool Al, .bool Am, .bool An] 23 (0, 0)) hb
 have n2_ := xst hb
 clear Ab
 clear Ac
 clear HB
 have Ab := n0_
 have Ac := n1_
 have HB := n2_
 clear n0_ n1_ n2_
 (try clear hb)
 refine hK.out _ _ ⟨(ab Ab.out 0).trans rfl, (ab Ab.out 1).trans rfl, (ab Ab.out 2).trans rfl, (ab Ab.out 3).trans rfl, (ab Ab.out 4).trans rfl, (ab Ab.out 5).trans rfl, (ab Ab.out 6).trans rfl, (ab Ab.out 7).trans rfl, (ab Ac.out 0).trans rfl, (ab Ac.out 1).trans rfl, (ab Ac.out 2).trans rfl, (ab Ac.out 3).trans rfl, (ab Ac.out 4).trans rfl, (ab Ac.out 5).trans rfl, (ab Ac.out 6).trans rfl, (ab Ac.out 7).trans rfl⟩ (fun hHeld => ?_)
 clear hK K
 refine eR (a' := ?_) ?_ ?_
 rotate_left
 {
 show Act.put _ (some 26) _ = _
 simp only [Act.put, xl1, xl2, xl3, an, au]
 rfl
 }
 refine fv (i := 3) (N := some 28) #[true, true, true, true, false, false, false] rfl rfl (by kernel_rfl) (by decide) (fun K hK => ?_)
 refine jD Tryd.func7 (by kernel_rfl) rfl #[.agg #[.string Ag, .string Ah, .string Ai, .string Aj, .string Ak, .bool Al, .bool Am, .bool An]] (by rfl) rfl rfl (by (try simp only [List.map_toArray, List.map_cons, List.map_nil]); first | done | rfl | (simp only [List.length_drop, List.length_take]; rfl)) ?_
 (with_reducible refine (fw (w := _) (h := A8.out)).mono ?_)
 rintro e w19 ⟨rfl, hb⟩
 refine ⟨_, rfl, ?_⟩
 have n0_ := xbb (g := Ad) (o := .cells #[.string Ao, .string Ap, .string Aq, .string Ar, .string As, .bool At, .bool Au, .bool Av] 23 (0, 0)) hb
 have n1_ := xbb (g := Aa) (o := .cells #[.string Ag, .string Ah, .string Ai, .string Aj, .string Ak, .bool Al, .bool Am, .bool An] 23 (0, 0)) hb
 have n2_ := xst hb
 clear Ab
 clear Ac
 clear HB
 have Ab := n0_
 have Ac := n1_
 have HB := n2_
 clear n0_ n1_ n2_
 (try clear hb)
 refine hK.out _ _ ⟨(ab Ab.out 0).trans rfl, (ab Ab.out 1).trans rfl, (ab Ab.out 2).trans rfl, (ab Ab.out 3).trans rfl, (ab Ab.out 4).trans rfl, (ab Ab.out 5).trans rfl, (ab Ab.out 6).trans rfl, (ab Ab.out 7).trans rfl, (ab Ac.out 0).trans rfl, (ab Ac.out 1).trans rfl, (ab Ac.out 2).trans rfl, (ab Ac.out 3).trans rfl, (ab Ac.out 4).trans rfl, (ab Ac.out 5).trans rfl, (ab Ac.out 6).trans rfl, (ab Ac.out 7).trans rfl⟩ (fun hHeld => ?_)
 clear hK K
 refine eR (a' := ?_) ?_ ?_
 rotate_left
 {
 show Act.put _ (some 28) _ = _
 simp only [Act.put, xl1, xl2, xl3, an, au]
 rfl
 }
 refine fD (i := 4) (N := some 29) (v := ?_) (a' := ?_) #[true, true, true, true, true, false, false] rfl rfl (by kernel_rfl) (fun _ _ _ h => h) (Or.inl ⟨by rfl, ?_⟩) ?_ ?_
 rotate_left
 {
 intro w'
 go_simp
 with_reducible rfl
 }
 rotate_left
 {
 simp only [Act.put, xl1, xl2, xl3, an, au]
 rfl
 }
 refine fD (i := 5) (N := some 4) (v := ?_) (a' := ?_) #[true, true, true, true, true, true, false] rfl rfl (by kernel_rfl) (fun _ _ _ h => h) (Or.inl ⟨by rfl, ?_⟩) ?_ ?_
 rotate_left
 {
 intro w'
 go_simp
 with_reducible rfl
 }
 rotate_left
 {
 simp only [Act.put, xl1, xl2, xl3, an, au]
 rfl
 }
 refine fD (i := 6) (N := some 5) (v := ?_) (a' := ?_) #[true, true, true, true, true, true, true] rfl rfl (by kernel_rfl) (fun _ _ _ h => h) (Or.inl ⟨by rfl, ?_⟩) ?_ ?_
 rotate_left
 {
 intro w'
 go_simp
 with_reducible rfl
 }
 rotate_left
 {
 simp only [Act.put, xl1, xl2, xl3, an, au]
 rfl
 }
 refine kJ (by kernel_rfl) ?_
 try go_wp2
 go_ret2
 exact ⟨xre, xbl⟩
 }
 obtain ⟨AA, AB⟩ := xqn c6
 simp only [Option.some.injEq, Prod.mk.injEq] at H
 obtain ⟨rfl, rfl⟩ := H
 go_enter Tryd.func10, Tryd.ntmps10
 go_wp2_with (first | ((with_reducible refine xgc (f := 9) rfl ?_); refine xca 11 Tryd.func9 (co (w := _) (hG := xG) (h := A3.out)) ?_; rintro w20 hb; replace HB := xst hb; (try clear hb)) | ((with_reducible refine af (N := 6) rfl ?_); refine xew 6 ?_; intro Ad w21 Ab Aw hb hg; replace HB := xst hb; clear hb hg; have AM := xz8 Ab.out) | ((with_reducible refine xgc (f := 9) rfl ?_); refine xca 19 Tryd.func9 (co (w := _) (hG := xG) (h := A5.out)) ?_; rintro w23 hb; replace Ab := xbb (g := Ad) (o := .cells #[.string Ao, .string Ap, .string Aq, .string Ar, .string As, .bool At, .bool Au, .bool Av] 23 (0, 0)) hb; replace HB := xst hb; (try clear hb)) | ((with_reducible refine af (N := 8) rfl ?_); refine xew 8 ?_; intro Aa w24 Ac Ax hb hg; have Ae := xlt (g := Ad) hg; have Af := xgt (g := Ad) hg; replace Ab := xbq Ad hb; replace HB := xst hb; clear hb hg; have AE := Af.out; have AF := Ae.out; have AN := xz8 Ac.out))
 go_ret2
 exact ⟨xre, xbl⟩
 }
 obtain ⟨Ay, Az⟩ := xqn c4
 simp only [Option.some.injEq, Prod.mk.injEq] at H
 obtain ⟨rfl, rfl⟩ := H
 go_enter Tryd.func10, Tryd.ntmps10
 go_wp2_with (first | ((with_reducible refine xgc (f := 9) rfl ?_); refine xca 11 Tryd.func9 (co (w := _) (hG := xG) (h := A3.out)) ?_; rintro w27 hb; replace HB := xst hb; (try clear hb)) | ((with_reducible refine af (N := 6) rfl ?_); refine xew 6 ?_; intro Ad w28 Ab Aw hb hg; replace HB := xst hb; clear hb hg; have AO := xz8 Ab.out))
 go_ret2
 exact ⟨xre, xbl⟩
def bG (k : Nat)  : Option (Bool) := (dU k (⟨#[85, 82, 78, 58, 69, 120, 97, 109, 112, 108, 101, 58, 97, 37, 51, 65, 63, 43, 114, 63, 61, 113, 35, 102]⟩ : ByteArray)).bind fun Aa => ((fG k (⟨#[85, 82, 78, 58, 69, 120, 97, 109, 112, 108, 101, 58, 97, 37, 51, 65, 63, 43, 114, 63, 61, 113, 35, 102]⟩ : ByteArray) (⟨#[117, 114, 110, 58, 101, 120, 97, 109, 112, 108, 101, 58, 97, 37, 51, 97]⟩ : ByteArray)).bind fun Ab => (if Aa.2.2.2.2.2.2.2.2 = 0 then (if (Aa.1.toList == ([69, 120, 97, 109, 112, 108, 101] : List UInt8) && (Aa.2.1.toList == ([97, 37, 51, 65] : List UInt8) && (Aa.2.2.1.toList == ([114] : List UInt8) && (Aa.2.2.2.1.toList == ([113] : List UInt8) && (Aa.2.2.2.2.1.toList == ([102] : List UInt8) && (Aa.2.2.2.2.2.1 && (Aa.2.2.2.2.2.2.1 && (Aa.2.2.2.2.2.2.2.1)))))))) = true then (if Ab.1 = true then (some (Ab.2 == 0)) else (some false)) else (some false)) else (some false)))
theorem ir : ∀ k, LeO (bG k ) (bG (k + 1) ) := by
  intro  k
  have m0 := @i4; have m1 := @kG
  unfold bG
  exact xmo
theorem ft (k : Nat)  (r : Bool) (w : World) (hG : GW w) (h : bG k  = some r) :
    Calls Tryd.prog 4 #[] w fun e w' => e = .returned (.bool r) ∧ Below w.heap.size w w' := by
 have hu23 := Tryd.underlying23
 have HB := Zz.mk (Below.refl w.heap.size w)
 have H := h
 clear h
 unfold bG at H
 replace H := xbd H
 obtain ⟨⟨Ab, Ac, Ad, Ae, Af, Ag, Ah, Ai, Aq⟩, A1, H⟩ := H
 try dsimp only at H
 replace H := xbd H
 obtain ⟨⟨Ar, As⟩, A2, H⟩ := H
 try dsimp only at H
 refine xid H ?_ ?_ <;> clear H <;> intro c3 H
 {
 obtain ⟨Al, Am⟩ := xqe c3
 clear c3
 refine xid H ?_ ?_ <;> clear H <;> intro c4 H
 {
 have An : (Ab.toList == ([69, 120, 97, 109, 112, 108, 101] : List UInt8) && (Ac.toList == ([97, 37, 51, 65] : List UInt8) && (Ad.toList == ([114] : List UInt8) && (Ae.toList == ([113] : List UInt8) && (Af.toList == ([102] : List UInt8) && (Ag && (Ah && (Ai)))))))) = true := c4
 (try (have Ao : decide (Ab.toList = ([69, 120, 97, 109, 112, 108, 101] : List UInt8) && (Ac.toList == ([97, 37, 51, 65] : List UInt8) && (Ad.toList == ([114] : List UInt8) && (Ae.toList == ([113] : List UInt8) && (Af.toList == ([102] : List UInt8) && (Ag && (Ah && (Ai)))))))) = true := by simpa using c4))
 (try (have Ap : (Ab.toList == ([69, 120, 97, 109, 112, 108, 101] : List UInt8) && (Ac.toList == ([97, 37, 51, 65] : List UInt8) && (Ad.toList == ([114] : List UInt8) && (Ae.toList == ([113] : List UInt8) && (Af.toList == ([102] : List UInt8) && (Ag && (Ah && (Ai)))))))) = true := by simpa using c4))
 clear c4
 refine xib H ?_ ?_ <;> clear H <;> rintro rfl H
 {
 obtain rfl := Option.some.inj H
 go_enter Tryd.func4, Tryd.ntmps4
 go_wp2_with (first | ((with_reducible refine xgc (f := 9) rfl ?_); refine xca 6 Tryd.func9 (co (w := _) (hG := xG) (h := A1.out)) ?_; rintro w6 hb; replace HB := xst hb; (try clear hb)) | ((with_reducible refine af (N := 1) rfl ?_); refine xew 1 ?_; intro Aj w7 Aa Ak hb hg; replace HB := xst hb; clear hb hg; have AA := xz8 Aa.out) | ((with_reducible refine xgc (f := 10) rfl ?_); refine xca 10 Tryd.func10 (fF (w := _) (hG := xG) (h := A2.out)) ?_; rintro w9 hb; replace Aa := xbb (g := Aj) (o := .cells #[.string Ab, .string Ac, .string Ad, .string Ae, .string Af, .bool Ag, .bool Ah, .bool Ai] 23 (0, 0)) hb; replace HB := xst hb; (try clear hb); have At := xz8 Aa.out))
 go_ret
 exact ⟨xre, xbl⟩
 }
 obtain rfl := Option.some.inj H
 go_enter Tryd.func4, Tryd.ntmps4
 go_wp2_with (first | ((with_reducible refine xgc (f := 9) rfl ?_); refine xca 6 Tryd.func9 (co (w := _) (hG := xG) (h := A1.out)) ?_; rintro w11 hb; replace HB := xst hb; (try clear hb)) | ((with_reducible refine af (N := 1) rfl ?_); refine xew 1 ?_; intro Aj w12 Aa Ak hb hg; replace HB := xst hb; clear hb hg; have Au := xz8 Aa.out) | ((with_reducible refine xgc (f := 10) rfl ?_); refine xca 10 Tryd.func10 (fF (w := _) (hG := xG) (h := A2.out)) ?_; rintro w14 hb; replace Aa := xbb (g := Aj) (o := .cells #[.string Ab, .string Ac, .string Ad, .string Ae, .string Af, .bool Ag, .bool Ah, .bool Ai] 23 (0, 0)) hb; replace HB := xst hb; (try clear hb); have Av := xz8 Aa.out))
 go_ret
 exact ⟨xre, xbl⟩
 }
 have An : (Ab.toList == ([69, 120, 97, 109, 112, 108, 101] : List UInt8) && (Ac.toList == ([97, 37, 51, 65] : List UInt8) && (Ad.toList == ([114] : List UInt8) && (Ae.toList == ([113] : List UInt8) && (Af.toList == ([102] : List UInt8) && (Ag && (Ah && (Ai)))))))) = false := by simpa using c4
 (try (have Ao : decide (Ab.toList = ([69, 120, 97, 109, 112, 108, 101] : List UInt8) && (Ac.toList == ([97, 37, 51, 65] : List UInt8) && (Ad.toList == ([114] : List UInt8) && (Ae.toList == ([113] : List UInt8) && (Af.toList == ([102] : List UInt8) && (Ag && (Ah && (Ai)))))))) = false := by simpa using c4))
 (try (have Ap : (Ab.toList == ([69, 120, 97, 109, 112, 108, 101] : List UInt8) && (Ac.toList == ([97, 37, 51, 65] : List UInt8) && (Ad.toList == ([114] : List UInt8) && (Ae.toList == ([113] : List UInt8) && (Af.toList == ([102] : List UInt8) && (Ag && (Ah && (Ai)))))))) = false := by simpa using c4))
 (try (have Aw : ¬ (Ab.toList = ([69, 120, 97, 109, 112, 108, 101] : List UInt8) && (Ac.toList == ([97, 37, 51, 65] : List UInt8) && (Ad.toList == ([114] : List UInt8) && (Ae.toList == ([113] : List UInt8) && (Af.toList == ([102] : List UInt8) && (Ag && (Ah && (Ai)))))))) := by simpa using c4))
 clear c4
 obtain rfl := Option.some.inj H
 go_enter Tryd.func4, Tryd.ntmps4
 go_wp2_with (first | ((with_reducible refine xgc (f := 9) rfl ?_); refine xca 6 Tryd.func9 (co (w := _) (hG := xG) (h := A1.out)) ?_; rintro w16 hb; replace HB := xst hb; (try clear hb)) | ((with_reducible refine af (N := 1) rfl ?_); refine xew 1 ?_; intro Aj w17 Aa Ak hb hg; replace HB := xst hb; clear hb hg; have Ax := xz8 Aa.out) | ((with_reducible refine xgc (f := 10) rfl ?_); refine xca 10 Tryd.func10 (fF (w := _) (hG := xG) (h := A2.out)) ?_; rintro w19 hb; replace Aa := xbb (g := Aj) (o := .cells #[.string Ab, .string Ac, .string Ad, .string Ae, .string Af, .bool Ag, .bool Ah, .bool Ai] 23 (0, 0)) hb; replace HB := xst hb; (try clear hb); have Ay := xz8 Aa.out))
 go_ret
 exact ⟨xre, xbl⟩
 }
 obtain ⟨Al, Am⟩ := xqn c3
 obtain rfl := Option.some.inj H
 go_enter Tryd.func4, Tryd.ntmps4
 go_wp2_with (first | ((with_reducible refine xgc (f := 9) rfl ?_); refine xca 6 Tryd.func9 (co (w := _) (hG := xG) (h := A1.out)) ?_; rintro w21 hb; replace HB := xst hb; (try clear hb)) | ((with_reducible refine af (N := 1) rfl ?_); refine xew 1 ?_; intro Aj w22 Aa Ak hb hg; replace HB := xst hb; clear hb hg; have Az := xz8 Aa.out) | ((with_reducible refine xgc (f := 10) rfl ?_); refine xca 10 Tryd.func10 (fF (w := _) (hG := xG) (h := A2.out)) ?_; rintro w24 hb; replace Aa := xbb (g := Aj) (o := .cells #[.string Ab, .string Ac, .string Ad, .string Ae, .string Af, .bool Ag, .bool Ah, .bool Ai] 23 (0, 0)) hb; replace HB := xst hb; (try clear hb)))
 go_ret
 exact ⟨xre, xbl⟩
def du : Nat → ByteArray → ByteArray → ByteArray → ByteArray → ByteArray → ByteArray → Bool → Bool → Bool → Option (ByteArray)
  | 0, _, _, _, _, _, _, _, _, _ => none
  | k + 1, x3, Ae, Af, Ag, Ab, Aa, Ah, Ad, Ac => if Ad = true then (if 2 + Ab.size ≤ 9223372036854775807 then (if x3.size + ((⟨#[63, 61]⟩ : ByteArray) ++ Ab).size ≤ 9223372036854775807 then (if Ac = true then (if 1 + Aa.size ≤ 9223372036854775807 then (if (x3 ++ ((⟨#[63, 61]⟩ : ByteArray) ++ Ab)).size + ((⟨#[35]⟩ : ByteArray) ++ Aa).size ≤ 9223372036854775807 then (some ((x3 ++ ((⟨#[63, 61]⟩ : ByteArray) ++ Ab)) ++ ((⟨#[35]⟩ : ByteArray) ++ Aa))) else (none)) else (none)) else (some (x3 ++ ((⟨#[63, 61]⟩ : ByteArray) ++ Ab)))) else (none)) else (none)) else (if Ac = true then (if 1 + Aa.size ≤ 9223372036854775807 then (if x3.size + ((⟨#[35]⟩ : ByteArray) ++ Aa).size ≤ 9223372036854775807 then (some (x3 ++ ((⟨#[35]⟩ : ByteArray) ++ Aa))) else (none)) else (none)) else (some x3))
def et (k : Nat) (Aa : ByteArray) (Ab : ByteArray) (Ac : ByteArray) (Ae : ByteArray) (Af : ByteArray) (Ad : Bool) (Ag : Bool) (Ah : Bool) : Option (ByteArray) := if 4 + Aa.size ≤ 9223372036854775807 then (if ((⟨#[117, 114, 110, 58]⟩ : ByteArray) ++ Aa).size + 1 ≤ 9223372036854775807 then (if (((⟨#[117, 114, 110, 58]⟩ : ByteArray) ++ Aa) ++ (⟨#[58]⟩ : ByteArray)).size + Ab.size ≤ 9223372036854775807 then (if Ad = true then (if 2 + Ac.size ≤ 9223372036854775807 then (if ((((⟨#[117, 114, 110, 58]⟩ : ByteArray) ++ Aa) ++ (⟨#[58]⟩ : ByteArray)) ++ Ab).size + ((⟨#[63, 43]⟩ : ByteArray) ++ Ac).size ≤ 9223372036854775807 then (du k (((((⟨#[117, 114, 110, 58]⟩ : ByteArray) ++ Aa) ++ (⟨#[58]⟩ : ByteArray)) ++ Ab) ++ ((⟨#[63, 43]⟩ : ByteArray) ++ Ac)) Aa Ab Ac Ae Af Ad Ag Ah) else (none)) else (none)) else (du k ((((⟨#[117, 114, 110, 58]⟩ : ByteArray) ++ Aa) ++ (⟨#[58]⟩ : ByteArray)) ++ Ab) Aa Ab Ac Ae Af Ad Ag Ah)) else (none)) else (none)) else (none)
theorem jr (k : Nat) (Aa : ByteArray) (Ac : ByteArray) (Ag : ByteArray) (Ae : ByteArray) (Ad : ByteArray) (Ah : Bool) (Ai : Bool) (Aj : Bool) (r : ByteArray) (w : World) (h : et k Aa Ac Ag Ae Ad Ah Ai Aj = some r) :
    Calls Tryd.prog 5 #[.agg #[.string Aa, .string Ac, .string Ag, .string Ae, .string Ad, .bool Ah, .bool Ai, .bool Aj]] w fun e w' => e = .returned (.string r) ∧ Below w.heap.size w w' := by
 have hu23 := Tryd.underlying23
 have HB := Zz.mk (Below.refl w.heap.size w)
 have H := h
 clear h
 unfold et at H
 refine xin H ?_; clear H; intro c2 H
 obtain ⟨Al, Am⟩ := xcp c2
 try have AS : (9223372036854775807 < 4 + Aa.size) = False := eq_false (Nat.not_lt.2 c2)
 refine xin H ?_; clear H; intro c3 H
 obtain ⟨An, Ao⟩ := xcp c3
 try have AT : (9223372036854775807 < ((⟨#[117, 114, 110, 58]⟩ : ByteArray) ++ Aa).size + 1) = False := eq_false (Nat.not_lt.2 c3)
 try have AU : (9223372036854775807 < 4 + Aa.size + 1) = False := eq_false (Nat.not_lt.2 (by have h_ := c3; simp only [ByteArray.size_append] at h_; exact h_))
 refine xin H ?_; clear H; intro c4 H
 obtain ⟨Ap, Aq⟩ := xcp c4
 try have AV : (9223372036854775807 < (((⟨#[117, 114, 110, 58]⟩ : ByteArray) ++ Aa) ++ (⟨#[58]⟩ : ByteArray)).size + Ac.size) = False := eq_false (Nat.not_lt.2 c4)
 try have AW : (9223372036854775807 < 4 + Aa.size + 1 + Ac.size) = False := eq_false (Nat.not_lt.2 (by have h_ := c4; simp only [ByteArray.size_append] at h_; exact h_))
 have Ar := Zz.mk H
 clear H
 go_enter Tryd.func5, Tryd.ntmps5
 go_upto_if 12 with (first | ((with_reducible refine af (N := 1) rfl ?_); refine xew 1 ?_; intro Ak w6 Ab As hb hg; replace HB := xst hb; clear hb hg; have A5 := xz8 Ab.out))
 (try simp only [Act.put, xl1, xl2, xl3])
 go_cut [3] (fun v3 wc => ∃ kq Af, v3 = .string Af ∧ Zz (du kq Af Aa Ac Ag Ae Ad Ah Ai Aj = some r) ∧ Zz (kq ≤ k) ∧ Zz (wc.heap[Ak]? = some (.cells #[.string Aa, .string Ac, .string Ag, .string Ae, .string Ad, .bool Ah, .bool Ai, .bool Aj] 23 (0, 0))) ∧ Zz (Below w.heap.size w wc))
 case first => (
 have H := Ar.out
 clear Ar
 refine xib H ?_ ?_ <;> clear H <;> rintro rfl H
 {
 refine xin H ?_; clear H; intro c9 H
 obtain ⟨AX, AY⟩ := xcp c9
 try have AZ : (9223372036854775807 < 2 + Ag.size) = False := eq_false (Nat.not_lt.2 c9)
 refine xin H ?_; clear H; intro c10 H
 obtain ⟨At, Au⟩ := xcp c10
 try have Av : (9223372036854775807 < ((((⟨#[117, 114, 110, 58]⟩ : ByteArray) ++ Aa) ++ (⟨#[58]⟩ : ByteArray)) ++ Ac).size + ((⟨#[63, 43]⟩ : ByteArray) ++ Ag).size) = False := eq_false (Nat.not_lt.2 c10)
 try have Aw : (9223372036854775807 < 4 + Aa.size + 1 + Ac.size + 2 + Ag.size) = False := eq_false (Nat.not_lt.2 (by have h_ := c10; simp only [ByteArray.size_append] at h_; exact h_))
 replace H := xa H
 have A0 := xz8 Ab.out
 go_wp2
 go_meet
 case rel => exact ⟨_, (((((⟨#[117, 114, 110, 58]⟩ : ByteArray) ++ Aa) ++ (⟨#[58]⟩ : ByteArray)) ++ Ac) ++ ((⟨#[63, 43]⟩ : ByteArray) ++ Ag)), xrr, H, ⟨xom⟩, ⟨xbk⟩, ⟨xbl⟩⟩
 }
 replace H := xa H
 go_wp2
 go_meet
 case rel => exact ⟨_, ((((⟨#[117, 114, 110, 58]⟩ : ByteArray) ++ Aa) ++ (⟨#[58]⟩ : ByteArray)) ++ Ac), xrr, H, ⟨xom⟩, ⟨xbk⟩, ⟨xbl⟩⟩
 )
 case rest => (
 clear Ar
 clear c2 Al Am c3 An Ao c4 Ap Aq
 obtain ⟨kq, Af, rfl, HA, HJ4, Ab, HB⟩ := hcut
 cases kq with
 | zero => exact absurd HA.out (by simp [du])
 | succ kj4 => (
 have H := HA.out
 clear HA
 simp only [du] at H
 refine xib H ?_ ?_ <;> clear H <;> rintro rfl H
 {
 refine xin H ?_; clear H; intro c13 H
 obtain ⟨Ax, Ay⟩ := xcp c13
 try have Az : (9223372036854775807 < 2 + Ae.size) = False := eq_false (Nat.not_lt.2 c13)
 refine xin H ?_; clear H; intro c14 H
 obtain ⟨AA, AB⟩ := xcp c14
 try have AC : (9223372036854775807 < Af.size + ((⟨#[63, 61]⟩ : ByteArray) ++ Ae).size) = False := eq_false (Nat.not_lt.2 c14)
 try have AD : (9223372036854775807 < Af.size + 2 + Ae.size) = False := eq_false (Nat.not_lt.2 (by have h_ := c14; simp only [ByteArray.size_append] at h_; exact h_))
 refine xib H ?_ ?_ <;> clear H <;> rintro rfl H
 {
 refine xin H ?_; clear H; intro c16 H
 obtain ⟨AE, AF⟩ := xcp c16
 try have AG : (9223372036854775807 < 1 + Ad.size) = False := eq_false (Nat.not_lt.2 c16)
 refine xin H ?_; clear H; intro c17 H
 obtain ⟨AH, AI⟩ := xcp c17
 try have AJ : (9223372036854775807 < (Af ++ ((⟨#[63, 61]⟩ : ByteArray) ++ Ae)).size + ((⟨#[35]⟩ : ByteArray) ++ Ad).size) = False := eq_false (Nat.not_lt.2 c17)
 try have AK : (9223372036854775807 < Af.size + 2 + Ae.size + 1 + Ad.size) = False := eq_false (Nat.not_lt.2 (by have h_ := c17; simp only [ByteArray.size_append] at h_; exact h_))
 obtain rfl := Option.some.inj H
 have A1 := xz8 Ab.out
 go_wp2
 go_ret
 exact ⟨xre, xbl⟩
 }
 obtain rfl := Option.some.inj H
 have A2 := xz8 Ab.out
 go_wp2
 go_ret
 exact ⟨xre, xbl⟩
 }
 refine xib H ?_ ?_ <;> clear H <;> rintro rfl H
 {
 refine xin H ?_; clear H; intro c21 H
 obtain ⟨AL, AM⟩ := xcp c21
 try have AN : (9223372036854775807 < 1 + Ad.size) = False := eq_false (Nat.not_lt.2 c21)
 refine xin H ?_; clear H; intro c22 H
 obtain ⟨AO, AP⟩ := xcp c22
 try have AQ : (9223372036854775807 < Af.size + ((⟨#[35]⟩ : ByteArray) ++ Ad).size) = False := eq_false (Nat.not_lt.2 c22)
 try have AR : (9223372036854775807 < Af.size + 1 + Ad.size) = False := eq_false (Nat.not_lt.2 (by have h_ := c22; simp only [ByteArray.size_append] at h_; exact h_))
 obtain rfl := Option.some.inj H
 have A3 := xz8 Ab.out
 go_wp2
 go_ret
 exact ⟨xre, xbl⟩
 }
 obtain rfl := Option.some.inj H
 have A4 := xz8 Ab.out
 go_wp2
 go_ret
 exact ⟨xre, xbl⟩
 )
 )
def cv : Nat → ByteArray → ByteArray → ByteArray → ByteArray → ByteArray → ByteArray → Bool → Bool → Bool → Option (ByteArray)
  | 0, _, _, _, _, _, _, _, _, _ => none
  | k + 1, x3, Ae, Af, Ag, Ab, Aa, Ah, Ad, Ac => if Ad = true then (if 2 + Ab.size ≤ 9223372036854775807 then (if x3.size + ((⟨#[63, 61]⟩ : ByteArray) ++ Ab).size ≤ 9223372036854775807 then (if Ac = true then (if 1 + Aa.size ≤ 9223372036854775807 then (if (x3 ++ ((⟨#[63, 61]⟩ : ByteArray) ++ Ab)).size + ((⟨#[35]⟩ : ByteArray) ++ Aa).size ≤ 9223372036854775807 then (some ((x3 ++ ((⟨#[63, 61]⟩ : ByteArray) ++ Ab)) ++ ((⟨#[35]⟩ : ByteArray) ++ Aa))) else (none)) else (none)) else (some (x3 ++ ((⟨#[63, 61]⟩ : ByteArray) ++ Ab)))) else (none)) else (none)) else (if Ac = true then (if 1 + Aa.size ≤ 9223372036854775807 then (if x3.size + ((⟨#[35]⟩ : ByteArray) ++ Aa).size ≤ 9223372036854775807 then (some (x3 ++ ((⟨#[35]⟩ : ByteArray) ++ Aa))) else (none)) else (none)) else (some x3))
def dn (k : Nat) (Aa : ByteArray) (Ab : ByteArray) (Ac : ByteArray) (Ae : ByteArray) (Af : ByteArray) (Ad : Bool) (Ag : Bool) (Ah : Bool) : Option (ByteArray) := if 4 + Aa.size ≤ 9223372036854775807 then (if ((⟨#[117, 114, 110, 58]⟩ : ByteArray) ++ Aa).size + 1 ≤ 9223372036854775807 then (if (((⟨#[117, 114, 110, 58]⟩ : ByteArray) ++ Aa) ++ (⟨#[58]⟩ : ByteArray)).size + Ab.size ≤ 9223372036854775807 then (if Ad = true then (if 2 + Ac.size ≤ 9223372036854775807 then (if ((((⟨#[117, 114, 110, 58]⟩ : ByteArray) ++ Aa) ++ (⟨#[58]⟩ : ByteArray)) ++ Ab).size + ((⟨#[63, 43]⟩ : ByteArray) ++ Ac).size ≤ 9223372036854775807 then (cv k (((((⟨#[117, 114, 110, 58]⟩ : ByteArray) ++ Aa) ++ (⟨#[58]⟩ : ByteArray)) ++ Ab) ++ ((⟨#[63, 43]⟩ : ByteArray) ++ Ac)) Aa Ab Ac Ae Af Ad Ag Ah) else (none)) else (none)) else (cv k ((((⟨#[117, 114, 110, 58]⟩ : ByteArray) ++ Aa) ++ (⟨#[58]⟩ : ByteArray)) ++ Ab) Aa Ab Ac Ae Af Ad Ag Ah)) else (none)) else (none)) else (none)
theorem iw (k : Nat) (Aa : ByteArray) (Ac : ByteArray) (Ag : ByteArray) (Ae : ByteArray) (Ad : ByteArray) (Ah : Bool) (Ai : Bool) (Aj : Bool) (r : ByteArray) (w : World) (h : dn k Aa Ac Ag Ae Ad Ah Ai Aj = some r) :
    Calls Tryd.prog 6 #[.agg #[.string Aa, .string Ac, .string Ag, .string Ae, .string Ad, .bool Ah, .bool Ai, .bool Aj]] w fun e w' => e = .returned (.string r) ∧ Below w.heap.size w w' := by
 have hu27 := Tryd.underlying27
 have HB := Zz.mk (Below.refl w.heap.size w)
 have H := h
 clear h
 unfold dn at H
 refine xin H ?_; clear H; intro c2 H
 obtain ⟨Al, Am⟩ := xcp c2
 try have AS : (9223372036854775807 < 4 + Aa.size) = False := eq_false (Nat.not_lt.2 c2)
 refine xin H ?_; clear H; intro c3 H
 obtain ⟨An, Ao⟩ := xcp c3
 try have AT : (9223372036854775807 < ((⟨#[117, 114, 110, 58]⟩ : ByteArray) ++ Aa).size + 1) = False := eq_false (Nat.not_lt.2 c3)
 try have AU : (9223372036854775807 < 4 + Aa.size + 1) = False := eq_false (Nat.not_lt.2 (by have h_ := c3; simp only [ByteArray.size_append] at h_; exact h_))
 refine xin H ?_; clear H; intro c4 H
 obtain ⟨Ap, Aq⟩ := xcp c4
 try have AV : (9223372036854775807 < (((⟨#[117, 114, 110, 58]⟩ : ByteArray) ++ Aa) ++ (⟨#[58]⟩ : ByteArray)).size + Ac.size) = False := eq_false (Nat.not_lt.2 c4)
 try have AW : (9223372036854775807 < 4 + Aa.size + 1 + Ac.size) = False := eq_false (Nat.not_lt.2 (by have h_ := c4; simp only [ByteArray.size_append] at h_; exact h_))
 have Ar := Zz.mk H
 clear H
 go_enter Tryd.func6, Tryd.ntmps6
 go_upto_if 12 with (first | ((with_reducible refine af (N := 1) rfl ?_); refine xew 1 ?_; intro Ak w6 Ab As hb hg; replace HB := xst hb; clear hb hg; have A5 := xz8 Ab.out))
 (try simp only [Act.put, xl1, xl2, xl3])
 go_cut [3] (fun v3 wc => ∃ kq Af, v3 = .string Af ∧ Zz (cv kq Af Aa Ac Ag Ae Ad Ah Ai Aj = some r) ∧ Zz (kq ≤ k) ∧ Zz (wc.heap[Ak]? = some (.cells #[.string Aa, .string Ac, .string Ag, .string Ae, .string Ad, .bool Ah, .bool Ai, .bool Aj] 27 (0, 0))) ∧ Zz (Below w.heap.size w wc))
 case first => (
 have H := Ar.out
 clear Ar
 refine xib H ?_ ?_ <;> clear H <;> rintro rfl H
 {
 refine xin H ?_; clear H; intro c9 H
 obtain ⟨AX, AY⟩ := xcp c9
 try have AZ : (9223372036854775807 < 2 + Ag.size) = False := eq_false (Nat.not_lt.2 c9)
 refine xin H ?_; clear H; intro c10 H
 obtain ⟨At, Au⟩ := xcp c10
 try have Av : (9223372036854775807 < ((((⟨#[117, 114, 110, 58]⟩ : ByteArray) ++ Aa) ++ (⟨#[58]⟩ : ByteArray)) ++ Ac).size + ((⟨#[63, 43]⟩ : ByteArray) ++ Ag).size) = False := eq_false (Nat.not_lt.2 c10)
 try have Aw : (9223372036854775807 < 4 + Aa.size + 1 + Ac.size + 2 + Ag.size) = False := eq_false (Nat.not_lt.2 (by have h_ := c10; simp only [ByteArray.size_append] at h_; exact h_))
 replace H := xa H
 have A0 := xz8 Ab.out
 go_wp2
 go_meet
 case rel => exact ⟨_, (((((⟨#[117, 114, 110, 58]⟩ : ByteArray) ++ Aa) ++ (⟨#[58]⟩ : ByteArray)) ++ Ac) ++ ((⟨#[63, 43]⟩ : ByteArray) ++ Ag)), xrr, H, ⟨xom⟩, ⟨xbk⟩, ⟨xbl⟩⟩
 }
 replace H := xa H
 go_wp2
 go_meet
 case rel => exact ⟨_, ((((⟨#[117, 114, 110, 58]⟩ : ByteArray) ++ Aa) ++ (⟨#[58]⟩ : ByteArray)) ++ Ac), xrr, H, ⟨xom⟩, ⟨xbk⟩, ⟨xbl⟩⟩
 )
 case rest => (
 clear Ar
 clear c2 Al Am c3 An Ao c4 Ap Aq
 obtain ⟨kq, Af, rfl, HA, HJ4, Ab, HB⟩ := hcut
 cases kq with
 | zero => exact absurd HA.out (by simp [cv])
 | succ kj4 => (
 have H := HA.out
 clear HA
 simp only [cv] at H
 refine xib H ?_ ?_ <;> clear H <;> rintro rfl H
 {
 refine xin H ?_; clear H; intro c13 H
 obtain ⟨Ax, Ay⟩ := xcp c13
 try have Az : (9223372036854775807 < 2 + Ae.size) = False := eq_false (Nat.not_lt.2 c13)
 refine xin H ?_; clear H; intro c14 H
 obtain ⟨AA, AB⟩ := xcp c14
 try have AC : (9223372036854775807 < Af.size + ((⟨#[63, 61]⟩ : ByteArray) ++ Ae).size) = False := eq_false (Nat.not_lt.2 c14)
 try have AD : (9223372036854775807 < Af.size + 2 + Ae.size) = False := eq_false (Nat.not_lt.2 (by have h_ := c14; simp only [ByteArray.size_append] at h_; exact h_))
 refine xib H ?_ ?_ <;> clear H <;> rintro rfl H
 {
 refine xin H ?_; clear H; intro c16 H
 obtain ⟨AE, AF⟩ := xcp c16
 try have AG : (9223372036854775807 < 1 + Ad.size) = False := eq_false (Nat.not_lt.2 c16)
 refine xin H ?_; clear H; intro c17 H
 obtain ⟨AH, AI⟩ := xcp c17
 try have AJ : (9223372036854775807 < (Af ++ ((⟨#[63, 61]⟩ : ByteArray) ++ Ae)).size + ((⟨#[35]⟩ : ByteArray) ++ Ad).size) = False := eq_false (Nat.not_lt.2 c17)
 try have AK : (9223372036854775807 < Af.size + 2 + Ae.size + 1 + Ad.size) = False := eq_false (Nat.not_lt.2 (by have h_ := c17; simp only [ByteArray.size_append] at h_; exact h_))
 obtain rfl := Option.some.inj H
 have A1 := xz8 Ab.out
 go_wp2
 go_ret
 exact ⟨xre, xbl⟩
 }
 obtain rfl := Option.some.inj H
 have A2 := xz8 Ab.out
 go_wp2
 go_ret
 exact ⟨xre, xbl⟩
 }
 refine xib H ?_ ?_ <;> clear H <;> rintro rfl H
 {
 refine xin H ?_; clear H; intro c21 H
 obtain ⟨AL, AM⟩ := xcp c21
 try have AN : (9223372036854775807 < 1 + Ad.size) = False := eq_false (Nat.not_lt.2 c21)
 refine xin H ?_; clear H; intro c22 H
 obtain ⟨AO, AP⟩ := xcp c22
 try have AQ : (9223372036854775807 < Af.size + ((⟨#[35]⟩ : ByteArray) ++ Ad).size) = False := eq_false (Nat.not_lt.2 c22)
 try have AR : (9223372036854775807 < Af.size + 1 + Ad.size) = False := eq_false (Nat.not_lt.2 (by have h_ := c22; simp only [ByteArray.size_append] at h_; exact h_))
 obtain rfl := Option.some.inj H
 have A3 := xz8 Ab.out
 go_wp2
 go_ret
 exact ⟨xre, xbl⟩
 }
 obtain rfl := Option.some.inj H
 have A4 := xz8 Ab.out
 go_wp2
 go_ret
 exact ⟨xre, xbl⟩
 )
 )
def bm : Nat → Int → ByteArray → Int → Option (Bool)
  | 0, _, _, _ => none
  | k + 1, x0, x1, x5 => if x5 < (x1.size : Int) then (if 0 ≤ x5 then (if (bt x1 x5) = x0 then (some true) else (bm k x0 x1 (wrap64 (x5 + 1)))) else (none)) else (some false)
def aM (k : Nat) (a0 : Int) (a1 : ByteArray) : Option (Bool) := bm k a0 a1 0
theorem fQ : ∀ k, (∀ y0 y1 y2, LeO (bm k y0 y1 y2) (bm (k + 1) y0 y1 y2))
  | 0 => fun _ _ _ r h => by simp [bm] at h
  | k + 1 => by
    have ih0 := fQ k
    · intro y0 y1 y2
      unfold bm
      exact xmo
theorem gl : ∀ a0 a1 k, LeO (aM k a0 a1) (aM (k + 1) a0 a1) := by
  intro a0 a1 k
  have ih0 := fQ k
  unfold aM
  exact xmo
theorem aE (k : Nat) (a0 : Int) (a1 : ByteArray) (r : Bool) (w : World) (h : aM k a0 a1 = some r) :
    Calls Tryd.prog 24 #[.int .u8 a0, .string a1] w fun e w' => e = .returned (.bool r) ∧ Drawn0 w w' := by
 have H := h
 clear h
 unfold aM at H
 have H' := Zz.mk H
 clear H
 go_enter Tryd.func24, Tryd.ntmps24
 go_wp2
 go_loopg [5] k (fun kq v5 w' => ∃ Aa, v5 = .int .i64 Aa ∧ Zz (bm kq a0 a1 Aa = some r) ∧ Zz (kq ≤ k) ∧ Drawn0 w w')
 case atStart => exact ⟨(0), xrr, H', ⟨Nat.le_refl _⟩, xdr⟩
 case round => (
 clear H'
 obtain ⟨Aa, rfl, HA, HK1, ⟨m1, rfl⟩⟩ := hrel
 cases gk with
 | zero => exact absurd HA.out (by simp [bm])
 | succ k1 => (
 have H := HA.out
 clear HA
 simp only [bm] at H
 refine xid H ?_ ?_ <;> clear H <;> intro c3 H
 {
 have Ab := xdt c3
 clear c3
 refine xin H ?_; clear H; intro c4 H
 have Ae := xdt c4
 clear c4
 refine xid H ?_ ?_ <;> clear H <;> intro c6 H
 {
 obtain ⟨Ac, Ad⟩ := xqe c6
 clear c6
 obtain rfl := Option.some.inj H
 obtain ⟨p5, q5, hx5⟩ := xiv a1 Aa xod xod
 go_wp2
 go_ret
 exact ⟨xrr, xdr⟩
 }
 obtain ⟨Ac, Ad⟩ := xqn c6
 replace H := xa H
 obtain ⟨p5, q5, hx5⟩ := xiv a1 Aa xod xod
 go_wp2
 go_roundg k1
 case measure => have := HK1.out; omega
 case rel => exact ⟨(wrap64 (Aa + 1)), xrr, H, ⟨by have := HK1.out; omega⟩, xdr⟩
 }
 have Ab := xdf c3
 clear c3
 obtain rfl := Option.some.inj H
 go_wp2
 go_ret
 exact ⟨xrr, xdr⟩
 )
 )
end Go.Proofs.YtojdiklegmhakaaDoor.X
