/- Texts that the law's proof needs, joined by a program of this session. -/
import Derived.Test.YtmofhijbheimmaaDoorZSegsParts1
import Derived.Test.YtmofhijbheimmaaDoorZSegsParts2
set_option maxHeartbeats 8000000
set_option maxRecDepth 100000
set_option linter.unusedSimpArgs false
set_option linter.unusedVariables false
namespace Go.Proofs.YtmofhijbheimmaaDoor.X
open Go.RowKit Go.Proofs.YtmofhijbheimmaaDoorW.PrintWords Go.Proofs.YtmofhijbheimmaaDoorW.PrintLast Go.Proofs.YtmofhijbheimmaaDoorW.PrintMore
attribute [local go_sem] cJ cx dT eS fs er eT ef eh eJ eK dK dL eg ei
section
attribute [local go_sem] Oper.semAt_some
open Go.Shelf
def cF : Nat → ByteArray → Int → Option (List (Int × Int))
  | 0, _, _ => none
  | k + 1, s, i => if i < (s.size : Int) then (cj k s i).bind fun r => if r.2 = true then (cF k s (i + 3)).bind fun l => some ((i, r.1) :: l) else cF k s (i + 1) else some []
theorem iq (w : World) (n : Nat) (row : Option Nat) : w.grownBy (w.drewN n) row := ⟨rfl, rfl, rfl, Nat.le_refl _, fun _ _ _ => rfl⟩
set_option maxHeartbeats 2000000 in
theorem jp (n : Nat) (hn : 1 ≤ n) (l B : Nat) (s : ByteArray) (hs : s.size ≤ 140737488351232) (k : Nat) (xs : List (Int × Int)) (hx : cF k s 0 = some xs) (J Jx : List (Int × Int) → World → Prop) (W : World) (hJ : AbidesFrom W.heap.size J)
    (hY : ∀ pre x rest W, xs = pre ++ x :: rest → J pre W → YieldAt Fence.wide (n - 1) Tryd.prog l #[.int .i64 x.1, .int .u8 x.2] W fun e W' =>
      (e = .returned (.bool true) ∧ J (pre ++ [x]) W' ∧ (Boxed W B 9 (.string s) → Boxed W' B 9 (.string s))) ∨ (e = .returned (.bool false) ∧ Jx (pre ++ [x]) W'))
    (hB : Boxed W B 9 (.string s)) (h0 : J [] W) :
    CallsIn Fence.wide n Tryd.prog 84 #[.func (.yield l) #[] #[], .pointer (some ⟨B, 0, none⟩)] W fun e W' => (∃ v, e = .returned v) ∧
      ((∃ ys, ys = xs ∧ J ys W') ∨ (∃ pre, pre <+: xs ∧ Jx pre W')) := by
  refine callsIn_of_wp Tryd.func84 rfl trivial ?_ rfl
  simp only [Tryd.ntmps84, List.size_toArray, List.length_cons, List.length_nil, Nat.reduceAdd, Nat.reduceSub, Array.replicate_succ, Array.replicate_zero, List.push_toArray, List.append_toArray, List.nil_append, List.cons_append]
  gi_wp2
  gi_loopw [3] (fun i wr => ∃ (pre rest : List (Int × Int)) (j : Int) (kq : Nat), i = .int .i64 j ∧ 0 ≤ j ∧ xs = pre ++ rest ∧ cF kq s j = some rest ∧ Boxed wr B 9 (.string s) ∧ J pre wr)
    (fun i _ => s.size + 3 - (intOf i).toNat)
  case atStart => exact ⟨[], xs, 0, k, rfl, by omega, rfl, hx, hB, h0⟩
  case round =>
    obtain ⟨pre, rest, j, kq, rfl, hj0, hxs, ha, hBr, hJs⟩ := hrel
    have hc := hBr.cell
    cases kq with
    | zero => cases ha
    | succ k1 =>
      rw [cF] at ha
      by_cases hlt : j < (s.size : Int)
      · rw [if_pos hlt] at ha
        obtain ⟨⟨b, ok⟩, hAt, ha⟩ := Option.bind_eq_some_iff.1 ha
        dsimp only at ha
        cases ok
        · rw [if_neg (by simp)] at ha
          have hd : 1 ≤ n := hn
          gi_wp2_with (refine ⟨trivial, ?_⟩; gi_at_call 56; refine (callsIn_wide.2 (bR k1 s j b false _ hAt)).mono ?_; rintro e w' ⟨rfl, ⟨nd, rfl⟩⟩)
          go_roundw
          case rel => exact ⟨pre, rest, j + 1, k1, by simp, by omega, hxs, ha, hBr, hJ pre wr _ none hJs (iq _ _ _) (fun r e => by cases e)⟩
          case measure => first | (simp only [intOf, List.getD_toArray]; unfold wrap64; omega) | (simp [intOf]; omega)
        · rw [if_pos rfl] at ha
          obtain ⟨l', hl', ha⟩ := Option.bind_eq_some_iff.1 ha
          obtain rfl := Option.some.inj ha
          gi_wp2_with (refine ⟨trivial, ?_⟩; gi_at_call 56; refine (callsIn_wide.2 (bR k1 s j b true _ hAt)).mono ?_; rintro e w' ⟨rfl, ⟨nd, rfl⟩⟩; obtain ⟨fn, tmps, assign, body, hy, hR⟩ := hY pre (j, b) l' (wr.drewN nd) hxs (hJ pre wr _ none hJs (iq _ _ _) (fun r e => by cases e)); dsimp only at hy)
          refine hR.mono ?_
          rintro e W3 (⟨rfl, hJ3, hk3⟩ | ⟨rfl, hJx3⟩)
          · have hB3 := hk3 hBr
            gi_wp2
            go_roundw
            case rel => exact ⟨pre ++ [(j, b)], l', j + 3, k1, by simp; omega, by omega, by simp [hxs], hl', hB3, hJ3⟩
            case measure => first | (simp only [intOf, List.getD_toArray]; unfold wrap64; omega) | (simp [intOf]; omega)
          · gi_wp2
            refine bodyPost_ret (results_none rfl _ _ _) rfl ?_
            exact ⟨⟨_, rfl⟩, .inr ⟨pre ++ [(j, b)], ⟨l', by simp [hxs]⟩, hJx3⟩⟩
      · rw [if_neg hlt] at ha
        obtain rfl := Option.some.inj ha
        gi_wp2
        go_end0
        first | exact ⟨⟨_, rfl⟩, .inl ⟨pre, by simp [hxs], hJs⟩⟩ | exact ⟨⟨_, rfl⟩, .inl hJs⟩ | exact ⟨⟨_, rfl⟩, .inl (by simpa [hxs] using hJs)⟩
set_option maxHeartbeats 1000000 in
theorem gu (n : Nat) (s : ByteArray) (w : World) :
    CallsIn Fence.wide n Tryd.prog 62 #[.string s] w fun e w' => e = .returned (.func (.func 84) #[] #[.pointer (some ⟨w.heap.size, 0, none⟩)]) ∧ w' = w.alloc (.cells #[.string s] 9) := by
  refine callsIn_of_wp Tryd.func62 rfl trivial ?_ rfl
  simp only [Tryd.ntmps62, List.size_toArray, List.length_cons, List.length_nil, Nat.reduceAdd, Nat.reduceSub, Array.replicate_succ, Array.replicate_zero, List.push_toArray, List.append_toArray, List.nil_append, List.cons_append]
  gi_wp2
  go_ret
  exact ⟨rfl, rfl⟩
def jq (B n0 : Nat) (s : ByteArray) (I : List (Int × Int) → World → Prop) (Ix : List (Int × Int) → World → Prop) (pre : List (Int × Int)) (W : World) : Exit → Act → World → Prop
  | .normal, _, W' => KeepsFrom n0 W W' ∧ (Boxed W B 9 (.string s) → Boxed W' B 9 (.string s)) ∧ I pre W'
  | .ret, _, W' => KeepsFrom n0 W W' ∧ Ix pre W'
  | _, _, _ => False
theorem iN (n : Nat) (h3 : 3 ≤ n) {g : Operand} {ps : Array Tmp} {assign body : Code} {Q : Exit → Act → World → Prop} {a : Act} {w : World} (B : Nat) (s : ByteArray) (hs : s.size ≤ 140737488351232) (k : Nat) (xs : List (Int × Int)) (hx : cF k s 0 = some xs)
    (hg : a.eval g = .func (.func 84) #[] #[.pointer (some ⟨B, 0, none⟩)]) (hps : ps.size = 2) (hBl : Boxed w B 9 (.string s))
    (I Ix : List (Int × Int) → World → Prop) (hI : OwnFrom w.heap.size I) (hIx : OwnFrom w.heap.size Ix) (h0 : I [] w) (a₁ : Int × Int → Act)
    (hassign : ∀ (l : Nat) (x : Int × Int) (W : World) (K : Act → World → Prop), K (a₁ x) W →
      assign.wpIn (Fence.wide.inRound l) (n - 1 - 1) Tryd.prog (Exit.then K (fun _ _ _ => False)) { tmps := (ps.zip #[Value.int .i64 x.1, Value.int .u8 x.2]).foldl (fun t (p, v) => t.setIfInBounds p v) a.tmps, defers := [] } W)
    (hbody : ∀ (l : Nat) (pre : List (Int × Int)) (x : Int × Int) (rest : List (Int × Int)) (W : World), xs = pre ++ x :: rest → I pre W → body.wpIn (Fence.wide.inRound l) (n - 1 - 1) Tryd.prog (jq B w.heap.size s I Ix (pre ++ [x]) W) (a₁ x) W)
    (hdone : ∀ (D : Nat) (W : World), w.heap.size ≤ D → I xs W → W.heap[D]? = some (.deferred (some [])) → Q .normal { a with defers := { target := .collected D, args := #[] } :: a.defers } W)
    (hstop : ∀ (D : Nat) (pre : List (Int × Int)) (W : World), w.heap.size ≤ D → pre <+: xs → Ix pre W → W.heap[D]? = some (.deferred (some [])) → Code.ret.wpIn Fence.wide n Tryd.prog Q { a with defers := { target := .collected D, args := #[] } :: a.defers } W) :
    (Code.rangeFunc g ps assign body).wpIn Fence.wide n Tryd.prog Q a w := by
  refine wpIn_rangeFunc ?_
  intro fn hfn
  obtain ⟨lp, hlp⟩ : ∃ lp : LoopState → Option Code → Loop, lp = fun st pe => { state := st, pending := pe, fn, tmps := a.tmps, params := ps, assign, body, defers := w.heap.size } := ⟨_, rfl⟩
  obtain ⟨V, hV⟩ : ∃ V, (w.alloc (.deferred (some []))).alloc (.loop (lp .ready none)) = V := ⟨_, rfl⟩
  have bL : V.heap[w.heap.size + 1]? = some (.loop (lp .ready none)) := by
    rw [← hV]; have := World.alloc_heap_new (w.alloc (.deferred (some []))) (.loop (lp .ready none)); rwa [World.size_alloc] at this
  have bD : V.heap[w.heap.size]? = some (.deferred (some [])) := by
    rw [← hV]; exact (Below.heap_alloc _ _ _ (by simp)).trans (World.alloc_heap_new w _)
  have bI : I [] V := by rw [← hV]; exact hI.alloc _ (hI.alloc _ h0)
  have bB : Boxed V B 9 (.string s) := by rw [← hV]; exact (hBl.alloc _).alloc _
  have bS : V.heap.size = w.heap.size + 2 := by rw [← hV]; simp
  refine ⟨w.heap.size + 1, [{ target := .collected w.heap.size, args := #[] }], V, { target := .fn (.func 84) #[.pointer (some ⟨B, 0, none⟩)], args := #[.func (.yield (w.heap.size + 1)) #[] #[]] }, V, 84,
    #[.func (.yield (w.heap.size + 1)) #[] #[]] ++ #[.pointer (some ⟨B, 0, none⟩)], V, ?_, ?_, ?_, ?_, fun _ => by omega, ?_⟩
  · rw [← hV, hlp]; exact run_enterLoop_outer _ _ _ _ _
  · simp only [resolve, hg]
    simp [go_sem]
  · intro f' hf'; trivial
  · simp [invoke, go_sem, enters_of Tryd.func84 (by kernel_rfl) rfl]
  · have up : ∀ {X : World} {row : Option Nat}, (∀ r, row = some r → V.heap.size ≤ r ∧ ∃ o : Obj, X.heap[r]? = some o ∧ o.isWalk = true) → (∀ r, row = some r → w.heap.size ≤ r ∧ ∃ o : Obj, X.heap[r]? = some o ∧ o.isCells = false) :=
      fun hr r e => by obtain ⟨q, o, ho, hw⟩ := hr r e; exact ⟨by omega, o, ho, Obj.not_cells_of_walk hw⟩
    refine (jp (n - 1) (by omega) (w.heap.size + 1) B s hs k xs hx
      (fun pre X => I pre X ∧ X.heap[w.heap.size + 1]? = some (.loop (lp .ready none)) ∧ X.heap[w.heap.size]? = some (.deferred (some [])))
      (fun pre X => Ix pre X ∧ X.heap[w.heap.size + 1]? = some (.loop (lp .done (some .ret))) ∧ X.heap[w.heap.size]? = some (.deferred (some [])))
      V
      (fun q X Y row hq hg' hr => ⟨hI q X Y row hq.1 hg' (up hr), (grownBy_keeps hg' (fun r e => (hr r e).2) hq.2.1 rfl).trans hq.2.1, (grownBy_keeps hg' (fun r e => (hr r e).2) hq.2.2 rfl).trans hq.2.2⟩)
      ?_ bB ⟨bI, bL, bD⟩).mono ?_
    · rintro pre x rest X hxs ⟨hi, hl, hk⟩
      have hlt : w.heap.size + 1 < X.heap.size := (Array.getElem?_eq_some_iff.1 hl).1
      have hy := run_yield (P := Tryd.prog) (args := #[Value.int .i64 x.1, Value.int .u8 x.2]) hl (by rw [hlp]; exact hps.symm)
      rw [hlp] at hy
      refine ⟨fn, _, assign, body, hy, roundIn_of_wpIn hfn (hassign _ x X _ ⟨_, run_beginRound hl (by rw [hlp]), ?_⟩)⟩
      have l2 : (X.putObj (w.heap.size + 1) (.loop { lp .ready none with state := .busy })).heap[w.heap.size + 1]? = some (.loop { lp .ready none with state := .busy }) := World.putObj_heap_same hlt
      have k2 : (X.putObj (w.heap.size + 1) (.loop { lp .ready none with state := .busy })).heap[w.heap.size]? = some (.deferred (some [])) := (World.putObj_heap_other (by omega)).trans hk
      have bk : ∀ (Y : World) (o o' : Obj), Y.heap[w.heap.size + 1]? = some o → o.isCells = false → Boxed Y B 9 (.string s) → Boxed (Y.putObj (w.heap.size + 1) o') B 9 (.string s) :=
        fun Y o o' h1 h2 hb => by
          refine hb.kept (grownBy_putObj' Y _ o') (fun e => ?_)
          obtain rfl : B = w.heap.size + 1 := by simpa using e
          rw [show Y.heap[w.heap.size + 1]? = _ from hb] at h1
          cases h1
          cases h2
      refine wpIn_mono (hbody _ pre x rest _ hxs (hI.putObj _ hi (by omega) hl rfl)) ?_
      have fin : ∀ (jump : Option Code) (Y : World), KeepsFrom w.heap.size (X.putObj (w.heap.size + 1) (.loop { lp .ready none with state := .busy })) Y →
          (Instr.endRound (w.heap.size + 1) jump).run Tryd.prog Y = .ok (.bool jump.isNone) (Y.putObj (w.heap.size + 1) (.loop (lp (if jump.isNone then .ready else .done) jump))) ∧
          Y.heap[w.heap.size + 1]? = some (.loop { lp .ready none with state := .busy }) ∧
          (Y.putObj (w.heap.size + 1) (.loop (lp (if jump.isNone then .ready else .done) jump))).heap[w.heap.size + 1]? = some (.loop (lp (if jump.isNone then .ready else .done) jump)) ∧
          (Y.putObj (w.heap.size + 1) (.loop (lp (if jump.isNone then .ready else .done) jump))).heap[w.heap.size]? = some (.deferred (some [])) := fun jump Y hk3 => by
        have l3 := hk3.same _ _ (by omega) l2 rfl
        have := run_endRound (P := Tryd.prog) jump l3
        rw [hlp] at this ⊢
        exact ⟨this, by rw [hlp] at l3; exact l3, World.putObj_heap_same (Array.getElem?_eq_some_iff.1 l3).1, (World.putObj_heap_other (by omega)).trans (hk3.same _ _ (Nat.le_refl _) k2 rfl)⟩
      rintro e a3 Y hp
      cases e with
      | normal =>
        obtain ⟨hk3, hb3, hi3⟩ := hp
        obtain ⟨hr, l3, l4, k4⟩ := fin none Y hk3
        exact ⟨_, _, hr, .inl ⟨rfl, ⟨hI.putObj _ hi3 (by omega) l3 rfl, l4, k4⟩, fun hb => bk Y _ _ l3 rfl (hb3 (bk X _ _ hl rfl hb))⟩⟩
      | ret =>
        obtain ⟨hk3, hi3⟩ := hp
        obtain ⟨hr, l3, l4, k4⟩ := fin (some .ret) Y hk3
        exact ⟨_, _, hr, .inr ⟨rfl, hIx.putObj _ hi3 (by omega) l3 rfl, l4, k4⟩⟩
      | exit id => exact hp.elim
      | goto t => exact hp.elim
      | panic ch => exact hp.elim
      | outgrown => exact hp.elim
    · rintro e Y ⟨⟨v, rfl⟩, (⟨ys, rfl, hi, hl, hk⟩ | ⟨pre, hp, hi, hl, hk⟩)⟩
      · exact ⟨none, _, by have := run_endLoop (P := Tryd.prog) hl (by rw [hlp]; simp); rw [hlp] at this; exact this, hdone _ _ (Nat.le_refl _) (hI.putObj _ hi (by omega) hl rfl) ((World.putObj_heap_other (by omega)).trans hk)⟩
      · exact ⟨some .ret, _, by have := run_endLoop (P := Tryd.prog) hl (by rw [hlp]; simp); rw [hlp] at this; exact this, hstop _ pre _ (Nat.le_refl _) hp (hIx.putObj _ hi (by omega) hl rfl) ((World.putObj_heap_other (by omega)).trans hk)⟩
theorem cX {X Y : World} {row : Option Nat} {B : Nat} {t : TypeId} {v : Value} (hb : Boxed X B t v) (hg : X.grownBy Y row) (hr : ∀ r, row = some r → ∃ o : Obj, X.heap[r]? = some o ∧ o.isCells = false) : Boxed Y B t v :=
  hb.kept hg (fun e => by
    obtain ⟨o, ho, hc⟩ := hr B e.symm
    rw [show X.heap[B]? = _ from hb] at ho
    cases ho
    cases hc)
theorem bd {X Y : World} {n B : Nat} {t : TypeId} {v : Value} (h : Below n X Y) (hn : B < n) (hb : Boxed X B t v) : Boxed Y B t v := (h.block B hn).trans hb
theorem d7 {X Y : World} {n : Nat} (h : Below X.heap.size X Y) : KeepsFrom n X Y := ⟨h.size, fun k o _ hk _ => (h.block k (Array.getElem?_eq_some_iff.1 hk).1).trans hk⟩
end
theorem eX : ∀ k s i, LeO (cF k s i) (cF (k + 1) s i)
  | 0 => fun s i r h => by simp [cF] at h
  | k + 1 => by
    intro s i
    rw [cF, cF]
    exact LeO.ite (LeO.bind (dF s i k) (fun r => LeO.ite (LeO.bind (eX k s (i + 3)) (fun l => LeO.refl _)) (eX k s (i + 1)))) (LeO.refl _)
section
attribute [local go_sem] Oper.semAt_some
open Go.Shelf
def b9 (k : Nat) (s : ByteArray) : List (Int × Int) → Int → Option Bool
  | [], p => (bw k s p (⟨#[37]⟩ : ByteArray)).bind fun r => some (decide (r < 0))
  | (i, b) :: xs, p => if 0 ≤ p ∧ p ≤ i ∧ i ≤ (s.size : Int) ∧ i ≤ 9223372036854775000 then (bw k (s.extract p.toNat i.toNat) 0 (⟨#[37]⟩ : ByteArray)).bind fun q => if q ≥ 0 then some false else b9 k s xs (i + 3) else none
set_option maxHeartbeats 4000000 in
theorem gh (k : Nat) (s : ByteArray) (hs : s.size ≤ 140737488351232) (xs : List (Int × Int)) (hx : cF k s 0 = some xs) (r : Bool) (hr : b9 k s xs 0 = some r) (w : World) :
    Calls Tryd.prog 41 #[.string s] w fun e W' => e = .returned (.bool r) ∧ Below w.heap.size w W' := by
  refine (callsIn_wide (n := 3)).1 ?_
  refine callsIn_of_wp_marks Tryd.func41 rfl trivial ?_ rfl
  simp only [Tryd.ntmps41, List.size_toArray, List.length_cons, List.length_nil, Nat.reduceAdd, Nat.reduceSub, Array.replicate_succ, Array.replicate_zero, List.push_toArray, List.append_toArray, List.nil_append, List.cons_append]
  gi_wp2_with (refine ⟨trivial, ?_⟩; gi_at_call 62; refine (gu _ _ _).mono ?_; rintro e w' ⟨rfl, rfl⟩)
  have c0 := ((Boxed.new w 9 (.string s)).alloc (.cells #[.bool false] 4)).alloc (.cells #[.int .i64 0] 3)
  have c1 := (Boxed.new (w.alloc (.cells #[.string s] 9)) 4 (.bool false)).alloc (.cells #[.int .i64 0] 3)
  have c2 := Boxed.new ((w.alloc (.cells #[.string s] 9)).alloc (.cells #[.bool false] 4)) 3 (.int .i64 0)
  have c3 := Boxed.new (((w.alloc (.cells #[.string s] 9)).alloc (.cells #[.bool false] 4)).alloc (.cells #[.int .i64 0] 3)) 9 (.string s)
  have b1 := (Below.refl w.heap.size w).alloc (Nat.le_refl _) (.cells #[.string s] 9)
  have b2 := b1.alloc b1.size (.cells #[.bool false] 4)
  have b3 := b2.alloc b2.size (.cells #[.int .i64 0] 3)
  have b4 := b3.alloc b3.size (.cells #[.string s] 9)
  simp only [World.size_alloc] at c1 c2 c3
  have c0' := c0.alloc (.cells #[.string s] 9)
  have c1' := c1.alloc (.cells #[.string s] 9)
  have c2' := c2.alloc (.cells #[.string s] 9)
  have c3' : Boxed ((((w.alloc (.cells #[.string s] 9)).alloc (.cells #[.bool false] 4)).alloc (.cells #[.int .i64 0] 3)).alloc (.cells #[.string s] 9)) (w.heap.size + 1 + 1 + 1) 9 (.string s) := c3
  have hsz : ((((w.alloc (.cells #[.string s] 9)).alloc (.cells #[.bool false] 4)).alloc (.cells #[.int .i64 0] 3)).alloc (.cells #[.string s] 9)).heap.size = w.heap.size + 4 := by simp
  refine iN 3 (by omega) (w.heap.size + 1 + 1 + 1) s hs k xs hx rfl rfl c3'
    (fun pre W => (Boxed W w.heap.size 9 (.string s) ∧ Boxed W (w.heap.size + 1) 4 (.bool false) ∧ ∃ p, Boxed W (w.heap.size + 1 + 1) 3 (.int .i64 p) ∧ ∀ rest, xs = pre ++ rest → b9 k s rest p = some r) ∧ Below w.heap.size w W)
    (fun pre W => (r = false ∧ Boxed W (w.heap.size + 1) 4 (.bool false)) ∧ Below w.heap.size w W)
    (OwnFrom.and (Own.from (fun q X Y row hq hg hr => by
      obtain ⟨h0, h1, p, h2, h3⟩ := hq
      exact ⟨cX h0 hg hr, cX h1 hg hr, p, cX h2 hg hr, h3⟩) _) (ownFrom_below (Nat.le_refl _) (by rw [hsz]; omega)))
    (OwnFrom.and (Own.from (fun q X Y row hq hg hr => ⟨hq.1, cX hq.2 hg hr⟩) _) (ownFrom_below (Nat.le_refl _) (by rw [hsz]; omega)))
    ⟨⟨c0', c1', 0, c2', fun rest hr' => by have h2 : xs = rest := hr'; rw [← h2]; exact hr⟩, b4⟩
    (fun x => { tmps := #[.string s, .pointer (some ⟨w.heap.size, 0, none⟩), .pointer (some ⟨w.heap.size + 1, 0, none⟩), .pointer (some ⟨w.heap.size + 1 + 1, 0, none⟩), .int .i64 x.1, .string s, .func (.func 84) #[] #[.pointer (some ⟨w.heap.size + 1 + 1 + 1, 0, none⟩)], .int .i64 x.1, .int .u8 x.2, undef, undef, undef, undef, undef, undef, undef, undef, undef, undef, undef, undef], defers := [] }) ?assign ?body ?done ?stop
  case assign =>
    intro l x W K hK
    gi_wp2
    exact hK
  case body =>
    rintro l pre ⟨i, b⟩ rest W hxs ⟨⟨d0, d1, p, d2, hrel⟩, hB⟩
    have h := hrel _ hxs
    rw [b9] at h
    by_cases hc : 0 ≤ p ∧ p ≤ i ∧ i ≤ (s.size : Int) ∧ i ≤ 9223372036854775000
    · rw [if_pos hc] at h
      obtain ⟨q, hq, h⟩ := Option.bind_eq_some_iff.1 h
      obtain ⟨p0, p1, p2, p3⟩ := hc
      have e0 := d0.cell
      have e2 := d2.cell
      by_cases hq0 : q ≥ 0
      · rw [if_pos hq0] at h
        obtain rfl := Option.some.inj h
        gi_wp2_with (refine ⟨trivial, ?_⟩; gi_at_call 63; refine (CallsIn.inRound l (callsIn_wide.2 (cr k _ _ _ q _ hq))).mono ?_; rintro e w' ⟨rfl, hb⟩; have f1 := bd hb d1.lt d1; have f1c := f1.cell; have f1f := f1.frozen)
        have k1 := (d7 (n := w.heap.size + 4) hb).trans ((KeepsOthers.setCell w' ⟨w.heap.size + 1, 0, none⟩ (.bool false)).from _)
        have k2 := f1.set (.bool false)
        have k3 := (hB.trans (hb.mono hB.size)).setCell (p := ⟨w.heap.size + 1, 0, none⟩) (by simp) (.bool false)
        first | exact ⟨k1, ⟨rfl, k2⟩, k3⟩ | exact ⟨k1, k2, k3⟩ | exact ⟨by rw [hsz]; exact k1, ⟨rfl, k2⟩, k3⟩ | exact ⟨by rw [hsz]; exact k1, k2, k3⟩
      · rw [if_neg hq0] at h
        have w3 : wrap64 (i + 3) = i + 3 := by unfold wrap64; omega
        gi_wp2_with (refine ⟨trivial, ?_⟩; gi_at_call 63; refine (CallsIn.inRound l (callsIn_wide.2 (cr k _ _ _ q _ hq))).mono ?_; rintro e w' ⟨rfl, hb⟩; have f2 := bd hb d2.lt d2; have f2c := f2.cell; have f2f := f2.frozen)
        have g0 := (bd hb d0.lt d0).kept (grownBy_setCell' w' (w.heap.size + 1 + 1) (.int .i64 (i + 3))) (fun e => by injection e with e; omega)
        have g1 := (bd hb d1.lt d1).kept (grownBy_setCell' w' (w.heap.size + 1 + 1) (.int .i64 (i + 3))) (fun e => by injection e with e; omega)
        have k1 := (d7 (n := w.heap.size + 4) hb).trans ((KeepsOthers.setCell w' ⟨w.heap.size + 1 + 1, 0, none⟩ (.int .i64 (i + 3))).from _)
        have k3 := (hB.trans (hb.mono hB.size)).setCell (p := ⟨w.heap.size + 1 + 1, 0, none⟩) (by simp; omega) (.int .i64 (i + 3))
        rw [hsz]
        exact ⟨k1, fun hbx => (bd hb hbx.lt hbx).kept (grownBy_setCell' w' (w.heap.size + 1 + 1) (.int .i64 (i + 3))) (fun e => by injection e with e; omega), ⟨g0, g1, i + 3, f2.set _, fun rest' h' => by
          have e : rest' = rest := by
            rw [hxs, List.append_assoc] at h'
            have := List.append_cancel_left h'
            simpa using this.symm
          rw [e]; exact h⟩, k3⟩
    · rw [if_neg hc] at h; cases h
  case done =>
    rintro D W hD ⟨⟨d0, d1, p, d2, hrel⟩, hB⟩ hK
    have h := hrel [] (by simp)
    rw [b9] at h
    obtain ⟨q, hq, h⟩ := Option.bind_eq_some_iff.1 h
    have h := Option.some.inj h
    have e0 := d0.cell
    have e2 := d2.cell
    gi_wp2_with (refine ⟨trivial, ?_⟩; gi_at_call 63; refine (callsIn_wide.2 (cr k _ _ _ q _ hq)).mono ?_; rintro e w' ⟨rfl, hb⟩; have f1 := bd hb d1.lt d1; have f1c := f1.cell; have f1f := f1.frozen; have hKw : w'.heap[D]? = some (.deferred (some [])) := (hb.block D (Array.getElem?_eq_some_iff.1 hK).1).trans hK)
    have hK' := (KeepsOthers.setCell w' ⟨w.heap.size + 1, 0, none⟩ (.bool r)).same D _ hKw rfl
    refine ⟨by simp, .inl ⟨_, _, rfl, run_takeDeferred hK', ?_⟩⟩
    have hc5 := Go.cell_kept (World.cell?_setCell_same' w' ⟨w.heap.size + 1, 0, none⟩ (.bool r) (by rw [f1c]; rfl)) (grownBy_putObj' _ D (.deferred none)) (fun r' e => by cases e; exact ⟨_, hK', rfl⟩)
    refine ⟨.bool r, ?_, rfl, ((hB.trans (hb.mono hB.size)).setCell (p := ⟨w.heap.size + 1, 0, none⟩) (by simp) _).trans (belowK_b (w := w) (Nat.le_refl _) _ D _ _ (by rw [hsz] at hD; omega) hK' rfl rfl)⟩
    simp [results, Tryd.f41, go_sem, hc5]
  case stop =>
    rintro D pre W hD hp ⟨⟨hrf, d1⟩, hB⟩ hK
    have e1 := d1.cell
    gi_wp2
    refine ⟨by simp, .inl ⟨_, _, rfl, run_takeDeferred hK, ?_⟩⟩
    have hc5 := Go.cell_kept e1 (grownBy_putObj' _ D (.deferred none)) (fun r' e => by cases e; exact ⟨_, hK, rfl⟩)
    refine ⟨.bool r, ?_, rfl, hB.trans (belowK_b (w := w) (Nat.le_refl _) W D _ _ (by rw [hsz] at hD; omega) hK rfl rfl)⟩
    rw [hrf]
    simp [results, Tryd.f41, go_sem, hc5]
end
theorem fk (k : Nat) (s : ByteArray) : ∀ xs p, LeO (b9 k s xs p) (b9 (k + 1) s xs p)
  | [], p => by
    rw [b9, b9]
    exact LeO.bind (dw s p _ k) (fun r => LeO.refl _)
  | (i, b) :: xs, p => by
    rw [b9, b9]
    exact LeO.ite (LeO.bind (dw _ 0 _ k) (fun q => LeO.ite (LeO.refl _) (fk k s xs (i + 3)))) (LeO.refl _)
section
attribute [local go_sem] Oper.semAt_some
open Go.Shelf
theorem iM : (Tryd.prog.info? 5).map (fun i => (i.zero, i.size, i.bytes)) = some (some (.int .u8 0), 1, 1) := by kernel_rfl
def eb (T : Int → Option (ByteArray × Bool)) (s : ByteArray) : List (Int × Int) → Int → List Int → Option (List Int)
  | [], p, out => if 0 ≤ p ∧ p ≤ (s.size : Int) ∧ out.length ≤ 140000000000000 then some (out ++ aw (s.extract p.toNat s.size)) else none
  | (i, b) :: xs, p, out => if 0 ≤ p ∧ p ≤ i ∧ i ≤ (s.size : Int) ∧ 0 ≤ b ∧ b ≤ 255 ∧ out.length ≤ 140000000000000 then (T b).bind fun x => if x.2 = true then (if x.1.size ≤ 100 then eb T s xs (i + 3) (out ++ aw (s.extract p.toNat i.toNat) ++ aw x.1) else none) else eb T s xs p out else none
theorem jc (s : ByteArray) : Go.Lib.strCells s = bX .u8 (aw s) := by
  unfold Go.Lib.strCells bX aw
  rw [List.map_map]; rfl
theorem fN {W : World} {n0 : Nat} {e : TypeId} {v : Value} {k : Nat} {xs : List Value} (h : W.ownsRow n0 e 1 v k xs) : ∀ j o, v.ownBlock = some j → W.heap[j]? = some o → o.isCells = true := by
  intro j o ej hj
  rcases h.2 with ⟨rfl, _⟩ | ⟨g, cap, cur, rfl, _, hgb, _⟩
  · simp [Value.ownBlock] at ej
  · obtain rfl : g = j := by simpa [Value.ownBlock] using ej
    rw [hgb] at hj; cases hj; rfl
theorem f7 {W : World} {n0 : Nat} {e : TypeId} {v : Value} {k : Nat} {xs : List Value} (h : W.ownsRow n0 e 1 v k xs) : ∃ A n c, v = .slice A n c := by
  rcases h.2 with ⟨rfl, _⟩ | ⟨g, cap, cur, rfl, _⟩
  · exact ⟨_, _, _, rfl⟩
  · exact ⟨_, _, _, rfl⟩
theorem i4 {W w1 : World} {n0 B : Nat} {t e : TypeId} {v v' : Value} {k m : Nat} {xs ys : List Value} (hv : Boxed W B t v) (hte : t ≠ e) (hrow : W.ownsRow n0 e 1 v k xs) (hn : n0 ≤ W.heap.size) (hB : n0 ≤ B)
    (hown' : w1.ownsRow n0 e 1 v' m ys) (hgrow : W.grownBy w1 v.ownBlock) :
    Boxed (w1.setCell ⟨B, 0, none⟩ v') B t v' ∧ (w1.setCell ⟨B, 0, none⟩ v').ownsRow n0 e 1 v' m ys ∧ KeepsOthers W (w1.setCell ⟨B, 0, none⟩ v') ∧ Below n0 W (w1.setCell ⟨B, 0, none⟩ v') ∧
      ∀ B2 t2 u, B2 ≠ B → t2 ≠ e → Boxed W B2 t2 u → Boxed (w1.setCell ⟨B, 0, none⟩ v') B2 t2 u := by
  have hv1 : Boxed w1 B t v := hv.kept hgrow (hv.not_row hte hrow)
  refine ⟨hv1.set v', hown'.kept (grownBy_setCell' w1 B v') (.inr (hv1.not_row hte hown').symm), ?_, ?_, ?_⟩
  · exact (KeepsOthers.of_grownBy hgrow fun j o ej hj => fN hrow j o ej hj).trans (KeepsOthers.setCell _ _ _)
  · refine ((Below.refl n0 W).grown hgrow hn fun j ej => ?_).setCell (p := ⟨B, 0, none⟩) hB v'
    rcases hrow.2 with ⟨rfl, _⟩ | ⟨g, cap, cur, rfl, hb, _, _⟩
    · simp [Value.ownBlock] at ej
    · obtain rfl : g = j := by simpa [Value.ownBlock] using ej
      exact hb
  · intro B2 t2 u hne ht2 hb
    exact (hb.kept hgrow (hb.not_row ht2 hrow)).kept (grownBy_setCell' w1 B v') (fun e' => hne (by simpa using e'))
theorem be {F : Fence} {n : Nat} {P : Program} {md : Region.Mode} {ops : Array Oper} {Q : Exit → Act → World → Prop} {f0 : Nat} {l0 : Array Bool} {a0 : Act} {w0 : World} (f1 : Nat) (l1 : Array Bool) (a1 : Act) (w1 : World)
    (h1 : wpAnyIn F n P md ops Q f1 l1 a1 w1) (h : wpAnyIn F n P md ops Q f1 l1 a1 w1 → wpAnyIn F n P md ops Q f0 l0 a0 w0) : wpAnyIn F n P md ops Q f0 l0 a0 w0 := h h1
abbrev ak (fid : FuncId) (caps : Array Value) (tt : ByteArray) (s : ByteArray) (B : Nat) (i b : Int) (x23 x24 x25 x26 x27 : Value) : Act :=
  { tmps := #[.string s, .func (.func fid) #[] caps, .pointer (some ⟨B, 0, none⟩), .pointer (some ⟨B + 1, 0, none⟩), .string ⟨#[]⟩, .pointer (some ⟨B + 1 + 1, 0, none⟩), .pointer (some ⟨B + 1 + 1 + 1, 0, none⟩), .int .i64 i, .int .u8 b, .string tt, .bool true, .string s, .func (.func 84) #[] #[.pointer (some ⟨B + 1 + 1 + 1 + 1, 0, none⟩)], .int .i64 i, .int .u8 b, .tuple #[.string tt, .bool true], .func (.func fid) #[] caps, .int .i64 i, .int .u8 b, .tuple #[.string tt, .bool true], .string tt, .bool true, .bool true, x23, x24, x25, x26, x27, undef, undef, undef, undef, undef, undef, undef, undef, undef, undef, undef, undef], defers := [] }
abbrev aR (fid : FuncId) (caps : Array Value) (s : ByteArray) (B D : Nat) (x34 x35 x36 x37 : Value) : Act :=
  { tmps := #[.string s, .func (.func fid) #[] caps, .pointer (some ⟨B, 0, none⟩), .pointer (some ⟨B + 1, 0, none⟩), .string ⟨#[]⟩, .pointer (some ⟨B + 1 + 1, 0, none⟩), .pointer (some ⟨B + 1 + 1 + 1, 0, none⟩), undef, undef, undef, undef, .string s, .func (.func 84) #[] #[.pointer (some ⟨B + 1 + 1 + 1 + 1, 0, none⟩)], undef, undef, undef, undef, undef, undef, undef, undef, undef, undef, undef, undef, undef, undef, undef, undef, undef, undef, undef, undef, undef, x34, x35, x36, x37, undef, undef], defers := [{ target := .collected D, args := #[] }] }
theorem f6 {F : Fence} {n : Nat} {o : Oper} {a : Act} {w : World} {K : Act → World → Prop} {Q : Exit → Act → World → Prop} (sl x : Operand) (ho : o.op = .call { callee := .builtin .append, args := #[sl, x], argTypes := #[60, 9] })
    (B : Nat) (v : Value) (out : List Int) (s : ByteArray) (hs : a.eval sl = v) (hx : a.eval x = .string s) (hown : w.ownsRow B 5 1 v out.length (bX .u8 out)) (hlen : out.length + s.size ≤ 140737488355328) (hbase : B ≤ w.heap.size)
    (h : ∀ v' w', w'.ownsRow B 5 1 v' (out ++ aw s).length (bX .u8 (out ++ aw s)) → w.grownBy w' v.ownBlock → K (a.put o.dst v') w') : Oper.wpIn F n Tryd.prog o a w K Q := by
  obtain ⟨i0, hi, hz0, hz1, hz2⟩ := info_parts iM
  obtain ⟨v', w', hr, h2, h3, h4⟩ := Go.Lib.run_append_own_string (P := Tryd.prog) (w := w) B 60 9 o.type 5 i0 Tryd.underlying60 Tryd.underlying9 hi hz0 hz1 hz2 v out.length (bX .u8 out) hown s (by unfold maxLen; omega) hlen hbase
  unfold Oper.wpIn
  refine ⟨?_, ?_⟩
  · simp [Oper.about, ho, resolve, Target.leads, Sem.run_pure]
  · rw [Oper.semAt_plain F _ _ (by rw [ho]; intro c hc'; cases hc')]
    simp [execOp, ho, resolve, invoke, builtin, hs, hx, hr, Result.andThen]
    refine h v' w' ?_ h3
    rw [fD, List.length_append, cL, ← jc]
    exact h2
theorem iV (fid : FuncId) (caps : Array Value) (T : Int → Option (ByteArray × Bool)) (k : Nat) (s : ByteArray) (hs : s.size ≤ 1000000) (xs : List (Int × Int)) (hx : cF k s 0 = some xs) (o : List Int) (hr : eb T s xs 0 [] = some o) (w : World) (hen : Enters Tryd.prog fid)
    (tell : ∀ i b tt r W, 0 ≤ b → b ≤ 255 → T b = some (tt, r) → Below w.heap.size w W → Calls Tryd.prog fid (#[.int .i64 i, .int .u8 b] ++ caps) W fun e W' => e = .returned (.tuple #[.string tt, .bool r]) ∧ Below W.heap.size W W') :
    Calls Tryd.prog 42 #[.string s, .func (.func fid) #[] caps] w fun e W' => e = .returned (.string (strOfNums o)) ∧ Below w.heap.size w W' := by
  obtain ⟨i0, hi, hz0, hz1, hz2⟩ := info_parts iM
  refine (callsIn_wide (n := 3)).1 ?_
  refine callsIn_of_wp_marks Tryd.func42 rfl trivial ?_ rfl
  simp only [Tryd.ntmps42, List.size_toArray, List.length_cons, List.length_nil, Nat.reduceAdd, Nat.reduceSub, Array.replicate_succ, Array.replicate_zero, List.push_toArray, List.append_toArray, List.nil_append, List.cons_append]
  gi_wp2_with (refine ⟨trivial, ?_⟩; gi_at_call 62; refine (gu _ _ _).mono ?_; rintro e w' ⟨rfl, rfl⟩)
  obtain ⟨V, hV⟩ : ∃ V, (((((w.alloc (.cells #[.string s] 9)).alloc (.cells #[.func (.func fid) #[] caps] 61)).alloc (.cells #[.slice none 0 0] 60)).alloc (.cells #[.int .i64 0] 3)).alloc (.cells #[.string s] 9)) = V := ⟨_, rfl⟩
  have c0 : Boxed V w.heap.size 9 (.string s) := by rw [← hV]; exact ((((Boxed.new w 9 (.string s)).alloc _).alloc _).alloc _).alloc _
  have c1 : Boxed V (w.heap.size + 1) 61 (.func (.func fid) #[] caps) := by
    rw [← hV]; have := Boxed.new (w.alloc (.cells #[.string s] 9)) 61 (.func (.func fid) #[] caps); rw [World.size_alloc] at this; exact ((this.alloc _).alloc _).alloc _
  have c2 : Boxed V (w.heap.size + 1 + 1) 60 (.slice none 0 0) := by
    rw [← hV]; have := Boxed.new ((w.alloc (.cells #[.string s] 9)).alloc (.cells #[.func (.func fid) #[] caps] 61)) 60 (.slice none 0 0); rw [World.size_alloc, World.size_alloc] at this; exact (this.alloc _).alloc _
  have c3 : Boxed V (w.heap.size + 1 + 1 + 1) 3 (.int .i64 0) := by
    rw [← hV]; have := Boxed.new (((w.alloc (.cells #[.string s] 9)).alloc (.cells #[.func (.func fid) #[] caps] 61)).alloc (.cells #[.slice none 0 0] 60)) 3 (.int .i64 0); rw [World.size_alloc, World.size_alloc, World.size_alloc] at this; exact this.alloc _
  have c4 : Boxed V (w.heap.size + 1 + 1 + 1 + 1) 9 (.string s) := by
    rw [← hV]; have := Boxed.new ((((w.alloc (.cells #[.string s] 9)).alloc (.cells #[.func (.func fid) #[] caps] 61)).alloc (.cells #[.slice none 0 0] 60)).alloc (.cells #[.int .i64 0] 3)) 9 (.string s); rw [World.size_alloc, World.size_alloc, World.size_alloc, World.size_alloc] at this; exact this
  have hB0 : Below w.heap.size w V := by
    rw [← hV]
    have b1 := (Below.refl w.heap.size w).alloc (Nat.le_refl _) (.cells #[.string s] 9)
    have b2 := b1.alloc b1.size (.cells #[.func (.func fid) #[] caps] 61)
    have b3 := b2.alloc b2.size (.cells #[.slice none 0 0] 60)
    have b4 := b3.alloc b3.size (.cells #[.int .i64 0] 3)
    exact b4.alloc b4.size _
  have hsz : V.heap.size = w.heap.size + 5 := by rw [← hV]; simp
  rw [hV]
  refine iN 3 (by omega) (w.heap.size + 1 + 1 + 1 + 1) s (by omega) k xs hx rfl rfl c4
    (fun pre W => (Boxed W w.heap.size 9 (.string s) ∧ Boxed W (w.heap.size + 1) 61 (.func (.func fid) #[] caps) ∧ ∃ (v : Value) (out : List Int) (p : Int), Boxed W (w.heap.size + 1 + 1) 60 v ∧ W.ownsRow w.heap.size 5 1 v out.length (bX .u8 out) ∧ Boxed W (w.heap.size + 1 + 1 + 1) 3 (.int .i64 p) ∧ ∀ rest, xs = pre ++ rest → eb T s rest p out = some o) ∧ Below w.heap.size w W)
    (fun pre W => False)
    (OwnFrom.and (Own.from (fun q X Y row hq hg hr => by
      obtain ⟨h0, h1, v, out, p, h2, h3, h4, h5⟩ := hq
      refine ⟨cX h0 hg hr, cX h1 hg hr, v, out, p, cX h2 hg hr, h3.kept hg ?_, cX h4 hg hr, h5⟩
      rcases h3.2 with ⟨rfl, _⟩ | ⟨g, cap, cur, rfl, _, hgb, _⟩
      · exact .inl rfl
      · refine .inr fun e' => ?_
        obtain ⟨o', ho, hc⟩ := hr g (by simpa [Value.ownBlock] using e'.symm)
        rw [hgb] at ho; cases ho; cases hc) _) (ownFrom_below (Nat.le_refl _) (by rw [hsz]; omega)))
    (fun _ _ _ _ hq _ _ => hq)
    ⟨⟨c0, c1, _, [], 0, c2, World.ownsRow_nil _ _ _ _, c3, fun rest hr' => by have h2 : xs = rest := hr'; rw [← h2]; exact hr⟩, hB0⟩
    (fun x => { tmps := #[.string s, .func (.func fid) #[] caps, .pointer (some ⟨w.heap.size, 0, none⟩), .pointer (some ⟨w.heap.size + 1, 0, none⟩), .string ⟨#[]⟩, .pointer (some ⟨w.heap.size + 1 + 1, 0, none⟩), .pointer (some ⟨w.heap.size + 1 + 1 + 1, 0, none⟩), .int .i64 x.1, .int .u8 x.2, undef, undef, .string s, .func (.func 84) #[] #[.pointer (some ⟨w.heap.size + 1 + 1 + 1 + 1, 0, none⟩)], .int .i64 x.1, .int .u8 x.2, undef, undef, undef, undef, undef, undef, undef, undef, undef, undef, undef, undef, undef, undef, undef, undef, undef, undef, undef, undef, undef, undef, undef, undef, undef], defers := [] }) ?assign ?body ?done ?stop
  case assign =>
    intro l x W K hK
    gi_wp2
    exact hK
  case stop =>
    rintro D pre W hD hp hF hK
    exact hF.elim
  case body =>
    rintro l pre ⟨i, b⟩ rest W hxs ⟨⟨d0, d1, v, out, p, d2, drow, d3, hrel⟩, hB⟩
    have h := hrel _ hxs
    rw [eb] at h
    by_cases hc : 0 ≤ p ∧ p ≤ i ∧ i ≤ (s.size : Int) ∧ 0 ≤ b ∧ b ≤ 255 ∧ out.length ≤ 140000000000000
    · rw [if_pos hc] at h
      obtain ⟨p0, p1, p2, q0, q1, q2⟩ := hc
      obtain ⟨⟨tt, rr⟩, hT, h⟩ := Option.bind_eq_some_iff.1 h
      dsimp only at h
      have e1 := d1.cell
      have hmx : Tryd.prog.follows .mixedOrders = true := by kernel_rfl
      cases rr with
      | false =>
        rw [if_neg (by simp)] at h
        gi_wp2_with (refine ⟨trivial, ?_⟩; rw [hen]; refine ⟨fun _ => by omega, ?_⟩; refine (CallsIn.inRound l (callsIn_wide.2 (tell i b tt false _ q0 q1 hT hB))).mono ?_; rintro e w' ⟨rfl, hb⟩)
        have g0 := bd hb d0.lt d0
        have g1 := bd hb d1.lt d1
        have g2 := bd hb d2.lt d2
        have g3 := bd hb d3.lt d3
        have drow' : w'.ownsRow w.heap.size 5 1 v out.length (bX .u8 out) := drow.kept (row := none) ⟨hb.os, hb.tape, hb.output, hb.size, fun k hk _ => hb.block k hk⟩ (Classical.em _)
        refine ⟨d7 hb, fun hbx => bd hb hbx.lt hbx, ⟨g0, g1, v, out, p, g2, drow', g3, fun rest' h' => ?_⟩, hB.trans (hb.mono hB.size)⟩
        have e : rest' = rest := by
          rw [hxs, List.append_assoc] at h'
          have := List.append_cancel_left h'
          simpa using this.symm
        rw [e]; exact h
      | true =>
       rw [if_pos rfl] at h
       by_cases hb1 : tt.size ≤ 100
       case neg => rw [if_neg hb1] at h; cases h
       rw [if_pos hb1] at h
       gi_wp2_with (refine ⟨trivial, ?_⟩; rw [hen]; refine ⟨fun _ => by omega, ?_⟩; refine (CallsIn.inRound l (callsIn_wide.2 (tell i b tt true _ q0 q1 hT hB))).mono ?_; rintro e w' ⟨rfl, hb⟩)
       have g0 := bd hb d0.lt d0
       have g1 := bd hb d1.lt d1
       have g2 := bd hb d2.lt d2
       have g3 := bd hb d3.lt d3
       have g0c := g0.cell
       have g2c := g2.cell
       have g2f := g2.frozen
       have g3c := g3.cell
       have hw1 : w.heap.size ≤ w'.heap.size := Nat.le_trans hB.size hb.size
       have drow' : w'.ownsRow w.heap.size 5 1 v out.length (bX .u8 out) := drow.kept (row := none) ⟨hb.os, hb.tape, hb.output, hb.size, fun k hk _ => hb.block k hk⟩ (Classical.em _)
       rename_i Kn hKn
       have next : ∀ (v1 : Value) (W1 : World), W1.ownsRow w.heap.size 5 1 v1 (out ++ aw (s.extract p.toNat i.toNat)).length (bX .u8 (out ++ aw (s.extract p.toNat i.toNat))) → w'.drew.grownBy W1 v.ownBlock →
           Kn { tmps := #[.string s, .func (.func fid) #[] caps, .pointer (some ⟨w.heap.size, 0, none⟩), .pointer (some ⟨w.heap.size + 1, 0, none⟩), .string ⟨#[]⟩, .pointer (some ⟨w.heap.size + 1 + 1, 0, none⟩), .pointer (some ⟨w.heap.size + 1 + 1 + 1, 0, none⟩), .int .i64 i, .int .u8 b, .string tt, .bool true, .string s, .func (.func 84) #[] #[.pointer (some ⟨w.heap.size + 1 + 1 + 1 + 1, 0, none⟩)], .int .i64 i, .int .u8 b, .tuple #[.string tt, .bool true], .func (.func fid) #[] caps, .int .i64 i, .int .u8 b, .tuple #[.string tt, .bool true], .string tt, .bool true, .bool true, v, .string s, .int .i64 p, .int .i64 i, .string (s.extract p.toNat i.toNat), v1, undef, undef, undef, undef, undef, undef, undef, undef, undef, undef, undef], defers := [] } (W1.setCell ⟨w.heap.size + 1 + 1, 0, none⟩ v1) := by
         intro v1 W1 hown1 hgrow1
         refine hKn _ _ ?_
         have g2d : Boxed w'.drew (w.heap.size + 1 + 1) 60 v := g2
         have drowd : w'.drew.ownsRow w.heap.size 5 1 v out.length (bX .u8 out) := drow'
         obtain ⟨j2, j3, j4, j5, j6⟩ := i4 g2d (by decide) drowd hw1 (by omega) hown1 hgrow1
         have m0 := j6 w.heap.size 9 _ (by omega) (by decide) g0
         have m1 := j6 (w.heap.size + 1) 61 _ (by omega) (by decide) (show Boxed w'.drew (w.heap.size + 1) 61 (.func (.func fid) #[] caps) from g1)
         have m3 := j6 (w.heap.size + 1 + 1 + 1) 3 _ (by omega) (by decide) g3
         generalize W1.setCell ⟨w.heap.size + 1 + 1, 0, none⟩ v1 = W2 at j2 j3 j4 j5 j6 m0 m1 m3 ⊢
         obtain ⟨A1, n1, c1, rfl⟩ := f7 j3
         have j2c := j2.cell
         have j2f := j2.frozen
         have hsz2 : w.heap.size ≤ W2.heap.size := Nat.le_trans hw1 j5.size
         clear hKn hown1 hgrow1
         have w3 : wrap64 (i + 3) = i + 3 := by unfold wrap64; omega
         gi_wp2_with (gi_at_builtin; refine wpListIn_plain rfl fun K hK => ?_; refine f6 (.tmp 29) (.tmp 30) rfl w.heap.size _ (out ++ aw (s.extract p.toNat i.toNat)) tt (by rfl) (by rfl) j3 (by rw [List.length_append, cL, ByteArray.size_extract]; omega) hsz2 ?_; intro v2 W3 ho2 hg2; have z2 := j2.kept hg2 (j2.not_row (by decide) j3); have z2c := z2.cell; have z2f := z2.frozen; obtain ⟨A2, n2, c2, rfl⟩ := f7 ho2; obtain ⟨y2, y3, y4, y5, y6⟩ := i4 j2 (by decide) j3 hsz2 (by omega) ho2 hg2; have z3 := (m3.kept hg2 (m3.not_row (by decide) j3)).kept (grownBy_setCell' W3 (w.heap.size + 1 + 1) (.slice A2 n2 c2)) (fun e => by injection e with e; omega); have z3c := z3.cell; have z3f := z3.frozen; refine hK _ _ ?_; clear hK K)
         have u0 := (y6 w.heap.size 9 _ (by omega) (by decide) m0).kept (grownBy_setCell' (W3.setCell ⟨w.heap.size + 1 + 1, 0, none⟩ (.slice A2 n2 c2)) (w.heap.size + 1 + 1 + 1) (.int .i64 (i + 3))) (fun e => by injection e with e; omega)
         have u1 := (y6 (w.heap.size + 1) 61 _ (by omega) (by decide) m1).kept (grownBy_setCell' (W3.setCell ⟨w.heap.size + 1 + 1, 0, none⟩ (.slice A2 n2 c2)) (w.heap.size + 1 + 1 + 1) (.int .i64 (i + 3))) (fun e => by injection e with e; omega)
         have u2 := y2.kept (grownBy_setCell' (W3.setCell ⟨w.heap.size + 1 + 1, 0, none⟩ (.slice A2 n2 c2)) (w.heap.size + 1 + 1 + 1) (.int .i64 (i + 3))) (fun e => by injection e with e; omega)
         have u3 := y3.kept (grownBy_setCell' (W3.setCell ⟨w.heap.size + 1 + 1, 0, none⟩ (.slice A2 n2 c2)) (w.heap.size + 1 + 1 + 1) (.int .i64 (i + 3))) (.inr (z3.not_row (by decide) y3).symm)
         have kk : KeepsFrom V.heap.size W ((W3.setCell ⟨w.heap.size + 1 + 1, 0, none⟩ (.slice A2 n2 c2)).setCell ⟨w.heap.size + 1 + 1 + 1, 0, none⟩ (.int .i64 (i + 3))) :=
           (d7 hb).trans ((((KeepsOthers.drew w').trans j4).trans (y4.trans (KeepsOthers.setCell _ _ _))).from _)
         have bb : Below w.heap.size w ((W3.setCell ⟨w.heap.size + 1 + 1, 0, none⟩ (.slice A2 n2 c2)).setCell ⟨w.heap.size + 1 + 1 + 1, 0, none⟩ (.int .i64 (i + 3))) :=
           (((bM (hB.trans (hb.mono hB.size))).trans j5).trans y5).setCell (p := ⟨w.heap.size + 1 + 1 + 1, 0, none⟩) (by simp; omega) _
         refine ⟨kk, fun hbx => ?_, ⟨u0, u1, _, out ++ aw (s.extract p.toNat i.toNat) ++ aw tt, i + 3, u2, ?_, z3.set _, fun rest' h' => ?_⟩, bb⟩
         · exact (y6 (w.heap.size + 1 + 1 + 1 + 1) 9 _ (by omega) (by decide) (j6 (w.heap.size + 1 + 1 + 1 + 1) 9 _ (by omega) (by decide) (show Boxed w'.drew (w.heap.size + 1 + 1 + 1 + 1) 9 (.string s) from (bd hb hbx.lt hbx : Boxed w' (w.heap.size + 1 + 1 + 1 + 1) 9 (.string s))))).kept (grownBy_setCell' (W3.setCell ⟨w.heap.size + 1 + 1, 0, none⟩ (.slice A2 n2 c2)) (w.heap.size + 1 + 1 + 1) (.int .i64 (i + 3))) (fun e => by injection e with e; omega)
         · exact u3
         · have e : rest' = rest := by
             rw [hxs, List.append_assoc] at h'
             have := List.append_cancel_left h'
             simpa using this.symm
           rw [e]; exact h
       refine wpIn_region_any hmx ?_
       (try (change wpAnyIn _ _ _ _ _ _ _ _ _ (World.drew _)))
       refine be 2 #[true, true, true, true, true, false, false] (ak fid caps tt s w.heap.size i b (v) (.string s) (.int .i64 p) (.int .i64 i) (.string (s.extract p.toNat i.toNat))) w'.drew ?_ (fun h_01234 => ?_)
       · refine wpAnyIn_ready (rs := [5]) (by kernel_rfl) (by simp) ?_
         refine AllReadyIn.cons rfl (fun K hK => ?_) AllReadyIn.nil
         rw [if_pos (by rfl)]
         refine f6 (.tmp 23) (.tmp 27) rfl w.heap.size v out (s.extract p.toNat i.toNat) (by rfl) (by rfl) drow' (by rw [ByteArray.size_extract]; omega) hw1 ?_
         intro v1 W1 ho hg
         have g2d : Boxed w'.drew (w.heap.size + 1 + 1) 60 v := g2
         have hz := g2d.kept hg (g2d.not_row (by decide) drow')
         have hzc := hz.cell
         have hzf := hz.frozen
         obtain ⟨A, n1, c1, rfl⟩ := f7 ho
         refine hK _ _ ?_
         clear hK K
         refine wpAnyIn_ready (rs := [6]) (by kernel_rfl) (by simp) ?_
         refine AllReadyIn.cons rfl (fun K hK => ?_) AllReadyIn.nil
         dsimp only [ak]
         go_simp
         refine hK _ _ ?_
         clear hK K
         refine wpAnyIn_done (by kernel_rfl) ?_ _
         exact next _ W1 ho hg
       refine be 3 #[true, true, true, true, false, false, false] (ak fid caps tt s w.heap.size i b (v) (.string s) (.int .i64 p) (.int .i64 i) undef) w'.drew ?_ (fun h_0123 => ?_)
       · refine wpAnyIn_ready (rs := [4]) (by kernel_rfl) (by simp) ?_
         refine AllReadyIn.cons rfl (fun K hK => ?_) ?_
         · dsimp only [ak]; go_simp; exact hK _ _ h_01234
         exact AllReadyIn.nil
       refine be 3 #[false, true, true, true, true, false, false] (ak fid caps tt s w.heap.size i b undef (.string s) (.int .i64 p) (.int .i64 i) (.string (s.extract p.toNat i.toNat))) w'.drew ?_ (fun h_1234 => ?_)
       · refine wpAnyIn_ready (rs := [0]) (by kernel_rfl) (by simp) ?_
         refine AllReadyIn.cons rfl (fun K hK => ?_) ?_
         · dsimp only [ak]; go_simp; exact hK _ _ h_01234
         exact AllReadyIn.nil
       refine be 4 #[true, true, true, false, false, false, false] (ak fid caps tt s w.heap.size i b (v) (.string s) (.int .i64 p) undef undef) w'.drew ?_ (fun h_012 => ?_)
       · refine wpAnyIn_ready (rs := [3]) (by kernel_rfl) (by simp) ?_
         refine AllReadyIn.cons rfl (fun K hK => ?_) ?_
         · dsimp only [ak]; go_simp; exact hK _ _ h_0123
         exact AllReadyIn.nil
       refine be 4 #[true, true, false, true, false, false, false] (ak fid caps tt s w.heap.size i b (v) (.string s) undef (.int .i64 i) undef) w'.drew ?_ (fun h_013 => ?_)
       · refine wpAnyIn_ready (rs := [2]) (by kernel_rfl) (by simp) ?_
         refine AllReadyIn.cons rfl (fun K hK => ?_) ?_
         · dsimp only [ak]; go_simp; exact hK _ _ h_0123
         exact AllReadyIn.nil
       refine be 4 #[true, false, true, true, false, false, false] (ak fid caps tt s w.heap.size i b (v) undef (.int .i64 p) (.int .i64 i) undef) w'.drew ?_ (fun h_023 => ?_)
       · refine wpAnyIn_ready (rs := [1]) (by kernel_rfl) (by simp) ?_
         refine AllReadyIn.cons rfl (fun K hK => ?_) ?_
         · dsimp only [ak]; go_simp; exact hK _ _ h_0123
         exact AllReadyIn.nil
       refine be 4 #[false, true, true, true, false, false, false] (ak fid caps tt s w.heap.size i b undef (.string s) (.int .i64 p) (.int .i64 i) undef) w'.drew ?_ (fun h_123 => ?_)
       · refine wpAnyIn_ready (rs := [0, 4]) (by kernel_rfl) (by simp) ?_
         refine AllReadyIn.cons rfl (fun K hK => ?_) ?_
         · dsimp only [ak]; go_simp; exact hK _ _ h_0123
         refine AllReadyIn.cons rfl (fun K hK => ?_) ?_
         · dsimp only [ak]; go_simp; exact hK _ _ h_1234
         exact AllReadyIn.nil
       refine be 5 #[true, true, false, false, false, false, false] (ak fid caps tt s w.heap.size i b (v) (.string s) undef undef undef) w'.drew ?_ (fun h_01 => ?_)
       · refine wpAnyIn_ready (rs := [2, 3]) (by kernel_rfl) (by simp) ?_
         refine AllReadyIn.cons rfl (fun K hK => ?_) ?_
         · dsimp only [ak]; go_simp; exact hK _ _ h_012
         refine AllReadyIn.cons rfl (fun K hK => ?_) ?_
         · dsimp only [ak]; go_simp; exact hK _ _ h_013
         exact AllReadyIn.nil
       refine be 5 #[true, false, true, false, false, false, false] (ak fid caps tt s w.heap.size i b (v) undef (.int .i64 p) undef undef) w'.drew ?_ (fun h_02 => ?_)
       · refine wpAnyIn_ready (rs := [1, 3]) (by kernel_rfl) (by simp) ?_
         refine AllReadyIn.cons rfl (fun K hK => ?_) ?_
         · dsimp only [ak]; go_simp; exact hK _ _ h_012
         refine AllReadyIn.cons rfl (fun K hK => ?_) ?_
         · dsimp only [ak]; go_simp; exact hK _ _ h_023
         exact AllReadyIn.nil
       refine be 5 #[true, false, false, true, false, false, false] (ak fid caps tt s w.heap.size i b (v) undef undef (.int .i64 i) undef) w'.drew ?_ (fun h_03 => ?_)
       · refine wpAnyIn_ready (rs := [1, 2]) (by kernel_rfl) (by simp) ?_
         refine AllReadyIn.cons rfl (fun K hK => ?_) ?_
         · dsimp only [ak]; go_simp; exact hK _ _ h_013
         refine AllReadyIn.cons rfl (fun K hK => ?_) ?_
         · dsimp only [ak]; go_simp; exact hK _ _ h_023
         exact AllReadyIn.nil
       refine be 5 #[false, true, true, false, false, false, false] (ak fid caps tt s w.heap.size i b undef (.string s) (.int .i64 p) undef undef) w'.drew ?_ (fun h_12 => ?_)
       · refine wpAnyIn_ready (rs := [0, 3]) (by kernel_rfl) (by simp) ?_
         refine AllReadyIn.cons rfl (fun K hK => ?_) ?_
         · dsimp only [ak]; go_simp; exact hK _ _ h_012
         refine AllReadyIn.cons rfl (fun K hK => ?_) ?_
         · dsimp only [ak]; go_simp; exact hK _ _ h_123
         exact AllReadyIn.nil
       refine be 5 #[false, true, false, true, false, false, false] (ak fid caps tt s w.heap.size i b undef (.string s) undef (.int .i64 i) undef) w'.drew ?_ (fun h_13 => ?_)
       · refine wpAnyIn_ready (rs := [0, 2]) (by kernel_rfl) (by simp) ?_
         refine AllReadyIn.cons rfl (fun K hK => ?_) ?_
         · dsimp only [ak]; go_simp; exact hK _ _ h_013
         refine AllReadyIn.cons rfl (fun K hK => ?_) ?_
         · dsimp only [ak]; go_simp; exact hK _ _ h_123
         exact AllReadyIn.nil
       refine be 5 #[false, false, true, true, false, false, false] (ak fid caps tt s w.heap.size i b undef undef (.int .i64 p) (.int .i64 i) undef) w'.drew ?_ (fun h_23 => ?_)
       · refine wpAnyIn_ready (rs := [0, 1]) (by kernel_rfl) (by simp) ?_
         refine AllReadyIn.cons rfl (fun K hK => ?_) ?_
         · dsimp only [ak]; go_simp; exact hK _ _ h_023
         refine AllReadyIn.cons rfl (fun K hK => ?_) ?_
         · dsimp only [ak]; go_simp; exact hK _ _ h_123
         exact AllReadyIn.nil
       refine be 6 #[true, false, false, false, false, false, false] (ak fid caps tt s w.heap.size i b (v) undef undef undef undef) w'.drew ?_ (fun h_0 => ?_)
       · refine wpAnyIn_ready (rs := [1, 2, 3]) (by kernel_rfl) (by simp) ?_
         refine AllReadyIn.cons rfl (fun K hK => ?_) ?_
         · dsimp only [ak]; go_simp; exact hK _ _ h_01
         refine AllReadyIn.cons rfl (fun K hK => ?_) ?_
         · dsimp only [ak]; go_simp; exact hK _ _ h_02
         refine AllReadyIn.cons rfl (fun K hK => ?_) ?_
         · dsimp only [ak]; go_simp; exact hK _ _ h_03
         exact AllReadyIn.nil
       refine be 6 #[false, true, false, false, false, false, false] (ak fid caps tt s w.heap.size i b undef (.string s) undef undef undef) w'.drew ?_ (fun h_1 => ?_)
       · refine wpAnyIn_ready (rs := [0, 2, 3]) (by kernel_rfl) (by simp) ?_
         refine AllReadyIn.cons rfl (fun K hK => ?_) ?_
         · dsimp only [ak]; go_simp; exact hK _ _ h_01
         refine AllReadyIn.cons rfl (fun K hK => ?_) ?_
         · dsimp only [ak]; go_simp; exact hK _ _ h_12
         refine AllReadyIn.cons rfl (fun K hK => ?_) ?_
         · dsimp only [ak]; go_simp; exact hK _ _ h_13
         exact AllReadyIn.nil
       refine be 6 #[false, false, true, false, false, false, false] (ak fid caps tt s w.heap.size i b undef undef (.int .i64 p) undef undef) w'.drew ?_ (fun h_2 => ?_)
       · refine wpAnyIn_ready (rs := [0, 1, 3]) (by kernel_rfl) (by simp) ?_
         refine AllReadyIn.cons rfl (fun K hK => ?_) ?_
         · dsimp only [ak]; go_simp; exact hK _ _ h_02
         refine AllReadyIn.cons rfl (fun K hK => ?_) ?_
         · dsimp only [ak]; go_simp; exact hK _ _ h_12
         refine AllReadyIn.cons rfl (fun K hK => ?_) ?_
         · dsimp only [ak]; go_simp; exact hK _ _ h_23
         exact AllReadyIn.nil
       refine be 6 #[false, false, false, true, false, false, false] (ak fid caps tt s w.heap.size i b undef undef undef (.int .i64 i) undef) w'.drew ?_ (fun h_3 => ?_)
       · refine wpAnyIn_ready (rs := [0, 1, 2]) (by kernel_rfl) (by simp) ?_
         refine AllReadyIn.cons rfl (fun K hK => ?_) ?_
         · dsimp only [ak]; go_simp; exact hK _ _ h_03
         refine AllReadyIn.cons rfl (fun K hK => ?_) ?_
         · dsimp only [ak]; go_simp; exact hK _ _ h_13
         refine AllReadyIn.cons rfl (fun K hK => ?_) ?_
         · dsimp only [ak]; go_simp; exact hK _ _ h_23
         exact AllReadyIn.nil
       refine wpAnyIn_ready (rs := [0, 1, 2, 3]) (by kernel_rfl) (by simp) ?_
       refine AllReadyIn.cons rfl (fun K hK => ?_) ?_
       · dsimp only [ak]; go_simp; exact hK _ _ h_0
       refine AllReadyIn.cons rfl (fun K hK => ?_) ?_
       · dsimp only [ak]; go_simp; exact hK _ _ h_1
       refine AllReadyIn.cons rfl (fun K hK => ?_) ?_
       · dsimp only [ak]; go_simp; exact hK _ _ h_2
       refine AllReadyIn.cons rfl (fun K hK => ?_) ?_
       · dsimp only [ak]; go_simp; exact hK _ _ h_3
       exact AllReadyIn.nil
    · rw [if_neg hc] at h; cases h
  case done =>
    rintro D W hD ⟨⟨d0, d1, v, out, p, d2, drow, d3, hrel⟩, hB⟩ hKd0
    have h := hrel [] (by simp)
    rw [eb] at h
    by_cases hc : 0 ≤ p ∧ p ≤ (s.size : Int) ∧ out.length ≤ 140000000000000
    · rw [if_pos hc] at h
      have h := Option.some.inj h
      obtain ⟨p0, p1, p2⟩ := hc
      have e0 := d0.cell
      have e2 := d2.cell
      have e3 := d3.cell
      have hmx : Tryd.prog.follows .mixedOrders = true := by kernel_rfl
      have drowd : W.drew.ownsRow w.heap.size 5 1 v out.length (bX .u8 out) := drow
      have hKd : W.drew.heap[D]? = some (.deferred (some [])) := hKd0
      have hwD : w.heap.size ≤ W.drew.heap.size := hB.size
      gi_wp2
      refine wpIn_region_any hmx ?_
      (try (change wpAnyIn _ _ _ _ _ _ _ _ _ (World.drew _)))
      refine be 3 #[true, true, true, true, false, false, false] (aR fid caps s w.heap.size D (v) (.string s) (.int .i64 p) (.string (s.extract p.toNat s.size))) W.drew ?_ (fun h_0123 => ?_)
      · refine wpAnyIn_ready (rs := [4]) (by kernel_rfl) (by simp) ?_
        refine AllReadyIn.cons rfl (fun K hK => ?_) AllReadyIn.nil
        rw [if_pos (by rfl)]
        refine f6 (.tmp 34) (.tmp 37) rfl w.heap.size v out (s.extract p.toNat s.size) (by rfl) (by rfl) drowd (by rw [ByteArray.size_extract]; omega) hwD ?_
        intro v1 W1 ho hg
        have hcv := dx (P := Tryd.prog) Tryd.underlying60 Tryd.underlying5 Tryd.underlying9 ho
        have hK1 : W1.heap[D]? = some (.deferred (some [])) := (hg.block D (Array.getElem?_eq_some_iff.1 hKd).1 (fun e => by have := fN drowd D _ e.symm hKd; cases this)).trans hKd
        have hb1 : Below w.heap.size W.drew W1 := (Below.refl w.heap.size W.drew).grown hg hwD (fun j ej => by
          rcases drowd.2 with ⟨rfl, _⟩ | ⟨g, cap, cur, rfl, hb, _, _⟩
          · simp [Value.ownBlock] at ej
          · obtain rfl : g = j := by simpa [Value.ownBlock] using ej
            exact hb)
        refine hK _ _ ?_
        clear hK K
        refine wpAnyIn_ready (rs := [5]) (by kernel_rfl) (by simp) ?_
        refine AllReadyIn.cons rfl (fun K hK => ?_) AllReadyIn.nil
        dsimp only [aR]
        go_simp
        refine hK _ _ ?_
        clear hK K
        refine wpAnyIn_ready (rs := [6]) (by kernel_rfl) (by simp) ?_
        refine AllReadyIn.cons rfl (fun K hK => ?_) AllReadyIn.nil
        go_simp
        refine hK _ _ ?_
        clear hK K
        refine wpAnyIn_done (by kernel_rfl) ?_ _
        gi_wp2
        refine ⟨by simp, .inl ⟨_, _, rfl, run_takeDeferred hK1, ?_⟩⟩
        exact ⟨_, results_tmp rfl _ _ _, rfl, ((bM hB).trans hb1).trans (belowK_b (w := w) (Nat.le_refl _) W1 D _ _ (by rw [hsz] at hD; omega) hK1 rfl rfl)⟩
      refine be 4 #[true, true, true, false, false, false, false] (aR fid caps s w.heap.size D (v) (.string s) (.int .i64 p) undef) W.drew ?_ (fun h_012 => ?_)
      · refine wpAnyIn_ready (rs := [3]) (by kernel_rfl) (by simp) ?_
        refine AllReadyIn.cons rfl (fun K hK => ?_) ?_
        · dsimp only [aR]; go_simp; exact hK _ _ h_0123
        exact AllReadyIn.nil
      refine be 4 #[false, true, true, true, false, false, false] (aR fid caps s w.heap.size D undef (.string s) (.int .i64 p) (.string (s.extract p.toNat s.size))) W.drew ?_ (fun h_123 => ?_)
      · refine wpAnyIn_ready (rs := [0]) (by kernel_rfl) (by simp) ?_
        refine AllReadyIn.cons rfl (fun K hK => ?_) ?_
        · dsimp only [aR]; go_simp; exact hK _ _ h_0123
        exact AllReadyIn.nil
      refine be 5 #[true, true, false, false, false, false, false] (aR fid caps s w.heap.size D (v) (.string s) undef undef) W.drew ?_ (fun h_01 => ?_)
      · refine wpAnyIn_ready (rs := [2]) (by kernel_rfl) (by simp) ?_
        refine AllReadyIn.cons rfl (fun K hK => ?_) ?_
        · dsimp only [aR]; go_simp; exact hK _ _ h_012
        exact AllReadyIn.nil
      refine be 5 #[true, false, true, false, false, false, false] (aR fid caps s w.heap.size D (v) undef (.int .i64 p) undef) W.drew ?_ (fun h_02 => ?_)
      · refine wpAnyIn_ready (rs := [1]) (by kernel_rfl) (by simp) ?_
        refine AllReadyIn.cons rfl (fun K hK => ?_) ?_
        · dsimp only [aR]; go_simp; exact hK _ _ h_012
        exact AllReadyIn.nil
      refine be 5 #[false, true, true, false, false, false, false] (aR fid caps s w.heap.size D undef (.string s) (.int .i64 p) undef) W.drew ?_ (fun h_12 => ?_)
      · refine wpAnyIn_ready (rs := [0, 3]) (by kernel_rfl) (by simp) ?_
        refine AllReadyIn.cons rfl (fun K hK => ?_) ?_
        · dsimp only [aR]; go_simp; exact hK _ _ h_012
        refine AllReadyIn.cons rfl (fun K hK => ?_) ?_
        · dsimp only [aR]; go_simp; exact hK _ _ h_123
        exact AllReadyIn.nil
      refine be 6 #[true, false, false, false, false, false, false] (aR fid caps s w.heap.size D (v) undef undef undef) W.drew ?_ (fun h_0 => ?_)
      · refine wpAnyIn_ready (rs := [1, 2]) (by kernel_rfl) (by simp) ?_
        refine AllReadyIn.cons rfl (fun K hK => ?_) ?_
        · dsimp only [aR]; go_simp; exact hK _ _ h_01
        refine AllReadyIn.cons rfl (fun K hK => ?_) ?_
        · dsimp only [aR]; go_simp; exact hK _ _ h_02
        exact AllReadyIn.nil
      refine be 6 #[false, true, false, false, false, false, false] (aR fid caps s w.heap.size D undef (.string s) undef undef) W.drew ?_ (fun h_1 => ?_)
      · refine wpAnyIn_ready (rs := [0, 2]) (by kernel_rfl) (by simp) ?_
        refine AllReadyIn.cons rfl (fun K hK => ?_) ?_
        · dsimp only [aR]; go_simp; exact hK _ _ h_01
        refine AllReadyIn.cons rfl (fun K hK => ?_) ?_
        · dsimp only [aR]; go_simp; exact hK _ _ h_12
        exact AllReadyIn.nil
      refine be 6 #[false, false, true, false, false, false, false] (aR fid caps s w.heap.size D undef undef (.int .i64 p) undef) W.drew ?_ (fun h_2 => ?_)
      · refine wpAnyIn_ready (rs := [0, 1]) (by kernel_rfl) (by simp) ?_
        refine AllReadyIn.cons rfl (fun K hK => ?_) ?_
        · dsimp only [aR]; go_simp; exact hK _ _ h_02
        refine AllReadyIn.cons rfl (fun K hK => ?_) ?_
        · dsimp only [aR]; go_simp; exact hK _ _ h_12
        exact AllReadyIn.nil
      refine wpAnyIn_ready (rs := [0, 1, 2]) (by kernel_rfl) (by simp) ?_
      refine AllReadyIn.cons rfl (fun K hK => ?_) ?_
      · dsimp only [aR]; go_simp; exact hK _ _ h_0
      refine AllReadyIn.cons rfl (fun K hK => ?_) ?_
      · dsimp only [aR]; go_simp; exact hK _ _ h_1
      refine AllReadyIn.cons rfl (fun K hK => ?_) ?_
      · dsimp only [aR]; go_simp; exact hK _ _ h_2
      exact AllReadyIn.nil
    · rw [if_neg hc] at h; cases h
end
set_option maxHeartbeats 2000000 in
theorem jr (i b : Int) (hb0 : 0 ≤ b) (hb1 : b ≤ 255) (w : World) : Calls Tryd.prog 43 #[.int .i64 i, .int .u8 b] w fun e w' => e = .returned (.tuple #[.string (strOfNums [b]), .bool true]) ∧ Below w.heap.size w w' := by
  have HB := Zz.mk (Below.refl w.heap.size w)
  go_enter Tryd.func43, Tryd.ntmps43
  go_wp2_with (first | ((with_reducible refine ab (N := 7) rfl ?_); refine Kd.R_lit (Kd.int .u8) _ 5 ?hg (N := 7) ?hd (xs := ([b] : List Int)) (inner := [.int .u8 b]) (ok := fun _ => True) (okp := fun _ => True) ?hr ?hp (fun _ hk => hk) trivial (Below.refl _ _) (Nat.le_refl _) (by simp) ?_; (case hd => rfl); (case hg => rfl); (case hr => first | (go_simp; done) | (go_simp; rfl)); (case hp => exact (Reps.one (show Kd.M (Kd.int .u8) _ _ _ b [.int .u8 b] from rfl) (Reps.none _ _))); intro v149 w4 ho5 hb hg_ hnew_; clear hg_ hnew_; have HO150 := Zz.mk (Kd.R_lower ho5 (aA xbl)); replace HB := xst hb; clear hb ho5; have hcv6 := dx (P := Tryd.prog) Tryd.underlying60 Tryd.underlying5 Tryd.underlying9 (Kd.own_of_R HO150.out)))
  go_ret2
  exact ⟨xre, xbl⟩
def ce (k : Nat) (a0 : ByteArray) : Option (ByteArray × Bool) := if a0.size ≤ 1000000 then (cF k a0 0).bind fun xs => (b9 k a0 xs 0).bind fun r => if r = true then (eb (fun b => some (strOfNums [b], true)) a0 xs 0 []).bind fun o => some (strOfNums o, true) else some ((⟨#[]⟩ : ByteArray), false) else none
theorem dJ : ∀ a0 k, LeO (ce k a0) (ce (k + 1) a0) := fun a0 k =>
  LeO.ite (LeO.bind (eX k a0 0) (fun xs => LeO.bind (fk k a0 xs 0) (fun r => LeO.refl _))) (LeO.refl _)
set_option maxHeartbeats 2000000 in
theorem fb (k : Nat) (a0 : ByteArray) (r1 : ByteArray) (r2 : Bool) (w : World) (h : ce k a0 = some (r1, r2)) :
    Calls Tryd.prog 27 #[.string a0] w fun e w' => e = .returned (.tuple #[.string r1, .bool r2]) ∧ Below w.heap.size w w' := by
 unfold ce at h
 by_cases hs : a0.size ≤ 1000000
 · rw [if_pos hs] at h
   obtain ⟨xs, hx, h⟩ := Option.bind_eq_some_iff.1 h
   obtain ⟨r, hr, h⟩ := Option.bind_eq_some_iff.1 h
   cases r
   · rw [if_neg (by simp)] at h
     obtain ⟨rfl, rfl⟩ := Prod.mk.inj (Option.some.inj h)
     go_enter Tryd.func27, Tryd.ntmps27
     go_wp2_with (go_at_call 41; refine (gh k a0 (by omega) xs hx false hr _).mono ?_; rintro e w' ⟨rfl, hb⟩)
     go_ret2
     exact ⟨rfl, hb⟩
   · rw [if_pos rfl] at h
     obtain ⟨o, ho, h⟩ := Option.bind_eq_some_iff.1 h
     obtain ⟨rfl, rfl⟩ := Prod.mk.inj (Option.some.inj h)
     go_enter Tryd.func27, Tryd.ntmps27
     go_wp2_with (first | (go_at_call 41; refine (gh k a0 (by omega) xs hx true hr _).mono ?_; rintro e w' ⟨rfl, hb⟩) | (go_at_call 42; refine (iV 43 #[] (fun b => some (strOfNums [b], true)) k a0 hs xs hx o ho _ (enters_of Tryd.func43 (by kernel_rfl) rfl) (fun i b tt r W h0 h1 hT _ => by obtain ⟨rfl, rfl⟩ := Prod.mk.inj (Option.some.inj hT); exact jr i b h0 h1 W)).mono ?_; rintro e w2 ⟨rfl, hb2⟩))
     go_ret2
     exact ⟨rfl, hb.trans (hb2.mono hb.size)⟩
 · rw [if_neg hs] at h; cases h
end Go.Proofs.YtmofhijbheimmaaDoor.X
