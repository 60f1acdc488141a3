/- Texts that the law's proof needs, joined by a program of this session. -/
import Derived.Test.YtediodhkimacjaaZPunyPlain0
import Derived.Test.YtediodhkimacjaaZPunyPlain1
set_option maxHeartbeats 8000000
set_option maxRecDepth 100000
set_option linter.unusedSimpArgs false
set_option linter.unusedVariables false
namespace Go.Proofs.Ytediodhkimacjaa.X
open Go.RowKit Go.Proofs.YtediodhkimacjaaW.PrintWords Go.Proofs.YtediodhkimacjaaW.PrintLast Go.Proofs.YtediodhkimacjaaW.PrintMore
attribute [local go_sem] bL bF ck cC bK cv bm cp cr cA cB ca cd cq ct
def a8 (l0 : List Int) (a1 : Int) (l2 : List Int) : Option (List Int) := match l2 with
  | [x] => if 0 ≤ a1 ∧ a1 ≤ (l0.length : Int) ∧ l0.length ≤ 1000000000 then some (l0.take a1.toNat ++ x :: l0.drop a1.toNat) else none
  | _ => none
def aa (cur : Array Value) (o : Nat) (vs : List Value) : Array Value := (cur.toList.take o ++ vs ++ cur.toList.drop (o + vs.length)).toArray
theorem au (cur : Array Value) (o : Nat) (vs : List Value) (h : o + vs.length ≤ cur.size) : (aa cur o vs).size = cur.size := by
  unfold aa
  simp; omega
theorem aH (b off j : Nat) : ((⟨b, off, none⟩ : Addr).add j) = ⟨b, off + j, none⟩ := by unfold Addr.add; split <;> simp_all
theorem aI {W : World} {g n : Nat} {cur : Array Value} {cs : List Value} {t : TypeId} (hg : W.heap[g]? = some (.cells cur t (0, 0))) (hcs : cur.toList.take n = cs) (j : Nat) (v : Value) (hj : cs[j]? = some v) : W.cell? ⟨g, j, none⟩ = some v := by
  rw [cell_of_row _ _ _ _ _ _ hg]
  rw [← hcs, List.getElem?_take] at hj
  split at hj
  · simpa using hj
  · cases hj
theorem bl {w W : World} {S : Nat → Prop} {g : Nat} (h : Kept w W S) (hg : S g ∨ w.heap.size ≤ g) (R : Array Value) : Kept w (W.setRow g R) S :=
  Kept.of_keep h ⟨by simp [World.setRow], fun i _ hn _ => setRow_other _ _ _ _ hn⟩ hg
set_option maxHeartbeats 4000000 in
theorem bN (w : World) (g off n cap i vb voff m vc : Nat) (x : Int) (cs : List Value) (cur cur2 : Array Value) (hoff : off = 0) (hvoff : voff = 0) (hm : m = 1) (hi : i < n) (hroom : n + m ≤ cap) (hc63 : cap ≤ 9223372036854775807) (hvb : vb ≠ g)
    (hg : w.heap[g]? = some (.cells cur 21 (0, 0))) (hv : w.heap[vb]? = some (.cells cur2 21 (0, 0))) (hsz : cur.size = cap) (hcs : cur.toList.take n = cs) (hcl : cs.length = n) (h1c : ∀ v ∈ cs, v.oneCell' = true) (hvx : cur2.toList.take 1 = [.int .i32 x]) :
    Calls Try.prog 21 #[.slice (some ⟨g, off, none⟩) n cap, .int .i64 i, .slice (some ⟨vb, voff, none⟩) m vc] w fun e w' =>
      e = .returned (.slice (some ⟨g, off, none⟩) (n + m) cap) ∧ w' = (w.drew.setRow g (aa cur (i + 1) (cs.drop i))).setRow g (aa (aa cur (i + 1) (cs.drop i)) i [.int .i32 x]) := by
  have hu := Try.underlying23
  have hz1 : ¬ ((m : Int) = 0) := by omega
  have hz2 : ¬ ((i : Int) = (n : Int)) := by omega
  have hz3 : ¬ ((n : Int) + (m : Int) > (cap : Int)) := by omega
  have hfi : (Try.prog.info? 21).map (·.size) = some 1 := by kernel_rfl
  have hso : ∀ W : World, (Go.sizeOf 21).run Try.prog W = .ok 1 W := fun W => by
    obtain ⟨i0, h0, h1⟩ := Option.map_eq_some_iff.1 hfi
    rw [run_sizeOf W h0]
    simp [Program.cellsOf, h0, h1]
  have hsa : w.shape? vb = some (21, cur2.size) := by simp [World.shape?, hv]
  have hsb : w.shape? g = some (21, cap) := by simp [World.shape?, hg, hsz]
  have hov : ∀ lb cb, (callFunc 26 #[.slice (some ⟨vb, voff, none⟩) m vc, .slice (some ⟨g, off + (i + m), none⟩) lb cb]).run Try.prog w = .ok (.value (.bool false)) w := fun lb cb => by
    rw [run_callFunc_extern Try.func26 (by kernel_rfl) (by kernel_rfl) (by kernel_rfl) (e := Extern.SlicesOverlaps.overlaps #[23, 23] #[4]) (by kernel_rfl),
      Lib.run_overlaps_apart w 23 4 21 hu 1 hso ⟨vb, voff, none⟩ ⟨g, off + (i + m), none⟩ m vc lb cb hvb 21 21 cur2.size cap hsa hsb (by omega) (al hv _) (al hv _)]
    rfl
  have hw1 : IntKind.i64.wrap ((i : Int) + (m : Int)) = (i : Int) + (m : Int) := by rw [IntKind.wrap_i64]; omega
  have hw2 : IntKind.i64.wrap ((n : Int) + (m : Int)) = (n : Int) + (m : Int) := by rw [IntKind.wrap_i64]; omega
  have hb1 : (0 : Int) ≤ (i : Int) + (m : Int) := by omega
  have hin : i ≤ n := by omega
  have htn : ((i : Int) + (m : Int)).toNat = i + m := by omega
  have hb2 : ¬ (cap = i + m) := by omega
  have hb3 : (i : Int) ≤ (n : Int) + (m : Int) := by omega
  have hb4 : ¬ (cap = i) := by omega
  have hdl : (cs.drop i).length = n - i := by rw [List.length_drop, hcl]
  have hcp1 : ∀ ty dc sc, (Builtin.copy_ #[23, 23] ty #[.slice (some ⟨g, off + (i + m), none⟩) (n + m - (i + m)) dc, .slice (some ⟨g, off + i, none⟩) (n + m - i) sc]).run Try.prog w.drew = .ok (goInt (cs.drop i).length) (w.drew.setRow g (aa cur (i + 1) (cs.drop i))) := fun ty dc sc => by
    subst hoff; subst hm
    rw [Nat.zero_add, Nat.zero_add]
    exact run_copy_row Try.prog w.drew 23 23 ty 21 g (i + 1) _ dc ⟨g, i, none⟩ _ sc cur 21 (cs.drop i) hu hfi hg (by rw [hdl]; simp only [Nat.min_def]; split <;> omega)
      (fun j v hj => by rw [aH]; exact aI (W := w) hg hcs (i + j) v (by rwa [List.getElem?_drop] at hj)) (by rw [hdl]; omega) (fun v hv => h1c v (List.mem_of_mem_drop hv))
  have hW1g : (w.drew.setRow g (aa cur (i + 1) (cs.drop i))).heap[g]? = some (.cells (aa cur (i + 1) (cs.drop i)) 21 (0, 0)) := setRow_heap _ _ _ _ _ _ hg
  have hW1v : (w.drew.setRow g (aa cur (i + 1) (cs.drop i))).heap[vb]? = some (.cells cur2 21 (0, 0)) := (setRow_other _ _ _ _ hvb).trans hv
  have hps : (aa cur (i + 1) (cs.drop i)).size = cap := by rw [au _ _ _ (by rw [hdl]; omega), hsz]
  generalize aa cur (i + 1) (cs.drop i) = R1 at hcp1 hW1g hW1v hps ⊢
  generalize w.drew.setRow g R1 = W1 at hcp1 hW1g hW1v ⊢
  have hcp2 : ∀ ty dc, (Builtin.copy_ #[23, 23] ty #[.slice (some ⟨g, off + i, none⟩) (n + m - i) dc, .slice (some ⟨vb, voff, none⟩) m vc]).run Try.prog W1 = .ok (goInt 1) (W1.setRow g (aa R1 i [.int .i32 x])) := fun ty dc => by
    subst hoff; subst hm; subst hvoff
    rw [Nat.zero_add]
    exact run_copy_row Try.prog W1 23 23 ty 21 g i _ dc ⟨vb, 0, none⟩ _ vc R1 21 [.int .i32 x] hu hfi hW1g (by simp only [Nat.min_def, List.length_cons, List.length_nil]; split <;> omega)
      (fun j v hj => by rw [aH, Nat.zero_add]; exact aI hW1v hvx j v hj) (by simp only [List.length_cons, List.length_nil]; omega) (fun v hv => by rw [List.mem_singleton.1 hv]; rfl)
  have mixed : Try.prog.follows .mixedOrders = true := by kernel_rfl
  clear hoff hvoff hm
  go_enter Try.func21, Try.ntmps21
  go_wp2_with (simp only [hov])
  go_region_law_o (refine step_copy_runI rfl _ _ 23 23 rfl _ _ (by simp [Act.eval, Act.put]) (by simp [Act.eval, Act.put]) (hcp1 _ _ _) ?_)
  go_wp2_with (at_builtin; refine wpList_copy_runI _ rfl _ _ 23 23 rfl _ _ rfl rfl (hcp2 _ _) ?_)
  go_ret
  exact ⟨rfl, rfl⟩
set_option maxHeartbeats 4000000 in
theorem bP (w : World) (g off n cap i vb voff m vc : Nat) (x : Int) (cs : List Value) (cur cur2 : Array Value) (hoff : off = 0) (hvoff : voff = 0) (hm : m = 1) (hi : i < n) (hnc : n ≤ cap) (hroom : cap < n + m) (hbig : n ≤ 1000000000)
    (hg : w.heap[g]? = some (.cells cur 21 (0, 0))) (hv : w.heap[vb]? = some (.cells cur2 21 (0, 0))) (hcs : cur.toList.take n = cs) (hcl : cs.length = n) (h1c : ∀ v ∈ cs, v.oneCell' = true) (hvx : cur2.toList.take 1 = [.int .i32 x]) :
    ∃ (G : Nat) (ROW : Array Value), n + 1 ≤ G ∧ G ≤ maxLen ∧ ROW.size = G ∧ ROW.toList.take i = cs.take i ∧
      Calls Try.prog 21 #[.slice (some ⟨g, off, none⟩) n cap, .int .i64 i, .slice (some ⟨vb, voff, none⟩) m vc] w fun e w' =>
      e = .returned (.slice (some ⟨w.heap.size, 0, none⟩) (n + m) G) ∧ ∃ W, W.heap = (((w.alloc (.cells ROW 21)).setRow w.heap.size (aa ROW i [.int .i32 x])).setRow w.heap.size (aa (aa ROW i [.int .i32 x]) (i + 1) (cs.drop i))).heap ∧ Below w.heap.size w W ∧ w' = W := by
  have hu := Try.underlying23
  have hfi : (Try.prog.info? 21).map (·.size) = some 1 := by kernel_rfl
  obtain ⟨i0, hi0, hz0, hzs, hzb⟩ := info_parts (show (Try.prog.info? 21).map (fun i => (i.zero, i.size, i.bytes)) = some (some (.int .i32 0), 1, 4) by kernel_rfl)
  have hz1 : ¬ ((m : Int) = 0) := by omega
  have hz2 : ¬ ((i : Int) = (n : Int)) := by omega
  have hz3 : (cap : Int) < (n : Int) + (m : Int) := by omega
  have hgw : g < w.heap.size := cy hg
  have hvw : vb < w.heap.size := cy hv
  have hkk : (n : Int) + (m : Int) - (i : Int) = ((n + m - i : Nat) : Int) := by omega
  have hik : i + (n + m - i) = n + m := by omega
  have hold : (Builtin.firstCells i0.size i (.slice (some ⟨g, off, none⟩) i cap)).run Try.prog w.drew = .ok (cs.take i).toArray w.drew := by
    rw [hzs]
    subst hoff
    exact run_firstCells_some w.drew 1 i ⟨g, 0, none⟩ i cap (cs.take i) (by rw [List.length_take]; omega) (fun j v hj => by
      rw [aH, Nat.zero_add]
      rw [List.getElem?_take] at hj
      split at hj
      · exact aI (W := w) hg hcs j v hj
      · cases hj)
  have hrz : ∀ ty, (Builtin.append_ #[23, 3] ty #[.slice (some ⟨g, off, none⟩) i cap, .int .i64 ((n : Int) + (m : Int) - (i : Int))]).run Try.prog w =
      .ok (.slice (some ⟨w.heap.size, 0, none⟩) (n + m) (grownCap w (n + m) cap 21)) (w.drew.alloc (.cells ((cs.take i).toArray ++ Builtin.zeroCells (Value.int .i32 0).cells (n + m - i) ++ Builtin.zeroCells (Value.int .i32 0).cells (grownCap w (n + m) cap 21 - (n + m))) 21)) := fun ty => by
    have h := Lib.run_append_grow_zeros w 23 3 ty 21 i0 _ .i64 .i64 hu Try.underlying3 hi0 hz0 (some ⟨g, off, none⟩) i cap (cs.take i) hold (n + m - i) (by omega) (by omega) (by omega) (by omega) (by rw [hzb]; omega) (by rw [hzb, hik]; exact growslice_fits hroom (by omega))
    rw [hik] at h
    rw [hkk]
    exact h
  have hGn : n + m ≤ grownCap w (n + m) cap 21 := grownCap_ge w _ _ _
  have hGm : grownCap w (n + m) cap 21 ≤ maxLen := grownCap_le_maxLen w (n + m) cap 21 (by unfold maxLen; omega)
  generalize grownCap w (n + m) cap 21 = G at hrz hGn hGm
  obtain ⟨ROW, hROW⟩ : ∃ ROW : Array Value, ROW = (cs.take i).toArray ++ Builtin.zeroCells (Value.int .i32 0).cells (n + m - i) ++ Builtin.zeroCells (Value.int .i32 0).cells (G - (n + m)) := ⟨_, rfl⟩
  rw [← hROW] at hrz
  have hcti : (cs.take i).length = i := by rw [List.length_take]; omega
  have hRs : ROW.size = G := by rw [hROW]; simp [Builtin.zeroCells, Value.cells]; omega
  have hRt : ROW.toList.take i = cs.take i := by
    rw [hROW, Array.toList_append, Array.toList_append, List.toList_toArray, List.append_assoc]
    rw [List.take_append_of_le_length (by rw [hcti]; exact Nat.le_refl _), List.take_of_length_le (by rw [hcti]; exact Nat.le_refl _)]
  refine ⟨G, ROW, by omega, hGm, hRs, hRt, ?_⟩
  have hN : (w.alloc (.cells ROW 21)).heap[w.heap.size]? = some (.cells ROW 21 (0, 0)) := World.alloc_heap_new w _
  have hNv : (w.alloc (.cells ROW 21)).heap[vb]? = some (.cells cur2 21 (0, 0)) := (Below.heap_alloc _ _ _ hvw).trans hv
  have hNg : (w.alloc (.cells ROW 21)).heap[g]? = some (.cells cur 21 (0, 0)) := (Below.heap_alloc _ _ _ hgw).trans hg
  have hcpA : ∀ (W : World), W.heap = (w.alloc (.cells ROW 21)).heap → ∀ ty dc, (Builtin.copy_ #[23, 23] ty #[.slice (some ⟨w.heap.size, i, none⟩) (n + m - i) dc, .slice (some ⟨vb, voff, none⟩) m vc]).run Try.prog W = .ok (goInt 1) (W.setRow w.heap.size (aa ROW i [.int .i32 x])) := fun W hW ty dc => by
    subst hm; subst hvoff
    exact run_copy_row Try.prog W 23 23 ty 21 w.heap.size i _ dc ⟨vb, 0, none⟩ _ vc ROW 21 [.int .i32 x] hu hfi (by rw [hW]; exact hN) (by simp only [Nat.min_def, List.length_cons, List.length_nil]; split <;> omega)
      (fun j v hj => by rw [aH, Nat.zero_add]; exact aI (by rw [hW]; exact hNv) hvx j v hj) (by simp only [List.length_cons, List.length_nil]; omega) (fun v hv => by rw [List.mem_singleton.1 hv]; rfl)
  have hdl : (cs.drop i).length = n - i := by rw [List.length_drop, hcl]
  have hcpB : ∀ (W : World), W.heap = ((w.alloc (.cells ROW 21)).setRow w.heap.size (aa ROW i [.int .i32 x])).heap → ∀ ty dc sc, (Builtin.copy_ #[23, 23] ty #[.slice (some ⟨w.heap.size, i + m, none⟩) (n + m - (i + m)) dc, .slice (some ⟨g, off + i, none⟩) (n - i) sc]).run Try.prog W = .ok (goInt (cs.drop i).length) (W.setRow w.heap.size (aa (aa ROW i [.int .i32 x]) (i + 1) (cs.drop i))) := fun W hW ty dc sc => by
    subst hm; subst hoff
    rw [Nat.zero_add]
    exact run_copy_row Try.prog W 23 23 ty 21 w.heap.size (i + 1) _ dc ⟨g, i, none⟩ _ sc (aa ROW i [.int .i32 x]) 21 (cs.drop i) hu hfi (by rw [hW]; exact setRow_heap _ _ _ _ _ _ hN) (by rw [hdl]; simp only [Nat.min_def]; split <;> omega)
      (fun j v hj => by rw [aH]; exact aI (W := W) (by rw [hW]; exact (setRow_other _ _ _ _ (by omega)).trans hNg) hcs (i + j) v (by rwa [List.getElem?_drop] at hj)) (by rw [hdl, au _ _ _ (by simp only [List.length_cons, List.length_nil]; omega)]; omega) (fun v hv => h1c v (List.mem_of_mem_drop hv))
  have hG63 : G ≤ 9223372036854775807 := by unfold maxLen at hGm; omega
  have hGi : ¬ (G = i) := by omega
  have hGim : ¬ (G = i + m) := by omega
  have hci : ¬ (cap = i) := by omega
  have hw1 : IntKind.i64.wrap ((i : Int) + (m : Int)) = (i : Int) + (m : Int) := by rw [IntKind.wrap_i64]; omega
  have hw2 : IntKind.i64.wrap ((n : Int) + (m : Int)) = (n : Int) + (m : Int) := by rw [IntKind.wrap_i64]; omega
  have hw3 : IntKind.i64.wrap ((n : Int) + (m : Int) - (i : Int)) = (n : Int) + (m : Int) - (i : Int) := by rw [IntKind.wrap_i64]; omega
  have hb1 : (0 : Int) ≤ (i : Int) + (m : Int) := by omega
  have hin : i ≤ n := by omega
  have htn : ((i : Int) + (m : Int)).toNat = i + m := by omega
  have hb3 : (i : Int) ≤ (n : Int) := by omega
  have mixed : Try.prog.follows .mixedOrders = true := by kernel_rfl
  have hA1 := hcpA (w.alloc (.cells ROW 21)).drew rfl
  clear hcpA hkk hik hold hROW hRs hRt hN hNv hNg hoff hvoff hm hi0 hz0 hzs hzb hcs hvx hcti
  go_enter Try.func21, Try.ntmps21
  go_wp2_with (first
    | (at_builtin; refine Lib.wpList_append_run _ rfl _ _ _ _ rfl _ _ rfl rfl _ _ (hrz _) ?_)
    | (simp only [hA1]))
  go_region_law_o (refine step_copy_runI rfl _ _ 23 23 rfl (.slice (some ⟨w.heap.size, i + m, none⟩) (n + m - (i + m)) (G - (i + m))) (.slice (some ⟨g, off + i, none⟩) (n - i) (cap - i)) (by simp [Act.eval, Act.put]) (by simp [Act.eval, Act.put]) (hcpB _ (by rfl) 3 (G - (i + m)) (cap - i)) ?_)
  go_wp2
  go_ret
  refine ⟨rfl, _, ?_, ?_, rfl⟩
  · rfl
  · exact below_setRow (bH (below_setRow (bH (af (Below.refl _ _) _)) (Nat.le_refl _) _)) (Nat.le_refl _) _
theorem aJ (cur : Array Value) (o : Nat) (vs : List Value) : (aa cur o vs).toList = cur.toList.take o ++ vs ++ cur.toList.drop (o + vs.length) := by unfold aa; rfl
theorem bQ {cur : Array Value} {i n : Nat} {cs : List Value} {x : Value} (hcs : cur.toList.take n = cs) (hcl : cs.length = n) (hi : i < n) (hsz : n + 1 ≤ cur.size) :
    (aa (aa cur (i + 1) (cs.drop i)) i [x]).toList.take (n + 1) = cs.take i ++ x :: cs.drop i := by
  have hA : cur.toList.length = cur.size := Array.length_toList
  have h1 : cur.toList.take i = cs.take i := by rw [← hcs, List.take_take, Nat.min_eq_left (by omega)]
  have h2 : (cs.take i).length = i := by rw [List.length_take]; omega
  rw [aJ, aJ]
  have e1 : (cur.toList.take (i + 1) ++ cs.drop i ++ cur.toList.drop (i + 1 + (cs.drop i).length)).take i = cs.take i := by
    rw [List.append_assoc, List.take_append_of_le_length (by rw [List.length_take]; omega), List.take_take, Nat.min_eq_left (by omega), h1]
  have e2 : (cur.toList.take (i + 1) ++ cs.drop i ++ cur.toList.drop (i + 1 + (cs.drop i).length)).drop (i + 1) = cs.drop i ++ cur.toList.drop (i + 1 + (cs.drop i).length) := by
    rw [List.append_assoc, List.drop_left' (by rw [List.length_take]; omega)]
  rw [e1, List.length_singleton, e2]
  generalize cur.toList.drop (i + 1 + (cs.drop i).length) = Z
  rw [show cs.take i ++ [x] ++ (cs.drop i ++ Z) = (cs.take i ++ x :: cs.drop i) ++ Z by simp, List.take_left' (by rw [List.length_append, h2, List.length_cons, List.length_drop]; omega)]
theorem bR {R : Array Value} {i n : Nat} {cs : List Value} {x : Value} (hR : R.toList.take i = cs.take i) (hcl : cs.length = n) (hi : i < n) (hsz : n + 1 ≤ R.size) :
    (aa (aa R i [x]) (i + 1) (cs.drop i)).toList.take (n + 1) = cs.take i ++ x :: cs.drop i := by
  have h2 : (cs.take i).length = i := by rw [List.length_take]; omega
  rw [aJ, aJ, hR]
  have e1 : (cs.take i ++ [x] ++ R.toList.drop (i + [x].length)).take (i + 1) = cs.take i ++ [x] := List.take_left' (by rw [List.length_append, h2]; rfl)
  rw [e1]
  generalize (cs.take i ++ [x] ++ R.toList.drop (i + [x].length)).drop (i + 1 + (cs.drop i).length) = Z
  rw [show cs.take i ++ [x] ++ cs.drop i ++ Z = (cs.take i ++ x :: cs.drop i) ++ Z by simp, List.take_left' (by rw [List.length_append, h2, List.length_cons, List.length_drop]; omega)]
theorem bh (l : List Int) (i : Nat) (x : Int) : a4 (Value.int .i32) (l.take i ++ x :: l.drop i) = (a4 (Value.int .i32) l).take i ++ .int .i32 x :: (a4 (Value.int .i32) l).drop i := by
  unfold a4; rw [List.map_append, List.map_cons, List.map_take, List.map_drop]
set_option maxHeartbeats 4000000 in
theorem bM (P0_ : Nat → Prop) (u9000_ : Value) (l0 : List Int) (a1 : Int) (A2 : Option Addr) (c2 : Nat) (l2 : List Int) (r : List Int) (w0 w : World) (hB : Below w0.heap.size w0 w) (ho0 : Kd.R (Kd.int .i32) 21 w w0.heap.size P0_ u9000_ l0)
    (hr2 : Kd.R (Kd.int .i32) 21 w w0.heap.size (fun k_ => ¬ P0_ k_) (.slice A2 l2.length c2) l2) (hc2 : l2.length ≤ c2) (h : a8 l0 a1 l2 = some r) :
    Calls Try.prog 21 #[u9000_, .int .i64 a1, .slice A2 l2.length c2] w fun e w' => ∃ v0_ : Value, e = .returned (v0_) ∧ Kd.R (Kd.int .i32) 21 w' w0.heap.size (fun k_ => (P0_ k_ ∨ w.heap.size ≤ k_)) v0_ r ∧ Below w0.heap.size w0 w' ∧ Kept w w' (fun k_ => P0_ k_) := by
  match l2, h, hr2, hc2 with
  | [], h, _, _ => cases h
  | _ :: _ :: _, h, _, _ => cases h
  | [x], h, hr2, hc2 =>
    unfold a8 at h
    dsimp only at h
    by_cases hc : 0 ≤ a1 ∧ a1 ≤ (l0.length : Int) ∧ l0.length ≤ 1000000000
    case neg => rw [if_neg hc] at h; cases h
    rw [if_pos hc] at h
    obtain rfl := Option.some.inj h
    obtain ⟨i, rfl⟩ : ∃ i : Nat, a1 = (i : Int) := ⟨a1.toNat, by omega⟩
    obtain ⟨_, hin, hbig⟩ := hc
    rw [Int.toNat_natCast]
    have hHR := hr2
    obtain ⟨_, hv⟩ := Kd.own_of_R hr2
    rcases hv with ⟨_, hv⟩ | ⟨vb, cap2, cur2, e2, hvb, hvh, _, _, hvs, hvt⟩
    · cases hv
    injection e2 with e2 _ e3
    subst e2; subst e3
    have hvP : ¬ P0_ vb := hr2.1 vb rfl
    have hown := Kd.own_of_R ho0
    by_cases hie : i = l0.length
    · subst hie
      have hrr : l0.take l0.length ++ x :: l0.drop l0.length = l0 ++ [x] := by rw [List.take_length, List.drop_length]
      rw [hrr]
      have fin : ∀ v1 w1, Kd.R (Kd.int .i32) 21 w1 w0.heap.size (fun k_ => (P0_ k_ ∨ w.heap.size ≤ k_)) v1 (l0 ++ [x]) → Below w0.heap.size w0 w1 → w.grownBy w1 u9000_.ownBlock →
          ∃ v0_ : Value, Ending.returned v1 = .returned (v0_) ∧ Kd.R (Kd.int .i32) 21 w1 w0.heap.size (fun k_ => (P0_ k_ ∨ w.heap.size ≤ k_)) v0_ (l0 ++ [x]) ∧ Below w0.heap.size w0 w1 ∧ Kept w w1 (fun k_ => P0_ k_) :=
        fun v1 w1 h1 h2 h3 => ⟨v1, rfl, h1, h2, Kept.of_grown h3 (Kept.refl _ _) (fun k hk => .inl (ho0.1 k hk))⟩
      have hO : Kd.R (Kd.int .i32) 21 w w0.heap.size (fun k_ => (P0_ k_ ∨ w.heap.size ≤ k_)) u9000_ l0 := Kd.R_mono ho0 (fun k hk => .inl hk)
      have hC : Kd.C (Kd.int .i32) w (some ⟨vb, 0, none⟩) 1 [x] := (Kd.R_reads' hHR).2.2
      have hbs := hB.size
      obtain ⟨hl, ⟨rfl, hn⟩ | ⟨g, cap, cur, rfl, hgb, hg, hncap, hcm, hsz, ht⟩⟩ := hown
      · have hl0 : l0 = [] := List.eq_nil_of_length_eq_zero hn
        subst hl0
        go_enter Try.func21, Try.ntmps21
        go_wp2_with (at_builtin; refine Kd.R_append_row (w0 := w0) (Value.int .i32) 0 (h1 := fun _ => rfl) w0.heap.size rfl (.tmp 23) (.tmp 24) 23 21 (.int .i32 0) 4 rfl Try.underlying23 (by kernel_rfl) rfl (by decide) (.slice none 0 0) [] [x] (some ⟨vb, 0, none⟩) 1 _ (fun k_ => (P0_ k_ ∨ w.heap.size ≤ k_)) rfl rfl (fun k hk => .inr hk) hO hC hB hbs (by simp) ?_; intro v1 w1 hR hb hgr _)
        go_ret
        exact fin _ _ hR hb hgr
      · generalize hnn : l0.length = n at *
        have hc63 : cap ≤ 9223372036854775807 := by unfold maxLen at hcm; omega
        go_enter Try.func21, Try.ntmps21
        go_wp2_with (at_builtin; refine Kd.R_append_row (w0 := w0) (Value.int .i32) 0 (h1 := fun _ => rfl) w0.heap.size rfl (.tmp 23) (.tmp 24) 23 21 (.int .i32 0) 4 rfl Try.underlying23 (by kernel_rfl) rfl (by decide) (.slice (some ⟨g, 0, none⟩) n cap) l0 [x] (some ⟨vb, 0, none⟩) 1 _ (fun k_ => (P0_ k_ ∨ w.heap.size ≤ k_)) rfl rfl (fun k hk => .inr hk) hO hC hB hbs (by omega) ?_; intro v1 w1 hR hb hgr _)
        all_goals (go_ret; exact fin _ _ hR hb hgr)
    · obtain ⟨hl, ⟨rfl, hn⟩ | ⟨g, cap, cur, rfl, hgb, hg, hncap, hcm, hsz, ht⟩⟩ := hown
      · omega
      have hi : i < l0.length := by omega
      rw [Nat.mul_one] at ht hsz hvt
      have hcl : (a4 (Value.int .i32) l0).length = l0.length := bA _
      have h1c : ∀ v ∈ a4 (Value.int .i32) l0, v.oneCell' = true := fun v hv => by
        obtain ⟨y, _, rfl⟩ := List.mem_map.1 hv; rfl
      have hgP : P0_ g := ho0.1 g rfl
      have hrl : (l0.take i ++ x :: l0.drop i).length = l0.length + 1 := by rw [List.length_append, List.length_cons, List.length_take, List.length_drop]; omega
      by_cases hroom : l0.length + 1 ≤ cap
      · refine (bN w g 0 l0.length cap i vb 0 1 c2 x (a4 (Value.int .i32) l0) cur cur2 rfl rfl rfl hi hroom (by unfold maxLen at hcm; omega) (fun e => hvP (e ▸ hgP)) hg hvh hsz ht hcl h1c hvt).mono ?_
        rintro e w' ⟨rfl, rfl⟩
        refine ⟨_, rfl, Kd.R_of_own ⟨by rw [bA, Nat.mul_one], .inr ⟨g, cap, _, by rw [hrl], hgb, setRow_heap _ _ _ _ _ _ (setRow_heap _ _ _ _ _ _ hg), by omega, hcm, ?_, ?_⟩⟩ ?_, below_setRow (below_setRow (bH hB) hgb _) hgb _, bl (bl (Kept.drew (Kept.refl _ _)) (.inl hgP) _) (.inl hgP) _⟩
        · have s1 : (aa cur (i + 1) ((a4 (Value.int .i32) l0).drop i)).size = cur.size := au _ _ _ (by rw [List.length_drop, hcl]; omega)
          rw [au _ _ _ (by rw [s1, List.length_singleton]; omega), s1, Nat.mul_one]; exact hsz
        · rw [hrl, Nat.mul_one, bQ ht hcl hi (by omega), bh]
        · intro k hk
          injection hk with hk
          exact .inl (hk ▸ hgP)
      · obtain ⟨G, ROW, hG, hGm, hRs, hRt, hcalls⟩ := bP w g 0 l0.length cap i vb 0 1 c2 x (a4 (Value.int .i32) l0) cur cur2 rfl rfl rfl hi hncap (by omega) hbig hg hvh ht hcl h1c hvt
        refine hcalls.mono ?_
        rintro e w' ⟨rfl, W, hW, hbel, rfl⟩
        refine ⟨_, rfl, Kd.R_of_own ⟨by rw [bA, Nat.mul_one], .inr ⟨w.heap.size, G, _, by rw [hrl], hB.size, by rw [hW]; exact setRow_heap _ _ _ _ _ _ (setRow_heap _ _ _ _ _ _ (World.alloc_heap_new w _)), by omega, hGm, ?_, ?_⟩⟩ ?_, cH hB hB.size hbel, Kept.of_below hbel _⟩
        · have s1 : (aa ROW i [.int .i32 x]).size = ROW.size := au _ _ _ (by rw [List.length_singleton]; omega)
          rw [au _ _ _ (by rw [s1, List.length_drop, hcl]; omega), s1, Nat.mul_one]; exact hRs
        · rw [hrl, Nat.mul_one, bR hRt hcl hi (by omega), bh]
        · intro k hk
          injection hk with hk
          exact .inr (Nat.le_of_eq hk)
def aE : Nat → ByteArray → List Int → Int → Int → Int → Bool → ByteArray → Int → Option (List Int × Int)
  | 0, _, _, _, _, _, _, _, _ => none
  | k + 1, x0, x4, x8, x9, Af, Ag, Ac, Ab => if Ab < (x0.size : Int) then ((bf k Ac Ab x9 Af).bind fun Aa => (if Aa.2.1 = 0 then ((bi k (wrap64 (Aa.1 - x9)) (wrap64 ((x4.length : Int) + 1)) Ag).bind fun Ad => (if (wrap64 ((x4.length : Int) + 1)) = 0 then (none) else (if (wrap64 (Int.tdiv Aa.1 (wrap64 ((x4.length : Int) + 1)))) > (wrap64 (2147483647 - x8)) then (some (([] : List Int), 11)) else (if (wrap64 (x8 + (wrap64 (Int.tdiv Aa.1 (wrap64 ((x4.length : Int) + 1)))))) > 1114111 then (some (([] : List Int), 7)) else ((a8 x4 (Int.tmod Aa.1 (wrap64 ((x4.length : Int) + 1))) (([wrap32 (wrap64 (x8 + (wrap64 (Int.tdiv Aa.1 (wrap64 ((x4.length : Int) + 1))))))] : List Int))).bind fun Ae => (aE k x0 Ae (wrap64 (x8 + (wrap64 (Int.tdiv Aa.1 (wrap64 ((x4.length : Int) + 1)))))) (wrap64 ((Int.tmod Aa.1 (wrap64 ((x4.length : Int) + 1))) + 1)) Ad false Aa.2.2.1 Aa.2.2.2)))))) else (some (([] : List Int), Aa.2.1)))) else (some (x4, 0))
def a9 (k : Nat) (a0 : ByteArray) : Option (List Int × Int) := (bk k a0).bind fun bt107 => (if bt107.2.2 = true then (aE k a0 bt107.1 128 0 72 true a0 bt107.2.1) else (some (([] : List Int), 9)))
theorem bU : ∀ k, (∀ y0 y1 y2 y3 y4 y5 y6 y7, LeO (aE k y0 y1 y2 y3 y4 y5 y6 y7) (aE (k + 1) y0 y1 y2 y3 y4 y5 y6 y7))
  | 0 => fun _ _ _ _ _ _ _ _ r h => by simp [aE] at h
  | k + 1 => by
    have ih0 := bU k
    have m0 := @bv; have m1 := @cg; have m2 := @bJ
    · intro y0 y1 y2 y3 y4 y5 y6 y7
      unfold aE
      exact xmo
theorem cE : ∀ a0 k, LeO (a9 k a0) (a9 (k + 1) a0) := by
  intro a0 k
  have ih0 := bU k
  have m0 := @bv; have m1 := @cg; have m2 := @bJ
  unfold a9
  exact xmo
theorem aZ (k : Nat) (a0 : ByteArray) (r1 : List Int) (r2 : Int) (w : World) (h : a9 k a0 = some (r1, r2)) :
    Calls Try.prog 7 #[.string a0] w fun e w' => ∃ v0_ : Value, e = .returned (.tuple #[v0_, .int .i64 r2]) ∧ Kd.R (Kd.int .i32) 21 w' w.heap.size (fun _ => True) v0_ r1 ∧ Below w.heap.size w w' := by
 have hu47 := Try.underlying47
 have HB := Zz.mk (Below.refl w.heap.size w)
 have H : ((bk k a0).bind fun Aq => (if Aq.2.2 = true then (aE k a0 Aq.1 128 0 72 true a0 Aq.2.1) else (some (([] : List Int), 9)))) = some (r1, r2) := h
 clear h
 replace H := Option.bind_eq_some_iff.mp H
 obtain ⟨⟨Aw, Ar, AB⟩, A20, H⟩ := H
 try dsimp only at H
 have A2 := Zz.mk A20
 clear A20
 by_cases c3 : AB = true
 ·
  subst c3
  rw [if_pos rfl] at H
  have H' := Zz.mk H
  clear H
  go_enter Try.func7, Try.ntmps7
  go_wp2_with (first | (refine b8 0 rfl ?_) | (refine wp_goto ?_) | (refine wp_label ?_) | (refine Eq.mpr (bm (l := 0)) ?_) | ((with_reducible refine ab (f := 19) rfl ?_); refine xgl 18 Try.func19 #[.string a0] ?_; (with_reducible refine (b6 k a0 Aw Ar true _ A2.out).mono ?_); rintro e w4 ⟨v110, rfl, ho0, hb⟩; refine ⟨_, rfl, ?_⟩; have An := Zz.mk (Kd.R_lower ho0 (ah xbl)); replace HB := xst hb; (try clear hb); (try clear ho0)) | ((with_reducible refine aY (N := 27) rfl ?_); refine xev 27 #[.string a0, .int .i64 Ar] 47 ?_; intro Af hg w5 hbox hb; have Ax := xsz hg; have AF := Ax; have HI112 := Zz.mk ((show IsS47 w w5 Af a0 Ar from ⟨hbox, (by rw [hg]; exact (ah xbl) : w.heap.size ≤ Af)⟩)); replace An := Zz.mk (Kd.R_below (xkd An) hb); replace HB := xst hb; clear hb hbox hg))
  go_loopg [4, 8, 9, 10, 11] k (fun kq v4 v8 v9 v10 v11 w' => ∃ (Ac : List Int) (Ak : Int) (Ag : Int) (Ah : Int) (Ai : Bool) (Ab : ByteArray) (Aa : Int), v8 = .int .i64 Ak ∧ v9 = .int .i64 Ag ∧ v10 = .int .i64 Ah ∧ v11 = .bool Ai ∧ Zz (aE kq a0 Ac Ak Ag Ah Ai Ab Aa = some (r1, r2)) ∧ Zz (kq ≤ k) ∧ Zz (Kd.R (Kd.int .i32) 21 w' w.heap.size (fun _ => True) v4 Ac) ∧ Zz (IsS47 w w' Af Ab Aa) ∧ Zz (Below w.heap.size w w'))
  case atStart => exact ⟨(Aw), (128), (0), (72), (true), (a0), (Ar), xrr, xrr, xrr, xrr, H', ⟨Nat.le_refl _⟩, ⟨xkd An⟩, ⟨by repeat (first | (with_reducible first | exact HI112.out | apply IsS47.alloc | apply IsS47.drewN | apply IsS47.drew | apply IsS47.set_0 | apply IsS47.set_1) | exact HI112.out)⟩, ⟨by repeat (first | (with_reducible first | exact HB.out | apply af | apply ae | apply ai | refine am ?_ (IsS47.ge HI112.out)) | exact HB.out)⟩⟩
  case round =>
   clear H'
   obtain ⟨Ac, Ak, Ag, Ah, Ai, Ab, Aa, rfl, rfl, rfl, rfl, HA, HK1, Ad, HI112, HB⟩ := hrel
   cases gk with
   | zero => exact absurd HA.out (by simp [aE])
   | succ k1 =>
    have H := HA.out
    clear HA
    simp only [aE] at H
    by_cases c6 : Aa < (a0.size : Int)
    ·
     rw [if_pos c6] at H
     have AC := decide_eq_true c6
     clear c6
     replace H := Option.bind_eq_some_iff.mp H
     obtain ⟨⟨Ae, Al, Ao, Ap⟩, A70, H⟩ := H
     try dsimp only at H
     have A7 := Zz.mk A70
     clear A70
     by_cases c8 : Al = 0
     ·
      rw [if_pos c8] at H
      have AD : (Al == 0) = true := beq_iff_eq.mpr c8
      have AE : (Al != 0) = false := bne_eq_false_iff_eq.mpr c8
      clear c8
      replace H := Option.bind_eq_some_iff.mp H
      obtain ⟨As, A90, H⟩ := H
      try dsimp only at H
      have A9 := Zz.mk A90
      clear A90
      by_cases c10 : (wrap64 ((Ac.length : Int) + 1)) = 0
      ·
       rw [if_pos c10] at H
       exact absurd H (by simp)
      ·
       rw [if_neg c10] at H
       have AG : ((wrap64 ((Ac.length : Int) + 1)) == 0) = false := beq_eq_false_iff_ne.mpr c10
       have AH : ((wrap64 ((Ac.length : Int) + 1)) != 0) = true := bne_iff_ne.mpr c10
       by_cases c11 : (wrap64 (Int.tdiv Ae (wrap64 ((Ac.length : Int) + 1)))) > (wrap64 (2147483647 - Ak))
       ·
        rw [if_pos c11] at H
        have Ay := decide_eq_true c11
        clear c11
        simp only [Option.some.injEq, Prod.mk.injEq] at H
        obtain ⟨rfl, rfl⟩ := H
        obtain ⟨HGz12, hgz12⟩ := HI112.out
        have hcz12_0 := bb HGz12
        have hcz12_1 := bc HGz12
        have hfz12_0 := al HGz12 0
        have hfz12_1 := al HGz12 1
        clear HGz12 hgz12
        go_wp2_with (first | (refine b8 0 rfl ?_) | (refine wp_goto ?_) | (refine wp_label ?_) | (refine Eq.mpr (bm (l := 0)) ?_) | ((with_reducible refine ab (f := 20) rfl ?_); refine xgl 40 Try.func20 #[.pointer (some ⟨Af, 0, none⟩), .int .i64 Ag, .int .i64 Ah] ?_; (with_reducible refine (be k1 Af Ab Aa Ag Ah Ae Al Ao Ap w _ ?side1 ?side2 A7.out).mono ?_); (case side1 => repeat (first | (with_reducible first | exact HI112.out | apply IsS47.alloc | apply IsS47.drewN | apply IsS47.drew | apply IsS47.set_0 | apply IsS47.set_1) | exact HI112.out)); (case side2 => repeat (first | (with_reducible first | exact HB.out | apply af | apply ae | apply ai | refine am ?_ (IsS47.ge HI112.out)) | exact HB.out)); rintro e w13 ⟨rfl, hi, hb, hk⟩; refine ⟨_, rfl, ?_⟩; replace Ad := Zz.mk (Kd.R_mono (Kd.R_keep (IsS47.apart (show IsS47 w _ Af Ab Aa from by repeat (first | (with_reducible first | exact HI112.out | apply IsS47.alloc | apply IsS47.drewN | apply IsS47.drew | apply IsS47.set_0 | apply IsS47.set_1) | exact HI112.out)) (xkd Ad) (by decide)) hk (fun _ h => h.2)) (fun _ h => h.1)); replace HB := Zz.mk (hb); replace HI112 := Zz.mk (hi); (try clear hb); obtain ⟨Ao14, co14, eo14⟩ := Kd.R_slice Ad.out; subst eo14) | ((with_reducible refine ab (f := 16) rfl ?_); refine xgl 54 Try.func16 #[.int .i64 (wrap64 (Ae - Ag)), .int .i64 (wrap64 ((Ac.length : Int) + 1)), .bool Ai] ?_; (with_reducible refine (bs k1 (wrap64 (Ae - Ag)) (wrap64 ((Ac.length : Int) + 1)) Ai As _ A9.out).mono ?_); rintro e w15 ⟨rfl, hb⟩; refine ⟨_, rfl, ?_⟩; have n0_ := Zz.mk (Kd.R_below (xkd Ad) hb); have n1_ := Zz.mk (IsS47.below (by repeat (first | (with_reducible first | exact HI112.out | apply IsS47.alloc | apply IsS47.drewN | apply IsS47.drew | apply IsS47.set_0 | apply IsS47.set_1) | exact HI112.out)) hb); have n2_ := Zz.mk (bI (by repeat (first | (with_reducible first | exact HB.out | apply af | apply ae | apply ai | refine am ?_ (IsS47.ge HI112.out)) | exact HB.out)) hb); clear Ad; clear HI112; clear HB; have Ad := n0_; have HI112 := n1_; have HB := n2_; clear n0_ n1_ n2_; (try clear hb)))
        (try simp only [bK])
        go_ret2
        exact ⟨_, by first | rfl | (simp [av, aw] <;> first | rfl | (simp only [ba, bne, Bool.not_not]; done)) | (simp [*, av, aw] <;> rfl), by first | exact Kd.R_nil _ _ _ _ _ | exact Kd.N_nil _ _ _ _ _ | exact Kd.V_nil _ _ _ _ _ | exact Kd.Q_nil _ _ _ _ _ | exact Kd.S_nil _ _ _ _ _, by repeat (first | (with_reducible first | exact HB.out | apply af | apply ae | apply ai | refine am ?_ (IsS47.ge HI112.out)) | exact HB.out)⟩
       ·
        rw [if_neg c11] at H
        have Ay := decide_eq_false c11
        clear c11
        by_cases c16 : (wrap64 (Ak + (wrap64 (Int.tdiv Ae (wrap64 ((Ac.length : Int) + 1)))))) > 1114111
        ·
         rw [if_pos c16] at H
         have Az := decide_eq_true c16
         clear c16
         simp only [Option.some.injEq, Prod.mk.injEq] at H
         obtain ⟨rfl, rfl⟩ := H
         obtain ⟨HGz17, hgz17⟩ := HI112.out
         have hcz17_0 := bb HGz17
         have hcz17_1 := bc HGz17
         have hfz17_0 := al HGz17 0
         have hfz17_1 := al HGz17 1
         clear HGz17 hgz17
         go_wp2_with (first | (refine b8 0 rfl ?_) | (refine wp_goto ?_) | (refine wp_label ?_) | (refine Eq.mpr (bm (l := 0)) ?_) | ((with_reducible refine ab (f := 20) rfl ?_); refine xgl 40 Try.func20 #[.pointer (some ⟨Af, 0, none⟩), .int .i64 Ag, .int .i64 Ah] ?_; (with_reducible refine (be k1 Af Ab Aa Ag Ah Ae Al Ao Ap w _ ?side1 ?side2 A7.out).mono ?_); (case side1 => repeat (first | (with_reducible first | exact HI112.out | apply IsS47.alloc | apply IsS47.drewN | apply IsS47.drew | apply IsS47.set_0 | apply IsS47.set_1) | exact HI112.out)); (case side2 => repeat (first | (with_reducible first | exact HB.out | apply af | apply ae | apply ai | refine am ?_ (IsS47.ge HI112.out)) | exact HB.out)); rintro e w18 ⟨rfl, hi, hb, hk⟩; refine ⟨_, rfl, ?_⟩; replace Ad := Zz.mk (Kd.R_mono (Kd.R_keep (IsS47.apart (show IsS47 w _ Af Ab Aa from by repeat (first | (with_reducible first | exact HI112.out | apply IsS47.alloc | apply IsS47.drewN | apply IsS47.drew | apply IsS47.set_0 | apply IsS47.set_1) | exact HI112.out)) (xkd Ad) (by decide)) hk (fun _ h => h.2)) (fun _ h => h.1)); replace HB := Zz.mk (hb); replace HI112 := Zz.mk (hi); (try clear hb); obtain ⟨Ao19, co19, eo19⟩ := Kd.R_slice Ad.out; subst eo19) | ((with_reducible refine ab (f := 16) rfl ?_); refine xgl 54 Try.func16 #[.int .i64 (wrap64 (Ae - Ag)), .int .i64 (wrap64 ((Ac.length : Int) + 1)), .bool Ai] ?_; (with_reducible refine (bs k1 (wrap64 (Ae - Ag)) (wrap64 ((Ac.length : Int) + 1)) Ai As _ A9.out).mono ?_); rintro e w20 ⟨rfl, hb⟩; refine ⟨_, rfl, ?_⟩; have n0_ := Zz.mk (Kd.R_below (xkd Ad) hb); have n1_ := Zz.mk (IsS47.below (by repeat (first | (with_reducible first | exact HI112.out | apply IsS47.alloc | apply IsS47.drewN | apply IsS47.drew | apply IsS47.set_0 | apply IsS47.set_1) | exact HI112.out)) hb); have n2_ := Zz.mk (bI (by repeat (first | (with_reducible first | exact HB.out | apply af | apply ae | apply ai | refine am ?_ (IsS47.ge HI112.out)) | exact HB.out)) hb); clear Ad; clear HI112; clear HB; have Ad := n0_; have HI112 := n1_; have HB := n2_; clear n0_ n1_ n2_; (try clear hb)))
         (try simp only [bK])
         go_ret2
         exact ⟨_, by first | rfl | (simp [av, aw] <;> first | rfl | (simp only [ba, bne, Bool.not_not]; done)) | (simp [*, av, aw] <;> rfl), by first | exact Kd.R_nil _ _ _ _ _ | exact Kd.N_nil _ _ _ _ _ | exact Kd.V_nil _ _ _ _ _ | exact Kd.Q_nil _ _ _ _ _ | exact Kd.S_nil _ _ _ _ _, by repeat (first | (with_reducible first | exact HB.out | apply af | apply ae | apply ai | refine am ?_ (IsS47.ge HI112.out)) | exact HB.out)⟩
        ·
         rw [if_neg c16] at H
         have Az := decide_eq_false c16
         clear c16
         obtain ⟨At, Am⟩ : ∃ y_ : List Int, y_ = (([wrap32 (wrap64 (Ak + (wrap64 (Int.tdiv Ae (wrap64 ((Ac.length : Int) + 1))))))] : List Int)) := ⟨_, rfl⟩
         replace H : ((a8 Ac (Int.tmod Ae (wrap64 ((Ac.length : Int) + 1))) At).bind fun Au => (aE k1 a0 Au (wrap64 (Ak + (wrap64 (Int.tdiv Ae (wrap64 ((Ac.length : Int) + 1)))))) (wrap64 ((Int.tmod Ae (wrap64 ((Ac.length : Int) + 1))) + 1)) As false Ao Ap)) = some (r1, r2) := by first | (rw [Am]; with_reducible exact H) | (have H2_ := (Option.bind_some _ _).symm.trans H; rw [Am]; with_reducible exact H2_) | (have H2_ := (Option.bind_some _ _).symm.trans H; with_reducible exact H2_) | with_reducible exact H | (rw [Am]; exact H) | exact H
         have Av := Zz.mk Am
         clear Am
         replace H := Option.bind_eq_some_iff.mp H
         obtain ⟨Au, A210, H⟩ := H
         try dsimp only at H
         have A21 := Zz.mk A210
         clear A210
         have H' := Zz.mk H
         clear H
         obtain ⟨HGz22, hgz22⟩ := HI112.out
         have hcz22_0 := bb HGz22
         have hcz22_1 := bc HGz22
         have hfz22_0 := al HGz22 0
         have hfz22_1 := al HGz22 1
         clear HGz22 hgz22
         go_wp2_with (first | (refine b8 0 rfl ?_) | (refine wp_goto ?_) | (refine wp_label ?_) | (refine Eq.mpr (bm (l := 0)) ?_) | ((with_reducible refine ab (f := 20) rfl ?_); refine xgl 40 Try.func20 #[.pointer (some ⟨Af, 0, none⟩), .int .i64 Ag, .int .i64 Ah] ?_; (with_reducible refine (be k1 Af Ab Aa Ag Ah Ae Al Ao Ap w _ ?side1 ?side2 A7.out).mono ?_); (case side1 => repeat (first | (with_reducible first | exact HI112.out | apply IsS47.alloc | apply IsS47.drewN | apply IsS47.drew | apply IsS47.set_0 | apply IsS47.set_1) | exact HI112.out)); (case side2 => repeat (first | (with_reducible first | exact HB.out | apply af | apply ae | apply ai | refine am ?_ (IsS47.ge HI112.out)) | exact HB.out)); rintro e w23 ⟨rfl, hi, hb, hk⟩; refine ⟨_, rfl, ?_⟩; replace Ad := Zz.mk (Kd.R_mono (Kd.R_keep (IsS47.apart (show IsS47 w _ Af Ab Aa from by repeat (first | (with_reducible first | exact HI112.out | apply IsS47.alloc | apply IsS47.drewN | apply IsS47.drew | apply IsS47.set_0 | apply IsS47.set_1) | exact HI112.out)) (xkd Ad) (by decide)) hk (fun _ h => h.2)) (fun _ h => h.1)); replace HB := Zz.mk (hb); replace HI112 := Zz.mk (hi); (try clear hb); obtain ⟨Ao24, co24, eo24⟩ := Kd.R_slice Ad.out; subst eo24) | ((with_reducible refine ab (f := 16) rfl ?_); refine xgl 54 Try.func16 #[.int .i64 (wrap64 (Ae - Ag)), .int .i64 (wrap64 ((Ac.length : Int) + 1)), .bool Ai] ?_; (with_reducible refine (bs k1 (wrap64 (Ae - Ag)) (wrap64 ((Ac.length : Int) + 1)) Ai As _ A9.out).mono ?_); rintro e w25 ⟨rfl, hb⟩; refine ⟨_, rfl, ?_⟩; have n0_ := Zz.mk (Kd.R_below (xkd Ad) hb); have n1_ := Zz.mk (IsS47.below (by repeat (first | (with_reducible first | exact HI112.out | apply IsS47.alloc | apply IsS47.drewN | apply IsS47.drew | apply IsS47.set_0 | apply IsS47.set_1) | exact HI112.out)) hb); have n2_ := Zz.mk (bI (by repeat (first | (with_reducible first | exact HB.out | apply af | apply ae | apply ai | refine am ?_ (IsS47.ge HI112.out)) | exact HB.out)) hb); clear Ad; clear HI112; clear HB; have Ad := n0_; have HI112 := n1_; have HB := n2_; clear n0_ n1_ n2_; (try clear hb)) | ((with_reducible refine aY (N := 75) rfl ?_); refine Kd.R_lit (Kd.int .i32) _ 21 ?hg (N := 75) ?hd (xs := ([wrap32 (wrap64 (Ak + (wrap64 (Int.tdiv Ae (wrap64 ((Ac.length : Int) + 1))))))] : List Int)) (inner := [.int .i32 (wrap32 (wrap64 (Ak + (wrap64 (Int.tdiv Ae (wrap64 ((Ac.length : Int) + 1)))))))]) (ok := fun _ => True) (okp := fun _ => True) ?hr ?hp (fun _ hk => hk) trivial (Below.refl _ _) (Nat.le_refl _) (by simp) ?_; (case hd => rfl); (case hg => rfl); (case hr => first | (go_simp; done) | (go_simp; rfl)); (case hp => exact (Reps.one (show Kd.M (Kd.int .i32) _ _ _ (wrap32 (wrap64 (Ak + (wrap64 (Int.tdiv Ae (wrap64 ((Ac.length : Int) + 1))))))) [.int .i32 (wrap32 (wrap64 (Ak + (wrap64 (Int.tdiv Ae (wrap64 ((Ac.length : Int) + 1)))))))] from rfl) (Reps.none _ _))); intro v119 w26 ho27 hb hg_ hnew_; clear hg_ hnew_; (first | rw [← Av.out] at ho27 | (simp only [Int.reduceToNat] at ho27; rw [← Av.out] at ho27)); have n0_ := Zz.mk (Kd.R_elder' (xkd Ad) (Kd.R_base ho27) hb); have n1_ := Zz.mk (Kd.R_lower (Kd.R_new' ho27 (Kd.R_lt (xkd Ad))) (ah (by repeat (first | (with_reducible first | exact HB.out | apply af | apply ae | apply ai | refine am ?_ (IsS47.ge HI112.out)) | exact HB.out)))); have n2_ := Zz.mk (IsS47.below (by repeat (first | (with_reducible first | exact HI112.out | apply IsS47.alloc | apply IsS47.drewN | apply IsS47.drew | apply IsS47.set_0 | apply IsS47.set_1) | exact HI112.out)) hb); have n3_ := Zz.mk (bI (by repeat (first | (with_reducible first | exact HB.out | apply af | apply ae | apply ai | refine am ?_ (IsS47.ge HI112.out)) | exact HB.out)) hb); clear Ad; clear HI112; clear HB; have Ad := n0_; have Aj := n1_; have HI112 := n2_; have HB := n3_; clear n0_ n1_ n2_ n3_; clear hb ho27; obtain ⟨Ao28, co28, eo28⟩ := Kd.R_slice Aj.out; subst eo28) | ((with_reducible refine ab (f := 21) rfl ?_); refine xgl 76 Try.func21 #[.slice Ao24 Ac.length co24, .int .i64 (Int.tmod Ae (wrap64 ((Ac.length : Int) + 1))), .slice Ao28 At.length co28] ?_; (with_reducible refine (bM (fun k_ => some k_ = (.slice Ao24 Ac.length co24 : Value).ownBlock) (.slice Ao24 Ac.length co24) Ac (Int.tmod Ae (wrap64 ((Ac.length : Int) + 1))) _ _ At Au w _ ?side1 ?side2 ?side3 ?side4 A21.out).mono ?_); (case side1 => repeat (first | (with_reducible first | exact HB.out | apply af | apply ae | apply ai | refine am ?_ (IsS47.ge HI112.out)) | exact HB.out)); (case side2 => exact Kd.R_tight rfl Ad.out); (case side3 => exact Kd.R_mono (Aj.out) (fun k_ hk_ hs_ => (hk_.2) hs_)); (case side4 => exact (Kd.R_reads' Aj.out).2.1); rintro e w29 ⟨v122, rfl, ho0, hb, hkp⟩; refine ⟨_, rfl, ?_⟩; have n0_ := Zz.mk (IsS47.kept (by repeat (first | (with_reducible first | exact HI112.out | apply IsS47.alloc | apply IsS47.drewN | apply IsS47.drew | apply IsS47.set_0 | apply IsS47.set_1) | exact HI112.out)) hkp (fun hs_ => (fun e_ => (IsS47.own_ne HI112.out Ad.out (by decide)) e_) hs_)); have n1_ := Zz.mk (Kd.R_mono (ok' := fun k_ => some k_ ≠ (v122 : Value).ownBlock) (Kd.R_keptB (Aj.out) hkp (fun k_ hk_ hs_ => (hk_.2) hs_)) (fun k_ hk_ => fun e_ => Or.elim (ho0.1 k_ e_.symm) (fun hs_ => hk_.2.1 hs_) (fun hn_ => Nat.not_le.2 hk_.2.2 hn_))); have n2_ := Zz.mk (Kd.R_mono (ok' := fun k_ => some k_ ≠ (.slice Ao28 At.length co28 : Value).ownBlock) ho0 (fun k_ hk_ => Or.elim hk_ (fun hs_ => fun e_ => (((Aj.out).1 k_ e_.symm).2) hs_) (fun hn_ => (Kd.fresh' (Kd.R_lt (xkd Aj)) k_ hn_)))); have n3_ := Zz.mk (hb); clear HI112; clear Aj; clear HB; clear Ad; have HI112 := n0_; have Aj := n1_; have AA := n2_; have HB := n3_; clear n0_ n1_ n2_ n3_; (try clear hb); (try clear hkp); (try clear ho0)))
         go_roundg k1
         case measure => have := HK1.out; omega
         case rel => exact ⟨(Au), (wrap64 (Ak + (wrap64 (Int.tdiv Ae (wrap64 ((Ac.length : Int) + 1)))))), (wrap64 ((Int.tmod Ae (wrap64 ((Ac.length : Int) + 1))) + 1)), (As), (false), (Ao), (Ap), xrr, xrr, xrr, xrr, H', ⟨by have := HK1.out; omega⟩, ⟨by (with_reducible repeat (first | apply Kd.R_alloc | apply Kd.R_drewN | apply Kd.R_drew)); exact Kd.R_mono AA.out (fun _ hk => trivial)⟩, ⟨by repeat (first | (with_reducible first | exact HI112.out | apply IsS47.alloc | apply IsS47.drewN | apply IsS47.drew | apply IsS47.set_0 | apply IsS47.set_1) | exact HI112.out)⟩, ⟨by repeat (first | (with_reducible first | exact HB.out | apply af | apply ae | apply ai | refine am ?_ (IsS47.ge HI112.out)) | exact HB.out)⟩⟩
     ·
      rw [if_neg c8] at H
      have AD : (Al == 0) = false := beq_eq_false_iff_ne.mpr c8
      have AE : (Al != 0) = true := bne_iff_ne.mpr c8
      simp only [Option.some.injEq, Prod.mk.injEq] at H
      obtain ⟨rfl, rfl⟩ := H
      obtain ⟨HGz30, hgz30⟩ := HI112.out
      have hcz30_0 := bb HGz30
      have hcz30_1 := bc HGz30
      have hfz30_0 := al HGz30 0
      have hfz30_1 := al HGz30 1
      clear HGz30 hgz30
      go_wp2_with (first | (refine b8 0 rfl ?_) | (refine wp_goto ?_) | (refine wp_label ?_) | (refine Eq.mpr (bm (l := 0)) ?_) | ((with_reducible refine ab (f := 20) rfl ?_); refine xgl 40 Try.func20 #[.pointer (some ⟨Af, 0, none⟩), .int .i64 Ag, .int .i64 Ah] ?_; (with_reducible refine (be k1 Af Ab Aa Ag Ah Ae Al Ao Ap w _ ?side1 ?side2 A7.out).mono ?_); (case side1 => repeat (first | (with_reducible first | exact HI112.out | apply IsS47.alloc | apply IsS47.drewN | apply IsS47.drew | apply IsS47.set_0 | apply IsS47.set_1) | exact HI112.out)); (case side2 => repeat (first | (with_reducible first | exact HB.out | apply af | apply ae | apply ai | refine am ?_ (IsS47.ge HI112.out)) | exact HB.out)); rintro e w31 ⟨rfl, hi, hb, hk⟩; refine ⟨_, rfl, ?_⟩; replace Ad := Zz.mk (Kd.R_mono (Kd.R_keep (IsS47.apart (show IsS47 w _ Af Ab Aa from by repeat (first | (with_reducible first | exact HI112.out | apply IsS47.alloc | apply IsS47.drewN | apply IsS47.drew | apply IsS47.set_0 | apply IsS47.set_1) | exact HI112.out)) (xkd Ad) (by decide)) hk (fun _ h => h.2)) (fun _ h => h.1)); replace HB := Zz.mk (hb); replace HI112 := Zz.mk (hi); (try clear hb)))
      (try simp only [bK])
      go_ret2
      exact ⟨_, by first | rfl | (simp [av, aw] <;> first | rfl | (simp only [ba, bne, Bool.not_not]; done)) | (simp [*, av, aw] <;> rfl), by first | exact Kd.R_nil _ _ _ _ _ | exact Kd.N_nil _ _ _ _ _ | exact Kd.V_nil _ _ _ _ _ | exact Kd.Q_nil _ _ _ _ _ | exact Kd.S_nil _ _ _ _ _, by repeat (first | (with_reducible first | exact HB.out | apply af | apply ae | apply ai | refine am ?_ (IsS47.ge HI112.out)) | exact HB.out)⟩
    ·
     rw [if_neg c6] at H
     have AC := decide_eq_false c6
     clear c6
     simp only [Option.some.injEq, Prod.mk.injEq] at H
     obtain ⟨rfl, rfl⟩ := H
     obtain ⟨HGz32, hgz32⟩ := HI112.out
     have hcz32_0 := bb HGz32
     have hcz32_1 := bc HGz32
     have hfz32_0 := al HGz32 0
     have hfz32_1 := al HGz32 1
     clear HGz32 hgz32
     go_wp2_with (first | (refine b8 0 rfl ?_) | (refine wp_goto ?_) | (refine wp_label ?_) | (refine Eq.mpr (bm (l := 0)) ?_))
     (try simp only [bK])
     go_ret2
     exact ⟨_, by first | rfl | (simp [av, aw] <;> first | rfl | (simp only [ba, bne, Bool.not_not]; done)) | (simp [*, av, aw] <;> rfl), by (with_reducible repeat (first | apply Kd.R_alloc | apply Kd.R_drewN | apply Kd.R_drew)); exact Ad.out, by repeat (first | (with_reducible first | exact HB.out | apply af | apply ae | apply ai | refine am ?_ (IsS47.ge HI112.out)) | exact HB.out)⟩
 ·
  replace c3 := Bool.eq_false_iff.mpr c3
  subst c3
  rw [if_neg (show ¬ (false = true) by decide)] at H
  simp only [Option.some.injEq, Prod.mk.injEq] at H
  obtain ⟨rfl, rfl⟩ := H
  go_enter Try.func7, Try.ntmps7
  go_wp2_with (first | (refine b8 0 rfl ?_) | (refine wp_goto ?_) | (refine wp_label ?_) | (refine Eq.mpr (bm (l := 0)) ?_) | ((with_reducible refine ab (f := 19) rfl ?_); refine xgl 18 Try.func19 #[.string a0] ?_; (with_reducible refine (b6 k a0 Aw Ar false _ A2.out).mono ?_); rintro e w33 ⟨v110, rfl, ho0, hb⟩; refine ⟨_, rfl, ?_⟩; have An := Zz.mk (Kd.R_lower ho0 (ah xbl)); replace HB := xst hb; (try clear hb); (try clear ho0)))
  (try simp only [bK])
  go_ret2
  exact ⟨_, by first | rfl | (simp [av, aw] <;> first | rfl | (simp only [ba, bne, Bool.not_not]; done)) | (simp [*, av, aw] <;> rfl), by first | exact Kd.R_nil _ _ _ _ _ | exact Kd.N_nil _ _ _ _ _ | exact Kd.V_nil _ _ _ _ _ | exact Kd.Q_nil _ _ _ _ _ | exact Kd.S_nil _ _ _ _ _, xbl⟩
def aV : Nat → Int → Int → List Int → Int → Int → Option (Int)
  | 0, _, _, _, _, _ => none
  | k + 1, x1, x5, x8, x9, x10 => if x10 < x9 then (if 0 ≤ x10 then (if x10 < (x8.length : Int) then (if (rd x8 x10) ≥ x1 then (aV k x1 (mn x5 (rd x8 x10)) x8 x9 (wrap64 (x10 + 1))) else (aV k x1 x5 x8 x9 (wrap64 (x10 + 1)))) else (none)) else (none)) else (some x5)
def bB (k : Nat) (l0 : List Int) (a1 : Int) : Option (Int) := aV k a1 2147483647 l0 (l0.length : Int) 0
theorem b7 : ∀ k, (∀ y0 y1 y2 y3 y4, LeO (aV k y0 y1 y2 y3 y4) (aV (k + 1) y0 y1 y2 y3 y4))
  | 0 => fun _ _ _ _ _ r h => by simp [aV] at h
  | k + 1 => by
    have ih0 := b7 k
    · intro y0 y1 y2 y3 y4
      unfold aV
      exact xmo
theorem cn : ∀ a0 a1 k, LeO (bB k a0 a1) (bB (k + 1) a0 a1) := by
  intro a0 a1 k
  have ih0 := b7 k
  unfold bB
  exact xmo
theorem cj (k : Nat) (A0 : Option Addr) (c0 : Nat) (l0 : List Int) (a1 : Int) (r : Int) (w : World) (hr0 : Kd.C (Kd.int .i32) w A0 l0.length l0) (hc0 : l0.length ≤ c0) (h : bB k l0 a1 = some r) :
    Calls Try.prog 24 #[.slice A0 l0.length c0, .int .i32 a1] w fun e w' => e = .returned (.int .i32 r) ∧ Below w.heap.size w w' := by
 have HR0 := Zz.mk hr0
 have Al := Zz.mk hc0
 clear hr0 hc0
 have HB := Zz.mk (Below.refl w.heap.size w)
 have H : (aV k a1 2147483647 l0 (l0.length : Int) 0) = some r := h
 clear h
 have H' := Zz.mk H
 clear H
 go_enter Try.func24, Try.ntmps24
 go_wp2
 go_loopg [5, 10] k (fun kq v5 v10 w' => ∃ (Ac : Int) (Aa : Int), v5 = .int .i32 Ac ∧ v10 = .int .i64 Aa ∧ Zz (aV kq a1 Ac l0 (l0.length : Int) Aa = some r) ∧ Zz (kq ≤ k) ∧ Zz (Below w.heap.size w w'))
 case atStart => exact ⟨(2147483647), (0), xrr, xrr, H', ⟨Nat.le_refl _⟩, ⟨xbl⟩⟩
 case round =>
  clear H'
  obtain ⟨Ac, Aa, rfl, rfl, HA, HK1, HB⟩ := hrel
  cases gk with
  | zero => exact absurd HA.out (by simp [aV])
  | succ k1 =>
   have H := HA.out
   clear HA
   simp only [aV] at H
   by_cases c3 : Aa < (l0.length : Int)
   ·
    rw [if_pos c3] at H
    have Ag := decide_eq_true c3
    clear c3
    by_cases c4 : 0 ≤ Aa
    ·
     rw [if_pos c4] at H
     have Aj := decide_eq_true c4
     clear c4
     by_cases c5 : Aa < (l0.length : Int)
     ·
      rw [if_pos c5] at H
      have Ak := decide_eq_true c5
      clear c5
      by_cases c6 : (rd l0 Aa) ≥ a1
      ·
       rw [if_pos c6] at H
       have Ah := decide_eq_true c6
       clear c6
       obtain ⟨Ai, Ad⟩ : ∃ j_ : Int, (mn Ac (rd l0 Aa)) = j_ := ⟨_, rfl⟩
       first | rw [Ad] at H | simp only [Ad] at H | skip
       have hji7_ : (if (rd l0 Aa) < Ac then (rd l0 Aa) else Ac) = Ai := Ad
       have H' := Zz.mk H
       clear H
       have p124 : 0 ≤ (Aa : Int) := xod
       have q124 : Aa < (l0.length : Int) := xod
       obtain ⟨Af, e124, Ab⟩ := Kd.at_int HR0.out Aa p124 q124
       cases e124
       replace Ab := (HB.out.cell (World.block_lt_of_cell? w _ Ab)).trans Ab
       replace p124 := eq_true p124
       replace q124 := eq_true q124
       try (have Ae := q124; simp only [ByteArray.size_extract, Nat.min_self] at Ae)
       go_wp2
       first | go_roundg k1 | (simp only [← Ad]; go_roundg k1)
       case measure => have := HK1.out; omega
       case rel => exact ⟨(Ai), (wrap64 (Aa + 1)), (by first | rfl | (simp; done) | (simp only [← Ad] <;> (first | rfl | (rw [Int.tdiv_eq_ediv_of_nonneg (by unfold mx; split <;> omega)]; done) | simp)) | (simp [*]; done) | (simp [wrap64]; done)), xrr, H', ⟨by have := HK1.out; omega⟩, ⟨xbl⟩⟩
      ·
       rw [if_neg c6] at H
       have Ah := decide_eq_false c6
       clear c6
       have H' := Zz.mk H
       clear H
       have p124 : 0 ≤ (Aa : Int) := xod
       have q124 : Aa < (l0.length : Int) := xod
       obtain ⟨Af, e124, Ab⟩ := Kd.at_int HR0.out Aa p124 q124
       cases e124
       replace Ab := (HB.out.cell (World.block_lt_of_cell? w _ Ab)).trans Ab
       replace p124 := eq_true p124
       replace q124 := eq_true q124
       try (have Ae := q124; simp only [ByteArray.size_extract, Nat.min_self] at Ae)
       go_wp2
       go_roundg k1
       case measure => have := HK1.out; omega
       case rel => exact ⟨(Ac), (wrap64 (Aa + 1)), xrr, xrr, H', ⟨by have := HK1.out; omega⟩, ⟨xbl⟩⟩
     ·
      rw [if_neg c5] at H
      exact absurd H (by simp)
    ·
     rw [if_neg c4] at H
     exact absurd H (by simp)
   ·
    rw [if_neg c3] at H
    have Ag := decide_eq_false c3
    clear c3
    obtain rfl := Option.some.inj H
    go_wp2
    go_ret
    exact ⟨xre, xbl⟩
def aM : Nat → Int → Bool → Option (Int × Bool)
  | 0, _, _ => none
  | k + 1, x0, x4 => if x4 = true then (some (0, false)) else (if x0 < 26 then (some ((wrap64 (97 + x0)) % 256, true)) else (some ((wrap64 ((wrap64 (48 + x0)) - 26)) % 256, true)))
def bj (k : Nat) (a0 : Int) : Option (Int × Bool) := if a0 < 0 then (aM k a0 true) else (aM k a0 (decide (a0 ≥ 36)))
theorem bY : ∀ k, (∀ y0 y1, LeO (aM k y0 y1) (aM (k + 1) y0 y1))
  | 0 => fun _ _ r h => by simp [aM] at h
  | k + 1 => by
    have ih0 := bY k
    · intro y0 y1
      unfold aM
      exact xmo
theorem ce : ∀ a0 k, LeO (bj k a0) (bj (k + 1) a0) := by
  intro a0 k
  have ih0 := bY k
  unfold bj
  exact xmo
theorem b5 (k : Nat) (a0 : Int) (r1 : Int) (r2 : Bool) (w : World) (h : bj k a0 = some (r1, r2)) :
    Calls Try.prog 11 #[.int .i64 a0] w fun e w' => e = .returned (.tuple #[.int .u8 r1, .bool r2]) ∧ Drawn0 w w' := by
 have H : (if a0 < 0 then (aM k a0 true) else (aM k a0 (decide (a0 ≥ 36)))) = some (r1, r2) := h
 clear h
 have Ac := Zz.mk H
 clear H
 go_enter Try.func11, Try.ntmps11
 go_upto_region 1 with (fail)
 go_cut [4] (fun v4 wc => ∃ (kq : Nat) (Ab : Bool), v4 = .bool Ab ∧ Zz (aM kq a0 Ab = some (r1, r2)) ∧ Zz (kq ≤ k) ∧ Drawn0 w wc)
 case first =>
  have H := Ac.out
  clear Ac
  by_cases c3 : a0 < 0
  ·
   rw [if_pos c3] at H
   have Aa := decide_eq_true c3
   clear c3
   (first | rw [Aa] | (simp only [bE, bD]; rw [Aa]) | (rw [Ad]; (try simp only [Bool.not_false, Bool.not_true])) | (rw [Ae]; (try simp only [Bool.not_false, Bool.not_true])) | rw [Af] | skip)
   have H' := Zz.mk H
   clear H
   go_wp2
   go_meet
   case rel => exact ⟨_, (true), xrr, H', ⟨xom⟩, xdr⟩
  ·
   rw [if_neg c3] at H
   have Aa := decide_eq_false c3
   clear c3
   (first | rw [Aa] | (simp only [bE, bD]; rw [Aa]) | (rw [Ad]; (try simp only [Bool.not_false, Bool.not_true])) | (rw [Ae]; (try simp only [Bool.not_false, Bool.not_true])) | rw [Af] | skip)
   have H' := Zz.mk H
   clear H
   go_wp2
   go_meet
   case rel => exact ⟨_, (decide (a0 ≥ 36)), xrr, H', ⟨xom⟩, xdr⟩
 case rest =>
  clear Ac
  obtain ⟨kq, Ab, rfl, HA, HJ1, ⟨mc1, rfl⟩⟩ := hcut
  cases kq with
  | zero => exact absurd HA.out (by simp [aM])
  | succ kj1 =>
   have H := HA.out
   clear HA
   simp only [aM] at H
   by_cases c4 : Ab = true
   ·
    subst c4
    rw [if_pos rfl] at H
    simp only [Option.some.injEq, Prod.mk.injEq] at H
    obtain ⟨rfl, rfl⟩ := H
    go_wp2
    go_ret2
    exact ⟨xrr, xdr⟩
   ·
    replace c4 := Bool.eq_false_iff.mpr c4
    subst c4
    rw [if_neg (show ¬ (false = true) by decide)] at H
    by_cases c5 : a0 < 26
    ·
     rw [if_pos c5] at H
     have Ag := decide_eq_true c5
     clear c5
     simp only [Option.some.injEq, Prod.mk.injEq] at H
     obtain ⟨rfl, rfl⟩ := H
     go_wp2
     go_ret2
     exact ⟨xrr, xdr⟩
    ·
     rw [if_neg c5] at H
     have Ag := decide_eq_false c5
     clear c5
     simp only [Option.some.injEq, Prod.mk.injEq] at H
     obtain ⟨rfl, rfl⟩ := H
     go_wp2
     go_ret2
     exact ⟨xrr, xdr⟩
def aR : Nat → List Int → Int → Int → Int → Option (List Int)
  | 0, _, _, _, _ => none
  | k + 1, x0, x1, x2, x7 => (bG x7 x2).bind fun Aa => (if x1 < Aa then ((bj k x1).bind fun Ab => (if x0.length < 140737488355328 then (some (x0 ++ [Ab.1])) else (none))) else (if (wrap64 (36 - Aa)) = 0 then (none) else ((bj k (wrap64 (Aa + (Int.tmod (wrap64 (x1 - Aa)) (wrap64 (36 - Aa)))))).bind fun Ac => (if x0.length < 140737488355328 then (aR k (x0 ++ [Ac.1]) (wrap64 (Int.tdiv (wrap64 (x1 - Aa)) (wrap64 (36 - Aa)))) x2 (wrap64 (x7 + 36))) else (none)))))
def bz (k : Nat) (l0 : List Int) (a1 : Int) (a2 : Int) : Option (List Int) := aR k l0 a1 a2 36
theorem b1 : ∀ k, (∀ y0 y1 y2 y3, LeO (aR k y0 y1 y2 y3) (aR (k + 1) y0 y1 y2 y3))
  | 0 => fun _ _ _ _ r h => by simp [aR] at h
  | k + 1 => by
    have ih0 := b1 k
    have m0 := @ce
    · intro y0 y1 y2 y3
      unfold aR
      exact xmo
theorem ci : ∀ a0 a1 a2 k, LeO (bz k a0 a1 a2) (bz (k + 1) a0 a1 a2) := by
  intro a0 a1 a2 k
  have ih0 := b1 k
  have m0 := @ce
  unfold bz
  exact xmo
theorem cG (k : Nat) (P0_ : Nat → Prop) (u9000_ : Value) (l0 : List Int) (a1 : Int) (a2 : Int) (r : List Int) (w0 w : World) (hB : Below w0.heap.size w0 w) (ho0 : Kd.R (Kd.int .u8) 5 w w0.heap.size P0_ u9000_ l0) (h : bz k l0 a1 a2 = some r) :
    Calls Try.prog 25 #[u9000_, .int .i64 a1, .int .i64 a2] w fun e w' => ∃ v0_ : Value, e = .returned (v0_) ∧ Kd.R (Kd.int .u8) 5 w' w0.heap.size (fun k_ => (P0_ k_ ∨ w.heap.size ≤ k_)) v0_ r ∧ Below w0.heap.size w0 w' ∧ Kept w w' (fun k_ => P0_ k_) := by
 have As := Zz.mk (show Kd.R (Kd.int .u8) 5 w w0.heap.size (fun k_ => (P0_ k_ ∨ w.heap.size ≤ k_)) u9000_ l0 from Kd.R_mono ho0 (fun k_ hk => (.inl hk)))
 have HK := Zz.mk (Kept.refl w (fun k_ => P0_ k_))
 have HW0 := Zz.mk hB.size
 have HB := Zz.mk hB
 clear hB
 have H : (aR k l0 a1 a2 36) = some r := h
 clear h
 have H' := Zz.mk H
 clear H
 go_enter Try.func25, Try.ntmps25
 go_wp2
 go_loopg [0, 1, 7] k (fun kq v0 v1 v7 w' => ∃ (Ac : List Int) (Ab : Int) (Ad : Int), v1 = .int .i64 Ab ∧ v7 = .int .i64 Ad ∧ Zz (aR kq Ac Ab a2 Ad = some r) ∧ Zz (kq ≤ k) ∧ Zz (Kd.R (Kd.int .u8) 5 w' w0.heap.size (fun k_ => (P0_ k_ ∨ w.heap.size ≤ k_)) v0 Ac) ∧ Zz (Kept w w' (fun k_ => P0_ k_)) ∧ Zz (Below w0.heap.size w0 w'))
 case atStart => exact ⟨(l0), (a1), (36), xrr, xrr, H', ⟨Nat.le_refl _⟩, ⟨xkd As⟩, ⟨by repeat (first | (with_reducible first | exact HK.out | apply Kept.alloc | apply Kept.drewN | apply Kept.drew) | exact HK.out)⟩, ⟨xbl⟩⟩
 case round =>
  clear H'
  obtain ⟨Ac, Ab, Ad, rfl, rfl, HA, HK1, Ag, HK, HB⟩ := hrel
  cases gk with
  | zero => exact absurd HA.out (by simp [aR])
  | succ k1 =>
   have H := HA.out
   clear HA
   simp only [aR] at H
   replace H := Option.bind_eq_some_iff.mp H
   obtain ⟨Aa, A40, H⟩ := H
   try dsimp only at H
   have A4 := Zz.mk A40
   clear A40
   by_cases c5 : Ab < Aa
   ·
    rw [if_pos c5] at H
    have Ao := decide_eq_true c5
    clear c5
    replace H := Option.bind_eq_some_iff.mp H
    obtain ⟨⟨Ah, Ap⟩, A60, H⟩ := H
    try dsimp only at H
    have A6 := Zz.mk A60
    clear A60
    by_cases c7 : Ac.length < 140737488355328
    ·
     rw [if_pos c7] at H
     have LMc7 := Zz.mk c7
     clear c7
     obtain ⟨Aq, Ae⟩ : ∃ y_ : List Int, y_ = (Ac ++ [Ah]) := ⟨_, rfl⟩
     replace H : (some Aq) = some r := by first | (rw [Ae]; with_reducible exact H) | (have H2_ := (Option.bind_some _ _).symm.trans H; rw [Ae]; with_reducible exact H2_) | (have H2_ := (Option.bind_some _ _).symm.trans H; with_reducible exact H2_) | with_reducible exact H | (rw [Ae]; exact H) | exact H
     have Aj := Zz.mk Ae
     clear Ae
     obtain rfl := Option.some.inj H
     go_wp2_with (first | ((with_reducible refine ab (f := 14) rfl ?_); refine xgl 17 Try.func14 #[.int .i64 Ad, .int .i64 a2] ?_; (with_reducible refine (ap Ad a2 Aa _ A4.out).mono ?_); rintro e w' ⟨rfl, ⟨nd, rfl⟩⟩; refine ⟨_, rfl, ?_⟩) | ((with_reducible refine ab (f := 11) rfl ?_); refine xgl 23 Try.func11 #[.int .i64 Ab] ?_; (with_reducible refine (b5 k1 Ab Ah Ap _ A6.out).mono ?_); rintro e w' ⟨rfl, ⟨nd, rfl⟩⟩; refine ⟨_, rfl, ?_⟩) | ((with_reducible refine bd (b := .append) (xs := #[.tmp 26, .tmp 28]) rfl ?_); at_builtin; refine Kd.R_append (Kd.int .u8) (w0 := w0) w0.heap.size rfl (.tmp 26) (.tmp 28) 53 5 (.int .u8 0) 1 rfl Try.underlying53 cQ rfl (by decide) (by omega) u0 Ac Ah [.int .u8 Ah] (fun k_ => (P0_ k_ ∨ w.heap.size ≤ k_)) (fun _ => False) rfl rfl ?aP (fun _ hk => hk.elim) ?aF ?aO ?aB ?aS ?aL ?_; (case aP => exact rfl); (case aB => exact xbl); (case aF => exact (fun k_ hk => (.inr (Nat.le_trans (by first | exact HK.out.1 | exact (show Kept w _ (fun k_ => P0_ k_) from by repeat (first | (with_reducible first | exact HK.out | apply Kept.alloc | apply Kept.drewN | apply Kept.drew) | exact HK.out)).1) hk)))); (case aO => exact (xkd Ag)); (case aS => exact (ah xbl)); (case aL => have := LMc7.out; first | omega | exact Nat.le_of_lt this); intro v129 w8 ho hb hg hat; rw [← Aj.out] at ho; have n0_ := Zz.mk (hb); have n1_ := Zz.mk (Kept.of_grown (S := (fun k_ => P0_ k_)) hg (by repeat (first | (with_reducible first | exact HK.out | apply Kept.alloc | apply Kept.drewN | apply Kept.drew) | exact HK.out)) (fun k_ e_ => (Ag.out.1 k_ e_))); have n2_ := Zz.mk (ho); clear HB; clear HK; clear Ag; have HB := n0_; have HK := n1_; have Ak := n2_; clear n0_ n1_ n2_; clear ho hb hg hat))
     go_ret
     exact ⟨_, by first | rfl | (simp [av, aw] <;> first | rfl | (simp only [ba, bne, Bool.not_not]; done)) | (simp [*, av, aw] <;> rfl), by (with_reducible repeat (first | apply Kd.R_alloc | apply Kd.R_drewN | apply Kd.R_drew)); exact Ak.out, by repeat (first | (with_reducible first | exact HB.out | apply af | apply ae | apply ai) | exact HB.out), by repeat (first | (with_reducible first | exact HK.out | apply Kept.alloc | apply Kept.drewN | apply Kept.drew) | exact HK.out)⟩
    ·
     rw [if_neg c7] at H
     exact absurd H (by simp)
   ·
    rw [if_neg c5] at H
    have Ao := decide_eq_false c5
    clear c5
    by_cases c9 : (wrap64 (36 - Aa)) = 0
    ·
     rw [if_pos c9] at H
     exact absurd H (by simp)
    ·
     rw [if_neg c9] at H
     have At : ((wrap64 (36 - Aa)) == 0) = false := beq_eq_false_iff_ne.mpr c9
     have Au : ((wrap64 (36 - Aa)) != 0) = true := bne_iff_ne.mpr c9
     replace H := Option.bind_eq_some_iff.mp H
     obtain ⟨⟨Ai, Ar⟩, A100, H⟩ := H
     try dsimp only at H
     have A10 := Zz.mk A100
     clear A100
     by_cases c11 : Ac.length < 140737488355328
     ·
      rw [if_pos c11] at H
      have LMc11 := Zz.mk c11
      clear c11
      obtain ⟨Al, Af⟩ : ∃ y_ : List Int, y_ = (Ac ++ [Ai]) := ⟨_, rfl⟩
      replace H : (aR k1 Al (wrap64 (Int.tdiv (wrap64 (Ab - Aa)) (wrap64 (36 - Aa)))) a2 (wrap64 (Ad + 36))) = some r := by first | (rw [Af]; with_reducible exact H) | (have H2_ := (Option.bind_some _ _).symm.trans H; rw [Af]; with_reducible exact H2_) | (have H2_ := (Option.bind_some _ _).symm.trans H; with_reducible exact H2_) | with_reducible exact H | (rw [Af]; exact H) | exact H
      have Am := Zz.mk Af
      clear Af
      have H' := Zz.mk H
      clear H
      go_wp2_with (first | ((with_reducible refine ab (f := 14) rfl ?_); refine xgl 17 Try.func14 #[.int .i64 Ad, .int .i64 a2] ?_; (with_reducible refine (ap Ad a2 Aa _ A4.out).mono ?_); rintro e w' ⟨rfl, ⟨nd, rfl⟩⟩; refine ⟨_, rfl, ?_⟩) | ((with_reducible refine ab (f := 11) rfl ?_); refine xgl 39 Try.func11 #[.int .i64 (wrap64 (Aa + (Int.tmod (wrap64 (Ab - Aa)) (wrap64 (36 - Aa)))))] ?_; (with_reducible refine (b5 k1 (wrap64 (Aa + (Int.tmod (wrap64 (Ab - Aa)) (wrap64 (36 - Aa))))) Ai Ar _ A10.out).mono ?_); rintro e w' ⟨rfl, ⟨nd, rfl⟩⟩; refine ⟨_, rfl, ?_⟩) | ((with_reducible refine bd (b := .append) (xs := #[.tmp 42, .tmp 44]) rfl ?_); at_builtin; refine Kd.R_append (Kd.int .u8) (w0 := w0) w0.heap.size rfl (.tmp 42) (.tmp 44) 53 5 (.int .u8 0) 1 rfl Try.underlying53 cQ rfl (by decide) (by omega) u0 Ac Ai [.int .u8 Ai] (fun k_ => (P0_ k_ ∨ w.heap.size ≤ k_)) (fun _ => False) rfl rfl ?aP (fun _ hk => hk.elim) ?aF ?aO ?aB ?aS ?aL ?_; (case aP => exact rfl); (case aB => exact xbl); (case aF => exact (fun k_ hk => (.inr (Nat.le_trans (by first | exact HK.out.1 | exact (show Kept w _ (fun k_ => P0_ k_) from by repeat (first | (with_reducible first | exact HK.out | apply Kept.alloc | apply Kept.drewN | apply Kept.drew) | exact HK.out)).1) hk)))); (case aO => exact (xkd Ag)); (case aS => exact (ah xbl)); (case aL => have := LMc11.out; first | omega | exact Nat.le_of_lt this); intro v134 w12 ho hb hg hat; rw [← Am.out] at ho; have n0_ := Zz.mk (hb); have n1_ := Zz.mk (Kept.of_grown (S := (fun k_ => P0_ k_)) hg (by repeat (first | (with_reducible first | exact HK.out | apply Kept.alloc | apply Kept.drewN | apply Kept.drew) | exact HK.out)) (fun k_ e_ => (Ag.out.1 k_ e_))); have n2_ := Zz.mk (ho); clear HB; clear HK; clear Ag; have HB := n0_; have HK := n1_; have An := n2_; clear n0_ n1_ n2_; clear ho hb hg hat))
      go_roundg k1
      case measure => have := HK1.out; omega
      case rel => exact ⟨(Al), (wrap64 (Int.tdiv (wrap64 (Ab - Aa)) (wrap64 (36 - Aa)))), (wrap64 (Ad + 36)), xrr, xrr, H', ⟨by have := HK1.out; omega⟩, ⟨xkd An⟩, ⟨by repeat (first | (with_reducible first | exact HK.out | apply Kept.alloc | apply Kept.drewN | apply Kept.drew) | exact HK.out)⟩, ⟨xbl⟩⟩
     ·
      rw [if_neg c11] at H
      exact absurd H (by simp)
end Go.Proofs.Ytediodhkimacjaa.X
