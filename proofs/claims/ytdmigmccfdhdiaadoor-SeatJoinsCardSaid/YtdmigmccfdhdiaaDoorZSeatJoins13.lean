/- Texts that the law's proof needs, joined by a program of this session. -/
import Derived.Test.YtdmigmccfdhdiaaDoorZSeatJoins1
import Derived.Test.YtdmigmccfdhdiaaDoorZSeatJoins2
import Derived.Test.YtdmigmccfdhdiaaDoorZSeatJoins5
import Derived.Test.YtdmigmccfdhdiaaDoorZSeatJoins9
import Derived.Test.YtdmigmccfdhdiaaDoorZSeatJoins10
import Derived.Test.YtdmigmccfdhdiaaDoorZSeatJoins11
import Derived.Test.YtdmigmccfdhdiaaDoorZSeatJoins12
namespace Go.Proofs.YtdmigmccfdhdiaaDoor.Y
open Go.RowKit Go.Proofs.YtdmigmccfdhdiaaDoor.X Go.Proofs.YtdmigmccfdhdiaaDoor.M Go.Proofs.YtdmigmccfdhdiaaDoorW.PrintWords Go.Proofs.YtdmigmccfdhdiaaDoorW.PrintLast Go.Proofs.YtdmigmccfdhdiaaDoorW.PrintMore
set_option linter.unusedVariables false
set_option linter.unusedSimpArgs false
def tup8 (l : List Int) (b : Bool) : Int × Int × Int × Int × Int × Int × Int × Int × Bool := (l.getD 0 0, l.getD 1 0, l.getD 2 0, l.getD 3 0, l.getD 4 0, l.getD 5 0, l.getD 6 0, l.getD 7 0, b)
def zeros8 : List Int := [0, 0, 0, 0, 0, 0, 0, 0]
def v6T (l : List Int) : Int × Int × Int × Int × Int × Int × Int × Int × Bool := match v6 l with
  | some w => tup8 w true
  | none => tup8 zeros8 false
theorem v6T_ok (l : List Int) : (v6T l).2.2.2.2.2.2.2.2 = (v6 l).isSome := by
  unfold v6T
  cases v6 l <;> rfl
theorem put_all (p : List Int) (h : p.length = 8) : ip_V6_put ip_V6_zeros 0 p 8 = p := by
  unfold ip_V6_put ip_V6_zeros
  rw [← h, List.take_length, h]
  simp
theorem put_both (a b : List Int) (h : a.length + b.length ≤ 7) : ip_V6_put (ip_V6_put ip_V6_zeros 0 a 8) (8 - b.length) b b.length = a ++ List.replicate (8 - a.length - b.length) 0 ++ b := by
  have hz : ip_V6_zeros = List.replicate 8 0 := rfl
  unfold ip_V6_put
  rw [hz]
  have e1 : a.take 8 = a := List.take_of_length_le (by omega)
  rw [e1, List.take_length]
  simp only [List.take_zero, List.nil_append, Nat.zero_add]
  rw [List.drop_replicate, List.take_append]
  have e2 : a.take (8 - b.length) = a := List.take_of_length_le (by omega)
  rw [e2, List.take_replicate]
  have e3 : (a ++ List.replicate (8 - a.length) 0).drop (8 - b.length + b.length) = ([] : List Int) := by
    apply List.drop_of_length_le
    rw [List.length_append, List.length_replicate]; omega
  rw [e3, List.append_nil, show min (8 - b.length - a.length) (8 - a.length) = 8 - a.length - b.length by omega]
theorem v6_f (s : ByteArray) (hs : s.size ≤ 1000000) : Ev (fun k => ip_V6.f k s) (v6T (bytesOf s)) := by
  unfold ip_V6.f
  have hc := strCut_f s (⟨#[58, 58]⟩ : ByteArray) (by omega) (by decide)
  have hb : bytesOf (⟨#[58, 58]⟩ : ByteArray) = [58, 58] := rfl
  have hz : (⟨#[58, 58]⟩ : ByteArray).size = 2 := rfl
  rw [hb, hz] at hc
  refine Ev.pure_bind hc ?_
  by_cases hneg : sidx [58, 58] (bytesOf s) < 0
  · simp only [if_pos hneg]
    refine Ev.bind' (words_f s _ hs) ?_
    simp only [Bool.not_false]
    unfold v6T v6
    rw [if_pos hneg]
    cases hr : rowS true (bytesOf s) with
    | none => exact Ev.ite_pos rfl (Ev.val rfl)
    | some w =>
      refine Ev.ite_neg (by simp [wordsT]) (Ev.ite_pos (by simp) ?_)
      simp only [wordsT, List.nil_append, Option.bind_some]
      refine Ev.ite (fun h => ?_) (fun h => ?_)
      · rw [if_pos h, put_all w h]
        exact Ev.val rfl
      · rw [if_neg h]
        exact Ev.val rfl
  · simp only [if_neg hneg]
    have hsp := sidx_split (sub := [58, 58]) (l := bytesOf s) (by omega)
    simp only [List.length_cons, List.length_nil, bytes_len] at hsp
    unfold v6T v6
    rw [if_neg hneg]
    generalize (sidx [58, 58] (bytesOf s)).toNat = j at hsp ⊢
    have h1 := words_f (s.extract 0 j) (!true) (by rw [← bytes_len, bytes_extract, List.length_drop, List.length_take, bytes_len]; omega)
    have h2 := words_f (s.extract (j + 2) s.size) true (by rw [← bytes_len, bytes_extract, List.length_drop, List.length_take, bytes_len]; omega)
    rw [bytes_extract, List.drop_zero] at h1
    rw [bytes_from] at h2
    simp only [Bool.not_true] at h1 ⊢
    refine Ev.bind' h1 ?_
    cases ha : rowS false ((bytesOf s).take j) with
    | none => exact Ev.ite_pos rfl (Ev.val rfl)
    | some a =>
      refine Ev.ite_neg (by simp [wordsT]) (Ev.ite_neg (by simp) (Ev.bind' h2 ?_))
      simp only [wordsT, List.nil_append, Option.bind_some]
      have hla : a.length ≤ 1000003 := by
        unfold rowS at ha
        split at ha
        · cases ha; simp
        · have := words_len ha
          have := splitC_len 58 ((bytesOf s).take j)
          rw [List.length_take, bytes_len] at this; omega
      cases hbb : rowS true ((bytesOf s).drop (j + 2)) with
      | none => exact Ev.ite_pos rfl (Ev.val rfl)
      | some b =>
        have hlb : b.length ≤ 1000003 := by
          unfold rowS at hbb
          split at hbb
          · cases hbb; simp
          · have := words_len hbb
            have := splitC_len 58 ((bytesOf s).drop (j + 2))
            rw [List.length_drop, bytes_len] at this; omega
        refine Ev.ite_neg (by simp [wordsT]) ?_
        simp only [wordsT, List.nil_append, Option.bind_some]
        have hw : wrap64 ((a.length : Int) + (b.length : Int)) = (a.length : Int) + (b.length : Int) := w64 (by omega) (by omega)
        simp only [hw]
        refine Ev.ite (fun h => ?_) (fun h => Ev.ite_pos (by omega) ?_)
        · rw [if_neg (by omega)]
          exact Ev.val rfl
        · rw [if_pos (by omega), put_both a b (by omega)]
          exact Ev.val rfl
theorem eight_of {S : List Int} (h : S.length = 8) : ∃ a b c d e f g i, S = [a, b, c, d, e, f, g, i] := by
  match S, h with
  | [a, b, c, d, e, f, g, i], _ => exact ⟨a, b, c, d, e, f, g, i, rfl⟩
def L1 (k : Nat) (x : List Int) (i : Int) (S : List Int) := monikerref19_V6.l1 k x i (S.getD 0 0) (S.getD 1 0) (S.getD 2 0) (S.getD 3 0) (S.getD 4 0) (S.getD 5 0) (S.getD 6 0) (S.getD 7 0)
def L2 (k : Nat) (x y : List Int) (i : Int) (S : List Int) := monikerref19_V6.l2 k x y i (S.getD 0 0) (S.getD 1 0) (S.getD 2 0) (S.getD 3 0) (S.getD 4 0) (S.getD 5 0) (S.getD 6 0) (S.getD 7 0)
def L3 (k : Nat) (y : List Int) (i : Int) (S : List Int) := monikerref19_V6.l3 k y i (S.getD 0 0) (S.getD 1 0) (S.getD 2 0) (S.getD 3 0) (S.getD 4 0) (S.getD 5 0) (S.getD 6 0) (S.getD 7 0)
theorem below8 {i : Nat} (h : i < 8) : i = 0 ∨ i = 1 ∨ i = 2 ∨ i = 3 ∨ i = 4 ∨ i = 5 ∨ i = 6 ∨ i = 7 := by omega
theorem rd_getD (x : List Int) (i : Nat) : rd x (i : Int) = x.getD i 0 := by unfold rd; rw [Int.toNat_natCast]
theorem L1_step (x : List Int) (i : Nat) (hi : i < 8) (hx : i < x.length) (S : List Int) (hS : S.length = 8) (r : Int × Int × Int × Int × Int × Int × Int × Int × Bool)
    (h : Ev (fun k => L1 k x ((i + 1 : Nat) : Int) (S.set i (x.getD i 0))) r) : Ev (fun k => L1 k x (i : Int) S) r := by
  obtain ⟨a, b, c, d, e, f, g, j, rfl⟩ := eight_of hS
  refine Ev.step (fun k => by rw [L1, monikerref19_V6.l1]) ?_
  rw [w64 (by omega) (by omega), rd_getD]
  refine Ev.ite_pos (by omega) (Ev.ite_pos (by omega) (Ev.ite_pos (by omega) ?_))
  rcases below8 hi with rfl | rfl | rfl | rfl | rfl | rfl | rfl | rfl
  · exact Ev.ite_pos (by omega) h
  · exact Ev.ite_neg (by omega) (Ev.ite_pos (by omega) h)
  · exact Ev.ite_neg (by omega) (Ev.ite_neg (by omega) (Ev.ite_pos (by omega) h))
  · exact Ev.ite_neg (by omega) (Ev.ite_neg (by omega) (Ev.ite_neg (by omega) (Ev.ite_pos (by omega) h)))
  · exact Ev.ite_neg (by omega) (Ev.ite_neg (by omega) (Ev.ite_neg (by omega) (Ev.ite_neg (by omega) (Ev.ite_pos (by omega) h))))
  · exact Ev.ite_neg (by omega) (Ev.ite_neg (by omega) (Ev.ite_neg (by omega) (Ev.ite_neg (by omega) (Ev.ite_neg (by omega) (Ev.ite_pos (by omega) h)))))
  · exact Ev.ite_neg (by omega) (Ev.ite_neg (by omega) (Ev.ite_neg (by omega) (Ev.ite_neg (by omega) (Ev.ite_neg (by omega) (Ev.ite_neg (by omega) (Ev.ite_pos (by omega) h))))))
  · exact Ev.ite_neg (by omega) (Ev.ite_neg (by omega) (Ev.ite_neg (by omega) (Ev.ite_neg (by omega) (Ev.ite_neg (by omega) (Ev.ite_neg (by omega) (Ev.ite_neg (by omega) (Ev.ite_pos (by omega) h)))))))
theorem L2_step (x y : List Int) (i : Nat) (hi : i < 8) (hx : i < x.length) (hl : x.length ≤ 8) (S : List Int) (hS : S.length = 8) (r : Int × Int × Int × Int × Int × Int × Int × Int × Bool)
    (h : Ev (fun k => L2 k x y ((i + 1 : Nat) : Int) (S.set i (x.getD i 0))) r) : Ev (fun k => L2 k x y (i : Int) S) r := by
  obtain ⟨a, b, c, d, e, f, g, j, rfl⟩ := eight_of hS
  refine Ev.step (fun k => by rw [L2, monikerref19_V6.l2]) ?_
  rw [w64 (by omega) (by omega), rd_getD]
  refine Ev.ite_pos (by omega) (Ev.ite_pos (by omega) ?_)
  rcases below8 hi with rfl | rfl | rfl | rfl | rfl | rfl | rfl | rfl
  · exact Ev.ite_pos (by omega) h
  · exact Ev.ite_neg (by omega) (Ev.ite_pos (by omega) h)
  · exact Ev.ite_neg (by omega) (Ev.ite_neg (by omega) (Ev.ite_pos (by omega) h))
  · exact Ev.ite_neg (by omega) (Ev.ite_neg (by omega) (Ev.ite_neg (by omega) (Ev.ite_pos (by omega) h)))
  · exact Ev.ite_neg (by omega) (Ev.ite_neg (by omega) (Ev.ite_neg (by omega) (Ev.ite_neg (by omega) (Ev.ite_pos (by omega) h))))
  · exact Ev.ite_neg (by omega) (Ev.ite_neg (by omega) (Ev.ite_neg (by omega) (Ev.ite_neg (by omega) (Ev.ite_neg (by omega) (Ev.ite_pos (by omega) h)))))
  · exact Ev.ite_neg (by omega) (Ev.ite_neg (by omega) (Ev.ite_neg (by omega) (Ev.ite_neg (by omega) (Ev.ite_neg (by omega) (Ev.ite_neg (by omega) (Ev.ite_pos (by omega) h))))))
  · exact Ev.ite_neg (by omega) (Ev.ite_neg (by omega) (Ev.ite_neg (by omega) (Ev.ite_neg (by omega) (Ev.ite_neg (by omega) (Ev.ite_neg (by omega) (Ev.ite_neg (by omega) (Ev.ite_pos (by omega) h)))))))
theorem L3_step (y : List Int) (i q : Nat) (hq : q < 8) (hx : i < y.length) (hy : y.length ≤ 8) (hl : q + y.length = 8 + i) (S : List Int) (hS : S.length = 8) (r : Int × Int × Int × Int × Int × Int × Int × Int × Bool)
    (h : Ev (fun k => L3 k y ((i + 1 : Nat) : Int) (S.set q (y.getD i 0))) r) : Ev (fun k => L3 k y (i : Int) S) r := by
  obtain ⟨a, b, c, d, e, f, g, j, rfl⟩ := eight_of hS
  refine Ev.step (fun k => by rw [L3, monikerref19_V6.l3]) ?_
  have hw : wrap64 (wrap64 (8 - (y.length : Int)) + (i : Int)) = (q : Int) := by
    rw [w64 (x := 8 - (y.length : Int)) (by omega) (by omega), w64 (by omega) (by omega)]; omega
  rw [w64 (x := (i : Int) + 1) (by omega) (by omega), rd_getD, hw]
  refine Ev.ite_pos (by omega) (Ev.ite_pos (by omega) (Ev.ite_pos (by omega) ?_))
  rcases below8 hq with rfl | rfl | rfl | rfl | rfl | rfl | rfl | rfl
  · exact Ev.ite_pos (by omega) h
  · exact Ev.ite_neg (by omega) (Ev.ite_pos (by omega) h)
  · exact Ev.ite_neg (by omega) (Ev.ite_neg (by omega) (Ev.ite_pos (by omega) h))
  · exact Ev.ite_neg (by omega) (Ev.ite_neg (by omega) (Ev.ite_neg (by omega) (Ev.ite_pos (by omega) h)))
  · exact Ev.ite_neg (by omega) (Ev.ite_neg (by omega) (Ev.ite_neg (by omega) (Ev.ite_neg (by omega) (Ev.ite_pos (by omega) h))))
  · exact Ev.ite_neg (by omega) (Ev.ite_neg (by omega) (Ev.ite_neg (by omega) (Ev.ite_neg (by omega) (Ev.ite_neg (by omega) (Ev.ite_pos (by omega) h)))))
  · exact Ev.ite_neg (by omega) (Ev.ite_neg (by omega) (Ev.ite_neg (by omega) (Ev.ite_neg (by omega) (Ev.ite_neg (by omega) (Ev.ite_neg (by omega) (Ev.ite_pos (by omega) h))))))
  · exact Ev.ite_neg (by omega) (Ev.ite_neg (by omega) (Ev.ite_neg (by omega) (Ev.ite_neg (by omega) (Ev.ite_neg (by omega) (Ev.ite_neg (by omega) (Ev.ite_neg (by omega) (Ev.ite_pos (by omega) h)))))))
def lay (S : List Int) (q : Nat) (x : List Int) : List Int := S.take q ++ x ++ S.drop (q + x.length)
theorem lay_nil (S : List Int) (q : Nat) : lay S q [] = S := by simp [lay]
theorem lay_cons (S : List Int) (q : Nat) (v : Int) (x : List Int) (hq : q < S.length) : lay (S.set q v) (q + 1) x = lay S q (v :: x) := by
  unfold lay
  have e1 : (S.set q v).take (q + 1) = S.take q ++ [v] := by
    rw [List.take_succ_eq_append_getElem (by rw [List.length_set]; exact hq), List.take_set_of_le (Nat.le_refl _)]
    simp
  have e2 : (S.set q v).drop (q + 1 + x.length) = S.drop (q + (v :: x).length) := by
    rw [List.drop_set_of_lt (by omega), List.length_cons]
    congr 1; omega
  rw [e1, e2]
  simp
theorem L1_run (x : List Int) (hx : x.length = 8) : ∀ d i : Nat, i + d = 8 → ∀ S : List Int, S.length = 8 → Ev (fun k => L1 k x (i : Int) S) (tup8 (lay S i (x.drop i)) true) := by
  intro d
  induction d with
  | zero =>
    intro i hi S hS
    rw [List.drop_of_length_le (by omega), lay_nil]
    refine Ev.step (fun k => by rw [L1, monikerref19_V6.l1]) ?_
    exact Ev.ite_neg (by omega) (Ev.val rfl)
  | succ d ih =>
    intro i hi S hS
    refine L1_step x i (by omega) (by omega) S hS _ ?_
    rw [getD_drop (L := x) (i := i) (by omega) 0, ← lay_cons S i _ _ (by omega)]
    exact ih (i + 1) (by omega) _ (by rw [List.length_set]; exact hS)
theorem L3_run (y : List Int) (hy : y.length ≤ 8) : ∀ d i : Nat, i + d = y.length → ∀ S : List Int, S.length = 8 → Ev (fun k => L3 k y (i : Int) S) (tup8 (lay S (8 - y.length + i) (y.drop i)) true) := by
  intro d
  induction d with
  | zero =>
    intro i hi S hS
    rw [List.drop_of_length_le (by omega), lay_nil]
    refine Ev.step (fun k => by rw [L3, monikerref19_V6.l3]) ?_
    exact Ev.ite_neg (by omega) (Ev.val rfl)
  | succ d ih =>
    intro i hi S hS
    refine L3_step y i (8 - y.length + i) (by omega) (by omega) hy (by omega) S hS _ ?_
    rw [getD_drop (L := y) (i := i) (by omega) 0, ← lay_cons S _ _ _ (by omega)]
    exact ih (i + 1) (by omega) _ (by rw [List.length_set]; exact hS)
theorem L2_run (x y : List Int) (hx : x.length ≤ 8) (r : Int × Int × Int × Int × Int × Int × Int × Int × Bool) : ∀ d i : Nat, i + d = x.length → ∀ S : List Int, S.length = 8 →
    Ev (fun k => L3 k y 0 (lay S i (x.drop i))) r → Ev (fun k => L2 k x y (i : Int) S) r := by
  intro d
  induction d with
  | zero =>
    intro i hi S hS h
    rw [List.drop_of_length_le (by omega), lay_nil] at h
    refine Ev.step (fun k => by rw [L2, monikerref19_V6.l2]) ?_
    exact Ev.ite_neg (by omega) h
  | succ d ih =>
    intro i hi S hS h
    refine L2_step x y i (by omega) (by omega) hx S hS _ ?_
    rw [getD_drop (L := x) (i := i) (by omega) 0, ← lay_cons S i _ _ (by omega)] at h
    exact ih (i + 1) (by omega) _ (by rw [List.length_set]; exact hS) h
theorem lay_both (a b : List Int) (h : a.length + b.length ≤ 7) : lay (lay zeros8 0 a) (8 - b.length) b = a ++ List.replicate (8 - a.length - b.length) 0 ++ b := by
  have hz : zeros8 = List.replicate 8 0 := rfl
  unfold lay
  rw [hz]
  simp only [List.take_zero, List.nil_append, Nat.zero_add]
  rw [List.drop_replicate, List.take_append]
  have e2 : a.take (8 - b.length) = a := List.take_of_length_le (by omega)
  rw [e2, List.take_replicate]
  have e3 : (a ++ List.replicate (8 - a.length) 0).drop (8 - b.length + b.length) = ([] : List Int) := by
    apply List.drop_of_length_le
    rw [List.length_append, List.length_replicate]; omega
  rw [e3, List.append_nil, show min (8 - b.length - a.length) (8 - a.length) = 8 - a.length - b.length by omega]
theorem lay_zeros_len (a : List Int) (h : a.length ≤ 8) : (lay zeros8 0 a).length = 8 := by
  unfold lay zeros8
  simp; omega
theorem rowS_len {fin : Bool} {l w : List Int} (h : rowS fin l = some w) (hl : l.length ≤ 1000000) : w.length ≤ 1000003 := by
  unfold rowS at h
  split at h
  · cases h; simp
  · have := words_len h
    have := splitC_len 58 l
    omega
theorem rowS_ahead (l : List Int) : (l.contains 46 = false → rowS true l = rowS false l) ∧ (l.contains 46 = true → rowS false l = none) := by
  constructor
  · intro h
    unfold rowS
    rw [words_nodot (fun p hp hm => by
      have := (splitC_mem p hp).2.1 46 hm
      rw [← List.contains_iff_mem, h] at this
      cases this) true]
  · intro h
    unfold rowS
    rw [if_neg (by rintro rfl; cases h)]
    cases hw : words false (splitC 58 l) with
    | none => rfl
    | some w =>
      exfalso
      have key := words_hex hw
      have hm := List.contains_iff_mem.1 h
      have inpart : ∀ l : List Int, (46 : Int) ∈ l → ∃ p ∈ splitC 58 l, (46 : Int) ∈ p := by
        intro l
        induction l with
        | nil => intro h; cases h
        | cons b t ih =>
          intro h
          rw [splitC_cons]
          by_cases hb : b = 58
          · rw [if_pos hb]
            rcases List.mem_cons.1 h with h | h
            · rw [hb] at h; cases h
            · obtain ⟨p, hp, h2⟩ := ih h
              exact ⟨p, List.mem_cons_of_mem _ hp, h2⟩
          · rw [if_neg hb]
            rcases List.mem_cons.1 h with h | h
            · exact ⟨_, List.mem_cons_self .., by rw [h]; exact List.mem_cons_self ..⟩
            · obtain ⟨p, hp, h2⟩ := ih h
              rw [splitC_head 58 t] at hp
              rcases List.mem_cons.1 hp with rfl | hp
              · exact ⟨_, List.mem_cons_self .., List.mem_cons_of_mem _ h2⟩
              · exact ⟨p, List.mem_cons_of_mem _ hp, h2⟩
      obtain ⟨p, hp, h2⟩ := inpart l hm
      exact (key p hp).1 h2
def V0 (k : Nat) (s : ByteArray) (at_ i : Int) := monikerref19_V6.l0 k s at_ i 0 0 0 0 0 0 0 0
theorem refV6_none (s : ByteArray) (hs : s.size ≤ 1000000) (hneg : sidx [58, 58] (bytesOf s) < 0) (i : Nat) (hi : s.size ≤ i + 1) (hi2 : i ≤ s.size) : Ev (fun k => V0 k s (-1) (i : Int)) (v6T (bytesOf s)) := by
  refine Ev.step (fun k => by rw [V0, monikerref19_V6.l0]) ?_
  rw [w64 (x := (i : Int) + 1) (by omega) (by omega)]
  refine Ev.ite_neg (by omega) (Ev.ite_pos (by omega) (Ev.bind' (refRow_f s hs) ?_))
  have bad : ∀ x : List Int, Ev (fun k => monikerref19_V6.j1 k x true 0 0 0 0 0 0 0 0) (tup8 zeros8 false) := by
    intro x
    refine Ev.step (fun k => by rw [monikerref19_V6.j1]) ?_
    exact Ev.ite_pos rfl (Ev.val rfl)
  unfold v6T v6
  rw [if_pos hneg]
  cases hr : rowS true (bytesOf s) with
  | none => exact Ev.ite_neg (by simp [wordsT]) (bad _)
  | some w =>
    refine Ev.ite_pos (by simp [wordsT]) ?_
    simp only [wordsT, List.nil_append, Option.bind_some]
    by_cases h8 : w.length = 8
    · have e : (((w.length : Nat) : Int) != 8) = false := by simp; omega
      rw [e, if_pos h8]
      refine Ev.step (fun k => by rw [monikerref19_V6.j1]) ?_
      refine Ev.ite_neg (by simp) ?_
      have := L1_run w h8 8 0 (by omega) zeros8 rfl
      rw [List.drop_zero] at this
      have e2 : lay zeros8 0 w = w := by
        unfold lay
        rw [List.drop_of_length_le (by rw [h8]; decide)]
        simp
      rw [e2] at this
      exact this
    · have e : (((w.length : Nat) : Int) != 8) = true := by simp; omega
      rw [e, if_neg h8]
      exact bad _
theorem refV6_some (s : ByteArray) (hs : s.size ≤ 1000000) (j : Nat) (hj : sidx [58, 58] (bytesOf s) = (j : Int)) : ∀ d i : Nat, i + d = s.size → Ev (fun k => V0 k s (j : Int) (i : Int)) (v6T (bytesOf s)) := by
  have hsp := sidx_split (sub := [58, 58]) (l := bytesOf s) (by omega)
  rw [hj, Int.toNat_natCast] at hsp
  simp only [List.length_cons, List.length_nil, bytes_len] at hsp
  have fin : ∀ i : Nat, s.size ≤ i + 1 → i ≤ s.size → Ev (fun k => V0 k s (j : Int) (i : Int)) (v6T (bytesOf s)) := by
    intro i hi hi2
    refine Ev.step (fun k => by rw [V0, monikerref19_V6.l0]) ?_
    rw [w64 (x := (i : Int) + 1) (by omega) (by omega), w64 (x := (j : Int) + 2) (by omega) (by omega), Int.toNat_natCast]
    refine Ev.ite_neg (by omega) (Ev.ite_neg (by omega) (Ev.ite_pos (by omega) (Ev.ite_pos (by omega) ?_)))
    have h1 := refRow_f (s.extract 0 j) (by rw [← bytes_len, bytes_extract, List.length_drop, List.length_take, bytes_len]; omega)
    have h2 := refRow_f (s.extract (j + 2) s.size) (by rw [← bytes_len, bytes_extract, List.length_drop, List.length_take, bytes_len]; omega)
    rw [bytes_extract, List.drop_zero] at h1
    rw [bytes_from] at h2
    refine Ev.bind' h1 (Ev.ite_pos (by omega) (Ev.ite_pos (by omega) ?_))
    have e2 : ((j : Int) + 2).toNat = j + 2 := by omega
    rw [e2]
    refine Ev.bind' h2 ?_
    have bad : ∀ x y : List Int, Ev (fun k => monikerref19_V6.j3 k s (j : Int) x y true 0 0 0 0 0 0 0 0) (tup8 zeros8 false) := by
      intro x y
      refine Ev.step (fun k => by rw [monikerref19_V6.j3]) ?_
      exact Ev.ite_pos rfl (Ev.val rfl)
    have hal := rowS_ahead ((bytesOf s).take j)
    have bad4 : ∀ x y : List Int, Ev (fun k => monikerref19_V6.j4 k x y true 0 0 0 0 0 0 0 0) (tup8 zeros8 false) := by
      intro x y
      refine Ev.step (fun k => by rw [monikerref19_V6.j4]) ?_
      exact Ev.ite_pos rfl (Ev.val rfl)
    unfold v6T v6
    rw [if_neg (by omega), hj, Int.toNat_natCast]
    cases ha : rowS true ((bytesOf s).take j) with
    | none =>
      have hn : rowS false ((bytesOf s).take j) = none := by
        cases hc : ((bytesOf s).take j).contains 46
        · rw [← hal.1 hc]; exact ha
        · exact hal.2 hc
      rw [hn]
      exact Ev.ite_neg (by simp [wordsT]) (bad _ _)
    | some a =>
      refine Ev.ite_pos (by simp [wordsT]) ?_
      simp only [wordsT, List.nil_append]
      have hla := rowS_len ha (by rw [List.length_take, bytes_len]; omega)
      cases hbb : rowS true ((bytesOf s).drop (j + 2)) with
      | none =>
        refine Ev.ite_neg (by simp) ?_
        cases rowS false ((bytesOf s).take j) with
        | none => exact bad _ _
        | some x => exact bad _ _
      | some b =>
        have hlb := rowS_len hbb (by rw [List.length_drop, bytes_len]; omega)
        refine Ev.ite_pos (by simp [wordsT]) ?_
        simp only [wordsT, List.nil_append]
        have hw : wrap64 ((a.length : Int) + (b.length : Int)) = (a.length : Int) + (b.length : Int) := w64 (by omega) (by omega)
        simp only [hw]
        by_cases hlen : a.length + b.length ≤ 7
        · rw [decide_eq_false (by omega)]
          refine Ev.step (fun k => by rw [monikerref19_V6.j3]) ?_
          refine Ev.ite_neg (by simp) ?_
          have go : ∀ t : Bool, t = ((bytesOf s).take j).contains 46 → Ev (fun k => monikerref19_V6.j4 k a b t 0 0 0 0 0 0 0 0) (match ((rowS false ((bytesOf s).take j)).bind fun a => (some b).bind fun b => if a.length + b.length ≤ 7 then some (a ++ List.replicate (8 - a.length - b.length) 0 ++ b) else none) with
              | some w => tup8 w true
              | none => tup8 zeros8 false) := by
            intro t ht
            cases hc : ((bytesOf s).take j).contains 46
            · rw [hc] at ht
              subst ht
              rw [← hal.1 hc, ha]
              simp only [Option.bind_some]
              rw [if_pos hlen]
              refine Ev.step (fun k => by rw [monikerref19_V6.j4]) ?_
              refine Ev.ite_neg (by simp) ?_
              refine L2_run a b (by omega) _ a.length 0 (by omega) zeros8 rfl ?_
              rw [List.drop_zero]
              have := L3_run b (by omega) b.length 0 (by omega) (lay zeros8 0 a) (lay_zeros_len a (by omega))
              rw [List.drop_zero, Nat.add_zero, lay_both a b hlen] at this
              exact this
            · rw [hc] at ht
              subst ht
              rw [hal.2 hc]
              exact bad4 _ _
          refine Ev.ite (fun hj0 => Ev.ite_pos (by omega) (Ev.ite_pos (by omega) ?_)) (fun hj0 => go false ?_)
          · have hin := in_f 46 (s.extract 0 j) (by rw [← bytes_len, bytes_extract, List.length_drop, List.length_take, bytes_len]; omega)
            rw [bytes_extract, List.drop_zero] at hin
            rw [Int.toNat_natCast]
            exact Ev.bind' hin (go _ rfl)
          · have : j = 0 := by omega
            subst this
            simp
        · rw [decide_eq_true (by omega)]
          cases hc : ((bytesOf s).take j).contains 46
          · rw [← hal.1 hc, ha]
            simp only [Option.bind_some]
            rw [if_neg hlen]
            exact bad _ _
          · rw [hal.2 hc]
            exact bad _ _
  intro d
  induction d with
  | zero => intro i hi; exact fin i (by omega) (by omega)
  | succ d ih =>
    intro i hi
    by_cases he : s.size ≤ i + 1
    · exact fin i he (by omega)
    · refine Ev.step (fun k => by rw [V0, monikerref19_V6.l0]) ?_
      rw [w64 (x := (i : Int) + 1) (by omega) (by omega)]
      refine Ev.ite_pos (by omega) (Ev.ite_neg (by omega) ?_)
      exact ih (i + 1) (by omega)
theorem refV6_look (s : ByteArray) (hs : s.size ≤ 1000000) : ∀ d i : Nat, i + d = s.size → (sidx [58, 58] (bytesOf s) = if sidx [58, 58] ((bytesOf s).drop i) = -1 then -1 else (i : Int) + sidx [58, 58] ((bytesOf s).drop i)) →
    Ev (fun k => V0 k s (-1) (i : Int)) (v6T (bytesOf s)) := by
  intro d
  induction d with
  | zero =>
    intro i hi h
    rw [List.drop_of_length_le (by rw [bytes_len]; omega)] at h
    have hz : sidx [58, 58] [] = -1 := rfl
    rw [hz, if_pos rfl] at h
    exact refV6_none s hs (by omega) i (by omega) (by omega)
  | succ d ih =>
    intro i hi h
    by_cases he : s.size ≤ i + 1
    · refine refV6_none s hs ?_ i he (by omega)
      rcases at_or_end s i (by omega) with ⟨h2, _⟩ | ⟨_, e, _⟩
      · omega
      · rw [e, List.drop_of_length_le (by rw [bytes_len]; omega)] at h
        rw [h]
        have : sidx [58, 58] [bt s (i : Int)] = -1 := by
          have hz : sidx [58, 58] [] = -1 := rfl
          rw [sidx_cons, if_neg (by simp [List.isPrefixOf]), hz, if_pos rfl]
        rw [if_pos this]
        decide
    · rcases at_or_end s i (by omega) with ⟨h2, _⟩ | ⟨_, e, b0, b1⟩
      · omega
      rcases at_or_end s (i + 1) (by omega) with ⟨h2, _⟩ | ⟨_, e2, c0, c1⟩
      · omega
      refine Ev.step (fun k => by rw [V0, monikerref19_V6.l0]) ?_
      rw [w64 (x := (i : Int) + 1) (by omega) (by omega), w64 (x := (i : Int) + 2) (by omega) (by omega)]
      refine Ev.ite_pos (by omega) (Ev.ite_pos (by omega) (Ev.ite_pos (by omega) (Ev.ite_pos (by omega) (Ev.ite_pos (by omega) ?_))))
      have e3 : ((i : Int) + 2).toNat = i + 2 := by omega
      rw [e3, Int.toNat_natCast]
      have hcond : (s.extract i (i + 2)).toList = ([58, 58] : List UInt8) ↔ (bytesOf s).drop i = 58 :: 58 :: (bytesOf s).drop (i + 2) := by
        have h58 : ([58, 58] : List UInt8) = (⟨#[58, 58]⟩ : ByteArray).toList := by rw [ByteArray.toList_eq]
        have hb : bytesOf (⟨#[58, 58]⟩ : ByteArray) = [58, 58] := rfl
        rw [h58, toList_iff, bytes_extract, hb, List.drop_take, show i + 2 - i = 2 by omega, e, e2]
        simp
      have hpre : ([58, 58] : List Int).isPrefixOf ((bytesOf s).drop i) = true ↔ (bytesOf s).drop i = 58 :: 58 :: (bytesOf s).drop (i + 2) := by
        rw [e, e2]
        simp [List.isPrefixOf]
        constructor
        · rintro ⟨h1, h2⟩; exact ⟨h1.symm, h2.symm⟩
        · rintro ⟨h1, h2⟩; exact ⟨h1.symm, h2.symm⟩
      have hd : sidx [58, 58] ((bytesOf s).drop i) = if ([58, 58] : List Int).isPrefixOf ((bytesOf s).drop i) then 0 else if sidx [58, 58] ((bytesOf s).drop (i + 1)) = -1 then -1 else sidx [58, 58] ((bytesOf s).drop (i + 1)) + 1 := by
        rw [e, sidx_cons]
      refine Ev.ite (fun hp => ?_) (fun hp => ?_)
      · have h0 : sidx [58, 58] ((bytesOf s).drop i) = 0 := by rw [hd, if_pos (hpre.2 (hcond.1 hp))]
        rw [h0, if_neg (by omega)] at h
        exact refV6_some s hs i (by omega) d (i + 1) (by omega)
      · rw [if_neg (fun x => hp (hcond.2 (hpre.1 x)))] at hd
        refine ih (i + 1) (by omega) ?_
        have hg := sidx_ge [58, 58] ((bytesOf s).drop (i + 1))
        rw [h, hd]
        generalize sidx [58, 58] ((bytesOf s).drop (i + 1)) = z at hg ⊢
        by_cases hz : z = -1
        · rw [if_pos hz, if_pos hz, if_pos rfl]
        · rw [if_neg hz, if_neg hz, if_neg (by omega)]
          omega
theorem refV6_f (s : ByteArray) (hs : s.size ≤ 1000000) : Ev (fun k => monikerref19_V6.f k s) (v6T (bytesOf s)) := by
  have hg := sidx_ge [58, 58] (bytesOf s)
  refine refV6_look s hs s.size 0 (by omega) ?_
  rw [List.drop_zero]
  split <;> omega
end Go.Proofs.YtdmigmccfdhdiaaDoor.Y
namespace Go.Proofs.YtdmigmccfdhdiaaDoor.Y
open Go.RowKit Go.Proofs.YtdmigmccfdhdiaaDoor.X Go.Proofs.YtdmigmccfdhdiaaDoor.M Go.Proofs.YtdmigmccfdhdiaaDoorW.PrintWords Go.Proofs.YtdmigmccfdhdiaaDoorW.PrintLast Go.Proofs.YtdmigmccfdhdiaaDoorW.PrintMore
set_option linter.unusedVariables false
theorem plainAt_user {b : Int} (h0 : 0 ≤ b) (h1 : b ≤ 255) : plainAt 1 b = (plainc b || b == 58) :=
  byte_all (p := fun b => plainAt 1 b = (plainc b || b == 58)) (by decide +kernel) h0 h1
theorem fut_l0 (s : ByteArray) (hs : s.size ≤ 140737488351232) : ∀ d i : Nat, i + d = s.size → Ev (fun k => ip_Future.l0 k s (i : Int)) (((bytesOf s).drop i).all fun b => plainAt 1 b) := by
  intro d
  induction d with
  | zero =>
    intro i hi
    rw [List.drop_of_length_le (by rw [bytes_len]; omega)]
    refine Ev.step (fun k => by rw [ip_Future.l0]) ?_
    exact Ev.ite_neg (by omega) (Ev.now _)
  | succ d ih =>
    intro i hi
    rcases at_or_end s i (by omega) with ⟨h2, _⟩ | ⟨_, e, b0, b1⟩
    · omega
    rw [e, List.all_cons]
    refine Ev.step (fun k => by rw [ip_Future.l0]) ?_
    refine Ev.ite_pos (by omega) (Ev.ite_pos (by omega) (Ev.bind' (plain_f b0 b1) ?_))
    cases hp : plainAt 1 (bt s (i : Int))
    · exact Ev.ite_neg (by simp) (Ev.val (by simp))
    · refine Ev.ite_pos rfl ?_
      rw [w64 (by omega) (by omega)]
      simp only [Bool.true_and]
      exact ih (i + 1) (by omega)
theorem spanp_congr {p q : Int → Bool} {l : List Int} (h : ∀ b ∈ l, p b = q b) : spanp p l = spanp q l := by
  induction l with
  | nil => rfl
  | cons b t ih =>
    unfold spanp
    rw [h b (List.mem_cons_self ..), ih (fun c hc => h c (List.mem_cons_of_mem _ hc))]
theorem or32 {b : Int} (h0 : 0 ≤ b) (h1 : b ≤ 255) : ((Go.bits .or .u8 b 32) != 118) = !(b == 118 || b == 86) :=
  byte_all (p := fun b => ((Go.bits .or .u8 b 32) != 118) = !(b == 118 || b == 86)) (by decide +kernel) h0 h1
theorem fut_cons (v : Int) (t : List Int) : fut (v :: t) = ((v == 118 || v == 86) && decide (0 < spanp hexd t) && decide (2 ≤ (t.drop (spanp hexd t)).length) && ((t.drop (spanp hexd t)).headD 0 == 46) && ((t.drop (spanp hexd t)).tail.all fun b => plainAt 1 b)) := rfl
theorem hex_span (s : ByteArray) (hs : s.size ≤ 140737488351232) : Ev (fun k => octet_Span.f k s 32) (spanp hexd (bytesOf s) : Int) := by
  have := octSpan_f s 32 hs
  rwa [spanp_congr (q := hexd) (fun b hb => isc_hex (bytes_range hb).1 (bytes_range hb).2)] at this
theorem future_f (s : ByteArray) (hs : s.size ≤ 1000000) : Ev (fun k => ip_Future.f k s) (fut (bytesOf s)) := by
  unfold ip_Future.f
  have bad : ∀ r, r = false → Ev (fun k => ip_Future.j0 k s true) r := by
    intro r e
    subst e
    refine Ev.step (fun k => by rw [ip_Future.j0]) ?_
    exact Ev.ite_pos rfl (Ev.now _)
  refine Ev.ite (fun h => bad _ ?_) (fun h => ?_)
  · rw [(empty_iff s).1 h]; rfl
  · rcases at_begin s with ⟨_, e⟩ | ⟨hp, e, b0, b1⟩
    · exact absurd ((empty_iff s).2 e) h
    refine Ev.ite_pos (by omega) ?_
    have hf : fut (bytesOf s) = fut (bt s 0 :: (bytesOf s).drop 1) := by rw [← e]
    rw [hf, fut_cons, or32 b0 b1]
    cases hv : (bt s 0 == 118 || bt s 0 == 86)
    · exact bad _ (by simp)
    · refine Ev.step (fun k => by rw [ip_Future.j0]) ?_
      refine Ev.ite_neg (by simp) (Ev.ite_pos (by omega) ?_)
      have hsp := hex_span (s.extract 1 s.size) (by rw [← bytes_len, bytes_from, List.length_drop, bytes_len]; omega)
      rw [bytes_from] at hsp
      refine Ev.bind' hsp ?_
      have hle := spanp_le hexd ((bytesOf s).drop 1)
      rw [List.length_drop, bytes_len] at hle
      generalize spanp hexd ((bytesOf s).drop 1) = n at hle ⊢
      have hw : wrap64 (1 + (n : Int)) = ((n + 1 : Nat) : Int) := by rw [w64 (by omega) (by omega)]; omega
      simp only [hw]
      refine Ev.ite_pos (by omega) (Ev.ite_pos (by omega) ?_)
      rw [Int.toNat_natCast, List.drop_drop]
      have hsz : (s.extract (n + 1) s.size).size = s.size - (n + 1) := by rw [← bytes_len, bytes_from, List.length_drop, bytes_len]
      have bad1 : ∀ r, r = false → Ev (fun k => ip_Future.j1 k (s.extract (n + 1) s.size) true) r := by
        intro r e
        subst e
        refine Ev.step (fun k => by rw [ip_Future.j1]) ?_
        exact Ev.ite_pos rfl (Ev.now _)
      rw [show 1 + n = n + 1 by omega]
      have hld : ((bytesOf s).drop (n + 1)).length = s.size - (n + 1) := by rw [List.length_drop, bytes_len]
      refine Ev.ite (fun h0 => bad1 _ ?_) (fun h0 => Ev.ite (fun h2 => bad1 _ ?_) (fun h2 => Ev.ite_pos (by omega) ?_))
      · have : n = 0 := by omega
        simp [this]
      · rw [hsz] at h2
        rw [hld, decide_eq_false (p := 2 ≤ s.size - (n + 1)) (by omega)]
        simp
      · rcases at_begin (s.extract (n + 1) s.size) with ⟨h3, _⟩ | ⟨_, e3, _⟩
        · omega
        rw [bytes_from] at e3
        rw [hsz] at h2
        rw [hld, decide_eq_true (p := 0 < n) (by omega), decide_eq_true (p := 2 ≤ s.size - (n + 1)) (by omega)]
        have hh : ((bytesOf s).drop (n + 1)).headD 0 = bt (s.extract (n + 1) s.size) 0 := by rw [e3]; rfl
        have ht : ((bytesOf s).drop (n + 1)).tail = ((bytesOf s).drop (n + 1)).drop 1 := by rw [List.drop_one]
        rw [hh, ht]
        cases h46 : (bt (s.extract (n + 1) s.size) 0 == 46)
        · have : (bt (s.extract (n + 1) s.size) 0 != 46) = true := by rw [bne, h46]; rfl
          rw [this]
          exact bad1 _ (by simp)
        · have : (bt (s.extract (n + 1) s.size) 0 != 46) = false := by rw [bne, h46]; rfl
          rw [this]
          refine Ev.step (fun k => by rw [ip_Future.j1]) ?_
          refine Ev.ite_neg (by simp) ?_
          have := fut_l0 (s.extract (n + 1) s.size) (by omega) ((s.extract (n + 1) s.size).size - 1) 1 (by omega)
          rw [bytes_from] at this
          simpa using this
theorem refFut_l1 (s : ByteArray) (hs : s.size ≤ 140737488351232) : ∀ d i : Nat, i + d = s.size → Ev (fun k => monikerref19_Future.l1 k s (i : Int)) (((bytesOf s).drop i).all fun b => plainAt 1 b) := by
  intro d
  induction d with
  | zero =>
    intro i hi
    rw [List.drop_of_length_le (by rw [bytes_len]; omega)]
    refine Ev.step (fun k => by rw [monikerref19_Future.l1]) ?_
    exact Ev.ite_neg (by omega) (Ev.now _)
  | succ d ih =>
    intro i hi
    rcases at_or_end s i (by omega) with ⟨h2, _⟩ | ⟨_, e, b0, b1⟩
    · omega
    rw [e, List.all_cons, plainAt_user b0 b1]
    refine Ev.step (fun k => by rw [monikerref19_Future.l1]) ?_
    refine Ev.ite_pos (by omega) (Ev.ite_pos (by omega) (Ev.bind' (refClass_f b0 b1) ?_))
    rw [w64 (by omega) (by omega)]
    have nx := ih (i + 1) (by omega)
    refine Ev.ite (fun h => Ev.ite (fun h58 => ?_) (fun h58 => Ev.val ?_)) (fun h => ?_)
    · rw [h58]
      simp only [beq_self_eq_true, Bool.or_true, Bool.true_and]
      exact nx
    · rw [isc_zero, isc_plain b0 b1] at h
      have : (bt s (i : Int) == 58) = false := by simpa using h58
      rw [h, this]; rfl
    · rw [isc_zero, isc_plain b0 b1, Bool.not_eq_false] at h
      rw [h]
      simp only [Bool.true_or, Bool.true_and]
      exact nx
theorem refFut_j2 (s : ByteArray) (hs : s.size ≤ 1000000) (h4 : 4 ≤ s.size) (i : Nat) (h1 : 1 ≤ i) (hi : i ≤ s.size) : Ev (fun k => monikerref19_Future.j2 k s (i : Int))
    (decide (1 < i) && decide (2 ≤ ((bytesOf s).drop i).length) && (((bytesOf s).drop i).headD 0 == 46) && (((bytesOf s).drop i).tail.all fun b => plainAt 1 b)) := by
  have bad : ∀ r, r = false → Ev (fun k => monikerref19_Future.j3 k s (i : Int) true) r := by
    intro r e
    subst e
    refine Ev.step (fun k => by rw [monikerref19_Future.j3]) ?_
    exact Ev.ite_pos rfl (Ev.now _)
  have hld : ((bytesOf s).drop i).length = s.size - i := by rw [List.length_drop, bytes_len]
  refine Ev.step (fun k => by rw [monikerref19_Future.j2]) ?_
  have hw : wrap64 ((s.size : Int) - 1) = (s.size : Int) - 1 := w64 (by omega) (by omega)
  simp only [hw]
  refine Ev.ite (fun h => bad _ ?_) (fun h => Ev.ite (fun h2 => bad _ ?_) (fun h2 => Ev.ite_pos (by omega) (Ev.ite_pos (by omega) ?_)))
  · rw [decide_eq_false (by omega)]; rfl
  · rw [hld, decide_eq_false (p := 2 ≤ s.size - i) (by omega)]; simp
  · rcases at_or_end s i (by omega) with ⟨h3, _⟩ | ⟨_, e, b0, b1⟩
    · omega
    rw [hld, decide_eq_true (by omega), decide_eq_true (by omega), e]
    simp only [List.headD_cons, List.tail_cons]
    cases h46 : (bt s (i : Int) == 46)
    · have : (bt s (i : Int) != 46) = true := by rw [bne, h46]; rfl
      rw [this]
      exact bad _ (by simp)
    · have : (bt s (i : Int) != 46) = false := by rw [bne, h46]; rfl
      rw [this]
      refine Ev.step (fun k => by rw [monikerref19_Future.j3]) ?_
      refine Ev.ite_neg (by simp) ?_
      rw [w64 (by omega) (by omega)]
      simp only [Bool.true_and, Bool.and_self]
      exact refFut_l1 s (by omega) (s.size - (i + 1)) (i + 1) (by omega)
theorem refFut_l0 (s : ByteArray) (hs : s.size ≤ 1000000) (h4 : 4 ≤ s.size) : ∀ d i : Nat, i + d = s.size → 1 ≤ i → Ev (fun k => monikerref19_Future.l0 k s (i : Int))
    (decide (1 < i + spanp hexd ((bytesOf s).drop i)) && decide (2 ≤ ((bytesOf s).drop (i + spanp hexd ((bytesOf s).drop i))).length) && (((bytesOf s).drop (i + spanp hexd ((bytesOf s).drop i))).headD 0 == 46) && (((bytesOf s).drop (i + spanp hexd ((bytesOf s).drop i))).tail.all fun b => plainAt 1 b)) := by
  intro d
  induction d with
  | zero =>
    intro i hi h1
    have hz : spanp hexd ((bytesOf s).drop i) = 0 := by rw [List.drop_of_length_le (by rw [bytes_len]; omega)]; rfl
    rw [hz, Nat.add_zero]
    refine Ev.step (fun k => by rw [monikerref19_Future.l0]) ?_
    exact Ev.ite_neg (by omega) (refFut_j2 s hs h4 i h1 (by omega))
  | succ d ih =>
    intro i hi h1
    rcases at_or_end s i (by omega) with ⟨h2, _⟩ | ⟨_, e, b0, b1⟩
    · omega
    refine Ev.step (fun k => by rw [monikerref19_Future.l0]) ?_
    refine Ev.ite_pos (by omega) (Ev.ite_pos (by omega) (Ev.bind' (refValue_f b0 b1) ?_))
    refine Ev.ite (fun h => ?_) (fun h => ?_)
    · have hz : spanp hexd ((bytesOf s).drop i) = spanp hexd ((bytesOf s).drop (i + 1)) + 1 := by
        rw [e]
        have : spanp hexd (bt s (i : Int) :: (bytesOf s).drop (i + 1)) = if hexd (bt s (i : Int)) then spanp hexd ((bytesOf s).drop (i + 1)) + 1 else 0 := rfl
        rw [this, if_pos ((hv_hexd _).1 (by omega))]
      rw [hz, w64 (by omega) (by omega), show i + (spanp hexd ((bytesOf s).drop (i + 1)) + 1) = i + 1 + spanp hexd ((bytesOf s).drop (i + 1)) by omega]
      exact ih (i + 1) (by omega) (by omega)
    · have hz : spanp hexd ((bytesOf s).drop i) = 0 := by
        rw [e]
        have : spanp hexd (bt s (i : Int) :: (bytesOf s).drop (i + 1)) = if hexd (bt s (i : Int)) then spanp hexd ((bytesOf s).drop (i + 1)) + 1 else 0 := rfl
        rw [this, if_neg (by rw [← hv_hexd]; omega)]
      rw [hz, Nat.add_zero]
      exact refFut_j2 s hs h4 i h1 (by omega)
theorem refFuture_f (s : ByteArray) (hs : s.size ≤ 1000000) : Ev (fun k => monikerref19_Future.f k s) (fut (bytesOf s)) := by
  have bad : ∀ r, r = false → Ev (fun k => monikerref19_Future.j0 k s true) r := by
    intro r e
    subst e
    refine Ev.step (fun k => by rw [monikerref19_Future.j0]) ?_
    exact Ev.ite_pos rfl (Ev.now _)
  unfold monikerref19_Future.f
  rcases at_begin s with ⟨h, e⟩ | ⟨hp, e, b0, b1⟩
  · rw [e]
    exact Ev.ite_pos (by omega) (bad _ rfl)
  have hf : fut (bytesOf s) = fut (bt s 0 :: (bytesOf s).drop 1) := by rw [← e]
  rw [hf, fut_cons]
  have hle := spanp_le hexd ((bytesOf s).drop 1)
  rw [List.length_drop, bytes_len] at hle
  refine Ev.ite (fun h => bad _ ?_) (fun h => Ev.ite_pos (by omega) ?_)
  · by_cases h0 : 0 < spanp hexd ((bytesOf s).drop 1)
    · rw [List.drop_drop, List.length_drop, bytes_len]
      by_cases h2 : 2 ≤ s.size - (1 + spanp hexd ((bytesOf s).drop 1))
      · omega
      · rw [decide_eq_false h2]; simp
    · rw [decide_eq_false h0]; simp
  · have good : Ev (fun k => monikerref19_Future.j0 k s false) (decide (0 < spanp hexd ((bytesOf s).drop 1)) && decide (2 ≤ (((bytesOf s).drop 1).drop (spanp hexd ((bytesOf s).drop 1))).length) && ((((bytesOf s).drop 1).drop (spanp hexd ((bytesOf s).drop 1))).headD 0 == 46) && ((((bytesOf s).drop 1).drop (spanp hexd ((bytesOf s).drop 1))).tail.all fun b => plainAt 1 b)) := by
      refine Ev.step (fun k => by rw [monikerref19_Future.j0]) ?_
      refine Ev.ite_neg (by simp) ?_
      have := refFut_l0 s hs (by omega) (s.size - 1) 1 (by omega) (by omega)
      rw [List.drop_drop]
      have e2 : decide (1 < 1 + spanp hexd ((bytesOf s).drop 1)) = decide (0 < spanp hexd ((bytesOf s).drop 1)) := by
        rw [decide_eq_decide]; omega
      rw [e2] at this
      exact this
    refine Ev.ite (fun hv => ?_) (fun hv => ?_)
    · rw [hv]
      simp only [beq_self_eq_true, Bool.true_or, Bool.true_and]
      exact good
    · by_cases h86 : bt s 0 = 86
      · rw [h86]
        have e1 : ((86 : Int) != 86) = false := by decide
        have e2 : (((86 : Int) == 118) || ((86 : Int) == 86)) = true := by decide
        rw [e1, e2]
        simp only [Bool.true_and]
        exact good
      · have e1 : (bt s 0 != 86) = true := by simpa using h86
        have e2 : ((bt s 0 == 118) || (bt s 0 == 86)) = false := by simp [hv, h86]
        rw [e1, e2]
        exact bad _ (by simp)
theorem getLast_bt (s : ByteArray) (h : 0 < s.size) : (bytesOf s).getLastD 0 = bt s ((s.size : Int) - 1) := by
  have e : ((s.size : Int) - 1) = ((s.size - 1 : Nat) : Int) := by omega
  have hne : bytesOf s ≠ [] := by intro x; have := bytes_len s; rw [x] at this; simp at this; omega
  rw [e, bt_getD, List.getLastD_eq_getLast?, List.getLast?_eq_getElem?, List.getD_eq_getElem?_getD, bytes_len]
theorem brack_iff (s : ByteArray) : brack (bytesOf s) = true ↔ 2 ≤ s.size ∧ bt s 0 = 91 ∧ bt s ((s.size : Int) - 1) = 93 := by
  unfold brack
  rw [bytes_len]
  by_cases h : 2 ≤ s.size
  · rcases at_begin s with ⟨h2, _⟩ | ⟨_, e, _⟩
    · omega
    have hh : (bytesOf s).headD 0 = bt s 0 := by rw [e]; rfl
    rw [hh, getLast_bt s (by omega)]
    simp [and_assoc]
  · simp [h]
theorem mid_bytes (s : ByteArray) (h : 2 ≤ s.size) : bytesOf (s.extract 1 (s.size - 1)) = ((bytesOf s).take ((bytesOf s).length - 1)).drop 1 := by
  rw [bytes_extract, bytes_len]
theorem host19_j0 (iri : Bool) (s : ByteArray) (hs : s.size ≤ 1000000) (b : Bool) (hb : b = brack (bytesOf s)) : Ev (fun k => ip_Host.j0 k iri s (s.size : Int) b) (hostK iri (bytesOf s)) := by
  refine Ev.step (fun k => by rw [ip_Host.j0]) ?_
  unfold hostK
  have hw : wrap64 ((s.size : Int) - 1) = (s.size : Int) - 1 := w64 (by omega) (by omega)
  simp only [hw]
  rw [← hb]
  refine Ev.ite (fun h => ?_) (fun h => ?_)
  · rw [if_pos h]
    have hb2 := (brack_iff s).1 (by rw [← hb]; exact h)
    refine Ev.ite_pos (by omega) (Ev.ite_pos (by omega) ?_)
    have e : ((s.size : Int) - 1).toNat = s.size - 1 := by omega
    rw [e]
    have hsz : (s.extract 1 (s.size - 1)).size ≤ 1000000 := by rw [← bytes_len, mid_bytes s hb2.1, List.length_drop, List.length_take, bytes_len]; omega
    have h6 := v6_f (s.extract 1 (s.size - 1)) hsz
    have h7 := future_f (s.extract 1 (s.size - 1)) hsz
    rw [mid_bytes s hb2.1] at h6 h7
    refine Ev.bind' h6 ?_
    rw [v6T_ok]
    refine Ev.ite (fun h8 => ?_) (fun h8 => ?_)
    · rw [h8]
      exact Ev.val (by simp)
    · rw [Bool.not_eq_true] at h8
      rw [h8]
      refine Ev.bind' h7 (Ev.ite (fun h9 => ?_) (fun h9 => ?_))
      · exact Ev.val (by rw [Bool.false_or, if_pos h9])
      · exact Ev.val (by rw [Bool.false_or, if_neg h9])
  · rw [if_neg h]
    refine Ev.bind' (v4_f s hs) ?_
    rw [v4T_ok]
    refine Ev.ite (fun h4 => ?_) (fun h4 => Ev.bind' (all_f 2 iri s (by omega)) (Ev.ite (fun h5 => ?_) (fun h5 => ?_)))
    · exact Ev.val (by rw [if_pos h4])
    · exact Ev.val (by rw [if_neg h4, if_pos h5])
    · exact Ev.val (by rw [if_neg h4, if_neg h5])
theorem host19_f (iri : Bool) (s : ByteArray) (hs : s.size ≤ 1000000) : Ev (fun k => ip_Host.f k iri s) (hostK iri (bytesOf s)) := by
  unfold ip_Host.f
  have hbi := brack_iff s
  have hw : wrap64 ((s.size : Int) - 1) = (s.size : Int) - 1 := w64 (by omega) (by omega)
  simp only [hw]
  have no : ¬ (2 ≤ s.size ∧ bt s 0 = 91 ∧ bt s ((s.size : Int) - 1) = 93) → Ev (fun k => ip_Host.j0 k iri s (s.size : Int) false) (hostK iri (bytesOf s)) := by
    intro h
    refine host19_j0 iri s hs false ?_
    symm
    rw [← Bool.not_eq_true, hbi]
    exact h
  refine Ev.ite (fun h => Ev.ite_pos (by omega) (Ev.ite (fun h2 => Ev.ite_pos (by omega) (Ev.ite_pos (by omega) ?_)) (fun h2 => no (fun x => h2 x.2.1)))) (fun h => no (fun x => h (by omega)))
  refine host19_j0 iri s hs _ ?_
  rw [Bool.eq_iff_iff, hbi, beq_iff_eq]
  constructor
  · intro h3; exact ⟨by omega, h2, h3⟩
  · intro h3; exact h3.2.2
theorem refHost_j0 (iri : Bool) (s : ByteArray) (hs : s.size ≤ 1000000) (b : Bool) (hb : b = brack (bytesOf s)) : Ev (fun k => monikerref19_Host.j0 k iri s (s.size : Int) b) (hostK iri (bytesOf s)) := by
  refine Ev.step (fun k => by rw [monikerref19_Host.j0]) ?_
  unfold hostK
  have hw : wrap64 ((s.size : Int) - 1) = (s.size : Int) - 1 := w64 (by omega) (by omega)
  simp only [hw]
  rw [← hb]
  refine Ev.ite (fun h => ?_) (fun h => ?_)
  · rw [if_pos h]
    have hb2 := (brack_iff s).1 (by rw [← hb]; exact h)
    refine Ev.ite_pos (by omega) (Ev.ite_pos (by omega) ?_)
    have e : ((s.size : Int) - 1).toNat = s.size - 1 := by omega
    rw [e]
    have hsz : (s.extract 1 (s.size - 1)).size ≤ 1000000 := by rw [← bytes_len, mid_bytes s hb2.1, List.length_drop, List.length_take, bytes_len]; omega
    have h6 := refV6_f (s.extract 1 (s.size - 1)) hsz
    have h7 := refFuture_f (s.extract 1 (s.size - 1)) hsz
    rw [mid_bytes s hb2.1] at h6 h7
    refine Ev.bind' h6 ?_
    rw [v6T_ok]
    refine Ev.ite (fun h8 => ?_) (fun h8 => ?_)
    · rw [h8]
      exact Ev.val (by simp)
    · rw [Bool.not_eq_true] at h8
      rw [h8]
      refine Ev.bind' h7 (Ev.ite (fun h9 => ?_) (fun h9 => ?_))
      · exact Ev.val (by rw [Bool.false_or, if_pos h9])
      · exact Ev.val (by rw [Bool.false_or, if_neg h9])
  · rw [if_neg h]
    refine Ev.bind' (refV4_f s hs) ?_
    rw [v4T_ok]
    refine Ev.ite (fun h4 => ?_) (fun h4 => Ev.bind' (refSpan18_f 2 iri s (by omega)) (Ev.ite (fun h5 => ?_) (fun h5 => ?_)))
    · exact Ev.val (by rw [if_pos h4])
    · refine Ev.val ?_
      rw [if_neg h4, if_pos]
      unfold allAt
      rw [beq_iff_eq, bytes_len]; omega
    · refine Ev.val ?_
      rw [if_neg h4, if_neg]
      unfold allAt
      rw [beq_iff_eq, bytes_len]; omega
theorem refHost_f (iri : Bool) (s : ByteArray) (hs : s.size ≤ 1000000) : Ev (fun k => monikerref19_Host.f k iri s) (hostK iri (bytesOf s)) := by
  unfold monikerref19_Host.f
  have hbi := brack_iff s
  have hw : wrap64 ((s.size : Int) - 1) = (s.size : Int) - 1 := w64 (by omega) (by omega)
  simp only [hw]
  have no : ¬ (2 ≤ s.size ∧ bt s 0 = 91 ∧ bt s ((s.size : Int) - 1) = 93) → Ev (fun k => monikerref19_Host.j0 k iri s (s.size : Int) false) (hostK iri (bytesOf s)) := by
    intro h
    refine refHost_j0 iri s hs false ?_
    symm
    rw [← Bool.not_eq_true, hbi]
    exact h
  refine Ev.ite (fun h => Ev.ite_pos (by omega) (Ev.ite (fun h2 => Ev.ite_pos (by omega) (Ev.ite_pos (by omega) ?_)) (fun h2 => no (fun x => h2 x.2.1)))) (fun h => no (fun x => h (by omega)))
  refine refHost_j0 iri s hs _ ?_
  rw [Bool.eq_iff_iff, hbi, beq_iff_eq]
  constructor
  · intro h3; exact ⟨by omega, h2, h3⟩
  · intro h3; exact h3.2.2
end Go.Proofs.YtdmigmccfdhdiaaDoor.Y
namespace Go.Proofs.YtdmigmccfdhdiaaDoor.Y
open Go.RowKit Go.Proofs.YtdmigmccfdhdiaaDoor.X Go.Proofs.YtdmigmccfdhdiaaDoor.M Go.Proofs.YtdmigmccfdhdiaaDoorW.PrintWords Go.Proofs.YtdmigmccfdhdiaaDoorW.PrintLast
theorem indexByte_f (s : ByteArray) (c : Int) (h0 : 0 ≤ c) (h1 : c ≤ 255) : strings_IndexByte.f s c = some (idx c (bytesOf s)) := by
  unfold strings_IndexByte.f stringslite_IndexByte.f
  rw [indexByte_bytes s c h0 h1]; rfl
theorem lastIndex_l0 (s : ByteArray) (c : Int) (hs : s.size ≤ 140737488351232) : ∀ n : Nat, n ≤ s.size → Ev (fun k => bytealg_LastIndexByteString.l0 k s c ((n : Int) - 1)) (lidx c ((bytesOf s).take n)) := by
  intro n
  induction n with
  | zero =>
    intro _
    refine Ev.step (fun k => rfl) ?_
    simp only [Int.natCast_zero, List.take_zero, lidx]
    refine Ev.ite_neg (by omega) (Ev.now _)
  | succ n ih =>
    intro hn
    refine Ev.step (fun k => rfl) ?_
    have e : ((n + 1 : Nat) : Int) - 1 = (n : Int) := by omega
    rw [e, take_next (by omega), lidx_snoc]
    refine Ev.ite_pos (by omega) (Ev.ite_pos (by omega) (Ev.ite_pos (by omega) ?_))
    by_cases hb : bt s (n : Int) = c
    · refine Ev.ite_pos hb ?_
      rw [if_pos hb, List.length_take, bytes_len, Nat.min_eq_left (by omega)]
      exact Ev.now _
    · refine Ev.ite_neg hb ?_
      rw [if_neg hb, w64 (by omega) (by omega)]
      exact ih (by omega)
theorem lastIndexByte_f (s : ByteArray) (c : Int) (hs : s.size ≤ 140737488351232) : Ev (fun k => strings_LastIndexByte.f k s c) (lidx c (bytesOf s)) := by
  refine Ev.bind' (a := lidx c (bytesOf s)) (f := fun _ t => some t) ?_ (Ev.now _)
  unfold bytealg_LastIndexByteString.f
  rw [w64 (by omega) (by omega)]
  have := lastIndex_l0 s c hs s.size (Nat.le_refl _)
  rw [← bytes_len, List.take_length, bytes_len] at this
  exact this
theorem hasPrefix_f (s p : ByteArray) : strings_HasPrefix.f s p = some (decide ((bytesOf s).take p.size = bytesOf p)) := by
  unfold strings_HasPrefix.f stringslite_HasPrefix.f
  by_cases h : (s.size : Int) ≥ (p.size : Int)
  · rw [if_pos h, if_pos (by omega), if_pos (by omega)]
    simp only [Option.bind_some, Option.some.injEq, Int.toNat_natCast]
    rw [Bool.eq_iff_iff, beq_iff_eq, decide_eq_true_iff, toList_iff, bytes_extract, List.drop_zero]
  · rw [if_neg h]
    simp only [Option.bind_some, Option.some.injEq]
    symm
    rw [decide_eq_false_iff_not]
    intro e
    have := congrArg List.length e
    rw [List.length_take, bytes_len, bytes_len] at this
    omega
def hostEnd (l : List Int) : Int :=
  if l.take 1 = [91] ∧ 0 ≤ idx 93 l then
    (if l.drop ((idx 93 l).toNat + 1) = [] ∨ (l.drop ((idx 93 l).toNat + 1)).getD 0 0 = 58 then idx 93 l + 1 else l.length)
  else if 0 ≤ idx 58 l then idx 58 l else l.length
theorem hostEnd_range (l : List Int) : 0 ≤ hostEnd l ∧ hostEnd l ≤ l.length := by
  have h1 := idx_ge 93 l
  have h2 := idx_lt 93 l
  have h3 := idx_ge 58 l
  have h4 := idx_lt 58 l
  unfold hostEnd
  split
  · split <;> omega
  · split <;> omega
def hostS (s : ByteArray) : ByteArray × ByteArray := (s.extract 0 (hostEnd (bytesOf s)).toNat, s.extract (hostEnd (bytesOf s)).toNat s.size)
theorem extract_all (s : ByteArray) : s.extract 0 s.size = s := ByteArray.extract_zero_size
theorem extract_none (s : ByteArray) : s.extract s.size s.size = (⟨#[]⟩ : ByteArray) := by
  apply bytes_inj
  rw [bytes_extract, ← bytes_len, List.take_length, List.drop_length]; rfl
theorem host_colon (s : ByteArray) (e : Int) (he : e = if 0 ≤ idx 58 (bytesOf s) then idx 58 (bytesOf s) else s.size) :
    ((strings_IndexByte.f s 58).bind fun t => (if t ≥ 0 then (if 0 ≤ t then (if t ≤ (s.size : Int) then (some (s.extract 0 (t : Int).toNat, s.extract (t : Int).toNat s.size)) else (none)) else (none)) else (some (s, (⟨#[]⟩ : ByteArray))))) = some (s.extract 0 e.toNat, s.extract e.toNat s.size) := by
  rw [indexByte_f s 58 (by omega) (by omega)]
  simp only [Option.bind_some]
  have h3 := idx_ge 58 (bytesOf s)
  have h4 := idx_lt 58 (bytesOf s)
  rw [bytes_len] at h4
  by_cases h : 0 ≤ idx 58 (bytesOf s)
  · rw [if_pos h] at he
    rw [if_pos h, if_pos h, if_pos (by omega), he]
  · rw [if_neg h] at he
    rw [if_neg h, he, Int.toNat_natCast, extract_all, extract_none]
theorem drop_nil_iff (s : ByteArray) (i : Nat) : (s.extract i s.size).toList = ([] : List UInt8) ↔ (bytesOf s).drop i = [] := by
  have : ([] : List UInt8) = (⟨#[]⟩ : ByteArray).toList := by rw [ByteArray.toList_eq]
  rw [this, toList_iff, bytes_extract, ← bytes_len, List.take_length]
  exact Iff.rfl
theorem host_f (s : ByteArray) (hs : s.size ≤ 140737488351232) : Ev (fun k => seat_host.f k s) (hostS s) := by
  have h1 := idx_ge 93 (bytesOf s)
  have h2 := idx_lt 93 (bytesOf s)
  rw [bytes_len] at h2
  unfold seat_host.f
  rw [hasPrefix_f]
  simp only [Option.bind_some, decide_eq_true_iff]
  have hb : bytesOf (⟨#[91]⟩ : ByteArray) = [91] := rfl
  have hz : (⟨#[91]⟩ : ByteArray).size = 1 := rfl
  rw [hb, hz]
  by_cases hp : (bytesOf s).take 1 = [91]
  · simp only [if_pos hp]
    rw [indexByte_f s 93 (by omega) (by omega)]
    simp only [Option.bind_some]
    by_cases h : idx 93 (bytesOf s) ≥ 0
    · refine Ev.ite_pos h ?_
      rw [w64 (by omega) (by omega)]
      refine Ev.ite_pos (by omega) (Ev.ite_pos (by omega) ?_)
      have hn : (idx 93 (bytesOf s) + 1).toNat = (idx 93 (bytesOf s)).toNat + 1 := by omega
      rw [hn]
      have fin : ∀ x b, Ev (fun k => seat_host.j0 k s (idx 93 (bytesOf s)) x b) (if b = true then (s.extract 0 ((idx 93 (bytesOf s)).toNat + 1), x) else (s, ⟨#[]⟩)) := by
        intro x b
        refine Ev.step (fun k => by rw [seat_host.j0]) ?_
        rw [w64 (by omega) (by omega)]
        cases b
        · exact Ev.ite_neg (by simp) (Ev.now _)
        · refine Ev.ite_pos rfl (Ev.ite_pos (by omega) (Ev.ite_pos (by omega) ?_))
          rw [hn]
          exact Ev.now _
      by_cases hd : (bytesOf s).drop ((idx 93 (bytesOf s)).toNat + 1) = []
      · refine Ev.ite_pos ((drop_nil_iff s _).2 hd) ?_
        have : hostS s = (s.extract 0 ((idx 93 (bytesOf s)).toNat + 1), s.extract ((idx 93 (bytesOf s)).toNat + 1) s.size) := by
          unfold hostS hostEnd
          rw [if_pos ⟨hp, h⟩, if_pos (.inl hd), hn]
        rw [this]
        exact (fin _ true)
      · refine Ev.ite_neg (fun x => hd ((drop_nil_iff s _).1 x)) ?_
        obtain ⟨b, t, hbt⟩ : ∃ b t, (bytesOf s).drop ((idx 93 (bytesOf s)).toNat + 1) = b :: t := by
          cases hh : (bytesOf s).drop ((idx 93 (bytesOf s)).toNat + 1) with
          | nil => exact absurd hh hd
          | cons b t => exact ⟨b, t, rfl⟩
        have hx : (bytesOf (s.extract ((idx 93 (bytesOf s)).toNat + 1) s.size)).drop 0 = b :: t := by
          rw [bytes_extract, ← bytes_len, List.take_length, List.drop_zero, hbt]
        obtain ⟨g1, g2, _⟩ := at_drop hx
        rw [Int.natCast_zero] at g1
        rw [g1]
        refine Ev.ite_pos (by omega) ?_
        have hg : (List.drop ((idx 93 (bytesOf s)).toNat + 1) (bytesOf s)).getD 0 0 = b := by rw [hbt]; rfl
        have : hostS s = (if (b == 58) = true then (s.extract 0 ((idx 93 (bytesOf s)).toNat + 1), s.extract ((idx 93 (bytesOf s)).toNat + 1) s.size) else (s, ⟨#[]⟩)) := by
          unfold hostS hostEnd
          rw [if_pos ⟨hp, h⟩, hg]
          by_cases hb58 : b = 58
          · rw [if_pos (.inr hb58), if_pos (by simp [hb58]), hn]
          · rw [if_neg (by simp [hd, hb58]), if_neg (by simp [hb58]), bytes_len, Int.toNat_natCast, extract_all, extract_none]
        rw [this]
        exact fin _ _
    · simp only [if_neg h]
      rw [host_colon s (hostEnd (bytesOf s)) (by
        unfold hostEnd
        rw [if_neg (by omega), bytes_len])]
      exact Ev.now _
  · simp only [if_neg hp]
    rw [host_colon s (hostEnd (bytesOf s)) (by
      unfold hostEnd
      rw [if_neg (fun x => hp x.1), bytes_len])]
    exact Ev.now _
def restS (s : ByteArray) : ByteArray := s.extract (lidx 64 (bytesOf s) + 1).toNat s.size
def partS (s : ByteArray) : Bool × ByteArray × ByteArray × Bool × ByteArray :=
  (decide (0 ≤ lidx 64 (bytesOf s)), s.extract 0 (lidx 64 (bytesOf s)).toNat, (restS s).extract 0 (hostEnd (bytesOf (restS s))).toNat,
   decide (hostEnd (bytesOf (restS s)) < (restS s).size), (restS s).extract ((hostEnd (bytesOf (restS s))).toNat + 1) (restS s).size)
theorem extract_zero (s : ByteArray) : s.extract 0 0 = (⟨#[]⟩ : ByteArray) := by
  apply bytes_inj; rw [bytes_extract]; rfl
theorem size_extract_to (s : ByteArray) (i : Nat) : (s.extract i s.size).size = s.size - i := by
  rw [ByteArray.size_extract, Nat.min_self]
theorem extract_past (s : ByteArray) (i : Nat) (h : s.size ≤ i) : s.extract i s.size = (⟨#[]⟩ : ByteArray) := by
  apply bytes_inj
  rw [bytes_extract, List.drop_of_length_le (by rw [List.length_take, bytes_len]; omega)]; rfl
theorem extract_extract_to (s : ByteArray) (i j : Nat) : (s.extract i s.size).extract j (s.extract i s.size).size = s.extract (i + j) s.size := by
  apply bytes_inj
  rw [bytes_extract, bytes_extract, bytes_extract, ← bytes_len (s.extract i s.size), bytes_extract, List.take_length, List.drop_drop]
theorem part_f (s : ByteArray) (hs : s.size ≤ 140737488351232) : Ev (fun k => seat_Part.f k s) (partS s) := by
  have h1 := lidx_ge 64 (bytesOf s)
  have h2 := lidx_lt 64 (bytesOf s)
  rw [bytes_len] at h2
  unfold seat_Part.f
  refine Ev.bind' (lastIndexByte_f s 64 hs) ?_
  have port : ∀ (r : ByteArray), r.size ≤ s.size → (hostS r).2.size = r.size - (hostEnd (bytesOf r)).toNat ∧ ((hostS r).2.toList = ([] : List UInt8) ↔ ¬ hostEnd (bytesOf r) < r.size) := by
    intro r _
    have hr := hostEnd_range (bytesOf r)
    rw [bytes_len] at hr
    refine ⟨size_extract_to r _, ?_⟩
    unfold hostS
    rw [drop_nil_iff, List.drop_eq_nil_iff, bytes_len]
    omega
  by_cases h : lidx 64 (bytesOf s) ≥ 0
  · have hz : (restS s).size ≤ s.size := by unfold restS; rw [size_extract_to]; omega
    obtain ⟨p1, p2⟩ := port (restS s) hz
    have hr := hostEnd_range (bytesOf (restS s))
    rw [bytes_len] at hr
    refine Ev.ite_pos h (Ev.ite_pos h (Ev.ite_pos (by omega) ?_))
    rw [w64 (by omega) (by omega)]
    refine Ev.ite_pos (by omega) (Ev.ite_pos (by omega) ?_)
    refine Ev.bind' (host_f (restS s) (by omega)) ?_
    by_cases hp : hostEnd (bytesOf (restS s)) < (restS s).size
    · refine Ev.ite_neg (fun x => absurd hp (p2.1 x)) (Ev.ite_pos (by rw [p1]; omega) (Ev.ret fun _ => ?_))
      unfold partS
      rw [decide_eq_true h, decide_eq_true hp]
      simp only [hostS, extract_extract_to]
    · refine Ev.ite_pos (p2.2 hp) (Ev.ret fun _ => ?_)
      unfold partS
      rw [decide_eq_true h, decide_eq_false hp, extract_past (restS s) _ (by omega)]
      rfl
  · have hr0 : restS s = s := by
      unfold restS
      have : (lidx 64 (bytesOf s) + 1).toNat = 0 := by omega
      rw [this, extract_all]
    obtain ⟨p1, p2⟩ := port s (Nat.le_refl _)
    have hr := hostEnd_range (bytesOf s)
    rw [bytes_len] at hr
    have ht : (lidx 64 (bytesOf s)).toNat = 0 := by omega
    refine Ev.ite_neg h ?_
    refine Ev.bind' (host_f s hs) ?_
    by_cases hp : hostEnd (bytesOf s) < s.size
    · refine Ev.ite_neg (fun x => absurd hp (p2.1 x)) (Ev.ite_pos (by rw [p1]; omega) (Ev.ret fun _ => ?_))
      unfold partS
      rw [hr0, decide_eq_false h, decide_eq_true hp, ht, extract_zero]
      simp only [hostS, extract_extract_to]
    · refine Ev.ite_pos (p2.2 hp) (Ev.ret fun _ => ?_)
      unfold partS
      rw [hr0, decide_eq_false h, decide_eq_false hp, ht, extract_zero, extract_past s _ (by omega)]
      rfl
end Go.Proofs.YtdmigmccfdhdiaaDoor.Y
namespace Go.Proofs.YtdmigmccfdhdiaaDoor.Y
open Go.RowKit Go.Proofs.YtdmigmccfdhdiaaDoor.X Go.Proofs.YtdmigmccfdhdiaaDoor.M Go.Proofs.YtdmigmccfdhdiaaDoorW.PrintWords Go.Proofs.YtdmigmccfdhdiaaDoorW.PrintLast
def joinS (x : Bool × ByteArray × ByteArray × Bool × ByteArray) : ByteArray :=
  (if x.1 = true then x.2.1 ++ ⟨#[64]⟩ ++ x.2.2.1 else x.2.2.1) ++ (if x.2.2.2.1 = true then ⟨#[58]⟩ ++ x.2.2.2.2 else ⟨#[]⟩)
theorem append_nil (s : ByteArray) : s ++ (⟨#[]⟩ : ByteArray) = s := by
  apply bytes_inj; rw [bytes_append]; exact List.append_nil _
theorem join_f (x : Bool × ByteArray × ByteArray × Bool × ByteArray) (h1 : x.2.1.size ≤ 1000000000000000) (h2 : x.2.2.1.size ≤ 1000000000000000) (h3 : x.2.2.2.2.size ≤ 1000000000000000) :
    seat_Join.f x.1 x.2.1 x.2.2.1 x.2.2.2.1 x.2.2.2.2 = some (joinS x) := by
  obtain ⟨a, u, h, b, p⟩ := x
  simp only at h1 h2 h3 ⊢
  have z1 : (⟨#[64]⟩ : ByteArray).size = 1 := rfl
  have z2 : (⟨#[58]⟩ : ByteArray).size = 1 := rfl
  unfold seat_Join.f joinS
  simp only [ByteArray.size_append, z1, z2]
  cases a <;> cases b
  · simp [append_nil]
  · rw [if_neg (by simp), if_pos rfl, if_pos (by omega), if_pos (by omega)]; simp
  · rw [if_pos rfl, if_pos (by omega), if_pos (by omega), if_neg (by simp)]; simp [append_nil]
  · rw [if_pos rfl, if_pos (by omega), if_pos (by omega), if_pos rfl, if_pos (by omega), if_pos (by omega)]; simp
theorem part_sizes (s : ByteArray) : (partS s).2.1.size ≤ s.size ∧ (partS s).2.2.1.size ≤ s.size ∧ (partS s).2.2.2.2.size ≤ s.size := by
  have hz : (restS s).size ≤ s.size := by unfold restS; rw [size_extract_to]; omega
  unfold partS
  simp only [ByteArray.size_extract]
  omega
end Go.Proofs.YtdmigmccfdhdiaaDoor.Y
namespace Go.Proofs.YtdmigmccfdhdiaaDoor.X
open Go.RowKit Go.Proofs.YtdmigmccfdhdiaaDoorW.PrintWords Go.Proofs.YtdmigmccfdhdiaaDoorW.PrintLast Go.Proofs.YtdmigmccfdhdiaaDoorW.PrintMore
attribute [local go_sem] max2_int min2_int max_two min_two max_three min_three max_four min_four
set_option linter.unusedVariables false
set_option linter.unusedSimpArgs false
mutual
def monikerref21_All.l0 : Nat → Bool → ByteArray → List (S24) → Int → Option ((List (S24)))
  | 0, _, _, _, _ => none
  | k + 1, x0, x1, x5, x6 => if x6 < (x1.size : Int) then (if x6 ≥ 0 then (if 0 ≤ x6 then (monikerref21_All.j1 k x0 x1 x5 x6 ((bt x1 x6) != 64)) else (none)) else (monikerref21_All.j1 k x0 x1 x5 x6 false)) else (some x5)
def monikerref21_All.j1 : Nat → Bool → ByteArray → List (S24) → Int → Bool → Option ((List (S24)))
  | 0, _, _, _, _, _ => none
  | k + 1, x0, x1, x5, x6, x23 => if x23 = true then (monikerref21_All.l0 k x0 x1 x5 (wrap64 (x6 + 1))) else (monikerref21_All.l1 k x0 x1 x5 x6 (wrap64 (x6 + 1)))
def monikerref21_All.l1 : Nat → Bool → ByteArray → List (S24) → Int → Int → Option ((List (S24)))
  | 0, _, _, _, _, _ => none
  | k + 1, x0, x1, x5, x6, x7 => if x7 ≤ (x1.size : Int) then (if x7 < (x1.size : Int) then (if 0 ≤ x7 then (monikerref21_All.j3 k x0 x1 x5 x6 x7 ((bt x1 x7) != 58)) else (none)) else (monikerref21_All.j3 k x0 x1 x5 x6 x7 false)) else (monikerref21_All.l0 k x0 x1 x5 (wrap64 (x6 + 1)))
def monikerref21_All.j3 : Nat → Bool → ByteArray → List (S24) → Int → Int → Bool → Option ((List (S24)))
  | 0, _, _, _, _, _, _ => none
  | k + 1, x0, x1, x5, x6, x7, x41 => if x41 = true then (monikerref21_All.l1 k x0 x1 x5 x6 (wrap64 (x7 + 1))) else (if 0 ≤ (wrap64 (x6 + 1)) then (if (wrap64 (x6 + 1)) ≤ x7 then (if x7 ≤ (x1.size : Int) then (if x6 ≥ 0 then (if 0 ≤ x6 then (if x6 ≤ (x1.size : Int) then (monikerref21_All.j4 k x0 x1 x5 x6 x7 true (x1.extract 0 (x6 : Int).toNat) (x1.extract ((wrap64 (x6 + 1)) : Int).toNat (x7 : Int).toNat) false (⟨#[]⟩ : ByteArray)) else (none)) else (none)) else (monikerref21_All.j4 k x0 x1 x5 x6 x7 false (⟨#[]⟩ : ByteArray) (x1.extract ((wrap64 (x6 + 1)) : Int).toNat (x7 : Int).toNat) false (⟨#[]⟩ : ByteArray))) else (none)) else (none)) else (none))
def monikerref21_All.j4 : Nat → Bool → ByteArray → List (S24) → Int → Int → Bool → ByteArray → ByteArray → Bool → ByteArray → Option ((List (S24)))
  | 0, _, _, _, _, _, _, _, _, _, _ => none
  | k + 1, x0, x1, x5, x6, x7, x361000, x361001, x361002, x361003, x361004 => if x7 < (x1.size : Int) then (if 0 ≤ (wrap64 (x7 + 1)) then (if (wrap64 (x7 + 1)) ≤ (x1.size : Int) then ((monikerref21_Right.f k x0 x361000 x361001 x361002 true (x1.extract ((wrap64 (x7 + 1)) : Int).toNat x1.size)).bind fun t361 => (if t361 = true then (if x5.length < 2199023255552 then (monikerref21_All.l1 k x0 x1 (x5 ++ [(⟨x361000, x361001, x361002, true, x1.extract ((wrap64 (x7 + 1)) : Int).toNat x1.size⟩ : S24)]) x6 (wrap64 (x7 + 1))) else (none)) else (monikerref21_All.l1 k x0 x1 x5 x6 (wrap64 (x7 + 1))))) else (none)) else (none)) else ((monikerref21_Right.f k x0 x361000 x361001 x361002 x361003 x361004).bind fun t365 => (if t365 = true then (if x5.length < 2199023255552 then (monikerref21_All.l1 k x0 x1 (x5 ++ [(⟨x361000, x361001, x361002, x361003, x361004⟩ : S24)]) x6 (wrap64 (x7 + 1))) else (none)) else (monikerref21_All.l1 k x0 x1 x5 x6 (wrap64 (x7 + 1)))))
end
def monikerref21_All.f (k : Nat) (a0 : Bool) (a1 : ByteArray) : Option ((List (S24))) := monikerref21_All.l0 k a0 a1 (([] : List (S24))) (-1)
theorem monikerref21_All.mono_l : ∀ k, (∀ y0 y1 y2 y3, LeO (monikerref21_All.l0 k y0 y1 y2 y3) (monikerref21_All.l0 (k + 1) y0 y1 y2 y3)) ∧ (∀ y0 y1 y2 y3 y4, LeO (monikerref21_All.j1 k y0 y1 y2 y3 y4) (monikerref21_All.j1 (k + 1) y0 y1 y2 y3 y4)) ∧ (∀ y0 y1 y2 y3 y4, LeO (monikerref21_All.l1 k y0 y1 y2 y3 y4) (monikerref21_All.l1 (k + 1) y0 y1 y2 y3 y4)) ∧ (∀ y0 y1 y2 y3 y4 y5, LeO (monikerref21_All.j3 k y0 y1 y2 y3 y4 y5) (monikerref21_All.j3 (k + 1) y0 y1 y2 y3 y4 y5)) ∧ (∀ y0 y1 y2 y3 y4 y5 y6 y7 y8 y9, LeO (monikerref21_All.j4 k y0 y1 y2 y3 y4 y5 y6 y7 y8 y9) (monikerref21_All.j4 (k + 1) y0 y1 y2 y3 y4 y5 y6 y7 y8 y9))
  | 0 => ⟨fun _ _ _ _ r h => by simp [monikerref21_All.l0] at h, fun _ _ _ _ _ r h => by simp [monikerref21_All.j1] at h, fun _ _ _ _ _ r h => by simp [monikerref21_All.l1] at h, fun _ _ _ _ _ _ r h => by simp [monikerref21_All.j3] at h, fun _ _ _ _ _ _ _ _ _ _ r h => by simp [monikerref21_All.j4] at h⟩
  | k + 1 => by
    obtain ⟨ih0, ih1, ih2, ih3, ih4⟩ := monikerref21_All.mono_l k
    have m0 := @monikerref21_Right.mono
    refine ⟨?_, ?_, ?_, ?_, ?_⟩
    · intro y0 y1 y2 y3
      unfold monikerref21_All.l0
      exact xmo
    · intro y0 y1 y2 y3 y4
      unfold monikerref21_All.j1
      exact xmo
    · intro y0 y1 y2 y3 y4
      unfold monikerref21_All.l1
      exact xmo
    · intro y0 y1 y2 y3 y4 y5
      unfold monikerref21_All.j3
      exact xmo
    · intro y0 y1 y2 y3 y4 y5 y6 y7 y8 y9
      unfold monikerref21_All.j4
      exact xmo
theorem monikerref21_All.mono : ∀ a0 a1 k, LeO (monikerref21_All.f k a0 a1) (monikerref21_All.f (k + 1) a0 a1) := by
  intro a0 a1 k
  obtain ⟨ih0, ih1, ih2, ih3, ih4⟩ := monikerref21_All.mono_l k
  have m0 := @monikerref21_Right.mono
  unfold monikerref21_All.f
  exact xmo
set_option maxHeartbeats 8000000 in
set_option maxRecDepth 100000 in
theorem monikerref21_All.calls (k : Nat) (a0 : Bool) (a1 : ByteArray) (r : List (S24)) (w : World) (h : monikerref21_All.f k a0 a1 = some r) :
    Calls Tryd.prog 7 #[.bool a0, .string a1] w fun e w' => ∃ v0_ : Value, e = .returned (v0_) ∧ Kd.R k24 24 w' w.heap.size (fun _ => True) v0_ r ∧ Below w.heap.size w w' := by
 have hu24 := Tryd.underlying24
 have HB := Aside0.mk (Below.refl w.heap.size w)
 have H : (monikerref21_All.l0 k a0 a1 (([] : List (S24))) (-1)) = some r := h
 clear h
 obtain ⟨y357, hy357⟩ : ∃ y_ : List (S24), y_ = (([] : List (S24))) := ⟨_, rfl⟩
 replace H : (monikerref21_All.l0 k a0 a1 y357 (-1)) = some r := by first | (rw [hy357]; with_reducible exact H) | (have H2_ := (Option.bind_some _ _).symm.trans H; rw [hy357]; with_reducible exact H2_) | (have H2_ := (Option.bind_some _ _).symm.trans H; with_reducible exact H2_) | with_reducible exact H | (rw [hy357]; exact H) | exact H
 have Ny357 := Aside0.mk hy357
 clear hy357
 have H' := Aside0.mk H
 clear H
 go_enter Tryd.func7, Tryd.ntmps7
 go_wp2_with (first | ((with_reducible refine gate_dst (N := 9) rfl ?_); refine Kd.R_lit k24 _ 24 ?hg (N := 9) ?hd (xs := ([] : List (S24))) (inner := []) (ok := fun _ => True) (okp := fun _ => True) ?hr ?hp (fun _ hk => hk) trivial (Below.refl _ _) (Nat.le_refl _) (by simp) ?_; (case hd => rfl); (case hg => rfl); (case hr => first | (go_simp; done) | (go_simp; rfl)); (case hp => exact (Reps.none _ _)); intro v358 w3 ho4 hb hg_ hnew_; clear hg_ hnew_; (first | rw [← Ny357.out] at ho4 | (simp only [Int.reduceToNat] at ho4; rw [← Ny357.out] at ho4)); have HO359 := Aside0.mk (Kd.R_lower ho4 (below_size xbl)); replace HB := xst hb; clear hb ho4))
 go_loopg [5, 6] k (fun kq v5 v6 w' => ∃ (x5_1 : List (S24)) (x6_1 : Int), v6 = .int .i64 x6_1 ∧ Aside0 (monikerref21_All.l0 kq a0 a1 x5_1 x6_1 = some r) ∧ Aside0 (kq ≤ k) ∧ Aside0 (Kd.R k24 24 w' w.heap.size (fun _ => True) v5 x5_1) ∧ Aside0 (Below w.heap.size w w'))
 case atStart => exact ⟨(y357), ((-1)), xrr, H', ⟨Nat.le_refl _⟩, ⟨xkd HO359⟩, ⟨xbl⟩⟩
 case round =>
  clear H'
  obtain ⟨x5_1, x6_1, rfl, HA, HK1, HO_5, HB⟩ := hrel
  cases gk with
  | zero => exact absurd HA.out (by simp [monikerref21_All.l0])
  | succ k1 =>
   have H := HA.out
   clear HA
   simp only [monikerref21_All.l0] at H
   by_cases c5 : x6_1 < (a1.size : Int)
   ·
    rw [if_pos c5] at H
    have c5b0 := decide_eq_true c5
    clear c5
    have HC6 := Aside0.mk H
    clear H
    go_upto_region 5 with (fail)
    go_cut [23] (fun v23 wc => ∃ (kq : Nat) (x23_5 : Bool), v23 = .bool x23_5 ∧ Aside0 (monikerref21_All.j1 kq a0 a1 x5_1 x6_1 x23_5 = some r) ∧ Aside0 (kq ≤ k1) ∧ Aside0 (Kd.R k24 24 wc w.heap.size (fun _ => True) u5 x5_1) ∧ Aside0 (Below w.heap.size w wc))
    case first =>
     have H := HC6.out
     clear HC6
     by_cases c7 : x6_1 ≥ 0
     ·
      rw [if_pos c7] at H
      have c7b0 := decide_eq_true c7
      clear c7
      (first | rw [c7b0] | (simp only [i64_w, i32_w]; rw [c7b0]) | skip)
      by_cases c8 : 0 ≤ x6_1
      ·
       rw [if_pos c8] at H
       have c8b0 := decide_eq_true c8
       clear c8
       have H' := Aside0.mk H
       clear H
       have p9 : 0 ≤ (x6_1 : Int) := xod
       have q9 : x6_1 < (a1.size : Int) := xod
       have hx9 := bt_at a1 x6_1
       replace p9 := eq_true p9
       replace q9 := eq_true q9
       try (have q9x := q9; simp only [ByteArray.size_extract, Nat.min_self] at q9x)
       go_wp2
       go_meet
       case rel => exact ⟨_, (((bt a1 x6_1) != 64)), xrr, H', ⟨by have := HK1.out; first | omega | exact Nat.le_refl _⟩, ⟨xkd HO_5⟩, ⟨xbl⟩⟩
      ·
       rw [if_neg c8] at H
       exact absurd H (by simp)
     ·
      rw [if_neg c7] at H
      have c7b0 := decide_eq_false c7
      clear c7
      (first | rw [c7b0] | (simp only [i64_w, i32_w]; rw [c7b0]) | skip)
      have H' := Aside0.mk H
      clear H
      go_wp2
      go_meet
      case rel => exact ⟨_, (false), xrr, H', ⟨by have := HK1.out; first | omega | exact Nat.le_refl _⟩, ⟨xkd HO_5⟩, ⟨xbl⟩⟩
    case rest =>
     clear HC6
     clear c5b0
     obtain ⟨kq, x23_5, rfl, HA, HJ5, HO_5, HB⟩ := hcut
     cases kq with
     | zero => exact absurd HA.out (by simp [monikerref21_All.j1])
     | succ kj5 =>
      have H := HA.out
      clear HA
      simp only [monikerref21_All.j1] at H
      by_cases c10 : x23_5 = true
      ·
       subst c10
       rw [if_pos rfl] at H
       have H' := Aside0.mk H
       clear H
       go_wp2
       go_roundg kj5
       case measure => have := HK1.out; have := HJ5.out; omega
       case rel => exact ⟨(x5_1), (wrap64 (x6_1 + 1)), xrr, H', ⟨by have := HK1.out; have := HJ5.out; omega⟩, ⟨xkd HO_5⟩, ⟨xbl⟩⟩
      ·
       replace c10 := Bool.eq_false_iff.mpr c10
       subst c10
       rw [if_neg (show ¬ (false = true) by decide)] at H
       have H' := Aside0.mk H
       clear H
       go_wp2
       go_loopg [5, 7] kj5 (fun kq v5 v7 w' => ∃ (x5_3 : List (S24)) (x7_3 : Int), v7 = .int .i64 x7_3 ∧ Aside0 (monikerref21_All.l1 kq a0 a1 x5_3 x6_1 x7_3 = some r) ∧ Aside0 (kq ≤ kj5) ∧ Aside0 (Kd.R k24 24 w' w.heap.size (fun _ => True) v5 x5_3) ∧ Aside0 (Below w.heap.size w w'))
       case atStart => exact ⟨(x5_1), (wrap64 (x6_1 + 1)), xrr, H', ⟨Nat.le_refl _⟩, ⟨xkd HO_5⟩, ⟨xbl⟩⟩
       case round =>
        clear H'
        obtain ⟨x5_3, x7_3, rfl, HA, HK3, HO_5, HB⟩ := hrel
        cases gk with
        | zero => exact absurd HA.out (by simp [monikerref21_All.l1])
        | succ k3 =>
         have H := HA.out
         clear HA
         simp only [monikerref21_All.l1] at H
         by_cases c11 : x7_3 ≤ (a1.size : Int)
         ·
          rw [if_pos c11] at H
          have c11b0 := decide_eq_true c11
          clear c11
          have HC12 := Aside0.mk H
          clear H
          go_upto_region 9 with (fail)
          go_cut [41] (fun v41 wc => ∃ (kq : Nat) (x41_11 : Bool), v41 = .bool x41_11 ∧ Aside0 (monikerref21_All.j3 kq a0 a1 x5_3 x6_1 x7_3 x41_11 = some r) ∧ Aside0 (kq ≤ k3) ∧ Aside0 (Kd.R k24 24 wc w.heap.size (fun _ => True) u5 x5_3) ∧ Aside0 (Below w.heap.size w wc))
          case first =>
           have H := HC12.out
           clear HC12
           by_cases c13 : x7_3 < (a1.size : Int)
           ·
            rw [if_pos c13] at H
            have c13b0 := decide_eq_true c13
            clear c13
            (first | rw [c13b0] | (simp only [i64_w, i32_w]; rw [c13b0]) | skip)
            by_cases c14 : 0 ≤ x7_3
            ·
             rw [if_pos c14] at H
             have c14b0 := decide_eq_true c14
             clear c14
             have H' := Aside0.mk H
             clear H
             have p15 : 0 ≤ (x7_3 : Int) := xod
             have q15 : x7_3 < (a1.size : Int) := xod
             have hx15 := bt_at a1 x7_3
             replace p15 := eq_true p15
             replace q15 := eq_true q15
             try (have q15x := q15; simp only [ByteArray.size_extract, Nat.min_self] at q15x)
             go_wp2
             go_meet
             case rel => exact ⟨_, (((bt a1 x7_3) != 58)), xrr, H', ⟨by have := HK1.out; have := HJ5.out; have := HK3.out; first | omega | exact Nat.le_refl _⟩, ⟨xkd HO_5⟩, ⟨xbl⟩⟩
            ·
             rw [if_neg c14] at H
             exact absurd H (by simp)
           ·
            rw [if_neg c13] at H
            have c13b0 := decide_eq_false c13
            clear c13
            (first | rw [c13b0] | (simp only [i64_w, i32_w]; rw [c13b0]) | skip)
            have H' := Aside0.mk H
            clear H
            go_wp2
            go_meet
            case rel => exact ⟨_, (false), xrr, H', ⟨by have := HK1.out; have := HJ5.out; have := HK3.out; first | omega | exact Nat.le_refl _⟩, ⟨xkd HO_5⟩, ⟨xbl⟩⟩
          case rest =>
           clear HC12
           clear c11b0
           obtain ⟨kq, x41_11, rfl, HA, HJ11, HO_5, HB⟩ := hcut
           cases kq with
           | zero => exact absurd HA.out (by simp [monikerref21_All.j3])
           | succ kj11 =>
            have H := HA.out
            clear HA
            simp only [monikerref21_All.j3] at H
            by_cases c16 : x41_11 = true
            ·
             subst c16
             rw [if_pos rfl] at H
             have H' := Aside0.mk H
             clear H
             go_wp2
             go_roundg kj11
             case measure => have := HK1.out; have := HJ5.out; have := HK3.out; have := HJ11.out; omega
             case rel => exact ⟨(x5_3), (wrap64 (x7_3 + 1)), xrr, H', ⟨by have := HK1.out; have := HJ5.out; have := HK3.out; have := HJ11.out; omega⟩, ⟨xkd HO_5⟩, ⟨xbl⟩⟩
            ·
             replace c16 := Bool.eq_false_iff.mpr c16
             subst c16
             rw [if_neg (show ¬ (false = true) by decide)] at H
             obtain ⟨ji17, hji17⟩ : ∃ j_ : Int, (wrap64 (x6_1 + 1)) = j_ := ⟨_, rfl⟩
             first | rw [hji17] at H | simp only [hji17] at H | skip
             have hji17w : (IntKind.i64.wrap (x6_1 + 1)) = ji17 := (i64_w _).trans hji17
             by_cases c18 : 0 ≤ (ji17)
             ·
              rw [if_pos c18] at H
              have c18b0 := eq_true c18
              have c18b1 := decide_eq_true c18
              clear c18
              by_cases c19 : (ji17) ≤ x7_3
              ·
               rw [if_pos c19] at H
               have c19b0 := eq_true c19
               have c19b1 := decide_eq_true c19
               clear c19
               by_cases c20 : x7_3 ≤ (a1.size : Int)
               ·
                rw [if_pos c20] at H
                have c20b0 := eq_true c20
                have c20b1 := decide_eq_true c20
                clear c20
                obtain ⟨ji21, hji21⟩ : ∃ j_ : ByteArray, (a1.extract ((ji17) : Int).toNat (x7_3 : Int).toNat) = j_ := ⟨_, rfl⟩
                try (have hji21x := hji21; simp only [Int.toNat_natCast, Int.toNat_ofNat] at hji21x)
                first | rw [hji21] at H | simp only [hji21] at H | skip
                have HC22 := Aside0.mk H
                clear H
                go_upto_if 49 with (first | ((with_reducible refine gate_dst (N := 8) rfl ?_); refine xev 8 #[.bool false, .string (⟨#[]⟩ : ByteArray), .string (⟨#[]⟩ : ByteArray), .bool false, .string (⟨#[]⟩ : ByteArray)] 24 ?_; intro gb360 hg w23 hbox hb; have BK360 := Aside0.mk (hbox); have GW360 := xsz hg; have GE360 := GW360; replace HO_5 := Aside0.mk (Kd.R_below (Kd.R_elderB (xkd HO_5) gb360 (Nat.le_of_eq hg.symm)) hb); replace HB := xst hb; clear hb hbox hg; obtain ⟨hcz24_0, hcz24_1, hcz24_2, hcz24_3, hcz24_4⟩ := xc5 BK360; have hfz24_0 := xf BK360 0; have hfz24_1 := xf BK360 1; have hfz24_2 := xf BK360 2; have hfz24_3 := xf BK360 3; have hfz24_4 := xf BK360 4))
                (try simp only [Act.put, List.setIfInBounds_toArray, List.set_cons_zero, List.set_cons_succ])
                go_cut [] (fun wc => ∃ (kq : Nat) (x361000_21 : Bool) (x361001_21 : ByteArray), Aside0 (monikerref21_All.j4 kq a0 a1 x5_3 x6_1 x7_3 x361000_21 x361001_21 ji21 false (⟨#[]⟩ : ByteArray) = some r) ∧ Aside0 (kq ≤ kj11) ∧ Aside0 (Kd.R k24 24 wc w.heap.size (fun k_ => k_ ≠ gb360) u5 x5_3) ∧ Aside0 (wc.heap[gb360]? = some (.cells #[.bool x361000_21, .string x361001_21, .string ji21, .bool false, .string (⟨#[]⟩ : ByteArray)] 24 (0, 0))) ∧ Aside0 (Below w.heap.size w wc))
                case first =>
                 have H := HC22.out
                 clear HC22
                 by_cases c25 : x6_1 ≥ 0
                 ·
                  rw [if_pos c25] at H
                  have c25b0 := decide_eq_true c25
                  clear c25
                  (first | rw [c25b0] | (simp only [i64_w, i32_w]; rw [c25b0]) | skip)
                  by_cases c26 : 0 ≤ x6_1
                  ·
                   rw [if_pos c26] at H
                   have c26b0 := eq_true c26
                   have c26b1 := decide_eq_true c26
                   clear c26
                   by_cases c27 : x6_1 ≤ (a1.size : Int)
                   ·
                    rw [if_pos c27] at H
                    have c27b0 := eq_true c27
                    have c27b1 := decide_eq_true c27
                    clear c27
                    obtain ⟨ji28, hji28⟩ : ∃ j_ : ByteArray, (a1.extract 0 (x6_1 : Int).toNat) = j_ := ⟨_, rfl⟩
                    try (have hji28x := hji28; simp only [Int.toNat_natCast, Int.toNat_ofNat] at hji28x)
                    first | rw [hji28] at H | simp only [hji28] at H | skip
                    have H' := Aside0.mk H
                    clear H
                    obtain ⟨hcz29_0, hcz29_1, hcz29_2, hcz29_3, hcz29_4⟩ := xc5 BK360
                    have hfz29_0 := xf BK360 0
                    have hfz29_1 := xf BK360 1
                    have hfz29_2 := xf BK360 2
                    have hfz29_3 := xf BK360 3
                    have hfz29_4 := xf BK360 4
                    go_wp2
                    go_meet
                    case rel => exact ⟨_, (true), (ji28), H', ⟨by have := HK1.out; have := HJ5.out; have := HK3.out; have := HJ11.out; first | omega | exact Nat.le_refl _⟩, ⟨by (with_reducible repeat (first | apply Kd.R_alloc | apply Kd.R_drewN | apply Kd.R_drew)); exact Kd.R_mono (Kd.R_far (p := ⟨gb360, 1, none⟩) (Kd.R_far (p := ⟨gb360, 0, none⟩) (Kd.R_far (p := ⟨gb360, 4, none⟩) (Kd.R_far (p := ⟨gb360, 3, none⟩) (Kd.R_far (p := ⟨gb360, 2, none⟩) (Kd.R_far (p := ⟨gb360, 1, none⟩) (Kd.R_far (p := ⟨gb360, 0, none⟩) (Kd.R_mono HO_5.out (fun k_ hk => (⟨hk, hk.2⟩ : _ ∧ k_ ≠ gb360))) (fun _ hk => hk.2) (.bool false)) (fun _ hk => hk.2) (.string (⟨#[]⟩ : ByteArray))) (fun _ hk => hk.2) (.string ji21)) (fun _ hk => hk.2) (.bool false)) (fun _ hk => hk.2) (.string (⟨#[]⟩ : ByteArray))) (fun _ hk => hk.2) (.bool true)) (fun _ hk => hk.2) (.string ji28)) (fun _ hk => hk.1.2)⟩, ⟨by (with_reducible repeat (first | refine blk_drewN ?_ _ | refine blk_drew ?_ | refine blk_alloc ?_ _)); refine blk_put (cs := #[.bool true, .string (⟨#[]⟩ : ByteArray), .string ji21, .bool false, .string (⟨#[]⟩ : ByteArray)]) ?_ 1 _ rfl; (with_reducible repeat (first | refine blk_drewN ?_ _ | refine blk_drew ?_ | refine blk_alloc ?_ _)); refine blk_put (cs := #[.bool false, .string (⟨#[]⟩ : ByteArray), .string ji21, .bool false, .string (⟨#[]⟩ : ByteArray)]) ?_ 0 _ rfl; (with_reducible repeat (first | refine blk_drewN ?_ _ | refine blk_drew ?_ | refine blk_alloc ?_ _)); refine blk_put (cs := #[.bool false, .string (⟨#[]⟩ : ByteArray), .string ji21, .bool false, .string (⟨#[]⟩ : ByteArray)]) ?_ 4 _ rfl; (with_reducible repeat (first | refine blk_drewN ?_ _ | refine blk_drew ?_ | refine blk_alloc ?_ _)); refine blk_put (cs := #[.bool false, .string (⟨#[]⟩ : ByteArray), .string ji21, .bool false, .string (⟨#[]⟩ : ByteArray)]) ?_ 3 _ rfl; (with_reducible repeat (first | refine blk_drewN ?_ _ | refine blk_drew ?_ | refine blk_alloc ?_ _)); refine blk_put (cs := #[.bool false, .string (⟨#[]⟩ : ByteArray), .string (⟨#[]⟩ : ByteArray), .bool false, .string (⟨#[]⟩ : ByteArray)]) ?_ 2 _ rfl; (with_reducible repeat (first | refine blk_drewN ?_ _ | refine blk_drew ?_ | refine blk_alloc ?_ _)); refine blk_put (cs := #[.bool false, .string (⟨#[]⟩ : ByteArray), .string (⟨#[]⟩ : ByteArray), .bool false, .string (⟨#[]⟩ : ByteArray)]) ?_ 1 _ rfl; (with_reducible repeat (first | refine blk_drewN ?_ _ | refine blk_drew ?_ | refine blk_alloc ?_ _)); refine blk_put (cs := #[.bool false, .string (⟨#[]⟩ : ByteArray), .string (⟨#[]⟩ : ByteArray), .bool false, .string (⟨#[]⟩ : ByteArray)]) ?_ 0 _ rfl; (with_reducible repeat (first | refine blk_drewN ?_ _ | refine blk_drew ?_ | refine blk_alloc ?_ _)); exact BK360.out⟩, ⟨xbl⟩⟩
                   ·
                    rw [if_neg c27] at H
                    exact absurd H (by simp)
                  ·
                   rw [if_neg c26] at H
                   exact absurd H (by simp)
                 ·
                  rw [if_neg c25] at H
                  have c25b0 := decide_eq_false c25
                  clear c25
                  (first | rw [c25b0] | (simp only [i64_w, i32_w]; rw [c25b0]) | skip)
                  have H' := Aside0.mk H
                  clear H
                  go_wp2
                  go_meet
                  case rel => exact ⟨_, (false), ((⟨#[]⟩ : ByteArray)), H', ⟨by have := HK1.out; have := HJ5.out; have := HK3.out; have := HJ11.out; first | omega | exact Nat.le_refl _⟩, ⟨by (with_reducible repeat (first | apply Kd.R_alloc | apply Kd.R_drewN | apply Kd.R_drew)); exact Kd.R_mono (Kd.R_far (p := ⟨gb360, 4, none⟩) (Kd.R_far (p := ⟨gb360, 3, none⟩) (Kd.R_far (p := ⟨gb360, 2, none⟩) (Kd.R_far (p := ⟨gb360, 1, none⟩) (Kd.R_far (p := ⟨gb360, 0, none⟩) (Kd.R_mono HO_5.out (fun k_ hk => (⟨hk, hk.2⟩ : _ ∧ k_ ≠ gb360))) (fun _ hk => hk.2) (.bool false)) (fun _ hk => hk.2) (.string (⟨#[]⟩ : ByteArray))) (fun _ hk => hk.2) (.string ji21)) (fun _ hk => hk.2) (.bool false)) (fun _ hk => hk.2) (.string (⟨#[]⟩ : ByteArray))) (fun _ hk => hk.1.2)⟩, ⟨by (with_reducible repeat (first | refine blk_drewN ?_ _ | refine blk_drew ?_ | refine blk_alloc ?_ _)); refine blk_put (cs := #[.bool false, .string (⟨#[]⟩ : ByteArray), .string ji21, .bool false, .string (⟨#[]⟩ : ByteArray)]) ?_ 4 _ rfl; (with_reducible repeat (first | refine blk_drewN ?_ _ | refine blk_drew ?_ | refine blk_alloc ?_ _)); refine blk_put (cs := #[.bool false, .string (⟨#[]⟩ : ByteArray), .string ji21, .bool false, .string (⟨#[]⟩ : ByteArray)]) ?_ 3 _ rfl; (with_reducible repeat (first | refine blk_drewN ?_ _ | refine blk_drew ?_ | refine blk_alloc ?_ _)); refine blk_put (cs := #[.bool false, .string (⟨#[]⟩ : ByteArray), .string (⟨#[]⟩ : ByteArray), .bool false, .string (⟨#[]⟩ : ByteArray)]) ?_ 2 _ rfl; (with_reducible repeat (first | refine blk_drewN ?_ _ | refine blk_drew ?_ | refine blk_alloc ?_ _)); refine blk_put (cs := #[.bool false, .string (⟨#[]⟩ : ByteArray), .string (⟨#[]⟩ : ByteArray), .bool false, .string (⟨#[]⟩ : ByteArray)]) ?_ 1 _ rfl; (with_reducible repeat (first | refine blk_drewN ?_ _ | refine blk_drew ?_ | refine blk_alloc ?_ _)); refine blk_put (cs := #[.bool false, .string (⟨#[]⟩ : ByteArray), .string (⟨#[]⟩ : ByteArray), .bool false, .string (⟨#[]⟩ : ByteArray)]) ?_ 0 _ rfl; (with_reducible repeat (first | refine blk_drewN ?_ _ | refine blk_drew ?_ | refine blk_alloc ?_ _)); exact BK360.out⟩, ⟨xbl⟩⟩
                case rest =>
                 clear HC22
                 clear c18b0 c18b1 c19b0 c19b1 c20b0 c20b1
                 obtain ⟨kq, x361000_21, x361001_21, HA, HJ21, HO_5, BK360, HB⟩ := hcut
                 cases kq with
                 | zero => exact absurd HA.out (by simp [monikerref21_All.j4])
                 | succ kj21 =>
                  have H := HA.out
                  clear HA
                  simp only [monikerref21_All.j4] at H
                  by_cases c30 : x7_3 < (a1.size : Int)
                  ·
                   rw [if_pos c30] at H
                   have c30b0 := decide_eq_true c30
                   clear c30
                   obtain ⟨ji31, hji31⟩ : ∃ j_ : Int, (wrap64 (x7_3 + 1)) = j_ := ⟨_, rfl⟩
                   first | rw [hji31] at H | simp only [hji31] at H | skip
                   have hji31w : (IntKind.i64.wrap (x7_3 + 1)) = ji31 := (i64_w _).trans hji31
                   by_cases c32 : 0 ≤ (ji31)
                   ·
                    rw [if_pos c32] at H
                    have c32b0 := eq_true c32
                    have c32b1 := decide_eq_true c32
                    clear c32
                    by_cases c33 : (ji31) ≤ (a1.size : Int)
                    ·
                     rw [if_pos c33] at H
                     have c33b0 := eq_true c33
                     have c33b1 := decide_eq_true c33
                     clear c33
                     obtain ⟨ji34, hji34⟩ : ∃ j_ : ByteArray, (a1.extract ((ji31) : Int).toNat a1.size) = j_ := ⟨_, rfl⟩
                     try (have hji34x := hji34; simp only [Int.toNat_natCast, Int.toNat_ofNat] at hji34x)
                     first | rw [hji34] at H | simp only [hji34] at H | skip
                     replace H := Option.bind_eq_some_iff.mp H
                     obtain ⟨t361, A350, H⟩ := H
                     try dsimp only at H
                     have A35 := Aside0.mk A350
                     clear A350
                     by_cases c36 : t361 = true
                     ·
                      subst c36
                      rw [if_pos rfl] at H
                      by_cases c37 : x5_3.length < 2199023255552
                      ·
                       rw [if_pos c37] at H
                       have LMc37 := Aside0.mk c37
                       clear c37
                       obtain ⟨y362, hy362⟩ : ∃ y_ : List (S24), y_ = (x5_3 ++ [(⟨x361000_21, x361001_21, ji21, true, ji34⟩ : S24)]) := ⟨_, rfl⟩
                       replace H : (monikerref21_All.l1 kj21 a0 a1 y362 x6_1 ji31) = some r := by first | (rw [hy362]; with_reducible exact H) | (have H2_ := (Option.bind_some _ _).symm.trans H; rw [hy362]; with_reducible exact H2_) | (have H2_ := (Option.bind_some _ _).symm.trans H; with_reducible exact H2_) | with_reducible exact H | (rw [hy362]; exact H) | exact H
                       have Ny362 := Aside0.mk hy362
                       clear hy362
                       have H' := Aside0.mk H
                       clear H
                       obtain ⟨hcz38_0, hcz38_1, hcz38_2, hcz38_3, hcz38_4⟩ := xc5 BK360
                       have hfz38_0 := xf BK360 0
                       have hfz38_1 := xf BK360 1
                       have hfz38_2 := xf BK360 2
                       have hfz38_3 := xf BK360 3
                       have hfz38_4 := xf BK360 4
                       go_wp2_with (first | ((with_reducible refine gate_callee (f := 8) rfl ?_); refine goesL_ (some 67) rfl rfl Tryd.func8 (by kernel_rfl) rfl #[.bool a0, .agg #[.bool x361000_21, .string x361001_21, .string ji21, .bool true, .string ji34]] rfl (by (try simp only [List.map_toArray, List.map_cons, List.map_nil]); first | done | (simp only [hji21, hji34]; rfl) | rfl | (simp only [List.length_drop, List.length_take]; rfl)) ?_; (with_reducible refine (monikerref21_Right.calls kj21 a0 x361000_21 x361001_21 ji21 true ji34 true _ A35.out).mono ?_); rintro e w39 ⟨rfl, hb⟩; refine ⟨_, rfl, ?_⟩; replace HO_5 := Aside0.mk (Kd.R_below (by (with_reducible repeat (first | apply Kd.R_alloc | apply Kd.R_drewN | apply Kd.R_drew)); exact (Kd.R_mono (Kd.R_far (p := ⟨gb360, 4, none⟩) (Kd.R_far (p := ⟨gb360, 3, none⟩) (Kd.R_mono HO_5.out (fun k_ hk => (⟨hk, hk⟩ : _ ∧ k_ ≠ gb360))) (fun _ hk => hk.2) (.bool true)) (fun _ hk => hk.2) (.string ji34)) (fun _ h_ => h_.1))) hb); replace BK360 := xbb (g := gb360) (o := .cells #[.bool x361000_21, .string x361001_21, .string ji21, .bool true, .string ji34] 24 (0, 0)) hb; replace HB := xst hb; (try clear hb); obtain ⟨hcz40_0, hcz40_1, hcz40_2, hcz40_3, hcz40_4⟩ := xc5 BK360; have hfz40_0 := xf BK360 0; have hfz40_1 := xf BK360 1; have hfz40_2 := xf BK360 2; have hfz40_3 := xf BK360 3; have hfz40_4 := xf BK360 4) | ((with_reducible refine gate_builtin (b := .append) (xs := #[.tmp 68, .tmp 70]) rfl ?_); at_builtin; refine Kd.R_append k24 (w0 := w) w.heap.size rfl (.tmp 68) (.tmp 70) 27 24 (.agg #[(.bool false), (.string ⟨#[]⟩), (.string ⟨#[]⟩), (.bool false), (.string ⟨#[]⟩)]) 64 rfl Tryd.underlying27 info24 rfl (by decide) (by omega) u5 x5_3 (⟨x361000_21, x361001_21, ji21, true, ji34⟩ : S24) [.bool x361000_21, .string x361001_21, .string ji21, .bool true, .string ji34] (fun k_ => k_ ≠ gb360) (fun _ => False) rfl rfl ?aP (fun _ hk => hk.elim) ?aF ?aO ?aB ?aS ?aL ?_; (case aP => exact k24_mkM _ _ _ (⟨x361000_21, x361001_21, ji21, true, ji34⟩ : S24)); (case aB => exact xbl); (case aF => exact (fun k_ hk => Kd.freshB (g := gb360) (o := .cells #[.bool x361000_21, .string x361001_21, .string ji21, .bool true, .string ji34] 24 (0, 0)) xbk k_ hk)); (case aO => exact (xkd HO_5)); (case aS => exact (below_size xbl)); (case aL => have := LMc37.out; omega); intro v363 w41 ho hb hg hat; rw [← Ny362.out] at ho; have n0_ := Aside0.mk (blk_grown (g := gb360) (o := .cells #[.bool x361000_21, .string x361001_21, .string ji21, .bool true, .string ji34] 24 (0, 0)) xbk hg (Kd.R_away HO_5.out (fun _ hk => hk))); have n1_ := Aside0.mk (hb); have n2_ := Aside0.mk (ho); clear BK360; clear HB; clear HO_5; have BK360 := n0_; have HB := n1_; have HO364 := n2_; clear n0_ n1_ n2_; clear ho hb hg hat))
                       first | go_roundg kj21 | (simp only [← hji17, ← hji21, ← hji31, ← hji34]; go_roundg kj21)
                       case measure => have := HK1.out; have := HJ5.out; have := HK3.out; have := HJ11.out; have := HJ21.out; omega
                       case rel => exact ⟨(y362), (ji31), (by first | rfl | (simp; done) | (simp only [← hji31] <;> (first | rfl | simp)) | (simp [*]; done) | (simp [wrap64]; done)), H', ⟨by have := HK1.out; have := HJ5.out; have := HK3.out; have := HJ11.out; have := HJ21.out; omega⟩, ⟨by (with_reducible repeat (first | apply Kd.R_alloc | apply Kd.R_drewN | apply Kd.R_drew)); exact Kd.R_mono HO364.out (fun _ hk => trivial)⟩, ⟨xbl⟩⟩
                      ·
                       rw [if_neg c37] at H
                       exact absurd H (by simp)
                     ·
                      replace c36 := Bool.eq_false_iff.mpr c36
                      subst c36
                      rw [if_neg (show ¬ (false = true) by decide)] at H
                      have H' := Aside0.mk H
                      clear H
                      obtain ⟨hcz42_0, hcz42_1, hcz42_2, hcz42_3, hcz42_4⟩ := xc5 BK360
                      have hfz42_0 := xf BK360 0
                      have hfz42_1 := xf BK360 1
                      have hfz42_2 := xf BK360 2
                      have hfz42_3 := xf BK360 3
                      have hfz42_4 := xf BK360 4
                      go_wp2_with (first | ((with_reducible refine gate_callee (f := 8) rfl ?_); refine goesL_ (some 67) rfl rfl Tryd.func8 (by kernel_rfl) rfl #[.bool a0, .agg #[.bool x361000_21, .string x361001_21, .string ji21, .bool true, .string ji34]] rfl (by (try simp only [List.map_toArray, List.map_cons, List.map_nil]); first | done | (simp only [hji21, hji34]; rfl) | rfl | (simp only [List.length_drop, List.length_take]; rfl)) ?_; (with_reducible refine (monikerref21_Right.calls kj21 a0 x361000_21 x361001_21 ji21 true ji34 false _ A35.out).mono ?_); rintro e w43 ⟨rfl, hb⟩; refine ⟨_, rfl, ?_⟩; replace HO_5 := Aside0.mk (Kd.R_below (by (with_reducible repeat (first | apply Kd.R_alloc | apply Kd.R_drewN | apply Kd.R_drew)); exact (Kd.R_mono (Kd.R_far (p := ⟨gb360, 4, none⟩) (Kd.R_far (p := ⟨gb360, 3, none⟩) (Kd.R_mono HO_5.out (fun k_ hk => (⟨hk, hk⟩ : _ ∧ k_ ≠ gb360))) (fun _ hk => hk.2) (.bool true)) (fun _ hk => hk.2) (.string ji34)) (fun _ h_ => h_.1))) hb); replace BK360 := xbb (g := gb360) (o := .cells #[.bool x361000_21, .string x361001_21, .string ji21, .bool true, .string ji34] 24 (0, 0)) hb; replace HB := xst hb; (try clear hb)))
                      first | go_roundg kj21 | (simp only [← hji17, ← hji21, ← hji31, ← hji34]; go_roundg kj21)
                      case measure => have := HK1.out; have := HJ5.out; have := HK3.out; have := HJ11.out; have := HJ21.out; omega
                      case rel => exact ⟨(x5_3), (ji31), (by first | rfl | (simp; done) | (simp only [← hji31] <;> (first | rfl | simp)) | (simp [*]; done) | (simp [wrap64]; done)), H', ⟨by have := HK1.out; have := HJ5.out; have := HK3.out; have := HJ11.out; have := HJ21.out; omega⟩, ⟨by (with_reducible repeat (first | apply Kd.R_alloc | apply Kd.R_drewN | apply Kd.R_drew)); exact Kd.R_mono HO_5.out (fun _ hk => trivial)⟩, ⟨xbl⟩⟩
                    ·
                     rw [if_neg c33] at H
                     exact absurd H (by simp)
                   ·
                    rw [if_neg c32] at H
                    exact absurd H (by simp)
                  ·
                   rw [if_neg c30] at H
                   have c30b0 := decide_eq_false c30
                   clear c30
                   replace H := Option.bind_eq_some_iff.mp H
                   obtain ⟨t365, A440, H⟩ := H
                   try dsimp only at H
                   have A44 := Aside0.mk A440
                   clear A440
                   by_cases c45 : t365 = true
                   ·
                    subst c45
                    rw [if_pos rfl] at H
                    by_cases c46 : x5_3.length < 2199023255552
                    ·
                     rw [if_pos c46] at H
                     have LMc46 := Aside0.mk c46
                     clear c46
                     obtain ⟨y366, hy366⟩ : ∃ y_ : List (S24), y_ = (x5_3 ++ [(⟨x361000_21, x361001_21, ji21, false, (⟨#[]⟩ : ByteArray)⟩ : S24)]) := ⟨_, rfl⟩
                     replace H : (monikerref21_All.l1 kj21 a0 a1 y366 x6_1 (wrap64 (x7_3 + 1))) = some r := by first | (rw [hy366]; with_reducible exact H) | (have H2_ := (Option.bind_some _ _).symm.trans H; rw [hy366]; with_reducible exact H2_) | (have H2_ := (Option.bind_some _ _).symm.trans H; with_reducible exact H2_) | with_reducible exact H | (rw [hy366]; exact H) | exact H
                     have Ny366 := Aside0.mk hy366
                     clear hy366
                     have H' := Aside0.mk H
                     clear H
                     obtain ⟨hcz47_0, hcz47_1, hcz47_2, hcz47_3, hcz47_4⟩ := xc5 BK360
                     have hfz47_0 := xf BK360 0
                     have hfz47_1 := xf BK360 1
                     have hfz47_2 := xf BK360 2
                     have hfz47_3 := xf BK360 3
                     have hfz47_4 := xf BK360 4
                     go_wp2_with (first | ((with_reducible refine gate_callee (f := 8) rfl ?_); refine goesL_ (some 67) rfl rfl Tryd.func8 (by kernel_rfl) rfl #[.bool a0, .agg #[.bool x361000_21, .string x361001_21, .string ji21, .bool false, .string (⟨#[]⟩ : ByteArray)]] rfl (by (try simp only [List.map_toArray, List.map_cons, List.map_nil]); first | done | (simp only [hji21]; rfl) | rfl | (simp only [List.length_drop, List.length_take]; rfl)) ?_; (with_reducible refine (monikerref21_Right.calls kj21 a0 x361000_21 x361001_21 ji21 false (⟨#[]⟩ : ByteArray) true _ A44.out).mono ?_); rintro e w48 ⟨rfl, hb⟩; refine ⟨_, rfl, ?_⟩; replace HO_5 := Aside0.mk (Kd.R_below (xkd HO_5) hb); replace BK360 := xbb (g := gb360) (o := .cells #[.bool x361000_21, .string x361001_21, .string ji21, .bool false, .string (⟨#[]⟩ : ByteArray)] 24 (0, 0)) hb; replace HB := xst hb; (try clear hb); obtain ⟨hcz49_0, hcz49_1, hcz49_2, hcz49_3, hcz49_4⟩ := xc5 BK360; have hfz49_0 := xf BK360 0; have hfz49_1 := xf BK360 1; have hfz49_2 := xf BK360 2; have hfz49_3 := xf BK360 3; have hfz49_4 := xf BK360 4) | ((with_reducible refine gate_builtin (b := .append) (xs := #[.tmp 68, .tmp 70]) rfl ?_); at_builtin; refine Kd.R_append k24 (w0 := w) w.heap.size rfl (.tmp 68) (.tmp 70) 27 24 (.agg #[(.bool false), (.string ⟨#[]⟩), (.string ⟨#[]⟩), (.bool false), (.string ⟨#[]⟩)]) 64 rfl Tryd.underlying27 info24 rfl (by decide) (by omega) u5 x5_3 (⟨x361000_21, x361001_21, ji21, false, (⟨#[]⟩ : ByteArray)⟩ : S24) [.bool x361000_21, .string x361001_21, .string ji21, .bool false, .string (⟨#[]⟩ : ByteArray)] (fun k_ => k_ ≠ gb360) (fun _ => False) rfl rfl ?aP (fun _ hk => hk.elim) ?aF ?aO ?aB ?aS ?aL ?_; (case aP => exact k24_mkM _ _ _ (⟨x361000_21, x361001_21, ji21, false, (⟨#[]⟩ : ByteArray)⟩ : S24)); (case aB => exact xbl); (case aF => exact (fun k_ hk => Kd.freshB (g := gb360) (o := .cells #[.bool x361000_21, .string x361001_21, .string ji21, .bool false, .string (⟨#[]⟩ : ByteArray)] 24 (0, 0)) xbk k_ hk)); (case aO => exact (xkd HO_5)); (case aS => exact (below_size xbl)); (case aL => have := LMc46.out; omega); intro v367 w50 ho hb hg hat; rw [← Ny366.out] at ho; have n0_ := Aside0.mk (blk_grown (g := gb360) (o := .cells #[.bool x361000_21, .string x361001_21, .string ji21, .bool false, .string (⟨#[]⟩ : ByteArray)] 24 (0, 0)) xbk hg (Kd.R_away HO_5.out (fun _ hk => hk))); have n1_ := Aside0.mk (hb); have n2_ := Aside0.mk (ho); clear BK360; clear HB; clear HO_5; have BK360 := n0_; have HB := n1_; have HO368 := n2_; clear n0_ n1_ n2_; clear ho hb hg hat))
                     first | go_roundg kj21 | (simp only [← hji17, ← hji21]; go_roundg kj21)
                     case measure => have := HK1.out; have := HJ5.out; have := HK3.out; have := HJ11.out; have := HJ21.out; omega
                     case rel => exact ⟨(y366), (wrap64 (x7_3 + 1)), xrr, H', ⟨by have := HK1.out; have := HJ5.out; have := HK3.out; have := HJ11.out; have := HJ21.out; omega⟩, ⟨by (with_reducible repeat (first | apply Kd.R_alloc | apply Kd.R_drewN | apply Kd.R_drew)); exact Kd.R_mono HO368.out (fun _ hk => trivial)⟩, ⟨xbl⟩⟩
                    ·
                     rw [if_neg c46] at H
                     exact absurd H (by simp)
                   ·
                    replace c45 := Bool.eq_false_iff.mpr c45
                    subst c45
                    rw [if_neg (show ¬ (false = true) by decide)] at H
                    have H' := Aside0.mk H
                    clear H
                    obtain ⟨hcz51_0, hcz51_1, hcz51_2, hcz51_3, hcz51_4⟩ := xc5 BK360
                    have hfz51_0 := xf BK360 0
                    have hfz51_1 := xf BK360 1
                    have hfz51_2 := xf BK360 2
                    have hfz51_3 := xf BK360 3
                    have hfz51_4 := xf BK360 4
                    go_wp2_with (first | ((with_reducible refine gate_callee (f := 8) rfl ?_); refine goesL_ (some 67) rfl rfl Tryd.func8 (by kernel_rfl) rfl #[.bool a0, .agg #[.bool x361000_21, .string x361001_21, .string ji21, .bool false, .string (⟨#[]⟩ : ByteArray)]] rfl (by (try simp only [List.map_toArray, List.map_cons, List.map_nil]); first | done | (simp only [hji21]; rfl) | rfl | (simp only [List.length_drop, List.length_take]; rfl)) ?_; (with_reducible refine (monikerref21_Right.calls kj21 a0 x361000_21 x361001_21 ji21 false (⟨#[]⟩ : ByteArray) false _ A44.out).mono ?_); rintro e w52 ⟨rfl, hb⟩; refine ⟨_, rfl, ?_⟩; replace HO_5 := Aside0.mk (Kd.R_below (xkd HO_5) hb); replace BK360 := xbb (g := gb360) (o := .cells #[.bool x361000_21, .string x361001_21, .string ji21, .bool false, .string (⟨#[]⟩ : ByteArray)] 24 (0, 0)) hb; replace HB := xst hb; (try clear hb)))
                    first | go_roundg kj21 | (simp only [← hji17, ← hji21]; go_roundg kj21)
                    case measure => have := HK1.out; have := HJ5.out; have := HK3.out; have := HJ11.out; have := HJ21.out; omega
                    case rel => exact ⟨(x5_3), (wrap64 (x7_3 + 1)), xrr, H', ⟨by have := HK1.out; have := HJ5.out; have := HK3.out; have := HJ11.out; have := HJ21.out; omega⟩, ⟨by (with_reducible repeat (first | apply Kd.R_alloc | apply Kd.R_drewN | apply Kd.R_drew)); exact Kd.R_mono HO_5.out (fun _ hk => trivial)⟩, ⟨xbl⟩⟩
               ·
                rw [if_neg c20] at H
                exact absurd H (by simp)
              ·
               rw [if_neg c19] at H
               exact absurd H (by simp)
             ·
              rw [if_neg c18] at H
              exact absurd H (by simp)
         ·
          rw [if_neg c11] at H
          have c11b0 := decide_eq_false c11
          clear c11
          have H' := Aside0.mk H
          clear H
          go_wp2
          go_roundg k3
          case measure => have := HK1.out; have := HJ5.out; have := HK3.out; omega
          case rel => exact ⟨(x5_3), (wrap64 (x6_1 + 1)), xrr, H', ⟨by have := HK1.out; have := HJ5.out; have := HK3.out; omega⟩, ⟨xkd HO_5⟩, ⟨xbl⟩⟩
   ·
    rw [if_neg c5] at H
    have c5b0 := decide_eq_false c5
    clear c5
    obtain rfl := Option.some.inj H
    go_wp2
    go_ret
    exact ⟨_, by first | rfl | (simp [errW_none, errW_some] <;> first | rfl | (simp only [xp_isEmpty, bne, Bool.not_not]; done)) | (simp [*, errW_none, errW_some] <;> rfl), by (with_reducible repeat (first | apply Kd.R_alloc | apply Kd.R_drewN | apply Kd.R_drew)); exact HO_5.out, xbl⟩
end Go.Proofs.YtdmigmccfdhdiaaDoor.X
