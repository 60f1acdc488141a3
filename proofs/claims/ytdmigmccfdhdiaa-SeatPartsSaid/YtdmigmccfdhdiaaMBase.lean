/- Plain facts on bytes, lists of numbers and rounds, for all laws: nothing of the program stands here. -/
import Derived.Test.YtdmigmccfdhdiaaWMore
import Derived.Test.YtdmigmccfdhdiaaWLast
import Derived.Test.YtdmigmccfdhdiaaWWords
import Derived.Lib.Bytealg
import Derived.Laws.Strings
namespace Go.Proofs.Ytdmigmccfdhdiaa.M
open Go Go.RowKit Go.Proofs.YtdmigmccfdhdiaaW.PrintWords

theorem w64 {x : Int} (h1 : -9223372036854775808 ≤ x) (h2 : x ≤ 9223372036854775807) : wrap64 x = x := by unfold wrap64; omega

/-! strings as lists of numbers -/
theorem toList_data (s : ByteArray) : s.toList = s.data.toList := ByteArray.toList_eq s

theorem bytes_inj {a b : ByteArray} (h : bytesOf a = bytesOf b) : a = b := by
  unfold bytesOf at h
  have : a.data.toList = b.data.toList := by
    apply List.map_inj_right (f := fun b : UInt8 => (b.toNat : Int)) _ |>.1 h
    intro x y hxy
    exact UInt8.toNat_inj.1 (by omega)
  cases a; cases b
  simp only [ByteArray.mk.injEq]
  exact Array.toList_inj.1 this
theorem bytes_iff {a b : ByteArray} : bytesOf a = bytesOf b ↔ a = b := ⟨bytes_inj, fun h => h ▸ rfl⟩
theorem toList_iff {a b : ByteArray} : a.toList = b.toList ↔ bytesOf a = bytesOf b := by
  rw [toList_data, toList_data]
  exact ⟨fun h => by unfold bytesOf; rw [h], fun h => by rw [bytes_inj h]⟩
theorem bytes_append (a b : ByteArray) : bytesOf (a ++ b) = bytesOf a ++ bytesOf b := by
  unfold bytesOf
  rw [ByteArray.data_append, Array.toList_append, List.map_append]
theorem bytes_extract (a : ByteArray) (i j : Nat) : bytesOf (a.extract i j) = ((bytesOf a).take j).drop i := by
  unfold bytesOf
  rw [ByteArray.data_extract, Array.toList_extract, List.extract_eq_take_drop, List.map_take, List.map_drop, List.drop_take]
theorem bytes_range {s : ByteArray} {x : Int} (h : x ∈ bytesOf s) : 0 ≤ x ∧ x ≤ 255 := by
  unfold bytesOf at h
  obtain ⟨b, _, rfl⟩ := List.mem_map.1 h
  have := b.toNat_lt
  omega
theorem bytes_len (s : ByteArray) : (bytesOf s).length = s.size := bytesOf_length s
theorem bt_getD (s : ByteArray) (i : Nat) : bt s (i : Int) = (bytesOf s).getD i 0 := by
  rw [← rd_bytesOf]; unfold rd; simp

/-- A place in a string, by what stands from there on. -/
theorem at_drop {s : ByteArray} {i : Nat} {b : Int} {t : List Int} (h : (bytesOf s).drop i = b :: t) : bt s (i : Int) = b ∧ i < s.size ∧ (bytesOf s).drop (i + 1) = t ∧ 0 ≤ b ∧ b ≤ 255 := by
  have hl : i < (bytesOf s).length := by
    have := congrArg List.length h
    rw [List.length_drop, List.length_cons] at this
    omega
  have e := List.drop_eq_getElem_cons hl
  rw [h] at e
  injection e with e1 e2
  have hr := bytes_range (s := s) (x := b) (by rw [e1]; exact List.getElem_mem hl)
  refine ⟨?_, by rw [← bytes_len]; exact hl, e2.symm, hr.1, hr.2⟩
  rw [bt_getD, List.getD_eq_getElem?_getD, List.getElem?_eq_getElem hl, e1]
  rfl
theorem end_drop {s : ByteArray} {i : Nat} (h : (bytesOf s).drop i = []) : s.size ≤ i := by
  have := congrArg List.length h
  rw [List.length_drop, bytes_len] at this
  simp at this
  omega
theorem take_next {s : ByteArray} {n : Nat} (h : n < s.size) : (bytesOf s).take (n + 1) = (bytesOf s).take n ++ [bt s (n : Int)] := by
  have hl : n < (bytesOf s).length := by rw [bytes_len]; exact h
  rw [List.take_succ_eq_append_getElem hl, bt_getD, List.getD_eq_getElem?_getD, List.getElem?_eq_getElem hl]
  rfl
theorem bt_rng (s : ByteArray) (i : Int) : 0 ≤ bt s i ∧ bt s i ≤ 255 := bt_range s i

/-! rounds -/
theorem Ev.ret {α : Type} {g : Nat → Option α} {r : α} (h : ∀ k, g k = some r) : Ev g r := ⟨0, fun k _ => h k⟩
theorem Ev.to {α : Type} {g f : Nat → Option α} {r : α} (k : Ev f r) (h : ∀ k, g k = f k) : Ev g r := Ev.congr h k
theorem Ev.bind' {α β : Type} {g : Nat → Option α} {f : Nat → α → Option β} {a : α} {r : β} (h : Ev g a) (k : Ev (fun n => f n a) r) : Ev (fun n => (g n).bind fun t => f n t) r := Ev.bind h k
theorem Ev.pure_bind {α β : Type} {o : Option α} {f : Nat → α → Option β} {a : α} {r : β} (h : o = some a) (k : Ev (fun n => f n a) r) : Ev (fun n => o.bind fun t => f n t) r := by
  subst h; exact k
theorem Ev.ite_pos {α : Type} {c : Prop} [Decidable c] {g f : Nat → Option α} {r : α} (h : c) (k : Ev g r) : Ev (fun n => if c then g n else f n) r := by
  simp only [if_pos h]; exact k
theorem Ev.ite_neg {α : Type} {c : Prop} [Decidable c] {g f : Nat → Option α} {r : α} (h : ¬ c) (k : Ev f r) : Ev (fun n => if c then g n else f n) r := by
  simp only [if_neg h]; exact k
theorem Ev.unique {α : Type} {g : Nat → Option α} {r q : α} (h : Ev g r) (k : Ev g q) : r = q := by
  obtain ⟨K, h⟩ := h
  obtain ⟨K', k⟩ := k
  have h1 := h (max K K') (by omega)
  rw [k (max K K') (by omega)] at h1
  exact (Option.some.inj h1).symm

/-! first and last places -/
/-- The first place of c, or -1. -/
def idx (c : Int) : List Int → Int
  | [] => -1
  | b :: t => if b = c then 0 else if idx c t = -1 then -1 else idx c t + 1
theorem idx_ge (c : Int) (l : List Int) : -1 ≤ idx c l := by
  induction l with
  | nil => simp [idx]
  | cons b t ih => unfold idx; split <;> (try split) <;> omega
theorem idx_lt (c : Int) (l : List Int) : idx c l < l.length := by
  induction l with
  | nil => simp [idx]
  | cons b t ih => unfold idx; rw [List.length_cons]; split <;> (try split) <;> omega
theorem idx_append (c : Int) (l m : List Int) : idx c (l ++ m) = if idx c l = -1 then (if idx c m = -1 then -1 else idx c m + l.length) else idx c l := by
  induction l with
  | nil => simp only [List.nil_append, idx, if_true, List.length_nil]; split <;> omega
  | cons b t ih =>
    have := idx_ge c t
    have := idx_ge c m
    rw [List.cons_append]
    by_cases hb : b = c
    · simp [idx, hb]
    · simp only [idx, if_neg hb, ih, List.length_cons]
      by_cases h1 : idx c t = -1
      · by_cases h2 : idx c m = -1
        · simp [h1, h2]
        · simp only [h1, h2, if_true, if_false]
          rw [if_neg (by omega)]; omega
      · simp only [h1, if_false]
        rw [if_neg (by omega)]
theorem idx_none {c : Int} {l : List Int} : idx c l = -1 ↔ c ∉ l := by
  induction l with
  | nil => simp [idx]
  | cons b t ih =>
    have := idx_ge c t
    unfold idx
    by_cases hb : b = c
    · simp [hb]
    · simp only [if_neg hb, List.mem_cons, not_or]
      by_cases h1 : idx c t = -1
      · simp [h1, ih.1 h1, Ne.symm hb]
      · rw [if_neg h1]
        constructor
        · intro h; omega
        · intro h; exact absurd (ih.2 h.2) h1
/-- What stands ahead of the first place, and there. -/
theorem idx_split {c : Int} {l : List Int} (h : 0 ≤ idx c l) : l = l.take (idx c l).toNat ++ c :: l.drop ((idx c l).toNat + 1) ∧ c ∉ l.take (idx c l).toNat := by
  induction l with
  | nil => simp [idx] at h
  | cons b t ih =>
    unfold idx at h ⊢
    by_cases hb : b = c
    · simp [hb]
    · rw [if_neg hb] at h ⊢
      by_cases h1 : idx c t = -1
      · rw [if_pos h1] at h; omega
      · have hg := idx_ge c t
        rw [if_neg h1]
        obtain ⟨e1, e2⟩ := ih (by omega)
        have e : (idx c t + 1).toNat = (idx c t).toNat + 1 := by omega
        rw [e, List.take_succ_cons, List.drop_succ_cons, List.cons_append]
        refine ⟨by rw [← e1], ?_⟩
        rw [List.mem_cons, not_or]
        exact ⟨Ne.symm hb, e2⟩
/-- The last place of c, or -1. -/
def lidx (c : Int) : List Int → Int
  | [] => -1
  | b :: t => if lidx c t = -1 then (if b = c then 0 else -1) else lidx c t + 1
theorem lidx_ge (c : Int) (l : List Int) : -1 ≤ lidx c l := by
  induction l with
  | nil => simp [lidx]
  | cons b t ih => unfold lidx; split <;> (try split) <;> omega
theorem lidx_lt (c : Int) (l : List Int) : lidx c l < l.length := by
  induction l with
  | nil => simp [lidx]
  | cons b t ih => unfold lidx; rw [List.length_cons]; split <;> (try split) <;> omega
theorem lidx_snoc (c : Int) (l : List Int) (b : Int) : lidx c (l ++ [b]) = if b = c then (l.length : Int) else lidx c l := by
  induction l with
  | nil => simp [lidx]
  | cons a t ih =>
    have := lidx_ge c t
    rw [List.cons_append]
    simp only [lidx, ih, List.length_cons]
    by_cases hb : b = c
    · rw [if_pos hb, if_pos hb, if_neg (by omega)]; omega
    · simp only [if_neg hb]
theorem lidx_none {c : Int} {l : List Int} : lidx c l = -1 ↔ c ∉ l := by
  induction l with
  | nil => simp [lidx]
  | cons b t ih =>
    have := lidx_ge c t
    unfold lidx
    rw [List.mem_cons, not_or]
    by_cases h1 : lidx c t = -1
    · rw [if_pos h1]
      by_cases hb : b = c
      · simp [hb]
      · rw [if_neg hb]; simp [ih.1 h1, Ne.symm hb]
    · rw [if_neg h1]
      constructor
      · intro h; omega
      · intro h; exact absurd (ih.2 h.2) h1
theorem lidx_split {c : Int} {l : List Int} (h : 0 ≤ lidx c l) : l = l.take (lidx c l).toNat ++ c :: l.drop ((lidx c l).toNat + 1) ∧ c ∉ l.drop ((lidx c l).toNat + 1) := by
  induction l with
  | nil => simp [lidx] at h
  | cons b t ih =>
    have hg := lidx_ge c t
    unfold lidx at h ⊢
    by_cases h1 : lidx c t = -1
    · rw [if_pos h1] at h ⊢
      by_cases hb : b = c
      · rw [if_pos hb]; simp [hb, lidx_none.1 h1]
      · rw [if_neg hb] at h; omega
    · rw [if_neg h1] at h ⊢
      obtain ⟨e1, e2⟩ := ih (by omega)
      have e : (lidx c t + 1).toNat = (lidx c t).toNat + 1 := by omega
      rw [e, List.take_succ_cons, List.drop_succ_cons, List.cons_append]
      exact ⟨by rw [← e1], e2⟩
/-- The library's word for the first place. -/
theorem indexByte_idx (l : List UInt8) (c : UInt8) : Go.Lib.indexByte l c = idx (c.toNat : Int) (l.map fun b => (b.toNat : Int)) := by
  induction l with
  | nil => rfl
  | cons b t ih =>
    rw [List.map_cons]
    unfold Go.Lib.indexByte idx
    rw [ih]
    by_cases hb : b = c
    · simp [hb]
    · have h1 : (b == c) = false := by simpa using hb
      have h2 : ¬ ((b.toNat : Int) = (c.toNat : Int)) := fun h => hb (UInt8.toNat_inj.1 (by omega))
      rw [h1, if_neg h2]
      simp only [Bool.false_eq_true, if_false, beq_iff_eq]
theorem indexByte_bytes (s : ByteArray) (c : Int) (h0 : 0 ≤ c) (h1 : c ≤ 255) : Go.Lib.indexByte s.data.toList c.toNat.toUInt8 = idx c (bytesOf s) := by
  rw [indexByte_idx]
  have : ((c.toNat.toUInt8.toNat : Nat) : Int) = c := by
    rw [Nat.toUInt8, UInt8.toNat_ofNat']
    omega
  rw [this]; rfl
end Go.Proofs.Ytdmigmccfdhdiaa.M
