/- Texts that the law's proof needs, joined by a program of this session. -/
import Derived.Test.YticohlbfolnmpaaDoorZIpReads1
import Derived.Test.YticohlbfolnmpaaDoorZIpReads2
import Derived.Test.YticohlbfolnmpaaDoorZIpReads3
import Derived.Test.YticohlbfolnmpaaDoorZIpReads4
import Derived.Test.YticohlbfolnmpaaDoorZIpReads8
import Derived.Test.YticohlbfolnmpaaDoorZIpReads10
import Derived.Test.YticohlbfolnmpaaDoorZIpReads11
namespace Go.Proofs.YticohlbfolnmpaaDoor.M
open Go Go.RowKit Go.Proofs.YticohlbfolnmpaaDoorW.PrintWords
set_option linter.unusedVariables false
def dval (l : List Int) : Int := l.foldl (fun n b => 10 * n + (b - 48)) 0
def d8 (l : List Int) : Int :=
  if l.length = 0 ∨ 3 < l.length ∨ (1 < l.length ∧ l.headD 0 = 48) then -1 else if l.all digit then (if dval l ≤ 255 then dval l else -1) else -1
def digs (n : Int) : List Int := if n < 10 then [48 + n] else if n < 100 then [48 + n / 10, 48 + n % 10] else [48 + n / 100, 48 + n / 10 % 10, 48 + n % 10]
theorem d8_digs {n : Int} (h0 : 0 ≤ n) (h1 : n ≤ 255) : d8 (digs n) = n :=
  byte_all (p := fun n => d8 (digs n) = n) (by decide +kernel) h0 h1
theorem digit_iff {b : Int} : digit b = true ↔ 48 ≤ b ∧ b ≤ 57 := by unfold digit; rw [decide_eq_true_iff]
theorem digs_d8 {l : List Int} (h : 0 ≤ d8 l) : digs (d8 l) = l ∧ d8 l ≤ 255 := by
  unfold d8 at h ⊢
  by_cases h1 : l.length = 0 ∨ 3 < l.length ∨ (1 < l.length ∧ l.headD 0 = 48)
  · rw [if_pos h1] at h; omega
  · rw [if_neg h1] at h ⊢
    by_cases h2 : l.all digit = true
    · rw [if_pos h2] at h ⊢
      by_cases h3 : dval l ≤ 255
      · rw [if_pos h3] at h ⊢
        refine ⟨?_, h3⟩
        match l, h1, h2, h3 with
        | [], h1, _, _ => simp at h1
        | [a], h1, h2, h3 =>
          simp only [List.all_cons, List.all_nil, Bool.and_true, digit_iff] at h2
          simp only [dval, List.foldl_cons, List.foldl_nil] at h3 ⊢
          unfold digs
          rw [if_pos (by omega)]
          congr 1; omega
        | [a, b], h1, h2, h3 =>
          simp only [List.all_cons, List.all_nil, Bool.and_true, Bool.and_eq_true, digit_iff] at h2
          simp only [List.length_cons, List.length_nil, List.headD_cons] at h1
          simp only [dval, List.foldl_cons, List.foldl_nil] at h3 ⊢
          unfold digs
          rw [if_neg (by omega), if_pos (by omega)]
          congr 1
          · omega
          · congr 1; omega
        | [a, b, c], h1, h2, h3 =>
          simp only [List.all_cons, List.all_nil, Bool.and_true, Bool.and_eq_true, digit_iff] at h2
          simp only [List.length_cons, List.length_nil, List.headD_cons] at h1
          simp only [dval, List.foldl_cons, List.foldl_nil] at h3 ⊢
          unfold digs
          rw [if_neg (by omega), if_neg (by omega)]
          congr 1
          · omega
          · congr 1
            · omega
            · congr 1; omega
        | _ :: _ :: _ :: _ :: _, h1, _, _ => simp only [List.length_cons] at h1; omega
      · rw [if_neg h3] at h; omega
    · rw [if_neg h2] at h; omega
theorem d8_iff {n : Int} {l : List Int} (h0 : 0 ≤ n) (h1 : n ≤ 255) : digs n = l ↔ d8 l = n := by
  constructor
  · intro h; rw [← h]; exact d8_digs h0 h1
  · intro h
    have := (digs_d8 (l := l) (by omega)).1
    rw [h] at this; exact this
theorem dval_nonneg {l : List Int} (h : l.all digit = true) : 0 ≤ dval l := by
  have key : ∀ (l : List Int) (n : Int), 0 ≤ n → l.all digit = true → 0 ≤ l.foldl (fun n b => 10 * n + (b - 48)) n := by
    intro l
    induction l with
    | nil => intro n hn _; exact hn
    | cons b t ih =>
      intro n hn h
      rw [List.all_cons, Bool.and_eq_true, digit_iff] at h
      exact ih _ (by show 0 ≤ 10 * n + (b - 48); omega) h.2
  exact key l 0 (by omega) h
theorem d8_range (l : List Int) : -1 ≤ d8 l ∧ d8 l ≤ 255 := by
  by_cases h : 0 ≤ d8 l
  · have := (digs_d8 h).2; omega
  · unfold d8 at h ⊢
    by_cases h1 : l.length = 0 ∨ 3 < l.length ∨ (1 < l.length ∧ l.headD 0 = 48)
    · rw [if_pos h1]; omega
    · rw [if_neg h1] at h ⊢
      by_cases h2 : l.all digit = true
      · rw [if_pos h2] at h ⊢
        by_cases h3 : dval l ≤ 255
        · rw [if_pos h3] at h ⊢
          have key := dval_nonneg h2
          omega
        · rw [if_neg h3]; omega
      · rw [if_neg h2]; omega
def v4 (l : List Int) : Option (Int × Int × Int × Int) :=
  match splitC 46 l with
  | [a, b, c, d] => if 0 ≤ d8 a ∧ 0 ≤ d8 b ∧ 0 ≤ d8 c ∧ 0 ≤ d8 d then some (d8 a, d8 b, d8 c, d8 d) else none
  | _ => none
theorem v4_dot {l : List Int} (h : 46 ∉ l) : v4 l = none := by
  unfold v4
  rw [splitC_none h]
theorem v4_range {l : List Int} {a b c d : Int} (h : v4 l = some (a, b, c, d)) : (0 ≤ a ∧ a ≤ 255) ∧ (0 ≤ b ∧ b ≤ 255) ∧ (0 ≤ c ∧ c ≤ 255) ∧ 0 ≤ d ∧ d ≤ 255 := by
  unfold v4 at h
  split at h
  · rename_i x y z w _
    split at h
    · simp only [Option.some.injEq, Prod.mk.injEq] at h
      obtain ⟨rfl, rfl, rfl, rfl⟩ := h
      have := d8_range x
      have := d8_range y
      have := d8_range z
      have := d8_range w
      omega
    · cases h
  · cases h
def hval (n : Int) : List Int → Int
  | [] => n
  | b :: t => hval (16 * n + hv b) t
def word (l : List Int) : Int := if l.length = 0 ∨ 4 < l.length then -1 else if l.all hexd then hval 0 l else -1
theorem hval_range : ∀ (l : List Int) (n m : Int), l.all hexd = true → 0 ≤ n → n < m → 0 ≤ hval n l ∧ hval n l < m * 16 ^ l.length := by
  intro l
  induction l with
  | nil => intro n m _ h0 h1; simp [hval]; omega
  | cons b t ih =>
    intro n m h h0 h1
    rw [List.all_cons, Bool.and_eq_true, ← hv_hexd] at h
    have hr := hv_range b
    have := ih (16 * n + hv b) (16 * m) h.2 (by omega) (by omega)
    refine ⟨this.1, Int.lt_of_lt_of_le this.2 ?_⟩
    rw [List.length_cons, Int.pow_succ]
    have : 16 * m * 16 ^ t.length = m * (16 ^ t.length * 16) := by
      rw [Int.mul_comm 16 m, Int.mul_assoc, Int.mul_comm 16]
    omega
theorem word_range (l : List Int) : -1 ≤ word l ∧ word l ≤ 65535 := by
  unfold word
  by_cases h1 : l.length = 0 ∨ 4 < l.length
  · rw [if_pos h1]; omega
  · rw [if_neg h1]
    by_cases h2 : l.all hexd = true
    · rw [if_pos h2]
      have := hval_range l 0 1 h2 (by omega) (by omega)
      have hp : (16 : Int) ^ l.length ≤ 65536 := by
        have : l.length = 1 ∨ l.length = 2 ∨ l.length = 3 ∨ l.length = 4 := by omega
        rcases this with h | h | h | h <;> rw [h] <;> decide
      omega
    · rw [if_neg h2]; omega
theorem word_all {l : List Int} (h : 0 ≤ word l) : l.all hexd = true ∧ 1 ≤ l.length ∧ l.length ≤ 4 := by
  unfold word at h
  by_cases h1 : l.length = 0 ∨ 4 < l.length
  · rw [if_pos h1] at h; omega
  · rw [if_neg h1] at h
    by_cases h2 : l.all hexd = true
    · exact ⟨h2, by omega, by omega⟩
    · rw [if_neg h2] at h; omega
def words (fin : Bool) : List (List Int) → Option (List Int)
  | [] => some []
  | p :: r => if r = [] ∧ fin = true ∧ (v4 p).isSome then (v4 p).map fun x => [256 * x.1 + x.2.1, 256 * x.2.2.1 + x.2.2.2]
    else if word p < 0 then none else (words fin r).map fun l => word p :: l
theorem words_cons (fin : Bool) (p : List Int) (r : List (List Int)) : words fin (p :: r) = if r = [] ∧ fin = true ∧ (v4 p).isSome then (v4 p).map fun x => [256 * x.1 + x.2.1, 256 * x.2.2.1 + x.2.2.2]
    else if word p < 0 then none else (words fin r).map fun l => word p :: l := rfl
theorem words_len {fin : Bool} {r : List (List Int)} {l : List Int} (h : words fin r = some l) : l.length ≤ r.length + 1 := by
  induction r generalizing l with
  | nil => simp [words] at h; subst h; simp
  | cons p r ih =>
    rw [words_cons] at h
    split at h
    · obtain ⟨x, _, rfl⟩ := Option.map_eq_some_iff.1 h
      simp
    · split at h
      · cases h
      · obtain ⟨x, hx, rfl⟩ := Option.map_eq_some_iff.1 h
        have := ih hx
        simp only [List.length_cons]; omega
theorem words_range {fin : Bool} {r : List (List Int)} {l : List Int} (h : words fin r = some l) : ∀ w ∈ l, 0 ≤ w ∧ w ≤ 65535 := by
  induction r generalizing l with
  | nil => simp [words] at h; subst h; simp
  | cons p r ih =>
    rw [words_cons] at h
    split at h
    · obtain ⟨x, hx, rfl⟩ := Option.map_eq_some_iff.1 h
      obtain ⟨a, b, c, d⟩ := x
      have := v4_range hx
      intro w hw
      simp only [List.mem_cons, List.mem_nil_iff, or_false] at hw
      rcases hw with rfl | rfl <;> omega
    · split at h
      · cases h
      · obtain ⟨x, hx, rfl⟩ := Option.map_eq_some_iff.1 h
        intro w hw
        rcases List.mem_cons.1 hw with rfl | hw
        · have := word_range p; omega
        · exact ih hx w hw
theorem words_nodot {r : List (List Int)} (h : ∀ p ∈ r, (46 : Int) ∉ p) (fin : Bool) : words fin r = words false r := by
  induction r with
  | nil => rfl
  | cons p r ih =>
    have hp := v4_dot (h p (List.mem_cons_self ..))
    rw [words_cons, words_cons, ih (fun q hq => h q (List.mem_cons_of_mem _ hq)), hp]
    simp
theorem words_hex {r : List (List Int)} {l : List Int} (h : words false r = some l) : ∀ p ∈ r, (46 : Int) ∉ p ∧ p.all hexd = true := by
  induction r generalizing l with
  | nil => simp
  | cons p r ih =>
    rw [words_cons, if_neg (by simp)] at h
    split at h
    · cases h
    · rename_i hw
      obtain ⟨x, hx, rfl⟩ := Option.map_eq_some_iff.1 h
      intro q hq
      rcases List.mem_cons.1 hq with rfl | hq
      · have := (word_all (l := q) (by omega)).1
        refine ⟨fun hm => ?_, this⟩
        have := List.all_eq_true.1 this _ hm
        simp [hexd] at this
      · exact ih hx q hq
def rowS (fin : Bool) (l : List Int) : Option (List Int) := if l = [] then some [] else words fin (splitC 58 l)
def v6 (l : List Int) : Option (List Int) :=
  if sidx [58, 58] l < 0 then (rowS true l).bind fun w => if w.length = 8 then some w else none
  else (rowS false (l.take (sidx [58, 58] l).toNat)).bind fun a => (rowS true (l.drop ((sidx [58, 58] l).toNat + 2))).bind fun b =>
    if a.length + b.length ≤ 7 then some (a ++ List.replicate (8 - a.length - b.length) 0 ++ b) else none
def fut : List Int → Bool
  | [] => false
  | v :: t => (v == 118 || v == 86) && decide (0 < spanp hexd t) && decide (2 ≤ (t.drop (spanp hexd t)).length) && ((t.drop (spanp hexd t)).headD 0 == 46) && ((t.drop (spanp hexd t)).tail.all fun b => plainAt 1 b)
end Go.Proofs.YticohlbfolnmpaaDoor.M
namespace Go.Proofs.YticohlbfolnmpaaDoor.Y
open Go.RowKit Go.Proofs.YticohlbfolnmpaaDoor.X Go.Proofs.YticohlbfolnmpaaDoor.M Go.Proofs.YticohlbfolnmpaaDoorW.PrintWords Go.Proofs.YticohlbfolnmpaaDoorW.PrintLast Go.Proofs.YticohlbfolnmpaaDoorW.PrintMore
theorem class_f {b : Int} (h0 : 0 ≤ b) (h1 : b ≤ 255) : Ev (fun k => octet_Class.f k b) (cls b) :=
  Ev.of (fun k => octet_Class.mono b k) (k := 12) (byte_all (p := fun b => octet_Class.f 12 b = some (cls b)) (by decide +kernel) h0 h1)
theorem is_f {b : Int} (c : Int) (h0 : 0 ≤ b) (h1 : b ≤ 255) : Ev (fun k => octet_Is.f k b c) (isc b c) := Ev.bind' (class_f h0 h1) (Ev.now _)
theorem value_f {b : Int} (h0 : 0 ≤ b) (h1 : b ≤ 255) : Ev (fun k => octet_Value.f k b) (if hv b < 0 then (0, false) else (hv b, true)) :=
  Ev.of (fun k => octet_Value.mono b k) (k := 14) (byte_all (p := fun b => octet_Value.f 14 b = some (if hv b < 0 then (0, false) else (hv b, true))) (by decide +kernel) h0 h1)
theorem refClass_f {b : Int} (h0 : 0 ≤ b) (h1 : b ≤ 255) : Ev (fun k => monikerref01_Class.f k b) (cls b) :=
  Ev.of (fun k => monikerref01_Class.mono b k) (k := 60) (byte_all (p := fun b => monikerref01_Class.f 60 b = some (cls b)) (by decide +kernel) h0 h1)
theorem refValue_f {b : Int} (h0 : 0 ≤ b) (h1 : b ≤ 255) : Ev (fun k => monikerref01_Value.f k b) (hv b) :=
  Ev.of (fun k => monikerref01_Value.mono b k) (k := 20) (byte_all (p := fun b => monikerref01_Value.f 20 b = some (hv b)) (by decide +kernel) h0 h1)
theorem at_or_end (s : ByteArray) (n : Nat) (h : n ≤ s.size) : (n = s.size ∧ (bytesOf s).drop n = []) ∨ (n < s.size ∧ (bytesOf s).drop n = bt s (n : Int) :: (bytesOf s).drop (n + 1) ∧ 0 ≤ bt s (n : Int) ∧ bt s (n : Int) ≤ 255) := by
  rcases Nat.lt_or_ge n s.size with h1 | h1
  · right
    have hl : n < (bytesOf s).length := by rw [bytes_len]; exact h1
    refine ⟨h1, ?_, (bt_rng s n).1, (bt_rng s n).2⟩
    rw [List.drop_eq_getElem_cons hl, bt_getD, List.getD_eq_getElem?_getD, List.getElem?_eq_getElem hl]
    rfl
  · left
    exact ⟨by omega, List.drop_of_length_le (by rw [bytes_len]; exact h1)⟩
theorem at_begin (s : ByteArray) : (s.size = 0 ∧ bytesOf s = []) ∨ (0 < s.size ∧ bytesOf s = bt s 0 :: (bytesOf s).drop 1 ∧ 0 ≤ bt s 0 ∧ bt s 0 ≤ 255) := by
  have := at_or_end s 0 (by omega)
  rw [List.drop_zero] at this
  rcases this with ⟨h, e⟩ | h
  · exact .inl ⟨h.symm, e⟩
  · exact .inr h
theorem octSpan_l0 (s : ByteArray) (c : Int) (hs : s.size ≤ 140737488351232) : ∀ d n : Nat, n + d = s.size → Ev (fun k => octet_Span.l0 k s c (s.size : Int) (n : Int)) ((n : Int) + spanp (fun b => isc b c) ((bytesOf s).drop n)) := by
  intro d
  induction d with
  | zero =>
    intro n hn
    refine Ev.step (fun k => rfl) ?_
    refine Ev.ite_neg (by omega) ?_
    rw [List.drop_of_length_le (by rw [bytes_len]; omega)]
    have : ((n : Int) + ((spanp (fun b => isc b c) [] : Nat) : Int)) = (s.size : Int) := by simp [spanp]; omega
    rw [this]
    exact Ev.now _
  | succ d ih =>
    intro n hn
    rcases at_or_end s n (by omega) with ⟨h, _⟩ | ⟨h, e, b0, b1⟩
    · omega
    refine Ev.step (fun k => rfl) ?_
    refine Ev.ite_pos (by omega) (Ev.ite_pos (by omega) (Ev.ite_pos (by omega) (Ev.bind' (is_f c b0 b1) ?_)))
    rw [e]
    cases hb : isc (bt s n) c
    · refine Ev.ite_neg (by simp) ?_
      simp only [spanp, hb, Bool.false_eq_true, if_false]
      exact Ev.now _
    · refine Ev.ite_pos rfl ?_
      rw [w64 (by omega) (by omega)]
      have := ih (n + 1) (by omega)
      simp only [spanp, hb, if_true]
      have e2 : ((n : Int) + ((spanp (fun b => isc b c) ((bytesOf s).drop (n + 1)) + 1 : Nat) : Int)) = ((n + 1 : Nat) : Int) + (spanp (fun b => isc b c) ((bytesOf s).drop (n + 1)) : Int) := by omega
      rw [e2]
      exact this
theorem octSpan_f (s : ByteArray) (c : Int) (hs : s.size ≤ 140737488351232) : Ev (fun k => octet_Span.f k s c) (spanp (fun b => isc b c) (bytesOf s) : Int) := by
  have := octSpan_l0 s c hs s.size 0 (by omega)
  unfold octet_Span.f
  simpa using this
theorem in_l0 (c : Int) (s : ByteArray) (hs : s.size ≤ 140737488351232) : ∀ d n : Nat, n + d = s.size → Ev (fun k => monikerref01_In.l0 k c s (n : Int)) (((bytesOf s).drop n).contains c) := by
  intro d
  induction d with
  | zero =>
    intro n hn
    refine Ev.step (fun k => rfl) (Ev.ite_neg (by omega) ?_)
    rw [List.drop_of_length_le (by rw [bytes_len]; omega)]
    exact Ev.now _
  | succ d ih =>
    intro n hn
    rcases at_or_end s n (by omega) with ⟨h, _⟩ | ⟨h, e, b0, b1⟩
    · omega
    refine Ev.step (fun k => rfl) (Ev.ite_pos (by omega) (Ev.ite_pos (by omega) ?_))
    rw [e, List.contains_cons]
    by_cases hb : bt s n = c
    · refine Ev.ite_pos hb ?_
      rw [hb]
      simp only [beq_self_eq_true, Bool.true_or]
      exact Ev.now _
    · refine Ev.ite_neg hb ?_
      rw [w64 (by omega) (by omega)]
      have : (c == bt s n) = false := by simpa using fun h => hb h.symm
      rw [this, Bool.false_or]
      exact ih (n + 1) (by omega)
theorem in_f (c : Int) (s : ByteArray) (hs : s.size ≤ 140737488351232) : Ev (fun k => monikerref01_In.f k c s) ((bytesOf s).contains c) := in_l0 c s hs s.size 0 (by omega)
end Go.Proofs.YticohlbfolnmpaaDoor.Y
namespace Go.Proofs.YticohlbfolnmpaaDoor.Y
open Go.RowKit Go.Proofs.YticohlbfolnmpaaDoor.X Go.Proofs.YticohlbfolnmpaaDoor.M Go.Proofs.YticohlbfolnmpaaDoorW.PrintWords Go.Proofs.YticohlbfolnmpaaDoorW.PrintLast Go.Proofs.YticohlbfolnmpaaDoorW.PrintMore
set_option linter.unusedVariables false
theorem split_f (s sep : ByteArray) (c : Int) (hsep : bytesOf sep = [c]) (hs : s.size < 4294967281) : ∃ R : List ByteArray, strings_Split.f s sep = some R ∧ R.map bytesOf = splitC c (bytesOf s) := by
  have h1 : sep.size = 1 := by rw [← bytes_len, hsep]; rfl
  refine ⟨_, ?_, splitB_splitC c sep hsep _ s rfl⟩
  unfold strings_Split.f
  rw [if_pos ⟨hs, by omega⟩]
theorem strCut_f (s sep : ByteArray) (hs : s.size < 4294967281) (h1 : sep.size ≤ 1000) : strings_Cut.f s sep = some (if sidx (bytesOf sep) (bytesOf s) < 0 then (s, (⟨#[]⟩ : ByteArray), false)
    else (s.extract 0 (sidx (bytesOf sep) (bytesOf s)).toNat, s.extract ((sidx (bytesOf sep) (bytesOf s)).toNat + sep.size) s.size, true)) := by
  unfold strings_Cut.f stringslite_Cut.f stringslite_Index.f
  rw [if_pos hs]
  have e : Go.Lib.index s.data.toList sep.data.toList = sidx (bytesOf sep) (bytesOf s) := index_sidx _ _
  rw [e]
  simp only [Option.bind_some]
  by_cases h : sidx (bytesOf sep) (bytesOf s) < 0
  · rw [if_neg (by omega), if_pos h]; rfl
  · have hsp := sidx_split (sub := bytesOf sep) (l := bytesOf s) (by omega)
    rw [bytes_len, bytes_len] at hsp
    rw [if_pos (by omega), if_pos (by omega), if_pos (by omega), w64 (by omega) (by omega), if_pos (by omega), if_pos (by omega), if_neg h]
    simp only [Option.bind_some]
    have : (sidx (bytesOf sep) (bytesOf s) + (sep.size : Int)).toNat = (sidx (bytesOf sep) (bytesOf s)).toNat + sep.size := by omega
    rw [this]
theorem getLast_rdOf (pre : List ByteArray) (x : ByteArray) : rdOf ByteArray.empty (pre ++ [x]) (((pre ++ [x]).length : Int) - 1) = x := by
  unfold rdOf
  rw [List.length_append, List.length_singleton]
  have : (((pre.length + 1 : Nat) : Int) - 1).toNat = pre.length := by omega
  rw [this]
  simp
theorem parts_l0 (s : ByteArray) (c : Int) (hs : s.size ≤ 1000000) : ∀ d i : Nat, i + d = s.size → ∀ (pre : List ByteArray) (x : ByteArray), pre.length ≤ i → x.size ≤ i →
    ∃ R, Ev (fun k => monikerref19_Parts.l0 k s c (pre ++ [x]) (i : Int)) R ∧ R.map bytesOf = pre.map bytesOf ++ (bytesOf x ++ (splitC c ((bytesOf s).drop i)).headD []) :: (splitC c ((bytesOf s).drop i)).tail := by
  intro d
  induction d with
  | zero =>
    intro i hi pre x hp hx
    refine ⟨pre ++ [x], ?_, ?_⟩
    · refine Ev.step (fun k => by rw [monikerref19_Parts.l0]) ?_
      exact Ev.ite_neg (by omega) (Ev.now _)
    · rw [List.drop_of_length_le (by rw [bytes_len]; omega)]
      simp [splitC]
  | succ d ih =>
    intro i hi pre x hp hx
    rcases at_or_end s i (by omega) with ⟨h, _⟩ | ⟨h, e, b0, b1⟩
    · omega
    rw [e, splitC_cons]
    by_cases hb : bt s (i : Int) = c
    · obtain ⟨R, h1, h2⟩ := ih (i + 1) (by omega) (pre ++ [x]) (⟨#[]⟩ : ByteArray) (by rw [List.length_append]; simp; omega) (by show 0 ≤ _; omega)
      refine ⟨R, ?_, ?_⟩
      · refine Ev.step (fun k => by rw [monikerref19_Parts.l0]) ?_
        refine Ev.ite_pos (by omega) (Ev.ite_pos (by omega) (Ev.ite_pos hb (Ev.ite_pos (by rw [List.length_append]; simp; omega) ?_)))
        rw [w64 (by omega) (by omega)]
        exact h1
      · rw [h2, if_pos hb]
        have : bytesOf (⟨#[]⟩ : ByteArray) = [] := rfl
        rw [this, List.map_append]
        simp only [List.map_cons, List.map_nil, List.nil_append, List.headD_cons, List.tail_cons, List.append_nil, List.append_assoc, List.singleton_append]
        rw [← splitC_head]
    · have hx1 : (s.extract i (i + 1)).size = 1 := by rw [← bytes_len, bytes_extract, List.length_drop, List.length_take, bytes_len]; omega
      have hsz : (x ++ s.extract i (i + 1)).size = x.size + 1 := by
        rw [ByteArray.size_append, hx1]
      obtain ⟨R, h1, h2⟩ := ih (i + 1) (by omega) pre (x ++ s.extract i (i + 1)) (by omega) (by omega)
      refine ⟨R, ?_, ?_⟩
      · refine Ev.step (fun k => by rw [monikerref19_Parts.l0]) ?_
        have hl : (pre ++ [x]).length = pre.length + 1 := by simp
        rw [w64 (x := ((pre ++ [x]).length : Int) - 1) (by omega) (by omega), w64 (x := (i : Int) + 1) (by omega) (by omega), getLast_rdOf]
        have e1 : ((i : Int) + 1).toNat = i + 1 := by omega
        have e2 : (((pre ++ [x]).length : Int) - 1).toNat = pre.length := by omega
        rw [e1, e2, Int.toNat_natCast, hx1]
        refine Ev.ite_pos (by omega) (Ev.ite_pos (by omega) (Ev.ite_neg hb (Ev.ite_pos (by omega) (Ev.ite_pos (by omega) (Ev.ite_pos (by omega) (Ev.ite_pos (by omega) (Ev.ite_pos (by omega) ?_)))))))
        have e3 : (pre ++ [x]).set pre.length (x ++ s.extract i (i + 1)) = pre ++ [x ++ s.extract i (i + 1)] := by simp
        rw [e3]
        exact h1
      · rw [h2, if_neg hb, bytes_append, bytes_extract]
        have : ((bytesOf s).take (i + 1)).drop i = [bt s (i : Int)] := by
          rw [List.drop_take, e, show i + 1 - i = 1 by omega, List.take_succ_cons, List.take_zero]
        rw [this]
        simp
theorem parts_f (s : ByteArray) (c : Int) (hs : s.size ≤ 1000000) : ∃ R, Ev (fun k => monikerref19_Parts.f k s c) R ∧ R.map bytesOf = splitC c (bytesOf s) := by
  obtain ⟨R, h1, h2⟩ := parts_l0 s c hs s.size 0 (by omega) [] (⟨#[]⟩ : ByteArray) (by simp) (by show 0 ≤ _; omega)
  refine ⟨R, h1, ?_⟩
  rw [h2, List.drop_zero]
  have : bytesOf (⟨#[]⟩ : ByteArray) = [] := rfl
  rw [this]
  simp only [List.map_nil, List.nil_append]
  rw [← splitC_head]
theorem rdOf_map {R : List ByteArray} {L : List (List Int)} (h : R.map bytesOf = L) (i : Nat) : bytesOf (rdOf ByteArray.empty R (i : Int)) = L.getD i [] := by
  subst h
  unfold rdOf
  rw [Int.toNat_natCast, List.getD_eq_getElem?_getD, List.getD_eq_getElem?_getD, List.getElem?_map]
  cases R[i]? with
  | none => rfl
  | some x => rfl
end Go.Proofs.YticohlbfolnmpaaDoor.Y
namespace Go.Proofs.YticohlbfolnmpaaDoor.X
open Go.RowKit Go.Proofs.YticohlbfolnmpaaDoorW.PrintWords Go.Proofs.YticohlbfolnmpaaDoorW.PrintLast Go.Proofs.YticohlbfolnmpaaDoorW.PrintMore
attribute [local go_sem] max2_int min2_int max_two min_two max_three min_three max_four min_four
set_option linter.unusedVariables false
set_option linter.unusedSimpArgs false
def monikerref04_At.j0 : Nat → ByteArray → Int → Bool → Option (Int)
  | 0, _, _, _ => none
  | k + 1, x0, x1, x27 => if x27 = true then (some (-1)) else (if 0 ≤ (wrap64 (x1 + 1)) then (if (wrap64 (x1 + 1)) < (x0.size : Int) then ((monikerref01_Value.f k (bt x0 (wrap64 (x1 + 1)))).bind fun t317 => (if 0 ≤ (wrap64 (x1 + 2)) then (if (wrap64 (x1 + 2)) < (x0.size : Int) then ((monikerref01_Value.f k (bt x0 (wrap64 (x1 + 2)))).bind fun t318 => (if t317 < 0 then (some (-1)) else (if t318 < 0 then (some (-1)) else (some (wrap64 ((wrap64 (16 * t317)) + t318)))))) else (none)) else (none))) else (none)) else (none))
def monikerref04_At.f (k : Nat) (a0 : ByteArray) (a1 : Int) : Option (Int) := if a1 < 0 then (monikerref04_At.j0 k a0 a1 true) else (if a1 ≥ (a0.size : Int) then (monikerref04_At.j0 k a0 a1 true) else (if (wrap64 ((a0.size : Int) - a1)) < 3 then (monikerref04_At.j0 k a0 a1 true) else (if 0 ≤ a1 then (if a1 < (a0.size : Int) then (monikerref04_At.j0 k a0 a1 ((bt a0 a1) != 37)) else (none)) else (none))))
theorem monikerref04_At.mono_l : ∀ k, (∀ y0 y1 y2, LeO (monikerref04_At.j0 k y0 y1 y2) (monikerref04_At.j0 (k + 1) y0 y1 y2))
  | 0 => fun _ _ _ r h => by simp [monikerref04_At.j0] at h
  | k + 1 => by
    have ih0 := monikerref04_At.mono_l k
    have m0 := @monikerref01_Value.mono
    · intro y0 y1 y2
      unfold monikerref04_At.j0
      exact xmo
theorem monikerref04_At.mono : ∀ a0 a1 k, LeO (monikerref04_At.f k a0 a1) (monikerref04_At.f (k + 1) a0 a1) := by
  intro a0 a1 k
  have ih0 := monikerref04_At.mono_l k
  have m0 := @monikerref01_Value.mono
  unfold monikerref04_At.f
  exact xmo
set_option maxHeartbeats 8000000 in
set_option maxRecDepth 100000 in
theorem monikerref04_At.calls (k : Nat) (a0 : ByteArray) (a1 : Int) (r : Int) (w : World) (h : monikerref04_At.f k a0 a1 = some r) :
    Calls Tryd.prog 63 #[.string a0, .int .i64 a1] w fun e w' => e = .returned (.int .i64 r) ∧ Drawn0 w w' := by
 have H : (if a1 < 0 then (monikerref04_At.j0 k a0 a1 true) else (if a1 ≥ (a0.size : Int) then (monikerref04_At.j0 k a0 a1 true) else (if (wrap64 ((a0.size : Int) - a1)) < 3 then (monikerref04_At.j0 k a0 a1 true) else (if 0 ≤ a1 then (if a1 < (a0.size : Int) then (monikerref04_At.j0 k a0 a1 ((bt a0 a1) != 37)) else (none)) else (none))))) = some r := h
 clear h
 have HC3 := Aside0.mk H
 clear H
 go_enter Tryd.func63, Tryd.ntmps63
 go_upto_region 1 with (fail)
 repeat (go_quiet (fail); go_upto_region 1 with (fail))
 go_cut [27] (fun v27 wc => ∃ (kq : Nat) (x27_2 : Bool), v27 = .bool x27_2 ∧ Aside0 (monikerref04_At.j0 kq a0 a1 x27_2 = some r) ∧ Aside0 (kq ≤ k) ∧ Drawn0 w wc)
 case first =>
  have H := HC3.out
  clear HC3
  by_cases c4 : a1 < 0
  ·
   rw [if_pos c4] at H
   have c4b0 := decide_eq_true c4
   clear c4
   (first | rw [c4b0] | (simp only [i64_w, i32_w]; rw [c4b0]) | skip)
   have H' := Aside0.mk H
   clear H
   go_wp2
   repeat (go_quiet (fail); try go_wp2)
   go_meet
   case rel => exact ⟨_, (true), xrr, H', ⟨xom⟩, xdr⟩
  ·
   rw [if_neg c4] at H
   have c4b0 := decide_eq_false c4
   clear c4
   (first | rw [c4b0] | (simp only [i64_w, i32_w]; rw [c4b0]) | skip)
   by_cases c5 : a1 ≥ (a0.size : Int)
   ·
    rw [if_pos c5] at H
    have c5b0 := decide_eq_true c5
    clear c5
    have H' := Aside0.mk H
    clear H
    go_wp2
    repeat (go_quiet (fail); try go_wp2)
    go_meet
    case rel => exact ⟨_, (true), xrr, H', ⟨xom⟩, xdr⟩
   ·
    rw [if_neg c5] at H
    have c5b0 := decide_eq_false c5
    clear c5
    by_cases c6 : (wrap64 ((a0.size : Int) - a1)) < 3
    ·
     rw [if_pos c6] at H
     have c6b0 := decide_eq_true c6
     clear c6
     have H' := Aside0.mk H
     clear H
     go_wp2
     repeat (go_quiet (fail); try go_wp2)
     go_meet
     case rel => exact ⟨_, (true), xrr, H', ⟨xom⟩, xdr⟩
    ·
     rw [if_neg c6] at H
     have c6b0 := decide_eq_false c6
     clear c6
     by_cases c7 : 0 ≤ a1
     ·
      rw [if_pos c7] at H
      have c7b0 := decide_eq_true c7
      clear c7
      by_cases c8 : a1 < (a0.size : Int)
      ·
       rw [if_pos c8] at H
       have c8b0 := decide_eq_true c8
       clear c8
       have H' := Aside0.mk H
       clear H
       have p9 : 0 ≤ (a1 : Int) := xod
       have q9 : a1 < (a0.size : Int) := xod
       have hx9 := bt_at a0 a1
       replace p9 := eq_true p9
       replace q9 := eq_true q9
       try (have q9x := q9; simp only [ByteArray.size_extract, Nat.min_self] at q9x)
       go_wp2
       repeat (go_quiet (fail); try go_wp2)
       go_meet
       case rel => exact ⟨_, (((bt a0 a1) != 37)), xrr, H', ⟨xom⟩, xdr⟩
      ·
       rw [if_neg c8] at H
       exact absurd H (by simp)
     ·
      rw [if_neg c7] at H
      exact absurd H (by simp)
 case rest =>
  clear HC3
  obtain ⟨kq, x27_2, rfl, HA, HJ2, ⟨mc2, rfl⟩⟩ := hcut
  cases kq with
  | zero => exact absurd HA.out (by simp [monikerref04_At.j0])
  | succ kj2 =>
   have H := HA.out
   clear HA
   simp only [monikerref04_At.j0] at H
   by_cases c10 : x27_2 = true
   ·
    subst c10
    rw [if_pos rfl] at H
    obtain rfl := Option.some.inj H
    go_wp2
    repeat (go_quiet (fail); try go_wp2)
    go_ret
    exact ⟨xrr, xdr⟩
   ·
    replace c10 := Bool.eq_false_iff.mpr c10
    subst c10
    rw [if_neg (show ¬ (false = true) by decide)] at H
    obtain ⟨ji11, hji11⟩ : ∃ j_ : Int, (wrap64 (a1 + 1)) = j_ := ⟨_, rfl⟩
    first | rw [hji11] at H | simp only [hji11] at H | skip
    have hji11w : (IntKind.i64.wrap (a1 + 1)) = ji11 := (i64_w _).trans hji11
    by_cases c12 : 0 ≤ (ji11)
    ·
     rw [if_pos c12] at H
     have c12b0 := decide_eq_true c12
     clear c12
     by_cases c13 : (ji11) < (a0.size : Int)
     ·
      rw [if_pos c13] at H
      have c13b0 := decide_eq_true c13
      clear c13
      replace H := Option.bind_eq_some_iff.mp H
      obtain ⟨t317, A150, H⟩ := H
      try dsimp only at H
      have A15 := Aside0.mk A150
      clear A150
      obtain ⟨ji16, hji16⟩ : ∃ j_ : Int, (wrap64 (a1 + 2)) = j_ := ⟨_, rfl⟩
      first | rw [hji16] at H | simp only [hji16] at H | skip
      (try rw [hji16] at A15)
      have hji16w : (IntKind.i64.wrap (a1 + 2)) = ji16 := (i64_w _).trans hji16
      by_cases c17 : 0 ≤ (ji16)
      ·
       rw [if_pos c17] at H
       have c17b0 := decide_eq_true c17
       clear c17
       by_cases c18 : (ji16) < (a0.size : Int)
       ·
        rw [if_pos c18] at H
        have c18b0 := decide_eq_true c18
        clear c18
        replace H := Option.bind_eq_some_iff.mp H
        obtain ⟨t318, A200, H⟩ := H
        try dsimp only at H
        have A20 := Aside0.mk A200
        clear A200
        by_cases c21 : t317 < 0
        ·
         rw [if_pos c21] at H
         have c21b0 := decide_eq_true c21
         clear c21
         obtain rfl := Option.some.inj H
         have p14 : 0 ≤ ((ji11) : Int) := xod
         have q14 : (ji11) < (a0.size : Int) := xod
         have hx14 := bt_at a0 (ji11)
         replace p14 := eq_true p14
         replace q14 := eq_true q14
         try (have q14x := q14; simp only [ByteArray.size_extract, Nat.min_self] at q14x)
         go_wp2_with (first | (go_at_call 29; (with_reducible refine (monikerref01_Value.calls kj2 (bt a0 (ji11)) t317 _ A15.out).mono ?_); rintro e w' ⟨rfl, ⟨nd, rfl⟩⟩; (try first | exact ⟨rfl, _, World.drewN_drewN _ _ _⟩ | exact ⟨rfl, _, Eq.trans (World.drewN_drewN _ _ _) (congrArg (World.drewN _) (Nat.add_assoc _ _ _))⟩); have p19 : 0 ≤ ((ji16) : Int) := xod; have q19 : (ji16) < (a0.size : Int) := xod; have hx19 := bt_at a0 (ji16); replace p19 := eq_true p19; replace q19 := eq_true q19) | (go_at_call 29; (with_reducible refine (monikerref01_Value.calls kj2 (bt a0 (ji16)) t318 _ A20.out).mono ?_); rintro e w' ⟨rfl, ⟨nd, rfl⟩⟩; (try first | exact ⟨rfl, _, World.drewN_drewN _ _ _⟩ | exact ⟨rfl, _, Eq.trans (World.drewN_drewN _ _ _) (congrArg (World.drewN _) (Nat.add_assoc _ _ _))⟩)))
         repeat (go_quiet (first | (go_at_call 29; (with_reducible refine (monikerref01_Value.calls kj2 (bt a0 (ji11)) t317 _ A15.out).mono ?_); rintro e w' ⟨rfl, ⟨nd, rfl⟩⟩; (try first | exact ⟨rfl, _, World.drewN_drewN _ _ _⟩ | exact ⟨rfl, _, Eq.trans (World.drewN_drewN _ _ _) (congrArg (World.drewN _) (Nat.add_assoc _ _ _))⟩); have p19 : 0 ≤ ((ji16) : Int) := xod; have q19 : (ji16) < (a0.size : Int) := xod; have hx19 := bt_at a0 (ji16); replace p19 := eq_true p19; replace q19 := eq_true q19) | (go_at_call 29; (with_reducible refine (monikerref01_Value.calls kj2 (bt a0 (ji16)) t318 _ A20.out).mono ?_); rintro e w' ⟨rfl, ⟨nd, rfl⟩⟩; (try first | exact ⟨rfl, _, World.drewN_drewN _ _ _⟩ | exact ⟨rfl, _, Eq.trans (World.drewN_drewN _ _ _) (congrArg (World.drewN _) (Nat.add_assoc _ _ _))⟩))); try go_wp2_with (first | (go_at_call 29; (with_reducible refine (monikerref01_Value.calls kj2 (bt a0 (ji11)) t317 _ A15.out).mono ?_); rintro e w' ⟨rfl, ⟨nd, rfl⟩⟩; (try first | exact ⟨rfl, _, World.drewN_drewN _ _ _⟩ | exact ⟨rfl, _, Eq.trans (World.drewN_drewN _ _ _) (congrArg (World.drewN _) (Nat.add_assoc _ _ _))⟩); have p19 : 0 ≤ ((ji16) : Int) := xod; have q19 : (ji16) < (a0.size : Int) := xod; have hx19 := bt_at a0 (ji16); replace p19 := eq_true p19; replace q19 := eq_true q19) | (go_at_call 29; (with_reducible refine (monikerref01_Value.calls kj2 (bt a0 (ji16)) t318 _ A20.out).mono ?_); rintro e w' ⟨rfl, ⟨nd, rfl⟩⟩; (try first | exact ⟨rfl, _, World.drewN_drewN _ _ _⟩ | exact ⟨rfl, _, Eq.trans (World.drewN_drewN _ _ _) (congrArg (World.drewN _) (Nat.add_assoc _ _ _))⟩))))
         go_ret
         exact ⟨by first | rfl | (simp; done) | (simp only [← hji11, ← hji16] <;> (first | rfl | simp)) | (simp [*]; done) | (simp [wrap64]; done), xdr⟩
        ·
         rw [if_neg c21] at H
         have c21b0 := decide_eq_false c21
         clear c21
         by_cases c22 : t318 < 0
         ·
          rw [if_pos c22] at H
          have c22b0 := decide_eq_true c22
          clear c22
          obtain rfl := Option.some.inj H
          have p14 : 0 ≤ ((ji11) : Int) := xod
          have q14 : (ji11) < (a0.size : Int) := xod
          have hx14 := bt_at a0 (ji11)
          replace p14 := eq_true p14
          replace q14 := eq_true q14
          try (have q14x := q14; simp only [ByteArray.size_extract, Nat.min_self] at q14x)
          go_wp2_with (first | (go_at_call 29; (with_reducible refine (monikerref01_Value.calls kj2 (bt a0 (ji11)) t317 _ A15.out).mono ?_); rintro e w' ⟨rfl, ⟨nd, rfl⟩⟩; (try first | exact ⟨rfl, _, World.drewN_drewN _ _ _⟩ | exact ⟨rfl, _, Eq.trans (World.drewN_drewN _ _ _) (congrArg (World.drewN _) (Nat.add_assoc _ _ _))⟩); have p19 : 0 ≤ ((ji16) : Int) := xod; have q19 : (ji16) < (a0.size : Int) := xod; have hx19 := bt_at a0 (ji16); replace p19 := eq_true p19; replace q19 := eq_true q19) | (go_at_call 29; (with_reducible refine (monikerref01_Value.calls kj2 (bt a0 (ji16)) t318 _ A20.out).mono ?_); rintro e w' ⟨rfl, ⟨nd, rfl⟩⟩; (try first | exact ⟨rfl, _, World.drewN_drewN _ _ _⟩ | exact ⟨rfl, _, Eq.trans (World.drewN_drewN _ _ _) (congrArg (World.drewN _) (Nat.add_assoc _ _ _))⟩)))
          repeat (go_quiet (first | (go_at_call 29; (with_reducible refine (monikerref01_Value.calls kj2 (bt a0 (ji11)) t317 _ A15.out).mono ?_); rintro e w' ⟨rfl, ⟨nd, rfl⟩⟩; (try first | exact ⟨rfl, _, World.drewN_drewN _ _ _⟩ | exact ⟨rfl, _, Eq.trans (World.drewN_drewN _ _ _) (congrArg (World.drewN _) (Nat.add_assoc _ _ _))⟩); have p19 : 0 ≤ ((ji16) : Int) := xod; have q19 : (ji16) < (a0.size : Int) := xod; have hx19 := bt_at a0 (ji16); replace p19 := eq_true p19; replace q19 := eq_true q19) | (go_at_call 29; (with_reducible refine (monikerref01_Value.calls kj2 (bt a0 (ji16)) t318 _ A20.out).mono ?_); rintro e w' ⟨rfl, ⟨nd, rfl⟩⟩; (try first | exact ⟨rfl, _, World.drewN_drewN _ _ _⟩ | exact ⟨rfl, _, Eq.trans (World.drewN_drewN _ _ _) (congrArg (World.drewN _) (Nat.add_assoc _ _ _))⟩))); try go_wp2_with (first | (go_at_call 29; (with_reducible refine (monikerref01_Value.calls kj2 (bt a0 (ji11)) t317 _ A15.out).mono ?_); rintro e w' ⟨rfl, ⟨nd, rfl⟩⟩; (try first | exact ⟨rfl, _, World.drewN_drewN _ _ _⟩ | exact ⟨rfl, _, Eq.trans (World.drewN_drewN _ _ _) (congrArg (World.drewN _) (Nat.add_assoc _ _ _))⟩); have p19 : 0 ≤ ((ji16) : Int) := xod; have q19 : (ji16) < (a0.size : Int) := xod; have hx19 := bt_at a0 (ji16); replace p19 := eq_true p19; replace q19 := eq_true q19) | (go_at_call 29; (with_reducible refine (monikerref01_Value.calls kj2 (bt a0 (ji16)) t318 _ A20.out).mono ?_); rintro e w' ⟨rfl, ⟨nd, rfl⟩⟩; (try first | exact ⟨rfl, _, World.drewN_drewN _ _ _⟩ | exact ⟨rfl, _, Eq.trans (World.drewN_drewN _ _ _) (congrArg (World.drewN _) (Nat.add_assoc _ _ _))⟩))))
          go_ret
          exact ⟨by first | rfl | (simp; done) | (simp only [← hji11, ← hji16] <;> (first | rfl | simp)) | (simp [*]; done) | (simp [wrap64]; done), xdr⟩
         ·
          rw [if_neg c22] at H
          have c22b0 := decide_eq_false c22
          clear c22
          obtain rfl := Option.some.inj H
          have p14 : 0 ≤ ((ji11) : Int) := xod
          have q14 : (ji11) < (a0.size : Int) := xod
          have hx14 := bt_at a0 (ji11)
          replace p14 := eq_true p14
          replace q14 := eq_true q14
          try (have q14x := q14; simp only [ByteArray.size_extract, Nat.min_self] at q14x)
          go_wp2_with (first | (go_at_call 29; (with_reducible refine (monikerref01_Value.calls kj2 (bt a0 (ji11)) t317 _ A15.out).mono ?_); rintro e w' ⟨rfl, ⟨nd, rfl⟩⟩; (try first | exact ⟨rfl, _, World.drewN_drewN _ _ _⟩ | exact ⟨rfl, _, Eq.trans (World.drewN_drewN _ _ _) (congrArg (World.drewN _) (Nat.add_assoc _ _ _))⟩); have p19 : 0 ≤ ((ji16) : Int) := xod; have q19 : (ji16) < (a0.size : Int) := xod; have hx19 := bt_at a0 (ji16); replace p19 := eq_true p19; replace q19 := eq_true q19) | (go_at_call 29; (with_reducible refine (monikerref01_Value.calls kj2 (bt a0 (ji16)) t318 _ A20.out).mono ?_); rintro e w' ⟨rfl, ⟨nd, rfl⟩⟩; (try first | exact ⟨rfl, _, World.drewN_drewN _ _ _⟩ | exact ⟨rfl, _, Eq.trans (World.drewN_drewN _ _ _) (congrArg (World.drewN _) (Nat.add_assoc _ _ _))⟩)))
          repeat (go_quiet (first | (go_at_call 29; (with_reducible refine (monikerref01_Value.calls kj2 (bt a0 (ji11)) t317 _ A15.out).mono ?_); rintro e w' ⟨rfl, ⟨nd, rfl⟩⟩; (try first | exact ⟨rfl, _, World.drewN_drewN _ _ _⟩ | exact ⟨rfl, _, Eq.trans (World.drewN_drewN _ _ _) (congrArg (World.drewN _) (Nat.add_assoc _ _ _))⟩); have p19 : 0 ≤ ((ji16) : Int) := xod; have q19 : (ji16) < (a0.size : Int) := xod; have hx19 := bt_at a0 (ji16); replace p19 := eq_true p19; replace q19 := eq_true q19) | (go_at_call 29; (with_reducible refine (monikerref01_Value.calls kj2 (bt a0 (ji16)) t318 _ A20.out).mono ?_); rintro e w' ⟨rfl, ⟨nd, rfl⟩⟩; (try first | exact ⟨rfl, _, World.drewN_drewN _ _ _⟩ | exact ⟨rfl, _, Eq.trans (World.drewN_drewN _ _ _) (congrArg (World.drewN _) (Nat.add_assoc _ _ _))⟩))); try go_wp2_with (first | (go_at_call 29; (with_reducible refine (monikerref01_Value.calls kj2 (bt a0 (ji11)) t317 _ A15.out).mono ?_); rintro e w' ⟨rfl, ⟨nd, rfl⟩⟩; (try first | exact ⟨rfl, _, World.drewN_drewN _ _ _⟩ | exact ⟨rfl, _, Eq.trans (World.drewN_drewN _ _ _) (congrArg (World.drewN _) (Nat.add_assoc _ _ _))⟩); have p19 : 0 ≤ ((ji16) : Int) := xod; have q19 : (ji16) < (a0.size : Int) := xod; have hx19 := bt_at a0 (ji16); replace p19 := eq_true p19; replace q19 := eq_true q19) | (go_at_call 29; (with_reducible refine (monikerref01_Value.calls kj2 (bt a0 (ji16)) t318 _ A20.out).mono ?_); rintro e w' ⟨rfl, ⟨nd, rfl⟩⟩; (try first | exact ⟨rfl, _, World.drewN_drewN _ _ _⟩ | exact ⟨rfl, _, Eq.trans (World.drewN_drewN _ _ _) (congrArg (World.drewN _) (Nat.add_assoc _ _ _))⟩))))
          go_ret
          exact ⟨by first | rfl | (simp; done) | (simp only [← hji11, ← hji16] <;> (first | rfl | simp)) | (simp [*]; done) | (simp [wrap64]; done), xdr⟩
       ·
        rw [if_neg c18] at H
        exact absurd H (by simp)
      ·
       rw [if_neg c17] at H
       exact absurd H (by simp)
     ·
      rw [if_neg c13] at H
      exact absurd H (by simp)
    ·
     rw [if_neg c12] at H
     exact absurd H (by simp)
def monikerref02_row_nums : List Int := [0, 127, 0, 0, 1, 194, 223, 128, 191, 2, 224, 224, 160, 191, 3, 225, 236, 128, 191, 3, 237, 237, 128, 159, 3, 238, 239, 128, 191, 3, 240, 240, 144, 191, 4, 241, 243, 128, 191, 4, 244, 244, 128, 143, 4]
def monikerref02_row_cells : Array Value := (monikerref02_row_nums.map (Value.int .i64)).toArray
def monikerref02_row_zeros : Array Value := #[.int .i64 0, .int .i64 0, .int .i64 0, .int .i64 0, .int .i64 0]
def monikerref02_row_at (i j : Nat) : Int := monikerref02_row_nums.getD (i * 5 + j) 0
theorem monikerref02_row_cell {w : World} {g : Nat} (h : w.heap[g]? = some (.cells monikerref02_row_cells 129 (0, 0))) (i j : Nat) (hi : i < 9) (hj : j < 5) : w.cell? ⟨g, i * 5 + j, none⟩ = some (.int .i64 (monikerref02_row_at i j)) := by
  rw [cell_of_row w g _ _ _ _ h]
  unfold monikerref02_row_cells monikerref02_row_at
  have hl : i * 5 + j < monikerref02_row_nums.length := by show i * 5 + j < 45; omega
  simp [List.getElem?_eq_getElem hl, List.getD_eq_getElem?_getD]
theorem monikerref02_row_setRow_other (w : World) (g i : Nat) (cs : Array Value) (h : i ≠ g) : (w.setRow g cs).heap[i]? = w.heap[i]? := by
  simp only [World.setRow, Array.getElem?_modify, if_neg (Ne.symm h)]
theorem monikerref02_row_below {b : Nat} {w w2 : World} (h : Below b w w2) {g : Nat} (hg : b ≤ g) (cs : Array Value) : Below b w (w2.setRow g cs) :=
  h.trans ⟨rfl, rfl, rfl, by simp, fun k hk => monikerref02_row_setRow_other _ _ _ _ (by omega)⟩
theorem monikerref02_row_two (w : World) (a b c : Array Value) (s t : TypeId) :
    let w2 := ((w.alloc (.cells a s)).alloc (.cells b t)).setRow (w.heap.size + 1) c
    w2.heap[w.heap.size]? = some (.cells a s (0, 0)) ∧ w2.heap[w.heap.size + 1]? = some (.cells c t (0, 0)) ∧ Below w.heap.size w w2 := by
  intro w2
  refine ⟨?_, setRow_heap _ _ _ _ _ _ (heap_alloc2_new w _ _), ?_⟩
  · rw [monikerref02_row_setRow_other _ _ _ _ (by omega)]
    exact heap_alloc2_old w _ _
  · exact monikerref02_row_below (((Below.refl _ _).alloc (Nat.le_refl _) _).alloc (by simp) _) (by omega) _
set_option maxHeartbeats 2000000 in
set_option maxRecDepth 100000 in
theorem monikerref02_row_any (i : Nat) (hi : i < 9) (w : World) : Calls Tryd.prog 82 #[.int .i64 i] w fun e w' => e = .returned (.agg #[.int .i64 (monikerref02_row_at i 0), .int .i64 (monikerref02_row_at i 1), .int .i64 (monikerref02_row_at i 2), .int .i64 (monikerref02_row_at i 3), .int .i64 (monikerref02_row_at i 4)]) ∧ Below w.heap.size w w' := by
  have hu5 := Tryd.underlying112
  have hu9 := Tryd.underlying129
  go_enter Tryd.func82, Tryd.ntmps82
  go_wp2_with (refine wpList_store_row rfl 129 (.tmp 3) (.tmp 13) rfl (w.heap.size + 1) monikerref02_row_cells (by as_aux_lemma => rfl) (by as_aux_lemma => rfl) 129 (Array.replicate 45 (.int .i64 0)) (by as_aux_lemma => exact heap_alloc2_new _ _ _) (by as_aux_lemma => kernel_rfl) (by as_aux_lemma => kernel_rfl) (by as_aux_lemma => kernel_rfl) ?_; have h2 := monikerref02_row_two w monikerref02_row_zeros (Array.replicate 45 (.int .i64 0)) monikerref02_row_cells 112 129; generalize hg : World.setRow _ _ _ = w2; have h3 : w2.heap[w.heap.size]? = some (.cells monikerref02_row_zeros 112 (0, 0)) ∧ w2.heap[w.heap.size + 1]? = some (.cells monikerref02_row_cells 129 (0, 0)) ∧ Below w.heap.size w w2 := hg ▸ h2; clear hg h2; obtain ⟨b1, b2, b3⟩ := h3; have hB1 := Aside0.mk b1; have hB2 := Aside0.mk b2; have hB3 := Aside0.mk b3; have c0 : w2.cell? ⟨w.heap.size + 1, i * 5, none⟩ = some (.int .i64 (monikerref02_row_at i 0)) := monikerref02_row_cell b2 i 0 hi (by omega); have c1 := monikerref02_row_cell b2 i 1 hi (by omega); have c2 := monikerref02_row_cell b2 i 2 hi (by omega); have c3 := monikerref02_row_cell b2 i 3 hi (by omega); have c4 := monikerref02_row_cell b2 i 4 hi (by omega); clear b1 b2 b3; have z0 : w2.cell? ⟨w.heap.size, 0, none⟩ = some (.int .i64 0) := (blk_cell hB1.out 0).trans rfl; have z1 : w2.cell? ⟨w.heap.size, 1, none⟩ = some (.int .i64 0) := (blk_cell hB1.out 1).trans rfl; have z2 : w2.cell? ⟨w.heap.size, 2, none⟩ = some (.int .i64 0) := (blk_cell hB1.out 2).trans rfl; have z3 : w2.cell? ⟨w.heap.size, 3, none⟩ = some (.int .i64 0) := (blk_cell hB1.out 3).trans rfl; have z4 : w2.cell? ⟨w.heap.size, 4, none⟩ = some (.int .i64 0) := (blk_cell hB1.out 4).trans rfl; have f0 := xf hB1 0; have f1 := xf hB1 1; have f2 := xf hB1 2; have f3 := xf hB1 3; have f4 := xf hB1 4; generalize hg : w.heap.size = g at *; have hG := Aside0.mk hg; clear hg)
  refine bodyPost_ret (results_cell_row rfl _ _ g 112 #[.int .i64 (monikerref02_row_at i 0), .int .i64 (monikerref02_row_at i 1), .int .i64 (monikerref02_row_at i 2), .int .i64 (monikerref02_row_at i 3), .int .i64 (monikerref02_row_at i 4)] (0, 0) _ rfl (by refine blk_put (cs := #[.int .i64 (monikerref02_row_at i 0), .int .i64 (monikerref02_row_at i 1), .int .i64 (monikerref02_row_at i 2), .int .i64 (monikerref02_row_at i 3), .int .i64 0]) ?_ 4 _ rfl; refine blk_put (cs := #[.int .i64 (monikerref02_row_at i 0), .int .i64 (monikerref02_row_at i 1), .int .i64 (monikerref02_row_at i 2), .int .i64 0, .int .i64 0]) ?_ 3 _ rfl; refine blk_put (cs := #[.int .i64 (monikerref02_row_at i 0), .int .i64 (monikerref02_row_at i 1), .int .i64 0, .int .i64 0, .int .i64 0]) ?_ 2 _ rfl; refine blk_put (cs := #[.int .i64 (monikerref02_row_at i 0), .int .i64 0, .int .i64 0, .int .i64 0, .int .i64 0]) ?_ 1 _ rfl; refine blk_put (cs := #[.int .i64 0, .int .i64 0, .int .i64 0, .int .i64 0, .int .i64 0]) ?_ 0 _ rfl; exact hB1.out) Tryd.underlying112 rfl (by kernel_rfl)) rfl ⟨rfl, ?_⟩
  have hB4 : Below w.heap.size w w2 := by rw [hG.out]; exact hB3.out
  repeat (first | exact hB4 | refine below_set ?_ (Nat.le_of_eq hG.out))
def monikerref02_row.f (a0 : Int) : Option (Int × Int × Int × Int × Int) := if 0 ≤ a0 ∧ a0 < 9 then some (monikerref02_row_at a0.toNat 0, monikerref02_row_at a0.toNat 1, monikerref02_row_at a0.toNat 2, monikerref02_row_at a0.toNat 3, monikerref02_row_at a0.toNat 4) else none
theorem monikerref02_row.calls (a0 : Int) (r1 : Int) (r2 : Int) (r3 : Int) (r4 : Int) (r5 : Int) (w : World) (h : monikerref02_row.f a0 = some (r1, r2, r3, r4, r5)) :
    Calls Tryd.prog 82 #[.int .i64 a0] w fun e w' => e = .returned (.agg #[.int .i64 r1, .int .i64 r2, .int .i64 r3, .int .i64 r4, .int .i64 r5]) ∧ Below w.heap.size w w' := by
  unfold monikerref02_row.f at h
  by_cases hc : 0 ≤ a0 ∧ a0 < 9
  · rw [if_pos hc] at h
    simp only [Option.some.injEq, Prod.mk.injEq] at h
    obtain ⟨rfl, rfl, rfl, rfl, rfl⟩ := h
    have := monikerref02_row_any a0.toNat (by omega) w
    rw [Int.toNat_of_nonneg hc.1] at this
    exact this
  · rw [if_neg hc] at h; cases h
mutual
def monikerref02_fits.l0 : Nat → ByteArray → Int → Int → Int → Int → Int → Int → Option (Int)
  | 0, _, _, _, _, _, _, _ => none
  | k + 1, x0, x5, x320000, x320001, x320002, x320003, x320004 => if x5 < (x0.size : Int) then (monikerref02_fits.j1 k x0 x5 (decide (x5 < x320004)) x320000 x320001 x320002 x320003 x320004) else (monikerref02_fits.j1 k x0 x5 false x320000 x320001 x320002 x320003 x320004)
def monikerref02_fits.j1 : Nat → ByteArray → Int → Bool → Int → Int → Int → Int → Int → Option (Int)
  | 0, _, _, _, _, _, _, _, _ => none
  | k + 1, x0, x5, x17, x320000, x320001, x320002, x320003, x320004 => if x17 = true then (if x5 = 0 then (monikerref02_fits.j2 k x0 x5 x320000 x320001 x320000 x320001 x320002 x320003 x320004) else (monikerref02_fits.j2 k x0 x5 128 191 x320000 x320001 x320002 x320003 x320004)) else (some x5)
def monikerref02_fits.j2 : Nat → ByteArray → Int → Int → Int → Int → Int → Int → Int → Int → Option (Int)
  | 0, _, _, _, _, _, _, _, _, _ => none
  | k + 1, x0, x5, x6, x7, x320000, x320001, x320002, x320003, x320004 => if x5 = 1 then (if 0 ≤ x5 then (if x5 < (x0.size : Int) then (if (wrap64 (bt x0 x5)) < x320002 then (some x5) else (if (wrap64 (bt x0 x5)) > x320003 then (some x5) else (monikerref02_fits.l0 k x0 (wrap64 (x5 + 1)) x320000 x320001 x320002 x320003 x320004))) else (none)) else (none)) else (if 0 ≤ x5 then (if x5 < (x0.size : Int) then (if (wrap64 (bt x0 x5)) < x6 then (some x5) else (if (wrap64 (bt x0 x5)) > x7 then (some x5) else (monikerref02_fits.l0 k x0 (wrap64 (x5 + 1)) x320000 x320001 x320002 x320003 x320004))) else (none)) else (none))
end
def monikerref02_fits.f (k : Nat) (a0 : ByteArray) (a1_0 : Int) (a1_1 : Int) (a1_2 : Int) (a1_3 : Int) (a1_4 : Int) : Option (Int) := monikerref02_fits.l0 k a0 0 a1_0 a1_1 a1_2 a1_3 a1_4
theorem monikerref02_fits.mono_l : ∀ k, (∀ y0 y1 y2 y3 y4 y5 y6, LeO (monikerref02_fits.l0 k y0 y1 y2 y3 y4 y5 y6) (monikerref02_fits.l0 (k + 1) y0 y1 y2 y3 y4 y5 y6)) ∧ (∀ y0 y1 y2 y3 y4 y5 y6 y7, LeO (monikerref02_fits.j1 k y0 y1 y2 y3 y4 y5 y6 y7) (monikerref02_fits.j1 (k + 1) y0 y1 y2 y3 y4 y5 y6 y7)) ∧ (∀ y0 y1 y2 y3 y4 y5 y6 y7 y8, LeO (monikerref02_fits.j2 k y0 y1 y2 y3 y4 y5 y6 y7 y8) (monikerref02_fits.j2 (k + 1) y0 y1 y2 y3 y4 y5 y6 y7 y8))
  | 0 => ⟨fun _ _ _ _ _ _ _ r h => by simp [monikerref02_fits.l0] at h, fun _ _ _ _ _ _ _ _ r h => by simp [monikerref02_fits.j1] at h, fun _ _ _ _ _ _ _ _ _ r h => by simp [monikerref02_fits.j2] at h⟩
  | k + 1 => by
    obtain ⟨ih0, ih1, ih2⟩ := monikerref02_fits.mono_l k
    refine ⟨?_, ?_, ?_⟩
    · intro y0 y1 y2 y3 y4 y5 y6
      unfold monikerref02_fits.l0
      exact xmo
    · intro y0 y1 y2 y3 y4 y5 y6 y7
      unfold monikerref02_fits.j1
      exact xmo
    · intro y0 y1 y2 y3 y4 y5 y6 y7 y8
      unfold monikerref02_fits.j2
      exact xmo
theorem monikerref02_fits.mono : ∀ a0 a1 a2 a3 a4 a5 k, LeO (monikerref02_fits.f k a0 a1 a2 a3 a4 a5) (monikerref02_fits.f (k + 1) a0 a1 a2 a3 a4 a5) := by
  intro a0 a1 a2 a3 a4 a5 k
  obtain ⟨ih0, ih1, ih2⟩ := monikerref02_fits.mono_l k
  unfold monikerref02_fits.f
  exact xmo
set_option maxHeartbeats 8000000 in
set_option maxRecDepth 100000 in
theorem monikerref02_fits.calls (k : Nat) (a0 : ByteArray) (a1_0 : Int) (a1_1 : Int) (a1_2 : Int) (a1_3 : Int) (a1_4 : Int) (r : Int) (w : World) (h : monikerref02_fits.f k a0 a1_0 a1_1 a1_2 a1_3 a1_4 = some r) :
    Calls Tryd.prog 83 #[.string a0, .agg #[.int .i64 a1_0, .int .i64 a1_1, .int .i64 a1_2, .int .i64 a1_3, .int .i64 a1_4]] w fun e w' => e = .returned (.int .i64 r) ∧ Below w.heap.size w w' := by
 have hu112 := Tryd.underlying112
 have HB := Aside0.mk (Below.refl w.heap.size w)
 have H : (monikerref02_fits.l0 k a0 0 a1_0 a1_1 a1_2 a1_3 a1_4) = some r := h
 clear h
 have H' := Aside0.mk H
 clear H
 go_enter Tryd.func83, Tryd.ntmps83
 go_wp2_with (first | ((with_reducible refine gate_dst (N := 3) rfl ?_); refine xev 3 #[.int .i64 a1_0, .int .i64 a1_1, .int .i64 a1_2, .int .i64 a1_3, .int .i64 a1_4] 112 ?_; intro gb319 hg w3 hbox hb; have BK319 := Aside0.mk (hbox); have GW319 := xsz hg; have GE319 := GW319; replace HB := xst hb; clear hb hbox hg))
 go_loopg [5] k (fun kq v5 w' => ∃ (x5_1 : Int), v5 = .int .i64 x5_1 ∧ Aside0 (monikerref02_fits.l0 kq a0 x5_1 a1_0 a1_1 a1_2 a1_3 a1_4 = some r) ∧ Aside0 (kq ≤ k) ∧ Aside0 (w'.heap[gb319]? = some (.cells #[.int .i64 a1_0, .int .i64 a1_1, .int .i64 a1_2, .int .i64 a1_3, .int .i64 a1_4] 112 (0, 0))) ∧ Aside0 (Below w.heap.size w w'))
 case atStart => exact ⟨(0), xrr, H', ⟨Nat.le_refl _⟩, ⟨xbk⟩, ⟨xbl⟩⟩
 case round =>
  clear H'
  obtain ⟨x5_1, rfl, HA, HK1, BK319, HB⟩ := hrel
  cases gk with
  | zero => exact absurd HA.out (by simp [monikerref02_fits.l0])
  | succ k1 =>
   have H := HA.out
   clear HA
   simp only [monikerref02_fits.l0] at H
   have HC4 := Aside0.mk H
   clear H
   go_upto_region 2 with (fail)
   go_cut [17] (fun v17 wc => ∃ (kq : Nat) (x17_3 : Bool), v17 = .bool x17_3 ∧ Aside0 (monikerref02_fits.j1 kq a0 x5_1 x17_3 a1_0 a1_1 a1_2 a1_3 a1_4 = some r) ∧ Aside0 (kq ≤ k1) ∧ Aside0 (wc.heap[gb319]? = some (.cells #[.int .i64 a1_0, .int .i64 a1_1, .int .i64 a1_2, .int .i64 a1_3, .int .i64 a1_4] 112 (0, 0))) ∧ Aside0 (Below w.heap.size w wc))
   case first =>
    have H := HC4.out
    clear HC4
    by_cases c5 : x5_1 < (a0.size : Int)
    ·
     rw [if_pos c5] at H
     have c5b0 := decide_eq_true c5
     clear c5
     (first | rw [c5b0] | (simp only [i64_w, i32_w]; rw [c5b0]) | skip)
     have H' := Aside0.mk H
     clear H
     obtain ⟨hcz6_0, hcz6_1, hcz6_2, hcz6_3, hcz6_4⟩ := xc5 BK319
     have hfz6_0 := xf BK319 0
     have hfz6_1 := xf BK319 1
     have hfz6_2 := xf BK319 2
     have hfz6_3 := xf BK319 3
     have hfz6_4 := xf BK319 4
     go_wp2
     go_meet
     case rel => exact ⟨_, (decide (x5_1 < a1_4)), xrr, H', ⟨by have := HK1.out; first | omega | exact Nat.le_refl _⟩, ⟨xbk⟩, ⟨xbl⟩⟩
    ·
     rw [if_neg c5] at H
     have c5b0 := decide_eq_false c5
     clear c5
     (first | rw [c5b0] | (simp only [i64_w, i32_w]; rw [c5b0]) | skip)
     have H' := Aside0.mk H
     clear H
     go_wp2
     go_meet
     case rel => exact ⟨_, (false), xrr, H', ⟨by have := HK1.out; first | omega | exact Nat.le_refl _⟩, ⟨xbk⟩, ⟨xbl⟩⟩
   case rest =>
    clear HC4
    obtain ⟨kq, x17_3, rfl, HA, HJ3, BK319, HB⟩ := hcut
    cases kq with
    | zero => exact absurd HA.out (by simp [monikerref02_fits.j1])
    | succ kj3 =>
     have H := HA.out
     clear HA
     simp only [monikerref02_fits.j1] at H
     by_cases c7 : x17_3 = true
     ·
      subst c7
      rw [if_pos rfl] at H
      have HC8 := Aside0.mk H
      clear H
      go_upto_if 19 with (fail)
      go_cut [6, 7] (fun v6 v7 wc => ∃ (kq : Nat) (x6_7 : Int) (x7_7 : Int), v6 = .int .i64 x6_7 ∧ v7 = .int .i64 x7_7 ∧ Aside0 (monikerref02_fits.j2 kq a0 x5_1 x6_7 x7_7 a1_0 a1_1 a1_2 a1_3 a1_4 = some r) ∧ Aside0 (kq ≤ kj3) ∧ Aside0 (wc.heap[gb319]? = some (.cells #[.int .i64 a1_0, .int .i64 a1_1, .int .i64 a1_2, .int .i64 a1_3, .int .i64 a1_4] 112 (0, 0))) ∧ Aside0 (Below w.heap.size w wc))
      case first =>
       have H := HC8.out
       clear HC8
       by_cases c9 : x5_1 = 0
       ·
        rw [if_pos c9] at H
        have c9b0 : (x5_1 == 0) = true := beq_iff_eq.mpr c9
        have c9b1 : (x5_1 != 0) = false := bne_eq_false_iff_eq.mpr c9
        clear c9
        (first | rw [c9b0] | (simp only [i64_w, i32_w]; rw [c9b0]) | skip)
        have H' := Aside0.mk H
        clear H
        obtain ⟨hcz10_0, hcz10_1, hcz10_2, hcz10_3, hcz10_4⟩ := xc5 BK319
        have hfz10_0 := xf BK319 0
        have hfz10_1 := xf BK319 1
        have hfz10_2 := xf BK319 2
        have hfz10_3 := xf BK319 3
        have hfz10_4 := xf BK319 4
        go_wp2
        go_meet
        case rel => exact ⟨_, (a1_0), (a1_1), xrr, xrr, H', ⟨by have := HK1.out; have := HJ3.out; first | omega | exact Nat.le_refl _⟩, ⟨xbk⟩, ⟨xbl⟩⟩
       ·
        rw [if_neg c9] at H
        have c9b0 : (x5_1 == 0) = false := beq_eq_false_iff_ne.mpr c9
        have c9b1 : (x5_1 != 0) = true := bne_iff_ne.mpr c9
        (first | rw [c9b0] | (simp only [i64_w, i32_w]; rw [c9b0]) | skip)
        have H' := Aside0.mk H
        clear H
        go_wp2
        go_meet
        case rel => exact ⟨_, (128), (191), xrr, xrr, H', ⟨by have := HK1.out; have := HJ3.out; first | omega | exact Nat.le_refl _⟩, ⟨xbk⟩, ⟨xbl⟩⟩
      case rest =>
       clear HC8
       obtain ⟨kq, x6_7, x7_7, rfl, rfl, HA, HJ7, BK319, HB⟩ := hcut
       cases kq with
       | zero => exact absurd HA.out (by simp [monikerref02_fits.j2])
       | succ kj7 =>
        have H := HA.out
        clear HA
        simp only [monikerref02_fits.j2] at H
        by_cases c11 : x5_1 = 1
        ·
         rw [if_pos c11] at H
         have c11b0 : (x5_1 == 1) = true := beq_iff_eq.mpr c11
         have c11b1 : (x5_1 != 1) = false := bne_eq_false_iff_eq.mpr c11
         clear c11
         by_cases c12 : 0 ≤ x5_1
         ·
          rw [if_pos c12] at H
          have c12b0 := decide_eq_true c12
          clear c12
          by_cases c13 : x5_1 < (a0.size : Int)
          ·
           rw [if_pos c13] at H
           have c13b0 := decide_eq_true c13
           clear c13
           by_cases c15 : (wrap64 (bt a0 x5_1)) < a1_2
           ·
            rw [if_pos c15] at H
            have c15b0 := decide_eq_true c15
            clear c15
            obtain rfl := Option.some.inj H
            obtain ⟨hcz16_0, hcz16_1, hcz16_2, hcz16_3, hcz16_4⟩ := xc5 BK319
            have hfz16_0 := xf BK319 0
            have hfz16_1 := xf BK319 1
            have hfz16_2 := xf BK319 2
            have hfz16_3 := xf BK319 3
            have hfz16_4 := xf BK319 4
            have p14 : 0 ≤ (x5_1 : Int) := xod
            have q14 : x5_1 < (a0.size : Int) := xod
            have hx14 := bt_at a0 x5_1
            replace p14 := eq_true p14
            replace q14 := eq_true q14
            try (have q14x := q14; simp only [ByteArray.size_extract, Nat.min_self] at q14x)
            go_wp2
            go_ret
            exact ⟨xre, xbl⟩
           ·
            rw [if_neg c15] at H
            have c15b0 := decide_eq_false c15
            clear c15
            by_cases c18 : (wrap64 (bt a0 x5_1)) > a1_3
            ·
             rw [if_pos c18] at H
             have c18b0 := decide_eq_true c18
             clear c18
             obtain rfl := Option.some.inj H
             obtain ⟨hcz19_0, hcz19_1, hcz19_2, hcz19_3, hcz19_4⟩ := xc5 BK319
             have hfz19_0 := xf BK319 0
             have hfz19_1 := xf BK319 1
             have hfz19_2 := xf BK319 2
             have hfz19_3 := xf BK319 3
             have hfz19_4 := xf BK319 4
             have p14 : 0 ≤ (x5_1 : Int) := xod
             have q14 : x5_1 < (a0.size : Int) := xod
             have hx14 := bt_at a0 x5_1
             replace p14 := eq_true p14
             replace q14 := eq_true q14
             try (have q14x := q14; simp only [ByteArray.size_extract, Nat.min_self] at q14x)
             have p17 : 0 ≤ (x5_1 : Int) := xod
             have q17 : x5_1 < (a0.size : Int) := xod
             have hx17 := bt_at a0 x5_1
             replace p17 := eq_true p17
             replace q17 := eq_true q17
             try (have q17x := q17; simp only [ByteArray.size_extract, Nat.min_self] at q17x)
             go_wp2
             go_ret
             exact ⟨xre, xbl⟩
            ·
             rw [if_neg c18] at H
             have c18b0 := decide_eq_false c18
             clear c18
             have H' := Aside0.mk H
             clear H
             obtain ⟨hcz20_0, hcz20_1, hcz20_2, hcz20_3, hcz20_4⟩ := xc5 BK319
             have hfz20_0 := xf BK319 0
             have hfz20_1 := xf BK319 1
             have hfz20_2 := xf BK319 2
             have hfz20_3 := xf BK319 3
             have hfz20_4 := xf BK319 4
             have p14 : 0 ≤ (x5_1 : Int) := xod
             have q14 : x5_1 < (a0.size : Int) := xod
             have hx14 := bt_at a0 x5_1
             replace p14 := eq_true p14
             replace q14 := eq_true q14
             try (have q14x := q14; simp only [ByteArray.size_extract, Nat.min_self] at q14x)
             have p17 : 0 ≤ (x5_1 : Int) := xod
             have q17 : x5_1 < (a0.size : Int) := xod
             have hx17 := bt_at a0 x5_1
             replace p17 := eq_true p17
             replace q17 := eq_true q17
             try (have q17x := q17; simp only [ByteArray.size_extract, Nat.min_self] at q17x)
             go_wp2
             go_roundg kj7
             case measure => have := HK1.out; have := HJ3.out; have := HJ7.out; omega
             case rel => exact ⟨(wrap64 (x5_1 + 1)), xrr, H', ⟨by have := HK1.out; have := HJ3.out; have := HJ7.out; omega⟩, ⟨xbk⟩, ⟨xbl⟩⟩
          ·
           rw [if_neg c13] at H
           exact absurd H (by simp)
         ·
          rw [if_neg c12] at H
          exact absurd H (by simp)
        ·
         rw [if_neg c11] at H
         have c11b0 : (x5_1 == 1) = false := beq_eq_false_iff_ne.mpr c11
         have c11b1 : (x5_1 != 1) = true := bne_iff_ne.mpr c11
         by_cases c21 : 0 ≤ x5_1
         ·
          rw [if_pos c21] at H
          have c21b0 := decide_eq_true c21
          clear c21
          by_cases c22 : x5_1 < (a0.size : Int)
          ·
           rw [if_pos c22] at H
           have c22b0 := decide_eq_true c22
           clear c22
           by_cases c24 : (wrap64 (bt a0 x5_1)) < x6_7
           ·
            rw [if_pos c24] at H
            have c24b0 := decide_eq_true c24
            clear c24
            obtain rfl := Option.some.inj H
            have p23 : 0 ≤ (x5_1 : Int) := xod
            have q23 : x5_1 < (a0.size : Int) := xod
            have hx23 := bt_at a0 x5_1
            replace p23 := eq_true p23
            replace q23 := eq_true q23
            try (have q23x := q23; simp only [ByteArray.size_extract, Nat.min_self] at q23x)
            go_wp2
            go_ret
            exact ⟨xre, xbl⟩
           ·
            rw [if_neg c24] at H
            have c24b0 := decide_eq_false c24
            clear c24
            by_cases c26 : (wrap64 (bt a0 x5_1)) > x7_7
            ·
             rw [if_pos c26] at H
             have c26b0 := decide_eq_true c26
             clear c26
             obtain rfl := Option.some.inj H
             have p23 : 0 ≤ (x5_1 : Int) := xod
             have q23 : x5_1 < (a0.size : Int) := xod
             have hx23 := bt_at a0 x5_1
             replace p23 := eq_true p23
             replace q23 := eq_true q23
             try (have q23x := q23; simp only [ByteArray.size_extract, Nat.min_self] at q23x)
             have p25 : 0 ≤ (x5_1 : Int) := xod
             have q25 : x5_1 < (a0.size : Int) := xod
             have hx25 := bt_at a0 x5_1
             replace p25 := eq_true p25
             replace q25 := eq_true q25
             try (have q25x := q25; simp only [ByteArray.size_extract, Nat.min_self] at q25x)
             go_wp2
             go_ret
             exact ⟨xre, xbl⟩
            ·
             rw [if_neg c26] at H
             have c26b0 := decide_eq_false c26
             clear c26
             have H' := Aside0.mk H
             clear H
             have p23 : 0 ≤ (x5_1 : Int) := xod
             have q23 : x5_1 < (a0.size : Int) := xod
             have hx23 := bt_at a0 x5_1
             replace p23 := eq_true p23
             replace q23 := eq_true q23
             try (have q23x := q23; simp only [ByteArray.size_extract, Nat.min_self] at q23x)
             have p25 : 0 ≤ (x5_1 : Int) := xod
             have q25 : x5_1 < (a0.size : Int) := xod
             have hx25 := bt_at a0 x5_1
             replace p25 := eq_true p25
             replace q25 := eq_true q25
             try (have q25x := q25; simp only [ByteArray.size_extract, Nat.min_self] at q25x)
             go_wp2
             go_roundg kj7
             case measure => have := HK1.out; have := HJ3.out; have := HJ7.out; omega
             case rel => exact ⟨(wrap64 (x5_1 + 1)), xrr, H', ⟨by have := HK1.out; have := HJ3.out; have := HJ7.out; omega⟩, ⟨xbk⟩, ⟨xbl⟩⟩
          ·
           rw [if_neg c22] at H
           exact absurd H (by simp)
         ·
          rw [if_neg c21] at H
          exact absurd H (by simp)
     ·
      replace c7 := Bool.eq_false_iff.mpr c7
      subst c7
      rw [if_neg (show ¬ (false = true) by decide)] at H
      obtain rfl := Option.some.inj H
      go_wp2
      go_ret
      exact ⟨xre, xbl⟩
mutual
def monikerref02_value.j0 : Nat → ByteArray → Int → Option (Int)
  | 0, _, _ => none
  | k + 1, x0, x3 => if (x0.size : Int) = 4 then (if 0 < (x0.size : Int) then (monikerref02_value.j1 k x0 (wrap64 ((wrap64 (bt x0 0)) - 240))) else (none)) else (monikerref02_value.j1 k x0 x3)
def monikerref02_value.j1 : Nat → ByteArray → Int → Option (Int)
  | 0, _, _ => none
  | k + 1, x0, x3 => monikerref02_value.l0 k x0 x3 1
def monikerref02_value.l0 : Nat → ByteArray → Int → Int → Option (Int)
  | 0, _, _, _ => none
  | k + 1, x0, x3, x4 => if x4 < (x0.size : Int) then (if 0 ≤ x4 then (monikerref02_value.l0 k x0 (wrap64 ((wrap64 ((wrap64 (x3 * 64)) + (wrap64 (bt x0 x4)))) - 128)) (wrap64 (x4 + 1))) else (none)) else (some x3)
end
def monikerref02_value.f (k : Nat) (a0 : ByteArray) : Option (Int) := if (a0.size : Int) = 1 then (if 0 < (a0.size : Int) then (some (wrap64 (bt a0 0))) else (none)) else (if 0 < (a0.size : Int) then (if (a0.size : Int) = 3 then (monikerref02_value.j0 k a0 (wrap64 ((wrap64 (bt a0 0)) - 224))) else (monikerref02_value.j0 k a0 (wrap64 ((wrap64 (bt a0 0)) - 192)))) else (none))
theorem monikerref02_value.mono_l : ∀ k, (∀ y0 y1, LeO (monikerref02_value.j0 k y0 y1) (monikerref02_value.j0 (k + 1) y0 y1)) ∧ (∀ y0 y1, LeO (monikerref02_value.j1 k y0 y1) (monikerref02_value.j1 (k + 1) y0 y1)) ∧ (∀ y0 y1 y2, LeO (monikerref02_value.l0 k y0 y1 y2) (monikerref02_value.l0 (k + 1) y0 y1 y2))
  | 0 => ⟨fun _ _ r h => by simp [monikerref02_value.j0] at h, fun _ _ r h => by simp [monikerref02_value.j1] at h, fun _ _ _ r h => by simp [monikerref02_value.l0] at h⟩
  | k + 1 => by
    obtain ⟨ih0, ih1, ih2⟩ := monikerref02_value.mono_l k
    refine ⟨?_, ?_, ?_⟩
    · intro y0 y1
      unfold monikerref02_value.j0
      exact xmo
    · intro y0 y1
      unfold monikerref02_value.j1
      exact xmo
    · intro y0 y1 y2
      unfold monikerref02_value.l0
      exact xmo
theorem monikerref02_value.mono : ∀ a0 k, LeO (monikerref02_value.f k a0) (monikerref02_value.f (k + 1) a0) := by
  intro a0 k
  obtain ⟨ih0, ih1, ih2⟩ := monikerref02_value.mono_l k
  unfold monikerref02_value.f
  exact xmo
set_option maxHeartbeats 8000000 in
set_option maxRecDepth 100000 in
theorem monikerref02_value.calls (k : Nat) (a0 : ByteArray) (r : Int) (w : World) (h : monikerref02_value.f k a0 = some r) :
    Calls Tryd.prog 84 #[.string a0] w fun e w' => e = .returned (.int .i64 r) ∧ Drawn0 w w' := by
 have H : (if (a0.size : Int) = 1 then (if 0 < (a0.size : Int) then (some (wrap64 (bt a0 0))) else (none)) else (if 0 < (a0.size : Int) then (if (a0.size : Int) = 3 then (monikerref02_value.j0 k a0 (wrap64 ((wrap64 (bt a0 0)) - 224))) else (monikerref02_value.j0 k a0 (wrap64 ((wrap64 (bt a0 0)) - 192)))) else (none))) = some r := h
 clear h
 by_cases c2 : (a0.size : Int) = 1
 ·
  rw [if_pos c2] at H
  have c2b0 : ((a0.size : Int) == 1) = true := beq_iff_eq.mpr c2
  have c2b1 : ((a0.size : Int) != 1) = false := bne_eq_false_iff_eq.mpr c2
  clear c2
  by_cases c3 : 0 < (a0.size : Int)
  ·
   rw [if_pos c3] at H
   have c3b0 := decide_eq_true c3
   have c3b1 : decide (0 < a0.size) = true := decide_eq_true (by omega)
   clear c3
   obtain rfl := Option.some.inj H
   have p4 : 0 ≤ (0 : Int) := (by omega)
   have q4 : 0 < a0.size := (by have : (0 : Int) < (a0.size : Int) := xod; omega)
   have hx4 : ∀ h : 0 < a0.size, ((a0[0]'h).toNat : Int) = bt a0 0 := bt_at a0 0
   clear p4
   have qi4 : (0 < (a0.size : Int)) = True := eq_true (xod)
   replace q4 := eq_true q4
   try (have q4x := q4; simp only [ByteArray.size_extract, Nat.min_self] at q4x)
   go_enter Tryd.func84, Tryd.ntmps84
   go_wp2
   go_ret
   exact ⟨xrr, xdr⟩
  ·
   rw [if_neg c3] at H
   exact absurd H (by simp)
 ·
  rw [if_neg c2] at H
  have c2b0 : ((a0.size : Int) == 1) = false := beq_eq_false_iff_ne.mpr c2
  have c2b1 : ((a0.size : Int) != 1) = true := bne_iff_ne.mpr c2
  by_cases c5 : 0 < (a0.size : Int)
  ·
   rw [if_pos c5] at H
   have c5b0 := decide_eq_true c5
   have c5b1 : decide (0 < a0.size) = true := decide_eq_true (by omega)
   clear c5
   have HC7 := Aside0.mk H
   clear H
   have p6 : 0 ≤ (0 : Int) := (by omega)
   have q6 : 0 < a0.size := (by have : (0 : Int) < (a0.size : Int) := xod; omega)
   have hx6 : ∀ h : 0 < a0.size, ((a0[0]'h).toNat : Int) = bt a0 0 := bt_at a0 0
   clear p6
   have qi6 : (0 < (a0.size : Int)) = True := eq_true (xod)
   replace q6 := eq_true q6
   try (have q6x := q6; simp only [ByteArray.size_extract, Nat.min_self] at q6x)
   go_enter Tryd.func84, Tryd.ntmps84
   go_upto_if 17 with (fail)
   go_cut [3] (fun v3 wc => ∃ (kq : Nat) (x3_6 : Int), v3 = .int .i64 x3_6 ∧ Aside0 (monikerref02_value.j0 kq a0 x3_6 = some r) ∧ Aside0 (kq ≤ k) ∧ Drawn0 w wc)
   case first =>
    have H := HC7.out
    clear HC7
    by_cases c8 : (a0.size : Int) = 3
    ·
     rw [if_pos c8] at H
     have c8b0 : ((a0.size : Int) == 3) = true := beq_iff_eq.mpr c8
     have c8b1 : ((a0.size : Int) != 3) = false := bne_eq_false_iff_eq.mpr c8
     clear c8
     (first | rw [c8b0] | (simp only [i64_w, i32_w]; rw [c8b0]) | skip)
     have H' := Aside0.mk H
     clear H
     have p9 : 0 ≤ (0 : Int) := (by omega)
     have q9 : 0 < a0.size := (by have : (0 : Int) < (a0.size : Int) := xod; omega)
     have hx9 : ∀ h : 0 < a0.size, ((a0[0]'h).toNat : Int) = bt a0 0 := bt_at a0 0
     clear p9
     have qi9 : (0 < (a0.size : Int)) = True := eq_true (xod)
     replace q9 := eq_true q9
     try (have q9x := q9; simp only [ByteArray.size_extract, Nat.min_self] at q9x)
     go_wp2
     go_meet
     case rel => exact ⟨_, (wrap64 ((wrap64 (bt a0 0)) - 224)), xrr, H', ⟨xom⟩, xdr⟩
    ·
     rw [if_neg c8] at H
     have c8b0 : ((a0.size : Int) == 3) = false := beq_eq_false_iff_ne.mpr c8
     have c8b1 : ((a0.size : Int) != 3) = true := bne_iff_ne.mpr c8
     (first | rw [c8b0] | (simp only [i64_w, i32_w]; rw [c8b0]) | skip)
     have H' := Aside0.mk H
     clear H
     go_wp2
     go_meet
     case rel => exact ⟨_, (wrap64 ((wrap64 (bt a0 0)) - 192)), xrr, H', ⟨xom⟩, xdr⟩
   case rest =>
    clear HC7
    clear c2b0 c2b1 c5b0 c5b1 q6 hx6 qi6
    obtain ⟨kq, x3_6, rfl, HA, HJ6, ⟨mc6, rfl⟩⟩ := hcut
    cases kq with
    | zero => exact absurd HA.out (by simp [monikerref02_value.j0])
    | succ kj6 =>
     have H := HA.out
     clear HA
     simp only [monikerref02_value.j0] at H
     have HC10 := Aside0.mk H
     clear H
     go_upto_if 24 with (fail)
     go_cut [3] (fun v3 wc => ∃ (kq : Nat) (x3_9 : Int), v3 = .int .i64 x3_9 ∧ Aside0 (monikerref02_value.j1 kq a0 x3_9 = some r) ∧ Aside0 (kq ≤ kj6) ∧ Drawn0 w wc)
     case first =>
      have H := HC10.out
      clear HC10
      by_cases c11 : (a0.size : Int) = 4
      ·
       rw [if_pos c11] at H
       have c11b0 : ((a0.size : Int) == 4) = true := beq_iff_eq.mpr c11
       have c11b1 : ((a0.size : Int) != 4) = false := bne_eq_false_iff_eq.mpr c11
       clear c11
       (first | rw [c11b0] | (simp only [i64_w, i32_w]; rw [c11b0]) | skip)
       by_cases c12 : 0 < (a0.size : Int)
       ·
        rw [if_pos c12] at H
        have c12b0 := decide_eq_true c12
        have c12b1 : decide (0 < a0.size) = true := decide_eq_true (by omega)
        clear c12
        have H' := Aside0.mk H
        clear H
        have p13 : 0 ≤ (0 : Int) := (by omega)
        have q13 : 0 < a0.size := (by have : (0 : Int) < (a0.size : Int) := xod; omega)
        have hx13 : ∀ h : 0 < a0.size, ((a0[0]'h).toNat : Int) = bt a0 0 := bt_at a0 0
        clear p13
        have qi13 : (0 < (a0.size : Int)) = True := eq_true (xod)
        replace q13 := eq_true q13
        try (have q13x := q13; simp only [ByteArray.size_extract, Nat.min_self] at q13x)
        go_wp2
        go_meet
        case rel => exact ⟨_, (wrap64 ((wrap64 (bt a0 0)) - 240)), xrr, H', ⟨by have := HJ6.out; first | omega | exact Nat.le_refl _⟩, xdr⟩
       ·
        rw [if_neg c12] at H
        exact absurd H (by simp)
      ·
       rw [if_neg c11] at H
       have c11b0 : ((a0.size : Int) == 4) = false := beq_eq_false_iff_ne.mpr c11
       have c11b1 : ((a0.size : Int) != 4) = true := bne_iff_ne.mpr c11
       (first | rw [c11b0] | (simp only [i64_w, i32_w]; rw [c11b0]) | skip)
       have H' := Aside0.mk H
       clear H
       go_wp2
       go_meet
       case rel => exact ⟨_, (x3_6), xrr, H', ⟨by have := HJ6.out; first | omega | exact Nat.le_refl _⟩, xdr⟩
     case rest =>
      clear HC10
      obtain ⟨kq, x3_9, rfl, HA, HJ9, ⟨mc9, rfl⟩⟩ := hcut
      cases kq with
      | zero => exact absurd HA.out (by simp [monikerref02_value.j1])
      | succ kj9 =>
       have H := HA.out
       clear HA
       simp only [monikerref02_value.j1] at H
       have H' := Aside0.mk H
       clear H
       go_wp2
       go_loopg [3, 4] kj9 (fun kq v3 v4 w' => ∃ (x3_3 : Int) (x4_3 : Int), v3 = .int .i64 x3_3 ∧ v4 = .int .i64 x4_3 ∧ Aside0 (monikerref02_value.l0 kq a0 x3_3 x4_3 = some r) ∧ Aside0 (kq ≤ kj9) ∧ Drawn0 w w')
       case atStart => exact ⟨(x3_9), (1), xrr, xrr, H', ⟨Nat.le_refl _⟩, xdr⟩
       case round =>
        clear H'
        obtain ⟨x3_3, x4_3, rfl, rfl, HA, HK3, ⟨m3, rfl⟩⟩ := hrel
        cases gk with
        | zero => exact absurd HA.out (by simp [monikerref02_value.l0])
        | succ k3 =>
         have H := HA.out
         clear HA
         simp only [monikerref02_value.l0] at H
         by_cases c14 : x4_3 < (a0.size : Int)
         ·
          rw [if_pos c14] at H
          have c14b0 := decide_eq_true c14
          clear c14
          by_cases c15 : 0 ≤ x4_3
          ·
           rw [if_pos c15] at H
           have c15b0 := decide_eq_true c15
           clear c15
           have H' := Aside0.mk H
           clear H
           have p16 : 0 ≤ (x4_3 : Int) := xod
           have q16 : x4_3 < (a0.size : Int) := xod
           have hx16 := bt_at a0 x4_3
           replace p16 := eq_true p16
           replace q16 := eq_true q16
           try (have q16x := q16; simp only [ByteArray.size_extract, Nat.min_self] at q16x)
           go_wp2
           go_roundg k3
           case measure => have := HJ6.out; have := HJ9.out; have := HK3.out; omega
           case rel => exact ⟨(wrap64 ((wrap64 ((wrap64 (x3_3 * 64)) + (wrap64 (bt a0 x4_3)))) - 128)), (wrap64 (x4_3 + 1)), xrr, xrr, H', ⟨by have := HJ6.out; have := HJ9.out; have := HK3.out; omega⟩, xdr⟩
          ·
           rw [if_neg c15] at H
           exact absurd H (by simp)
         ·
          rw [if_neg c14] at H
          have c14b0 := decide_eq_false c14
          clear c14
          obtain rfl := Option.some.inj H
          go_wp2
          go_ret
          exact ⟨xrr, xdr⟩
  ·
   rw [if_neg c5] at H
   exact absurd H (by simp)
end Go.Proofs.YticohlbfolnmpaaDoor.X
