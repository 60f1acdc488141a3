/- Texts that the law's proof needs, joined by a program of this session. -/
import Derived.Test.YticohlbfolnmpaaDoorZIpHosts1
import Derived.Test.YticohlbfolnmpaaDoorZIpHosts2
import Derived.Test.YticohlbfolnmpaaDoorZIpHosts3
import Derived.Test.YticohlbfolnmpaaDoorZIpHosts4
import Derived.Test.YticohlbfolnmpaaDoorZIpHosts5
import Derived.Test.YticohlbfolnmpaaDoorZIpHosts7
import Derived.Test.YticohlbfolnmpaaDoorZIpHosts8
import Derived.Test.YticohlbfolnmpaaDoorZIpHosts9
import Derived.Test.YticohlbfolnmpaaDoorZIpHosts10
import Derived.Test.YticohlbfolnmpaaDoorZIpHosts11
import Derived.Lib.Split
import Derived.Lib.SplitLaws
import Derived.Laws.BitsLemmas
namespace Go.Proofs.YticohlbfolnmpaaDoor.M
open Go Go.RowKit Go.Proofs.YticohlbfolnmpaaDoorW.PrintWords
theorem byte_all {p : Int → Prop} (h : ∀ n : Fin 256, p ((n.val : Nat) : Int)) {b : Int} (h0 : 0 ≤ b) (h1 : b ≤ 255) : p b := by
  have := h ⟨b.toNat, by omega⟩
  simp only at this
  rwa [Int.toNat_of_nonneg h0] at this
def alpha (b : Int) : Bool := decide (65 ≤ b ∧ b ≤ 90 ∨ 97 ≤ b ∧ b ≤ 122)
def digit (b : Int) : Bool := decide (48 ≤ b ∧ b ≤ 57)
def hexd (b : Int) : Bool := decide (48 ≤ b ∧ b ≤ 57 ∨ 65 ≤ b ∧ b ≤ 70 ∨ 97 ≤ b ∧ b ≤ 102)
def markc (b : Int) : Bool := decide (b = 45 ∨ b = 46 ∨ b = 95 ∨ b = 126)
def subc (b : Int) : Bool := decide (b = 33 ∨ b = 36 ∨ 38 ≤ b ∧ b ≤ 44 ∨ b = 59 ∨ b = 61)
def genc (b : Int) : Bool := decide (b = 58 ∨ b = 47 ∨ b = 63 ∨ b = 35 ∨ b = 91 ∨ b = 93 ∨ b = 64)
def cls (b : Int) : Int := (if alpha b then 1 else 0) + (if digit b then 2 else 0) + (if markc b then 4 else 0) + (if subc b then 8 else 0) + (if genc b then 16 else 0) + (if hexd b then 32 else 0)
def plainc (b : Int) : Bool := alpha b || digit b || markc b || subc b
def isc (b c : Int) : Bool := Go.bits .and .i64 (cls b) c != 0
theorem isc_digit {b : Int} (h0 : 0 ≤ b) (h1 : b ≤ 255) : isc b 2 = digit b :=
  byte_all (p := fun b => isc b 2 = digit b) (by decide +kernel) h0 h1
theorem isc_plain {b : Int} (h0 : 0 ≤ b) (h1 : b ≤ 255) : isc b 15 = plainc b :=
  byte_all (p := fun b => isc b 15 = plainc b) (by decide +kernel) h0 h1
theorem isc_hex {b : Int} (h0 : 0 ≤ b) (h1 : b ≤ 255) : isc b 32 = hexd b :=
  byte_all (p := fun b => isc b 32 = hexd b) (by decide +kernel) h0 h1
theorem isc_zero {b c : Int} : Go.bits .and .i64 (cls b) c = 0 ↔ isc b c = false := by unfold isc; simp
def hv (b : Int) : Int := if 48 ≤ b ∧ b ≤ 57 then b - 48 else if 65 ≤ b ∧ b ≤ 70 then b - 55 else if 97 ≤ b ∧ b ≤ 102 then b - 87 else -1
theorem hv_range (b : Int) : -1 ≤ hv b ∧ hv b ≤ 15 := by unfold hv; (repeat' split) <;> omega
theorem hv_hexd (b : Int) : (0 ≤ hv b) ↔ hexd b = true := by
  unfold hv hexd
  rw [decide_eq_true_iff]
  (repeat' split) <;> omega
theorem hv_neg (b : Int) : (hv b < 0) ↔ hexd b = false := by
  have h1 := hv_hexd b
  rw [← Bool.not_eq_true, ← h1]
  omega
def spanp (p : Int → Bool) : List Int → Nat
  | [] => 0
  | b :: t => if p b then spanp p t + 1 else 0
theorem spanp_le (p : Int → Bool) (l : List Int) : spanp p l ≤ l.length := by
  induction l with
  | nil => simp [spanp]
  | cons b t ih => unfold spanp; rw [List.length_cons]; split <;> omega
end Go.Proofs.YticohlbfolnmpaaDoor.M
namespace Go.Proofs.YticohlbfolnmpaaDoor.M
open Go Go.RowKit Go.Proofs.YticohlbfolnmpaaDoorW.PrintWords
set_option linter.unusedVariables false
def sidx (sub : List Int) : List Int → Int
  | [] => if sub = [] then 0 else -1
  | b :: t => if sub.isPrefixOf (b :: t) then 0 else if sidx sub t = -1 then -1 else sidx sub t + 1
theorem sidx_cons (sub : List Int) (b : Int) (t : List Int) : sidx sub (b :: t) = if sub.isPrefixOf (b :: t) then 0 else if sidx sub t = -1 then -1 else sidx sub t + 1 := rfl
theorem sidx_ge (sub l : List Int) : -1 ≤ sidx sub l := by
  induction l with
  | nil => unfold sidx; split <;> omega
  | cons b t ih => rw [sidx_cons]; split <;> (try split) <;> omega
theorem prefix_map (a l : List UInt8) : (a.map fun b => (b.toNat : Int)).isPrefixOf (l.map fun b => (b.toNat : Int)) = a.isPrefixOf l := by
  induction a generalizing l with
  | nil => rfl
  | cons x t ih =>
    cases l with
    | nil => rfl
    | cons y r =>
      rw [List.map_cons, List.map_cons, List.isPrefixOf_cons_cons, List.isPrefixOf_cons_cons, ih]
      congr 1
      rw [Bool.eq_iff_iff, beq_iff_eq, beq_iff_eq]
      constructor
      · intro h; exact UInt8.toNat_inj.1 (by omega)
      · intro h; rw [h]
theorem index_sidx (l sub : List UInt8) : Go.Lib.index l sub = sidx (sub.map fun b => (b.toNat : Int)) (l.map fun b => (b.toNat : Int)) := by
  induction l with
  | nil =>
    unfold Go.Lib.index
    rw [List.map_nil]
    unfold sidx
    cases sub <;> simp
  | cons b t ih =>
    unfold Go.Lib.index
    have hp := prefix_map sub (b :: t)
    rw [List.map_cons] at hp ⊢
    rw [sidx_cons, hp, ih]
    by_cases h : sub.isPrefixOf (b :: t) = true
    · rw [if_pos h, if_pos h]
    · rw [if_neg h, if_neg h]
      simp only [beq_iff_eq]
theorem indexB_sidx (s sub : ByteArray) : Go.Lib.indexB s sub = sidx (bytesOf sub) (bytesOf s) := index_sidx _ _
theorem sidx_one (c : Int) (l : List Int) : sidx [c] l = idx c l := by
  induction l with
  | nil => unfold sidx idx; simp
  | cons b t ih =>
    rw [sidx_cons, ih]
    have : idx c (b :: t) = if b = c then 0 else if idx c t = -1 then -1 else idx c t + 1 := rfl
    rw [this]
    by_cases h : b = c
    · rw [if_pos h, if_pos (by simp [h])]
    · rw [if_neg h, if_neg (by simp; exact fun x => h x.symm)]
theorem sidx_split {sub l : List Int} (h : 0 ≤ sidx sub l) : (sidx sub l).toNat + sub.length ≤ l.length ∧ (l.drop (sidx sub l).toNat).take sub.length = sub := by
  induction l with
  | nil =>
    unfold sidx at h ⊢
    by_cases hs : sub = []
    · subst hs; simp
    · rw [if_neg hs] at h; omega
  | cons b t ih =>
    rw [sidx_cons] at h ⊢
    by_cases hp : sub.isPrefixOf (b :: t) = true
    · rw [if_pos hp]
      have := List.isPrefixOf_iff_prefix.1 hp
      refine ⟨?_, ?_⟩
      · have := this.length_le; simpa using this
      · simpa using (List.prefix_iff_eq_take.1 this).symm
    · rw [if_neg hp] at h ⊢
      by_cases h1 : sidx sub t = -1
      · rw [if_pos h1] at h; omega
      · have hg := sidx_ge sub t
        rw [if_neg h1]
        have := ih (by omega)
        have e : (sidx sub t + 1).toNat = (sidx sub t).toNat + 1 := by omega
        rw [e, List.drop_succ_cons, List.length_cons]
        exact ⟨by omega, this.2⟩
def splitC (c : Int) : List Int → List (List Int)
  | [] => [[]]
  | b :: t => if b = c then [] :: splitC c t else (b :: (splitC c t).headD []) :: (splitC c t).tail
theorem splitC_cons (c b : Int) (t : List Int) : splitC c (b :: t) = if b = c then [] :: splitC c t else (b :: (splitC c t).headD []) :: (splitC c t).tail := rfl
theorem splitC_ne (c : Int) (l : List Int) : splitC c l ≠ [] := by
  cases l with
  | nil => simp [splitC]
  | cons b t => rw [splitC_cons]; split <;> simp
theorem splitC_head (c : Int) (l : List Int) : splitC c l = (splitC c l).headD [] :: (splitC c l).tail := by
  cases h : splitC c l with
  | nil => exact absurd h (splitC_ne c l)
  | cons a r => rfl
theorem splitC_none {c : Int} {l : List Int} (h : c ∉ l) : splitC c l = [l] := by
  induction l with
  | nil => rfl
  | cons b t ih =>
    rw [List.mem_cons, not_or] at h
    rw [splitC_cons, if_neg (fun x => h.1 x.symm), ih h.2]; rfl
theorem splitC_at {c : Int} {a : List Int} (h : c ∉ a) (r : List Int) : splitC c (a ++ c :: r) = a :: splitC c r := by
  induction a with
  | nil => rw [List.nil_append, splitC_cons, if_pos rfl]
  | cons b t ih =>
    rw [List.mem_cons, not_or] at h
    rw [List.cons_append, splitC_cons, if_neg (fun x => h.1 x.symm), ih h.2]; rfl
theorem splitC_len (c : Int) (l : List Int) : (splitC c l).length ≤ l.length + 1 := by
  induction l with
  | nil => simp [splitC]
  | cons b t ih =>
    rw [splitC_cons]
    split
    · simp; omega
    · simp only [List.length_cons, List.length_tail]; omega
theorem splitC_mem {c : Int} {l : List Int} : ∀ p ∈ splitC c l, c ∉ p ∧ (∀ b ∈ p, b ∈ l) ∧ p.length ≤ l.length := by
  induction l with
  | nil => intro p hp; simp [splitC] at hp; subst hp; simp
  | cons b t ih =>
    intro p hp
    rw [splitC_cons] at hp
    by_cases h : b = c
    · rw [if_pos h] at hp
      rcases List.mem_cons.1 hp with rfl | hp
      · simp
      · obtain ⟨h1, h2, h3⟩ := ih p hp
        exact ⟨h1, fun x hx => List.mem_cons_of_mem _ (h2 x hx), by rw [List.length_cons]; omega⟩
    · rw [if_neg h] at hp
      rcases List.mem_cons.1 hp with rfl | hp
      · obtain ⟨h1, h2, h3⟩ := ih ((splitC c t).headD []) (by rw [splitC_head c t]; simp)
        refine ⟨?_, ?_, by simp only [List.length_cons]; omega⟩
        · rw [List.mem_cons, not_or]; exact ⟨fun x => h x.symm, h1⟩
        · intro x hx
          rcases List.mem_cons.1 hx with rfl | hx
          · exact List.mem_cons_self ..
          · exact List.mem_cons_of_mem _ (h2 x hx)
      · obtain ⟨h1, h2, h3⟩ := ih p (List.mem_of_mem_tail hp)
        exact ⟨h1, fun x hx => List.mem_cons_of_mem _ (h2 x hx), by rw [List.length_cons]; omega⟩
theorem splitB_splitC (c : Int) (sep : ByteArray) (hsep : bytesOf sep = [c]) : ∀ (k : Nat) (s : ByteArray), Go.Lib.countB s sep = k → (Go.Lib.splitB sep 0 k s).map bytesOf = splitC c (bytesOf s) := by
  have h1 : sep.size = 1 := by rw [← bytes_len, hsep]; rfl
  intro k
  induction k with
  | zero =>
    intro s hk
    rcases Go.Lib.indexB_cases s sep with hix | ⟨i, hix, hr⟩
    · rw [Go.Lib.splitB_zero, List.map_cons, List.map_nil]
      rw [indexB_sidx, hsep, sidx_one] at hix
      rw [splitC_none (idx_none.1 hix)]
    · have := Go.Lib.countB_hit s sep i (by omega) hix; omega
  | succ k ih =>
    intro s hk
    rcases Go.Lib.indexB_cases s sep with hix | ⟨i, hix, hr⟩
    · rw [Go.Lib.countB_miss s sep hix] at hk; omega
    · have hc := Go.Lib.countB_hit s sep i (by omega) hix
      rw [Go.Lib.splitB_hit sep 0 k s i hix, List.map_cons, ih _ (by omega)]
      rw [indexB_sidx, hsep, sidx_one] at hix
      obtain ⟨e1, e2⟩ := idx_split (c := c) (l := bytesOf s) (by omega)
      rw [hix, Int.toNat_natCast] at e1 e2
      conv => rhs; rw [e1]
      rw [splitC_at e2, bytes_extract, bytes_extract, h1, List.drop_zero, Nat.add_zero]
      rw [← bytes_len, List.take_length]
end Go.Proofs.YticohlbfolnmpaaDoor.M
namespace Go.Proofs.YticohlbfolnmpaaDoor.M
open Go Go.RowKit Go.Proofs.YticohlbfolnmpaaDoorW.PrintWords
def shp (b : Int) : Int × Int × Int :=
  if b < 128 then (1, 0, 0) else if 194 ≤ b ∧ b ≤ 223 then (2, 128, 191) else if b = 224 then (3, 160, 191) else if b = 237 then (3, 128, 159)
  else if 225 ≤ b ∧ b ≤ 239 then (3, 128, 191) else if b = 240 then (4, 144, 191) else if b = 244 then (4, 128, 143) else if 241 ≤ b ∧ b ≤ 243 then (4, 128, 191) else (0, 0, 0)
def conts : Nat → Int → Int → List Int → Nat
  | 0, _, _, _ => 0
  | _ + 1, _, _, [] => 0
  | n + 1, lo, hi, c :: t => if lo ≤ c ∧ c ≤ hi then conts n 128 191 t + 1 else 0
def accum (r : Int) : List Int → Int
  | [] => r
  | c :: t => accum (r * 64 + (c - 128)) t
def lead (n b : Int) : Int := if n = 1 then b else if n = 2 then b - 192 else if n = 3 then b - 224 else b - 240
def dec : List Int → Int × Int × Bool
  | [] => (0, 0, false)
  | b :: t => if (shp b).1 = 0 then (0, 1, false)
    else if (conts ((shp b).1.toNat - 1) (shp b).2.1 (shp b).2.2 t : Int) + 1 < (shp b).1 then (0, (conts ((shp b).1.toNat - 1) (shp b).2.1 (shp b).2.2 t : Int) + 1, false)
    else (accum (lead (shp b).1 b) (t.take ((shp b).1.toNat - 1)), (shp b).1, true)
theorem dec_cons (b : Int) (t : List Int) : dec (b :: t) = if (shp b).1 = 0 then (0, 1, false)
    else if (conts ((shp b).1.toNat - 1) (shp b).2.1 (shp b).2.2 t : Int) + 1 < (shp b).1 then (0, (conts ((shp b).1.toNat - 1) (shp b).2.1 (shp b).2.2 t : Int) + 1, false)
    else (accum (lead (shp b).1 b) (t.take ((shp b).1.toNat - 1)), (shp b).1, true) := rfl
theorem shp_range (b : Int) : 0 ≤ (shp b).1 ∧ (shp b).1 ≤ 4 := by
  unfold shp
  (repeat' split) <;> simp
theorem shp_bounds {b : Int} (h : 2 ≤ (shp b).1) : 128 ≤ (shp b).2.1 ∧ (shp b).2.2 ≤ 191 := by
  revert h
  unfold shp
  (repeat' split) <;> simp
theorem shp_lead {b : Int} (h0 : 0 ≤ b) (h1 : b ≤ 255) (h : 1 ≤ (shp b).1) : 0 ≤ lead (shp b).1 b ∧ lead (shp b).1 b < 128 := by
  have := byte_all (p := fun b => 1 ≤ (shp b).1 → 0 ≤ lead (shp b).1 b ∧ lead (shp b).1 b < 128) (by decide +kernel) h0 h1
  exact this h
theorem conts_le (n : Nat) (lo hi : Int) (l : List Int) : conts n lo hi l ≤ n ∧ conts n lo hi l ≤ l.length := by
  induction n generalizing lo hi l with
  | zero => simp [conts]
  | succ n ih =>
    cases l with
    | nil => simp [conts]
    | cons c t =>
      unfold conts
      have := ih 128 191 t
      rw [List.length_cons]
      split <;> omega
theorem conts_mem (n : Nat) (lo hi : Int) (h0 : 128 ≤ lo) (h1 : hi ≤ 191) (l : List Int) : ∀ c ∈ l.take (conts n lo hi l), 128 ≤ c ∧ c ≤ 191 := by
  induction n generalizing lo hi l with
  | zero => simp [conts]
  | succ n ih =>
    cases l with
    | nil => simp [conts]
    | cons c t =>
      unfold conts
      split
      · rename_i h
        simp only [List.take_succ_cons]
        intro d hd
        rcases List.mem_cons.1 hd with rfl | hd
        · omega
        · exact ih 128 191 (by omega) (by omega) t d hd
      · simp
theorem conts_one (lo hi : Int) (l : List Int) : conts 0 lo hi l = 0 := by unfold conts; rfl
theorem dec_n (l : List Int) : 0 ≤ (dec l).2.1 ∧ (dec l).2.1 ≤ 4 ∧ (dec l).2.1 ≤ l.length := by
  cases l with
  | nil => simp [dec]
  | cons b t =>
    have h1 := shp_range b
    have h2 := conts_le ((shp b).1.toNat - 1) (shp b).2.1 (shp b).2.2 t
    rw [List.length_cons, dec_cons]
    split
    · simp only; omega
    · split
      · simp only
        omega
      · simp only
        omega
theorem dec_pos {b : Int} {t : List Int} : 1 ≤ (dec (b :: t)).2.1 := by
  have h1 := shp_range b
  rw [dec_cons]
  split
  · simp
  · split <;> simp only <;> omega
theorem dec_ok_n {l : List Int} (ok : (dec l).2.2 = true) : 1 ≤ (dec l).2.1 := by
  cases l with
  | nil => cases ok
  | cons b t => exact dec_pos
end Go.Proofs.YticohlbfolnmpaaDoor.M
namespace Go.Proofs.YticohlbfolnmpaaDoor.M
open Go Go.RowKit Go.Proofs.YticohlbfolnmpaaDoorW.PrintWords
set_option linter.unusedVariables false
def escH : List Int → Int
  | p :: a :: b :: _ => if p = 37 then (if hv a < 0 ∨ hv b < 0 then -1 else 16 * hv a + hv b) else -1
  | _ => -1
theorem escH_pos {l : List Int} (h : 0 ≤ escH l) : ∃ a b t, l = 37 :: a :: b :: t ∧ hexd a = true ∧ hexd b = true ∧ escH l = 16 * hv a + hv b := by
  unfold escH at h ⊢
  split at h
  · rename_i p a b t
    by_cases hp : p = 37
    · rw [if_pos hp] at h ⊢
      by_cases h2 : hv a < 0 ∨ hv b < 0
      · rw [if_pos h2] at h; omega
      · rw [if_neg h2]
        subst hp
        exact ⟨a, b, t, rfl, (hv_hexd a).1 (by omega), (hv_hexd b).1 (by omega), rfl⟩
    · rw [if_neg hp] at h; omega
  · omega
def place (p : Int) : Bool := decide (1 ≤ p ∧ p ≤ 7)
def extraIn (p b : Int) : Bool :=
  if p = 1 then b == 58 else if p = 3 then b == 58 || b == 64 else if p = 4 then b == 64 else if p = 5 then b == 58 || b == 64 || b == 47
  else if p = 6 ∨ p = 7 then b == 58 || b == 64 || b == 47 || b == 63 else false
def plainAt (p b : Int) : Bool := place p && (plainc b || extraIn p b)
def common (r : Int) : Bool := decide (160 ≤ r ∧ r ≤ 55295 ∨ 63744 ≤ r ∧ r ≤ 64975 ∨ 65008 ≤ r ∧ r ≤ 65519 ∨ 65536 ≤ r ∧ r ≤ 983037 ∧ r % 65536 ≤ 65533 ∧ (r < 917504 ∨ 921600 ≤ r))
def priv (r : Int) : Bool := decide (57344 ≤ r ∧ r ≤ 63743 ∨ 983040 ≤ r ∧ r ≤ 1048573 ∨ 1048576 ≤ r ∧ r ≤ 1114109)
def mayAt (p : Int) (iri : Bool) (r : Int) : Bool := if 0 ≤ r ∧ r < 128 then plainAt p r else (iri && place p && (common r || (decide (p = 6) && priv r)))
def stepAt (p : Int) (iri : Bool) (l : List Int) : Nat :=
  if place p then (if 0 ≤ escH l then 3 else if (dec l).2.2 && mayAt p iri (dec l).1 then (dec l).2.1.toNat else 0) else 0
theorem step_le (p : Int) (iri : Bool) (l : List Int) : stepAt p iri l ≤ l.length := by
  unfold stepAt
  split
  · split
    · rename_i h
      obtain ⟨a, b, t, rfl, _⟩ := escH_pos h
      simp
    · split
      · have := dec_n l; omega
      · omega
  · omega
theorem step_nil (p : Int) (iri : Bool) : stepAt p iri [] = 0 := by
  have := step_le p iri []
  simpa using this
def spanAt (p : Int) (iri : Bool) (l : List Int) : Nat :=
  if h : stepAt p iri l = 0 then 0 else stepAt p iri l + spanAt p iri (l.drop (stepAt p iri l))
termination_by l.length
decreasing_by
  have := step_le p iri l
  rw [List.length_drop]
  omega
theorem span_eq (p : Int) (iri : Bool) (l : List Int) : spanAt p iri l = if stepAt p iri l = 0 then 0 else stepAt p iri l + spanAt p iri (l.drop (stepAt p iri l)) := by
  rw [spanAt]
  split <;> simp_all
theorem span_le (p : Int) (iri : Bool) (l : List Int) : spanAt p iri l ≤ l.length := by
  induction hn : l.length using Nat.strongRecOn generalizing l with
  | _ n ih =>
    rw [span_eq]
    split
    · omega
    · have h1 := step_le p iri l
      have := ih (l.drop (stepAt p iri l)).length (by rw [List.length_drop]; omega) (l.drop (stepAt p iri l)) rfl
      rw [List.length_drop] at this
      omega
theorem span_nil (p : Int) (iri : Bool) : spanAt p iri [] = 0 := by
  have := span_le p iri []
  simpa using this
def allAt (p : Int) (iri : Bool) (l : List Int) : Bool := spanAt p iri l == l.length
end Go.Proofs.YticohlbfolnmpaaDoor.M
namespace Go.Proofs.YticohlbfolnmpaaDoor.M
open Go Go.RowKit Go.Proofs.YticohlbfolnmpaaDoorW.PrintWords
set_option linter.unusedVariables false
def dval (l : List Int) : Int := l.foldl (fun n b => 10 * n + (b - 48)) 0
def d8 (l : List Int) : Int :=
  if l.length = 0 ∨ 3 < l.length ∨ (1 < l.length ∧ l.headD 0 = 48) then -1 else if l.all digit then (if dval l ≤ 255 then dval l else -1) else -1
def digs (n : Int) : List Int := if n < 10 then [48 + n] else if n < 100 then [48 + n / 10, 48 + n % 10] else [48 + n / 100, 48 + n / 10 % 10, 48 + n % 10]
theorem d8_digs {n : Int} (h0 : 0 ≤ n) (h1 : n ≤ 255) : d8 (digs n) = n :=
  byte_all (p := fun n => d8 (digs n) = n) (by decide +kernel) h0 h1
theorem digit_iff {b : Int} : digit b = true ↔ 48 ≤ b ∧ b ≤ 57 := by unfold digit; rw [decide_eq_true_iff]
theorem digs_d8 {l : List Int} (h : 0 ≤ d8 l) : digs (d8 l) = l ∧ d8 l ≤ 255 := by
  unfold d8 at h ⊢
  by_cases h1 : l.length = 0 ∨ 3 < l.length ∨ (1 < l.length ∧ l.headD 0 = 48)
  · rw [if_pos h1] at h; omega
  · rw [if_neg h1] at h ⊢
    by_cases h2 : l.all digit = true
    · rw [if_pos h2] at h ⊢
      by_cases h3 : dval l ≤ 255
      · rw [if_pos h3] at h ⊢
        refine ⟨?_, h3⟩
        match l, h1, h2, h3 with
        | [], h1, _, _ => simp at h1
        | [a], h1, h2, h3 =>
          simp only [List.all_cons, List.all_nil, Bool.and_true, digit_iff] at h2
          simp only [dval, List.foldl_cons, List.foldl_nil] at h3 ⊢
          unfold digs
          rw [if_pos (by omega)]
          congr 1; omega
        | [a, b], h1, h2, h3 =>
          simp only [List.all_cons, List.all_nil, Bool.and_true, Bool.and_eq_true, digit_iff] at h2
          simp only [List.length_cons, List.length_nil, List.headD_cons] at h1
          simp only [dval, List.foldl_cons, List.foldl_nil] at h3 ⊢
          unfold digs
          rw [if_neg (by omega), if_pos (by omega)]
          congr 1
          · omega
          · congr 1; omega
        | [a, b, c], h1, h2, h3 =>
          simp only [List.all_cons, List.all_nil, Bool.and_true, Bool.and_eq_true, digit_iff] at h2
          simp only [List.length_cons, List.length_nil, List.headD_cons] at h1
          simp only [dval, List.foldl_cons, List.foldl_nil] at h3 ⊢
          unfold digs
          rw [if_neg (by omega), if_neg (by omega)]
          congr 1
          · omega
          · congr 1
            · omega
            · congr 1; omega
        | _ :: _ :: _ :: _ :: _, h1, _, _ => simp only [List.length_cons] at h1; omega
      · rw [if_neg h3] at h; omega
    · rw [if_neg h2] at h; omega
theorem d8_iff {n : Int} {l : List Int} (h0 : 0 ≤ n) (h1 : n ≤ 255) : digs n = l ↔ d8 l = n := by
  constructor
  · intro h; rw [← h]; exact d8_digs h0 h1
  · intro h
    have := (digs_d8 (l := l) (by omega)).1
    rw [h] at this; exact this
theorem dval_nonneg {l : List Int} (h : l.all digit = true) : 0 ≤ dval l := by
  have key : ∀ (l : List Int) (n : Int), 0 ≤ n → l.all digit = true → 0 ≤ l.foldl (fun n b => 10 * n + (b - 48)) n := by
    intro l
    induction l with
    | nil => intro n hn _; exact hn
    | cons b t ih =>
      intro n hn h
      rw [List.all_cons, Bool.and_eq_true, digit_iff] at h
      exact ih _ (by show 0 ≤ 10 * n + (b - 48); omega) h.2
  exact key l 0 (by omega) h
theorem d8_range (l : List Int) : -1 ≤ d8 l ∧ d8 l ≤ 255 := by
  by_cases h : 0 ≤ d8 l
  · have := (digs_d8 h).2; omega
  · unfold d8 at h ⊢
    by_cases h1 : l.length = 0 ∨ 3 < l.length ∨ (1 < l.length ∧ l.headD 0 = 48)
    · rw [if_pos h1]; omega
    · rw [if_neg h1] at h ⊢
      by_cases h2 : l.all digit = true
      · rw [if_pos h2] at h ⊢
        by_cases h3 : dval l ≤ 255
        · rw [if_pos h3] at h ⊢
          have key := dval_nonneg h2
          omega
        · rw [if_neg h3]; omega
      · rw [if_neg h2]; omega
def v4 (l : List Int) : Option (Int × Int × Int × Int) :=
  match splitC 46 l with
  | [a, b, c, d] => if 0 ≤ d8 a ∧ 0 ≤ d8 b ∧ 0 ≤ d8 c ∧ 0 ≤ d8 d then some (d8 a, d8 b, d8 c, d8 d) else none
  | _ => none
theorem v4_dot {l : List Int} (h : 46 ∉ l) : v4 l = none := by
  unfold v4
  rw [splitC_none h]
theorem v4_range {l : List Int} {a b c d : Int} (h : v4 l = some (a, b, c, d)) : (0 ≤ a ∧ a ≤ 255) ∧ (0 ≤ b ∧ b ≤ 255) ∧ (0 ≤ c ∧ c ≤ 255) ∧ 0 ≤ d ∧ d ≤ 255 := by
  unfold v4 at h
  split at h
  · rename_i x y z w _
    split at h
    · simp only [Option.some.injEq, Prod.mk.injEq] at h
      obtain ⟨rfl, rfl, rfl, rfl⟩ := h
      have := d8_range x
      have := d8_range y
      have := d8_range z
      have := d8_range w
      omega
    · cases h
  · cases h
def hval (n : Int) : List Int → Int
  | [] => n
  | b :: t => hval (16 * n + hv b) t
def word (l : List Int) : Int := if l.length = 0 ∨ 4 < l.length then -1 else if l.all hexd then hval 0 l else -1
theorem hval_range : ∀ (l : List Int) (n m : Int), l.all hexd = true → 0 ≤ n → n < m → 0 ≤ hval n l ∧ hval n l < m * 16 ^ l.length := by
  intro l
  induction l with
  | nil => intro n m _ h0 h1; simp [hval]; omega
  | cons b t ih =>
    intro n m h h0 h1
    rw [List.all_cons, Bool.and_eq_true, ← hv_hexd] at h
    have hr := hv_range b
    have := ih (16 * n + hv b) (16 * m) h.2 (by omega) (by omega)
    refine ⟨this.1, Int.lt_of_lt_of_le this.2 ?_⟩
    rw [List.length_cons, Int.pow_succ]
    have : 16 * m * 16 ^ t.length = m * (16 ^ t.length * 16) := by
      rw [Int.mul_comm 16 m, Int.mul_assoc, Int.mul_comm 16]
    omega
theorem word_all {l : List Int} (h : 0 ≤ word l) : l.all hexd = true ∧ 1 ≤ l.length ∧ l.length ≤ 4 := by
  unfold word at h
  by_cases h1 : l.length = 0 ∨ 4 < l.length
  · rw [if_pos h1] at h; omega
  · rw [if_neg h1] at h
    by_cases h2 : l.all hexd = true
    · exact ⟨h2, by omega, by omega⟩
    · rw [if_neg h2] at h; omega
def words (fin : Bool) : List (List Int) → Option (List Int)
  | [] => some []
  | p :: r => if r = [] ∧ fin = true ∧ (v4 p).isSome then (v4 p).map fun x => [256 * x.1 + x.2.1, 256 * x.2.2.1 + x.2.2.2]
    else if word p < 0 then none else (words fin r).map fun l => word p :: l
theorem words_cons (fin : Bool) (p : List Int) (r : List (List Int)) : words fin (p :: r) = if r = [] ∧ fin = true ∧ (v4 p).isSome then (v4 p).map fun x => [256 * x.1 + x.2.1, 256 * x.2.2.1 + x.2.2.2]
    else if word p < 0 then none else (words fin r).map fun l => word p :: l := rfl
theorem words_len {fin : Bool} {r : List (List Int)} {l : List Int} (h : words fin r = some l) : l.length ≤ r.length + 1 := by
  induction r generalizing l with
  | nil => simp [words] at h; subst h; simp
  | cons p r ih =>
    rw [words_cons] at h
    split at h
    · obtain ⟨x, _, rfl⟩ := Option.map_eq_some_iff.1 h
      simp
    · split at h
      · cases h
      · obtain ⟨x, hx, rfl⟩ := Option.map_eq_some_iff.1 h
        have := ih hx
        simp only [List.length_cons]; omega
theorem words_nodot {r : List (List Int)} (h : ∀ p ∈ r, (46 : Int) ∉ p) (fin : Bool) : words fin r = words false r := by
  induction r with
  | nil => rfl
  | cons p r ih =>
    have hp := v4_dot (h p (List.mem_cons_self ..))
    rw [words_cons, words_cons, ih (fun q hq => h q (List.mem_cons_of_mem _ hq)), hp]
    simp
theorem words_hex {r : List (List Int)} {l : List Int} (h : words false r = some l) : ∀ p ∈ r, (46 : Int) ∉ p ∧ p.all hexd = true := by
  induction r generalizing l with
  | nil => simp
  | cons p r ih =>
    rw [words_cons, if_neg (by simp)] at h
    split at h
    · cases h
    · rename_i hw
      obtain ⟨x, hx, rfl⟩ := Option.map_eq_some_iff.1 h
      intro q hq
      rcases List.mem_cons.1 hq with rfl | hq
      · have := (word_all (l := q) (by omega)).1
        refine ⟨fun hm => ?_, this⟩
        have := List.all_eq_true.1 this _ hm
        simp [hexd] at this
      · exact ih hx q hq
def rowS (fin : Bool) (l : List Int) : Option (List Int) := if l = [] then some [] else words fin (splitC 58 l)
def v6 (l : List Int) : Option (List Int) :=
  if sidx [58, 58] l < 0 then (rowS true l).bind fun w => if w.length = 8 then some w else none
  else (rowS false (l.take (sidx [58, 58] l).toNat)).bind fun a => (rowS true (l.drop ((sidx [58, 58] l).toNat + 2))).bind fun b =>
    if a.length + b.length ≤ 7 then some (a ++ List.replicate (8 - a.length - b.length) 0 ++ b) else none
def fut : List Int → Bool
  | [] => false
  | v :: t => (v == 118 || v == 86) && decide (0 < spanp hexd t) && decide (2 ≤ (t.drop (spanp hexd t)).length) && ((t.drop (spanp hexd t)).headD 0 == 46) && ((t.drop (spanp hexd t)).tail.all fun b => plainAt 1 b)
def brack (l : List Int) : Bool := decide (2 ≤ l.length) && (l.headD 0 == 91) && (l.getLastD 0 == 93)
def hostK (iri : Bool) (l : List Int) : Int :=
  if brack l then (if (v6 ((l.take (l.length - 1)).drop 1)).isSome || fut ((l.take (l.length - 1)).drop 1) then 3 else 0)
  else if (v4 l).isSome then 1 else if allAt 2 iri l then 2 else 0
end Go.Proofs.YticohlbfolnmpaaDoor.M
namespace Go.Proofs.YticohlbfolnmpaaDoor.Y
open Go.RowKit Go.Proofs.YticohlbfolnmpaaDoor.X Go.Proofs.YticohlbfolnmpaaDoor.M Go.Proofs.YticohlbfolnmpaaDoorW.PrintWords Go.Proofs.YticohlbfolnmpaaDoorW.PrintLast Go.Proofs.YticohlbfolnmpaaDoorW.PrintMore
theorem class_f {b : Int} (h0 : 0 ≤ b) (h1 : b ≤ 255) : Ev (fun k => octet_Class.f k b) (cls b) :=
  Ev.of (fun k => octet_Class.mono b k) (k := 12) (byte_all (p := fun b => octet_Class.f 12 b = some (cls b)) (by decide +kernel) h0 h1)
theorem is_f {b : Int} (c : Int) (h0 : 0 ≤ b) (h1 : b ≤ 255) : Ev (fun k => octet_Is.f k b c) (isc b c) := Ev.bind' (class_f h0 h1) (Ev.now _)
theorem value_f {b : Int} (h0 : 0 ≤ b) (h1 : b ≤ 255) : Ev (fun k => octet_Value.f k b) (if hv b < 0 then (0, false) else (hv b, true)) :=
  Ev.of (fun k => octet_Value.mono b k) (k := 14) (byte_all (p := fun b => octet_Value.f 14 b = some (if hv b < 0 then (0, false) else (hv b, true))) (by decide +kernel) h0 h1)
theorem refClass_f {b : Int} (h0 : 0 ≤ b) (h1 : b ≤ 255) : Ev (fun k => monikerref01_Class.f k b) (cls b) :=
  Ev.of (fun k => monikerref01_Class.mono b k) (k := 60) (byte_all (p := fun b => monikerref01_Class.f 60 b = some (cls b)) (by decide +kernel) h0 h1)
theorem refValue_f {b : Int} (h0 : 0 ≤ b) (h1 : b ≤ 255) : Ev (fun k => monikerref01_Value.f k b) (hv b) :=
  Ev.of (fun k => monikerref01_Value.mono b k) (k := 20) (byte_all (p := fun b => monikerref01_Value.f 20 b = some (hv b)) (by decide +kernel) h0 h1)
theorem at_or_end (s : ByteArray) (n : Nat) (h : n ≤ s.size) : (n = s.size ∧ (bytesOf s).drop n = []) ∨ (n < s.size ∧ (bytesOf s).drop n = bt s (n : Int) :: (bytesOf s).drop (n + 1) ∧ 0 ≤ bt s (n : Int) ∧ bt s (n : Int) ≤ 255) := by
  rcases Nat.lt_or_ge n s.size with h1 | h1
  · right
    have hl : n < (bytesOf s).length := by rw [bytes_len]; exact h1
    refine ⟨h1, ?_, (bt_rng s n).1, (bt_rng s n).2⟩
    rw [List.drop_eq_getElem_cons hl, bt_getD, List.getD_eq_getElem?_getD, List.getElem?_eq_getElem hl]
    rfl
  · left
    exact ⟨by omega, List.drop_of_length_le (by rw [bytes_len]; exact h1)⟩
theorem at_begin (s : ByteArray) : (s.size = 0 ∧ bytesOf s = []) ∨ (0 < s.size ∧ bytesOf s = bt s 0 :: (bytesOf s).drop 1 ∧ 0 ≤ bt s 0 ∧ bt s 0 ≤ 255) := by
  have := at_or_end s 0 (by omega)
  rw [List.drop_zero] at this
  rcases this with ⟨h, e⟩ | h
  · exact .inl ⟨h.symm, e⟩
  · exact .inr h
theorem octSpan_l0 (s : ByteArray) (c : Int) (hs : s.size ≤ 140737488351232) : ∀ d n : Nat, n + d = s.size → Ev (fun k => octet_Span.l0 k s c (s.size : Int) (n : Int)) ((n : Int) + spanp (fun b => isc b c) ((bytesOf s).drop n)) := by
  intro d
  induction d with
  | zero =>
    intro n hn
    refine Ev.step (fun k => rfl) ?_
    refine Ev.ite_neg (by omega) ?_
    rw [List.drop_of_length_le (by rw [bytes_len]; omega)]
    have : ((n : Int) + ((spanp (fun b => isc b c) [] : Nat) : Int)) = (s.size : Int) := by simp [spanp]; omega
    rw [this]
    exact Ev.now _
  | succ d ih =>
    intro n hn
    rcases at_or_end s n (by omega) with ⟨h, _⟩ | ⟨h, e, b0, b1⟩
    · omega
    refine Ev.step (fun k => rfl) ?_
    refine Ev.ite_pos (by omega) (Ev.ite_pos (by omega) (Ev.ite_pos (by omega) (Ev.bind' (is_f c b0 b1) ?_)))
    rw [e]
    cases hb : isc (bt s n) c
    · refine Ev.ite_neg (by simp) ?_
      simp only [spanp, hb, Bool.false_eq_true, if_false]
      exact Ev.now _
    · refine Ev.ite_pos rfl ?_
      rw [w64 (by omega) (by omega)]
      have := ih (n + 1) (by omega)
      simp only [spanp, hb, if_true]
      have e2 : ((n : Int) + ((spanp (fun b => isc b c) ((bytesOf s).drop (n + 1)) + 1 : Nat) : Int)) = ((n + 1 : Nat) : Int) + (spanp (fun b => isc b c) ((bytesOf s).drop (n + 1)) : Int) := by omega
      rw [e2]
      exact this
theorem octSpan_f (s : ByteArray) (c : Int) (hs : s.size ≤ 140737488351232) : Ev (fun k => octet_Span.f k s c) (spanp (fun b => isc b c) (bytesOf s) : Int) := by
  have := octSpan_l0 s c hs s.size 0 (by omega)
  unfold octet_Span.f
  simpa using this
theorem in_l0 (c : Int) (s : ByteArray) (hs : s.size ≤ 140737488351232) : ∀ d n : Nat, n + d = s.size → Ev (fun k => monikerref01_In.l0 k c s (n : Int)) (((bytesOf s).drop n).contains c) := by
  intro d
  induction d with
  | zero =>
    intro n hn
    refine Ev.step (fun k => rfl) (Ev.ite_neg (by omega) ?_)
    rw [List.drop_of_length_le (by rw [bytes_len]; omega)]
    exact Ev.now _
  | succ d ih =>
    intro n hn
    rcases at_or_end s n (by omega) with ⟨h, _⟩ | ⟨h, e, b0, b1⟩
    · omega
    refine Ev.step (fun k => rfl) (Ev.ite_pos (by omega) (Ev.ite_pos (by omega) ?_))
    rw [e, List.contains_cons]
    by_cases hb : bt s n = c
    · refine Ev.ite_pos hb ?_
      rw [hb]
      simp only [beq_self_eq_true, Bool.true_or]
      exact Ev.now _
    · refine Ev.ite_neg hb ?_
      rw [w64 (by omega) (by omega)]
      have : (c == bt s n) = false := by simpa using fun h => hb h.symm
      rw [this, Bool.false_or]
      exact ih (n + 1) (by omega)
theorem in_f (c : Int) (s : ByteArray) (hs : s.size ≤ 140737488351232) : Ev (fun k => monikerref01_In.f k c s) ((bytesOf s).contains c) := in_l0 c s hs s.size 0 (by omega)
end Go.Proofs.YticohlbfolnmpaaDoor.Y
namespace Go.Proofs.YticohlbfolnmpaaDoor.Y
open Go.RowKit Go.Proofs.YticohlbfolnmpaaDoor.X Go.Proofs.YticohlbfolnmpaaDoor.M Go.Proofs.YticohlbfolnmpaaDoorW.PrintWords Go.Proofs.YticohlbfolnmpaaDoorW.PrintLast Go.Proofs.YticohlbfolnmpaaDoorW.PrintMore
set_option linter.unusedVariables false
theorem split_f (s sep : ByteArray) (c : Int) (hsep : bytesOf sep = [c]) (hs : s.size < 4294967281) : ∃ R : List ByteArray, strings_Split.f s sep = some R ∧ R.map bytesOf = splitC c (bytesOf s) := by
  have h1 : sep.size = 1 := by rw [← bytes_len, hsep]; rfl
  refine ⟨_, ?_, splitB_splitC c sep hsep _ s rfl⟩
  unfold strings_Split.f
  rw [if_pos ⟨hs, by omega⟩]
theorem strCut_f (s sep : ByteArray) (hs : s.size < 4294967281) (h1 : sep.size ≤ 1000) : strings_Cut.f s sep = some (if sidx (bytesOf sep) (bytesOf s) < 0 then (s, (⟨#[]⟩ : ByteArray), false)
    else (s.extract 0 (sidx (bytesOf sep) (bytesOf s)).toNat, s.extract ((sidx (bytesOf sep) (bytesOf s)).toNat + sep.size) s.size, true)) := by
  unfold strings_Cut.f stringslite_Cut.f stringslite_Index.f
  rw [if_pos hs]
  have e : Go.Lib.index s.data.toList sep.data.toList = sidx (bytesOf sep) (bytesOf s) := index_sidx _ _
  rw [e]
  simp only [Option.bind_some]
  by_cases h : sidx (bytesOf sep) (bytesOf s) < 0
  · rw [if_neg (by omega), if_pos h]; rfl
  · have hsp := sidx_split (sub := bytesOf sep) (l := bytesOf s) (by omega)
    rw [bytes_len, bytes_len] at hsp
    rw [if_pos (by omega), if_pos (by omega), if_pos (by omega), w64 (by omega) (by omega), if_pos (by omega), if_pos (by omega), if_neg h]
    simp only [Option.bind_some]
    have : (sidx (bytesOf sep) (bytesOf s) + (sep.size : Int)).toNat = (sidx (bytesOf sep) (bytesOf s)).toNat + sep.size := by omega
    rw [this]
theorem getLast_rdOf (pre : List ByteArray) (x : ByteArray) : rdOf ByteArray.empty (pre ++ [x]) (((pre ++ [x]).length : Int) - 1) = x := by
  unfold rdOf
  rw [List.length_append, List.length_singleton]
  have : (((pre.length + 1 : Nat) : Int) - 1).toNat = pre.length := by omega
  rw [this]
  simp
theorem parts_l0 (s : ByteArray) (c : Int) (hs : s.size ≤ 1000000) : ∀ d i : Nat, i + d = s.size → ∀ (pre : List ByteArray) (x : ByteArray), pre.length ≤ i → x.size ≤ i →
    ∃ R, Ev (fun k => monikerref19_Parts.l0 k s c (pre ++ [x]) (i : Int)) R ∧ R.map bytesOf = pre.map bytesOf ++ (bytesOf x ++ (splitC c ((bytesOf s).drop i)).headD []) :: (splitC c ((bytesOf s).drop i)).tail := by
  intro d
  induction d with
  | zero =>
    intro i hi pre x hp hx
    refine ⟨pre ++ [x], ?_, ?_⟩
    · refine Ev.step (fun k => by rw [monikerref19_Parts.l0]) ?_
      exact Ev.ite_neg (by omega) (Ev.now _)
    · rw [List.drop_of_length_le (by rw [bytes_len]; omega)]
      simp [splitC]
  | succ d ih =>
    intro i hi pre x hp hx
    rcases at_or_end s i (by omega) with ⟨h, _⟩ | ⟨h, e, b0, b1⟩
    · omega
    rw [e, splitC_cons]
    by_cases hb : bt s (i : Int) = c
    · obtain ⟨R, h1, h2⟩ := ih (i + 1) (by omega) (pre ++ [x]) (⟨#[]⟩ : ByteArray) (by rw [List.length_append]; simp; omega) (by show 0 ≤ _; omega)
      refine ⟨R, ?_, ?_⟩
      · refine Ev.step (fun k => by rw [monikerref19_Parts.l0]) ?_
        refine Ev.ite_pos (by omega) (Ev.ite_pos (by omega) (Ev.ite_pos hb (Ev.ite_pos (by rw [List.length_append]; simp; omega) ?_)))
        rw [w64 (by omega) (by omega)]
        exact h1
      · rw [h2, if_pos hb]
        have : bytesOf (⟨#[]⟩ : ByteArray) = [] := rfl
        rw [this, List.map_append]
        simp only [List.map_cons, List.map_nil, List.nil_append, List.headD_cons, List.tail_cons, List.append_nil, List.append_assoc, List.singleton_append]
        rw [← splitC_head]
    · have hx1 : (s.extract i (i + 1)).size = 1 := by rw [← bytes_len, bytes_extract, List.length_drop, List.length_take, bytes_len]; omega
      have hsz : (x ++ s.extract i (i + 1)).size = x.size + 1 := by
        rw [ByteArray.size_append, hx1]
      obtain ⟨R, h1, h2⟩ := ih (i + 1) (by omega) pre (x ++ s.extract i (i + 1)) (by omega) (by omega)
      refine ⟨R, ?_, ?_⟩
      · refine Ev.step (fun k => by rw [monikerref19_Parts.l0]) ?_
        have hl : (pre ++ [x]).length = pre.length + 1 := by simp
        rw [w64 (x := ((pre ++ [x]).length : Int) - 1) (by omega) (by omega), w64 (x := (i : Int) + 1) (by omega) (by omega), getLast_rdOf]
        have e1 : ((i : Int) + 1).toNat = i + 1 := by omega
        have e2 : (((pre ++ [x]).length : Int) - 1).toNat = pre.length := by omega
        rw [e1, e2, Int.toNat_natCast, hx1]
        refine Ev.ite_pos (by omega) (Ev.ite_pos (by omega) (Ev.ite_neg hb (Ev.ite_pos (by omega) (Ev.ite_pos (by omega) (Ev.ite_pos (by omega) (Ev.ite_pos (by omega) (Ev.ite_pos (by omega) ?_)))))))
        have e3 : (pre ++ [x]).set pre.length (x ++ s.extract i (i + 1)) = pre ++ [x ++ s.extract i (i + 1)] := by simp
        rw [e3]
        exact h1
      · rw [h2, if_neg hb, bytes_append, bytes_extract]
        have : ((bytesOf s).take (i + 1)).drop i = [bt s (i : Int)] := by
          rw [List.drop_take, e, show i + 1 - i = 1 by omega, List.take_succ_cons, List.take_zero]
        rw [this]
        simp
theorem parts_f (s : ByteArray) (c : Int) (hs : s.size ≤ 1000000) : ∃ R, Ev (fun k => monikerref19_Parts.f k s c) R ∧ R.map bytesOf = splitC c (bytesOf s) := by
  obtain ⟨R, h1, h2⟩ := parts_l0 s c hs s.size 0 (by omega) [] (⟨#[]⟩ : ByteArray) (by simp) (by show 0 ≤ _; omega)
  refine ⟨R, h1, ?_⟩
  rw [h2, List.drop_zero]
  have : bytesOf (⟨#[]⟩ : ByteArray) = [] := rfl
  rw [this]
  simp only [List.map_nil, List.nil_append]
  rw [← splitC_head]
theorem rdOf_map {R : List ByteArray} {L : List (List Int)} (h : R.map bytesOf = L) (i : Nat) : bytesOf (rdOf ByteArray.empty R (i : Int)) = L.getD i [] := by
  subst h
  unfold rdOf
  rw [Int.toNat_natCast, List.getD_eq_getElem?_getD, List.getD_eq_getElem?_getD, List.getElem?_map]
  cases R[i]? with
  | none => rfl
  | some x => rfl
end Go.Proofs.YticohlbfolnmpaaDoor.Y
namespace Go.Proofs.YticohlbfolnmpaaDoor.Y
open Go.RowKit Go.Proofs.YticohlbfolnmpaaDoor.X Go.Proofs.YticohlbfolnmpaaDoor.M Go.Proofs.YticohlbfolnmpaaDoorW.PrintWords Go.Proofs.YticohlbfolnmpaaDoorW.PrintLast Go.Proofs.YticohlbfolnmpaaDoorW.PrintMore
set_option linter.unusedVariables false
theorem shape_f {b : Int} (h0 : 0 ≤ b) (h1 : b ≤ 255) : Ev (fun k => utf_shape.f k b) (shp b) :=
  Ev.of (fun k => utf_shape.mono b k) (k := 6) (byte_all (p := fun b => utf_shape.f 6 b = some (shp b)) (by decide +kernel) h0 h1)
theorem front_l0 (s : ByteArray) (hs : s.size ≤ 140737488351232) (n : Nat) (_ : n ≤ 4) : ∀ d i : Nat, ∀ lo hi : Int, i + d = n → Ev (fun k => utf_front.l0 k s (n : Int) lo hi (i : Int)) ((i : Int) + conts (n - i) lo hi ((bytesOf s).drop i), (n : Int)) := by
  intro d
  induction d with
  | zero =>
    intro i lo hi hi2
    refine Ev.step (fun k => rfl) (Ev.ite_neg (by omega) ?_)
    rw [show n - i = 0 by omega, conts_one]
    simp only [Int.natCast_zero, Int.add_zero]
    exact Ev.now _
  | succ d ih =>
    intro i lo hi hi2
    refine Ev.step (fun k => rfl) (Ev.ite_pos (by omega) ?_)
    rw [show n - i = (n - (i + 1)) + 1 by omega]
    rcases Nat.lt_or_ge i s.size with h | h
    · rcases at_or_end s i (by omega) with ⟨h2, _⟩ | ⟨_, e, b0, b1⟩
      · omega
      refine Ev.ite_pos (by omega) (Ev.ite_pos (by omega) ?_)
      rw [e]
      by_cases h1 : lo ≤ bt s i
      · refine Ev.ite_pos h1 ?_
        by_cases h2 : bt s i ≤ hi
        · refine Ev.ite_pos h2 ?_
          rw [w64 (by omega) (by omega)]
          unfold conts
          rw [if_pos ⟨h1, h2⟩]
          have := ih (i + 1) 128 191 (by omega)
          have e3 : ((i : Int) + ((conts (n - (i + 1)) 128 191 ((bytesOf s).drop (i + 1)) + 1 : Nat) : Int), (n : Int)) = (((i + 1 : Nat) : Int) + (conts (n - (i + 1)) 128 191 ((bytesOf s).drop (i + 1)) : Int), (n : Int)) := by
            congr 1; omega
          rw [e3]
          exact this
        · refine Ev.ite_neg h2 ?_
          unfold conts
          rw [if_neg (fun x => h2 x.2)]
          simp only [Int.natCast_zero, Int.add_zero]
          exact Ev.now _
      · refine Ev.ite_neg h1 ?_
        unfold conts
        rw [if_neg (fun x => h1 x.1)]
        simp only [Int.natCast_zero, Int.add_zero]
        exact Ev.now _
    · refine Ev.ite_neg (by omega) ?_
      rw [List.drop_of_length_le (by rw [bytes_len]; exact h)]
      unfold conts
      simp only [Int.natCast_zero, Int.add_zero]
      exact Ev.now _
def frontS : List Int → Int × Int
  | [] => (0, 0)
  | b :: t => if (shp b).1 = 0 then (1, 0) else ((conts ((shp b).1.toNat - 1) (shp b).2.1 (shp b).2.2 t : Int) + 1, (shp b).1)
theorem frontS_cons (b : Int) (t : List Int) : frontS (b :: t) = if (shp b).1 = 0 then (1, 0) else ((conts ((shp b).1.toNat - 1) (shp b).2.1 (shp b).2.2 t : Int) + 1, (shp b).1) := rfl
theorem front_f (s : ByteArray) (hs : s.size ≤ 140737488351232) : Ev (fun k => utf_front.f k s) (frontS (bytesOf s)) := by
  unfold utf_front.f
  rcases at_begin s with ⟨h, e⟩ | ⟨h, e, b0, b1⟩
  · rw [e]
    exact Ev.ite_pos (by omega) (Ev.now _)
  · rw [e, frontS_cons]
    refine Ev.ite_neg (by omega) (Ev.ite_pos (by omega) (Ev.bind' (shape_f b0 b1) ?_))
    by_cases hz : (shp (bt s 0)).1 = 0
    · rw [if_pos hz]
      exact Ev.ite_pos hz (Ev.now _)
    · rw [if_neg hz]
      refine Ev.ite_neg hz ?_
      have hr := shp_range (bt s 0)
      have := front_l0 s hs (shp (bt s 0)).1.toNat (by omega) ((shp (bt s 0)).1.toNat - 1) 1 (shp (bt s 0)).2.1 (shp (bt s 0)).2.2 (by omega)
      rw [Int.toNat_of_nonneg hr.1] at this
      have e3 : ((conts ((shp (bt s 0)).1.toNat - 1) (shp (bt s 0)).2.1 (shp (bt s 0)).2.2 ((bytesOf s).drop 1) : Int) + 1, (shp (bt s 0)).1) = ((((1 : Nat) : Int) + (conts ((shp (bt s 0)).1.toNat - 1) (shp (bt s 0)).2.1 (shp (bt s 0)).2.2 ((bytesOf s).drop 1) : Int)), (shp (bt s 0)).1) := by
        congr 1; omega
      rw [e3]
      exact this
def bnd : Nat → Int
  | 0 => 33554432
  | 1 => 524288
  | 2 => 8192
  | _ => 128
theorem bnd_step {d : Nat} (hd : d < 3) {r c : Int} (h0 : 0 ≤ r) (h : r < bnd (d + 1)) (c0 : 128 ≤ c) (c1 : c ≤ 191) : 0 ≤ r * 64 + (c - 128) ∧ r * 64 + (c - 128) < bnd d ∧ r * 64 < 2147483648 := by
  rcases d with _ | _ | _ | d
  · simp only [bnd] at *; omega
  · simp only [bnd] at *; omega
  · simp only [bnd] at *; omega
  · omega
theorem take_drop_cons {s : ByteArray} {i n : Nat} (h : i < s.size) (hn : i < n) : ((bytesOf s).take n).drop i = bt s (i : Int) :: ((bytesOf s).take n).drop (i + 1) := by
  rcases at_or_end s i (by omega) with ⟨h2, _⟩ | ⟨_, e, b0, b1⟩
  · omega
  · rw [List.drop_take, List.drop_take, e, show n - i = (n - (i + 1)) + 1 by omega, List.take_succ_cons]
theorem decode_l0 (s : ByteArray) (hs : s.size ≤ 140737488351232) (n : Nat) (hn : n ≤ s.size) : ∀ d i : Nat, ∀ r : Int, i + d = n → d ≤ 3 → 0 ≤ r → r < bnd d → (∀ c ∈ ((bytesOf s).take n).drop i, 128 ≤ c ∧ c ≤ 191) →
    Ev (fun k => utf_Decode.l0 k s r (n : Int) (i : Int)) (accum r (((bytesOf s).take n).drop i), (n : Int), true) := by
  intro d
  induction d with
  | zero =>
    intro i r hi _ _ _ _
    refine Ev.step (fun k => rfl) (Ev.ite_neg (by omega) ?_)
    rw [List.drop_of_length_le (by rw [List.length_take, bytes_len]; omega)]
    exact Ev.now _
  | succ d ih =>
    intro i r hi hd r0 r1 hc
    have e := take_drop_cons (s := s) (i := i) (n := n) (by omega) (by omega)
    rw [e] at hc ⊢
    obtain ⟨c0, c1⟩ := hc _ (List.mem_cons_self ..)
    have hb := bnd_step (by omega) r0 r1 c0 c1
    refine Ev.step (fun k => rfl) (Ev.ite_pos (by omega) (Ev.ite_pos (by omega) (Ev.ite_pos (by omega) ?_)))
    rw [w64 (by omega) (by omega), u8_and63 _ (by omega) (by omega)]
    have e1 : wrap32 (bt s (i : Int) % 64) = bt s (i : Int) % 64 := by unfold wrap32; omega
    have e2 : wrap32 (r * 64) = r * 64 := by unfold wrap32; omega
    rw [e1, e2, i32_or6 _ _ (by omega) (by omega) (by omega) (by omega) (by omega)]
    have e3 : r * 64 + bt s (i : Int) % 64 = r * 64 + (bt s (i : Int) - 128) := by omega
    rw [e3]
    exact ih (i + 1) _ (by omega) (by omega) hb.1 hb.2.1 (fun c h => hc c (List.mem_cons_of_mem _ h))
theorem and_mask {b : Int} (h0 : 0 ≤ b) (h1 : b ≤ 255) : (b < 128 → Go.bits .and .u8 b 127 = b) ∧ Go.bits .and .u8 b 31 = b % 32 ∧ Go.bits .and .u8 b 15 = b % 16 ∧ Go.bits .and .u8 b 7 = b % 8 :=
  ⟨byte_all (p := fun b => b < 128 → Go.bits .and .u8 b 127 = b) (by decide +kernel) h0 h1, u8_and31 _ (by omega) (by omega), u8_and15 _ (by omega) (by omega), u8_and7 _ (by omega) (by omega)⟩
theorem lead_mask {b : Int} (h0 : 0 ≤ b) (h1 : b ≤ 255) : ((shp b).1 = 1 → b < 128 ∧ lead (shp b).1 b = b) ∧ ((shp b).1 = 2 → b % 32 = lead (shp b).1 b) ∧ ((shp b).1 = 3 → b % 16 = lead (shp b).1 b) ∧ ((shp b).1 = 4 → b % 8 = lead (shp b).1 b) :=
  byte_all (p := fun b => ((shp b).1 = 1 → b < 128 ∧ lead (shp b).1 b = b) ∧ ((shp b).1 = 2 → b % 32 = lead (shp b).1 b) ∧ ((shp b).1 = 3 → b % 16 = lead (shp b).1 b) ∧ ((shp b).1 = 4 → b % 8 = lead (shp b).1 b)) (by decide +kernel) h0 h1
theorem decode_f (s : ByteArray) (hs : s.size ≤ 140737488351232) : Ev (fun k => utf_Decode.f k s) (dec (bytesOf s)) := by
  unfold utf_Decode.f
  refine Ev.bind' (front_f s hs) ?_
  rcases at_begin s with ⟨h, e⟩ | ⟨h, e, b0, b1⟩
  · rw [e]
    refine Ev.ite_pos (by simp [frontS]) ?_
    refine Ev.step (fun k => by rw [utf_Decode.j0]) ?_
    exact Ev.ite_pos rfl (Ev.now _)
  · have hr := shp_range (bt s 0)
    rw [e, frontS_cons, dec_cons]
    by_cases hz : (shp (bt s 0)).1 = 0
    · simp only [if_pos hz]
      refine Ev.ite_pos (by simp) ?_
      refine Ev.step (fun k => by rw [utf_Decode.j0]) ?_
      exact Ev.ite_pos rfl (Ev.now _)
    · simp only [if_neg hz]
      have hcl := conts_le ((shp (bt s 0)).1.toNat - 1) (shp (bt s 0)).2.1 (shp (bt s 0)).2.2 ((bytesOf s).drop 1)
      have hcm : 2 ≤ (shp (bt s 0)).1 → ∀ c ∈ ((bytesOf s).drop 1).take (conts ((shp (bt s 0)).1.toNat - 1) (shp (bt s 0)).2.1 (shp (bt s 0)).2.2 ((bytesOf s).drop 1)), 128 ≤ c ∧ c ≤ 191 :=
        fun h2 => conts_mem _ _ _ (shp_bounds h2).1 (shp_bounds h2).2 _
      rw [List.length_drop, bytes_len] at hcl
      revert hcl hcm
      generalize conts ((shp (bt s 0)).1.toNat - 1) (shp (bt s 0)).2.1 (shp (bt s 0)).2.2 ((bytesOf s).drop 1) = m
      intro hcl hcm
      refine Ev.step (fun k => by rw [utf_Decode.j0]) ?_
      by_cases hlt : (m : Int) + 1 < (shp (bt s 0)).1
      · rw [if_pos hlt]
        exact Ev.ite_pos (by simpa using hlt) (Ev.now _)
      · rw [if_neg hlt]
        refine Ev.ite_neg (by simpa using hlt) (Ev.ite_pos (by omega) (Ev.ite_pos (by omega) ?_))
        have hm : m = (shp (bt s 0)).1.toNat - 1 := by omega
        have hl := shp_lead b0 b1 (by omega)
        have hmk := lead_mask b0 b1
        have ham := and_mask b0 b1
        have key : ∀ n : Nat, (n : Int) = (shp (bt s 0)).1 → 1 ≤ n → ∀ r : Int, r = lead (shp (bt s 0)).1 (bt s 0) → Ev (fun k => utf_Decode.l0 k s r (shp (bt s 0)).1 1) (accum (lead (shp (bt s 0)).1 (bt s 0)) (((bytesOf s).drop 1).take ((shp (bt s 0)).1.toNat - 1)), (shp (bt s 0)).1, true) := by
          intro n hn h1n r hrl
          have hbn : r < bnd (n - 1) := by
            rw [hrl]
            rcases n with _ | _ | _ | _ | _ | n
            · omega
            · exact Int.lt_of_lt_of_le hl.2 (by decide)
            · exact Int.lt_of_lt_of_le hl.2 (by decide)
            · exact Int.lt_of_lt_of_le hl.2 (by decide)
            · exact Int.lt_of_lt_of_le hl.2 (by decide)
            · omega
          have := decode_l0 s hs n (by omega) (n - 1) 1 r (by omega) (by omega) (by omega) hbn (by
            intro c hc
            rw [List.drop_take] at hc
            by_cases h2 : 2 ≤ (shp (bt s 0)).1
            · exact hcm h2 c (by rw [hm, ← hn, Int.toNat_natCast]; exact hc)
            · rw [show n - 1 = 0 by omega] at hc
              simp at hc)
          rw [hn, List.drop_take] at this
          rw [← hrl, show (shp (bt s 0)).1.toNat - 1 = n - 1 by omega]
          exact this
        refine Ev.ite_neg hz ?_
        by_cases h1 : (shp (bt s 0)).1 = 1
        · refine Ev.ite_pos h1 ?_
          refine key 1 (by omega) (by omega) _ ?_
          rw [ham.1 (hmk.1 h1).1, (hmk.1 h1).2]
          have := (hmk.1 h1).1
          unfold wrap32; omega
        refine Ev.ite_neg h1 ?_
        by_cases h2 : (shp (bt s 0)).1 = 2
        · refine Ev.ite_pos h2 ?_
          refine key 2 (by omega) (by omega) _ ?_
          rw [ham.2.1, hmk.2.1 h2]
          unfold wrap32; omega
        refine Ev.ite_neg h2 ?_
        by_cases h3 : (shp (bt s 0)).1 = 3
        · refine Ev.ite_pos h3 ?_
          refine key 3 (by omega) (by omega) _ ?_
          rw [ham.2.2.1, hmk.2.2.1 h3]
          unfold wrap32; omega
        have h4 : (shp (bt s 0)).1 = 4 := by omega
        refine Ev.ite_neg h3 (Ev.ite_pos h4 ?_)
        refine key 4 (by omega) (by omega) _ ?_
        rw [ham.2.2.2, hmk.2.2.2 h4]
        unfold wrap32; omega
def fitsS (f0 f1 s0 s1 : Int) (n : Nat) : List Int → Nat
  | [] => 0
  | b :: t => if f0 ≤ b ∧ b ≤ f1 then conts (n - 1) s0 s1 t + 1 else 0
theorem fitsS_cons (f0 f1 s0 s1 : Int) (n : Nat) (b : Int) (t : List Int) : fitsS f0 f1 s0 s1 n (b :: t) = if f0 ≤ b ∧ b ≤ f1 then conts (n - 1) s0 s1 t + 1 else 0 := rfl
theorem fits_l0 (s : ByteArray) (hs : s.size ≤ 140737488351232) (f0 f1 s0 s1 : Int) (n : Nat) (hn : n ≤ 4) : ∀ d i : Nat, ∀ lo hi : Int, i + d = n → 1 ≤ i → (i = 1 → lo = s0 ∧ hi = s1) → (i ≠ 1 → lo = 128 ∧ hi = 191) →
    Ev (fun k => monikerref02_fits.l0 k s (i : Int) f0 f1 s0 s1 (n : Int)) ((i : Int) + conts (n - i) lo hi ((bytesOf s).drop i)) := by
  intro d
  induction d with
  | zero =>
    intro i lo hi hi2 h1i hlo hhi
    rw [show n - i = 0 by omega, conts_one]
    simp only [Int.natCast_zero, Int.add_zero]
    refine Ev.step (fun k => by rw [monikerref02_fits.l0]) ?_
    have hd : decide ((i : Int) < (n : Int)) = false := by simp; omega
    rw [hd]
    have fin : Ev (fun k => monikerref02_fits.j1 k s (i : Int) false f0 f1 s0 s1 (n : Int)) (i : Int) := by
      refine Ev.step (fun k => by rw [monikerref02_fits.j1]) ?_
      exact Ev.ite_neg (by simp) (Ev.now _)
    by_cases h : (i : Int) < (s.size : Int)
    · exact Ev.ite_pos h fin
    · exact Ev.ite_neg h fin
  | succ d ih =>
    intro i lo hi hi2 h1i hlo hhi
    refine Ev.step (fun k => by rw [monikerref02_fits.l0]) ?_
    rw [show n - i = (n - (i + 1)) + 1 by omega]
    rcases Nat.lt_or_ge i s.size with h | h
    · rcases at_or_end s i (by omega) with ⟨h2, _⟩ | ⟨_, e, b0, b1⟩
      · omega
      have hd : decide ((i : Int) < (n : Int)) = true := by simp; omega
      rw [hd, e]
      refine Ev.ite_pos (by omega) ?_
      refine Ev.step (fun k => by rw [monikerref02_fits.j1]) ?_
      refine Ev.ite_pos rfl (Ev.ite_neg (by omega) ?_)
      refine Ev.step (fun k => by rw [monikerref02_fits.j2]) ?_
      have hw : wrap64 (bt s (i : Int)) = bt s (i : Int) := w64 (by omega) (by omega)
      have hw2 : wrap64 ((i : Int) + 1) = (i : Int) + 1 := w64 (by omega) (by omega)
      rw [hw, hw2]
      have both : ∀ lo' hi' : Int, lo' = lo → hi' = hi → Ev (fun k => if 0 ≤ (i : Int) then if (i : Int) < (s.size : Int) then if bt s (i : Int) < lo' then some (i : Int) else if bt s (i : Int) > hi' then some (i : Int) else monikerref02_fits.l0 k s ((i : Int) + 1) f0 f1 s0 s1 (n : Int) else none else none)
          ((i : Int) + (conts (n - (i + 1) + 1) lo hi (bt s (i : Int) :: (bytesOf s).drop (i + 1)) : Int)) := by
        intro lo' hi' e1 e2
        subst e1; subst e2
        refine Ev.ite_pos (by omega) (Ev.ite_pos (by omega) ?_)
        unfold conts
        by_cases h1 : bt s (i : Int) < lo'
        · refine Ev.ite_pos h1 ?_
          rw [if_neg (by omega)]
          simp only [Int.natCast_zero, Int.add_zero]
          exact Ev.now _
        · refine Ev.ite_neg h1 ?_
          by_cases h2 : bt s (i : Int) > hi'
          · refine Ev.ite_pos h2 ?_
            rw [if_neg (by omega)]
            simp only [Int.natCast_zero, Int.add_zero]
            exact Ev.now _
          · refine Ev.ite_neg h2 ?_
            rw [if_pos (by omega)]
            have := ih (i + 1) 128 191 (by omega) (by omega) (by omega) (by omega)
            have e3 : ((i : Int) + ((conts (n - (i + 1)) 128 191 ((bytesOf s).drop (i + 1)) + 1 : Nat) : Int)) = (((i + 1 : Nat) : Int) + (conts (n - (i + 1)) 128 191 ((bytesOf s).drop (i + 1)) : Int)) := by omega
            rw [e3]
            exact this
      by_cases hi1 : i = 1
      · refine Ev.ite_pos (by omega) ?_
        exact both s0 s1 (hlo hi1).1.symm (hlo hi1).2.symm
      · refine Ev.ite_neg (by omega) ?_
        exact both 128 191 (hhi hi1).1.symm (hhi hi1).2.symm
    · refine Ev.ite_neg (by omega) ?_
      rw [List.drop_of_length_le (by rw [bytes_len]; exact h)]
      refine Ev.step (fun k => by rw [monikerref02_fits.j1]) ?_
      unfold conts
      simp only [Int.natCast_zero, Int.add_zero]
      exact Ev.ite_neg (by simp) (Ev.now _)
theorem fits_f (s : ByteArray) (hs : s.size ≤ 140737488351232) (f0 f1 s0 s1 : Int) (n : Nat) (h1 : 1 ≤ n) (hn : n ≤ 4) : Ev (fun k => monikerref02_fits.f k s f0 f1 s0 s1 (n : Int)) (fitsS f0 f1 s0 s1 n (bytesOf s) : Int) := by
  unfold monikerref02_fits.f
  refine Ev.step (fun k => by rw [monikerref02_fits.l0]) ?_
  rcases at_begin s with ⟨h, e⟩ | ⟨h, e, b0, b1⟩
  · rw [e]
    refine Ev.ite_neg (by omega) ?_
    refine Ev.step (fun k => by rw [monikerref02_fits.j1]) ?_
    exact Ev.ite_neg (by simp) (Ev.now _)
  · rw [e, fitsS_cons]
    have hd : decide ((0 : Int) < (n : Int)) = true := by simp; omega
    rw [hd]
    refine Ev.ite_pos (by omega) ?_
    refine Ev.step (fun k => by rw [monikerref02_fits.j1]) ?_
    refine Ev.ite_pos rfl (Ev.ite_pos rfl ?_)
    refine Ev.step (fun k => by rw [monikerref02_fits.j2]) ?_
    have hw : wrap64 (bt s 0) = bt s 0 := w64 (by omega) (by omega)
    have hw2 : wrap64 ((0 : Int) + 1) = ((1 : Nat) : Int) := w64 (by omega) (by omega)
    rw [hw, hw2]
    refine Ev.ite_neg (by omega) (Ev.ite_pos (by omega) (Ev.ite_pos (by omega) ?_))
    by_cases h2 : bt s 0 < f0
    · rw [if_neg (by omega)]
      exact Ev.ite_pos h2 (Ev.now _)
    · refine Ev.ite_neg h2 ?_
      by_cases h3 : bt s 0 > f1
      · rw [if_neg (by omega)]
        exact Ev.ite_pos h3 (Ev.now _)
      · rw [if_pos (by omega)]
        refine Ev.ite_neg h3 ?_
        have := fits_l0 s hs f0 f1 s0 s1 n hn (n - 1) 1 s0 s1 (by omega) (by omega) (by simp) (by simp)
        have e3 : ((conts (n - 1) s0 s1 ((bytesOf s).drop 1) + 1 : Nat) : Int) = ((1 : Nat) : Int) + (conts (n - 1) s0 s1 ((bytesOf s).drop 1) : Int) := by omega
        rw [e3]
        exact this
theorem refval_l0 (s : ByteArray) (hs : s.size ≤ 4) : ∀ d i : Nat, ∀ r : Int, i + d = s.size → d ≤ 3 → 0 ≤ r → r < bnd d → (∀ c ∈ (bytesOf s).drop i, 128 ≤ c ∧ c ≤ 191) →
    Ev (fun k => monikerref02_value.l0 k s r (i : Int)) (accum r ((bytesOf s).drop i)) := by
  intro d
  induction d with
  | zero =>
    intro i r hi _ _ _ _
    refine Ev.step (fun k => by rw [monikerref02_value.l0]) ?_
    refine Ev.ite_neg (by omega) ?_
    rw [List.drop_of_length_le (by rw [bytes_len]; omega)]
    exact Ev.now _
  | succ d ih =>
    intro i r hi hd r0 r1 hc
    rcases at_or_end s i (by omega) with ⟨h2, _⟩ | ⟨_, e, b0, b1⟩
    · omega
    rw [e] at hc ⊢
    obtain ⟨c0, c1⟩ := hc _ (List.mem_cons_self ..)
    have hb := bnd_step (by omega) r0 r1 c0 c1
    refine Ev.step (fun k => by rw [monikerref02_value.l0]) ?_
    refine Ev.ite_pos (by omega) (Ev.ite_pos (by omega) ?_)
    have e1 : wrap64 (wrap64 (wrap64 (r * 64) + wrap64 (bt s (i : Int))) - 128) = r * 64 + (bt s (i : Int) - 128) := by
      rw [w64 (x := r * 64) (by omega) (by omega), w64 (x := bt s (i : Int)) (by omega) (by omega), w64 (x := r * 64 + bt s (i : Int)) (by omega) (by omega), w64 (by omega) (by omega)]
      omega
    rw [e1, w64 (by omega) (by omega)]
    exact ih (i + 1) _ (by omega) (by omega) hb.1 hb.2.1 (fun c h => hc c (List.mem_cons_of_mem _ h))
theorem refval_f (s : ByteArray) (n : Nat) (hn : s.size = n) (h1 : 1 ≤ n) (h4 : n ≤ 4) (l0 : 0 ≤ lead (n : Int) (bt s 0)) (l1 : lead (n : Int) (bt s 0) < 128) (hc : ∀ c ∈ (bytesOf s).drop 1, 128 ≤ c ∧ c ≤ 191) :
    Ev (fun k => monikerref02_value.f k s) (accum (lead (n : Int) (bt s 0)) ((bytesOf s).drop 1)) := by
  have hr := bt_rng s 0
  have loop : 2 ≤ n → ∀ r, r = lead (n : Int) (bt s 0) → Ev (fun k => monikerref02_value.l0 k s r 1) (accum (lead (n : Int) (bt s 0)) ((bytesOf s).drop 1)) := by
    intro h2 r e
    subst e
    have hbn : lead (n : Int) (bt s 0) < bnd (n - 1) := by
      rcases n with _ | _ | _ | _ | _ | n
      · omega
      · omega
      · exact Int.lt_of_lt_of_le l1 (by decide)
      · exact Int.lt_of_lt_of_le l1 (by decide)
      · exact Int.lt_of_lt_of_le l1 (by decide)
      · omega
    exact refval_l0 s (by omega) (n - 1) 1 _ (by omega) (by omega) l0 hbn hc
  have tail : 2 ≤ n → ∀ r, r = lead (n : Int) (bt s 0) → Ev (fun k => monikerref02_value.j1 k s r) (accum (lead (n : Int) (bt s 0)) ((bytesOf s).drop 1)) := by
    intro h2 r e
    refine Ev.step (fun k => by rw [monikerref02_value.j1]) ?_
    exact loop h2 r e
  unfold monikerref02_value.f
  by_cases e1 : n = 1
  · refine Ev.ite_pos (by omega) (Ev.ite_pos (by omega) ?_)
    rw [List.drop_of_length_le (by rw [bytes_len]; omega), w64 (by omega) (by omega), e1]
    have : lead ((1 : Nat) : Int) (bt s 0) = bt s 0 := by unfold lead; simp
    rw [this]
    exact Ev.now _
  refine Ev.ite_neg (by omega) (Ev.ite_pos (by omega) ?_)
  have w0 : wrap64 (bt s 0) = bt s 0 := w64 (by omega) (by omega)
  rw [w0]
  by_cases e3 : n = 3
  · refine Ev.ite_pos (by omega) ?_
    refine Ev.step (fun k => by rw [monikerref02_value.j0]) ?_
    refine Ev.ite_neg (by omega) ?_
    refine tail (by omega) _ ?_
    rw [w64 (by omega) (by omega)]
    subst e3
    unfold lead
    simp
  · refine Ev.ite_neg (by omega) ?_
    refine Ev.step (fun k => by rw [monikerref02_value.j0]) ?_
    by_cases e4 : n = 4
    · refine Ev.ite_pos (by omega) (Ev.ite_pos (by omega) ?_)
      rw [w0]
      refine tail (by omega) _ ?_
      rw [w64 (by omega) (by omega)]
      subst e4
      unfold lead
      simp
    · refine Ev.ite_neg (by omega) ?_
      refine tail (by omega) _ ?_
      rw [w64 (by omega) (by omega)]
      have e2 : n = 2 := by omega
      subst e2
      unfold lead
      simp
theorem refval_pre (s : ByteArray) (n : Nat) (hn : n ≤ s.size) (h1 : 1 ≤ n) (h4 : n ≤ 4) (l0 : 0 ≤ lead (n : Int) (bt s 0)) (l1 : lead (n : Int) (bt s 0) < 128) (hc : 2 ≤ n → ∀ c ∈ ((bytesOf s).drop 1).take (n - 1), 128 ≤ c ∧ c ≤ 191) :
    Ev (fun k => monikerref02_value.f k (s.extract 0 n)) (accum (lead (n : Int) (bt s 0)) (((bytesOf s).drop 1).take (n - 1))) := by
  have hb : bytesOf (s.extract 0 n) = bt s 0 :: ((bytesOf s).drop 1).take (n - 1) := by
    rcases at_begin s with ⟨h, _⟩ | ⟨_, e, _⟩
    · omega
    · rw [bytes_extract, List.drop_zero]
      conv => lhs; rw [e, show n = (n - 1) + 1 by omega, List.take_succ_cons]
  have hsz : (s.extract 0 n).size = n := by
    rw [← bytes_len, hb, List.length_cons, List.length_take, List.length_drop, bytes_len]; omega
  have hb0 : bt (s.extract 0 n) 0 = bt s 0 := by
    rcases at_begin (s.extract 0 n) with ⟨h, _⟩ | ⟨_, e2, _⟩
    · omega
    · rw [hb] at e2
      injection e2 with e2 _
      exact e2.symm
  have := refval_f (s.extract 0 n) n hsz h1 h4 (by rw [hb0]; exact l0) (by rw [hb0]; exact l1) (by
    intro c hcc
    rw [hb, List.drop_succ_cons, List.drop_zero] at hcc
    by_cases h2 : 2 ≤ n
    · exact hc h2 c hcc
    · rw [show n - 1 = 0 by omega] at hcc
      simp at hcc)
  rw [hb0, hb, List.drop_succ_cons, List.drop_zero] at this
  exact this
def rowOf (b : Int) : Nat :=
  if b < 128 then 0 else if b < 194 then 9 else if b ≤ 223 then 1 else if b = 224 then 2 else if b ≤ 236 then 3 else if b = 237 then 4 else if b ≤ 239 then 5
  else if b = 240 then 6 else if b ≤ 243 then 7 else if b = 244 then 8 else 9
theorem row_in {b : Int} (h0 : 0 ≤ b) (h1 : b ≤ 255) : ∀ j : Nat, j < 9 → ((monikerref02_row_at j 0 ≤ b ∧ b ≤ monikerref02_row_at j 1) ↔ rowOf b = j) := by
  intro j hj
  have := byte_all (p := fun b => ∀ j : Fin 9, (monikerref02_row_at j.val 0 ≤ b ∧ b ≤ monikerref02_row_at j.val 1) ↔ rowOf b = j.val) (by decide +kernel) h0 h1
  exact this ⟨j, hj⟩
theorem row_shp {b : Int} (h0 : 0 ≤ b) (h1 : b ≤ 255) : (rowOf b < 9 → shp b = (monikerref02_row_at (rowOf b) 4, monikerref02_row_at (rowOf b) 2, monikerref02_row_at (rowOf b) 3)) ∧ (9 ≤ rowOf b → shp b = (0, 0, 0)) :=
  byte_all (p := fun b => (rowOf b < 9 → shp b = (monikerref02_row_at (rowOf b) 4, monikerref02_row_at (rowOf b) 2, monikerref02_row_at (rowOf b) 3)) ∧ (9 ≤ rowOf b → shp b = (0, 0, 0))) (by decide +kernel) h0 h1
theorem row_n (j : Nat) (hj : j < 9) : ∃ n : Nat, monikerref02_row_at j 4 = (n : Int) ∧ 1 ≤ n ∧ n ≤ 4 := by
  have : ∀ j : Fin 9, 1 ≤ monikerref02_row_at j.val 4 ∧ monikerref02_row_at j.val 4 ≤ 4 := by decide +kernel
  obtain ⟨h1, h2⟩ := this ⟨j, hj⟩
  simp only at h1 h2
  exact ⟨(monikerref02_row_at j 4).toNat, by omega, by omega, by omega⟩
theorem row_f (i : Nat) (hi : i < 9) : monikerref02_row.f (i : Int) = some (monikerref02_row_at i 0, monikerref02_row_at i 1, monikerref02_row_at i 2, monikerref02_row_at i 3, monikerref02_row_at i 4) := by
  unfold monikerref02_row.f
  rw [if_pos (by omega), Int.toNat_natCast]
theorem row_skip (s : ByteArray) (hs : s.size ≤ 140737488351232) (hp : 0 < s.size) (best : Int) (hb : 1 ≤ best) (i : Nat) (hi : i < 9) (hne : rowOf (bt s 0) ≠ i) (r : Int × Int × Bool)
    (h : Ev (fun k => monikerref02_Decode.l0 k s best ((i + 1 : Nat) : Int)) r) : Ev (fun k => monikerref02_Decode.l0 k s best (i : Int)) r := by
  obtain ⟨n, en, n1, n4⟩ := row_n i hi
  have hr := bt_rng s 0
  rcases at_begin s with ⟨h0, _⟩ | ⟨_, e, b0, b1⟩
  · omega
  refine Ev.step (fun k => by rw [monikerref02_Decode.l0]) ?_
  refine Ev.ite_pos (by omega) (Ev.pure_bind (row_f i hi) ?_)
  simp only
  rw [en]
  refine Ev.bind' (fits_f s hs _ _ _ _ n n1 n4) ?_
  have hz : fitsS (monikerref02_row_at i 0) (monikerref02_row_at i 1) (monikerref02_row_at i 2) (monikerref02_row_at i 3) n (bytesOf s) = 0 := by
    rw [e, fitsS_cons, if_neg (fun x => hne ((row_in b0 b1 i hi).1 x))]
  rw [hz]
  refine Ev.ite_neg (by omega) ?_
  have hm : mx best ((0 : Nat) : Int) = best := by unfold mx; rw [if_neg (by omega)]
  rw [hm, w64 (by omega) (by omega)]
  exact h
theorem row_skips (s : ByteArray) (hs : s.size ≤ 140737488351232) (hp : 0 < s.size) (best : Int) (hb : 1 ≤ best) (r : Int × Int × Bool) (j : Nat) (hj : j ≤ 9) (h : Ev (fun k => monikerref02_Decode.l0 k s best (j : Int)) r) :
    ∀ d i : Nat, i + d = j → (∀ m, i ≤ m → m < j → rowOf (bt s 0) ≠ m) → Ev (fun k => monikerref02_Decode.l0 k s best (i : Int)) r := by
  intro d
  induction d with
  | zero => intro i hi _; rw [show i = j by omega]; exact h
  | succ d ih =>
    intro i hi hm
    exact row_skip s hs hp best hb i (by omega) (hm i (by omega) (by omega)) r (ih (i + 1) (by omega) (fun m h1 h2 => hm m (by omega) h2))
theorem row_end (s : ByteArray) (best : Int) : Ev (fun k => monikerref02_Decode.l0 k s best ((9 : Nat) : Int)) (0, best, false) := by
  refine Ev.step (fun k => by rw [monikerref02_Decode.l0]) ?_
  exact Ev.ite_neg (by decide) (Ev.now _)
set_option maxHeartbeats 1000000 in
theorem refDecode_f (s : ByteArray) (hs : s.size ≤ 140737488351232) : Ev (fun k => monikerref02_Decode.f k s) (dec (bytesOf s)) := by
  unfold monikerref02_Decode.f
  have hnil : s.toList = ([] : List UInt8) ↔ bytesOf s = [] := by
    rw [toList_data]
    unfold bytesOf
    exact List.map_eq_nil_iff.symm
  rcases at_begin s with ⟨h0, e⟩ | ⟨hp, e, b0, b1⟩
  · rw [e]
    exact Ev.ite_pos (hnil.2 e) (Ev.now _)
  · refine Ev.ite_neg (fun h => by rw [hnil.1 h] at e; cases e) ?_
    obtain ⟨hsh1, hsh2⟩ := row_shp b0 b1
    rcases Nat.lt_or_ge (rowOf (bt s 0)) 9 with hlt | hge
    · obtain ⟨n, en, n1, n4⟩ := row_n _ hlt
      have hshp := hsh1 hlt
      have skipTo : ∀ r, Ev (fun k => monikerref02_Decode.l0 k s 1 ((rowOf (bt s 0) : Nat) : Int)) r → Ev (fun k => monikerref02_Decode.l0 k s 1 0) r := by
        intro r h
        exact row_skips s hs hp 1 (by omega) r (rowOf (bt s 0)) (by omega) h (rowOf (bt s 0)) 0 (by omega) (fun m _ h2 => by omega)
      refine skipTo _ ?_
      refine Ev.step (fun k => by rw [monikerref02_Decode.l0]) ?_
      refine Ev.ite_pos (by omega) (Ev.pure_bind (row_f _ hlt) ?_)
      simp only
      rw [en]
      refine Ev.bind' (fits_f s hs _ _ _ _ n n1 n4) ?_
      have hfit : fitsS (monikerref02_row_at (rowOf (bt s 0)) 0) (monikerref02_row_at (rowOf (bt s 0)) 1) (monikerref02_row_at (rowOf (bt s 0)) 2) (monikerref02_row_at (rowOf (bt s 0)) 3) n (bytesOf s)
          = conts (n - 1) (shp (bt s 0)).2.1 (shp (bt s 0)).2.2 ((bytesOf s).drop 1) + 1 := by
        have hin := (row_in b0 b1 _ hlt).2 rfl
        rw [hshp]
        conv => lhs; rw [e]
        rw [fitsS_cons, if_pos hin]
      rw [hfit]
      have h1 : (shp (bt s 0)).1 = (n : Int) := by rw [hshp]; exact en
      have hdec := dec_cons (bt s 0) ((bytesOf s).drop 1)
      rw [← e, h1, if_neg (by omega), Int.toNat_natCast] at hdec
      rw [hdec]
      have hcl := conts_le (n - 1) (shp (bt s 0)).2.1 (shp (bt s 0)).2.2 ((bytesOf s).drop 1)
      have hcm : 2 ≤ (shp (bt s 0)).1 → ∀ c ∈ ((bytesOf s).drop 1).take (conts (n - 1) (shp (bt s 0)).2.1 (shp (bt s 0)).2.2 ((bytesOf s).drop 1)), 128 ≤ c ∧ c ≤ 191 :=
        fun h2 => conts_mem _ _ _ (shp_bounds h2).1 (shp_bounds h2).2 _
      rw [List.length_drop, bytes_len] at hcl
      have hlead := shp_lead b0 b1 (by omega)
      rw [h1] at hcm hlead
      revert hcl hcm
      generalize conts (n - 1) (shp (bt s 0)).2.1 (shp (bt s 0)).2.2 ((bytesOf s).drop 1) = m
      intro hcl hcm
      by_cases hm : (m : Int) + 1 < (n : Int)
      · rw [if_pos hm]
        refine Ev.ite_neg (by omega) ?_
        have hmx : mx 1 ((m + 1 : Nat) : Int) = (m : Int) + 1 := by unfold mx; split <;> omega
        rw [hmx, w64 (by omega) (by omega)]
        exact row_skips s hs hp ((m : Int) + 1) (by omega) _ 9 (by omega) (row_end s _) (9 - (rowOf (bt s 0) + 1)) (rowOf (bt s 0) + 1) (by omega) (fun k h1 h2 => by omega)
      · rw [if_neg hm]
        have hmn : m + 1 = n := by omega
        rw [hmn, Int.toNat_natCast]
        refine Ev.ite_pos rfl (Ev.ite_pos (by omega) (Ev.ite_pos (by omega) ?_))
        refine Ev.bind' (refval_pre s n (by omega) n1 n4 hlead.1 hlead.2 (fun h2 c hc => hcm (by omega) c (by rw [show m = n - 1 by omega]; exact hc))) ?_
        exact Ev.now _
    · have hshp := hsh2 hge
      have hdec := dec_cons (bt s 0) ((bytesOf s).drop 1)
      rw [← e, hshp, if_pos rfl] at hdec
      rw [hdec]
      exact row_skips s hs hp 1 (by omega) _ 9 (by omega) (row_end s 1) 9 0 (by omega) (fun m _ h2 => by omega)
end Go.Proofs.YticohlbfolnmpaaDoor.Y
namespace Go.Proofs.YticohlbfolnmpaaDoor.Y
open Go.RowKit Go.Proofs.YticohlbfolnmpaaDoor.X Go.Proofs.YticohlbfolnmpaaDoor.M Go.Proofs.YticohlbfolnmpaaDoorW.PrintWords Go.Proofs.YticohlbfolnmpaaDoorW.PrintLast Go.Proofs.YticohlbfolnmpaaDoorW.PrintMore
set_option linter.unusedVariables false
theorem drop3 {s : ByteArray} {i : Nat} (h : i + 3 ≤ s.size) : (bytesOf s).drop i = bt s (i : Int) :: bt s ((i : Int) + 1) :: bt s ((i : Int) + 2) :: (bytesOf s).drop (i + 3) := by
  rcases at_or_end s i (by omega) with ⟨h2, _⟩ | ⟨_, e, _⟩
  · omega
  rcases at_or_end s (i + 1) (by omega) with ⟨h2, _⟩ | ⟨_, e2, _⟩
  · omega
  rcases at_or_end s (i + 2) (by omega) with ⟨h2, _⟩ | ⟨_, e3, _⟩
  · omega
  rw [e, e2, e3]
  rfl
theorem escH_short {l : List Int} (h : l.length < 3) : escH l = -1 := by
  match l, h with
  | [], _ => rfl
  | [_], _ => rfl
  | [_, _], _ => rfl
  | _ :: _ :: _ :: _, h => simp only [List.length_cons] at h; omega
theorem escH_three (p a b : Int) (t : List Int) : escH (p :: a :: b :: t) = if p = 37 then (if hv a < 0 ∨ hv b < 0 then -1 else 16 * hv a + hv b) else -1 := rfl
theorem hex_join {a b : Int} (ha : 0 ≤ a) (ha1 : a ≤ 15) (hb : 0 ≤ b) (hb1 : b ≤ 15) : (Go.bits .or .i64 (wrap64 (a * 16)) b) % 256 = 16 * a + b := by
  have : ∀ x : Fin 16, ∀ y : Fin 16, (Go.bits .or .i64 (wrap64 (((x.val : Nat) : Int) * 16)) ((y.val : Nat) : Int)) % 256 = 16 * ((x.val : Nat) : Int) + ((y.val : Nat) : Int) := by decide +kernel
  have := this ⟨a.toNat, by omega⟩ ⟨b.toNat, by omega⟩
  simp only at this
  rwa [Int.toNat_of_nonneg ha, Int.toNat_of_nonneg hb] at this
theorem escAt_f (s : ByteArray) (i : Nat) (hi : i ≤ s.size) (hs : s.size ≤ 140737488351232) : Ev (fun k => escape_At.f k s (i : Int)) (if escH ((bytesOf s).drop i) < 0 then (0, false) else (escH ((bytesOf s).drop i), true)) := by
  unfold escape_At.f
  refine Ev.ite_neg (by omega) ?_
  have bad : ∀ r, r = (0, false) → Ev (fun k => escape_At.j0 k s (i : Int) true) r := by
    intro r e
    subst e
    refine Ev.step (fun k => by rw [escape_At.j0]) ?_
    exact Ev.ite_pos rfl (Ev.now _)
  rw [w64 (by omega) (by omega)]
  by_cases h3 : i + 3 ≤ s.size
  · refine Ev.ite_neg (by omega) (Ev.ite_pos (by omega) (Ev.ite_pos (by omega) ?_))
    rw [drop3 h3, escH_three]
    by_cases hp : bt s (i : Int) = 37
    · rw [if_pos hp, hp]
      refine Ev.step (fun k => by rw [escape_At.j0]) ?_
      refine Ev.ite_neg (by decide) ?_
      have r1 := bt_rng s ((i : Int) + 1)
      have r2 := bt_rng s ((i : Int) + 2)
      have v1 := hv_range (bt s ((i : Int) + 1))
      have v2 := hv_range (bt s ((i : Int) + 2))
      rw [w64 (x := (i : Int) + 1) (by omega) (by omega), w64 (x := (i : Int) + 2) (by omega) (by omega)]
      refine Ev.ite_pos (by omega) (Ev.ite_pos (by omega) (Ev.bind' (value_f r1.1 r1.2) (Ev.ite_pos (by omega) (Ev.ite_pos (by omega) (Ev.bind' (value_f r2.1 r2.2) ?_)))))
      generalize hv (bt s ((i : Int) + 1)) = x at v1 ⊢
      generalize hv (bt s ((i : Int) + 2)) = y at v2 ⊢
      by_cases h1 : x < 0
      · have h3 : x < 0 ∨ y < 0 := .inl h1
        simp only [if_pos h1, if_pos h3]
        exact Ev.ite_neg (by simp) (Ev.now _)
      · simp only [if_neg h1]
        refine Ev.ite_pos (by simp) ?_
        by_cases h2 : y < 0
        · have h3 : x < 0 ∨ y < 0 := .inr h2
          simp only [if_pos h2, if_pos h3]
          exact Ev.ite_neg (by simp) (Ev.now _)
        · have h3 : ¬ (x < 0 ∨ y < 0) := by omega
          simp only [if_neg h2, if_neg h3]
          refine Ev.ite_pos (by simp) ?_
          rw [if_neg (by omega), hex_join (by omega) (by omega) (by omega) (by omega)]
          exact Ev.now _
    · rw [if_neg hp, if_pos (by omega)]
      have : (bt s (i : Int) != 37) = true := by simpa using hp
      rw [this]
      exact bad _ rfl
  · refine Ev.ite_pos (by omega) ?_
    rw [escH_short (by rw [List.length_drop, bytes_len]; omega), if_pos (by omega)]
    exact bad _ rfl
theorem refAt_f (s : ByteArray) (i : Nat) (hi : i ≤ s.size) (hs : s.size ≤ 140737488351232) : Ev (fun k => monikerref04_At.f k s (i : Int)) (escH ((bytesOf s).drop i)) := by
  unfold monikerref04_At.f
  refine Ev.ite_neg (by omega) ?_
  have bad : ∀ r, r = -1 → Ev (fun k => monikerref04_At.j0 k s (i : Int) true) r := by
    intro r e
    subst e
    refine Ev.step (fun k => by rw [monikerref04_At.j0]) ?_
    exact Ev.ite_pos rfl (Ev.now _)
  by_cases h0 : i < s.size
  · refine Ev.ite_neg (by omega) ?_
    rw [w64 (by omega) (by omega)]
    by_cases h3 : i + 3 ≤ s.size
    · refine Ev.ite_neg (by omega) (Ev.ite_pos (by omega) (Ev.ite_pos (by omega) ?_))
      rw [drop3 h3, escH_three]
      by_cases hp : bt s (i : Int) = 37
      · rw [if_pos hp, hp]
        refine Ev.step (fun k => by rw [monikerref04_At.j0]) ?_
        refine Ev.ite_neg (by decide) ?_
        have r1 := bt_rng s ((i : Int) + 1)
        have r2 := bt_rng s ((i : Int) + 2)
        have v1 := hv_range (bt s ((i : Int) + 1))
        have v2 := hv_range (bt s ((i : Int) + 2))
        rw [w64 (x := (i : Int) + 1) (by omega) (by omega), w64 (x := (i : Int) + 2) (by omega) (by omega)]
        refine Ev.ite_pos (by omega) (Ev.ite_pos (by omega) (Ev.bind' (refValue_f r1.1 r1.2) (Ev.ite_pos (by omega) (Ev.ite_pos (by omega) (Ev.bind' (refValue_f r2.1 r2.2) ?_)))))
        generalize hv (bt s ((i : Int) + 1)) = x at v1 ⊢
        generalize hv (bt s ((i : Int) + 2)) = y at v2 ⊢
        by_cases h1 : x < 0
        · have h3 : x < 0 ∨ y < 0 := .inl h1
          rw [if_pos h3]
          exact Ev.ite_pos h1 (Ev.now _)
        · refine Ev.ite_neg h1 ?_
          by_cases h2 : y < 0
          · have h3 : x < 0 ∨ y < 0 := .inr h2
            rw [if_pos h3]
            exact Ev.ite_pos h2 (Ev.now _)
          · have h3 : ¬ (x < 0 ∨ y < 0) := by omega
            refine Ev.ite_neg h2 ?_
            rw [if_neg h3, w64 (x := 16 * x) (by omega) (by omega), w64 (by omega) (by omega)]
            exact Ev.now _
      · rw [if_neg hp]
        have : (bt s (i : Int) != 37) = true := by simpa using hp
        rw [this]
        exact bad _ rfl
    · refine Ev.ite_pos (by omega) ?_
      rw [escH_short (by rw [List.length_drop, bytes_len]; omega)]
      exact bad _ rfl
  · refine Ev.ite_pos (by omega) ?_
    rw [escH_short (by rw [List.length_drop, bytes_len]; omega)]
    exact bad _ rfl
theorem extra_f (p : Int) : ∃ t, lexis_extra.f p = some (t, place p) := by
  unfold lexis_extra.f place
  by_cases h1 : p = 1
  · subst h1; exact ⟨_, rfl⟩
  by_cases h2 : p = 2
  · subst h2; exact ⟨_, rfl⟩
  by_cases h3 : p = 3
  · subst h3; exact ⟨_, rfl⟩
  by_cases h4 : p = 4
  · subst h4; exact ⟨_, rfl⟩
  by_cases h5 : p = 5
  · subst h5; exact ⟨_, rfl⟩
  by_cases h6 : p = 6
  · subst h6; exact ⟨_, rfl⟩
  by_cases h7 : p = 7
  · subst h7; exact ⟨_, rfl⟩
  · rw [if_neg h1, if_neg h2, if_neg h3, if_neg h4, if_neg h5, if_neg h6, if_neg h7]
    exact ⟨_, by rw [decide_eq_false (by omega)]⟩
theorem place_all {q : Int → Prop} (h : ∀ n : Fin 7, q ((n.val : Nat) + 1 : Int)) {p : Int} (hp : place p = true) : q p := by
  have hp : 1 ≤ p ∧ p ≤ 7 := by simpa [place] using hp
  have := h ⟨(p - 1).toNat, by omega⟩
  simp only at this
  rwa [Int.toNat_of_nonneg (by omega), show p - 1 + 1 = p by omega] at this
theorem plain_f {p b : Int} (h0 : 0 ≤ b) (h1 : b ≤ 255) : Ev (fun k => lexis_Plain.f k p b) (plainAt p b) := by
  by_cases hp : place p = true
  · refine Ev.of (fun k => lexis_Plain.mono p b k) (k := 20) ?_
    refine place_all (q := fun p => lexis_Plain.f 20 p b = some (plainAt p b)) ?_ hp
    intro n
    exact byte_all (p := fun b => lexis_Plain.f 20 ((n.val : Nat) + 1 : Int) b = some (plainAt ((n.val : Nat) + 1 : Int) b)) (by revert n; decide +kernel) h0 h1
  · unfold lexis_Plain.f plainAt
    obtain ⟨t, e⟩ := extra_f p
    refine Ev.pure_bind e ?_
    rw [Bool.not_eq_true] at hp
    rw [hp]
    exact Ev.ite_neg (by simp) (Ev.now _)
theorem refPlain_f {p b : Int} (h0 : 0 ≤ b) (h1 : b ≤ 255) : Ev (fun k => monikerref18_Plain.f k p b) (plainAt p b) := by
  by_cases hp : place p = true
  · refine Ev.of (fun k => monikerref18_Plain.mono p b k) (k := 70) ?_
    refine place_all (q := fun p => monikerref18_Plain.f 70 p b = some (plainAt p b)) ?_ hp
    intro n
    exact byte_all (p := fun b => monikerref18_Plain.f 70 ((n.val : Nat) + 1 : Int) b = some (plainAt ((n.val : Nat) + 1 : Int) b)) (by revert n; decide +kernel) h0 h1
  · unfold monikerref18_Plain.f plainAt
    have hp2 : ¬ (1 ≤ p ∧ p ≤ 7) := by simpa [place] using hp
    rw [Bool.not_eq_true] at hp
    rw [hp, Bool.false_and]
    by_cases hlt : p < 1
    · refine Ev.ite_pos hlt ?_
      refine Ev.step (fun k => by rw [monikerref18_Plain.j0]) ?_
      exact Ev.ite_pos rfl (Ev.now _)
    · refine Ev.ite_neg hlt ?_
      rw [decide_eq_true (by omega)]
      refine Ev.step (fun k => by rw [monikerref18_Plain.j0]) ?_
      exact Ev.ite_pos rfl (Ev.now _)
theorem common_j0 (r : Int) (h0 : 160 ≤ r) (h1 : r < 2147483648) (b : Bool) (hb : b = true ↔ (r ≤ 55295 ∨ 63744 ≤ r ∧ r ≤ 64975 ∨ 65008 ≤ r ∧ r ≤ 65519)) : Ev (fun k => lexis_Common.j0 k r b) (common r) := by
  refine Ev.step (fun k => by rw [lexis_Common.j0]) ?_
  have hm : Go.bits .and .i32 r 65535 = r % 65536 := bits_mask .i32 31 (by decide) wraps_i32 16 (by decide) r (by omega) (by omega)
  unfold common
  refine Ev.ite (fun h => Ev.val ?_) (fun h => Ev.ite (fun h2 => Ev.val ?_) (fun h2 => Ev.ite (fun h3 => Ev.val ?_) (fun h3 => ?_)))
  · have := hb.1 h
    symm
    rw [decide_eq_true_iff]
    omega
  · have hnb : ¬ (r ≤ 55295 ∨ 63744 ≤ r ∧ r ≤ 64975 ∨ 65008 ≤ r ∧ r ≤ 65519) := fun x => h (hb.2 x)
    symm
    rw [decide_eq_false_iff_not]
    omega
  · have hnb : ¬ (r ≤ 55295 ∨ 63744 ≤ r ∧ r ≤ 64975 ∨ 65008 ≤ r ∧ r ≤ 65519) := fun x => h (hb.2 x)
    symm
    rw [decide_eq_false_iff_not]
    omega
  · have hnb : ¬ (r ≤ 55295 ∨ 63744 ≤ r ∧ r ≤ 64975 ∨ 65008 ≤ r ∧ r ≤ 65519) := fun x => h (hb.2 x)
    rw [hm]
    refine Ev.ite (fun h4 => Ev.ite (fun h5 => Ev.val ?_) (fun h5 => Ev.val ?_)) (fun h4 => Ev.val ?_)
    · symm
      rw [decide_eq_true_iff]
      omega
    · rw [decide_eq_decide]
      omega
    · symm
      rw [decide_eq_false_iff_not]
      omega
theorem common_f (r : Int) (h1 : r < 2147483648) : Ev (fun k => lexis_Common.f k r) (common r) := by
  unfold lexis_Common.f
  refine Ev.ite (fun h => Ev.val ?_) (fun h => ?_)
  · unfold common
    symm
    rw [decide_eq_false_iff_not]
    omega
  · have key := common_j0 r (by omega) h1
    refine Ev.ite (fun h2 => key _ ?_) (fun h2 => Ev.ite (fun h3 => Ev.ite (fun h4 => key _ ?_) (fun h4 => Ev.ite (fun h5 => key _ ?_) (fun h5 => key _ ?_))) (fun h3 => Ev.ite (fun h5 => key _ ?_) (fun h5 => key _ ?_))) <;> simp <;> omega
theorem private_f (r : Int) : lexis_Private.f r = some (priv r) := by
  unfold lexis_Private.f priv
  (repeat' split) <;> congr 1 <;> first | (symm; rw [decide_eq_true_iff]; omega) | (symm; rw [decide_eq_false_iff_not]; omega) | (rw [decide_eq_decide]; omega)
theorem refPrivate_f (r : Int) : monikerref18_Private.f r = some (priv r) := by
  unfold monikerref18_Private.f priv
  (repeat' split) <;> congr 1 <;> first | (symm; rw [decide_eq_true_iff]; omega) | (symm; rw [decide_eq_false_iff_not]; omega) | (rw [decide_eq_decide]; omega)
theorem refCommon_l0 (r : Int) (h0 : 0 ≤ r) (h1 : r < 2147483648) (hn : ¬ (160 ≤ r ∧ r ≤ 55295 ∨ 63744 ≤ r ∧ r ≤ 64975 ∨ 65008 ≤ r ∧ r ≤ 65519)) : ∀ d p : Nat, p + d = 14 → 1 ≤ p → (∀ q : Int, 1 ≤ q → q < p → ¬ (q * 65536 ≤ r ∧ r ≤ q * 65536 + 65533)) →
    Ev (fun k => monikerref18_Common.l0 k r (p : Int)) (common r) := by
  intro d
  induction d with
  | zero =>
    intro p hp h1p hq
    refine Ev.step (fun k => by rw [monikerref18_Common.l0]) ?_
    refine Ev.ite_neg (by omega) ?_
    have h13 : ¬ (65536 ≤ r ∧ r ≤ 917501 ∧ r % 65536 ≤ 65533) := by
      intro h
      have := hq (r / 65536) (by omega) (by omega)
      omega
    unfold common
    refine Ev.ite (fun h => Ev.val ?_) (fun h => Ev.val ?_)
    · rw [decide_eq_decide]
      omega
    · symm
      rw [decide_eq_false_iff_not]
      omega
  | succ d ih =>
    intro p hp h1p hq
    refine Ev.step (fun k => by rw [monikerref18_Common.l0]) ?_
    rw [w64 (x := (p : Int) * 65536) (by omega) (by omega), w64 (x := (p : Int) * 65536 + 65533) (by omega) (by omega), w64 (x := (p : Int) + 1) (by omega) (by omega)]
    have next : ¬ ((p : Int) * 65536 ≤ r ∧ r ≤ (p : Int) * 65536 + 65533) → Ev (fun k => monikerref18_Common.l0 k r ((p : Int) + 1)) (common r) := by
      intro h
      refine ih (p + 1) (by omega) (by omega) (fun q q1 q2 => ?_)
      by_cases e : q = p
      · subst e; exact h
      · exact hq q q1 (by omega)
    refine Ev.ite_pos (by omega) (Ev.ite (fun h => Ev.ite (fun h2 => Ev.val ?_) (fun h2 => next (fun x => h2 x.2))) (fun h => next (fun x => h x.1)))
    unfold common
    symm
    rw [decide_eq_true_iff]
    omega
theorem refCommon_f (r : Int) (h0 : 0 ≤ r) (h1 : r < 2147483648) : Ev (fun k => monikerref18_Common.f k r) (common r) := by
  have key : ∀ b : Bool, (b = true ↔ (160 ≤ r ∧ r ≤ 55295 ∨ 63744 ≤ r ∧ r ≤ 64975 ∨ 65008 ≤ r ∧ r ≤ 65519)) → Ev (fun k => monikerref18_Common.j0 k r b) (common r) := by
    intro b hb
    refine Ev.step (fun k => by rw [monikerref18_Common.j0]) ?_
    refine Ev.ite (fun h => Ev.val ?_) (fun h => ?_)
    · have := hb.1 h
      unfold common
      symm
      rw [decide_eq_true_iff]
      omega
    · exact refCommon_l0 r h0 h1 (fun x => h (hb.2 x)) 13 1 (by omega) (by omega) (fun q q1 q2 => by omega)
  unfold monikerref18_Common.f
  refine Ev.ite (fun h2 => Ev.ite (fun h3 => key _ ?_) (fun h3 => Ev.ite (fun h4 => Ev.ite (fun h5 => key _ ?_) (fun h5 => Ev.ite (fun h6 => key _ ?_) (fun h6 => key _ ?_))) (fun h4 => Ev.ite (fun h6 => key _ ?_) (fun h6 => key _ ?_))))
    (fun h2 => Ev.ite (fun h4 => Ev.ite (fun h5 => key _ ?_) (fun h5 => Ev.ite (fun h6 => key _ ?_) (fun h6 => key _ ?_))) (fun h4 => Ev.ite (fun h6 => key _ ?_) (fun h6 => key _ ?_))) <;> simp <;> omega
theorem mod256 {r : Int} (h0 : 0 ≤ r) (h1 : r < 128) : r % 256 = r := by omega
theorem may_f (p : Int) (iri : Bool) (r : Int) (h0 : 0 ≤ r) (h1 : r < 2147483648) : Ev (fun k => lexis_May.f k p iri r) (mayAt p iri r) := by
  unfold lexis_May.f mayAt
  refine Ev.ite_pos (by omega) ?_
  refine Ev.step (fun k => by rw [lexis_May.j0]) ?_
  by_cases h : r < 128
  · rw [if_pos ⟨h0, h⟩, mod256 h0 h]
    refine Ev.ite_pos (by simpa using h) ?_
    exact Ev.bind' (plain_f h0 (by omega)) (Ev.now _)
  · rw [if_neg (fun x => h x.2)]
    refine Ev.ite_neg (by simpa using h) ?_
    obtain ⟨t, e⟩ := extra_f p
    refine Ev.pure_bind e ?_
    simp only
    cases hp : place p
    · refine Ev.ite_neg (by simp) ?_
      refine Ev.step (fun k => by rw [lexis_May.j1]) ?_
      refine Ev.ite_pos rfl (Ev.val ?_)
      simp
    · refine Ev.ite_pos rfl ?_
      refine Ev.step (fun k => by rw [lexis_May.j1]) ?_
      cases iri
      · exact Ev.ite_pos rfl (Ev.now _)
      · refine Ev.ite_neg (by simp) (Ev.bind' (common_f r h1) ?_)
        cases hc : common r
        · refine Ev.ite_neg (by simp) (Ev.ite (fun h6 => ?_) (fun h6 => ?_))
          · refine Ev.pure_bind (private_f r) (Ev.val ?_)
            simp [h6]
          · exact Ev.val (by simp [h6])
        · exact Ev.ite_pos rfl (Ev.val (by simp))
theorem refMay_f (p : Int) (iri : Bool) (r : Int) (h0 : 0 ≤ r) (h1 : r < 2147483648) : Ev (fun k => monikerref18_May.f k p iri r) (mayAt p iri r) := by
  unfold monikerref18_May.f mayAt
  refine Ev.ite_pos (by omega) ?_
  refine Ev.step (fun k => by rw [monikerref18_May.j0]) ?_
  by_cases h : r < 128
  · rw [if_pos ⟨h0, h⟩, mod256 h0 h]
    refine Ev.ite_pos (by simpa using h) ?_
    exact Ev.bind' (refPlain_f h0 (by omega)) (Ev.now _)
  · rw [if_neg (fun x => h x.2)]
    refine Ev.ite_neg (by simpa using h) ?_
    have bad : ∀ v : Bool, v = false → Ev (fun k => monikerref18_May.j1 k p r true) v := by
      intro v e
      subst e
      refine Ev.step (fun k => by rw [monikerref18_May.j1]) ?_
      exact Ev.ite_pos rfl (Ev.now _)
    cases iri
    · exact Ev.ite_neg (by simp) (bad _ (by simp))
    · refine Ev.ite_pos rfl ?_
      by_cases hp : place p = true
      · have hp2 : 1 ≤ p ∧ p ≤ 7 := by simpa [place] using hp
        rw [hp]
        refine Ev.ite_neg (by omega) ?_
        rw [decide_eq_false (by omega)]
        refine Ev.step (fun k => by rw [monikerref18_May.j1]) ?_
        refine Ev.ite_neg (by simp) (Ev.bind' (refCommon_f r h0 h1) ?_)
        cases hc : common r
        · refine Ev.ite_neg (by simp) (Ev.ite (fun h6 => ?_) (fun h6 => ?_))
          · refine Ev.pure_bind (refPrivate_f r) (Ev.val ?_)
            simp [h6]
          · exact Ev.val (by simp [h6])
        · exact Ev.ite_pos rfl (Ev.val (by simp))
      · have hp2 : ¬ (1 ≤ p ∧ p ≤ 7) := by simpa [place] using hp
        rw [Bool.not_eq_true] at hp
        rw [hp]
        refine Ev.ite (fun h6 => bad _ (by simp)) (fun h6 => ?_)
        rw [decide_eq_true (by omega)]
        exact bad _ (by simp)
theorem accum_bound (t : List Int) (h : ∀ c ∈ t, 128 ≤ c ∧ c ≤ 191) : ∀ r, 0 ≤ r → t.length ≤ 3 → r < bnd t.length → 0 ≤ accum r t ∧ accum r t < 33554432 := by
  induction t with
  | nil => intro r h0 _ h1; exact ⟨h0, h1⟩
  | cons c t ih =>
    intro r h0 hl h1
    obtain ⟨c0, c1⟩ := h c (List.mem_cons_self ..)
    rw [List.length_cons] at hl h1
    have hb := bnd_step (by omega) h0 h1 c0 c1
    exact ih (fun d hd => h d (List.mem_cons_of_mem _ hd)) _ hb.1 (by omega) hb.2.1
theorem dec_range (l : List Int) (hl : ∀ b ∈ l, 0 ≤ b ∧ b ≤ 255) : 0 ≤ (dec l).1 ∧ (dec l).1 < 33554432 := by
  cases l with
  | nil => simp [dec]
  | cons b t =>
    obtain ⟨b0, b1⟩ := hl b (List.mem_cons_self ..)
    rw [dec_cons]
    have hr := shp_range b
    by_cases hz : (shp b).1 = 0
    · rw [if_pos hz]; simp
    · rw [if_neg hz]
      have hm : 2 ≤ (shp b).1 → ∀ c ∈ t.take (conts ((shp b).1.toNat - 1) (shp b).2.1 (shp b).2.2 t), 128 ≤ c ∧ c ≤ 191 := fun h2 => conts_mem _ _ _ (shp_bounds h2).1 (shp_bounds h2).2 _
      have hc := conts_le ((shp b).1.toNat - 1) (shp b).2.1 (shp b).2.2 t
      revert hm hc
      generalize conts ((shp b).1.toNat - 1) (shp b).2.1 (shp b).2.2 t = m
      intro hm hc
      by_cases h2 : (m : Int) + 1 < (shp b).1
      · rw [if_pos h2]; simp
      · rw [if_neg h2]
        have hld := shp_lead b0 b1 (by omega)
        simp only
        refine accum_bound _ ?_ _ hld.1 (by rw [List.length_take]; omega) ?_
        · intro c hcc
          by_cases h2 : 2 ≤ (shp b).1
          · exact hm h2 c (by rw [show m = (shp b).1.toNat - 1 by omega]; exact hcc)
          · rw [show (shp b).1.toNat - 1 = 0 by omega] at hcc
            simp at hcc
        · refine Int.lt_of_lt_of_le hld.2 ?_
          generalize (t.take ((shp b).1.toNat - 1)).length = n
          rcases n with _ | _ | _ | n <;> simp [bnd]
theorem bytes_all (s : ByteArray) : ∀ b ∈ bytesOf s, 0 ≤ b ∧ b ≤ 255 := fun _ h => bytes_range h
theorem bytes_from (s : ByteArray) (i : Nat) : bytesOf (s.extract i s.size) = (bytesOf s).drop i := by
  rw [bytes_extract, ← bytes_len, List.take_length]
theorem step_no_escape {p : Int} {iri : Bool} {l : List Int} (hp : place p = true) (h : escH l < 0) : stepAt p iri l = if (dec l).2.2 && mayAt p iri (dec l).1 then (dec l).2.1.toNat else 0 := by
  unfold stepAt
  rw [if_pos hp, if_neg (by omega)]
theorem span_l0 (p : Int) (iri : Bool) (s : ByteArray) (hs : s.size ≤ 140737488351232) (hp : place p = true) : ∀ d i : Nat, i + d = s.size → Ev (fun k => lexis_Span.l0 k p iri s (i : Int)) ((i : Int) + spanAt p iri ((bytesOf s).drop i)) := by
  intro d
  induction d using Nat.strongRecOn with
  | _ d ih =>
    intro i hi
    refine Ev.step (fun k => by rw [lexis_Span.l0]) ?_
    refine Ev.ite (fun h => ?_) (fun h => ?_)
    · obtain ⟨t, e⟩ := extra_f p
      refine Ev.pure_bind e ?_
      simp only
      refine Ev.ite_pos hp (Ev.bind' (escAt_f s i (by omega) hs) ?_)
      rw [span_eq]
      by_cases he : escH ((bytesOf s).drop i) < 0
      · simp only [if_pos he]
        refine Ev.ite_neg (by simp) (Ev.ite_pos (by omega) (Ev.ite_pos (by omega) ?_))
        rw [Int.toNat_natCast]
        have hd := decode_f (s.extract i s.size) (by rw [← bytes_len, bytes_from, List.length_drop, bytes_len]; omega)
        rw [bytes_from] at hd
        refine Ev.bind' hd ?_
        rw [step_no_escape hp he]
        have hr := dec_range ((bytesOf s).drop i) (fun b hb => bytes_all s b (List.mem_of_mem_drop hb))
        have hn := dec_n ((bytesOf s).drop i)
        rw [List.length_drop, bytes_len] at hn
        cases hok : (dec ((bytesOf s).drop i)).2.2
        · refine Ev.ite_neg (by simp) (Ev.val (by simp))
        · refine Ev.ite_pos rfl (Ev.bind' (may_f p iri _ hr.1 (by omega)) ?_)
          have hn1 := dec_ok_n hok
          cases hm : mayAt p iri (dec ((bytesOf s).drop i)).1
          · refine Ev.ite_neg (by simp) (Ev.val (by simp))
          · refine Ev.ite_pos rfl ?_
            rw [w64 (by omega) (by omega)]
            simp only [Bool.and_self, if_true]
            rw [if_neg (by omega), List.drop_drop]
            have := ih (s.size - (i + (dec ((bytesOf s).drop i)).2.1.toNat)) (by omega) (i + (dec ((bytesOf s).drop i)).2.1.toNat) (by omega)
            have e1 : ((i + (dec ((bytesOf s).drop i)).2.1.toNat : Nat) : Int) = (i : Int) + (dec ((bytesOf s).drop i)).2.1 := by omega
            rw [e1] at this
            have e2 : (i : Int) + (((dec ((bytesOf s).drop i)).2.1.toNat + spanAt p iri ((bytesOf s).drop (i + (dec ((bytesOf s).drop i)).2.1.toNat)) : Nat) : Int) = (i : Int) + (dec ((bytesOf s).drop i)).2.1 + (spanAt p iri ((bytesOf s).drop (i + (dec ((bytesOf s).drop i)).2.1.toNat)) : Int) := by omega
            rw [e2]
            exact this
      · simp only [if_neg he]
        refine Ev.ite_pos (by simp) ?_
        have h3 : stepAt p iri ((bytesOf s).drop i) = 3 := by unfold stepAt; rw [if_pos hp, if_pos (by omega)]
        have hl := step_le p iri ((bytesOf s).drop i)
        rw [h3, List.length_drop, bytes_len] at hl
        rw [h3, w64 (by omega) (by omega), if_neg (by omega), List.drop_drop]
        have := ih (s.size - (i + 3)) (by omega) (i + 3) (by omega)
        have e2 : (i : Int) + ((3 + spanAt p iri ((bytesOf s).drop (i + 3)) : Nat) : Int) = ((i + 3 : Nat) : Int) + (spanAt p iri ((bytesOf s).drop (i + 3)) : Int) := by omega
        rw [e2]
        exact this
    · rw [List.drop_of_length_le (by rw [bytes_len]; omega), span_nil]
      exact Ev.val (by simp)
theorem span_f (p : Int) (iri : Bool) (s : ByteArray) (hs : s.size ≤ 140737488351232) : Ev (fun k => lexis_Span.f k p iri s) (spanAt p iri (bytesOf s) : Int) := by
  unfold lexis_Span.f
  by_cases hp : place p = true
  · have := span_l0 p iri s hs hp s.size 0 (by omega)
    simpa using this
  · have hz : stepAt p iri (bytesOf s) = 0 := by unfold stepAt; rw [if_neg hp]
    rw [span_eq, if_pos hz]
    refine Ev.step (fun k => by rw [lexis_Span.l0]) ?_
    obtain ⟨t, e⟩ := extra_f p
    refine Ev.ite (fun h => Ev.pure_bind e ?_) (fun h => Ev.now _)
    exact Ev.ite_neg hp (Ev.now _)
theorem all_f (p : Int) (iri : Bool) (s : ByteArray) (hs : s.size ≤ 140737488351232) : Ev (fun k => lexis_All.f k p iri s) (allAt p iri (bytesOf s)) := by
  unfold lexis_All.f
  refine Ev.bind' (span_f p iri s hs) (Ev.val ?_)
  unfold allAt
  rw [bytes_len, Bool.eq_iff_iff, beq_iff_eq, beq_iff_eq]
  omega
theorem refStep_f (p : Int) (iri : Bool) (s : ByteArray) (i : Nat) (hi : i ≤ s.size) (hs : s.size ≤ 140737488351232) : Ev (fun k => monikerref18_Step.f k p iri s (i : Int)) (stepAt p iri ((bytesOf s).drop i) : Int) := by
  unfold monikerref18_Step.f
  have bad : place p = false → Ev (fun k => monikerref18_Step.j0 k p iri s (i : Int) true) (stepAt p iri ((bytesOf s).drop i) : Int) := by
    intro hp
    refine Ev.step (fun k => by rw [monikerref18_Step.j0]) ?_
    unfold stepAt
    rw [if_neg (by rw [hp]; simp)]
    exact Ev.ite_pos rfl (Ev.now _)
  refine Ev.ite (fun h => bad (by simp [place]; omega)) (fun h => ?_)
  by_cases h7 : p > 7
  · rw [decide_eq_true h7]
    exact bad (by simp [place]; omega)
  · rw [decide_eq_false h7]
    have hp : place p = true := by simp [place]; omega
    refine Ev.step (fun k => by rw [monikerref18_Step.j0]) ?_
    refine Ev.ite_neg (by simp) (Ev.bind' (refAt_f s i hi hs) ?_)
    by_cases he : escH ((bytesOf s).drop i) < 0
    · refine Ev.ite_neg (by omega) (Ev.ite_pos (by omega) (Ev.ite_pos (by omega) ?_))
      rw [Int.toNat_natCast]
      have hd := refDecode_f (s.extract i s.size) (by rw [← bytes_len, bytes_from, List.length_drop, bytes_len]; omega)
      rw [bytes_from] at hd
      refine Ev.bind' hd ?_
      rw [step_no_escape hp he]
      have hr := dec_range ((bytesOf s).drop i) (fun b hb => bytes_all s b (List.mem_of_mem_drop hb))
      have hn := dec_n ((bytesOf s).drop i)
      cases hok : (dec ((bytesOf s).drop i)).2.2
      · exact Ev.ite_neg (by simp) (Ev.val (by simp))
      · refine Ev.ite_pos rfl (Ev.bind' (refMay_f p iri _ hr.1 (by omega)) ?_)
        cases hm : mayAt p iri (dec ((bytesOf s).drop i)).1
        · exact Ev.ite_neg (by simp) (Ev.val (by simp))
        · refine Ev.ite_pos rfl (Ev.val ?_)
          simp only [Bool.and_self, if_true]
          omega
    · refine Ev.ite_pos (by omega) (Ev.val ?_)
      unfold stepAt
      rw [if_pos hp, if_pos (by omega)]
      rfl
theorem refSpan18_l0 (p : Int) (iri : Bool) (s : ByteArray) (hs : s.size ≤ 140737488351232) : ∀ d i : Nat, i + d = s.size → Ev (fun k => monikerref18_Span.l0 k p iri s (i : Int)) ((i : Int) + spanAt p iri ((bytesOf s).drop i)) := by
  intro d
  induction d using Nat.strongRecOn with
  | _ d ih =>
    intro i hi
    refine Ev.step (fun k => by rw [monikerref18_Span.l0]) ?_
    rw [span_eq]
    refine Ev.ite (fun h => ?_) (fun h => ?_)
    · have hst := refStep_f p iri s i (by omega) hs
      refine Ev.bind' hst ?_
      refine Ev.ite (fun h1 => ?_) (fun h1 => ?_)
      · refine Ev.bind' hst ?_
        have hl := step_le p iri ((bytesOf s).drop i)
        rw [List.length_drop, bytes_len] at hl
        rw [if_neg (by omega), List.drop_drop, w64 (by omega) (by omega)]
        have := ih (s.size - (i + stepAt p iri ((bytesOf s).drop i))) (by omega) (i + stepAt p iri ((bytesOf s).drop i)) (by omega)
        have e2 : (i : Int) + ((stepAt p iri ((bytesOf s).drop i) + spanAt p iri ((bytesOf s).drop (i + stepAt p iri ((bytesOf s).drop i))) : Nat) : Int) = ((i + stepAt p iri ((bytesOf s).drop i) : Nat) : Int) + (spanAt p iri ((bytesOf s).drop (i + stepAt p iri ((bytesOf s).drop i))) : Int) := by omega
        rw [e2]
        exact this
      · rw [if_pos (by omega)]
        exact Ev.val (by simp)
    · rw [List.drop_of_length_le (by rw [bytes_len]; omega), if_pos (step_nil p iri)]
      exact Ev.val (by simp)
theorem refSpan18_f (p : Int) (iri : Bool) (s : ByteArray) (hs : s.size ≤ 140737488351232) : Ev (fun k => monikerref18_Span.f k p iri s) (spanAt p iri (bytesOf s) : Int) := by
  unfold monikerref18_Span.f
  have := refSpan18_l0 p iri s hs s.size 0 (by omega)
  simpa using this
end Go.Proofs.YticohlbfolnmpaaDoor.Y
namespace Go.Proofs.YticohlbfolnmpaaDoor.Y
open Go.RowKit Go.Proofs.YticohlbfolnmpaaDoor.X Go.Proofs.YticohlbfolnmpaaDoor.M Go.Proofs.YticohlbfolnmpaaDoorW.PrintWords Go.Proofs.YticohlbfolnmpaaDoorW.PrintLast Go.Proofs.YticohlbfolnmpaaDoorW.PrintMore
set_option linter.unusedVariables false
def p10 : Nat → Int
  | 0 => 1
  | 1 => 10
  | 2 => 100
  | _ => 1000
theorem p10_step {i : Nat} (hi : i < 3) {n b : Int} (h0 : 0 ≤ n) (h1 : n < p10 i) (b0 : 48 ≤ b) (b1 : b ≤ 57) : 0 ≤ 10 * n + (b - 48) ∧ 10 * n + (b - 48) < p10 (i + 1) ∧ n ≤ 1000 := by
  rcases i with _ | _ | _ | i
  · simp only [p10] at *; omega
  · simp only [p10] at *; omega
  · simp only [p10] at *; omega
  · omega
theorem decimal_l0 (s : ByteArray) (h3 : s.size ≤ 3) : ∀ d i : Nat, ∀ n : Int, i + d = s.size → 0 ≤ n → n < p10 i → Ev (fun k => ip_decimal.l0 k s n (s.size : Int) (i : Int))
    (if ((bytesOf s).drop i).all digit then (((bytesOf s).drop i).foldl (fun n b => 10 * n + (b - 48)) n % 256, decide (((bytesOf s).drop i).foldl (fun n b => 10 * n + (b - 48)) n ≤ 255)) else (0, false)) := by
  intro d
  induction d with
  | zero =>
    intro i n hi _ _
    rw [List.drop_of_length_le (by rw [bytes_len]; omega)]
    refine Ev.step (fun k => by rw [ip_decimal.l0]) ?_
    exact Ev.ite_neg (by omega) (Ev.now _)
  | succ d ih =>
    intro i n hi h0 h1
    rcases at_or_end s i (by omega) with ⟨h, _⟩ | ⟨h, e, b0, b1⟩
    · omega
    refine Ev.step (fun k => by rw [ip_decimal.l0]) ?_
    refine Ev.ite_pos (by omega) (Ev.ite_pos (by omega) (Ev.ite_pos (by omega) (Ev.bind' (is_f 2 b0 b1) ?_)))
    rw [e, isc_digit b0 b1, List.all_cons, List.foldl_cons]
    cases hd : digit (bt s (i : Int))
    · refine Ev.ite_neg (by simp) (Ev.val (by simp))
    · refine Ev.ite_pos rfl ?_
      have hb := digit_iff.1 hd
      have hst := p10_step (i := i) (by omega) h0 h1 hb.1 hb.2
      have e1 : wrap64 (wrap64 (10 * n) + (bt s (i : Int) - 48) % 256) = 10 * n + (bt s (i : Int) - 48) := by
        rw [w64 (x := 10 * n) (by omega) (by omega), w64 (by omega) (by omega)]; omega
      rw [e1, w64 (by omega) (by omega)]
      simp only [Bool.true_and]
      exact ih (i + 1) _ (by omega) hst.1 hst.2.1
theorem decimal_f (s : ByteArray) (hs : s.size ≤ 140737488351232) : ∃ n : Int, Ev (fun k => ip_decimal.f k s) (n, decide (0 ≤ d8 (bytesOf s))) ∧ (0 ≤ d8 (bytesOf s) → n = d8 (bytesOf s)) := by
  have bad : (bytesOf s).length = 0 ∨ 3 < (bytesOf s).length ∨ (1 < (bytesOf s).length ∧ (bytesOf s).headD 0 = 48) → Ev (fun k => ip_decimal.j0 k s true) (0, decide (0 ≤ d8 (bytesOf s))) ∧ ¬ 0 ≤ d8 (bytesOf s) := by
    intro h
    have hd : d8 (bytesOf s) = -1 := by unfold d8; rw [if_pos h]
    rw [hd]
    refine ⟨?_, by omega⟩
    refine Ev.step (fun k => by rw [ip_decimal.j0]) ?_
    exact Ev.ite_pos rfl (Ev.now _)
  have hh : 0 < s.size → (bytesOf s).headD 0 = bt s 0 := by
    intro h
    rcases at_begin s with ⟨h2, _⟩ | ⟨_, e, _⟩
    · omega
    · rw [e]; rfl
  by_cases hb : (bytesOf s).length = 0 ∨ 3 < (bytesOf s).length ∨ (1 < (bytesOf s).length ∧ (bytesOf s).headD 0 = 48)
  · obtain ⟨h1, h2⟩ := bad hb
    refine ⟨0, ?_, fun h => absurd h h2⟩
    unfold ip_decimal.f
    rw [bytes_len] at hb
    refine Ev.ite (fun _ => h1) (fun _ => Ev.ite (fun _ => h1) (fun _ => Ev.ite (fun _ => Ev.ite_pos (by omega) ?_) (fun _ => by omega)))
    have : (bt s 0 == 48) = true := by
      rw [beq_iff_eq, ← hh (by omega)]
      omega
    rw [this]
    exact h1
  · have hb2 := hb
    rw [bytes_len] at hb
    have good : Ev (fun k => ip_decimal.j0 k s false) (if (bytesOf s).all digit then (dval (bytesOf s) % 256, decide (dval (bytesOf s) ≤ 255)) else (0, false)) := by
      refine Ev.step (fun k => by rw [ip_decimal.j0]) ?_
      refine Ev.ite_neg (by simp) ?_
      exact decimal_l0 s (by omega) s.size 0 0 (by omega) (by omega) (by decide)
    have all : Ev (fun k => ip_decimal.f k s) (if (bytesOf s).all digit then (dval (bytesOf s) % 256, decide (dval (bytesOf s) ≤ 255)) else (0, false)) := by
      unfold ip_decimal.f
      refine Ev.ite_neg (by omega) (Ev.ite_neg (by omega) (Ev.ite (fun _ => Ev.ite_pos (by omega) ?_) (fun _ => good)))
      have : (bt s 0 == 48) = false := by
        rw [beq_eq_false_iff_ne, ← hh (by omega)]
        intro h
        omega
      rw [this]
      exact good
    have hr := d8_range (bytesOf s)
    unfold d8 at hr ⊢
    rw [if_neg hb2] at hr ⊢
    cases ha : (bytesOf s).all digit
    · rw [ha] at all
      exact ⟨0, all, by simp⟩
    · rw [ha] at all
      by_cases h255 : dval (bytesOf s) ≤ 255
      · rw [if_pos h255] at hr ⊢
        simp only [if_true] at hr all ⊢
        have h0 := dval_nonneg ha
        rw [decide_eq_true h255] at all
        refine ⟨dval (bytesOf s) % 256, ?_, fun _ => by omega⟩
        rw [decide_eq_true h0]
        exact all
      · rw [decide_eq_false h255] at all
        rw [if_neg h255]
        exact ⟨_, all, by simp⟩
def v4T (l : List Int) : Int × Int × Int × Int × Bool := match v4 l with
  | some (a, b, c, d) => (a, b, c, d, true)
  | none => (0, 0, 0, 0, false)
theorem v4T_ok (l : List Int) : (v4T l).2.2.2.2 = (v4 l).isSome := by
  unfold v4T
  cases v4 l with
  | none => rfl
  | some x => obtain ⟨a, b, c, d⟩ := x; rfl
theorem v4_four (l a b c d : List Int) (h : splitC 46 l = [a, b, c, d]) : v4 l = if 0 ≤ d8 a ∧ 0 ≤ d8 b ∧ 0 ≤ d8 c ∧ 0 ≤ d8 d then some (d8 a, d8 b, d8 c, d8 d) else none := by
  unfold v4; rw [h]
theorem v4_other (l : List Int) (h : (splitC 46 l).length ≠ 4) : v4 l = none := by
  unfold v4
  split
  · rename_i e; rw [e] at h; simp at h
  · rfl
theorem v4_step (R : List ByteArray) (i : Nat) (hi : i < R.length) (p : ByteArray) (hp : rdOf ByteArray.empty R (i : Int) = p) (hsz : p.size ≤ 140737488351232) (h4 : i < 4) (a b c d : Int) (r : Int × Int × Int × Int × Bool)
    (bad : ¬ 0 ≤ d8 (bytesOf p) → r = (0, 0, 0, 0, false))
    (good : 0 ≤ d8 (bytesOf p) → Ev (fun k => ip_V4.l0 k R (R.length : Int) ((i : Int) + 1) (if i = 0 then d8 (bytesOf p) else a) (if i = 1 then d8 (bytesOf p) else b) (if i = 2 then d8 (bytesOf p) else c) (if i = 3 then d8 (bytesOf p) else d)) r) :
    Ev (fun k => ip_V4.l0 k R (R.length : Int) (i : Int) a b c d) r := by
  obtain ⟨n, h1, h2⟩ := decimal_f p hsz
  refine Ev.step (fun k => by rw [ip_V4.l0]) ?_
  rw [hp]
  refine Ev.ite_pos (by omega) (Ev.ite_pos (by omega) (Ev.ite_pos (by omega) (Ev.bind' h1 ?_)))
  simp only
  by_cases hd : 0 ≤ d8 (bytesOf p)
  · rw [decide_eq_true hd]
    rw [h2 hd, w64 (by omega) (by omega)]
    have g := good hd
    refine Ev.ite_pos rfl ?_
    have : i = 0 ∨ i = 1 ∨ i = 2 ∨ i = 3 := by omega
    rcases this with rfl | rfl | rfl | rfl
    · exact Ev.ite_pos (by omega) g
    · exact Ev.ite_neg (by omega) (Ev.ite_pos (by omega) g)
    · exact Ev.ite_neg (by omega) (Ev.ite_neg (by omega) (Ev.ite_pos (by omega) g))
    · exact Ev.ite_neg (by omega) (Ev.ite_neg (by omega) (Ev.ite_neg (by omega) (Ev.ite_pos (by omega) g)))
  · rw [decide_eq_false hd]
    exact Ev.ite_neg (by simp) (Ev.val (bad hd).symm)
theorem four_of {α : Type} {R : List α} (h : R.length = 4) : ∃ a b c d, R = [a, b, c, d] := by
  match R, h with
  | [a, b, c, d], _ => exact ⟨a, b, c, d, rfl⟩
theorem part_size {R : List ByteArray} {c : Int} {l : List Int} (h : R.map bytesOf = splitC c l) {p : ByteArray} (hp : p ∈ R) : p.size ≤ l.length := by
  rw [← bytes_len]
  exact (splitC_mem (c := c) (l := l) _ (by rw [← h]; exact List.mem_map.2 ⟨p, hp, rfl⟩)).2.2
theorem v4_f (s : ByteArray) (hs : s.size ≤ 1000000) : Ev (fun k => ip_V4.f k s) (v4T (bytesOf s)) := by
  obtain ⟨R, hR, hL⟩ := split_f s (⟨#[46]⟩ : ByteArray) 46 rfl (by omega)
  unfold ip_V4.f
  refine Ev.pure_bind hR ?_
  have hlen : R.length = (splitC 46 (bytesOf s)).length := by rw [← hL, List.length_map]
  by_cases h4 : R.length = 4
  · refine Ev.ite_pos (by omega) ?_
    obtain ⟨a, b, c, d, rfl⟩ := four_of h4
    have hsz : ∀ p ∈ [a, b, c, d], p.size ≤ 140737488351232 := fun p hp => by have := part_size hL hp; rw [bytes_len] at this; omega
    have hv := v4_four (bytesOf s) _ _ _ _ (by rw [← hL]; rfl)
    have badv : ¬ (0 ≤ d8 (bytesOf a) ∧ 0 ≤ d8 (bytesOf b) ∧ 0 ≤ d8 (bytesOf c) ∧ 0 ≤ d8 (bytesOf d)) → v4T (bytesOf s) = (0, 0, 0, 0, false) := by
      intro h
      unfold v4T
      rw [hv, if_neg h]
    refine v4_step [a, b, c, d] 0 (by simp) a rfl (hsz a (by simp)) (by omega) 0 0 0 0 _ (fun h => badv (fun x => h x.1)) (fun ha => ?_)
    refine v4_step [a, b, c, d] 1 (by simp) b rfl (hsz b (by simp)) (by omega) _ _ _ _ _ (fun h => badv (fun x => h x.2.1)) (fun hb => ?_)
    refine v4_step [a, b, c, d] 2 (by simp) c rfl (hsz c (by simp)) (by omega) _ _ _ _ _ (fun h => badv (fun x => h x.2.2.1)) (fun hc => ?_)
    refine v4_step [a, b, c, d] 3 (by simp) d rfl (hsz d (by simp)) (by omega) _ _ _ _ _ (fun h => badv (fun x => h x.2.2.2)) (fun hd => ?_)
    refine Ev.step (fun k => by rw [ip_V4.l0]) ?_
    refine Ev.ite_neg (by simp) (Ev.val ?_)
    rw [if_pos ⟨ha, hb, hc, hd⟩] at hv
    unfold v4T
    rw [hv]
    simp
  · refine Ev.ite_neg (by omega) (Ev.val ?_)
    unfold v4T
    rw [v4_other _ (by omega)]
theorem digits_f {n : Int} (h0 : 0 ≤ n) (h1 : n ≤ 255) : ∃ t : ByteArray, Ev (fun k => monikerref19_Digits.f k n) t ∧ bytesOf t = digs n := by
  have := byte_all (p := fun n => ((monikerref19_Digits.f 5 n).map bytesOf) = some (digs n)) (by decide +kernel) h0 h1
  obtain ⟨t, h2, h3⟩ := Option.map_eq_some_iff.1 this
  exact ⟨t, Ev.of (fun k => monikerref19_Digits.mono n k) h2, h3⟩
theorem refV4_l1 (R : List ByteArray) (i : Nat) (hi : i < R.length) (h4 : i < 4) (p : ByteArray) (hp : rdOf ByteArray.empty R (i : Int) = p) (a b c d : Int) (r : Int × Int × Int × Int × Bool)
    (bad : ¬ 0 ≤ d8 (bytesOf p) → r = (0, 0, 0, 0, false))
    (good : 0 ≤ d8 (bytesOf p) → Ev (fun k => monikerref19_V4.l0 k R ((i : Int) + 1) (if i = 0 then d8 (bytesOf p) else a) (if i = 1 then d8 (bytesOf p) else b) (if i = 2 then d8 (bytesOf p) else c) (if i = 3 then d8 (bytesOf p) else d)) r) :
    ∀ m n : Nat, n + m = 256 → Ev (fun k => monikerref19_V4.l1 k R (i : Int) (if 0 ≤ d8 (bytesOf p) ∧ d8 (bytesOf p) < n then d8 (bytesOf p) else -1) (n : Int) a b c d) r := by
  intro m
  induction m with
  | zero =>
    intro n hn
    refine Ev.step (fun k => by rw [monikerref19_V4.l1]) ?_
    refine Ev.ite_neg (by omega) ?_
    have hr := d8_range (bytesOf p)
    by_cases hd : 0 ≤ d8 (bytesOf p)
    · rw [if_pos ⟨hd, by omega⟩, w64 (by omega) (by omega)]
      have g := good hd
      refine Ev.ite_neg (by omega) (Ev.ite_pos (by omega) ?_)
      have : i = 0 ∨ i = 1 ∨ i = 2 ∨ i = 3 := by omega
      rcases this with rfl | rfl | rfl | rfl
      · exact Ev.ite_pos (by omega) g
      · exact Ev.ite_neg (by omega) (Ev.ite_pos (by omega) g)
      · exact Ev.ite_neg (by omega) (Ev.ite_neg (by omega) (Ev.ite_pos (by omega) g))
      · exact Ev.ite_neg (by omega) (Ev.ite_neg (by omega) (Ev.ite_neg (by omega) (Ev.ite_pos (by omega) g)))
    · rw [if_neg (fun x => hd x.1)]
      exact Ev.ite_pos (by omega) (Ev.val (bad hd).symm)
  | succ m ih =>
    intro n hn
    obtain ⟨t, h1, h2⟩ := digits_f (n := (n : Int)) (by omega) (by omega)
    refine Ev.step (fun k => by rw [monikerref19_V4.l1]) ?_
    refine Ev.ite_pos (by omega) (Ev.bind' h1 (Ev.ite_pos (by omega) (Ev.ite_pos (by omega) ?_)))
    rw [hp, w64 (by omega) (by omega)]
    have key : t.toList = p.toList ↔ d8 (bytesOf p) = (n : Int) := by
      rw [toList_iff, h2]
      exact d8_iff (by omega) (by omega)
    have nx := ih (n + 1) (by omega)
    refine Ev.ite (fun h => ?_) (fun h => ?_)
    · have e := key.1 h
      have e2 : (if 0 ≤ d8 (bytesOf p) ∧ d8 (bytesOf p) < ((n + 1 : Nat) : Int) then d8 (bytesOf p) else -1) = (n : Int) := by rw [if_pos (by omega), e]
      rw [e2] at nx
      exact nx
    · have e := fun x => h (key.2 x)
      have e2 : (if 0 ≤ d8 (bytesOf p) ∧ d8 (bytesOf p) < ((n + 1 : Nat) : Int) then d8 (bytesOf p) else -1) = (if 0 ≤ d8 (bytesOf p) ∧ d8 (bytesOf p) < (n : Int) then d8 (bytesOf p) else -1) := by
        by_cases hc : 0 ≤ d8 (bytesOf p) ∧ d8 (bytesOf p) < (n : Int)
        · rw [if_pos hc, if_pos ⟨hc.1, by omega⟩]
        · rw [if_neg hc, if_neg (fun x => hc ⟨x.1, by have : d8 (bytesOf p) ≠ (n : Int) := e; omega⟩)]
      rw [e2] at nx
      exact nx
theorem refV4_step (R : List ByteArray) (i : Nat) (hi : i < R.length) (h4 : i < 4) (p : ByteArray) (hp : rdOf ByteArray.empty R (i : Int) = p) (a b c d : Int) (r : Int × Int × Int × Int × Bool)
    (bad : ¬ 0 ≤ d8 (bytesOf p) → r = (0, 0, 0, 0, false))
    (good : 0 ≤ d8 (bytesOf p) → Ev (fun k => monikerref19_V4.l0 k R ((i : Int) + 1) (if i = 0 then d8 (bytesOf p) else a) (if i = 1 then d8 (bytesOf p) else b) (if i = 2 then d8 (bytesOf p) else c) (if i = 3 then d8 (bytesOf p) else d)) r) :
    Ev (fun k => monikerref19_V4.l0 k R (i : Int) a b c d) r := by
  refine Ev.step (fun k => by rw [monikerref19_V4.l0]) ?_
  refine Ev.ite_pos (by omega) ?_
  have := refV4_l1 R i hi h4 p hp a b c d r bad good 256 0 (by omega)
  rw [if_neg (by omega)] at this
  exact this
theorem refV4_f (s : ByteArray) (hs : s.size ≤ 1000000) : Ev (fun k => monikerref19_V4.f k s) (v4T (bytesOf s)) := by
  obtain ⟨R, hR, hL⟩ := parts_f s 46 hs
  unfold monikerref19_V4.f
  refine Ev.bind' hR ?_
  have hlen : R.length = (splitC 46 (bytesOf s)).length := by rw [← hL, List.length_map]
  by_cases h4 : R.length = 4
  · refine Ev.ite_pos (by omega) ?_
    obtain ⟨a, b, c, d, rfl⟩ := four_of h4
    have hv := v4_four (bytesOf s) _ _ _ _ (by rw [← hL]; rfl)
    have badv : ¬ (0 ≤ d8 (bytesOf a) ∧ 0 ≤ d8 (bytesOf b) ∧ 0 ≤ d8 (bytesOf c) ∧ 0 ≤ d8 (bytesOf d)) → v4T (bytesOf s) = (0, 0, 0, 0, false) := by
      intro h
      unfold v4T
      rw [hv, if_neg h]
    refine refV4_step [a, b, c, d] 0 (by simp) (by omega) a rfl 0 0 0 0 _ (fun h => badv (fun x => h x.1)) (fun ha => ?_)
    refine refV4_step [a, b, c, d] 1 (by simp) (by omega) b rfl _ _ _ _ _ (fun h => badv (fun x => h x.2.1)) (fun hb => ?_)
    refine refV4_step [a, b, c, d] 2 (by simp) (by omega) c rfl _ _ _ _ _ (fun h => badv (fun x => h x.2.2.1)) (fun hc => ?_)
    refine refV4_step [a, b, c, d] 3 (by simp) (by omega) d rfl _ _ _ _ _ (fun h => badv (fun x => h x.2.2.2)) (fun hd => ?_)
    refine Ev.step (fun k => by rw [monikerref19_V4.l0]) ?_
    refine Ev.ite_neg (by simp) (Ev.val ?_)
    rw [if_pos ⟨ha, hb, hc, hd⟩] at hv
    unfold v4T
    rw [hv]
    simp
  · refine Ev.ite_neg (by omega) (Ev.val ?_)
    unfold v4T
    rw [v4_other _ (by omega)]
end Go.Proofs.YticohlbfolnmpaaDoor.Y
