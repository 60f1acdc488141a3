/- The law SyntaxLong of layer 22, for every input: A text of more bytes than may be is refused ahead of all other faults; one of as many isn't. No condition beside the row's own. -/
import Derived.Test.YtpmflpeckoeooaaDoorZSyntaxLong1
import Derived.Test.YtpmflpeckoeooaaDoorZSyntaxLong3
import Derived.Test.YtpmflpeckoeooaaDoorZSyntaxLong8
import Derived.Test.YtpmflpeckoeooaaDoorZSyntaxLong9
import Derived.Test.YtpmflpeckoeooaaDoorZSyntaxLong10
import Derived.Test.YtpmflpeckoeooaaDoorZSyntaxLong11
import Derived.Test.YtpmflpeckoeooaaDoorZSyntaxLong12
import Derived.Test.YtpmflpeckoeooaaDoorZSyntaxLong13
import Derived.Laws.BytesArg
import Derived.Test.YtpmflpeckoeooaaDoorRows
import Derived.Test.YtpmflpeckoeooaaDoorCards
import Derived.Test.YtpmflpeckoeooaaDoorTie
import Derived.WalkKit
import Derived.ProofKit
import Derived.OpenShut
import Derived.ShutString
import Derived.ChangeOld
import Derived.Below
import Derived.SizedLaws
import Derived.ChangeArms
import Derived.Lib.SmallJoins
import Derived.Deep.DeepHandedRow
import Derived.Lib.LaidTab
import Derived.Shelf.Vars
import Derived.MakeChecks
namespace Go.Proofs.YtpmflpeckoeooaaDoor.M
open Go Go.RowKit Go.Proofs.YtpmflpeckoeooaaDoorW.PrintWords
theorem conts_cut (n : Nat) (lo hi c : Int) (t r : List Int) (hlo : n ≠ 0 → 128 ≤ lo) (hc : c < 128) : conts n lo hi (t ++ c :: r) = conts n lo hi t := by
  induction n generalizing lo hi t with
  | zero => simp [conts]
  | succ n ih =>
    have hlo := hlo (by omega)
    cases t with
    | nil => simp only [List.nil_append, conts]; rw [if_neg (by omega)]
    | cons d t =>
      simp only [List.cons_append, conts]
      rw [ih 128 191 t (fun _ => by omega)]
theorem shp_lo {b : Int} : (shp b).1.toNat - 1 ≠ 0 → 128 ≤ (shp b).2.1 := fun h => (shp_bounds (by omega)).1
theorem dec_cut (b c : Int) (t r : List Int) (hc : c < 128) : ((dec (b :: t)).2.2 = true ∧ dec (b :: t ++ c :: r) = dec (b :: t)) ∨ ((dec (b :: t)).2.2 = false ∧ (dec (b :: t ++ c :: r)).2.2 = false) := by
  rw [List.cons_append, dec_cons, dec_cons, conts_cut _ _ _ c t r shp_lo hc]
  by_cases h0 : (shp b).1 = 0
  · right; simp [h0]
  · rw [if_neg h0, if_neg h0]
    by_cases h1 : (conts ((shp b).1.toNat - 1) (shp b).2.1 (shp b).2.2 t : Int) + 1 < (shp b).1
    · right; simp [h1]
    · left
      rw [if_neg h1, if_neg h1]
      refine ⟨rfl, ?_⟩
      have hl := (conts_le ((shp b).1.toNat - 1) (shp b).2.1 (shp b).2.2 t).2
      rw [List.take_append_of_le_length (by omega)]
theorem escH_cut (c : Int) (r : List Int) (hc : hv c < 0) : ∀ a : List Int, a ≠ [] → (escH (a ++ c :: r) = escH a ∨ (escH (a ++ c :: r) < 0 ∧ escH a < 0))
  | [], h => absurd rfl h
  | [b], _ => by
    right
    cases r with
    | nil => exact ⟨show (-1 : Int) < 0 by decide, show (-1 : Int) < 0 by decide⟩
    | cons d r =>
      simp only [List.cons_append, List.nil_append, escH]
      refine ⟨?_, show (-1 : Int) < 0 by decide⟩
      split
      · rw [if_pos (.inl hc)]; decide
      · decide
  | [b, d], _ => by
    right
    simp only [List.cons_append, List.nil_append, escH]
    refine ⟨?_, show (-1 : Int) < 0 by decide⟩
    split
    · rw [if_pos (.inr hc)]; decide
    · decide
  | b :: d :: e :: a, _ => .inl rfl
theorem step_cut (p : Int) (iri : Bool) (c : Int) (a r : List Int) (ha : a ≠ []) (hc : c < 128) (hx : hv c < 0) : stepAt p iri (a ++ c :: r) = stepAt p iri a := by
  unfold stepAt
  by_cases hp : place p = true
  · simp only [if_pos hp]
    have he : (0 ≤ escH (a ++ c :: r)) = (0 ≤ escH a) := by
      rcases escH_cut c r hx a ha with h | ⟨h1, h2⟩
      · rw [h]
      · exact propext ⟨fun h => by omega, fun h => by omega⟩
    simp only [he]
    by_cases h0 : 0 ≤ escH a
    · rw [if_pos h0, if_pos h0]
    · rw [if_neg h0, if_neg h0]
      cases a with
      | nil => exact absurd rfl ha
      | cons b t =>
        rcases dec_cut b c t r hc with ⟨h1, h2⟩ | ⟨h1, h2⟩
        · rw [h2]
        · rw [h1, h2]; simp
  · simp only [if_neg hp]
theorem step_stop {p : Int} {iri : Bool} {c : Int} {r : List Int} (h0 : 0 ≤ c) (hc : c < 128) (h37 : c ≠ 37) (hm : plainAt p c = false) : stepAt p iri (c :: r) = 0 := by
  unfold stepAt
  split
  · have he : escH (c :: r) = -1 := by
      match r with
      | [] => rfl
      | [_] => rfl
      | a :: b :: t => show (if c = 37 then _ else _) = _; rw [if_neg h37]
    rw [if_neg (by omega), dec_ascii r hc]
    have : mayAt p iri c = false := by unfold mayAt; rw [if_pos ⟨h0, hc⟩]; exact hm
    simp [this]
  · rfl
theorem span_cut (p : Int) (iri : Bool) (c : Int) (r : List Int) (h0 : 0 ≤ c) (hc : c < 128) (h37 : c ≠ 37) (hx : hv c < 0) (hm : plainAt p c = false) : ∀ (n : Nat) (a : List Int), a.length = n → spanAt p iri (a ++ c :: r) = spanAt p iri a := by
  intro n
  induction n using Nat.strongRecOn with
  | _ n ih =>
    intro a hn
    by_cases ha : a = []
    · subst ha
      rw [List.nil_append, span_eq, step_stop h0 hc h37 hm, if_pos rfl, span_nil]
    · rw [span_eq p iri (a ++ c :: r), span_eq p iri a, step_cut p iri c a r ha hc hx]
      by_cases hs : stepAt p iri a = 0
      · rw [if_pos hs, if_pos hs]
      · rw [if_neg hs, if_neg hs]
        have hl := step_le p iri a
        rw [List.drop_append_of_le_length hl, ih (a.drop (stepAt p iri a)).length (by rw [List.length_drop]; omega) _ rfl]
def within (p q : Int) (iri : Bool) : Prop := place q = true ∧ ∀ r, mayAt p iri r = true → mayAt q iri r = true
theorem step_within {p q : Int} {iri : Bool} (h : within p q iri) {l : List Int} (hs : stepAt p iri l ≠ 0) : stepAt q iri l = stepAt p iri l := by
  unfold stepAt at hs ⊢
  by_cases hp : place p = true
  · rw [if_pos hp] at hs ⊢
    rw [if_pos h.1]
    by_cases he : 0 ≤ escH l
    · rw [if_pos he, if_pos he]
    · rw [if_neg he] at hs ⊢
      rw [if_neg he]
      by_cases hm : ((dec l).2.2 && mayAt p iri (dec l).1) = true
      · rw [if_pos hm]
        rw [Bool.and_eq_true] at hm
        rw [if_pos (by rw [Bool.and_eq_true]; exact ⟨hm.1, h.2 _ hm.2⟩)]
      · rw [if_neg hm] at hs; exact absurd rfl hs
  · rw [if_neg hp] at hs; exact absurd rfl hs
theorem span_within {p q : Int} {iri : Bool} (h : within p q iri) : ∀ (n : Nat) (l : List Int), l.length = n → spanAt q iri l = spanAt p iri l + spanAt q iri (l.drop (spanAt p iri l)) := by
  intro n
  induction n using Nat.strongRecOn with
  | _ n ih =>
    intro l hn
    by_cases hs : stepAt p iri l = 0
    · have : spanAt p iri l = 0 := by rw [span_eq, if_pos hs]
      rw [this, Nat.zero_add, List.drop_zero]
    · have hq := step_within h hs
      have hl := step_le p iri l
      have e : spanAt p iri l = stepAt p iri l + spanAt p iri (l.drop (stepAt p iri l)) := by rw [span_eq p iri l, if_neg hs]
      have hz : l.length ≠ 0 := by
        intro hz
        rw [List.length_eq_zero_iff.1 hz, step_nil] at hs
        exact hs rfl
      rw [span_eq q iri l, if_neg (by rw [hq]; exact hs), hq, ih (l.drop (stepAt p iri l)).length (by rw [List.length_drop]; omega) _ rfl, e, List.drop_drop]
      omega
theorem within_of {p q : Int} {iri : Bool} (hp : place p = true) (hq : place q = true) (hp6 : p ≠ 6) (h : ∀ b, extraIn p b = true → extraIn q b = true) : within p q iri := by
  refine ⟨hq, fun r hr => ?_⟩
  unfold mayAt at hr ⊢
  by_cases h1 : 0 ≤ r ∧ r < 128
  · rw [if_pos h1] at hr ⊢
    unfold plainAt at hr ⊢
    rw [hp] at hr
    rw [hq]
    simp only [Bool.true_and, Bool.or_eq_true] at hr ⊢
    exact hr.imp_right (h r)
  · rw [if_neg h1] at hr ⊢
    rw [hp] at hr
    rw [hq]
    have : decide (p = 6) = false := by simpa using hp6
    rw [this] at hr
    simp only [Bool.and_true, Bool.false_and, Bool.or_false, Bool.and_eq_true] at hr
    simp [hr.1, hr.2]
theorem within45 (iri : Bool) : within 4 5 iri := within_of (by decide) (by decide) (by decide) (fun b h => by
  simp only [extraIn] at h ⊢
  simp at h ⊢
  exact .inl (.inr h))
theorem lead_lo {b : Int} (h0 : 0 ≤ b) (h1 : b ≤ 255) : ((shp b).1 = 2 → 2 ≤ lead 2 b) ∧ ((shp b).1 = 3 → 2 ≤ lead 3 b * 64 + ((shp b).2.1 - 128) ∧ 0 ≤ lead 3 b) ∧ ((shp b).1 = 4 → 2 ≤ lead 4 b * 64 + ((shp b).2.1 - 128) ∧ 0 ≤ lead 4 b) :=
  byte_all (p := fun b => ((shp b).1 = 2 → 2 ≤ lead 2 b) ∧ ((shp b).1 = 3 → 2 ≤ lead 3 b * 64 + ((shp b).2.1 - 128) ∧ 0 ≤ lead 3 b) ∧ ((shp b).1 = 4 → 2 ≤ lead 4 b * 64 + ((shp b).2.1 - 128) ∧ 0 ≤ lead 4 b)) (by decide +kernel) h0 h1
theorem conts_first {n : Nat} {lo hi : Int} {t : List Int} (h : n + 1 ≤ conts (n + 1) lo hi t) : ∃ c u, t = c :: u ∧ lo ≤ c ∧ c ≤ hi ∧ n ≤ conts n 128 191 u := by
  cases t with
  | nil => simp [conts] at h
  | cons c u =>
    simp only [conts] at h
    split at h
    · exact ⟨c, u, rfl, by omega, by omega, by omega⟩
    · omega
theorem dec_beyond {b : Int} {t : List Int} (h0 : 0 ≤ b) (h1 : b ≤ 255) (ok : (dec (b :: t)).2.2 = true) (hr : (dec (b :: t)).1 < 128) : b < 128 ∧ (dec (b :: t)).1 = b ∧ (dec (b :: t)).2.1 = 1 := by
  by_cases hb : b < 128
  · rw [dec_ascii t hb]; exact ⟨hb, rfl, rfl⟩
  · exfalso
    have hs := shp_range b
    have hl := lead_lo h0 h1
    rw [dec_cons] at ok hr
    by_cases hz : (shp b).1 = 0
    · rw [if_pos hz] at ok; cases ok
    · rw [if_neg hz] at ok hr
      by_cases hcn : (conts ((shp b).1.toNat - 1) (shp b).2.1 (shp b).2.2 t : Int) + 1 < (shp b).1
      · rw [if_pos hcn] at ok; cases ok
      · rw [if_neg hcn] at hr
        simp only at hr
        have h1' : (shp b).1 ≠ 1 := by
          have := byte_all (p := fun b => ¬ b < 128 → (shp b).1 ≠ 1) (by decide +kernel) h0 h1
          exact this hb
        have hbd := shp_bounds (b := b) (by omega)
        obtain ⟨m, hm⟩ : ∃ m : Nat, (shp b).1.toNat - 1 = m + 1 := ⟨(shp b).1.toNat - 2, by omega⟩
        rw [hm] at hr hcn
        obtain ⟨c, u, rfl, hc1, hc2, hu⟩ := conts_first (n := m) (lo := (shp b).2.1) (hi := (shp b).2.2) (t := t) (by omega)
        rw [List.take_succ_cons] at hr
        have hmem : ∀ d ∈ u.take m, 128 ≤ d := fun d hd => by
          have hle := (conts_le m 128 191 u).1
          have := conts_mem m 128 191 (by omega) (by omega) u d (by
            have : conts m 128 191 u = m := by omega
            rw [this]; exact hd)
          exact this.1
        have hacc : accum (lead (shp b).1 b) (c :: u.take m) = accum (lead (shp b).1 b * 64 + (c - 128)) (u.take m) := rfl
        rw [hacc] at hr
        have h234 : (shp b).1 = 2 ∨ (shp b).1 = 3 ∨ (shp b).1 = 4 := by omega
        rcases h234 with h | h | h
        · have := hl.1 h
          rw [h] at hr
          have hm0 : m = 0 := by omega
          subst hm0
          simp only [List.take_zero, accum] at hr
          omega
        · have := hl.2.1 h
          rw [h] at hr
          have hm0 : m = 1 := by omega
          subst hm0
          cases u with
          | nil => simp [conts] at hu
          | cons d u =>
            have hd := hmem d (by simp)
            simp only [List.take_succ_cons, List.take_zero, accum] at hr
            omega
        · have := hl.2.2 h
          rw [h] at hr
          have hm0 : m = 2 := by omega
          subst hm0
          match u, hu, hmem, hr with
          | [], hu, _, _ => simp [conts] at hu
          | [d], hu, _, _ => simp only [conts] at hu; split at hu <;> simp at hu
          | d :: e :: u, _, hmem, hr =>
            have hd := hmem d (by simp)
            have he := hmem e (by simp)
            simp only [List.take_succ_cons, List.take_zero, accum] at hr
            omega
theorem step_between {iri : Bool} {l : List Int} (hl : ∀ b ∈ l, 0 ≤ b ∧ b ≤ 255) (h4 : stepAt 4 iri l = 0) (h5 : stepAt 5 iri l ≠ 0) : ∃ t, l = 58 :: t ∨ l = 47 :: t := by
  unfold stepAt at h4 h5
  rw [if_pos (by decide)] at h4 h5
  by_cases he : 0 ≤ escH l
  · rw [if_pos he] at h4; omega
  · rw [if_neg he] at h4 h5
    cases l with
    | nil => simp [dec] at h5
    | cons b t =>
      by_cases hm : ((dec (b :: t)).2.2 && mayAt 5 iri (dec (b :: t)).1) = true
      · have hm' := hm
        rw [Bool.and_eq_true] at hm
        have hn := dec_ok_n hm.1
        have h4' : mayAt 4 iri (dec (b :: t)).1 = false := by
          cases h : mayAt 4 iri (dec (b :: t)).1 with
          | false => rfl
          | true => rw [if_pos (by rw [hm.1, h]; rfl)] at h4; omega
        have hb := hl b (by simp)
        unfold mayAt at h4' hm
        by_cases hr : 0 ≤ (dec (b :: t)).1 ∧ (dec (b :: t)).1 < 128
        · rw [if_pos hr] at h4' hm
          have hd := dec_beyond hb.1 hb.2 hm.1 hr.2
          rw [hd.2.1] at h4' hm
          unfold plainAt extraIn at h4' hm
          have p4 : place 4 = true := by decide
          have p5 : place 5 = true := by decide
          rw [p4] at h4'
          rw [p5] at hm
          simp at h4' hm
          have hm2 := hm.2
          rw [h4'.1] at hm2
          have h64 := h4'.2
          refine ⟨t, ?_⟩
          simp only [Bool.false_eq_true, false_or] at hm2
          rcases hm2 with (h | h) | h
          · left; rw [h]
          · exact absurd h h64
          · right; rw [h]
        · rw [if_neg hr] at h4' hm
          have p4 : place 4 = true := by decide
          have p5 : place 5 = true := by decide
          rw [p4] at h4'
          rw [p5] at hm
          simp at h4' hm
          have := h4' hm.2.1
          rw [hm.2.2] at this
          cases this
      · rw [if_neg hm] at h5; exact absurd rfl h5
def aheadL (set : List Int) (l : List Int) : Nat := spanp (fun b => !set.contains b) l
theorem ahead_le (set l : List Int) : aheadL set l ≤ l.length := spanp_le _ _
theorem ahead_cons (set : List Int) (b : Int) (t : List Int) : aheadL set (b :: t) = if set.contains b then 0 else aheadL set t + 1 := by
  unfold aheadL
  show (if (!set.contains b) = true then _ else _) = _
  cases set.contains b <;> rfl
theorem ahead_none (set l : List Int) : ∀ b ∈ l.take (aheadL set l), b ∉ set := fun b hb => by
  have := spanp_take (p := fun b => !set.contains b) l b hb
  simpa using this
theorem ahead_at {set l : List Int} (h : aheadL set l < l.length) : ∃ b t, l.drop (aheadL set l) = b :: t ∧ b ∈ set := by
  cases e : l.drop (aheadL set l) with
  | nil => have := congrArg List.length e; rw [List.length_drop] at this; simp at this; omega
  | cons b t =>
    have := spanp_next (p := fun b => !set.contains b) e
    exact ⟨b, t, rfl, by simpa using this⟩
theorem fidx_ahead (set l : List Int) : fidx (fun b => set.contains b) l = if aheadL set l = l.length then -1 else (aheadL set l : Int) := by
  induction l with
  | nil => rfl
  | cons b t ih =>
    have := ahead_le set t
    rw [fidx_cons, ahead_cons, ih, List.length_cons]
    cases set.contains b
    · simp only [Bool.false_eq_true, if_false]
      split <;> split <;> (try split) <;> omega
    · simp
def schemeL (l : List Int) : Bool := alpha (l.headD 0) && l.all fun b => alnum b || [43, 45, 46].contains b
theorem schemeL_nil : schemeL [] = false := by decide
def pathL (iri ns ha : Bool) (l : List Int) : Bool :=
  allAt 5 iri l && (if ha then l == [] || l.headD 0 == 47 else !(l.take 2 == [47, 47]) && (!ns || !(l.getD (spanAt 4 iri l) 0 == 58)))
theorem span_step (p : Int) (iri : Bool) (l : List Int) : spanAt p iri l = 0 ↔ stepAt p iri l = 0 := by
  rw [span_eq]
  constructor
  · intro h
    by_cases hs : stepAt p iri l = 0
    · exact hs
    · rw [if_neg hs] at h; omega
  · intro h; rw [if_pos h]
end Go.Proofs.YtpmflpeckoeooaaDoor.M
namespace Go.Proofs.YtpmflpeckoeooaaDoor.Y
open Go.RowKit Go.Proofs.YtpmflpeckoeooaaDoor.X Go.Proofs.YtpmflpeckoeooaaDoor.M Go.Proofs.YtpmflpeckoeooaaDoorW.PrintWords Go.Proofs.YtpmflpeckoeooaaDoorW.PrintLast Go.Proofs.YtpmflpeckoeooaaDoorW.PrintMore
set_option linter.unusedVariables false
set_option linter.unusedSimpArgs false
theorem at_drop_bt {s : ByteArray} {n : Nat} (h : n < s.size) : (bytesOf s).drop n = bt s (n : Int) :: (bytesOf s).drop (n + 1) := by
  rcases at_or_end s n (by omega) with ⟨h1, _⟩ | ⟨_, h1, _⟩
  · omega
  · exact h1
theorem findA_f (s t : ByteArray) (n : Nat) (hn : n ≤ s.size) (hs : s.size ≤ 140737488351232) (ht : t.size ≤ 140737488351232) :
    Ev (fun k => octet_Find.f k s (n : Int) t) (if aheadL (bytesOf t) ((bytesOf s).drop n) = s.size - n then -1 else (n : Int) + aheadL (bytesOf t) ((bytesOf s).drop n)) := by
  have h := find_f s t n hn hs ht
  simp only at h
  rw [fidx_ahead, List.length_drop, bytes_len] at h
  by_cases he : aheadL (bytesOf t) ((bytesOf s).drop n) = s.size - n
  · rw [if_pos he] at h ⊢
    simpa using h
  · rw [if_neg he] at h ⊢
    rw [if_neg (by omega)] at h
    exact h
def schB (b : Int) : Bool := alnum b || [43, 45, 46].contains b
theorem one_byte {s : ByteArray} {n : Nat} (h : n < s.size) : bytesOf (s.extract n (n + 1)) = [bt s (n : Int)] := by
  rw [bytes_extract, List.drop_take, at_drop_bt h, show n + 1 - n = 1 by omega]
  rfl
theorem sign_f {s : ByteArray} {n : Nat} (h : n < s.size) : ∃ z, Ev (fun k => octet_Find.f k (⟨#[43, 45, 46]⟩ : ByteArray) 0 (s.extract n (n + 1))) z ∧ (z < 0 ↔ [43, 45, 46].contains (bt s (n : Int)) = false) := by
  have hsz : (s.extract n (n + 1)).size = 1 := by rw [← bytes_len, one_byte h]; rfl
  refine ⟨_, find_f (⟨#[43, 45, 46]⟩ : ByteArray) (s.extract n (n + 1)) 0 (by decide) (by decide) (by rw [hsz]; decide), ?_⟩
  rw [one_byte h]
  have e : (bytesOf (⟨#[43, 45, 46]⟩ : ByteArray)).drop 0 = [43, 45, 46] := by decide +kernel
  rw [e]
  generalize bt s (n : Int) = c
  simp only [fidx, List.contains_cons, List.contains_nil, Bool.or_false]
  by_cases h1 : (43 : Int) == c
  · simp only [h1, if_true]
    have : (c == (43 : Int)) = true := by rw [beq_iff_eq] at h1 ⊢; exact h1.symm
    rw [this]; simp
  · have h1' : ((43 : Int) == c) = false := by simpa using h1
    have h1'' : (c == (43 : Int)) = false := by rw [beq_eq_false_iff_ne] at h1' ⊢; exact fun h => h1' h.symm
    by_cases h2 : (45 : Int) == c
    · simp only [h1', h2, if_true]
      have : (c == (45 : Int)) = true := by rw [beq_iff_eq] at h2 ⊢; exact h2.symm
      rw [this]; simp
    · have h2' : ((45 : Int) == c) = false := by simpa using h2
      have h2'' : (c == (45 : Int)) = false := by rw [beq_eq_false_iff_ne] at h2' ⊢; exact fun h => h2' h.symm
      by_cases h3 : (46 : Int) == c
      · simp only [h1', h2', h3, if_true]
        have : (c == (46 : Int)) = true := by rw [beq_iff_eq] at h3 ⊢; exact h3.symm
        rw [this]; simp
      · have h3' : ((46 : Int) == c) = false := by simpa using h3
        have h3'' : (c == (46 : Int)) = false := by rw [beq_eq_false_iff_ne] at h3' ⊢; exact fun h => h3' h.symm
        simp only [h1', h2', h3', h1'', h2'', h3'']
        simp
theorem scheme_l0 (s : ByteArray) (hs : s.size ≤ 140737488351232) : ∀ d n : Nat, n + d = s.size → Ev (fun k => lexis_Scheme.l0 k s (s.size : Int) (n : Int)) (((bytesOf s).drop n).all schB) := by
  intro d
  induction d with
  | zero =>
    intro n hn
    refine Ev.step (fun k => by rw [lexis_Scheme.l0]) (Ev.ite_neg (by omega) (Ev.val ?_))
    rw [List.drop_of_length_le (by rw [bytes_len]; omega)]; rfl
  | succ d ih =>
    intro n hn
    have hr := bt_rng s (n : Int)
    refine Ev.step (fun k => by rw [lexis_Scheme.l0]) (Ev.ite_pos (by omega) (Ev.ite_pos (by omega) (Ev.ite_pos (by omega) (Ev.bind' (is_f 3 hr.1 hr.2) ?_))))
    rw [isc_alnum hr.1 hr.2, at_drop_bt (by omega), List.all_cons, w64 (by omega) (by omega)]
    have nx := ih (n + 1) (by omega)
    have e1 : ((n + 1 : Nat) : Int) = (n : Int) + 1 := by omega
    rw [e1] at nx
    cases ha : alnum (bt s (n : Int))
    · refine Ev.ite_neg (by simp) (Ev.ite_pos (by omega) (Ev.ite_pos (by omega) ?_))
      have e2 : ((n : Int) + 1).toNat = n + 1 := by omega
      rw [e2, Int.toNat_natCast]
      obtain ⟨z, hz, hz2⟩ := sign_f (s := s) (n := n) (by omega)
      refine Ev.bind' hz (Ev.ite (fun h => ?_) (fun h => ?_))
      · refine Ev.val ?_
        unfold schB; rw [ha, hz2.1 h]; rfl
      · have hc : [43, 45, 46].contains (bt s (n : Int)) = true := by
          cases h' : [43, 45, 46].contains (bt s (n : Int)) with
          | true => rfl
          | false => exact absurd (hz2.2 h') h
        have : schB (bt s (n : Int)) = true := by unfold schB; rw [hc]; simp
        rw [this, Bool.true_and]
        exact nx
    · refine Ev.ite_pos rfl ?_
      have : schB (bt s (n : Int)) = true := by unfold schB; rw [ha]; rfl
      rw [this, Bool.true_and]
      exact nx
theorem headD_bt {s : ByteArray} (h : 0 < s.size) : (bytesOf s).headD 0 = bt s 0 := by
  have := at_drop_bt (s := s) (n := 0) h
  rw [List.drop_zero] at this
  rw [this]; rfl
theorem toList_nil (s : ByteArray) : s.toList = ([] : List UInt8) ↔ bytesOf s = [] := by
  rw [toList_data]
  unfold bytesOf
  simp
theorem scheme_f (s : ByteArray) (hs : s.size ≤ 140737488351232) : Ev (fun k => lexis_Scheme.f k s) (schemeL (bytesOf s)) := by
  unfold lexis_Scheme.f
  refine Ev.ite (fun h => ?_) (fun h => ?_)
  · rw [(toList_nil s).1 h, schemeL_nil]
    exact Ev.step (fun k => by rw [lexis_Scheme.j0]) (Ev.ite_pos rfl (Ev.now _))
  · have hp : 0 < s.size := by
      rcases Nat.eq_zero_or_pos s.size with hz | hz
      · exact absurd ((toList_nil s).2 (List.length_eq_zero_iff.1 (by rw [bytes_len]; exact hz))) h
      · exact hz
    have hr := bt_rng s 0
    refine Ev.ite_pos (by omega) (Ev.bind' (is_f 1 hr.1 hr.2) (Ev.step (fun k => by rw [lexis_Scheme.j0]) ?_))
    rw [isc_alpha hr.1 hr.2]
    unfold schemeL
    rw [headD_bt hp]
    cases ha : alpha (bt s 0)
    · exact Ev.ite_pos rfl (Ev.val rfl)
    · refine Ev.ite_neg (by simp) ?_
      have := scheme_l0 s hs s.size 0 (by omega)
      rw [List.drop_zero] at this
      rw [Bool.true_and]
      exact this
def mayP (kind : Int) (sch : ByteArray) (ha : Bool) (aut pth q : ByteArray) (hf : Bool) (f : ByteArray) : Bool :=
  (if bytesOf sch = [] then kind == 2 || kind == 5 else schemeL (bytesOf sch)) && (!(hf && kind == 3) && ((!ha || rightP (decide (kind ≥ 4)) (partS aut)) &&
    (pathL (decide (kind ≥ 4)) (bytesOf sch == []) ha (bytesOf pth) && (allAt 6 (decide (kind ≥ 4)) (bytesOf q) && allAt 7 (decide (kind ≥ 4)) (bytesOf f)))))
end Go.Proofs.YtpmflpeckoeooaaDoor.Y
namespace Go.Proofs.YtpmflpeckoeooaaDoor.M
open Go Go.RowKit Go.Proofs.YtpmflpeckoeooaaDoorW.PrintWords
def pI (l : List Int) : Nat := aheadL [58, 47, 63, 35] l
def cS (l : List Int) : Bool := decide (0 < pI l) && (l.getD (pI l) 0 == 58)
def pC (l : List Int) : Nat := if cS l then pI l + 1 else 0
def cA (l : List Int) : Bool := (l.drop (pC l)).take 2 == [47, 47]
def aEnd (l : List Int) (c : Nat) : Nat := c + 2 + aheadL [47, 63, 35] (l.drop (c + 2))
def pP (l : List Int) : Nat := if cA l then aEnd l (pC l) else pC l
def pEnd (l : List Int) (p : Nat) : Nat := p + aheadL [63, 35] (l.drop p)
def qEnd (l : List Int) (p : Nat) : Nat := p + 1 + aheadL [35] (l.drop (p + 1))
def cQ (l : List Int) : Bool := l.getD (pEnd l (pP l)) 0 == 63
def pF (l : List Int) : Nat := if cQ l then qEnd l (pEnd l (pP l)) else pEnd l (pP l)
def cF (l : List Int) : Bool := decide (pF l < l.length)
theorem getD_lt {l : List Int} {i : Nat} {c : Int} (hc : c ≠ 0) (h : l.getD i 0 = c) : i < l.length := by
  rcases Nat.lt_or_ge i l.length with h' | h'
  · exact h'
  · rw [List.getD_eq_getElem?_getD, List.getElem?_eq_none h'] at h
    exact absurd h.symm hc
theorem pI_le (l : List Int) : pI l ≤ l.length := ahead_le _ _
theorem pC_le (l : List Int) : pC l ≤ l.length := by
  unfold pC
  split
  · rename_i h
    unfold cS at h
    rw [Bool.and_eq_true, beq_iff_eq] at h
    have := getD_lt (by decide) h.2
    omega
  · omega
theorem two_le {l : List Int} {c : Nat} (h : (l.drop c).take 2 = [47, 47]) : c + 2 ≤ l.length := by
  have := congrArg List.length h
  rw [List.length_take, List.length_drop] at this
  simp at this
  omega
theorem aEnd_le {l : List Int} {c : Nat} (h : c + 2 ≤ l.length) : c + 2 ≤ aEnd l c ∧ aEnd l c ≤ l.length := by
  have := ahead_le [47, 63, 35] (l.drop (c + 2))
  rw [List.length_drop] at this
  unfold aEnd
  omega
theorem qEnd_le {l : List Int} {p : Nat} (h : p < l.length) : p + 1 ≤ qEnd l p ∧ qEnd l p ≤ l.length := by
  have := ahead_le [35] (l.drop (p + 1))
  rw [List.length_drop] at this
  unfold qEnd
  omega
theorem aheadL_end (set l : List Int) : l.drop (aheadL set l) = [] ∨ ∃ b t, l.drop (aheadL set l) = b :: t ∧ b ∈ set := by
  by_cases h : aheadL set l < l.length
  · exact .inr (ahead_at h)
  · exact .inl (List.drop_of_length_le (by omega))
theorem aheadL_split (set l : List Int) : l = l.take (aheadL set l) ++ l.drop (aheadL set l) := (List.take_append_drop _ _).symm
theorem span_ahead (p : Int) (iri : Bool) (set : List Int) (hset : ∀ c ∈ set, 0 ≤ c ∧ c < 128 ∧ c ≠ 37 ∧ hv c < 0 ∧ plainAt p c = false) (l : List Int) : spanAt p iri l = spanAt p iri (l.take (aheadL set l)) := by
  rcases aheadL_end set l with h | ⟨b, t, h, hb⟩
  · have e := aheadL_split set l
    rw [h, List.append_nil] at e
    rw [← e]
  · obtain ⟨h0, h1, h2, h3, h4⟩ := hset b hb
    conv => lhs; rw [aheadL_split set l, h]
    exact span_cut p iri b t h0 h1 h2 h3 h4 _ _ rfl
end Go.Proofs.YtpmflpeckoeooaaDoor.M
namespace Go.Proofs.YtpmflpeckoeooaaDoor.Y
open Go.RowKit Go.Proofs.YtpmflpeckoeooaaDoor.X Go.Proofs.YtpmflpeckoeooaaDoor.M Go.Proofs.YtpmflpeckoeooaaDoorW.PrintWords Go.Proofs.YtpmflpeckoeooaaDoorW.PrintLast Go.Proofs.YtpmflpeckoeooaaDoorW.PrintMore
set_option linter.unusedVariables false
set_option linter.unusedSimpArgs false
abbrev Parts8 := ByteArray × Bool × ByteArray × ByteArray × Bool × ByteArray × Bool × ByteArray
abbrev nil8 : ByteArray := (⟨#[]⟩ : ByteArray)
def splitS (s : ByteArray) : Parts8 :=
  (if cS (bytesOf s) then s.extract 0 (pI (bytesOf s)) else nil8, cA (bytesOf s), if cA (bytesOf s) then s.extract (pC (bytesOf s) + 2) (aEnd (bytesOf s) (pC (bytesOf s))) else nil8,
    s.extract (pP (bytesOf s)) (pEnd (bytesOf s) (pP (bytesOf s))), cQ (bytesOf s), if cQ (bytesOf s) then s.extract (pEnd (bytesOf s) (pP (bytesOf s)) + 1) (pF (bytesOf s)) else nil8,
    cF (bytesOf s), if cF (bytesOf s) then s.extract (pF (bytesOf s) + 1) s.size else nil8)
theorem set4 : bytesOf (⟨#[58, 47, 63, 35]⟩ : ByteArray) = [58, 47, 63, 35] := by decide +kernel
theorem set3 : bytesOf (⟨#[47, 63, 35]⟩ : ByteArray) = [47, 63, 35] := by decide +kernel
theorem set1 : bytesOf (⟨#[35]⟩ : ByteArray) = [35] := by decide +kernel
theorem getD_bt (s : ByteArray) (i : Nat) : (bytesOf s).getD i 0 = bt s (i : Int) := (bt_getD s i).symm
theorem bt_end (s : ByteArray) {i : Nat} (h : s.size ≤ i) : bt s (i : Int) = 0 := by
  rw [bt_getD, List.getD_eq_getElem?_getD, List.getElem?_eq_none (by rw [bytes_len]; exact h)]; rfl
theorem next_f (s : ByteArray) (n : Nat) (hn : n ≤ s.size) (hs : s.size ≤ 1000000) (iri : Bool) (sch : ByteArray) (ha : Bool) (aut pth : ByteArray) (hq : Bool) (q : ByteArray) (hf : Bool) (f sign : ByteArray) (hg : sign.size ≤ 10) :
    syntax_walk_next.f s (n : Int) iri sch ha aut pth hq q hf f sign = some (if ((bytesOf s).drop n).take sign.size = bytesOf sign then (true, s, ((n + sign.size : Nat) : Int), iri, sch, ha, aut, pth, hq, q, hf, f) else (false, s, (n : Int), iri, sch, ha, aut, pth, hq, q, hf, f)) := by
  unfold syntax_walk_next.f
  rw [if_pos (by omega), if_pos (by omega), hasPrefix_f, Int.toNat_natCast, bytes_from, Option.bind_some]
  by_cases h : ((bytesOf s).drop n).take sign.size = bytesOf sign
  · rw [if_pos (decide_eq_true h), if_pos h, w64 (by omega) (by omega)]
    simp
  · rw [if_neg (by simpa using h), if_neg h]
theorem span22_f (s : ByteArray) (n : Nat) (hn : n ≤ s.size) (hs : s.size ≤ 1000000) (iri : Bool) (sch : ByteArray) (ha : Bool) (aut pth : ByteArray) (hq : Bool) (q : ByteArray) (hf : Bool) (f : ByteArray) (p : Int) :
    Ev (fun k => syntax_walk_span.f k s (n : Int) iri sch ha aut pth hq q hf f p) (s.extract n (n + spanAt p iri ((bytesOf s).drop n)), s, ((n + spanAt p iri ((bytesOf s).drop n) : Nat) : Int), iri, sch, ha, aut, pth, hq, q, hf, f) := by
  unfold syntax_walk_span.f
  have hsp := span_f p iri (s.extract n s.size) (by rw [← bytes_len, bytes_from, List.length_drop, bytes_len]; omega)
  rw [bytes_from] at hsp
  have hle := span_le p iri ((bytesOf s).drop n)
  rw [List.length_drop, bytes_len] at hle
  rw [Int.toNat_natCast]
  refine Ev.ite_pos (by omega) (Ev.ite_pos (by omega) (Ev.bind' hsp ?_))
  have e : (n : Int) + (spanAt p iri ((bytesOf s).drop n) : Int) = ((n + spanAt p iri ((bytesOf s).drop n) : Nat) : Int) := by omega
  rw [w64 (by omega) (by omega), e]
  refine Ev.ite_pos (by omega) (Ev.ite_pos (by omega) (Ev.val ?_))
  rw [Int.toNat_natCast]
def okS (l : List Int) : Bool := cS l && schemeL (l.take (pI l))
theorem take_pI (s : ByteArray) : bytesOf (s.extract 0 (pI (bytesOf s))) = (bytesOf s).take (pI (bytesOf s)) := by rw [bytes_extract, List.drop_zero]
theorem scheme22_f (s : ByteArray) (hs : s.size ≤ 1000000) (iri : Bool) :
    Ev (fun k => syntax_walk_scheme.f k s 0 iri nil8 false nil8 nil8 false nil8 false nil8)
      (if okS (bytesOf s) = true then (true, s, ((pI (bytesOf s) + 1 : Nat) : Int), iri, s.extract 0 (pI (bytesOf s)), false, nil8, nil8, false, nil8, false, nil8) else (false, s, 0, iri, nil8, false, nil8, nil8, false, nil8, false, nil8)) := by
  unfold syntax_walk_scheme.f
  have hI := pI_le (bytesOf s)
  rw [bytes_len] at hI
  have hf := findA_f s (⟨#[58, 47, 63, 35]⟩ : ByteArray) 0 (by omega) (by omega) (by decide)
  rw [set4, List.drop_zero] at hf
  have e : (aheadL [58, 47, 63, 35] (bytesOf s)) = pI (bytesOf s) := rfl
  rw [e] at hf
  have e0 : ((0 : Nat) : Int) = 0 := rfl
  rw [e0] at hf
  refine Ev.bind' hf ?_
  by_cases he : pI (bytesOf s) = s.size - 0
  · simp only [if_pos he]
    refine Ev.ite_pos (by decide) (Ev.val ?_)
    have hc : cS (bytesOf s) = false := by
      unfold cS; rw [getD_bt, bt_end s (by omega)]; simp
    have : okS (bytesOf s) = false := by unfold okS; rw [hc]; rfl
    rw [this]; rfl
  · simp only [if_neg he, Int.zero_add]
    refine Ev.ite_neg (by omega) (Ev.ite_pos (by omega) (Ev.ite_pos (by omega) (Ev.ite (fun hb => ?_) (fun hb => ?_))))
    · refine Ev.ite_pos (by omega) ?_
      rw [Int.toNat_natCast]
      have h1 := scheme_f (s.extract 0 (pI (bytesOf s))) (by rw [← bytes_len, take_pI, List.length_take, bytes_len]; omega)
      rw [take_pI] at h1
      refine Ev.bind' h1 ?_
      have hc : cS (bytesOf s) = true ∨ schemeL ((bytesOf s).take (pI (bytesOf s))) = false := by
        rcases Nat.eq_zero_or_pos (pI (bytesOf s)) with hz | hz
        · right; rw [hz, List.take_zero, schemeL_nil]
        · left
          unfold cS; rw [getD_bt, hb, decide_eq_true hz]; rfl
      cases hsl : schemeL ((bytesOf s).take (pI (bytesOf s)))
      · have : okS (bytesOf s) = false := by unfold okS; rw [hsl, Bool.and_false]
        rw [this]
        exact Ev.ite_neg (by simp) (Ev.val rfl)
      · have : okS (bytesOf s) = true := by
          unfold okS; rw [hsl, Bool.and_true]
          rcases hc with hc | hc
          · exact hc
          · rw [hsl] at hc; cases hc
        rw [this]
        refine Ev.ite_pos rfl (Ev.val ?_)
        rw [w64 (by omega) (by omega)]
        simp
    · have hc : cS (bytesOf s) = false := by
        unfold cS; rw [getD_bt]
        have : (bt s (pI (bytesOf s) : Int) == 58) = false := beq_eq_false_iff_ne.2 hb
        rw [this, Bool.and_false]
      have : okS (bytesOf s) = false := by unfold okS; rw [hc]; rfl
      rw [this]
      exact Ev.val rfl
theorem auth_f (s : ByteArray) (c : Nat) (hc : c ≤ s.size) (hs : s.size ≤ 1000000) (iri : Bool) (sch : ByteArray) :
    Ev (fun k => syntax_walk_authority.f k s (c : Int) iri sch false nil8 nil8 false nil8 false nil8)
      (if ((bytesOf s).drop c).take 2 = [47, 47] then (rightP iri (partS (s.extract (c + 2) (aEnd (bytesOf s) c))), s, (aEnd (bytesOf s) c : Int), iri, sch, true, s.extract (c + 2) (aEnd (bytesOf s) c), nil8, false, nil8, false, nil8)
        else (true, s, (c : Int), iri, sch, false, nil8, nil8, false, nil8, false, nil8)) := by
  unfold syntax_walk_authority.f
  have hb : bytesOf (⟨#[47, 47]⟩ : ByteArray) = [47, 47] := by decide +kernel
  have hz : (⟨#[47, 47]⟩ : ByteArray).size = 2 := rfl
  have hn := next_f s c hc hs iri sch false nil8 nil8 false nil8 false nil8 (⟨#[47, 47]⟩ : ByteArray) (by decide)
  rw [hb, hz] at hn
  refine Ev.pure_bind hn ?_
  by_cases h2 : ((bytesOf s).drop c).take 2 = [47, 47]
  · simp only [if_pos h2]
    have hc2 := two_le h2
    rw [bytes_len] at hc2
    have ha := aEnd_le (l := bytesOf s) (c := c) (by rw [bytes_len]; exact hc2)
    rw [bytes_len] at ha
    have hf := findA_f s (⟨#[47, 63, 35]⟩ : ByteArray) (c + 2) hc2 (by omega) (by decide)
    rw [set3] at hf
    have hpz : (s.extract (c + 2) (aEnd (bytesOf s) c)).size ≤ 1000000 := by
      rw [← bytes_len, bytes_extract, List.length_drop, List.length_take, bytes_len]; omega
    have hp := parse_f iri (s.extract (c + 2) (aEnd (bytesOf s) c)) hpz
    refine Ev.bind' hf ?_
    by_cases he : aheadL [47, 63, 35] ((bytesOf s).drop (c + 2)) = s.size - (c + 2)
    · simp only [if_pos he]
      have e : aEnd (bytesOf s) c = s.size := by unfold aEnd; omega
      rw [e] at hp ⊢
      refine Ev.ite_pos (by decide) (Ev.ite_pos (by omega) (Ev.ite_pos (by omega) (Ev.ite_pos (by omega) ?_)))
      rw [Int.toNat_natCast, Int.toNat_natCast]
      refine Ev.bind' hp (Ev.val ?_)
      cases rightP iri (partS (s.extract (c + 2) s.size)) <;> rfl
    · simp only [if_neg he]
      have e : ((c + 2 : Nat) : Int) + (aheadL [47, 63, 35] ((bytesOf s).drop (c + 2)) : Int) = (aEnd (bytesOf s) c : Int) := by unfold aEnd; omega
      rw [e]
      refine Ev.ite_neg (by omega) (Ev.ite_pos (by omega) (Ev.ite_pos (by omega) (Ev.ite_pos (by omega) ?_)))
      rw [Int.toNat_natCast, Int.toNat_natCast]
      refine Ev.bind' hp (Ev.val ?_)
      cases rightP iri (partS (s.extract (c + 2) (aEnd (bytesOf s) c))) <;> rfl
  · simp only [if_neg h2]
    exact Ev.ite_neg (by simp) (Ev.val rfl)
def slashP (ha : Bool) (l : List Int) : Bool := if ha then l == [] || l.headD 0 == 47 else !(l.take 2 == [47, 47])
def colonP (ns ha iri : Bool) (l : List Int) : Bool := ns && !ha && (l.getD (spanAt 4 iri l) 0 == 58)
theorem path_j1 (s : ByteArray) (p m : Nat) (hpm : p ≤ m) (hm : m ≤ s.size) (hs : s.size ≤ 1000000) (iri : Bool) (sch : ByteArray) (ha : Bool) (aut : ByteArray) (e : Nat) (he : e = m + spanAt 5 iri ((bytesOf s).drop m)) :
    Ev (fun k => syntax_walk_path.j1 k (p : Int) s (m : Int) iri sch ha aut nil8 false nil8 false nil8)
      (slashP ha (bytesOf (s.extract p e)), s, (e : Int), iri, sch, ha, aut, s.extract p e, false, nil8, false, nil8) := by
  have hle := span_le 5 iri ((bytesOf s).drop m)
  rw [List.length_drop, bytes_len] at hle
  have hsp := span22_f s m hm hs iri sch ha aut nil8 false nil8 false nil8 5
  rw [← he] at hsp
  refine Ev.step (fun k => by rw [syntax_walk_path.j1]) (Ev.bind' hsp ?_)
  dsimp only
  refine Ev.ite_pos (by omega) (Ev.ite_pos (by omega) (Ev.ite_pos (by omega) ?_))
  rw [Int.toNat_natCast, Int.toNat_natCast]
  cases ha
  · refine Ev.ite_neg (by simp) (Ev.pure_bind (hasPrefix_f _ _) (Ev.val ?_))
    have hb : bytesOf (⟨#[47, 47]⟩ : ByteArray) = [47, 47] := by decide +kernel
    have hz : (⟨#[47, 47]⟩ : ByteArray).size = 2 := rfl
    rw [hb, hz]
    unfold slashP
    have : decide ((bytesOf (s.extract p e)).take 2 = [47, 47]) = ((bytesOf (s.extract p e)).take 2 == [47, 47]) := by
      rw [Bool.eq_iff_iff, decide_eq_true_iff, beq_iff_eq]
    rw [this]; rfl
  · refine Ev.ite_pos rfl (Ev.ite (fun h => ?_) (fun h => ?_))
    · refine Ev.val ?_
      rw [(toList_nil _).1 h]; rfl
    · have hp : 0 < (s.extract p e).size := by
        rcases Nat.eq_zero_or_pos (s.extract p e).size with hz | hz
        · exact absurd ((toList_nil _).2 (List.length_eq_zero_iff.1 (by rw [bytes_len]; exact hz))) h
        · exact hz
      refine Ev.ite_pos (by omega) (Ev.val ?_)
      unfold slashP
      have hne : (bytesOf (s.extract p e) == []) = false := beq_eq_false_iff_ne.2 (fun h' => h ((toList_nil _).2 h'))
      rw [headD_bt hp, hne]; rfl
theorem path22_f (s : ByteArray) (p : Nat) (hp : p ≤ s.size) (hs : s.size ≤ 1000000) (iri : Bool) (sch : ByteArray) (ha : Bool) (aut : ByteArray) :
    ∃ z, Ev (fun k => syntax_walk_path.f k s (p : Int) iri sch ha aut nil8 false nil8 false nil8) z ∧
      (colonP (bytesOf sch == []) ha iri ((bytesOf s).drop p) = true → z.1 = false) ∧
      (colonP (bytesOf sch == []) ha iri ((bytesOf s).drop p) = false → z = (slashP ha (bytesOf (s.extract p (p + spanAt 5 iri ((bytesOf s).drop p)))), s, ((p + spanAt 5 iri ((bytesOf s).drop p) : Nat) : Int), iri, sch, ha, aut, s.extract p (p + spanAt 5 iri ((bytesOf s).drop p)), false, nil8, false, nil8)) := by
  have h4 := span_le 4 iri ((bytesOf s).drop p)
  rw [List.length_drop, bytes_len] at h4
  have hj0 : ∀ x : Bool, ∃ z, Ev (fun k => syntax_walk_path.j0 k (p : Int) x s (p : Int) iri sch ha aut nil8 false nil8 false nil8) z ∧
      ((x && (((bytesOf s).drop p).getD (spanAt 4 iri ((bytesOf s).drop p)) 0 == 58)) = true → z.1 = false) ∧
      ((x && (((bytesOf s).drop p).getD (spanAt 4 iri ((bytesOf s).drop p)) 0 == 58)) = false → z = (slashP ha (bytesOf (s.extract p (p + spanAt 5 iri ((bytesOf s).drop p)))), s, ((p + spanAt 5 iri ((bytesOf s).drop p) : Nat) : Int), iri, sch, ha, aut, s.extract p (p + spanAt 5 iri ((bytesOf s).drop p)), false, nil8, false, nil8)) := by
    intro x
    cases x
    · refine ⟨_, Ev.step (fun k => by rw [syntax_walk_path.j0]) (Ev.ite_neg (by simp) (path_j1 s p p (Nat.le_refl _) hp hs iri sch ha aut _ rfl)), fun h => by simp at h, fun _ => rfl⟩
    · have e5 : p + spanAt 5 iri ((bytesOf s).drop p) = p + spanAt 4 iri ((bytesOf s).drop p) + spanAt 5 iri ((bytesOf s).drop (p + spanAt 4 iri ((bytesOf s).drop p))) := by
        rw [span_within (within45 iri) _ ((bytesOf s).drop p) rfl, List.drop_drop]; omega
      have hg : ((bytesOf s).drop p).getD (spanAt 4 iri ((bytesOf s).drop p)) 0 = bt s ((p + spanAt 4 iri ((bytesOf s).drop p) : Nat) : Int) := by
        rw [List.getD_eq_getElem?_getD, List.getElem?_drop, ← List.getD_eq_getElem?_getD, getD_bt]
      rw [hg, Bool.true_and]
      have hj := path_j1 s p (p + spanAt 4 iri ((bytesOf s).drop p)) (by omega) (by omega) hs iri sch ha aut _ e5
      have hsp := span22_f s p hp hs iri sch ha aut nil8 false nil8 false nil8 4
      by_cases hb : bt s ((p + spanAt 4 iri ((bytesOf s).drop p) : Nat) : Int) = 58
      · have hlt : p + spanAt 4 iri ((bytesOf s).drop p) < s.size := by
          rcases Nat.lt_or_ge (p + spanAt 4 iri ((bytesOf s).drop p)) s.size with h | h
          · exact h
          · rw [bt_end s h] at hb; omega
        have hgo : Ev (fun k => syntax_walk_path.j0 k (p : Int) true s (p : Int) iri sch ha aut nil8 false nil8 false nil8) (false, s, ((p + spanAt 4 iri ((bytesOf s).drop p) : Nat) : Int), iri, sch, ha, aut, nil8, false, nil8, false, nil8) := by
          refine Ev.step (fun k => by rw [syntax_walk_path.j0]) (Ev.ite_pos rfl (Ev.bind' hsp ?_))
          dsimp only
          exact Ev.ite_pos (by omega) (Ev.ite_pos (by omega) (Ev.ite_pos hb (Ev.now _)))
        refine ⟨_, hgo, fun _ => rfl, fun h => ?_⟩
        rw [hb] at h; simp at h
      · have hgo : Ev (fun k => syntax_walk_path.j0 k (p : Int) true s (p : Int) iri sch ha aut nil8 false nil8 false nil8) (slashP ha (bytesOf (s.extract p (p + spanAt 5 iri ((bytesOf s).drop p)))), s, ((p + spanAt 5 iri ((bytesOf s).drop p) : Nat) : Int), iri, sch, ha, aut, s.extract p (p + spanAt 5 iri ((bytesOf s).drop p)), false, nil8, false, nil8) := by
          refine Ev.step (fun k => by rw [syntax_walk_path.j0]) (Ev.ite_pos rfl (Ev.bind' hsp ?_))
          dsimp only
          refine Ev.ite (fun h => ?_) (fun h => hj)
          exact Ev.ite_pos (Int.natCast_nonneg _) (Ev.ite_neg hb hj)
        refine ⟨_, hgo, fun h => ?_, fun _ => rfl⟩
        rw [beq_iff_eq] at h
        exact absurd h hb
  unfold syntax_walk_path.f colonP
  by_cases h : sch.toList = ([] : List UInt8)
  · have e : (bytesOf sch == []) = true := by rw [beq_iff_eq]; exact (toList_nil sch).1 h
    rw [e, Bool.true_and]
    obtain ⟨z, hz, h1, h2⟩ := hj0 (!ha)
    exact ⟨z, Ev.ite_pos h hz, h1, h2⟩
  · have e : (bytesOf sch == []) = false := beq_eq_false_iff_ne.2 fun h' => h ((toList_nil sch).2 h')
    rw [e]
    obtain ⟨z, hz, h1, h2⟩ := hj0 false
    exact ⟨z, Ev.ite_neg h hz, fun h => by simp at h, fun _ => h2 (by simp)⟩
def qP (s : ByteArray) (iri : Bool) (e : Nat) : Nat := if bt s (e : Int) = 63 then e + 1 + spanAt 6 iri ((bytesOf s).drop (e + 1)) else e
def fP (s : ByteArray) (iri fr : Bool) (e : Nat) : Nat := if fr = true ∧ bt s (e : Int) = 35 then e + 1 + spanAt 7 iri ((bytesOf s).drop (e + 1)) else e
theorem one_sign (s : ByteArray) (c : Int) (hc : c ≠ 0) (n : Nat) : ((bytesOf s).drop n).take 1 = [c] ↔ bt s (n : Int) = c := by
  rcases Nat.lt_or_ge n s.size with h | h
  · rw [at_drop_bt h]; simp
  · rw [List.drop_of_length_le (by rw [bytes_len]; exact h), bt_end s h]
    simp
    exact fun h => hc h.symm
theorem lt_sign {s : ByteArray} {c : Int} (hc : c ≠ 0) {n : Nat} (h : bt s (n : Int) = c) : n < s.size := by
  rcases Nat.lt_or_ge n s.size with h' | h'
  · exact h'
  · rw [bt_end s h'] at h; exact absurd h.symm hc
theorem qP_le (s : ByteArray) (iri : Bool) (e : Nat) (he : e ≤ s.size) : e ≤ qP s iri e ∧ qP s iri e ≤ s.size := by
  unfold qP
  split
  · rename_i h
    have := lt_sign (by decide) h
    have hle := span_le 6 iri ((bytesOf s).drop (e + 1))
    rw [List.length_drop, bytes_len] at hle
    omega
  · omega
theorem tail_j0 (s : ByteArray) (e : Nat) (he : e ≤ s.size) (hs : s.size ≤ 1000000) (iri : Bool) (sch : ByteArray) (ha : Bool) (aut pth : ByteArray) (hq : Bool) (q : ByteArray) (fr : Bool) :
    Ev (fun k => syntax_walk_tail.j0 k fr s (e : Int) iri sch ha aut pth hq q false nil8)
      (s, (fP s iri fr e : Int), iri, sch, ha, aut, pth, hq, q, decide (fr = true ∧ bt s (e : Int) = 35), if fr = true ∧ bt s (e : Int) = 35 then s.extract (e + 1) (fP s iri fr e) else nil8) := by
  refine Ev.step (fun k => by rw [syntax_walk_tail.j0]) ?_
  unfold fP
  cases fr
  · refine Ev.ite_neg (by simp) (Ev.val ?_)
    simp
  · refine Ev.ite_pos rfl ?_
    have hn := next_f s e he hs iri sch ha aut pth hq q false nil8 (⟨#[35]⟩ : ByteArray) (by decide)
    rw [set1] at hn
    have hz : (⟨#[35]⟩ : ByteArray).size = 1 := rfl
    rw [hz] at hn
    refine Ev.pure_bind hn ?_
    by_cases h : bt s (e : Int) = 35
    · have hlt := lt_sign (by decide) h
      rw [if_pos ((one_sign s 35 (by decide) e).2 h)]
      refine Ev.ite_pos rfl ?_
      dsimp only
      refine Ev.bind' (span22_f s (e + 1) (by omega) hs iri sch ha aut pth hq q true nil8 7) (Ev.val ?_)
      simp [h]
    · rw [if_neg (fun h' => h ((one_sign s 35 (by decide) e).1 h'))]
      refine Ev.ite_neg (by simp) (Ev.val ?_)
      simp [h]
theorem tail_f (s : ByteArray) (e : Nat) (he : e ≤ s.size) (hs : s.size ≤ 1000000) (iri : Bool) (sch : ByteArray) (ha : Bool) (aut pth : ByteArray) (fr : Bool) :
    Ev (fun k => syntax_walk_tail.f k s (e : Int) iri sch ha aut pth false nil8 false nil8 fr)
      (s, (fP s iri fr (qP s iri e) : Int), iri, sch, ha, aut, pth, decide (bt s (e : Int) = 63), (if bt s (e : Int) = 63 then s.extract (e + 1) (qP s iri e) else nil8), decide (fr = true ∧ bt s (qP s iri e : Int) = 35), if fr = true ∧ bt s (qP s iri e : Int) = 35 then s.extract (qP s iri e + 1) (fP s iri fr (qP s iri e)) else nil8) := by
  unfold syntax_walk_tail.f
  have hq := qP_le s iri e he
  have hn := next_f s e he hs iri sch ha aut pth false nil8 false nil8 (⟨#[63]⟩ : ByteArray) (by decide)
  have hb : bytesOf (⟨#[63]⟩ : ByteArray) = [63] := by decide +kernel
  rw [hb] at hn
  have hz : (⟨#[63]⟩ : ByteArray).size = 1 := rfl
  rw [hz] at hn
  refine Ev.pure_bind hn ?_
  by_cases h : bt s (e : Int) = 63
  · have hlt := lt_sign (by decide) h
    rw [if_pos ((one_sign s 63 (by decide) e).2 h)]
    refine Ev.ite_pos rfl ?_
    dsimp only
    have hqe : qP s iri e = e + 1 + spanAt 6 iri ((bytesOf s).drop (e + 1)) := by unfold qP; rw [if_pos h]
    have hsp := span22_f s (e + 1) (by omega) hs iri sch ha aut pth true nil8 false nil8 6
    rw [← hqe] at hsp
    refine Ev.bind' hsp ?_
    dsimp only
    rw [decide_eq_true h, if_pos h]
    exact tail_j0 s (qP s iri e) hq.2 hs iri sch ha aut pth true _ fr
  · rw [if_neg (fun h' => h ((one_sign s 63 (by decide) e).1 h'))]
    refine Ev.ite_neg (by simp) ?_
    dsimp only
    have hqe : qP s iri e = e := by unfold qP; rw [if_neg h]
    rw [hqe, decide_eq_false h, if_neg h]
    exact tail_j0 s e he hs iri sch ha aut pth false nil8 fr
def restA (s : ByteArray) (c : Nat) : Bool := ((bytesOf s).drop c).take 2 == [47, 47]
def restP (s : ByteArray) (c : Nat) : Nat := if restA s c then aEnd (bytesOf s) c else c
def restU (s : ByteArray) (c : Nat) : ByteArray := if restA s c then s.extract (c + 2) (aEnd (bytesOf s) c) else nil8
def restE (s : ByteArray) (iri : Bool) (c : Nat) : Nat := restP s c + spanAt 5 iri ((bytesOf s).drop (restP s c))
def restOk (s : ByteArray) (iri fr ns : Bool) (c : Nat) : Bool :=
  (!restA s c || rightP iri (partS (restU s c))) && (!colonP ns (restA s c) iri ((bytesOf s).drop (restP s c)) && (slashP (restA s c) (bytesOf (s.extract (restP s c) (restE s iri c))) && decide (fP s iri fr (qP s iri (restE s iri c)) = s.size)))
def restT (s : ByteArray) (iri fr : Bool) (c : Nat) (sch : ByteArray) : Parts8 :=
  (sch, restA s c, restU s c, s.extract (restP s c) (restE s iri c), decide (bt s (restE s iri c : Int) = 63), if bt s (restE s iri c : Int) = 63 then s.extract (restE s iri c + 1) (qP s iri (restE s iri c)) else nil8,
    decide (fr = true ∧ bt s (qP s iri (restE s iri c) : Int) = 35), if fr = true ∧ bt s (qP s iri (restE s iri c) : Int) = 35 then s.extract (qP s iri (restE s iri c) + 1) (fP s iri fr (qP s iri (restE s iri c))) else nil8)
abbrev Parts9 := ByteArray × Bool × ByteArray × ByteArray × Bool × ByteArray × Bool × ByteArray × Bool
def yes9 (p : Parts8) : Parts9 := (p.1, p.2.1, p.2.2.1, p.2.2.2.1, p.2.2.2.2.1, p.2.2.2.2.2.1, p.2.2.2.2.2.2.1, p.2.2.2.2.2.2.2, true)
def no9 : Parts9 := (nil8, false, nil8, nil8, false, nil8, false, nil8, false)
theorem restP_le (s : ByteArray) (c : Nat) (hc : c ≤ s.size) : restP s c ≤ s.size := by
  unfold restP
  split
  · rename_i h
    unfold restA at h
    rw [beq_iff_eq] at h
    have := (aEnd_le (two_le h)).2
    rw [bytes_len] at this
    exact this
  · exact hc
theorem restE_le (s : ByteArray) (iri : Bool) (c : Nat) (hc : c ≤ s.size) : restE s iri c ≤ s.size := by
  have h1 := restP_le s c hc
  have h2 := span_le 5 iri ((bytesOf s).drop (restP s c))
  rw [List.length_drop, bytes_len] at h2
  unfold restE
  omega
theorem read_rest (s : ByteArray) (c : Nat) (hc : c ≤ s.size) (hs : s.size ≤ 1000000) (kind : Int) (iri : Bool) (sch : ByteArray) :
    Ev (fun k => (syntax_walk_authority.f k s (c : Int) iri sch false nil8 nil8 false nil8 false nil8).bind fun bt343 => (if bt343.1 = true then ((syntax_walk_path.f k bt343.2.1 bt343.2.2.1 bt343.2.2.2.1 bt343.2.2.2.2.1 bt343.2.2.2.2.2.1 bt343.2.2.2.2.2.2.1 bt343.2.2.2.2.2.2.2.1 bt343.2.2.2.2.2.2.2.2.1 bt343.2.2.2.2.2.2.2.2.2.1 bt343.2.2.2.2.2.2.2.2.2.2.1 bt343.2.2.2.2.2.2.2.2.2.2.2).bind fun bt355 => (if bt355.1 = true then ((syntax_walk_tail.f k bt355.2.1 bt355.2.2.1 bt355.2.2.2.1 bt355.2.2.2.2.1 bt355.2.2.2.2.2.1 bt355.2.2.2.2.2.2.1 bt355.2.2.2.2.2.2.2.1 bt355.2.2.2.2.2.2.2.2.1 bt355.2.2.2.2.2.2.2.2.2.1 bt355.2.2.2.2.2.2.2.2.2.2.1 bt355.2.2.2.2.2.2.2.2.2.2.2 (kind != 3)).bind fun bt367 => (if bt367.2.1 = (s.size : Int) then (some (bt367.2.2.2.1, bt367.2.2.2.2.1, bt367.2.2.2.2.2.1, bt367.2.2.2.2.2.2.1, bt367.2.2.2.2.2.2.2.1, bt367.2.2.2.2.2.2.2.2.1, bt367.2.2.2.2.2.2.2.2.2.1, bt367.2.2.2.2.2.2.2.2.2.2, true)) else (some no9))) else (some no9))) else (some no9)))
      (if restOk s iri (kind != 3) (bytesOf sch == []) c = true then yes9 (restT s iri (kind != 3) c sch) else no9) := by
  have hau := auth_f s c hc hs iri sch
  have hE := restE_le s iri c hc
  have hgo : Ev (fun k => ((syntax_walk_path.f k s (restP s c : Int) iri sch (restA s c) (restU s c) nil8 false nil8 false nil8).bind fun bt355 => (if bt355.1 = true then ((syntax_walk_tail.f k bt355.2.1 bt355.2.2.1 bt355.2.2.2.1 bt355.2.2.2.2.1 bt355.2.2.2.2.2.1 bt355.2.2.2.2.2.2.1 bt355.2.2.2.2.2.2.2.1 bt355.2.2.2.2.2.2.2.2.1 bt355.2.2.2.2.2.2.2.2.2.1 bt355.2.2.2.2.2.2.2.2.2.2.1 bt355.2.2.2.2.2.2.2.2.2.2.2 (kind != 3)).bind fun bt367 => (if bt367.2.1 = (s.size : Int) then (some (bt367.2.2.2.1, bt367.2.2.2.2.1, bt367.2.2.2.2.2.1, bt367.2.2.2.2.2.2.1, bt367.2.2.2.2.2.2.2.1, bt367.2.2.2.2.2.2.2.2.1, bt367.2.2.2.2.2.2.2.2.2.1, bt367.2.2.2.2.2.2.2.2.2.2, true)) else (some no9))) else (some no9))))
      (if (!colonP (bytesOf sch == []) (restA s c) iri ((bytesOf s).drop (restP s c)) && (slashP (restA s c) (bytesOf (s.extract (restP s c) (restE s iri c))) && decide (fP s iri (kind != 3) (qP s iri (restE s iri c)) = s.size))) = true then yes9 (restT s iri (kind != 3) c sch) else no9) := by
    obtain ⟨z, hz, h1, h2⟩ := path22_f s (restP s c) (restP_le s c hc) hs iri sch (restA s c) (restU s c)
    refine Ev.bind' hz ?_
    cases hcol : colonP (bytesOf sch == []) (restA s c) iri ((bytesOf s).drop (restP s c))
    · have hz2 := h2 hcol
      have hEe : restP s c + spanAt 5 iri ((bytesOf s).drop (restP s c)) = restE s iri c := rfl
      rw [hEe] at hz2
      subst hz2
      dsimp only
      rw [Bool.not_false, Bool.true_and]
      cases hsl : slashP (restA s c) (bytesOf (s.extract (restP s c) (restE s iri c)))
      · exact Ev.ite_neg (by simp) (Ev.val rfl)
      · refine Ev.ite_pos rfl (Ev.bind' (tail_f s (restE s iri c) hE hs iri sch (restA s c) (restU s c) _ (kind != 3)) ?_)
        dsimp only
        rw [Bool.true_and]
        refine Ev.ite (fun h => ?_) (fun h => ?_)
        · refine Ev.val ?_
          rw [if_pos (decide_eq_true (by omega))]
          rfl
        · refine Ev.val ?_
          rw [if_neg (by rw [decide_eq_true_iff]; omega)]
    · have hz1 := h1 hcol
      rw [hz1]
      exact Ev.ite_neg (by simp) (Ev.val rfl)
  by_cases hA : ((bytesOf s).drop c).take 2 = [47, 47]
  · have eA : restA s c = true := by unfold restA; rw [beq_iff_eq]; exact hA
    have eP : restP s c = aEnd (bytesOf s) c := by unfold restP; rw [eA]; rfl
    have eU : restU s c = s.extract (c + 2) (aEnd (bytesOf s) c) := by unfold restU; rw [eA]; rfl
    rw [if_pos hA] at hau
    refine Ev.bind' hau ?_
    unfold restOk
    rw [eP, eU, eA] at hgo
    rw [eP, eU, eA]
    cases hr : rightP iri (partS (s.extract (c + 2) (aEnd (bytesOf s) c)))
    · exact Ev.ite_neg (by simp) (Ev.val (by simp))
    · refine Ev.ite_pos rfl ?_
      dsimp only
      simp only [Bool.not_true, Bool.or_true, Bool.true_and]
      exact hgo
  · have eA : restA s c = false := by unfold restA; rw [beq_eq_false_iff_ne]; exact hA
    have eP : restP s c = c := by unfold restP; rw [eA]; rfl
    have eU : restU s c = nil8 := by unfold restU; rw [eA]; rfl
    rw [if_neg hA] at hau
    refine Ev.bind' hau (Ev.ite_pos rfl ?_)
    dsimp only
    unfold restOk
    rw [eP, eU, eA] at hgo
    rw [eP, eU, eA]
    simp only [Bool.not_false, Bool.true_or, Bool.true_and]
    exact hgo
theorem ofIRI_f {kind : Int} (h1 : 1 ≤ kind) (h5 : kind ≤ 5) : syntax_OfIRI.f kind = some (decide (kind ≥ 4)) := by
  unfold syntax_OfIRI.f
  by_cases h : kind = 4
  · rw [if_pos h]; simp [h]
  · rw [if_neg h]
    have : (kind == 5) = decide (kind ≥ 4) := by rw [Bool.eq_iff_iff, beq_iff_eq, decide_eq_true_iff]; omega
    rw [this]
def readR (kind : Int) (s : ByteArray) : Parts9 :=
  if okS (bytesOf s) = true then (if restOk s (decide (kind ≥ 4)) (kind != 3) (bytesOf (s.extract 0 (pI (bytesOf s))) == []) (pI (bytesOf s) + 1) = true then yes9 (restT s (decide (kind ≥ 4)) (kind != 3) (pI (bytesOf s) + 1) (s.extract 0 (pI (bytesOf s)))) else no9)
  else if kind = 2 ∨ kind = 5 then (if restOk s (decide (kind ≥ 4)) (kind != 3) true 0 = true then yes9 (restT s (decide (kind ≥ 4)) (kind != 3) 0 nil8) else no9) else no9
theorem read_f (kind : Int) (h1 : 1 ≤ kind) (h5 : kind ≤ 5) (s : ByteArray) (hs : s.size ≤ 1000000) : Ev (fun k => syntax_read.f k kind s) (readR kind s) := by
  unfold syntax_read.f readR
  refine Ev.pure_bind (ofIRI_f h1 h5) ?_
  have hsc := scheme22_f s hs (decide (kind ≥ 4))
  have hI := pI_le (bytesOf s)
  rw [bytes_len] at hI
  have hn : (bytesOf nil8 == []) = true := by decide +kernel
  have r0 := read_rest s 0 (by omega) hs kind (decide (kind ≥ 4)) nil8
  rw [hn] at r0
  cases hok : okS (bytesOf s)
  · rw [hok] at hsc
    simp only [Bool.false_eq_true, if_false] at hsc ⊢
    refine Ev.ite (fun h => ?_) (fun h => ?_)
    · rw [if_pos (.inl h)]
      refine Ev.bind' hsc (Ev.ite_neg (by simp) ?_)
      exact r0
    · refine Ev.bind' hsc (Ev.ite_neg (by simp) (Ev.ite (fun h' => ?_) (fun h' => ?_)))
      · rw [if_pos (.inr h')]
        exact r0
      · rw [if_neg (by omega)]
        exact Ev.val rfl
  · rw [hok] at hsc
    simp only [if_true] at hsc ⊢
    have hlt : pI (bytesOf s) + 1 ≤ s.size := by
      unfold okS cS at hok
      rw [Bool.and_eq_true, Bool.and_eq_true, beq_iff_eq] at hok
      have := getD_lt (by decide) hok.1.2
      rw [bytes_len] at this
      omega
    have r1 := read_rest s (pI (bytesOf s) + 1) hlt hs kind (decide (kind ≥ 4)) (s.extract 0 (pI (bytesOf s)))
    refine Ev.ite (fun h => ?_) (fun h => ?_)
    · refine Ev.bind' hsc (Ev.ite_pos rfl ?_)
      exact r1
    · refine Ev.bind' hsc (Ev.ite_pos rfl ?_)
      exact r1
theorem bt_drop (s : ByteArray) (p m : Nat) : bt s ((p + m : Nat) : Int) = ((bytesOf s).drop p).getD m 0 := by
  rw [List.getD_eq_getElem?_getD, List.getElem?_drop, ← List.getD_eq_getElem?_getD, getD_bt]
theorem not_in_set {set l : List Int} {m : Nat} (h : m < aheadL set l) : l.getD m 0 ∉ set := by
  have hle := ahead_le set l
  refine ahead_none set l _ ?_
  rw [List.getD_eq_getElem?_getD, List.getElem?_eq_getElem (by omega)]
  have : l[m]'(by omega) = (l.take (aheadL set l))[m]'(by rw [List.length_take]; omega) := by rw [List.getElem_take]
  show l[m]'(by omega) ∈ _
  rw [this]
  exact List.getElem_mem _
theorem in_set {set l : List Int} (h : aheadL set l < l.length) : l.getD (aheadL set l) 0 ∈ set := by
  obtain ⟨b, t, e, hb⟩ := ahead_at h
  have : l.getD (aheadL set l) 0 = b := by
    have h1 : (l.drop (aheadL set l))[0]? = some b := by rw [e]; rfl
    rw [List.getElem?_drop, Nat.add_zero] at h1
    rw [List.getD_eq_getElem?_getD, h1]; rfl
  rw [this]; exact hb
theorem stop2 : ∀ p : Int, (p = 4 ∨ p = 5) → ∀ c ∈ ([63, 35] : List Int), 0 ≤ c ∧ c < 128 ∧ c ≠ 37 ∧ hv c < 0 ∧ plainAt p c = false := by
  intro p hp c hc
  rcases hp with rfl | rfl <;> (simp only [List.mem_cons, List.mem_nil_iff, or_false] at hc; rcases hc with rfl | rfl <;> decide)
theorem stop1 : ∀ c ∈ ([35] : List Int), 0 ≤ c ∧ c < 128 ∧ c ≠ 37 ∧ hv c < 0 ∧ plainAt 6 c = false := by
  intro c hc
  simp only [List.mem_cons, List.mem_nil_iff, or_false] at hc
  subst hc; decide
theorem ext_bytes (s : ByteArray) (p n : Nat) : bytesOf (s.extract p (p + n)) = ((bytesOf s).drop p).take n := by
  rw [bytes_extract, List.drop_take]; congr 1; omega
theorem span_of_take {p : Int} {iri : Bool} {l : List Int} {n : Nat} (hn : n ≤ l.length) : spanAt p iri (l.take n) ≤ n ∧ (allAt p iri (l.take n) = true ↔ spanAt p iri (l.take n) = n) := by
  have h := span_le p iri (l.take n)
  rw [List.length_take] at h
  refine ⟨by omega, ?_⟩
  unfold allAt
  rw [beq_iff_eq, List.length_take]; omega
theorem fP_still {s : ByteArray} {iri fr : Bool} {e : Nat} (h : bt s (e : Int) ≠ 35) : fP s iri fr e = e := by unfold fP; rw [if_neg (fun h' => h h'.2)]
theorem qP_still {s : ByteArray} {iri : Bool} {e : Nat} (h : bt s (e : Int) ≠ 63) : qP s iri e = e := by unfold qP; rw [if_neg h]
theorem tail_same (s : ByteArray) (iri fr : Bool) (p : Nat) (hp : p ≤ s.size) (he : aheadL [63, 35] ((bytesOf s).drop p) = 0) :
    (decide (fP s iri fr (qP s iri p) = s.size) = (!(decide ((if bt s (p : Int) = 63 then qEnd (bytesOf s) p else p) < s.size) && !fr) &&
      (allAt 6 iri (bytesOf (if bt s (p : Int) = 63 then s.extract (p + 1) (qEnd (bytesOf s) p) else nil8)) &&
       allAt 7 iri (bytesOf (if (if bt s (p : Int) = 63 then qEnd (bytesOf s) p else p) < s.size then s.extract ((if bt s (p : Int) = 63 then qEnd (bytesOf s) p else p) + 1) s.size else nil8))))) ∧
    (fP s iri fr (qP s iri p) = s.size → (if bt s (p : Int) = 63 then s.extract (p + 1) (qP s iri p) else nil8) = (if bt s (p : Int) = 63 then s.extract (p + 1) (qEnd (bytesOf s) p) else nil8) ∧
      decide (fr = true ∧ bt s (qP s iri p : Int) = 35) = decide ((if bt s (p : Int) = 63 then qEnd (bytesOf s) p else p) < s.size) ∧
      (if fr = true ∧ bt s (qP s iri p : Int) = 35 then s.extract (qP s iri p + 1) (fP s iri fr (qP s iri p)) else nil8) = (if (if bt s (p : Int) = 63 then qEnd (bytesOf s) p else p) < s.size then s.extract ((if bt s (p : Int) = 63 then qEnd (bytesOf s) p else p) + 1) s.size else nil8)) := by
  have frag : ∀ f : Nat, f ≤ s.size → (f < s.size → bt s (f : Int) = 35) →
      (decide (fP s iri fr f = s.size) = (!(decide (f < s.size) && !fr) && allAt 7 iri (bytesOf (if f < s.size then s.extract (f + 1) s.size else nil8)))) ∧
      (fP s iri fr f = s.size → decide (fr = true ∧ bt s (f : Int) = 35) = decide (f < s.size) ∧ (if fr = true ∧ bt s (f : Int) = 35 then s.extract (f + 1) (fP s iri fr f) else nil8) = (if f < s.size then s.extract (f + 1) s.size else nil8)) := by
    intro f hf h35
    have n7 : allAt 7 iri (bytesOf nil8) = true := by
      have : bytesOf nil8 = [] := by decide +kernel
      rw [this, allAt_nil]
    rcases Nat.lt_or_ge f s.size with h | h
    · have hb := h35 h
      rw [decide_eq_true h, if_pos h]
      cases fr
      · have e1 : fP s iri false f = f := by unfold fP; rw [if_neg (by simp)]
        rw [e1]
        have : decide (f = s.size) = false := decide_eq_false (by omega)
        rw [this]
        exact ⟨by simp, fun h' => by omega⟩
      · have e1 : fP s iri true f = f + 1 + spanAt 7 iri ((bytesOf s).drop (f + 1)) := by unfold fP; rw [if_pos ⟨rfl, hb⟩]
        have hle := span_le 7 iri ((bytesOf s).drop (f + 1))
        rw [List.length_drop, bytes_len] at hle
        have e2 : bytesOf (s.extract (f + 1) s.size) = (bytesOf s).drop (f + 1) := bytes_from s (f + 1)
        refine ⟨?_, fun h' => ?_⟩
        · rw [e1, e2]
          unfold allAt
          rw [List.length_drop, bytes_len, Bool.eq_iff_iff]
          simp
          omega
        · rw [h', decide_eq_true ⟨rfl, hb⟩, if_pos ⟨rfl, hb⟩]
          exact ⟨rfl, rfl⟩
    · have hz := bt_end s h
      have hne : bt s (f : Int) ≠ 35 := by rw [hz]; decide
      have : decide (f < s.size) = false := decide_eq_false (by omega)
      rw [this, if_neg (by omega), fP_still hne, n7]
      have hfs : f = s.size := by omega
      have e3 : decide (fr = true ∧ bt s (f : Int) = 35) = false := decide_eq_false (fun h' => hne h'.2)
      refine ⟨?_, fun _ => ?_⟩
      · rw [decide_eq_true hfs]; simp
      · rw [e3, if_neg (fun h' => hne h'.2)]
        exact ⟨rfl, rfl⟩
  have n6 : allAt 6 iri (bytesOf nil8) = true := by
    have : bytesOf nil8 = [] := by decide +kernel
    rw [this, allAt_nil]
  by_cases hq : bt s (p : Int) = 63
  · simp only [if_pos hq]
    have hlt := lt_sign (by decide) hq
    have hqe := qEnd_le (l := bytesOf s) (p := p) (by rw [bytes_len]; exact hlt)
    rw [bytes_len] at hqe
    have hn := ahead_le [35] ((bytesOf s).drop (p + 1))
    have eq1 : qEnd (bytesOf s) p = p + 1 + aheadL [35] ((bytesOf s).drop (p + 1)) := rfl
    have hsp := span_ahead 6 iri [35] stop1 ((bytesOf s).drop (p + 1))
    have hst := span_of_take (p := 6) (iri := iri) (l := (bytesOf s).drop (p + 1)) hn
    have eqb : bytesOf (s.extract (p + 1) (qEnd (bytesOf s) p)) = ((bytesOf s).drop (p + 1)).take (aheadL [35] ((bytesOf s).drop (p + 1))) := by rw [eq1, ext_bytes]
    have eqp : qP s iri p = p + 1 + spanAt 6 iri ((bytesOf s).drop (p + 1)) := by unfold qP; rw [if_pos hq]
    rw [hsp] at eqp
    rw [eqb]
    cases h6 : allAt 6 iri (((bytesOf s).drop (p + 1)).take (aheadL [35] ((bytesOf s).drop (p + 1))))
    · have hlt6 : spanAt 6 iri (((bytesOf s).drop (p + 1)).take (aheadL [35] ((bytesOf s).drop (p + 1)))) < aheadL [35] ((bytesOf s).drop (p + 1)) := by
        rcases Nat.lt_or_ge (spanAt 6 iri (((bytesOf s).drop (p + 1)).take (aheadL [35] ((bytesOf s).drop (p + 1))))) (aheadL [35] ((bytesOf s).drop (p + 1))) with h | h
        · exact h
        · have := hst.2.2 (by have := hst.1; omega)
          rw [this] at h6; cases h6
      have hne : bt s (qP s iri p : Int) ≠ 35 := by
        rw [eqp, bt_drop]
        have := not_in_set hlt6
        simpa using this
      have hfp : fP s iri fr (qP s iri p) = qP s iri p := fP_still hne
      have hsz : qP s iri p < s.size := by omega
      have : decide (fP s iri fr (qP s iri p) = s.size) = false := decide_eq_false (by rw [hfp]; omega)
      rw [this]
      refine ⟨by simp, fun h' => ?_⟩
      rw [hfp] at h'
      omega
    · have hfull := hst.2.1 h6
      have eqq : qP s iri p = qEnd (bytesOf s) p := by rw [eqp, hfull]; exact eq1.symm
      rw [eqq, Bool.true_and]
      have hf := frag (qEnd (bytesOf s) p) hqe.2 (fun h => by
        have := in_set (set := [35]) (l := (bytesOf s).drop (p + 1)) (by rw [List.length_drop, bytes_len]; omega)
        rw [eq1, bt_drop]
        simpa using this)
      exact ⟨hf.1, fun h => ⟨rfl, hf.2 h⟩⟩
  · simp only [if_neg hq]
    rw [qP_still hq, n6, Bool.true_and]
    have hf := frag p hp (fun h => by
      have := in_set (set := [63, 35]) (l := (bytesOf s).drop p) (by rw [he, List.length_drop, bytes_len]; omega)
      rw [he, ← bt_drop, Nat.add_zero] at this
      simp only [List.mem_cons, List.mem_nil_iff, or_false] at this
      exact this.resolve_left hq)
    exact ⟨hf.1, fun h => ⟨trivial, hf.2 h⟩⟩
theorem ahead_again (set : List Int) (l : List Int) : aheadL set (l.drop (aheadL set l)) = 0 := by
  rcases aheadL_end set l with h | ⟨b, t, h, hb⟩
  · rw [h]; rfl
  · rw [h, ahead_cons]
    have : set.contains b = true := by simpa using hb
    rw [if_pos this]
theorem rest_same (s : ByteArray) (iri fr ns : Bool) (c : Nat) (hc : c ≤ s.size) (e : Nat) (he : e = pEnd (bytesOf s) (restP s c)) (f : Nat) (hf : f = if bt s (e : Int) = 63 then qEnd (bytesOf s) e else e) :
    (restOk s iri fr ns c = ((!restA s c || rightP iri (partS (restU s c))) && (!(decide (f < s.size) && !fr) && (pathL iri ns (restA s c) (bytesOf (s.extract (restP s c) e)) &&
      (allAt 6 iri (bytesOf (if bt s (e : Int) = 63 then s.extract (e + 1) (qEnd (bytesOf s) e) else nil8)) && allAt 7 iri (bytesOf (if f < s.size then s.extract (f + 1) s.size else nil8))))))) ∧
    (restOk s iri fr ns c = true → ∀ sch, restT s iri fr c sch = (sch, restA s c, restU s c, s.extract (restP s c) e, decide (bt s (e : Int) = 63), if bt s (e : Int) = 63 then s.extract (e + 1) (qEnd (bytesOf s) e) else nil8, decide (f < s.size), if f < s.size then s.extract (f + 1) s.size else nil8)) := by
  have hp := restP_le s c hc
  have hn := ahead_le [63, 35] ((bytesOf s).drop (restP s c))
  have eE : e = restP s c + aheadL [63, 35] ((bytesOf s).drop (restP s c)) := he
  have hel : e ≤ s.size := by rw [List.length_drop, bytes_len] at hn; omega
  have hpb : bytesOf (s.extract (restP s c) e) = ((bytesOf s).drop (restP s c)).take (aheadL [63, 35] ((bytesOf s).drop (restP s c))) := by rw [eE, ext_bytes]
  have h5 := span_ahead 5 iri [63, 35] (stop2 5 (.inr rfl)) ((bytesOf s).drop (restP s c))
  have h4 := span_ahead 4 iri [63, 35] (stop2 4 (.inl rfl)) ((bytesOf s).drop (restP s c))
  have s5 := span_of_take (p := 5) (iri := iri) (l := (bytesOf s).drop (restP s c)) hn
  have s4 := span_of_take (p := 4) (iri := iri) (l := (bytesOf s).drop (restP s c)) hn
  have eRE : restE s iri c = restP s c + spanAt 5 iri (((bytesOf s).drop (restP s c)).take (aheadL [63, 35] ((bytesOf s).drop (restP s c)))) := by unfold restE; rw [h5]
  unfold restOk
  cases ha5 : allAt 5 iri (bytesOf (s.extract (restP s c) e))
  · have hlt : spanAt 5 iri (((bytesOf s).drop (restP s c)).take (aheadL [63, 35] ((bytesOf s).drop (restP s c)))) < aheadL [63, 35] ((bytesOf s).drop (restP s c)) := by
      rcases Nat.lt_or_ge (spanAt 5 iri (((bytesOf s).drop (restP s c)).take (aheadL [63, 35] ((bytesOf s).drop (restP s c))))) (aheadL [63, 35] ((bytesOf s).drop (restP s c))) with h | h
      · exact h
      · have := s5.2.2 (by have := s5.1; omega)
        rw [← hpb, ha5] at this; cases this
    have hno := not_in_set hlt
    rw [← bt_drop, ← eRE] at hno
    simp only [List.mem_cons, List.mem_nil_iff, or_false, not_or] at hno
    have hq := qP_still (iri := iri) hno.1
    have hfp := fP_still (iri := iri) (fr := fr) hno.2
    have hlt2 : restE s iri c < s.size := by rw [List.length_drop, bytes_len] at hn; omega
    have : decide (fP s iri fr (qP s iri (restE s iri c)) = s.size) = false := decide_eq_false (by rw [hq, hfp]; omega)
    rw [this]
    have hpl : pathL iri ns (restA s c) (bytesOf (s.extract (restP s c) e)) = false := by unfold pathL; rw [ha5]; rfl
    rw [hpl]
    simp
  · rw [hpb] at ha5
    have hfull := s5.2.1 ha5
    have eRe : restE s iri c = e := by rw [eRE, hfull, eE]
    have hag := ahead_again [63, 35] ((bytesOf s).drop (restP s c))
    rw [List.drop_drop, ← eE] at hag
    have tl := tail_same s iri fr e hel hag
    rw [← hf] at tl
    rw [eRe, tl.1]
    have hcol : (!colonP ns (restA s c) iri ((bytesOf s).drop (restP s c)) && slashP (restA s c) (bytesOf (s.extract (restP s c) e))) = pathL iri ns (restA s c) (bytesOf (s.extract (restP s c) e)) := by
      have hg : (((bytesOf s).drop (restP s c)).getD (spanAt 4 iri ((bytesOf s).drop (restP s c))) 0 == 58) = ((bytesOf (s.extract (restP s c) e)).getD (spanAt 4 iri (bytesOf (s.extract (restP s c) e))) 0 == 58) := by
        rw [h4, hpb]
        generalize hm : spanAt 4 iri (((bytesOf s).drop (restP s c)).take (aheadL [63, 35] ((bytesOf s).drop (restP s c)))) = m at s4
        rcases Nat.lt_or_ge m (aheadL [63, 35] ((bytesOf s).drop (restP s c))) with h | h
        · congr 1
          rw [List.getD_eq_getElem?_getD, List.getD_eq_getElem?_getD, List.getElem?_take_of_lt h]
        · have hmn : m = aheadL [63, 35] ((bytesOf s).drop (restP s c)) := by omega
          have e2 : (((bytesOf s).drop (restP s c)).take (aheadL [63, 35] ((bytesOf s).drop (restP s c)))).getD m 0 = 0 := by
            rw [List.getD_eq_getElem?_getD, List.getElem?_eq_none (by rw [List.length_take]; omega)]; rfl
          rw [e2]
          rcases Nat.lt_or_ge m ((bytesOf s).drop (restP s c)).length with hl | hl
          · have := in_set (set := [63, 35]) (l := (bytesOf s).drop (restP s c)) (by omega)
            rw [← hmn] at this
            simp only [List.mem_cons, List.mem_nil_iff, or_false] at this
            rcases this with h' | h' <;> rw [h'] <;> decide
          · rw [List.getD_eq_getElem?_getD, List.getElem?_eq_none hl]; decide
      unfold colonP slashP pathL
      rw [hg, hpb, ha5, ← hpb]
      cases restA s c <;> cases ns <;> simp [Bool.and_comm]
    refine ⟨?_, fun hok sch => ?_⟩
    · rw [← hcol]
      cases (!restA s c || rightP iri (partS (restU s c))) <;> cases (!(decide (f < s.size) && !fr)) <;> cases (!colonP ns (restA s c) iri ((bytesOf s).drop (restP s c))) <;> simp
    · have hfe : fP s iri fr (qP s iri e) = s.size := by
        rw [← tl.1] at hok
        simp only [Bool.and_eq_true, decide_eq_true_iff] at hok
        exact hok.2.2.2
      have t2 := tl.2 hfe
      unfold restT
      rw [eRe, t2.1, t2.2.1, t2.2.2]
def mayS (kind : Int) (s : ByteArray) : Bool := mayP kind (splitS s).1 (splitS s).2.1 (splitS s).2.2.1 (splitS s).2.2.2.1 (splitS s).2.2.2.2.2.1 (splitS s).2.2.2.2.2.2.1 (splitS s).2.2.2.2.2.2.2
theorem restA_C (s : ByteArray) : restA s (pC (bytesOf s)) = cA (bytesOf s) := rfl
theorem restP_C (s : ByteArray) : restP s (pC (bytesOf s)) = pP (bytesOf s) := rfl
theorem rest_split (s : ByteArray) (kind : Int) (ns : Bool) (sch : ByteArray) (hsch : sch = (splitS s).1) (hns : ns = (bytesOf sch == [])) (hk : (if bytesOf sch = [] then kind == 2 || kind == 5 else schemeL (bytesOf sch)) = true) :
    (restOk s (decide (kind ≥ 4)) (kind != 3) ns (pC (bytesOf s)) = mayS kind s) ∧ (restOk s (decide (kind ≥ 4)) (kind != 3) ns (pC (bytesOf s)) = true → restT s (decide (kind ≥ 4)) (kind != 3) (pC (bytesOf s)) sch = splitS s) := by
  have hC := pC_le (bytesOf s)
  rw [bytes_len] at hC
  have e63 : ∀ x : Int, decide (x = 63) = (x == 63) := fun x => by rw [Bool.eq_iff_iff, decide_eq_true_iff, beq_iff_eq]
  have hf : pF (bytesOf s) = if bt s (pEnd (bytesOf s) (pP (bytesOf s)) : Int) = 63 then qEnd (bytesOf s) (pEnd (bytesOf s) (pP (bytesOf s))) else pEnd (bytesOf s) (pP (bytesOf s)) := by
    unfold pF cQ
    rw [getD_bt]
    by_cases h : bt s (pEnd (bytesOf s) (pP (bytesOf s)) : Int) = 63
    · rw [if_pos h, if_pos (beq_iff_eq.2 h)]
    · rw [if_neg h, if_neg (by rw [beq_iff_eq]; exact h)]
  have h := rest_same s (decide (kind ≥ 4)) (kind != 3) ns (pC (bytesOf s)) hC (pEnd (bytesOf s) (pP (bytesOf s))) rfl (pF (bytesOf s)) hf
  have hU : restU s (pC (bytesOf s)) = (splitS s).2.2.1 := rfl
  have hQ : decide (bt s (pEnd (bytesOf s) (pP (bytesOf s)) : Int) = 63) = cQ (bytesOf s) := by unfold cQ; rw [getD_bt, e63]
  have hq : (if bt s (pEnd (bytesOf s) (pP (bytesOf s)) : Int) = 63 then s.extract (pEnd (bytesOf s) (pP (bytesOf s)) + 1) (qEnd (bytesOf s) (pEnd (bytesOf s) (pP (bytesOf s)))) else nil8) = (splitS s).2.2.2.2.2.1 := by
    show _ = if cQ (bytesOf s) = true then s.extract (pEnd (bytesOf s) (pP (bytesOf s)) + 1) (pF (bytesOf s)) else nil8
    by_cases h : bt s (pEnd (bytesOf s) (pP (bytesOf s)) : Int) = 63
    · have hc : cQ (bytesOf s) = true := by rw [← hQ]; exact decide_eq_true h
      rw [if_pos h, if_pos hc, hf, if_pos h]
    · have hc : cQ (bytesOf s) = false := by rw [← hQ]; exact decide_eq_false h
      rw [if_neg h, hc]; rfl
  have hF : decide (pF (bytesOf s) < s.size) = cF (bytesOf s) := by unfold cF; rw [bytes_len]
  have hfr : (if pF (bytesOf s) < s.size then s.extract (pF (bytesOf s) + 1) s.size else nil8) = (splitS s).2.2.2.2.2.2.2 := by
    show _ = if cF (bytesOf s) = true then s.extract (pF (bytesOf s) + 1) s.size else nil8
    by_cases h : pF (bytesOf s) < s.size
    · rw [if_pos h, if_pos (by rw [← hF]; exact decide_eq_true h)]
    · have hc : cF (bytesOf s) = false := by rw [← hF]; exact decide_eq_false h
      rw [if_neg h, hc]; rfl
  rw [hq, hfr, hQ, hF, hU, restA_C, restP_C] at h
  refine ⟨?_, fun hok => ?_⟩
  · rw [h.1]
    unfold mayS mayP
    rw [← hsch, hk, hns]
    have e3 : (cF (bytesOf s) && !(kind != 3)) = (cF (bytesOf s) && kind == 3) := by rw [bne, Bool.not_not]
    rw [e3]
    cases hc : cF (bytesOf s) && kind == 3
    · have : ((splitS s).2.2.2.2.2.2.1 && kind == 3) = false := hc
      rw [this, Bool.true_and]
      show _ = (true && ((!cA (bytesOf s) || _) && _))
      simp
      rfl
    · have : ((splitS s).2.2.2.2.2.2.1 && kind == 3) = true := hc
      rw [this]
      simp
  · rw [h.2 hok sch, hsch]
    rfl
theorem no_scheme (s : ByteArray) (iri fr : Bool) (h : cS (bytesOf s) = true) : restOk s iri fr true 0 = false := by
  unfold cS at h
  rw [Bool.and_eq_true, decide_eq_true_iff, beq_iff_eq] at h
  have hlt := getD_lt (by decide) h.2
  have hsz := hlt
  rw [bytes_len] at hsz
  have h0 := not_in_set (set := [58, 47, 63, 35]) (l := bytesOf s) (m := 0) h.1
  have hA : restA s 0 = false := by
    unfold restA
    rw [List.drop_zero, beq_eq_false_iff_ne]
    intro h2
    have : (bytesOf s).getD 0 0 = 47 := by
      cases e : bytesOf s with
      | nil => rw [e] at h2; simp at h2
      | cons b t =>
        rw [e] at h2
        cases t with
        | nil => simp at h2
        | cons c u => simp at h2; simp [h2.1]
    rw [this] at h0
    simp at h0
  have hP : restP s 0 = 0 := by unfold restP; rw [hA]; rfl
  have hd : (bytesOf s).drop (pI (bytesOf s)) = 58 :: (bytesOf s).drop (pI (bytesOf s) + 1) := by
    rw [at_drop_bt hsz, ← getD_bt, h.2]
  have e4 : spanAt 4 iri (bytesOf s) = spanAt 4 iri ((bytesOf s).take (pI (bytesOf s))) := by
    conv => lhs; rw [aheadL_split [58, 47, 63, 35] (bytesOf s)]
    have hd' : (bytesOf s).drop (aheadL [58, 47, 63, 35] (bytesOf s)) = 58 :: (bytesOf s).drop (pI (bytesOf s) + 1) := hd
    rw [hd']
    exact span_cut 4 iri 58 _ (by decide) (by decide) (by decide) (by decide) (by decide) _ _ rfl
  have hle4 := span_le 4 iri ((bytesOf s).take (pI (bytesOf s)))
  rw [List.length_take] at hle4
  unfold restOk
  rw [hA, hP, List.drop_zero]
  by_cases hcol : (bytesOf s).getD (spanAt 4 iri (bytesOf s)) 0 = 58
  · have : colonP true false iri (bytesOf s) = true := by unfold colonP; rw [hcol]; rfl
    rw [this]; simp
  · have hm : spanAt 4 iri (bytesOf s) < pI (bytesOf s) := by
      rcases Nat.lt_or_ge (spanAt 4 iri (bytesOf s)) (pI (bytesOf s)) with h' | h'
      · exact h'
      · have : spanAt 4 iri (bytesOf s) = pI (bytesOf s) := by omega
        rw [this] at hcol
        exact absurd h.2 hcol
    have hno := not_in_set (set := [58, 47, 63, 35]) (l := bytesOf s) hm
    have hz4 : stepAt 4 iri ((bytesOf s).drop (spanAt 4 iri (bytesOf s))) = 0 := by
      have h1 := span_within (p := 4) (q := 4) (iri := iri) ⟨by decide, fun _ hr => hr⟩ _ (bytesOf s) rfl
      exact (span_step 4 iri _).1 (by omega)
    have hz5 : stepAt 5 iri ((bytesOf s).drop (spanAt 4 iri (bytesOf s))) = 0 := by
      by_cases h5 : stepAt 5 iri ((bytesOf s).drop (spanAt 4 iri (bytesOf s))) = 0
      · exact h5
      · exfalso
        obtain ⟨t, ht⟩ := step_between (fun b hb => bytes_all s b (List.mem_of_mem_drop hb)) hz4 h5
        have hg : (bytesOf s).getD (spanAt 4 iri (bytesOf s)) 0 = ((bytesOf s).drop (spanAt 4 iri (bytesOf s))).getD 0 0 := by
          rw [List.getD_eq_getElem?_getD, List.getD_eq_getElem?_getD, List.getElem?_drop, Nat.add_zero]
        rw [hg] at hno
        rcases ht with ht | ht <;> (rw [ht] at hno; simp at hno)
    have e5 : spanAt 5 iri (bytesOf s) = spanAt 4 iri (bytesOf s) := by
      rw [span_within (within45 iri) _ (bytesOf s) rfl, (span_step 5 iri _).2 hz5, Nat.add_zero]
    have hE : restE s iri 0 = spanAt 4 iri (bytesOf s) := by unfold restE; rw [hP, List.drop_zero, e5, Nat.zero_add]
    rw [hE]
    rw [getD_bt] at hno
    simp only [List.mem_cons, List.mem_nil_iff, or_false, not_or] at hno
    have hq := qP_still (iri := iri) hno.2.2.1
    have hfp := fP_still (iri := iri) (fr := fr) hno.2.2.2
    have : decide (fP s iri fr (qP s iri (spanAt 4 iri (bytesOf s))) = s.size) = false := decide_eq_false (by rw [hq, hfp]; omega)
    rw [this]; simp
theorem readR_may (kind : Int) (h1 : 1 ≤ kind) (h5 : kind ≤ 5) (s : ByteArray) : readR kind s = if mayS kind s = true then yes9 (splitS s) else no9 := by
  have hI := pI_le (bytesOf s)
  rw [bytes_len] at hI
  unfold readR
  cases hc : cS (bytesOf s)
  ·
    have hok : okS (bytesOf s) = false := by unfold okS; rw [hc]; rfl
    have hC0 : pC (bytesOf s) = 0 := by unfold pC; rw [hc]; rfl
    have hs1 : (splitS s).1 = nil8 := by show (if cS (bytesOf s) = true then _ else nil8) = _; rw [hc]; rfl
    have hn : bytesOf nil8 = [] := by decide +kernel
    rw [hok]
    simp only [Bool.false_eq_true, if_false]
    by_cases hk : kind = 2 ∨ kind = 5
    · have h := rest_split s kind true nil8 hs1.symm (by rw [hn]; rfl) (by rw [if_pos hn]; rcases hk with rfl | rfl <;> decide)
      rw [hC0] at h
      rw [if_pos hk, h.1]
      cases hm : mayS kind s
      · rfl
      · rw [if_pos rfl, if_pos rfl, h.2 (by rw [h.1]; exact hm)]
    · rw [if_neg hk]
      have : mayS kind s = false := by
        unfold mayS mayP
        rw [hs1, if_pos hn]
        have e2 : (kind == 2) = false := beq_eq_false_iff_ne.2 (fun h => hk (.inl h))
        have e5 : (kind == 5) = false := beq_eq_false_iff_ne.2 (fun h => hk (.inr h))
        rw [e2, e5]; rfl
      rw [this]; rfl
  · have hlt : pI (bytesOf s) < s.size ∧ 0 < pI (bytesOf s) := by
      have h := hc
      unfold cS at h
      rw [Bool.and_eq_true, decide_eq_true_iff, beq_iff_eq] at h
      have := getD_lt (by decide) h.2
      rw [bytes_len] at this
      exact ⟨this, h.1⟩
    have hs1 : (splitS s).1 = s.extract 0 (pI (bytesOf s)) := by show (if cS (bytesOf s) = true then _ else nil8) = _; rw [hc]; rfl
    have hne : bytesOf (s.extract 0 (pI (bytesOf s))) ≠ [] := by
      rw [take_pI]
      intro h
      have hl : ((bytesOf s).take (pI (bytesOf s))).length = 0 := by rw [h]; rfl
      rw [List.length_take, bytes_len] at hl
      omega
    cases hsl : schemeL ((bytesOf s).take (pI (bytesOf s)))
    · have hok : okS (bytesOf s) = false := by unfold okS; rw [hsl, Bool.and_false]
      have : mayS kind s = false := by
        unfold mayS mayP
        rw [hs1, if_neg hne, take_pI, hsl]; rfl
      rw [hok, this]
      simp only [Bool.false_eq_true, if_false]
      split
      · rw [no_scheme s _ _ hc]; rfl
      · rfl
    · have hok : okS (bytesOf s) = true := by unfold okS; rw [hc, hsl]; rfl
      have hC : pC (bytesOf s) = pI (bytesOf s) + 1 := by unfold pC; rw [hc]; rfl
      have h := rest_split s kind (bytesOf (s.extract 0 (pI (bytesOf s))) == []) (s.extract 0 (pI (bytesOf s))) hs1.symm rfl (by rw [if_neg hne, take_pI]; exact hsl)
      rw [hC] at h
      rw [hok, if_pos rfl, h.1]
      cases hm : mayS kind s
      · rfl
      · rw [if_pos rfl, if_pos rfl, h.2 (by rw [h.1]; exact hm)]
abbrev PartsE := ByteArray × Bool × ByteArray × ByteArray × Bool × ByteArray × Bool × ByteArray × Int
def err9 (e : Int) : PartsE := (nil8, false, nil8, nil8, false, nil8, false, nil8, e)
def ok9 (p : Parts8) : PartsE := (p.1, p.2.1, p.2.2.1, p.2.2.2.1, p.2.2.2.2.1, p.2.2.2.2.2.1, p.2.2.2.2.2.2.1, p.2.2.2.2.2.2.2, 0)
def parseT (kind : Int) (s : ByteArray) : PartsE :=
  if kind < 1 ∨ 5 < kind then err9 1 else if 65535 < s.size then err9 2 else if 4 ≤ kind ∧ wellL (bytesOf s) = false then err9 3
  else if mayS kind s = true then ok9 (splitS s) else err9 4
theorem parse_j1 (kind : Int) (h1 : 1 ≤ kind) (h5 : kind ≤ 5) (s : ByteArray) (hs : s.size ≤ 1000000) (x : Bool) :
    Ev (fun k => syntax_Parse.j1 k kind s x) (if x = true then err9 3 else if mayS kind s = true then ok9 (splitS s) else err9 4) := by
  refine Ev.step (fun k => by rw [syntax_Parse.j1]) ?_
  cases x
  · refine Ev.ite_neg (by simp) (Ev.bind' (read_f kind h1 h5 s hs) ?_)
    rw [readR_may kind h1 h5 s]
    cases hm : mayS kind s
    · exact Ev.ite_neg (by simp [no9]) (Ev.val (by simp [err9]))
    · exact Ev.ite_pos (by simp [yes9]) (Ev.val (by simp [ok9, yes9]))
  · exact Ev.ite_pos rfl (Ev.val (by simp [err9]))
theorem parseT_f (kind : Int) (s : ByteArray) : Ev (fun k => syntax_Parse.f k kind s) (parseT kind s) := by
  have bad : Ev (fun k => syntax_Parse.j0 k kind s true) (err9 1) := by
    refine Ev.step (fun k => by rw [syntax_Parse.j0]) ?_
    exact Ev.ite_pos rfl (Ev.val rfl)
  unfold syntax_Parse.f parseT
  by_cases h1 : kind < 1
  · rw [if_pos (.inl h1)]; exact Ev.ite_pos h1 bad
  · refine Ev.ite_neg h1 ?_
    by_cases h5 : 5 < kind
    · rw [if_pos (.inr h5), decide_eq_true (show kind > 5 from h5)]; exact bad
    · rw [if_neg (by omega), decide_eq_false (show ¬ kind > 5 from h5)]
      refine Ev.step (fun k => by rw [syntax_Parse.j0]) ?_
      refine Ev.ite_neg (by simp) ?_
      by_cases hs : 65535 < s.size
      · rw [if_pos hs]; exact Ev.ite_pos (by omega) (Ev.val rfl)
      · rw [if_neg hs]
        refine Ev.ite_neg (by omega) (Ev.pure_bind (ofIRI_f (by omega) (by omega)) ?_)
        have hj := parse_j1 kind (by omega) (by omega) s (by omega)
        by_cases h4 : 4 ≤ kind
        · refine Ev.ite_pos (decide_eq_true h4) (Ev.bind' (valid_f s (by omega)) ?_)
          have h := hj (!wellL (bytesOf s))
          cases hw : wellL (bytesOf s)
          · rw [if_pos ⟨h4, rfl⟩]; rw [hw] at h; exact h
          · rw [if_neg (by simp)]; rw [hw] at h; exact h
        · refine Ev.ite_neg (by rw [decide_eq_true_iff]; omega) ?_
          rw [if_neg (by omega)]
          exact hj false
theorem bytes_nums {l : List Int} (h : ∀ b ∈ l, 0 ≤ b ∧ b ≤ 255) : bytesOf (strOfNums l) = l := by
  unfold bytesOf strOfNums
  show ((l.map fun n => UInt8.ofNat n.toNat).toArray.toList).map _ = l
  rw [List.map_map]
  have : ∀ b ∈ l, ((fun b : UInt8 => (b.toNat : Int)) ∘ fun n : Int => UInt8.ofNat n.toNat) b = b := by
    intro b hb
    have := h b hb
    show ((UInt8.ofNat b.toNat).toNat : Int) = b
    rw [UInt8.toNat_ofNat']
    omega
  rw [List.map_congr_left this, List.map_id'']
  intro b; rfl
theorem well_ascii {b : Int} (t : List Int) (h : b < 128) : wellL (b :: t) = wellL t := by
  have hd := dec_ascii t h
  have hg := fault_ge _ t rfl
  unfold wellL
  rw [fault_ok (by simp) (by rw [hd]), hd]
  show decide ((if faultL (List.drop 1 (b :: t)) = -1 then -1 else 1 + faultL (List.drop 1 (b :: t))) < 0) = _
  rw [List.drop_succ_cons, List.drop_zero, Bool.eq_iff_iff, decide_eq_true_iff, decide_eq_true_iff]
  split <;> omega
theorem well_nil : wellL [] = true := by unfold wellL; rw [fault_nil]; decide
theorem well_bad : wellL [255] = false := by
  unfold wellL; rw [fault_bad (by simp) (by decide)]; decide
theorem well_rep (t : List Int) : ∀ j, wellL (List.replicate j 97 ++ t) = wellL t
  | 0 => rfl
  | j + 1 => by rw [List.replicate_succ, List.cons_append, well_ascii _ (by decide), well_rep t j]
theorem ahead_rep {set : List Int} (h : set.contains 97 = false) (t : List Int) : ∀ j, aheadL set (List.replicate j 97 ++ t) = j + aheadL set t
  | 0 => by simp
  | j + 1 => by rw [List.replicate_succ, List.cons_append, ahead_cons, h, ahead_rep h t j]; simp; omega
theorem escH_a (t : List Int) : escH (97 :: t) < 0 := by
  match t with
  | [] => exact show (-1 : Int) < 0 by decide
  | [_] => exact show (-1 : Int) < 0 by decide
  | a :: b :: u => show (if (97 : Int) = 37 then (if hv a < 0 ∨ hv b < 0 then -1 else 16 * hv a + hv b) else (-1 : Int)) < 0; rw [if_neg (by decide)]; decide
theorem step_a5 (iri : Bool) (t : List Int) : stepAt 5 iri (97 :: t) = 1 := by
  have := escH_a t
  unfold stepAt
  rw [if_pos (by decide), if_neg (by omega), dec_ascii t (by decide)]
  have : mayAt 5 iri 97 = true := by cases iri <;> decide
  simp [this]
theorem allAt_a (iri : Bool) (t : List Int) : allAt 5 iri (97 :: t) = allAt 5 iri t := by
  unfold allAt
  rw [span_eq, step_a5, if_neg (by decide), List.length_cons, Bool.eq_iff_iff, beq_iff_eq, beq_iff_eq]
  simp only [List.drop_succ_cons, List.drop_zero]
  omega
theorem allAt_rep (iri : Bool) (t : List Int) : ∀ j, allAt 5 iri (List.replicate j 97 ++ t) = allAt 5 iri t
  | 0 => rfl
  | j + 1 => by rw [List.replicate_succ, List.cons_append, allAt_a, allAt_rep iri t j]
theorem allAt_bad (iri : Bool) : allAt 5 iri [255] = false := by
  have h : stepAt 5 iri [255] = 0 := by
    unfold stepAt
    rw [if_pos (by decide), if_neg (by decide), show (dec [255]).2.2 = false by decide]
    rfl
  unfold allAt
  rw [span_eq, if_pos h]
  rfl
def longL (j : Nat) (t : List Int) : List Int := 97 :: 58 :: 97 :: 97 :: (List.replicate j 97 ++ t)
theorem long_ahead {set t : List Int} (h : set.contains 97 = false) (ht : aheadL set t = t.length) (j : Nat) : aheadL set (97 :: 97 :: (List.replicate j 97 ++ t)) = j + 2 + t.length := by
  rw [ahead_cons, h, ahead_cons, h, ahead_rep h, ht]; simp; omega
theorem long_pI (j : Nat) (t : List Int) : pI (longL j t) = 1 := by
  unfold pI longL
  rw [ahead_cons, ahead_cons]; simp
theorem long_cS (j : Nat) (t : List Int) : cS (longL j t) = true := by
  unfold cS
  rw [long_pI]; rfl
theorem long_pC (j : Nat) (t : List Int) : pC (longL j t) = 2 := by
  unfold pC
  rw [long_cS, long_pI]; rfl
theorem long_cA (j : Nat) (t : List Int) : cA (longL j t) = false := by
  unfold cA
  rw [long_pC]
  rfl
theorem long_pP (j : Nat) (t : List Int) : pP (longL j t) = 2 := by
  unfold pP
  rw [long_cA, long_pC]; rfl
theorem long_len (j : Nat) (t : List Int) : (longL j t).length = j + 4 + t.length := by
  unfold longL; simp; omega
theorem long_pEnd (j : Nat) (t : List Int) (ht : aheadL [63, 35] t = t.length) : pEnd (longL j t) 2 = (longL j t).length := by
  unfold pEnd
  rw [long_len, show (longL j t).drop 2 = 97 :: 97 :: (List.replicate j 97 ++ t) from rfl, long_ahead (by decide) ht]
  omega
theorem long_cQ (j : Nat) (t : List Int) (ht : aheadL [63, 35] t = t.length) : cQ (longL j t) = false := by
  unfold cQ
  rw [long_pP, long_pEnd j t ht, List.getD_eq_getElem?_getD, List.getElem?_eq_none (Nat.le_refl _)]
  rfl
theorem long_cF (j : Nat) (t : List Int) (ht : aheadL [63, 35] t = t.length) : cF (longL j t) = false := by
  unfold cF pF
  rw [long_cQ j t ht, long_pP, long_pEnd j t ht]
  simp
theorem long_split (s : ByteArray) (j : Nat) (t : List Int) (ht : aheadL [63, 35] t = t.length) (hb : bytesOf s = longL j t) :
    splitS s = (s.extract 0 1, false, nil8, s.extract 2 s.size, false, nil8, false, nil8) := by
  unfold splitS
  rw [hb, long_cS, long_pI, long_cA, long_cQ j t ht, long_cF j t ht, long_pP, long_pEnd j t ht, ← hb, bytes_len]
  rfl
theorem long_may (kind : Int) (s : ByteArray) (j : Nat) (t : List Int) (ht : aheadL [63, 35] t = t.length) (hb : bytesOf s = longL j t) :
    mayS kind s = allAt 5 (decide (kind ≥ 4)) t := by
  unfold mayS
  rw [long_split s j t ht hb]
  have e1 : bytesOf (s.extract 0 1) = [97] := by rw [bytes_extract, hb]; rfl
  have e2 : bytesOf (s.extract 2 s.size) = 97 :: 97 :: (List.replicate j 97 ++ t) := by
    rw [bytes_extract, ← bytes_len, List.take_length, hb]; rfl
  have e3 : bytesOf nil8 = [] := by decide +kernel
  unfold mayP pathL
  dsimp only
  rw [e1, e2, e3, allAt_nil, allAt_nil, allAt_a, allAt_a, allAt_rep, if_neg (by simp), show schemeL [97] = true by decide]
  cases allAt 5 (decide (kind ≥ 4)) t <;> simp
theorem long_size (s : ByteArray) (j : Nat) (t : List Int) (hb : bytesOf s = longL j t) : s.size = j + 4 + t.length := by
  rw [← bytes_len, hb, long_len]
theorem long_good (kind : Int) (h1 : 1 ≤ kind) (h5 : kind ≤ 5) (s : ByteArray) (j : Nat) (hj : j + 4 ≤ 65535) (hb : bytesOf s = longL j []) :
    parseT kind s = (s.extract 0 1, false, nil8, s.extract 2 s.size, false, nil8, false, nil8, 0) := by
  have hs := long_size s j [] hb
  rw [List.length_nil] at hs
  have hm := long_may kind s j [] rfl hb
  rw [allAt_nil] at hm
  have hw : wellL (bytesOf s) = true := by
    rw [hb]
    show wellL (97 :: 58 :: 97 :: 97 :: (List.replicate j 97 ++ [])) = true
    rw [well_ascii _ (by decide), well_ascii _ (by decide), well_ascii _ (by decide), well_ascii _ (by decide), well_rep, well_nil]
  unfold parseT
  rw [if_neg (by omega), if_neg (by omega), if_neg (by rw [hw]; simp), if_pos hm, long_split s j [] rfl hb]
  rfl
theorem long_bad (kind : Int) (h1 : 1 ≤ kind) (h5 : kind ≤ 5) (s : ByteArray) (j : Nat) (hj : j + 5 ≤ 65535) (hb : bytesOf s = longL j [255]) :
    parseT kind s = err9 (if 4 ≤ kind then 3 else 4) := by
  have hs := long_size s j [255] hb
  rw [List.length_singleton] at hs
  have hm := long_may kind s j [255] (by decide) hb
  rw [allAt_bad] at hm
  have hw : wellL (bytesOf s) = false := by
    rw [hb]
    show wellL (97 :: 58 :: 97 :: 97 :: (List.replicate j 97 ++ [255])) = false
    rw [well_ascii _ (by decide), well_ascii _ (by decide), well_ascii _ (by decide), well_ascii _ (by decide), well_rep, well_bad]
  unfold parseT
  rw [if_neg (by omega), if_neg (by omega)]
  by_cases h : 4 ≤ kind
  · rw [if_pos ⟨h, hw⟩, if_pos h]
  · rw [if_neg (fun h' => h h'.1), if_neg (by rw [hm]; simp), if_neg h]
theorem long_long (kind : Int) (h1 : 1 ≤ kind) (h5 : kind ≤ 5) (s : ByteArray) (hs : 65535 < s.size) : parseT kind s = err9 2 := by
  unfold parseT
  rw [if_neg (by omega), if_pos hs]
end Go.Proofs.YtpmflpeckoeooaaDoor.Y
namespace Go.Proofs.YtpmflpeckoeooaaDoor.Y
open Go.RowKit Go.Proofs.YtpmflpeckoeooaaDoor.X Go.Proofs.YtpmflpeckoeooaaDoor.M Go.Proofs.YtpmflpeckoeooaaDoorW.PrintWords Go.Proofs.YtpmflpeckoeooaaDoorW.PrintLast Go.Proofs.YtpmflpeckoeooaaDoorW.PrintMore
set_option linter.unusedVariables false
set_option maxRecDepth 100000 in
theorem Syn_awake : Ev (fun k => monikerlaw22_awake.f k) true := Ev.of (fun k => monikerlaw22_awake.mono k) (k := 60) (by decide +kernel)
end Go.Proofs.YtpmflpeckoeooaaDoor.Y
namespace Go.Proofs.YtpmflpeckoeooaaDoor.Pure
open Go.RowKit Go.Proofs.YtpmflpeckoeooaaDoor.X Go.Proofs.YtpmflpeckoeooaaDoor.M Go.Proofs.YtpmflpeckoeooaaDoor.Y Go.Proofs.YtpmflpeckoeooaaDoorW.PrintWords Go.Proofs.YtpmflpeckoeooaaDoorW.PrintLast Go.Proofs.YtpmflpeckoeooaaDoorW.PrintMore
set_option linter.unusedVariables false
set_option linter.unusedSimpArgs false
theorem long_j2_3 (b : Bool) (n : Int) (p0 : ByteArray) (p1 : Bool) (p2 p3 : ByteArray) (p4 : Bool) (p5 : ByteArray) (p6 : Bool) (p7 : ByteArray) :
    Ev (fun k => monikerlaw22_SyntaxLong.j2 k b n 3 true p0 p1 p2 p3 p4 p5 p6 p7) true := by
  refine Ev.step (fun k => by rw [monikerlaw22_SyntaxLong.j2]) ?_
  exact Ev.ite_pos rfl (Ev.ite_pos rfl (Ev.bind' Syn_awake (Ev.now _)))
theorem long_j2_4 (n : Int) (p0 : ByteArray) (p1 : Bool) (p2 p3 : ByteArray) (p4 : Bool) (p5 : ByteArray) (p6 : Bool) (p7 : ByteArray) :
    Ev (fun k => monikerlaw22_SyntaxLong.j2 k true n 4 false p0 p1 p2 p3 p4 p5 p6 p7) true := by
  refine Ev.step (fun k => by rw [monikerlaw22_SyntaxLong.j2]) ?_
  exact Ev.ite_neg (by simp) (Ev.ite_pos rfl (Ev.ite_pos rfl (Ev.bind' Syn_awake (Ev.now _))))
theorem long_j2_0 (n : Int) (p0 : ByteArray) (p1 : Bool) (p2 p3 : ByteArray) (p4 : Bool) (p5 : ByteArray) (p6 : Bool) (p7 : ByteArray) (h0 : p0.toList = [97]) (h3 : (p3.size : Int) = wrap64 (n - 2)) :
    Ev (fun k => monikerlaw22_SyntaxLong.j2 k false n 0 false p0 p1 p2 p3 p4 p5 p6 p7) true := by
  refine Ev.step (fun k => by rw [monikerlaw22_SyntaxLong.j2]) ?_
  exact Ev.ite_neg (by simp) (Ev.ite_neg (by simp) (Ev.ite_pos rfl (Ev.ite_pos h0 (Ev.ite_pos h3 (Ev.bind' Syn_awake (Ev.now _))))))
theorem longL_range (j : Nat) (t : List Int) (ht : ∀ b ∈ t, 0 ≤ b ∧ b ≤ 255) : ∀ b ∈ longL j t, 0 ≤ b ∧ b ≤ 255 := by
  intro b hb
  unfold longL at hb
  simp only [List.mem_cons, List.mem_append, List.mem_replicate] at hb
  rcases hb with h | h | h | h | h | h
  · omega
  · omega
  · omega
  · omega
  · omega
  · exact ht b h
theorem long_j1 (x1 : Int) (h0 : 0 ≤ x1) (h1 : x1 ≤ 255) (j : Nat) (hj : j ≤ 100000) :
    Ev (fun k => monikerlaw22_SyntaxLong.j1 k x1 false ((j + 4 : Nat) : Int) (longL j [])) true ∧ Ev (fun k => monikerlaw22_SyntaxLong.j1 k x1 true ((j + 5 : Nat) : Int) (longL j [255])) true := by
  have hk : Int.tmod (wrap64 x1) 5 = x1 % 5 := by
    rw [w64 (by omega) (by omega), Int.tmod_eq_emod_of_nonneg h0]
  have hkind : wrap64 (1 + x1 % 5) = 1 + x1 % 5 := w64 (by omega) (by omega)
  have hr1 := longL_range j [] (by simp)
  have hr2 := longL_range j [255] (by simp)
  have hb1 : bytesOf (strOfNums (longL j [])) = longL j [] := bytes_nums hr1
  have hb2 : bytesOf (strOfNums (longL j [255])) = longL j [255] := bytes_nums hr2
  have hs1 := long_size _ j [] hb1
  have hs2 := long_size _ j [255] hb2
  rw [List.length_nil] at hs1
  rw [List.length_singleton] at hs2
  constructor
  · refine Ev.step (fun k => by rw [monikerlaw22_SyntaxLong.j1]) ?_
    rw [hk, hkind]
    refine Ev.bind' (parseT_f _ _) ?_
    by_cases hl : 65535 < j + 4
    · rw [long_long _ (by omega) (by omega) _ (by omega)]
      refine Ev.ite_pos (by omega) (Ev.ite_pos rfl (Ev.ite_pos (by decide +kernel) (Ev.bind' Syn_awake (Ev.now _))))
    · rw [long_good _ (by omega) (by omega) _ j (by omega) hb1]
      refine Ev.ite_neg (by omega) (Ev.ite_neg (by simp) ?_)
      refine long_j2_0 _ _ _ _ _ _ _ _ _ ?_ ?_
      · show ((strOfNums (longL j [])).extract 0 1).toList = ([97] : List UInt8)
        have e : (strOfNums (longL j [])).extract 0 1 = (⟨#[97]⟩ : ByteArray) := by
          apply bytes_inj
          rw [bytes_extract, hb1]; rfl
        rw [e]; decide +kernel
      · show (((strOfNums (longL j [])).extract 2 _).size : Int) = _
        rw [ByteArray.size_extract, hs1, w64 (by omega) (by omega)]
        omega
  · refine Ev.step (fun k => by rw [monikerlaw22_SyntaxLong.j1]) ?_
    rw [hk, hkind]
    refine Ev.bind' (parseT_f _ _) ?_
    by_cases hl : 65535 < j + 5
    · rw [long_long _ (by omega) (by omega) _ (by omega)]
      refine Ev.ite_pos (by omega) (Ev.ite_pos rfl (Ev.ite_pos (by decide +kernel) (Ev.bind' Syn_awake (Ev.now _))))
    · rw [long_bad _ (by omega) (by omega) _ j (by omega) hb2]
      refine Ev.ite_neg (by omega) (Ev.ite_pos rfl ?_)
      by_cases h4 : 4 ≤ 1 + x1 % 5
      · rw [if_pos h4, decide_eq_true (show x1 % 5 ≥ 3 by omega)]
        exact long_j2_3 _ _ _ _ _ _ _ _ _ _
      · rw [if_neg h4, decide_eq_false (show ¬ x1 % 5 ≥ 3 by omega)]
        exact long_j2_4 _ _ _ _ _ _ _ _ _
theorem set_mid (i d : Nat) : (List.replicate i (97 : Int) ++ List.replicate (d + 1) 0).set i 97 = List.replicate (i + 1) 97 ++ List.replicate d 0 := by
  rw [List.set_append_right _ _ (by rw [List.length_replicate]; exact Nat.le_refl _), List.length_replicate, Nat.sub_self, List.replicate_succ, List.set_cons_zero, List.replicate_succ' (n := i), List.append_assoc]
  rfl
theorem long_l0 (x1 : Int) (h0 : 0 ≤ x1) (h1 : x1 ≤ 255) (b : Bool) (n : Nat) (h5 : 5 ≤ n) (hn : n ≤ 100000) : ∀ d i : Nat, i + d = n →
    Ev (fun k => monikerlaw22_SyntaxLong.l0 k x1 b (n : Int) (List.replicate i 97 ++ List.replicate d 0) (n : Int) (i : Int)) true := by
  intro d
  induction d with
  | zero =>
    intro i hi
    have hi : i = n := by omega
    subst hi
    refine Ev.step (fun k => by rw [monikerlaw22_SyntaxLong.l0]) ?_
    refine Ev.ite_neg (by omega) ?_
    have hl : (List.replicate i (97 : Int) ++ List.replicate 0 0) = List.replicate i 97 := by simp
    rw [hl]
    refine Ev.ite_pos (by rw [List.length_replicate]; omega) (Ev.pure_bind rfl ?_)
    obtain ⟨m, rfl⟩ : ∃ m, i = m + 5 := ⟨i - 5, by omega⟩
    have e1 : (List.replicate (m + 5) (97 : Int)).set (1 : Int).toNat 58 = longL (m + 1) [] := by
      unfold longL
      rw [List.append_nil]
      rfl
    have hw : wrap64 (((m + 5 : Nat) : Int) - 1) = ((m + 4 : Nat) : Int) := by rw [w64 (by omega) (by omega)]; omega
    rw [e1, hw]
    cases b
    · refine Ev.ite_neg (by simp) ?_
      exact (long_j1 x1 h0 h1 (m + 1) (by omega)).1
    · refine Ev.ite_pos rfl (Ev.ite_pos (by omega) (Ev.ite_pos (by rw [List.length_replicate]; omega) ?_))
      have e2 : (longL (m + 1) []).set (((m + 4 : Nat) : Int)).toNat 255 = longL m [255] := by
        rw [Int.toNat_natCast]
        unfold longL
        rw [List.append_nil]
        show 97 :: 58 :: 97 :: 97 :: (List.replicate (m + 1) (97 : Int)).set m 255 = _
        rw [List.replicate_succ' (n := m), List.set_append_right _ _ (by rw [List.length_replicate]; exact Nat.le_refl _), List.length_replicate, Nat.sub_self]
        rfl
      rw [e2]
      exact (long_j1 x1 h0 h1 m (by omega)).2
  | succ d ih =>
    intro i hi
    refine Ev.step (fun k => by rw [monikerlaw22_SyntaxLong.l0]) ?_
    refine Ev.ite_pos (by omega) (Ev.ite_pos (by omega) (Ev.ite_pos (by rw [List.length_append, List.length_replicate, List.length_replicate]; omega) ?_))
    rw [Int.toNat_natCast, set_mid, show wrap64 ((i : Int) + 1) = ((i + 1 : Nat) : Int) by rw [w64 (by omega) (by omega)]; omega]
    exact ih (i + 1) (by omega)
theorem u8_wf {a : Int} (h : (Lit.int .u8 a).wf = true) : 0 ≤ a ∧ a ≤ 255 := by
  have h : (decide (IntKind.u8.min ≤ a) && decide (a ≤ IntKind.u8.max)) = true := h
  rw [Bool.and_eq_true, decide_eq_true_iff, decide_eq_true_iff] at h
  exact ⟨h.1, h.2⟩
theorem SyntaxLong : monikerlaw22_SyntaxLong.Pure := by
  intro a0 a1 a2 h0 h1
  have r0 : 0 ≤ a0 ∧ a0 ≤ 255 := u8_wf h0
  have r1 : 0 ≤ a1 ∧ a1 ≤ 255 := u8_wf h1
  refine Ev.rounds (r := true) ?_
  unfold monikerlaw22_SyntaxLong.f
  have hk : Int.tmod (wrap64 a0) 10 = a0 % 10 := by
    rw [w64 (by omega) (by omega), Int.tmod_eq_emod_of_nonneg r0.1]
  obtain ⟨n, hn⟩ : ∃ n : Nat, wrap64 (65530 + a0 % 10) = (n : Int) := ⟨(65530 + a0 % 10).toNat, by rw [w64 (by omega) (by omega)]; omega⟩
  have hn' : (n : Int) = 65530 + a0 % 10 := by rw [← hn, w64 (by omega) (by omega)]
  rw [hk, hn, Int.toNat_natCast]
  refine Ev.ite_pos (by omega) (Ev.ite_pos (by omega) (Ev.pure_bind rfl ?_))
  rw [List.length_replicate]
  have h := long_l0 a1 r1.1 r1.2 a2 n (by omega) (by omega) n 0 (by omega)
  simpa using h
end Go.Proofs.YtpmflpeckoeooaaDoor.Pure
namespace Go.Proofs.YtpmflpeckoeooaaDoor.syntaxLong
open Go.ChangeShapes Go.WideShapes Go.ChangeAt Go.RowKit
open Go.ChangeMaps (open_string shut_string)
set_option linter.unusedVariables false
set_option linter.unusedSimpArgs false
theorem own : ownKnob Tryd.prog.godebug = none := by kernel_rfl
theorem gw_len {W : World} (h : W.ShapedOpen Tryd.prog) : ∃ m, W.cell? ⟨0, 0, none⟩ = some (.int .i64 m) :=
  Go.Proofs.cell_of_shapedOpen_int (g := 0) (t := 3) (zero := #[.int .i64 0]) h (of_decide_eq_true (by kernel_rfl)) (by kernel_rfl) rfl (by kernel_rfl) (by kernel_rfl) Tryd.underlying3
theorem gw {W : World} (h : W.ShapedOpen Tryd.prog) (hL0 : laidMetH Tryd.prog Rows.syntaxLongRow.laid W) : X.GW W := ⟨gw_len h⟩
set_option maxRecDepth 100000 in
theorem contract (H : Type) (enc : TypeId × Value → H) (W : World) (base : Nat) (args : Array Value) (ds gs : List (DataW H)) (before : List MemPlace)
    (hval0 : ∀ (j : Nat) t v, Tryd.f3.params[j]? = some t → args[j]? = some v → Value.okWide Tryd.prog W .any base t v)
    (hW : DataW.Whole enc Tryd.prog Tryd.f3.params.toList Rows.syntaxLongSpec.vars false W args.toList ds gs before)
    (hsz0 : (DataW.weightsEach Tryd.prog (Tryd.f3.params.toList ++ Rows.syntaxLongSpec.plain.varTypes Tryd.prog) (ds ++ gs)).all (· ≤ reachBytes) = true) (hsh : W.ShapedOpen Tryd.prog) (hL : laidMetH Tryd.prog Rows.syntaxLongRow.laid W) :
    Calls Tryd.prog 3 args W fun e W' => ∃ v, e = .returned v ∧ Rows.syntaxLongSpec.post enc Tryd.prog Tryd.f3 false true false false W args v W' := by
  have hsz : (DataW.weightsEach Tryd.prog (Tryd.f3.params.toList ++ Rows.syntaxLongSpec.plain.varTypes Tryd.prog) (ds ++ gs)).all (· ≤ reachBytes) = true := hsz0
  have hval : ∀ (j : Nat) t v, Tryd.f3.params[j]? = some t → args[j]? = some v → Value.okWide Tryd.prog W .any base t v := hval0
  have hW' := hW
  obtain ⟨p, q, hA0, hV, rfl, hfz, hnd⟩ := hW
  have hA : DataW.TrodAll enc Tryd.prog W 0 (fun _ => true) true Tryd.f3.params.toList args.toList ds p := hA0
  rw [Tryd.params3] at hA hval hsz
  obtain ⟨v0, vs0, d0, ds0, p0, q0, hargs, rfl, rfl, h0, r0⟩ := trodAll_cons hA
  obtain ⟨v1, vs1, d1, ds1, p1, q1, rfl, rfl, rfl, h1, r1⟩ := trodAll_cons r0
  obtain ⟨v2, vs2, d2, ds2, p2, q2, rfl, rfl, rfl, h2, r2⟩ := trodAll_cons r1
  obtain ⟨rfl, rfl, rfl⟩ := trodAll_nil r2
  obtain rfl : args = #[v0, v1, v2] := by cases args; simp_all
  obtain ⟨rfl, rfl⟩ := trodVars_none hV
  obtain ⟨a0, rfl, rfl, rfl, w0⟩ := open_int Tryd.underlying5 (hval 0 5 v0 rfl rfl) h0
  obtain ⟨a1, rfl, rfl, rfl, w1⟩ := open_int Tryd.underlying5 (hval 1 5 v1 rfl rfl) h1
  obtain ⟨a2, rfl, rfl, rfl⟩ := open_bool Tryd.underlying4 (hval 2 4 v2 rfl rfl) h2
  clear hA0 hval0 hsz0 hsz
  obtain ⟨k, hk⟩ := Pure.SyntaxLong a0 a1 a2 w0 w1
  refine (X.monikerlaw22_SyntaxLong.calls k a0 a1 a2 true W (gw hsh hL) hk).mono fun e W' ⟨he, bel0⟩ => ?_
  have bel : Below W.heap.size W W' := bel0
  subst he
  exact ⟨_, rfl, _, _, _, [], _, [], hW', trodAll_mk1 (shut_bool Tryd.underlying4 _), (trodAll_cons_mk (shut_int Tryd.underlying5 w0) (trodAll_cons_mk (shut_int Tryd.underlying5 w1) (trodAll_cons_mk (shut_bool Tryd.underlying4 _) trodAll_mk0))), rfl, bel.frame _, fun h => by cases h⟩
def flat : Nat → DataW Unit → List Value
  | 0, _ => []
  | k + 1, .agg l => l.flatMap (flat k)
  | _ + 1, .lit (.int kd n) => [.int kd n]
  | _ + 1, .lit (.bool b) => [.bool b]
  | _ + 1, _ => []
def layAt (g : Nat) (cs : List Value) (h : Array Obj) : Array Obj := h.modify g fun
  | .cells _ t frozen => .cells cs.toArray t frozen
  | x => x
noncomputable def laidWorld (os : Os) : World := { World.holding Tryd.prog os ⟨#[], #[], []⟩ with heap := layAt 1 (flat 9 Rows.laid_unicode_utf8_first) (layAt 2 (flat 9 Rows.laid_unicode_utf8_acceptRanges) ((World.holding Tryd.prog os ⟨#[], #[], []⟩).heap)) }
theorem laid_met (os : Os) : laidMet Tryd.prog Rows.syntaxLongRow.laid ((laidWorld os).forCall (fun _ _ => 0) ⟨#[], #[.int .u8 0, .int .u8 0, .bool false], []⟩).memory :=
  laidMet_of_run' 8 (by kernel_rfl) (by kernel_rfl)
theorem reads (os : Os) {H : Type} (enc : TypeId × Value → H) : ∃ places, DataW.whole enc Tryd.prog ((laidWorld os).forCall (fun _ _ => 0) ⟨#[], #[.int .u8 0, .int .u8 0, .bool false], []⟩).memory Tryd.f3.params.toList Rows.syntaxLongSpec.vars false (#[.int .u8 0, .int .u8 0, .bool false] : Array Value).toList 8 = some ([.lit (.int .u8 0), .lit (.int .u8 0), .lit (.bool false)], [], places) :=
  ⟨[], by kernel_rfl⟩
set_option maxRecDepth 100000 in
theorem lifted (os : Os) (started : os.Started) (H : Type) (enc : TypeId × Value → H) (F : Stop.Interp) :
    ReturnsInHanded {} Tryd.checked os 3 .any ((OpenSpec.ofChange Rows.syntaxLongSpec).preRow enc Tryd.prog Tryd.f3 Rows.syntaxLongRow.domain false Rows.syntaxLongRow.laid) (((OpenSpec.ofChange Rows.syntaxLongSpec).at F).post enc Tryd.prog Tryd.f3 false true false false) := by
  obtain ⟨places, hx⟩ := reads os enc
  refine returnsInHanded_of_row (C := Tryd.checked) (s := OpenSpec.ofChange Rows.syntaxLongSpec) own started (by kernel_rfl) Tryd.func3
    (witness_row_at (enc := enc) (C := Tryd.checked) false (laidWorld os) #[.int .u8 0, .int .u8 0, .bool false] rfl (by kernel_rfl) (by kernel_rfl) (by kernel_rfl)
      (OpenSpec.preRow_of_cond 8 hx (by kernel_rfl) (fun k hk => by cases hk) (by kernel_rfl) (laid_met os))) ?_
  intro W base args ds gs before hval hW _ _ hsz hL hsh _
  exact contract H enc W base args ds gs before hval hW hsz hsh hL
theorem said : Rows.SyntaxLongSaid :=
  OpenClaim.holds_of_cond 3 Tryd.f3 rfl rfl rfl rfl rfl rfl rfl ⟨rfl, rfl, rfl, rfl, rfl⟩ rfl rfl rfl rfl rfl (by kernel_rfl) Tryd.func3 (by kernel_rfl)
    (of_decide_eq_true (by kernel_rfl)) (by unfold Func.isWrapper; first | (rw [if_pos (by decide +kernel)]; kernel_rfl) | (rw [if_neg (by decide +kernel)]; exact ⟨rfl, rfl⟩))
    (fun os started H enc _ F => by rw [OpenClaim.pre_eq_preRow]; exact lifted os started H enc F)
theorem plain (f : FuncId) (fn : Func) (hf : Tryd.pinned.checked.prog.funcNamed "moniker/monikerlaw22.SyntaxLong" = some f) (hfn : Tryd.pinned.checked.prog.funcs[f]? = some fn) :
    false = Tryd.pinned.checked.prog.looks [] ∧ ∀ (j : Nat) t, fn.params[j]? = some t → Tryd.pinned.checked.prog.wantsStandIn t = false := by
  obtain rfl : f = 3 := Option.some.inj ((show Tryd.prog.funcNamed "moniker/monikerlaw22.SyntaxLong" = some 3 by kernel_rfl).symm.trans hf) |>.symm
  obtain rfl : fn = Tryd.f3 := (Option.some.inj (Tryd.func3.symm.trans hfn)).symm
  refine ⟨by kernel_rfl, fun j t ht => ?_⟩
  rw [Tryd.params3] at ht
  have hm := Array.mem_of_getElem? ht
  simp only [List.mem_cons, List.mem_toArray, List.mem_nil_iff, or_false] at hm
  rcases hm with rfl | rfl | rfl
  · exact (show Tryd.prog.wantsStandIn 5 = false by kernel_rfl)
  · exact (show Tryd.prog.wantsStandIn 5 = false by kernel_rfl)
  · exact (show Tryd.prog.wantsStandIn 4 = false by kernel_rfl)
theorem card : Rows.SyntaxLongCardSaid :=
  Claim7.holds_tied_plain_at .later [] _ _ _ _ said (fun _ h => by cases h) (by kernel_rfl) (fun _ h => by cases h) syntaxLong_row_tie rfl ⟨rfl, rfl⟩ (by kernel_rfl) rfl plain (by kernel_rfl)
#print axioms card
end Go.Proofs.YtpmflpeckoeooaaDoor.syntaxLong
namespace Go.Proofs.YtpmflpeckoeooaaDoor
theorem syntaxLong_card : Rows.SyntaxLongCardSaid := syntaxLong.card
end Go.Proofs.YtpmflpeckoeooaaDoor
