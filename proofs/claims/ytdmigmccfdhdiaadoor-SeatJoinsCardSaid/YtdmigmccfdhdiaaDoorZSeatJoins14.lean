/- The law SeatJoins of layer 21, for every input: Any three parts, and whether an IRI is asked for: they are right just if the document says so; joined, they are told again. No condition beside the row's own. -/
import Derived.Test.YtdmigmccfdhdiaaDoorZSeatJoins2
import Derived.Test.YtdmigmccfdhdiaaDoorZSeatJoins6
import Derived.Test.YtdmigmccfdhdiaaDoorZSeatJoins10
import Derived.Test.YtdmigmccfdhdiaaDoorZSeatJoins11
import Derived.Test.YtdmigmccfdhdiaaDoorZSeatJoins13
import Derived.Test.YtdmigmccfdhdiaaDoorRows
import Derived.Test.YtdmigmccfdhdiaaDoorCards
import Derived.Test.YtdmigmccfdhdiaaDoorTie
import Derived.WalkKit
import Derived.ProofKit
import Derived.OpenShut
import Derived.ShutString
import Derived.ChangeOld
import Derived.Below
import Derived.SizedLaws
import Derived.ChangeArms
import Derived.Lib.SmallJoins
import Derived.Deep.DeepHandedRow
import Derived.Lib.LaidTab
import Derived.Shelf.Vars
namespace Go.Proofs.YtdmigmccfdhdiaaDoor.Y
open Go.RowKit Go.Proofs.YtdmigmccfdhdiaaDoor.X Go.Proofs.YtdmigmccfdhdiaaDoor.M Go.Proofs.YtdmigmccfdhdiaaDoorW.PrintWords Go.Proofs.YtdmigmccfdhdiaaDoorW.PrintLast Go.Proofs.YtdmigmccfdhdiaaDoorW.PrintMore
set_option linter.unusedVariables false
def rightL (iri hu : Bool) (u h : List Int) (hp : Bool) (p : List Int) : Bool := (!hu || allAt 1 iri u) && (hostK iri h != 0) && (!hp || p.all digit)
theorem splitC_in (c : Int) (l : List Int) : ∀ b ∈ l, b = c ∨ ∃ p ∈ splitC c l, b ∈ p := by
  induction l with
  | nil => intro b h; cases h
  | cons x t ih =>
    intro b h
    rw [splitC_cons]
    by_cases hx : x = c
    · rw [if_pos hx]
      rcases List.mem_cons.1 h with h | h
      · left; rw [h]; exact hx
      · rcases ih b h with h | ⟨p, hp, h2⟩
        · exact .inl h
        · exact .inr ⟨p, List.mem_cons_of_mem _ hp, h2⟩
    · rw [if_neg hx]
      rcases List.mem_cons.1 h with h | h
      · exact .inr ⟨_, List.mem_cons_self .., by rw [h]; exact List.mem_cons_self ..⟩
      · rcases ih b h with h | ⟨p, hp, h2⟩
        · exact .inl h
        · right
          rw [splitC_head c t] at hp
          rcases List.mem_cons.1 hp with rfl | hp
          · exact ⟨_, List.mem_cons_self .., List.mem_cons_of_mem _ h2⟩
          · exact ⟨p, List.mem_cons_of_mem _ hp, h2⟩
def addrByte (b : Int) : Bool := hexd b || b == 58 || b == 46
theorem digit_addr {b : Int} (h : digit b = true) : addrByte b = true := by
  have := digit_iff.1 h
  unfold addrByte hexd
  simp only [Bool.or_eq_true, decide_eq_true_iff]
  omega
theorem v4_bytes {l : List Int} (h : (v4 l).isSome = true) : ∀ b ∈ l, digit b = true ∨ b = 46 := by
  intro b hb
  unfold v4 at h
  split at h
  · rename_i x y z w e
    split at h
    · rename_i hd
      rcases splitC_in 46 l b hb with h1 | ⟨p, hp, h1⟩
      · exact .inr h1
      · left
        rw [e] at hp
        simp only [List.mem_cons, List.mem_nil_iff, or_false] at hp
        have key : ∀ q : List Int, 0 ≤ d8 q → b ∈ q → digit b = true := fun q hq hm => List.all_eq_true.1 (d8_digit hq) b hm
        rcases hp with rfl | rfl | rfl | rfl
        · exact key _ hd.1 h1
        · exact key _ hd.2.1 h1
        · exact key _ hd.2.2.1 h1
        · exact key _ hd.2.2.2 h1
    · cases h
  · cases h
theorem words_bytes {fin : Bool} {r : List (List Int)} {l : List Int} (h : words fin r = some l) : ∀ p ∈ r, ∀ b ∈ p, addrByte b = true := by
  induction r generalizing l with
  | nil => simp
  | cons q r ih =>
    rw [words_cons] at h
    intro p hp b hb
    split at h
    · rename_i hc
      rw [hc.1] at hp
      rw [List.mem_singleton] at hp
      subst hp
      rcases v4_bytes hc.2.2 b hb with h1 | h1
      · exact digit_addr h1
      · rw [h1]; rfl
    · split at h
      · cases h
      · rename_i hw
        obtain ⟨x, hx, rfl⟩ := Option.map_eq_some_iff.1 h
        rcases List.mem_cons.1 hp with rfl | hp
        · have := List.all_eq_true.1 (word_all (l := p) (by omega)).1 b hb
          unfold addrByte
          rw [this]; rfl
        · exact ih hx p hp b hb
theorem rowS_bytes {fin : Bool} {l w : List Int} (h : rowS fin l = some w) : ∀ b ∈ l, addrByte b = true := by
  intro b hb
  unfold rowS at h
  split at h
  · rename_i e; rw [e] at hb; cases hb
  · rcases splitC_in 58 l b hb with h1 | ⟨p, hp, h1⟩
    · rw [h1]; rfl
    · exact words_bytes h p hp b h1
theorem v6_bytes {l : List Int} (h : (v6 l).isSome = true) : ∀ b ∈ l, addrByte b = true := by
  intro b hb
  obtain ⟨w, hw⟩ := Option.isSome_iff_exists.1 h
  unfold v6 at hw
  split at hw
  · obtain ⟨x, hx, _⟩ := Option.bind_eq_some_iff.1 hw
    exact rowS_bytes hx b hb
  · rename_i hs
    obtain ⟨x, hx, hw⟩ := Option.bind_eq_some_iff.1 hw
    obtain ⟨y, hy, _⟩ := Option.bind_eq_some_iff.1 hw
    have hsp := sidx_split (sub := [58, 58]) (l := l) (by omega)
    have e : l = l.take (sidx [58, 58] l).toNat ++ ([58, 58] ++ l.drop ((sidx [58, 58] l).toNat + 2)) := by
      have h1 := (List.take_append_drop (sidx [58, 58] l).toNat l).symm
      have h2 := (List.take_append_drop 2 (l.drop (sidx [58, 58] l).toNat)).symm
      have h3 : (l.drop (sidx [58, 58] l).toNat).take 2 = [58, 58] := hsp.2
      rw [h3, List.drop_drop] at h2
      rw [← h2]
      exact h1
    rw [e] at hb
    rcases List.mem_append.1 hb with h1 | h1
    · exact rowS_bytes hx b h1
    · rcases List.mem_append.1 h1 with h1 | h1
      · simp only [List.mem_cons, List.mem_nil_iff, or_false] at h1
        rcases h1 with rfl | rfl <;> rfl
      · exact rowS_bytes hy b h1
theorem fut_bytes {l : List Int} (h : fut l = true) : ∀ b ∈ l, addrByte b = true ∨ plainAt 1 b = true ∨ b = 118 ∨ b = 86 := by
  cases l with
  | nil => cases h
  | cons v t =>
    rw [fut_cons] at h
    simp only [Bool.and_eq_true, Bool.or_eq_true, beq_iff_eq] at h
    obtain ⟨⟨⟨⟨h1, h2⟩, h3⟩, h4⟩, h5⟩ := h
    intro b hb
    rcases List.mem_cons.1 hb with rfl | hb
    · rcases h1 with h1 | h1
      · exact .inr (.inr (.inl h1))
      · exact .inr (.inr (.inr h1))
    · rw [← List.take_append_drop (spanp hexd t) t] at hb
      rcases List.mem_append.1 hb with hb | hb
      · left
        have := spanp_take t b hb
        unfold addrByte
        rw [this]; rfl
      · cases hr : t.drop (spanp hexd t) with
        | nil => rw [hr] at hb; cases hb
        | cons c r =>
          rw [hr] at hb h4 h5
          rcases List.mem_cons.1 hb with rfl | hb
          · left
            have : b = 46 := h4
            rw [this]; rfl
          · exact .inr (.inl (List.all_eq_true.1 h5 b hb))
theorem byteAt2 {b : Int} (h : byteAt 2 b = true) : b ≠ 58 ∧ b ≠ 64 ∧ b ≠ 91 ∧ b ≠ 93 := by
  refine ⟨?_, ?_, ?_, ?_⟩ <;> (rintro rfl; exact absurd h (by decide))
theorem inside_bytes {b : Int} (h : addrByte b = true ∨ plainAt 1 b = true ∨ b = 118 ∨ b = 86) : b ≠ 64 ∧ b ≠ 93 := by
  constructor <;> (rintro rfl; exact absurd h (by decide))
theorem brack_split {l : List Int} (h : brack l = true) : l = 91 :: ((l.take (l.length - 1)).drop 1 ++ [93]) := by
  unfold brack at h
  simp only [Bool.and_eq_true, decide_eq_true_iff, beq_iff_eq] at h
  obtain ⟨⟨h1, h2⟩, h3⟩ := h
  cases l with
  | nil => simp at h1
  | cons a t =>
    have ha : a = 91 := h2
    subst ha
    have ht : t ≠ [] := by rintro rfl; simp at h1
    have e : t = t.dropLast ++ [93] := by
      have := (List.dropLast_concat_getLast ht).symm
      have hl : t.getLast ht = 93 := by
        rw [List.getLastD_eq_getLast?, List.getLast?_eq_some_getLast (by simp), Option.getD_some, List.getLast_cons ht] at h3
        exact h3
      rw [hl] at this
      exact this
    congr 1
    rw [show (91 :: t).length - 1 = (t.length - 1) + 1 by
      have : t.length ≠ 0 := fun x => ht (List.length_eq_zero_iff.1 x)
      simp; omega]
    rw [List.take_succ_cons, List.drop_succ_cons, List.drop_zero, ← List.dropLast_eq_take]
    exact e
theorem hostK_bytes {iri : Bool} {h : List Int} (hl : ∀ b ∈ h, 0 ≤ b ∧ b ≤ 255) (hk : hostK iri h ≠ 0) : (64 : Int) ∉ h ∧ ((∃ m, h = 91 :: (m ++ [93]) ∧ (93 : Int) ∉ m) ∨ ((58 : Int) ∉ h ∧ (91 : Int) ∉ h)) := by
  unfold hostK at hk
  by_cases hb : brack h = true
  · rw [if_pos hb] at hk
    have e := brack_split hb
    generalize (h.take (h.length - 1)).drop 1 = m at hk e
    have hm : ∀ b ∈ m, b ≠ 64 ∧ b ≠ 93 := by
      by_cases hc : ((v6 m).isSome || fut m) = true
      · rw [Bool.or_eq_true] at hc
        rcases hc with hc | hc
        · exact fun b hb => inside_bytes (.inl (v6_bytes hc b hb))
        · exact fun b hb => inside_bytes (fut_bytes hc b hb)
      · rw [if_neg hc] at hk
        exact absurd rfl hk
    refine ⟨?_, .inl ⟨m, e, fun x => (hm _ x).2 rfl⟩⟩
    rw [e]
    intro x
    rcases List.mem_cons.1 x with x | x
    · cases x
    · rcases List.mem_append.1 x with x | x
      · exact (hm _ x).1 rfl
      · rw [List.mem_singleton] at x; cases x
  · rw [if_neg hb] at hk
    have key : ∀ b ∈ h, b ≠ 58 ∧ b ≠ 64 ∧ b ≠ 91 := by
      by_cases h4 : (v4 h).isSome = true
      · intro b hb
        rcases v4_bytes h4 b hb with h1 | h1
        · have := digit_iff.1 h1; omega
        · omega
      · rw [if_neg h4] at hk
        by_cases ha : allAt 2 iri h = true
        · intro b hb
          have := byteAt2 (allAt_bytes hl ha b hb)
          exact ⟨this.1, this.2.1, this.2.2.1⟩
        · rw [if_neg ha] at hk
          exact absurd rfl hk
    exact ⟨fun x => (key _ x).2.1 rfl, .inr ⟨fun x => (key _ x).1 rfl, fun x => (key _ x).2.2 rfl⟩⟩
theorem idx_at {c : Int} {a : List Int} (h : c ∉ a) (r : List Int) : idx c (a ++ c :: r) = a.length := by
  rw [idx_append, if_pos (idx_none.2 h)]
  have : idx c (c :: r) = 0 := by unfold idx; rw [if_pos rfl]
  rw [this, if_neg (by omega)]; omega
theorem lidx_at {c : Int} (a : List Int) {r : List Int} (h : c ∉ r) : lidx c (a ++ c :: r) = a.length := by
  induction a with
  | nil =>
    rw [List.nil_append]
    have : lidx c (c :: r) = if lidx c r = -1 then (if c = c then 0 else -1) else lidx c r + 1 := rfl
    rw [this, if_pos (lidx_none.2 h), if_pos rfl]; rfl
  | cons b t ih =>
    rw [List.cons_append]
    have : lidx c (b :: (t ++ c :: r)) = if lidx c (t ++ c :: r) = -1 then (if b = c then 0 else -1) else lidx c (t ++ c :: r) + 1 := rfl
    rw [this, ih, if_neg (by omega), List.length_cons]; omega
def glue (hu : Bool) (u h : List Int) (hp : Bool) (p : List Int) : List Int := (if hu then u ++ [64] else []) ++ (h ++ if hp then 58 :: p else [])
def partL (l : List Int) : Bool × List Int × List Int × Bool × List Int :=
  (decide (0 ≤ lidx 64 l), l.take (lidx 64 l).toNat, (l.drop (lidx 64 l + 1).toNat).take (hostEnd (l.drop (lidx 64 l + 1).toNat)).toNat,
   decide (hostEnd (l.drop (lidx 64 l + 1).toNat) < (l.drop (lidx 64 l + 1).toNat).length), (l.drop (lidx 64 l + 1).toNat).drop ((hostEnd (l.drop (lidx 64 l + 1).toNat)).toNat + 1))
theorem hostEnd_right {h : List Int} (hh : (∃ m, h = 91 :: (m ++ [93]) ∧ (93 : Int) ∉ m) ∨ ((58 : Int) ∉ h ∧ (91 : Int) ∉ h)) (hp : Bool) (p : List Int) : hostEnd (h ++ if hp then 58 :: p else []) = h.length := by
  rcases hh with ⟨m, e, hm⟩ | ⟨h58, h91⟩
  · have e2 : h ++ (if hp then 58 :: p else []) = (91 :: m) ++ 93 :: (if hp then 58 :: p else []) := by rw [e]; simp
    have hi : idx 93 ((91 :: m) ++ 93 :: (if hp then 58 :: p else [])) = (m.length : Int) + 1 := by
      rw [idx_at (by rw [List.mem_cons, not_or]; exact ⟨by decide, hm⟩), List.length_cons]; omega
    have hl : h.length = m.length + 2 := by rw [e]; simp
    rw [e2]
    unfold hostEnd
    rw [hi, if_pos ⟨by simp, by omega⟩]
    have hd : ((91 :: m) ++ 93 :: (if hp then 58 :: p else [])).drop (((m.length : Int) + 1).toNat + 1) = if hp then 58 :: p else [] := by
      have : ((m.length : Int) + 1).toNat + 1 = ((91 : Int) :: m).length + 1 := by rw [List.length_cons]; omega
      rw [this, List.drop_append]
      simp
    rw [hd, if_pos (by cases hp <;> simp)]
    omega
  · have ht : ¬ ((h ++ if hp then 58 :: p else []).take 1 = [91]) := by
      cases h with
      | nil => cases hp <;> simp
      | cons b t =>
        rw [List.cons_append, List.take_succ_cons, List.take_zero]
        intro x
        injection x with x
        exact h91 (by rw [x]; exact List.mem_cons_self ..)
    unfold hostEnd
    rw [if_neg (fun x => ht x.1)]
    cases hp
    · have : idx 58 (h ++ if false = true then 58 :: p else []) = -1 := by
        rw [if_neg (by simp), List.append_nil]
        exact idx_none.2 h58
      rw [this, if_neg (by omega), if_neg (by simp), List.append_nil]
    · have : idx 58 (h ++ if true = true then 58 :: p else []) = h.length := by
        rw [if_pos rfl]
        exact idx_at h58 p
      rw [this, if_pos (by omega)]
theorem right_part {iri hu : Bool} {u h : List Int} {hp : Bool} {p : List Int} (hul : ∀ b ∈ u, 0 ≤ b ∧ b ≤ 255) (hhl : ∀ b ∈ h, 0 ≤ b ∧ b ≤ 255) (hu0 : hu = false → u = []) (hp0 : hp = false → p = [])
    (hr : rightL iri hu u h hp p = true) : partL (glue hu u h hp p) = (hu, u, h, hp, p) := by
  unfold rightL at hr
  simp only [Bool.and_eq_true, Bool.or_eq_true, Bool.not_eq_true'] at hr
  obtain ⟨⟨h1, h2⟩, h3⟩ := hr
  have h2' : hostK iri h ≠ 0 := by simpa using h2
  obtain ⟨h64, hform⟩ := hostK_bytes hhl h2'
  have he := hostEnd_right hform hp p
  have hrest : (64 : Int) ∉ h ++ if hp then 58 :: p else [] := by
    intro x
    rcases List.mem_append.1 x with x | x
    · exact h64 x
    · cases hp
      · simp at x
      · rw [if_pos rfl] at x
        rcases List.mem_cons.1 x with x | x
        · cases x
        · rcases h3 with h3 | h3
          · cases h3
          · have := digit_iff.1 (List.all_eq_true.1 h3 _ x); omega
  have both : ∀ r, r = h ++ (if hp then 58 :: p else []) → r.take (hostEnd r).toNat = h ∧ decide (hostEnd r < r.length) = hp ∧ r.drop ((hostEnd r).toNat + 1) = p := by
    intro r e
    subst e
    rw [he, Int.toNat_natCast]
    refine ⟨by simp, ?_, ?_⟩
    · cases hp
      · rw [decide_eq_false]; simp
      · rw [decide_eq_true]; simp; omega
    · cases hp
      · rw [hp0 rfl]
        apply List.drop_of_length_le
        simp
      · rw [if_pos rfl, List.drop_append]
        simp
  unfold partL glue
  cases hu
  · have hl : lidx 64 ((if false = true then u ++ [64] else []) ++ (h ++ if hp then 58 :: p else [])) = -1 := by
      rw [if_neg (by simp), List.nil_append]
      exact lidx_none.2 hrest
    rw [hl, if_neg (by simp), List.nil_append]
    obtain ⟨b1, b2, b3⟩ := both _ rfl
    have e0 : ((-1 : Int) + 1).toNat = 0 := rfl
    rw [e0, List.drop_zero, b1, b2, b3, hu0 rfl]
    rfl
  · have hl : lidx 64 ((if true = true then u ++ [64] else []) ++ (h ++ if hp then 58 :: p else [])) = u.length := by
      rw [if_pos rfl, List.append_assoc, List.singleton_append]
      exact lidx_at u hrest
    rw [hl, if_pos rfl]
    obtain ⟨b1, b2, b3⟩ := both _ rfl
    have e0 : ((u.length : Int) + 1).toNat = u.length + 1 := by omega
    have e1 : ((u ++ [64]) ++ (h ++ if hp then 58 :: p else [])).drop (u.length + 1) = h ++ if hp then 58 :: p else [] := by
      rw [List.drop_append]; simp
    have e2 : ((u ++ [64]) ++ (h ++ if hp then 58 :: p else [])).take u.length = u := by
      rw [List.append_assoc]; simp
    rw [e0, e1, b1, b2, b3, Int.toNat_natCast, e2, decide_eq_true (by omega)]
end Go.Proofs.YtdmigmccfdhdiaaDoor.Y
namespace Go.Proofs.YtdmigmccfdhdiaaDoor.Y
open Go.RowKit Go.Proofs.YtdmigmccfdhdiaaDoor.X Go.Proofs.YtdmigmccfdhdiaaDoor.M Go.Proofs.YtdmigmccfdhdiaaDoorW.PrintWords Go.Proofs.YtdmigmccfdhdiaaDoorW.PrintLast Go.Proofs.YtdmigmccfdhdiaaDoorW.PrintMore
set_option linter.unusedVariables false
theorem span_digits (l : List Int) (hl : ∀ b ∈ l, 0 ≤ b ∧ b ≤ 255) : (((spanp (fun b => isc b 2) l : Nat) : Int) = (l.length : Int)) ↔ l.all digit = true := by
  rw [spanp_congr (q := digit) (fun b hb => isc_digit (hl b hb).1 (hl b hb).2), List.all_eq_true]
  have := spanp_all (p := digit) (l := l)
  constructor
  · intro h; exact this.1 (by omega)
  · intro h; have := this.2 h; omega
theorem seatRight_f (iri hu : Bool) (u h : ByteArray) (hp : Bool) (p : ByteArray) (s1 : u.size ≤ 1000000) (s2 : h.size ≤ 1000000) (s3 : p.size ≤ 1000000) :
    Ev (fun k => seat_Right.f k iri hu u h hp p) (rightL iri hu (bytesOf u) (bytesOf h) hp (bytesOf p)) := by
  have bad : Ev (fun k => seat_Right.j0 k iri true hu u h hp p) false := by
    refine Ev.step (fun k => by rw [seat_Right.j0]) ?_
    exact Ev.ite_pos rfl (Ev.now _)
  have good : Ev (fun k => seat_Right.j0 k iri false hu u h hp p) ((hostK iri (bytesOf h) != 0) && (!hp || (bytesOf p).all digit)) := by
    refine Ev.step (fun k => by rw [seat_Right.j0]) ?_
    refine Ev.ite_neg (by simp) (Ev.bind' (host19_f iri h s2) ?_)
    refine Ev.ite (fun h0 => Ev.val (by simp [h0])) (fun h0 => ?_)
    have e0 : (hostK iri (bytesOf h) != 0) = true := by simpa using h0
    rw [e0]
    refine Ev.ite (fun h1 => Ev.bind' (octSpan_f p 2 (by omega)) (Ev.val ?_)) (fun h1 => Ev.val ?_)
    · have := span_digits (bytesOf p) (fun b hb => bytes_range hb)
      rw [bytes_len] at this
      rw [h1, Bool.eq_iff_iff, beq_iff_eq, this]
      simp
    · rw [Bool.not_eq_true] at h1
      simp [h1]
  unfold seat_Right.f rightL
  cases hu
  · refine Ev.ite_neg (by simp) ?_
    simp only [Bool.not_false, Bool.true_or, Bool.true_and]
    exact good
  · refine Ev.ite_pos rfl (Ev.bind' (all_f 1 iri u (by omega)) ?_)
    cases ha : allAt 1 iri (bytesOf u)
    · exact bad
    · simp only [Bool.not_true, Bool.or_true, Bool.true_and]
      exact good
theorem refRight_f (iri hu : Bool) (u h : ByteArray) (hp : Bool) (p : ByteArray) (s1 : u.size ≤ 1000000) (s2 : h.size ≤ 1000000) (s3 : p.size ≤ 1000000) :
    Ev (fun k => monikerref21_Right.f k iri hu u h hp p) (rightL iri hu (bytesOf u) (bytesOf h) hp (bytesOf p)) := by
  have bad : Ev (fun k => monikerref21_Right.j0 k iri true hu u h hp p) false := by
    refine Ev.step (fun k => by rw [monikerref21_Right.j0]) ?_
    exact Ev.ite_pos rfl (Ev.now _)
  have good : Ev (fun k => monikerref21_Right.j0 k iri false hu u h hp p) ((hostK iri (bytesOf h) != 0) && (!hp || (bytesOf p).all digit)) := by
    refine Ev.step (fun k => by rw [monikerref21_Right.j0]) ?_
    refine Ev.ite_neg (by simp) ?_
    refine Ev.ite (fun h1 => Ev.bind' (refSpan_f p 2 (by omega)) ?_) (fun h1 => ?_)
    · have := span_digits (bytesOf p) (fun b hb => bytes_range hb)
      rw [bytes_len] at this
      rw [h1]
      refine Ev.ite (fun h2 => Ev.bind' (refHost_f iri h s2) (Ev.val ?_)) (fun h2 => Ev.val ?_)
      · rw [this.1 h2]; simp
      · have h3 : ¬ ((bytesOf p).all digit = true) := fun x => h2 (this.2 x)
        rw [Bool.not_eq_true] at h3
        rw [h3]; simp
    · rw [Bool.not_eq_true] at h1
      rw [h1]
      exact Ev.bind' (refHost_f iri h s2) (Ev.val (by simp))
  unfold monikerref21_Right.f rightL
  cases hu
  · refine Ev.ite_neg (by simp) ?_
    simp only [Bool.not_false, Bool.true_or, Bool.true_and]
    exact good
  · refine Ev.ite_pos rfl (Ev.bind' (refSpan18_f 1 iri u (by omega)) ?_)
    cases ha : allAt 1 iri (bytesOf u)
    · have e : (((spanAt 1 iri (bytesOf u) : Nat) : Int) != (u.size : Int)) = true := by
        unfold allAt at ha
        rw [beq_eq_false_iff_ne, bytes_len] at ha
        simp; omega
      rw [e]
      exact bad
    · have e : (((spanAt 1 iri (bytesOf u) : Nat) : Int) != (u.size : Int)) = false := by
        unfold allAt at ha
        rw [beq_iff_eq, bytes_len] at ha
        simp; omega
      rw [e]
      simp only [Bool.not_true, Bool.or_true, Bool.true_and]
      exact good
def rightP (iri : Bool) (x : Bool × ByteArray × ByteArray × Bool × ByteArray) : Bool := rightL iri x.1 (bytesOf x.2.1) (bytesOf x.2.2.1) x.2.2.2.1 (bytesOf x.2.2.2.2)
theorem seatPart_sizes (s : ByteArray) : (partS s).2.1.size ≤ s.size ∧ (partS s).2.2.1.size ≤ s.size ∧ (partS s).2.2.2.2.size ≤ s.size := part_sizes s
theorem parse_f (iri : Bool) (s : ByteArray) (hs : s.size ≤ 1000000) : Ev (fun k => seat_Parse.f k iri s)
    (if rightP iri (partS s) then ((partS s).1, (partS s).2.1, (partS s).2.2.1, (partS s).2.2.2.1, (partS s).2.2.2.2, true) else (false, (⟨#[]⟩ : ByteArray), (⟨#[]⟩ : ByteArray), false, (⟨#[]⟩ : ByteArray), false)) := by
  unfold seat_Parse.f
  have hz := seatPart_sizes s
  refine Ev.bind' (part_f s (by omega)) (Ev.bind' (seatRight_f iri _ _ _ _ _ (by omega) (by omega) (by omega)) ?_)
  exact Ev.ite (fun h => Ev.val (if_pos h).symm) (fun h => Ev.val (if_neg h).symm)
theorem partS_L (s : ByteArray) : ((partS s).1, bytesOf (partS s).2.1, bytesOf (partS s).2.2.1, (partS s).2.2.2.1, bytesOf (partS s).2.2.2.2) = partL (bytesOf s) := by
  have ts : (bytesOf s).take s.size = bytesOf s := by rw [← bytes_len, List.take_length]
  have hr : (s.extract (lidx 64 (bytesOf s) + 1).toNat s.size).size = ((bytesOf s).drop (lidx 64 (bytesOf s) + 1).toNat).length := by rw [← bytes_len, bytes_from]
  unfold partS partL restS
  simp only [bytes_extract, ts, hr, List.drop_zero, List.take_length]
def cand (s : ByteArray) (i : Int) (k : Nat) : S24 := ⟨decide (0 ≤ i), s.extract 0 i.toNat, s.extract (i + 1).toNat k, decide (k < s.size), s.extract (k + 1) s.size⟩
def good (iri : Bool) (s : ByteArray) (i : Int) (k : Nat) : Bool := rightL iri (cand s i k).f0 (bytesOf (cand s i k).f1) (bytesOf (cand s i k).f2) (cand s i k).f3 (bytesOf (cand s i k).f4)
def vi (s : ByteArray) (i : Int) : Prop := i = -1 ∨ (0 ≤ i ∧ i < s.size ∧ bt s i = 64)
end Go.Proofs.YtdmigmccfdhdiaaDoor.Y
namespace Go.Proofs.YtdmigmccfdhdiaaDoor.Pure
open Go.RowKit Go.Proofs.YtdmigmccfdhdiaaDoor.X Go.Proofs.YtdmigmccfdhdiaaDoor.M Go.Proofs.YtdmigmccfdhdiaaDoor.Y Go.Proofs.YtdmigmccfdhdiaaDoorW.PrintWords Go.Proofs.YtdmigmccfdhdiaaDoorW.PrintLast Go.Proofs.YtdmigmccfdhdiaaDoorW.PrintMore
set_option linter.unusedVariables false
theorem SeatJoins_awake : Ev (fun k => monikerlaw21_awake.f k) true := by
  unfold monikerlaw21_awake.f
  refine Ev.bind' (part_f (⟨#[117, 64, 104, 58, 56, 48]⟩ : ByteArray) (by decide)) ?_
  refine Ev.bind' (part_f (⟨#[91, 58, 58, 49, 93, 58]⟩ : ByteArray) (by decide)) ?_
  exact Ev.ret fun _ => by decide +kernel
theorem refJoin_f (hu : Bool) (u h : ByteArray) (hp : Bool) (p : ByteArray) (s1 : u.size ≤ 1000000) (s2 : h.size ≤ 1000000) (s3 : p.size ≤ 1000000) : monikerref21_Join.f hu u h hp p = some (joinS (hu, u, h, hp, p)) := by
  have z1 : (⟨#[64]⟩ : ByteArray).size = 1 := rfl
  have z2 : (⟨#[58]⟩ : ByteArray).size = 1 := rfl
  have z0 : (⟨#[]⟩ : ByteArray).size = 0 := rfl
  have e0 : ∀ s : ByteArray, (⟨#[]⟩ : ByteArray) ++ s = s := fun s => by apply bytes_inj; rw [bytes_append]; rfl
  unfold monikerref21_Join.f joinS
  cases hu
  · rw [if_neg (by simp), if_pos (by omega)]
    cases hp
    · rw [if_neg (by simp), e0]
      simp only [Bool.false_eq_true, if_false]
      rw [append_nil]
    · rw [if_pos rfl, if_pos (by omega), if_pos (by simp only [ByteArray.size_append, z2, z0]; omega), e0]
      simp only [Bool.false_eq_true, if_false, if_true]
  · rw [if_pos rfl, if_pos (by omega), if_pos (by simp only [ByteArray.size_append, z1]; omega)]
    cases hp
    · rw [if_neg (by simp)]
      simp only [Bool.false_eq_true, if_false, if_true]
      rw [append_nil]
    · rw [if_pos rfl, if_pos (by omega), if_pos (by simp only [ByteArray.size_append, z1, z2]; omega)]
      simp only [if_true]
theorem join_glue (hu : Bool) (u h : ByteArray) (hp : Bool) (p : ByteArray) : bytesOf (joinS (hu, u, h, hp, p)) = glue hu (bytesOf u) (bytesOf h) hp (bytesOf p) := by
  have b1 : bytesOf (⟨#[64]⟩ : ByteArray) = [64] := rfl
  have b2 : bytesOf (⟨#[58]⟩ : ByteArray) = [58] := rfl
  have b0 : bytesOf (⟨#[]⟩ : ByteArray) = [] := rfl
  unfold joinS glue
  cases hu <;> cases hp <;> simp [bytes_append, b0, b1, b2]
theorem join_size (hu : Bool) (u h : ByteArray) (hp : Bool) (p : ByteArray) : (joinS (hu, u, h, hp, p)).size ≤ u.size + h.size + p.size + 2 := by
  rw [← bytes_len, join_glue]
  unfold glue
  cases hu <;> cases hp <;> simp [bytes_len] <;> omega
theorem joins_core (iri hu : Bool) (u h : ByteArray) (hp : Bool) (p : ByteArray) (s1 : u.size ≤ 1000) (s2 : h.size ≤ 1000) (s3 : p.size ≤ 1000) (hu0 : hu = false → u = ⟨#[]⟩) (hp0 : hp = false → p = ⟨#[]⟩) :
    Ev (fun k => monikerlaw21_SeatJoins.j1 k iri hu u h hp p) true := by
  refine Ev.step (fun k => by rw [monikerlaw21_SeatJoins.j1]) ?_
  refine Ev.bind' (refRight_f iri hu u h hp p (by omega) (by omega) (by omega)) (Ev.bind' (seatRight_f iri hu u h hp p (by omega) (by omega) (by omega)) ?_)
  have hj := join_f (hu, u, h, hp, p) (by show u.size ≤ _; omega) (by show h.size ≤ _; omega) (by show p.size ≤ _; omega)
  simp only at hj
  refine Ev.ite_neg (by simp) (Ev.pure_bind hj (Ev.pure_bind (refJoin_f hu u h hp p (by omega) (by omega) (by omega)) ?_))
  refine Ev.step (fun k => by rw [monikerlaw21_SeatJoins.j2]) ?_
  refine Ev.ite_neg (by simp) (Ev.ite (fun hr => ?_) (fun _ => Ev.bind' SeatJoins_awake (Ev.now _)))
  have hz := join_size hu u h hp p
  have hp2 := right_part (fun b hb => bytes_range hb) (fun b hb => bytes_range hb) (fun e => by rw [hu0 e]; rfl) (fun e => by rw [hp0 e]; rfl) hr
  rw [← join_glue] at hp2
  have hL := (partS_L (joinS (hu, u, h, hp, p))).trans hp2
  have hpf := parse_f iri (joinS (hu, u, h, hp, p)) (by omega)
  generalize partS (joinS (hu, u, h, hp, p)) = x at hL hpf
  obtain ⟨x1, x2, x3, x4, x5⟩ := x
  simp only [Prod.mk.injEq] at hL
  obtain ⟨rfl, q2, q3, rfl, q5⟩ := hL
  obtain rfl := bytes_inj q2
  obtain rfl := bytes_inj q3
  obtain rfl := bytes_inj q5
  rw [if_pos (show rightP iri (x1, x2, x3, x4, x5) = true from hr)] at hpf
  refine Ev.pure_bind hj (Ev.bind' hpf ?_)
  refine Ev.ite_pos (by simp) (Ev.ite_pos (by simp) (Ev.bind' SeatJoins_awake (Ev.now _)))
theorem SeatJoins : ∀ (a0 : Bool) (a1_0 : Bool) (a1_1 : ByteArray) (a1_2 : ByteArray) (a1_3 : Bool) (a1_4 : ByteArray), a1_1.size ≤ 140737488351232 → a1_2.size ≤ 140737488351232 → a1_4.size ≤ 140737488351232 → ∃ k, X.monikerlaw21_SeatJoins.f k a0 a1_0 a1_1 a1_2 a1_3 a1_4 = some true := by
  intro iri hu u h hp p w1 w2 w3
  refine Ev.rounds (r := true) ?_
  unfold monikerlaw21_SeatJoins.f
  rw [w64 (x := (u.size : Int) + (h.size : Int)) (by omega) (by omega), w64 (x := (u.size : Int) + (h.size : Int) + (p.size : Int)) (by omega) (by omega)]
  have z0 : (⟨#[]⟩ : ByteArray).size = 0 := rfl
  refine Ev.ite (fun _ => Ev.bind' SeatJoins_awake (Ev.now _)) (fun hle => ?_)
  have second : ∀ v : ByteArray, v.size ≤ 100 → (hu = false → v = ⟨#[]⟩) → Ev (fun k => monikerlaw21_SeatJoins.j0 k iri hu v h hp p) true := by
    intro v hv hv0
    refine Ev.step (fun k => by rw [monikerlaw21_SeatJoins.j0]) ?_
    refine Ev.ite (fun h1 => joins_core iri hu v h hp p (by omega) (by omega) (by omega) hv0 (fun e => by rw [e] at h1; cases h1)) (fun h1 => ?_)
    exact joins_core iri hu v h hp ⟨#[]⟩ (by omega) (by omega) (by omega) hv0 (fun _ => rfl)
  refine Ev.ite (fun h1 => second u (by omega) (fun e => by rw [e] at h1; cases h1)) (fun h1 => ?_)
  exact second ⟨#[]⟩ (by omega) (fun _ => rfl)
end Go.Proofs.YtdmigmccfdhdiaaDoor.Pure
namespace Go.Proofs.YtdmigmccfdhdiaaDoor.seatJoins
open Go.ChangeShapes Go.WideShapes Go.ChangeAt Go.RowKit
open Go.ChangeMaps (open_string shut_string)
open Go.Deep
set_option linter.unusedVariables false
set_option linter.unusedSimpArgs false
theorem own : ownKnob Tryd.prog.godebug = none := by kernel_rfl
theorem DataW.shut_str {H : Type} {enc : TypeId × Value → H} {P : Program} {w : World} {base : Nat} {spare : Nat → Bool} {held : Bool} {t : TypeId} {s : ByteArray} (ht : P.underlying t = some .string) (hs : s.size ≤ maxLen) : ∃ n, DataW.trod enc P w base spare held n t [.string s] = some (.lit (.string s.data.toList), []) := by
  have h : DataW.Trod enc P w base spare held t (.string s) (.lit (.string s.data.toList)) [] := shut_string ht hs
  exact h
theorem DataW.shut_bl {H : Type} {enc : TypeId × Value → H} {P : Program} {w : World} {base : Nat} {spare : Nat → Bool} {held : Bool} {t : TypeId} {b : Bool} (ht : P.underlying t = some .bool) : ∃ n, DataW.trod enc P w base spare held n t [.bool b] = some (.lit (.bool b), []) := by
  have h : DataW.Trod enc P w base spare held t (.bool b) (.lit (.bool b)) [] := shut_bool ht b
  exact h
theorem DataW.shut_it {H : Type} {enc : TypeId × Value → H} {P : Program} {w : World} {base : Nat} {spare : Nat → Bool} {held : Bool} {t : TypeId} {k : IntKind} {n : Int} (ht : P.underlying t = some (.int k)) (hn : (Lit.int k n).wf = true) : ∃ m, DataW.trod enc P w base spare held m t [.int k n] = some (.lit (.int k n), []) := by
  have h : DataW.Trod enc P w base spare held t (.int k n) (.lit (.int k n)) [] := shut_int ht hn
  exact h
theorem arr5 {α : Type} {cs : Array α} (h : cs.size = 5) : ∃ c0 c1 c2 c3 c4, cs = #[c0, c1, c2, c3, c4] := by
  obtain ⟨l⟩ := cs
  match l, h with
  | [c0, c1, c2, c3, c4], _ => exact ⟨c0, c1, c2, c3, c4, rfl⟩
theorem lst5 {α : Type} {cs : List α} (h : cs.length = 5) : ∃ c0 c1 c2 c3 c4, cs = [c0, c1, c2, c3, c4] := by
  match cs, h with
  | [c0, c1, c2, c3, c4], _ => exact ⟨c0, c1, c2, c3, c4, rfl⟩
theorem open_agg5' {H : Type} {enc : TypeId × Value → H} {P : Program} {w : World} {base : Nat} {spare : Nat → Bool} {held : Bool} {r : Reach} {b0 : Nat} {t : TypeId} {f0 f1 f2 f3 f4 : Field} {v : Value} {d : DataW H} {p : List MemPlace} (hs : P.underlying t = some (.struct #[f0, f1, f2, f3, f4])) (hone : oneCellFields P #[f0, f1, f2, f3, f4] = true) (hC : P.cellsOf t = 5)
    (hv : Value.okWide P w r b0 t v) (h : DataW.Trod enc P w base spare held t v d p) :
    ∃ (v0 v1 v2 v3 v4 : Value) (y0 y1 y2 y3 y4 : DataW H × List MemPlace) (n : Nat), v = .agg #[v0, v1, v2, v3, v4] ∧ d = .agg [y0.1, y1.1, y2.1, y3.1, y4.1] ∧ p = y0.2 ++ (y1.2 ++ (y2.2 ++ (y3.2 ++ (y4.2)))) ∧ DataW.trod enc P w base spare held n f0.type [v0] = some y0 ∧ DataW.trod enc P w base spare held n f1.type [v1] = some y1 ∧ DataW.trod enc P w base spare held n f2.type [v2] = some y2 ∧ DataW.trod enc P w base spare held n f3.type [v3] = some y3 ∧ DataW.trod enc P w base spare held n f4.type [v4] = some y4 := by
  obtain ⟨cs, rfl, hsz⟩ := okWide_struct hs hv
  obtain ⟨c0, c1, c2, c3, c4, rfl⟩ := arr5 (hsz.trans hC)
  obtain ⟨fuel, hf⟩ := h
  obtain ⟨xs, n, _, hx, hl, hlen, hf⟩ := DataW.trod_struct hs hf
  obtain ⟨y0, y1, y2, y3, y4, rfl⟩ := lst5 (by simpa using hlen)
  obtain ⟨o0, k0⟩ := hone_of hone 0 f0 rfl
  obtain ⟨o1, k1⟩ := hone_of hone 1 f1 rfl
  obtain ⟨o2, k2⟩ := hone_of hone 2 f2 rfl
  obtain ⟨o3, k3⟩ := hone_of hone 3 f3 rfl
  obtain ⟨o4, k4⟩ := hone_of hone 4 f4 rfl
  simp only [Prod.mk.injEq] at hx
  exact ⟨c0, c1, c2, c3, c4, y0, y1, y2, y3, y4, n, rfl, by simpa using hx.1, by simpa using hx.2, by simpa [Value.cells, o0, k0] using hf 0 f0 rfl, by simpa [Value.cells, o1, k1] using hf 1 f1 rfl, by simpa [Value.cells, o2, k2] using hf 2 f2 rfl, by simpa [Value.cells, o3, k3] using hf 3 f3 rfl, by simpa [Value.cells, o4, k4] using hf 4 f4 rfl⟩
theorem shut_agg5' {H : Type} {enc : TypeId × Value → H} {P : Program} {w : World} {base : Nat} {spare : Nat → Bool} {held : Bool} {t : TypeId} {f0 f1 f2 f3 f4 : Field} {v0 v1 v2 v3 v4 : Value} {y0 y1 y2 y3 y4 : DataW H × List MemPlace} (hs : P.underlying t = some (.struct #[f0, f1, f2, f3, f4])) (hone : oneCellFields P #[f0, f1, f2, f3, f4] = true) (hC : P.cellsOf t = 5)
    (t0 : ∃ n, DataW.trod enc P w base spare held n f0.type [v0] = some y0) (t1 : ∃ n, DataW.trod enc P w base spare held n f1.type [v1] = some y1) (t2 : ∃ n, DataW.trod enc P w base spare held n f2.type [v2] = some y2) (t3 : ∃ n, DataW.trod enc P w base spare held n f3.type [v3] = some y3) (t4 : ∃ n, DataW.trod enc P w base spare held n f4.type [v4] = some y4) :
    DataW.Trod enc P w base spare held t (.agg #[v0, v1, v2, v3, v4]) (.agg [y0.1, y1.1, y2.1, y3.1, y4.1]) (y0.2 ++ (y1.2 ++ (y2.2 ++ (y3.2 ++ (y4.2))))) := by
  obtain ⟨n0, t0⟩ := t0
  obtain ⟨o0, k0⟩ := hone_of hone 0 f0 rfl
  obtain ⟨n1, t1⟩ := t1
  obtain ⟨o1, k1⟩ := hone_of hone 1 f1 rfl
  obtain ⟨n2, t2⟩ := t2
  obtain ⟨o2, k2⟩ := hone_of hone 2 f2 rfl
  obtain ⟨n3, t3⟩ := t3
  obtain ⟨o3, k3⟩ := hone_of hone 3 f3 rfl
  obtain ⟨n4, t4⟩ := t4
  obtain ⟨o4, k4⟩ := hone_of hone 4 f4 rfl
  have q0 := DataW.trod_le (show n0 ≤ n0 + n1 + n2 + n3 + n4 by omega) t0
  have q1 := DataW.trod_le (show n1 ≤ n0 + n1 + n2 + n3 + n4 by omega) t1
  have q2 := DataW.trod_le (show n2 ≤ n0 + n1 + n2 + n3 + n4 by omega) t2
  have q3 := DataW.trod_le (show n3 ≤ n0 + n1 + n2 + n3 + n4 by omega) t3
  have q4 := DataW.trod_le (show n4 ≤ n0 + n1 + n2 + n3 + n4 by omega) t4
  have ts := trod_struct_mk (enc := enc) (w := w) (base := base) (spare := spare) (held := held) (n := n0 + n1 + n2 + n3 + n4) (xs := [y0, y1, y2, y3, y4]) (cs := [v0, v1, v2, v3, v4]) hs (by simp [hC]) (by simp [o0, k0, q0, o1, k1, q1, o2, k2, q2, o3, k3, q3, o4, k4, q4])
  exact ⟨_, by simpa [Value.cells] using ts⟩
theorem gw {W : World} (h : W.ShapedOpen Tryd.prog) : X.GW W :=
  Go.Proofs.cell_of_shapedOpen_int (g := 0) (t := 3) (zero := #[.int .i64 0]) h (of_decide_eq_true (by kernel_rfl)) (by kernel_rfl) rfl (by kernel_rfl) (by kernel_rfl) Tryd.underlying3
set_option maxRecDepth 100000 in
theorem contract (H : Type) (enc : TypeId × Value → H) (W : World) (base : Nat) (args : Array Value) (ds gs : List (DataW H)) (before : List MemPlace)
    (hval0 : ∀ (j : Nat) t v, Tryd.f4.params[j]? = some t → args[j]? = some v → Value.okWide Tryd.prog W .any base t v)
    (hW : DataW.Whole enc Tryd.prog Tryd.f4.params.toList Rows.seatJoinsSpec.vars false W args.toList ds gs before)
    (hsz0 : (DataW.weightsEach Tryd.prog (Tryd.f4.params.toList ++ Rows.seatJoinsSpec.plain.varTypes Tryd.prog) (ds ++ gs)).all (· ≤ reachBytes) = true) (hsh : W.ShapedOpen Tryd.prog) :
    Calls Tryd.prog 4 args W fun e W' => ∃ v, e = .returned v ∧ Rows.seatJoinsSpec.post enc Tryd.prog Tryd.f4 false true false false W args v W' := by
  have hsz : (DataW.weightsEach Tryd.prog (Tryd.f4.params.toList ++ Rows.seatJoinsSpec.plain.varTypes Tryd.prog) (ds ++ gs)).all (· ≤ reachBytes) = true := hsz0
  have hval : ∀ (j : Nat) t v, Tryd.f4.params[j]? = some t → args[j]? = some v → Value.okWide Tryd.prog W .any base t v := hval0
  have hW' := hW
  obtain ⟨p, q, hA0, hV, rfl, hfz, hnd⟩ := hW
  have hA : DataW.TrodAll enc Tryd.prog W 0 (fun _ => true) true Tryd.f4.params.toList args.toList ds p := hA0
  rw [Tryd.params4] at hA hval hsz
  obtain ⟨v0, vs0, d0, ds0, p0, q0, hargs, rfl, rfl, h0, r0⟩ := trodAll_cons hA
  obtain ⟨v1, vs1, d1, ds1, p1, q1, rfl, rfl, rfl, h1, r1⟩ := trodAll_cons r0
  obtain ⟨rfl, rfl, rfl⟩ := trodAll_nil r1
  obtain rfl : args = #[v0, v1] := by cases args; simp_all
  obtain ⟨rfl, rfl⟩ := trodVars_none hV
  obtain ⟨a0, rfl, rfl, rfl⟩ := open_bool Tryd.underlying4 (hval 0 4 v0 rfl rfl) h0
  obtain ⟨u1_0, u1_1, u1_2, u1_3, u1_4, y1_0, y1_1, y1_2, y1_3, y1_4, m1, rfl, rfl, rfl, g1_0, g1_1, g1_2, g1_3, g1_4⟩ := open_agg5' Tryd.underlying24 (by kernel_rfl) (by kernel_rfl) (hval 1 24 v1 rfl rfl) h1
  obtain ⟨a1_0, e1_0, f1_0⟩ := DataW.trod_bool Tryd.underlying4 g1_0
  simp only [List.cons.injEq, and_true] at e1_0
  subst e1_0
  subst f1_0
  obtain ⟨a1_1, e1_1, f1_1, z1_1⟩ := DataW.trod_string Tryd.underlying9 g1_1
  simp only [List.cons.injEq, and_true] at e1_1
  subst e1_1
  subst f1_1
  obtain ⟨a1_2, e1_2, f1_2, z1_2⟩ := DataW.trod_string Tryd.underlying9 g1_2
  simp only [List.cons.injEq, and_true] at e1_2
  subst e1_2
  subst f1_2
  obtain ⟨a1_3, e1_3, f1_3⟩ := DataW.trod_bool Tryd.underlying4 g1_3
  simp only [List.cons.injEq, and_true] at e1_3
  subst e1_3
  subst f1_3
  obtain ⟨a1_4, e1_4, f1_4, z1_4⟩ := DataW.trod_string Tryd.underlying9 g1_4
  simp only [List.cons.injEq, and_true] at e1_4
  subst e1_4
  subst f1_4
  have w1_1 : a1_1.size ≤ 140737488351232 := by
    have z := List.all_eq_true.1 hsz _ (DataW.weights_mem_each (j := 1) (t := 24) rfl rfl a1_1.data.toList.length (by simp [DataW.weights, DataW.weightsEach, Tryd.underlying24]))
    rw [decide_eq_true_iff, Array.length_toList] at z
    exact z
  have w1_2 : a1_2.size ≤ 140737488351232 := by
    have z := List.all_eq_true.1 hsz _ (DataW.weights_mem_each (j := 1) (t := 24) rfl rfl a1_2.data.toList.length (by simp [DataW.weights, DataW.weightsEach, Tryd.underlying24]))
    rw [decide_eq_true_iff, Array.length_toList] at z
    exact z
  have w1_4 : a1_4.size ≤ 140737488351232 := by
    have z := List.all_eq_true.1 hsz _ (DataW.weights_mem_each (j := 1) (t := 24) rfl rfl a1_4.data.toList.length (by simp [DataW.weights, DataW.weightsEach, Tryd.underlying24]))
    rw [decide_eq_true_iff, Array.length_toList] at z
    exact z
  clear hA0 hval0 hsz0 hsz
  obtain ⟨k, hk⟩ := Pure.SeatJoins a0 a1_0 a1_1 a1_2 a1_3 a1_4 w1_1 w1_2 w1_4
  refine (X.monikerlaw21_SeatJoins.calls k a0 a1_0 a1_1 a1_2 a1_3 a1_4 true W (gw hsh) hk).mono fun e W' ⟨he, bel0⟩ => ?_
  have bel : Below W.heap.size W W' := bel0
  subst he
  exact ⟨_, rfl, _, _, _, [], _, [], hW', trodAll_mk1 (shut_bool Tryd.underlying4 _), (trodAll_cons_mk (shut_bool Tryd.underlying4 _) (trodAll_cons_mk (shut_agg5' Tryd.underlying24 (by kernel_rfl) (by kernel_rfl) (DataW.shut_bl Tryd.underlying4) (DataW.shut_str Tryd.underlying9 z1_1) (DataW.shut_str Tryd.underlying9 z1_2) (DataW.shut_bl Tryd.underlying4) (DataW.shut_str Tryd.underlying9 z1_4)) trodAll_mk0)), rfl, bel.frame _, fun h => by cases h⟩
def flat : Nat → DataW Unit → List Value
  | 0, _ => []
  | k + 1, .agg l => l.flatMap (flat k)
  | _ + 1, .lit (.int kd n) => [.int kd n]
  | _ + 1, .lit (.bool b) => [.bool b]
  | _ + 1, _ => []
def layAt (g : Nat) (cs : List Value) (h : Array Obj) : Array Obj := h.modify g fun
  | .cells _ t frozen => .cells cs.toArray t frozen
  | x => x
noncomputable def laidWorld (os : Os) : World := { World.holding Tryd.prog os ⟨#[], #[], []⟩ with heap := layAt 1 (flat 9 Rows.laid_unicode_utf8_first) (layAt 2 (flat 9 Rows.laid_unicode_utf8_acceptRanges) ((World.holding Tryd.prog os ⟨#[], #[], []⟩).heap)) }
theorem laid_met (os : Os) : laidMet Tryd.prog Rows.seatJoinsRow.laid ((laidWorld os).forCall (fun _ _ => 0) ⟨#[], #[.bool false, .agg #[.bool false, .string ByteArray.empty, .string ByteArray.empty, .bool false, .string ByteArray.empty]], []⟩).memory :=
  laidMet_of_run' 8 (by kernel_rfl) (by kernel_rfl)
theorem reads (os : Os) {H : Type} (enc : TypeId × Value → H) : ∃ places, DataW.whole enc Tryd.prog ((laidWorld os).forCall (fun _ _ => 0) ⟨#[], #[.bool false, .agg #[.bool false, .string ByteArray.empty, .string ByteArray.empty, .bool false, .string ByteArray.empty]], []⟩).memory Tryd.f4.params.toList Rows.seatJoinsSpec.vars false (#[.bool false, .agg #[.bool false, .string ByteArray.empty, .string ByteArray.empty, .bool false, .string ByteArray.empty]] : Array Value).toList 8 = some ([.lit (.bool false), .agg [.lit (.bool false), .lit (.string []), .lit (.string []), .lit (.bool false), .lit (.string [])]], [], places) :=
  ⟨[], by kernel_rfl⟩
set_option maxRecDepth 100000 in
theorem lifted (os : Os) (started : os.Started) (H : Type) (enc : TypeId × Value → H) (F : Stop.Interp) :
    ReturnsInHanded {} Tryd.checked os 4 .any ((OpenSpec.ofChange Rows.seatJoinsSpec).preRow enc Tryd.prog Tryd.f4 Rows.seatJoinsRow.domain false Rows.seatJoinsRow.laid) (((OpenSpec.ofChange Rows.seatJoinsSpec).at F).post enc Tryd.prog Tryd.f4 false true false false) := by
  obtain ⟨places, hx⟩ := reads os enc
  refine returnsInHanded_of_row (C := Tryd.checked) (s := OpenSpec.ofChange Rows.seatJoinsSpec) own started (by kernel_rfl) Tryd.func4
    (witness_row_at (enc := enc) (C := Tryd.checked) false (laidWorld os) #[.bool false, .agg #[.bool false, .string ByteArray.empty, .string ByteArray.empty, .bool false, .string ByteArray.empty]] rfl (by kernel_rfl) (by kernel_rfl) (by kernel_rfl)
      (OpenSpec.preRow_of_cond 8 hx (by kernel_rfl) (fun k hk => by cases hk) (by kernel_rfl) (laid_met os))) ?_
  intro W base args ds gs before hval hW _ _ hsz hL hsh _
  exact contract H enc W base args ds gs before hval hW hsz hsh
theorem said : Rows.SeatJoinsSaid :=
  OpenClaim.holds_of_cond 4 Tryd.f4 rfl rfl rfl rfl rfl rfl rfl ⟨rfl, rfl, rfl, rfl, rfl⟩ rfl rfl rfl rfl rfl (by kernel_rfl) Tryd.func4 (by kernel_rfl)
    (of_decide_eq_true (by kernel_rfl)) (by unfold Func.isWrapper; first | (rw [if_pos (by decide +kernel)]; kernel_rfl) | (rw [if_neg (by decide +kernel)]; exact ⟨rfl, rfl⟩))
    (fun os started H enc _ F => by rw [OpenClaim.pre_eq_preRow]; exact lifted os started H enc F)
theorem plain (f : FuncId) (fn : Func) (hf : Tryd.pinned.checked.prog.funcNamed "moniker/monikerlaw21.SeatJoins" = some f) (hfn : Tryd.pinned.checked.prog.funcs[f]? = some fn) :
    false = Tryd.pinned.checked.prog.looks [] ∧ ∀ (j : Nat) t, fn.params[j]? = some t → Tryd.pinned.checked.prog.wantsStandIn t = false := by
  obtain rfl : f = 4 := Option.some.inj ((show Tryd.prog.funcNamed "moniker/monikerlaw21.SeatJoins" = some 4 by kernel_rfl).symm.trans hf) |>.symm
  obtain rfl : fn = Tryd.f4 := (Option.some.inj (Tryd.func4.symm.trans hfn)).symm
  refine ⟨by kernel_rfl, fun j t ht => ?_⟩
  rw [Tryd.params4] at ht
  have hm := Array.mem_of_getElem? ht
  simp only [List.mem_cons, List.mem_toArray, List.mem_nil_iff, or_false] at hm
  rcases hm with rfl | rfl
  · exact (show Tryd.prog.wantsStandIn 4 = false by kernel_rfl)
  · exact (show Tryd.prog.wantsStandIn 24 = false by kernel_rfl)
theorem card : Rows.SeatJoinsCardSaid :=
  Claim7.holds_tied_plain_at .later [] _ _ _ _ said (fun _ h => by cases h) (by kernel_rfl) (fun _ h => by cases h) seatJoins_row_tie rfl ⟨rfl, rfl⟩ (by kernel_rfl) rfl plain (by kernel_rfl)
#print axioms card
end Go.Proofs.YtdmigmccfdhdiaaDoor.seatJoins
namespace Go.Proofs.YtdmigmccfdhdiaaDoor
theorem seatJoins_card : Rows.SeatJoinsCardSaid := seatJoins.card
end Go.Proofs.YtdmigmccfdhdiaaDoor
