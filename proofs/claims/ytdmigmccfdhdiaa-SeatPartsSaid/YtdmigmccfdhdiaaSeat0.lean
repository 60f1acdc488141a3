/- What the printed functions of layer 21 (Part, Join) and of its reference answer, in plain words; no law yet. -/
import Derived.Test.YtdmigmccfdhdiaaMBase
import Derived.Test.YtdmigmccfdhdiaaXx3
import Derived.Test.YtdmigmccfdhdiaaXx4
import Derived.Test.YtdmigmccfdhdiaaXx5
namespace Go.Proofs.Ytdmigmccfdhdiaa.Y
open Go.RowKit Go.Proofs.Ytdmigmccfdhdiaa.X Go.Proofs.Ytdmigmccfdhdiaa.M Go.Proofs.YtdmigmccfdhdiaaW.PrintWords Go.Proofs.YtdmigmccfdhdiaaW.PrintLast

theorem indexByte_f (s : ByteArray) (c : Int) (h0 : 0 ≤ c) (h1 : c ≤ 255) : strings_IndexByte.f s c = some (idx c (bytesOf s)) := by
  unfold strings_IndexByte.f stringslite_IndexByte.f
  rw [indexByte_bytes s c h0 h1]; rfl

theorem lastIndex_l0 (s : ByteArray) (c : Int) (hs : s.size ≤ 140737488351232) : ∀ n : Nat, n ≤ s.size → Ev (fun k => bytealg_LastIndexByteString.l0 k s c ((n : Int) - 1)) (lidx c ((bytesOf s).take n)) := by
  intro n
  induction n with
  | zero =>
    intro _
    refine Ev.step (fun k => rfl) ?_
    simp only [Int.natCast_zero, List.take_zero, lidx]
    refine Ev.ite_neg (by omega) (Ev.now _)
  | succ n ih =>
    intro hn
    refine Ev.step (fun k => rfl) ?_
    have e : ((n + 1 : Nat) : Int) - 1 = (n : Int) := by omega
    rw [e, take_next (by omega), lidx_snoc]
    refine Ev.ite_pos (by omega) (Ev.ite_pos (by omega) (Ev.ite_pos (by omega) ?_))
    by_cases hb : bt s (n : Int) = c
    · refine Ev.ite_pos hb ?_
      rw [if_pos hb, List.length_take, bytes_len, Nat.min_eq_left (by omega)]
      exact Ev.now _
    · refine Ev.ite_neg hb ?_
      rw [if_neg hb, w64 (by omega) (by omega)]
      exact ih (by omega)

theorem lastIndexByte_f (s : ByteArray) (c : Int) (hs : s.size ≤ 140737488351232) : Ev (fun k => strings_LastIndexByte.f k s c) (lidx c (bytesOf s)) := by
  refine Ev.bind' (a := lidx c (bytesOf s)) (f := fun _ t => some t) ?_ (Ev.now _)
  unfold bytealg_LastIndexByteString.f
  rw [w64 (by omega) (by omega)]
  have := lastIndex_l0 s c hs s.size (Nat.le_refl _)
  rw [← bytes_len, List.take_length, bytes_len] at this
  exact this

theorem hasPrefix_f (s p : ByteArray) : strings_HasPrefix.f s p = some (decide ((bytesOf s).take p.size = bytesOf p)) := by
  unfold strings_HasPrefix.f stringslite_HasPrefix.f
  by_cases h : (s.size : Int) ≥ (p.size : Int)
  · rw [if_pos h, if_pos (by omega), if_pos (by omega)]
    simp only [Option.bind_some, Option.some.injEq, Int.toNat_natCast]
    rw [Bool.eq_iff_iff, beq_iff_eq, decide_eq_true_iff, toList_iff, bytes_extract, List.drop_zero]
  · rw [if_neg h]
    simp only [Option.bind_some, Option.some.injEq]
    symm
    rw [decide_eq_false_iff_not]
    intro e
    have := congrArg List.length e
    rw [List.length_take, bytes_len, bytes_len] at this
    omega

/-- Where an authority's host ends. -/
def hostEnd (l : List Int) : Int :=
  if l.take 1 = [91] ∧ 0 ≤ idx 93 l then
    (if l.drop ((idx 93 l).toNat + 1) = [] ∨ (l.drop ((idx 93 l).toNat + 1)).getD 0 0 = 58 then idx 93 l + 1 else l.length)
  else if 0 ≤ idx 58 l then idx 58 l else l.length

theorem hostEnd_range (l : List Int) : 0 ≤ hostEnd l ∧ hostEnd l ≤ l.length := by
  have h1 := idx_ge 93 l
  have h2 := idx_lt 93 l
  have h3 := idx_ge 58 l
  have h4 := idx_lt 58 l
  unfold hostEnd
  split
  · split <;> omega
  · split <;> omega

/-- A text's host, and what stands behind it. -/
def hostS (s : ByteArray) : ByteArray × ByteArray := (s.extract 0 (hostEnd (bytesOf s)).toNat, s.extract (hostEnd (bytesOf s)).toNat s.size)

theorem extract_all (s : ByteArray) : s.extract 0 s.size = s := ByteArray.extract_zero_size
theorem extract_none (s : ByteArray) : s.extract s.size s.size = (⟨#[]⟩ : ByteArray) := by
  apply bytes_inj
  rw [bytes_extract, ← bytes_len, List.take_length, List.drop_length]; rfl

theorem host_colon (s : ByteArray) (e : Int) (he : e = if 0 ≤ idx 58 (bytesOf s) then idx 58 (bytesOf s) else s.size) :
    ((strings_IndexByte.f s 58).bind fun t => (if t ≥ 0 then (if 0 ≤ t then (if t ≤ (s.size : Int) then (some (s.extract 0 (t : Int).toNat, s.extract (t : Int).toNat s.size)) else (none)) else (none)) else (some (s, (⟨#[]⟩ : ByteArray))))) = some (s.extract 0 e.toNat, s.extract e.toNat s.size) := by
  rw [indexByte_f s 58 (by omega) (by omega)]
  simp only [Option.bind_some]
  have h3 := idx_ge 58 (bytesOf s)
  have h4 := idx_lt 58 (bytesOf s)
  rw [bytes_len] at h4
  by_cases h : 0 ≤ idx 58 (bytesOf s)
  · rw [if_pos h] at he
    rw [if_pos h, if_pos h, if_pos (by omega), he]
  · rw [if_neg h] at he
    rw [if_neg h, he, Int.toNat_natCast, extract_all, extract_none]

theorem drop_nil_iff (s : ByteArray) (i : Nat) : (s.extract i s.size).toList = ([] : List UInt8) ↔ (bytesOf s).drop i = [] := by
  have : ([] : List UInt8) = (⟨#[]⟩ : ByteArray).toList := by rw [ByteArray.toList_eq]
  rw [this, toList_iff, bytes_extract, ← bytes_len, List.take_length]
  exact Iff.rfl

theorem host_f (s : ByteArray) (hs : s.size ≤ 140737488351232) : Ev (fun k => seat_host.f k s) (hostS s) := by
  have h1 := idx_ge 93 (bytesOf s)
  have h2 := idx_lt 93 (bytesOf s)
  rw [bytes_len] at h2
  unfold seat_host.f
  rw [hasPrefix_f]
  simp only [Option.bind_some, decide_eq_true_iff]
  have hb : bytesOf (⟨#[91]⟩ : ByteArray) = [91] := rfl
  have hz : (⟨#[91]⟩ : ByteArray).size = 1 := rfl
  rw [hb, hz]
  by_cases hp : (bytesOf s).take 1 = [91]
  · simp only [if_pos hp]
    rw [indexByte_f s 93 (by omega) (by omega)]
    simp only [Option.bind_some]
    by_cases h : idx 93 (bytesOf s) ≥ 0
    · refine Ev.ite_pos h ?_
      rw [w64 (by omega) (by omega)]
      refine Ev.ite_pos (by omega) (Ev.ite_pos (by omega) ?_)
      have hn : (idx 93 (bytesOf s) + 1).toNat = (idx 93 (bytesOf s)).toNat + 1 := by omega
      rw [hn]
      have fin : ∀ x b, Ev (fun k => seat_host.j0 k s (idx 93 (bytesOf s)) x b) (if b = true then (s.extract 0 ((idx 93 (bytesOf s)).toNat + 1), x) else (s, ⟨#[]⟩)) := by
        intro x b
        refine Ev.step (fun k => by rw [seat_host.j0]) ?_
        rw [w64 (by omega) (by omega)]
        cases b
        · exact Ev.ite_neg (by simp) (Ev.now _)
        · refine Ev.ite_pos rfl (Ev.ite_pos (by omega) (Ev.ite_pos (by omega) ?_))
          rw [hn]
          exact Ev.now _
      by_cases hd : (bytesOf s).drop ((idx 93 (bytesOf s)).toNat + 1) = []
      · refine Ev.ite_pos ((drop_nil_iff s _).2 hd) ?_
        have : hostS s = (s.extract 0 ((idx 93 (bytesOf s)).toNat + 1), s.extract ((idx 93 (bytesOf s)).toNat + 1) s.size) := by
          unfold hostS hostEnd
          rw [if_pos ⟨hp, h⟩, if_pos (.inl hd), hn]
        rw [this]
        exact (fin _ true)
      · refine Ev.ite_neg (fun x => hd ((drop_nil_iff s _).1 x)) ?_
        obtain ⟨b, t, hbt⟩ : ∃ b t, (bytesOf s).drop ((idx 93 (bytesOf s)).toNat + 1) = b :: t := by
          cases hh : (bytesOf s).drop ((idx 93 (bytesOf s)).toNat + 1) with
          | nil => exact absurd hh hd
          | cons b t => exact ⟨b, t, rfl⟩
        have hx : (bytesOf (s.extract ((idx 93 (bytesOf s)).toNat + 1) s.size)).drop 0 = b :: t := by
          rw [bytes_extract, ← bytes_len, List.take_length, List.drop_zero, hbt]
        obtain ⟨g1, g2, _⟩ := at_drop hx
        rw [Int.natCast_zero] at g1
        rw [g1]
        refine Ev.ite_pos (by omega) ?_
        have hg : (List.drop ((idx 93 (bytesOf s)).toNat + 1) (bytesOf s)).getD 0 0 = b := by rw [hbt]; rfl
        have : hostS s = (if (b == 58) = true then (s.extract 0 ((idx 93 (bytesOf s)).toNat + 1), s.extract ((idx 93 (bytesOf s)).toNat + 1) s.size) else (s, ⟨#[]⟩)) := by
          unfold hostS hostEnd
          rw [if_pos ⟨hp, h⟩, hg]
          by_cases hb58 : b = 58
          · rw [if_pos (.inr hb58), if_pos (by simp [hb58]), hn]
          · rw [if_neg (by simp [hd, hb58]), if_neg (by simp [hb58]), bytes_len, Int.toNat_natCast, extract_all, extract_none]
        rw [this]
        exact fin _ _
    · simp only [if_neg h]
      rw [host_colon s (hostEnd (bytesOf s)) (by
        unfold hostEnd
        rw [if_neg (by omega), bytes_len])]
      exact Ev.now _
  · simp only [if_neg hp]
    rw [host_colon s (hostEnd (bytesOf s)) (by
      unfold hostEnd
      rw [if_neg (fun x => hp x.1), bytes_len])]
    exact Ev.now _

/-- What stands behind the user. -/
def restS (s : ByteArray) : ByteArray := s.extract (lidx 64 (bytesOf s) + 1).toNat s.size
/-- An authority's three parts. -/
def partS (s : ByteArray) : Bool × ByteArray × ByteArray × Bool × ByteArray :=
  (decide (0 ≤ lidx 64 (bytesOf s)), s.extract 0 (lidx 64 (bytesOf s)).toNat, (restS s).extract 0 (hostEnd (bytesOf (restS s))).toNat,
   decide (hostEnd (bytesOf (restS s)) < (restS s).size), (restS s).extract ((hostEnd (bytesOf (restS s))).toNat + 1) (restS s).size)

theorem extract_zero (s : ByteArray) : s.extract 0 0 = (⟨#[]⟩ : ByteArray) := by
  apply bytes_inj; rw [bytes_extract]; rfl
theorem size_extract_to (s : ByteArray) (i : Nat) : (s.extract i s.size).size = s.size - i := by
  rw [ByteArray.size_extract, Nat.min_self]
theorem extract_past (s : ByteArray) (i : Nat) (h : s.size ≤ i) : s.extract i s.size = (⟨#[]⟩ : ByteArray) := by
  apply bytes_inj
  rw [bytes_extract, List.drop_of_length_le (by rw [List.length_take, bytes_len]; omega)]; rfl
theorem extract_extract_to (s : ByteArray) (i j : Nat) : (s.extract i s.size).extract j (s.extract i s.size).size = s.extract (i + j) s.size := by
  apply bytes_inj
  rw [bytes_extract, bytes_extract, bytes_extract, ← bytes_len (s.extract i s.size), bytes_extract, List.take_length, List.drop_drop]

theorem part_f (s : ByteArray) (hs : s.size ≤ 140737488351232) : Ev (fun k => seat_Part.f k s) (partS s) := by
  have h1 := lidx_ge 64 (bytesOf s)
  have h2 := lidx_lt 64 (bytesOf s)
  rw [bytes_len] at h2
  unfold seat_Part.f
  refine Ev.bind' (lastIndexByte_f s 64 hs) ?_
  have port : ∀ (r : ByteArray), r.size ≤ s.size → (hostS r).2.size = r.size - (hostEnd (bytesOf r)).toNat ∧ ((hostS r).2.toList = ([] : List UInt8) ↔ ¬ hostEnd (bytesOf r) < r.size) := by
    intro r _
    have hr := hostEnd_range (bytesOf r)
    rw [bytes_len] at hr
    refine ⟨size_extract_to r _, ?_⟩
    unfold hostS
    rw [drop_nil_iff, List.drop_eq_nil_iff, bytes_len]
    omega
  by_cases h : lidx 64 (bytesOf s) ≥ 0
  · have hz : (restS s).size ≤ s.size := by unfold restS; rw [size_extract_to]; omega
    obtain ⟨p1, p2⟩ := port (restS s) hz
    have hr := hostEnd_range (bytesOf (restS s))
    rw [bytes_len] at hr
    refine Ev.ite_pos h (Ev.ite_pos h (Ev.ite_pos (by omega) ?_))
    rw [w64 (by omega) (by omega)]
    refine Ev.ite_pos (by omega) (Ev.ite_pos (by omega) ?_)
    refine Ev.bind' (host_f (restS s) (by omega)) ?_
    by_cases hp : hostEnd (bytesOf (restS s)) < (restS s).size
    · refine Ev.ite_neg (fun x => absurd hp (p2.1 x)) (Ev.ite_pos (by rw [p1]; omega) (Ev.ret fun _ => ?_))
      unfold partS
      rw [decide_eq_true h, decide_eq_true hp]
      simp only [hostS, extract_extract_to]
    · refine Ev.ite_pos (p2.2 hp) (Ev.ret fun _ => ?_)
      unfold partS
      rw [decide_eq_true h, decide_eq_false hp, extract_past (restS s) _ (by omega)]
      rfl
  · have hr0 : restS s = s := by
      unfold restS
      have : (lidx 64 (bytesOf s) + 1).toNat = 0 := by omega
      rw [this, extract_all]
    obtain ⟨p1, p2⟩ := port s (Nat.le_refl _)
    have hr := hostEnd_range (bytesOf s)
    rw [bytes_len] at hr
    have ht : (lidx 64 (bytesOf s)).toNat = 0 := by omega
    refine Ev.ite_neg h ?_
    refine Ev.bind' (host_f s hs) ?_
    by_cases hp : hostEnd (bytesOf s) < s.size
    · refine Ev.ite_neg (fun x => absurd hp (p2.1 x)) (Ev.ite_pos (by rw [p1]; omega) (Ev.ret fun _ => ?_))
      unfold partS
      rw [hr0, decide_eq_false h, decide_eq_true hp, ht, extract_zero]
      simp only [hostS, extract_extract_to]
    · refine Ev.ite_pos (p2.2 hp) (Ev.ret fun _ => ?_)
      unfold partS
      rw [hr0, decide_eq_false h, decide_eq_false hp, ht, extract_zero, extract_past s _ (by omega)]
      rfl
end Go.Proofs.Ytdmigmccfdhdiaa.Y
