/- Texts that the law's proof needs, joined by a program of this session. -/
import Derived.Test.YtpmflpeckoeooaaDoorZSyntaxLong1
import Derived.Test.YtpmflpeckoeooaaDoorZSyntaxLong2
import Derived.Test.YtpmflpeckoeooaaDoorZSyntaxLong4
import Derived.Test.YtpmflpeckoeooaaDoorZSyntaxLong5
import Derived.Test.YtpmflpeckoeooaaDoorZSyntaxLong6
import Derived.Test.YtpmflpeckoeooaaDoorZSyntaxLong7
import Derived.Test.YtpmflpeckoeooaaDoorZSyntaxLong12
import Derived.Laws.RangeAny
import Derived.Lib.Split
import Derived.Lib.SplitLaws
namespace Go.Proofs.YtpmflpeckoeooaaDoor.Y
open Go.RowKit Go.Proofs.YtpmflpeckoeooaaDoor.X Go.Proofs.YtpmflpeckoeooaaDoor.M Go.Proofs.YtpmflpeckoeooaaDoorW.PrintWords Go.Proofs.YtpmflpeckoeooaaDoorW.PrintLast Go.Proofs.YtpmflpeckoeooaaDoorW.PrintMore
set_option linter.unusedVariables false
theorem drop3 {s : ByteArray} {i : Nat} (h : i + 3 ≤ s.size) : (bytesOf s).drop i = bt s (i : Int) :: bt s ((i : Int) + 1) :: bt s ((i : Int) + 2) :: (bytesOf s).drop (i + 3) := by
  rcases at_or_end s i (by omega) with ⟨h2, _⟩ | ⟨_, e, _⟩
  · omega
  rcases at_or_end s (i + 1) (by omega) with ⟨h2, _⟩ | ⟨_, e2, _⟩
  · omega
  rcases at_or_end s (i + 2) (by omega) with ⟨h2, _⟩ | ⟨_, e3, _⟩
  · omega
  rw [e, e2, e3]
  rfl
theorem escH_short {l : List Int} (h : l.length < 3) : escH l = -1 := by
  match l, h with
  | [], _ => rfl
  | [_], _ => rfl
  | [_, _], _ => rfl
  | _ :: _ :: _ :: _, h => simp only [List.length_cons] at h; omega
theorem escH_three (p a b : Int) (t : List Int) : escH (p :: a :: b :: t) = if p = 37 then (if hv a < 0 ∨ hv b < 0 then -1 else 16 * hv a + hv b) else -1 := rfl
theorem hex_join {a b : Int} (ha : 0 ≤ a) (ha1 : a ≤ 15) (hb : 0 ≤ b) (hb1 : b ≤ 15) : (Go.bits .or .i64 (wrap64 (a * 16)) b) % 256 = 16 * a + b := by
  have : ∀ x : Fin 16, ∀ y : Fin 16, (Go.bits .or .i64 (wrap64 (((x.val : Nat) : Int) * 16)) ((y.val : Nat) : Int)) % 256 = 16 * ((x.val : Nat) : Int) + ((y.val : Nat) : Int) := by decide +kernel
  have := this ⟨a.toNat, by omega⟩ ⟨b.toNat, by omega⟩
  simp only at this
  rwa [Int.toNat_of_nonneg ha, Int.toNat_of_nonneg hb] at this
theorem escAt_f (s : ByteArray) (i : Nat) (hi : i ≤ s.size) (hs : s.size ≤ 140737488351232) : Ev (fun k => escape_At.f k s (i : Int)) (if escH ((bytesOf s).drop i) < 0 then (0, false) else (escH ((bytesOf s).drop i), true)) := by
  unfold escape_At.f
  refine Ev.ite_neg (by omega) ?_
  have bad : ∀ r, r = (0, false) → Ev (fun k => escape_At.j0 k s (i : Int) true) r := by
    intro r e
    subst e
    refine Ev.step (fun k => by rw [escape_At.j0]) ?_
    exact Ev.ite_pos rfl (Ev.now _)
  rw [w64 (by omega) (by omega)]
  by_cases h3 : i + 3 ≤ s.size
  · refine Ev.ite_neg (by omega) (Ev.ite_pos (by omega) (Ev.ite_pos (by omega) ?_))
    rw [drop3 h3, escH_three]
    by_cases hp : bt s (i : Int) = 37
    · rw [if_pos hp, hp]
      refine Ev.step (fun k => by rw [escape_At.j0]) ?_
      refine Ev.ite_neg (by decide) ?_
      have r1 := bt_rng s ((i : Int) + 1)
      have r2 := bt_rng s ((i : Int) + 2)
      have v1 := hv_range (bt s ((i : Int) + 1))
      have v2 := hv_range (bt s ((i : Int) + 2))
      rw [w64 (x := (i : Int) + 1) (by omega) (by omega), w64 (x := (i : Int) + 2) (by omega) (by omega)]
      refine Ev.ite_pos (by omega) (Ev.ite_pos (by omega) (Ev.bind' (value_f r1.1 r1.2) (Ev.ite_pos (by omega) (Ev.ite_pos (by omega) (Ev.bind' (value_f r2.1 r2.2) ?_)))))
      generalize hv (bt s ((i : Int) + 1)) = x at v1 ⊢
      generalize hv (bt s ((i : Int) + 2)) = y at v2 ⊢
      by_cases h1 : x < 0
      · have h3 : x < 0 ∨ y < 0 := .inl h1
        simp only [if_pos h1, if_pos h3]
        exact Ev.ite_neg (by simp) (Ev.now _)
      · simp only [if_neg h1]
        refine Ev.ite_pos (by simp) ?_
        by_cases h2 : y < 0
        · have h3 : x < 0 ∨ y < 0 := .inr h2
          simp only [if_pos h2, if_pos h3]
          exact Ev.ite_neg (by simp) (Ev.now _)
        · have h3 : ¬ (x < 0 ∨ y < 0) := by omega
          simp only [if_neg h2, if_neg h3]
          refine Ev.ite_pos (by simp) ?_
          rw [if_neg (by omega), hex_join (by omega) (by omega) (by omega) (by omega)]
          exact Ev.now _
    · rw [if_neg hp, if_pos (by omega)]
      have : (bt s (i : Int) != 37) = true := by simpa using hp
      rw [this]
      exact bad _ rfl
  · refine Ev.ite_pos (by omega) ?_
    rw [escH_short (by rw [List.length_drop, bytes_len]; omega), if_pos (by omega)]
    exact bad _ rfl
theorem extra_f (p : Int) : ∃ t, lexis_extra.f p = some (t, place p) := by
  unfold lexis_extra.f place
  by_cases h1 : p = 1
  · subst h1; exact ⟨_, rfl⟩
  by_cases h2 : p = 2
  · subst h2; exact ⟨_, rfl⟩
  by_cases h3 : p = 3
  · subst h3; exact ⟨_, rfl⟩
  by_cases h4 : p = 4
  · subst h4; exact ⟨_, rfl⟩
  by_cases h5 : p = 5
  · subst h5; exact ⟨_, rfl⟩
  by_cases h6 : p = 6
  · subst h6; exact ⟨_, rfl⟩
  by_cases h7 : p = 7
  · subst h7; exact ⟨_, rfl⟩
  · rw [if_neg h1, if_neg h2, if_neg h3, if_neg h4, if_neg h5, if_neg h6, if_neg h7]
    exact ⟨_, by rw [decide_eq_false (by omega)]⟩
theorem place_all {q : Int → Prop} (h : ∀ n : Fin 7, q ((n.val : Nat) + 1 : Int)) {p : Int} (hp : place p = true) : q p := by
  have hp : 1 ≤ p ∧ p ≤ 7 := by simpa [place] using hp
  have := h ⟨(p - 1).toNat, by omega⟩
  simp only at this
  rwa [Int.toNat_of_nonneg (by omega), show p - 1 + 1 = p by omega] at this
theorem plain_f {p b : Int} (h0 : 0 ≤ b) (h1 : b ≤ 255) : Ev (fun k => lexis_Plain.f k p b) (plainAt p b) := by
  by_cases hp : place p = true
  · refine Ev.of (fun k => lexis_Plain.mono p b k) (k := 20) ?_
    refine place_all (q := fun p => lexis_Plain.f 20 p b = some (plainAt p b)) ?_ hp
    intro n
    exact byte_all (p := fun b => lexis_Plain.f 20 ((n.val : Nat) + 1 : Int) b = some (plainAt ((n.val : Nat) + 1 : Int) b)) (by revert n; decide +kernel) h0 h1
  · unfold lexis_Plain.f plainAt
    obtain ⟨t, e⟩ := extra_f p
    refine Ev.pure_bind e ?_
    rw [Bool.not_eq_true] at hp
    rw [hp]
    exact Ev.ite_neg (by simp) (Ev.now _)
theorem common_j0 (r : Int) (h0 : 160 ≤ r) (h1 : r < 2147483648) (b : Bool) (hb : b = true ↔ (r ≤ 55295 ∨ 63744 ≤ r ∧ r ≤ 64975 ∨ 65008 ≤ r ∧ r ≤ 65519)) : Ev (fun k => lexis_Common.j0 k r b) (common r) := by
  refine Ev.step (fun k => by rw [lexis_Common.j0]) ?_
  have hm : Go.bits .and .i32 r 65535 = r % 65536 := bits_mask .i32 31 (by decide) wraps_i32 16 (by decide) r (by omega) (by omega)
  unfold common
  refine Ev.ite (fun h => Ev.val ?_) (fun h => Ev.ite (fun h2 => Ev.val ?_) (fun h2 => Ev.ite (fun h3 => Ev.val ?_) (fun h3 => ?_)))
  · have := hb.1 h
    symm
    rw [decide_eq_true_iff]
    omega
  · have hnb : ¬ (r ≤ 55295 ∨ 63744 ≤ r ∧ r ≤ 64975 ∨ 65008 ≤ r ∧ r ≤ 65519) := fun x => h (hb.2 x)
    symm
    rw [decide_eq_false_iff_not]
    omega
  · have hnb : ¬ (r ≤ 55295 ∨ 63744 ≤ r ∧ r ≤ 64975 ∨ 65008 ≤ r ∧ r ≤ 65519) := fun x => h (hb.2 x)
    symm
    rw [decide_eq_false_iff_not]
    omega
  · have hnb : ¬ (r ≤ 55295 ∨ 63744 ≤ r ∧ r ≤ 64975 ∨ 65008 ≤ r ∧ r ≤ 65519) := fun x => h (hb.2 x)
    rw [hm]
    refine Ev.ite (fun h4 => Ev.ite (fun h5 => Ev.val ?_) (fun h5 => Ev.val ?_)) (fun h4 => Ev.val ?_)
    · symm
      rw [decide_eq_true_iff]
      omega
    · rw [decide_eq_decide]
      omega
    · symm
      rw [decide_eq_false_iff_not]
      omega
theorem common_f (r : Int) (h1 : r < 2147483648) : Ev (fun k => lexis_Common.f k r) (common r) := by
  unfold lexis_Common.f
  refine Ev.ite (fun h => Ev.val ?_) (fun h => ?_)
  · unfold common
    symm
    rw [decide_eq_false_iff_not]
    omega
  · have key := common_j0 r (by omega) h1
    refine Ev.ite (fun h2 => key _ ?_) (fun h2 => Ev.ite (fun h3 => Ev.ite (fun h4 => key _ ?_) (fun h4 => Ev.ite (fun h5 => key _ ?_) (fun h5 => key _ ?_))) (fun h3 => Ev.ite (fun h5 => key _ ?_) (fun h5 => key _ ?_))) <;> simp <;> omega
theorem private_f (r : Int) : lexis_Private.f r = some (priv r) := by
  unfold lexis_Private.f priv
  (repeat' split) <;> congr 1 <;> first | (symm; rw [decide_eq_true_iff]; omega) | (symm; rw [decide_eq_false_iff_not]; omega) | (rw [decide_eq_decide]; omega)
theorem mod256 {r : Int} (h0 : 0 ≤ r) (h1 : r < 128) : r % 256 = r := by omega
theorem may_f (p : Int) (iri : Bool) (r : Int) (h0 : 0 ≤ r) (h1 : r < 2147483648) : Ev (fun k => lexis_May.f k p iri r) (mayAt p iri r) := by
  unfold lexis_May.f mayAt
  refine Ev.ite_pos (by omega) ?_
  refine Ev.step (fun k => by rw [lexis_May.j0]) ?_
  by_cases h : r < 128
  · rw [if_pos ⟨h0, h⟩, mod256 h0 h]
    refine Ev.ite_pos (by simpa using h) ?_
    exact Ev.bind' (plain_f h0 (by omega)) (Ev.now _)
  · rw [if_neg (fun x => h x.2)]
    refine Ev.ite_neg (by simpa using h) ?_
    obtain ⟨t, e⟩ := extra_f p
    refine Ev.pure_bind e ?_
    simp only
    cases hp : place p
    · refine Ev.ite_neg (by simp) ?_
      refine Ev.step (fun k => by rw [lexis_May.j1]) ?_
      refine Ev.ite_pos rfl (Ev.val ?_)
      simp
    · refine Ev.ite_pos rfl ?_
      refine Ev.step (fun k => by rw [lexis_May.j1]) ?_
      cases iri
      · exact Ev.ite_pos rfl (Ev.now _)
      · refine Ev.ite_neg (by simp) (Ev.bind' (common_f r h1) ?_)
        cases hc : common r
        · refine Ev.ite_neg (by simp) (Ev.ite (fun h6 => ?_) (fun h6 => ?_))
          · refine Ev.pure_bind (private_f r) (Ev.val ?_)
            simp [h6]
          · exact Ev.val (by simp [h6])
        · exact Ev.ite_pos rfl (Ev.val (by simp))
theorem accum_bound (t : List Int) (h : ∀ c ∈ t, 128 ≤ c ∧ c ≤ 191) : ∀ r, 0 ≤ r → t.length ≤ 3 → r < bnd t.length → 0 ≤ accum r t ∧ accum r t < 33554432 := by
  induction t with
  | nil => intro r h0 _ h1; exact ⟨h0, h1⟩
  | cons c t ih =>
    intro r h0 hl h1
    obtain ⟨c0, c1⟩ := h c (List.mem_cons_self ..)
    rw [List.length_cons] at hl h1
    have hb := bnd_step (by omega) h0 h1 c0 c1
    exact ih (fun d hd => h d (List.mem_cons_of_mem _ hd)) _ hb.1 (by omega) hb.2.1
theorem dec_range (l : List Int) (hl : ∀ b ∈ l, 0 ≤ b ∧ b ≤ 255) : 0 ≤ (dec l).1 ∧ (dec l).1 < 33554432 := by
  cases l with
  | nil => simp [dec]
  | cons b t =>
    obtain ⟨b0, b1⟩ := hl b (List.mem_cons_self ..)
    rw [dec_cons]
    have hr := shp_range b
    by_cases hz : (shp b).1 = 0
    · rw [if_pos hz]; simp
    · rw [if_neg hz]
      have hm : 2 ≤ (shp b).1 → ∀ c ∈ t.take (conts ((shp b).1.toNat - 1) (shp b).2.1 (shp b).2.2 t), 128 ≤ c ∧ c ≤ 191 := fun h2 => conts_mem _ _ _ (shp_bounds h2).1 (shp_bounds h2).2 _
      have hc := conts_le ((shp b).1.toNat - 1) (shp b).2.1 (shp b).2.2 t
      revert hm hc
      generalize conts ((shp b).1.toNat - 1) (shp b).2.1 (shp b).2.2 t = m
      intro hm hc
      by_cases h2 : (m : Int) + 1 < (shp b).1
      · rw [if_pos h2]; simp
      · rw [if_neg h2]
        have hld := shp_lead b0 b1 (by omega)
        simp only
        refine accum_bound _ ?_ _ hld.1 (by rw [List.length_take]; omega) ?_
        · intro c hcc
          by_cases h2 : 2 ≤ (shp b).1
          · exact hm h2 c (by rw [show m = (shp b).1.toNat - 1 by omega]; exact hcc)
          · rw [show (shp b).1.toNat - 1 = 0 by omega] at hcc
            simp at hcc
        · refine Int.lt_of_lt_of_le hld.2 ?_
          generalize (t.take ((shp b).1.toNat - 1)).length = n
          rcases n with _ | _ | _ | n <;> simp [bnd]
theorem bytes_all (s : ByteArray) : ∀ b ∈ bytesOf s, 0 ≤ b ∧ b ≤ 255 := fun _ h => bytes_range h
theorem bytes_from (s : ByteArray) (i : Nat) : bytesOf (s.extract i s.size) = (bytesOf s).drop i := by
  rw [bytes_extract, ← bytes_len, List.take_length]
theorem step_no_escape {p : Int} {iri : Bool} {l : List Int} (hp : place p = true) (h : escH l < 0) : stepAt p iri l = if (dec l).2.2 && mayAt p iri (dec l).1 then (dec l).2.1.toNat else 0 := by
  unfold stepAt
  rw [if_pos hp, if_neg (by omega)]
theorem span_l0 (p : Int) (iri : Bool) (s : ByteArray) (hs : s.size ≤ 140737488351232) (hp : place p = true) : ∀ d i : Nat, i + d = s.size → Ev (fun k => lexis_Span.l0 k p iri s (i : Int)) ((i : Int) + spanAt p iri ((bytesOf s).drop i)) := by
  intro d
  induction d using Nat.strongRecOn with
  | _ d ih =>
    intro i hi
    refine Ev.step (fun k => by rw [lexis_Span.l0]) ?_
    refine Ev.ite (fun h => ?_) (fun h => ?_)
    · obtain ⟨t, e⟩ := extra_f p
      refine Ev.pure_bind e ?_
      simp only
      refine Ev.ite_pos hp (Ev.bind' (escAt_f s i (by omega) hs) ?_)
      rw [span_eq]
      by_cases he : escH ((bytesOf s).drop i) < 0
      · simp only [if_pos he]
        refine Ev.ite_neg (by simp) (Ev.ite_pos (by omega) (Ev.ite_pos (by omega) ?_))
        rw [Int.toNat_natCast]
        have hd := decode_f (s.extract i s.size) (by rw [← bytes_len, bytes_from, List.length_drop, bytes_len]; omega)
        rw [bytes_from] at hd
        refine Ev.bind' hd ?_
        rw [step_no_escape hp he]
        have hr := dec_range ((bytesOf s).drop i) (fun b hb => bytes_all s b (List.mem_of_mem_drop hb))
        have hn := dec_n ((bytesOf s).drop i)
        rw [List.length_drop, bytes_len] at hn
        cases hok : (dec ((bytesOf s).drop i)).2.2
        · refine Ev.ite_neg (by simp) (Ev.val (by simp))
        · refine Ev.ite_pos rfl (Ev.bind' (may_f p iri _ hr.1 (by omega)) ?_)
          have hn1 := dec_ok_n hok
          cases hm : mayAt p iri (dec ((bytesOf s).drop i)).1
          · refine Ev.ite_neg (by simp) (Ev.val (by simp))
          · refine Ev.ite_pos rfl ?_
            rw [w64 (by omega) (by omega)]
            simp only [Bool.and_self, if_true]
            rw [if_neg (by omega), List.drop_drop]
            have := ih (s.size - (i + (dec ((bytesOf s).drop i)).2.1.toNat)) (by omega) (i + (dec ((bytesOf s).drop i)).2.1.toNat) (by omega)
            have e1 : ((i + (dec ((bytesOf s).drop i)).2.1.toNat : Nat) : Int) = (i : Int) + (dec ((bytesOf s).drop i)).2.1 := by omega
            rw [e1] at this
            have e2 : (i : Int) + (((dec ((bytesOf s).drop i)).2.1.toNat + spanAt p iri ((bytesOf s).drop (i + (dec ((bytesOf s).drop i)).2.1.toNat)) : Nat) : Int) = (i : Int) + (dec ((bytesOf s).drop i)).2.1 + (spanAt p iri ((bytesOf s).drop (i + (dec ((bytesOf s).drop i)).2.1.toNat)) : Int) := by omega
            rw [e2]
            exact this
      · simp only [if_neg he]
        refine Ev.ite_pos (by simp) ?_
        have h3 : stepAt p iri ((bytesOf s).drop i) = 3 := by unfold stepAt; rw [if_pos hp, if_pos (by omega)]
        have hl := step_le p iri ((bytesOf s).drop i)
        rw [h3, List.length_drop, bytes_len] at hl
        rw [h3, w64 (by omega) (by omega), if_neg (by omega), List.drop_drop]
        have := ih (s.size - (i + 3)) (by omega) (i + 3) (by omega)
        have e2 : (i : Int) + ((3 + spanAt p iri ((bytesOf s).drop (i + 3)) : Nat) : Int) = ((i + 3 : Nat) : Int) + (spanAt p iri ((bytesOf s).drop (i + 3)) : Int) := by omega
        rw [e2]
        exact this
    · rw [List.drop_of_length_le (by rw [bytes_len]; omega), span_nil]
      exact Ev.val (by simp)
theorem span_f (p : Int) (iri : Bool) (s : ByteArray) (hs : s.size ≤ 140737488351232) : Ev (fun k => lexis_Span.f k p iri s) (spanAt p iri (bytesOf s) : Int) := by
  unfold lexis_Span.f
  by_cases hp : place p = true
  · have := span_l0 p iri s hs hp s.size 0 (by omega)
    simpa using this
  · have hz : stepAt p iri (bytesOf s) = 0 := by unfold stepAt; rw [if_neg hp]
    rw [span_eq, if_pos hz]
    refine Ev.step (fun k => by rw [lexis_Span.l0]) ?_
    obtain ⟨t, e⟩ := extra_f p
    refine Ev.ite (fun h => Ev.pure_bind e ?_) (fun h => Ev.now _)
    exact Ev.ite_neg hp (Ev.now _)
theorem all_f (p : Int) (iri : Bool) (s : ByteArray) (hs : s.size ≤ 140737488351232) : Ev (fun k => lexis_All.f k p iri s) (allAt p iri (bytesOf s)) := by
  unfold lexis_All.f
  refine Ev.bind' (span_f p iri s hs) (Ev.val ?_)
  unfold allAt
  rw [bytes_len, Bool.eq_iff_iff, beq_iff_eq, beq_iff_eq]
  omega
end Go.Proofs.YtpmflpeckoeooaaDoor.Y
namespace Go.Proofs.YtpmflpeckoeooaaDoor.M
open Go Go.RowKit Go.Proofs.YtpmflpeckoeooaaDoorW.PrintWords
theorem get_nat (s : ByteArray) (i : Nat) (h : i < s.size) : ((s.get! i).toNat : Int) = bt s (i : Int) := by
  rw [bt_getD, List.getD_eq_getElem?_getD]
  unfold bytesOf
  rw [List.getElem?_map, Array.getElem?_toList]
  have h' : i < s.data.size := h
  have e : s.get! i = s.data[i]'h' := by
    show s.data[i]! = _
    rw [getElem!_pos s.data i h']
  rw [Array.getElem?_eq_getElem h', e]
  rfl
def tail4 (n : Nat) (b0 b1 b2 b3 : Nat) : Nat × Nat :=
  if b0 < 0x80 then (b0, 1)
  else if b0 / 32 == 6 && (decide (1 < n) && b1 / 64 == 2) then (if b0 % 32 * 64 + b1 % 64 ≥ 0x80 then (b0 % 32 * 64 + b1 % 64, 2) else (65533, 1))
  else if b0 / 16 == 14 && (decide (1 < n) && b1 / 64 == 2) && (decide (2 < n) && b2 / 64 == 2) then (if b0 % 16 * 4096 + b1 % 64 * 64 + b2 % 64 ≥ 0x800 && Utf8.valid (b0 % 16 * 4096 + b1 % 64 * 64 + b2 % 64) then (b0 % 16 * 4096 + b1 % 64 * 64 + b2 % 64, 3) else (65533, 1))
  else if b0 / 8 == 30 && (decide (1 < n) && b1 / 64 == 2) && (decide (2 < n) && b2 / 64 == 2) && (decide (3 < n) && b3 / 64 == 2) then (if b0 % 8 * 262144 + b1 % 64 * 4096 + b2 % 64 * 64 + b3 % 64 ≥ 0x10000 && Utf8.valid (b0 % 8 * 262144 + b1 % 64 * 4096 + b2 % 64 * 64 + b3 % 64) then (b0 % 8 * 262144 + b1 % 64 * 4096 + b2 % 64 * 64 + b3 % 64, 4) else (65533, 1))
  else (65533, 1)
theorem decode_tail4 (s : ByteArray) (pos : Nat) (h : pos < s.size) : Utf8.decode s pos = tail4 (s.size - pos) (s.get! pos).toNat (s.get! (pos + 1)).toNat (s.get! (pos + 2)).toNat (s.get! (pos + 3)).toNat := by
  have e1 : decide (pos + 1 < s.size) = decide (1 < s.size - pos) := decide_eq_decide.2 (by omega)
  have e2 : decide (pos + 2 < s.size) = decide (2 < s.size - pos) := decide_eq_decide.2 (by omega)
  have e3 : decide (pos + 3 < s.size) = decide (3 < s.size - pos) := decide_eq_decide.2 (by omega)
  unfold Utf8.decode tail4
  simp only [Nat.add_zero, e1, e2, e3]
  rfl
def asRune (l : List Int) : Nat × Nat := if (dec l).2.2 = true then ((dec l).1.toNat, (dec l).2.1.toNat) else (65533, 1)
theorem valid_iff (c : Int) : Utf8.valid c = decide (0 ≤ c ∧ c < 55296 ∨ 57344 ≤ c ∧ c ≤ 1114111) := by
  unfold Utf8.valid
  rw [Bool.eq_iff_iff]
  simp
theorem shp_rows {b : Int} (h0 : 0 ≤ b) (h1 : b ≤ 255) : b < 128 ∨ (128 ≤ b ∧ shp b = (0, 0, 0) ∧ (b ≤ 193 ∨ 245 ≤ b)) ∨ (194 ≤ b ∧ b ≤ 223 ∧ shp b = (2, 128, 191)) ∨ (b = 224 ∧ shp b = (3, 160, 191)) ∨ (225 ≤ b ∧ b ≤ 239 ∧ b ≠ 237 ∧ shp b = (3, 128, 191)) ∨ (b = 237 ∧ shp b = (3, 128, 159)) ∨ (b = 240 ∧ shp b = (4, 144, 191)) ∨ (241 ≤ b ∧ b ≤ 243 ∧ shp b = (4, 128, 191)) ∨ (b = 244 ∧ shp b = (4, 128, 143)) :=
  byte_all (p := fun b => b < 128 ∨ (128 ≤ b ∧ shp b = (0, 0, 0) ∧ (b ≤ 193 ∨ 245 ≤ b)) ∨ (194 ≤ b ∧ b ≤ 223 ∧ shp b = (2, 128, 191)) ∨ (b = 224 ∧ shp b = (3, 160, 191)) ∨ (225 ≤ b ∧ b ≤ 239 ∧ b ≠ 237 ∧ shp b = (3, 128, 191)) ∨ (b = 237 ∧ shp b = (3, 128, 159)) ∨ (b = 240 ∧ shp b = (4, 144, 191)) ∨ (241 ≤ b ∧ b ≤ 243 ∧ shp b = (4, 128, 191)) ∨ (b = 244 ∧ shp b = (4, 128, 143))) (by decide +kernel) h0 h1
theorem rune_none {b : Int} {t : List Int} (h : (dec (b :: t)).2.2 = false) : asRune (b :: t) = (65533, 1) := by unfold asRune; rw [h]; rfl
theorem rune_two {b : Int} {t : List Int} {lo hi : Int} (hs : shp b = (2, lo, hi)) : asRune (b :: t) = match t with | [] => (65533, 1) | c :: _ => if lo ≤ c ∧ c ≤ hi then (((b - 192) * 64 + (c - 128)).toNat, 2) else (65533, 1) := by
  cases t with
  | nil => apply rune_none; rw [dec_cons, hs]; simp [conts]
  | cons c u =>
    unfold asRune
    rw [dec_cons, hs]
    by_cases hc : lo ≤ c ∧ c ≤ hi
    · simp [conts, hc, accum, lead]
    · simp [conts, hc]
theorem rune_three {b : Int} {t : List Int} {lo hi : Int} (hs : shp b = (3, lo, hi)) : asRune (b :: t) = match t with | c :: d :: _ => if (lo ≤ c ∧ c ≤ hi) ∧ 128 ≤ d ∧ d ≤ 191 then ((((b - 224) * 64 + (c - 128)) * 64 + (d - 128)).toNat, 3) else (65533, 1) | _ => (65533, 1) := by
  match t with
  | [] => apply rune_none; rw [dec_cons, hs]; simp [conts]
  | [c] =>
    apply rune_none; rw [dec_cons, hs]
    by_cases hc : lo ≤ c ∧ c ≤ hi <;> simp [conts, hc]
  | c :: d :: u =>
    unfold asRune
    rw [dec_cons, hs]
    by_cases hc : lo ≤ c ∧ c ≤ hi
    · by_cases hd : 128 ≤ d ∧ d ≤ 191
      · simp [conts, hc, hd, accum, lead]
      · simp [conts, hc, hd]
    · simp [conts, hc]
theorem rune_four {b : Int} {t : List Int} {lo hi : Int} (hs : shp b = (4, lo, hi)) : asRune (b :: t) = match t with | c :: d :: e :: _ => if (lo ≤ c ∧ c ≤ hi) ∧ (128 ≤ d ∧ d ≤ 191) ∧ 128 ≤ e ∧ e ≤ 191 then (((((b - 240) * 64 + (c - 128)) * 64 + (d - 128)) * 64 + (e - 128)).toNat, 4) else (65533, 1) | _ => (65533, 1) := by
  match t with
  | [] => apply rune_none; rw [dec_cons, hs]; simp [conts]
  | [c] =>
    apply rune_none; rw [dec_cons, hs]
    by_cases hc : lo ≤ c ∧ c ≤ hi <;> simp [conts, hc]
  | [c, d] =>
    apply rune_none; rw [dec_cons, hs]
    by_cases hc : lo ≤ c ∧ c ≤ hi
    · by_cases hd : 128 ≤ d ∧ d ≤ 191 <;> simp [conts, hc, hd]
    · simp [conts, hc]
  | c :: d :: e :: u =>
    unfold asRune
    rw [dec_cons, hs]
    by_cases hc : lo ≤ c ∧ c ≤ hi
    · by_cases hd : 128 ≤ d ∧ d ≤ 191
      · by_cases he : 128 ≤ e ∧ e ≤ 191
        · simp [conts, hc, hd, he, accum, lead]
        · simp [conts, hc, hd, he]
      · simp [conts, hc, hd]
    · simp [conts, hc]
theorem ite_pair {c d : Prop} [Decidable c] [Decidable d] {x y z w : Nat × Nat} (h : c ↔ d) (h1 : d → x = y) (h2 : z = w) : (if c then x else z) = if d then y else w := by
  by_cases hd : d
  · rw [if_pos (h.2 hd), if_pos hd, h1 hd]
  · rw [if_neg (fun hc => hd (h.1 hc)), if_neg hd, h2]
theorem tail4_rune (b : Int) (t : List Int) (hb : 0 ≤ b ∧ b ≤ 255) (ht : ∀ x ∈ t, 0 ≤ x ∧ x ≤ 255) (b0 b1 b2 b3 : Nat) (e0 : (b0 : Int) = b) (e1 : ∀ x, t[0]? = some x → (b1 : Int) = x) (e2 : ∀ x, t[1]? = some x → (b2 : Int) = x) (e3 : ∀ x, t[2]? = some x → (b3 : Int) = x) :
    tail4 (t.length + 1) b0 b1 b2 b3 = asRune (b :: t) := by
  rcases shp_rows hb.1 hb.2 with h | ⟨h, hs, hr⟩ | ⟨h, h', hs⟩ | ⟨rfl, hs⟩ | ⟨h, h', hn, hs⟩ | ⟨rfl, hs⟩ | ⟨rfl, hs⟩ | ⟨h, h', hs⟩ | ⟨rfl, hs⟩
  · unfold tail4 asRune
    rw [if_pos (by omega), dec_ascii t h]
    simp
    omega
  · rw [rune_none (by rw [dec_cons, hs]; rfl)]
    unfold tail4
    rw [if_neg (by omega)]
    have a1 : ∀ c : Bool, (if (b0 / 32 == 6 && c) = true then (if b0 % 32 * 64 + b1 % 64 ≥ 0x80 then (b0 % 32 * 64 + b1 % 64, 2) else ((65533 : Nat), 1)) else (65533, 1)) = (65533, 1) := fun c => by
      split
      · rename_i hc
        rw [Bool.and_eq_true, beq_iff_eq] at hc
        rw [if_neg (by omega)]
      · rfl
    have n14 : (b0 / 16 == 14) = false := by rw [beq_eq_false_iff_ne]; omega
    by_cases h30 : b0 / 8 = 30
    · have c30 : b0 / 32 ≠ 6 := by omega
      have n6 : (b0 / 32 == 6) = false := by rw [beq_eq_false_iff_ne]; exact c30
      simp only [n6, n14, Bool.false_and, Bool.false_eq_true, if_false]
      split
      · rename_i hc
        rw [if_neg]
        simp only [Bool.and_eq_true, valid_iff, decide_eq_true_iff]
        intro hv
        have := hv.2
        omega
      · rfl
    · have n30 : (b0 / 8 == 30) = false := by rw [beq_eq_false_iff_ne]; exact h30
      simp only [n14, n30, Bool.false_and, Bool.false_eq_true, if_false]
      exact a1 _
  all_goals have hb0 : ¬ b0 < 0x80 := by omega
  all_goals unfold tail4
  all_goals rw [if_neg hb0]
  · have c6 : (b0 / 32 == 6) = true := by rw [beq_iff_eq]; omega
    have n14 : (b0 / 16 == 14) = false := by rw [beq_eq_false_iff_ne]; omega
    have n30 : (b0 / 8 == 30) = false := by rw [beq_eq_false_iff_ne]; omega
    simp only [c6, n14, n30, Bool.true_and, Bool.false_and, Bool.false_eq_true, if_false]
    rw [rune_two hs]
    cases t with
    | nil => simp
    | cons c u =>
      have hc := e1 c rfl
      have hcr := ht c (by simp)
      simp only [List.length_cons]
      refine ite_pair ?_ ?_ rfl
      · rw [Bool.and_eq_true, beq_iff_eq, decide_eq_true_iff]; omega
      · intro hd
        rw [if_pos (by omega)]
        simp; omega
  all_goals have n6 : (b0 / 32 == 6) = false := by rw [beq_eq_false_iff_ne]; omega
  · have c14 : (b0 / 16 == 14) = true := by rw [beq_iff_eq]; omega
    have n30 : (b0 / 8 == 30) = false := by rw [beq_eq_false_iff_ne]; omega
    simp only [c14, n6, n30, Bool.true_and, Bool.false_and, Bool.false_eq_true, if_false]
    rw [rune_three hs]
    match t, ht, e1, e2 with
    | [], _, _, _ => simp
    | [c], _, _, _ => simp
    | c :: d :: u, ht, e1, e2 =>
      have hc := e1 c rfl
      have hcr := ht c (by simp)
      have hd := e2 d rfl
      have hdr := ht d (by simp)
      simp only [List.length_cons, valid_iff]
      simp only [show decide (1 < u.length + 1 + 1 + 1) = true from decide_eq_true (by omega), show decide (2 < u.length + 1 + 1 + 1) = true from decide_eq_true (by omega)]
      simp only [Bool.true_and]
      by_cases hk : 128 ≤ c ∧ c ≤ 191 ∧ 128 ≤ d ∧ d ≤ 191
      · rw [if_pos (by rw [Bool.and_eq_true, beq_iff_eq, beq_iff_eq]; omega)]
        refine ite_pair ?_ ?_ rfl
        · rw [Bool.and_eq_true, decide_eq_true_iff, decide_eq_true_iff]; omega
        · intro _; simp; omega
      · rw [if_neg (by rw [Bool.and_eq_true, beq_iff_eq, beq_iff_eq]; omega), if_neg (by omega)]
  · have c14 : (b0 / 16 == 14) = true := by rw [beq_iff_eq]; omega
    have n30 : (b0 / 8 == 30) = false := by rw [beq_eq_false_iff_ne]; omega
    simp only [c14, n6, n30, Bool.true_and, Bool.false_and, Bool.false_eq_true, if_false]
    rw [rune_three hs]
    match t, ht, e1, e2 with
    | [], _, _, _ => simp
    | [c], _, _, _ => simp
    | c :: d :: u, ht, e1, e2 =>
      have hc := e1 c rfl
      have hcr := ht c (by simp)
      have hd := e2 d rfl
      have hdr := ht d (by simp)
      simp only [List.length_cons, valid_iff]
      simp only [show decide (1 < u.length + 1 + 1 + 1) = true from decide_eq_true (by omega), show decide (2 < u.length + 1 + 1 + 1) = true from decide_eq_true (by omega)]
      simp only [Bool.true_and]
      by_cases hk : 128 ≤ c ∧ c ≤ 191 ∧ 128 ≤ d ∧ d ≤ 191
      · rw [if_pos (by rw [Bool.and_eq_true, beq_iff_eq, beq_iff_eq]; omega)]
        refine ite_pair ?_ ?_ rfl
        · rw [Bool.and_eq_true, decide_eq_true_iff, decide_eq_true_iff]; omega
        · intro _; simp; omega
      · rw [if_neg (by rw [Bool.and_eq_true, beq_iff_eq, beq_iff_eq]; omega), if_neg (by omega)]
  · have c14 : (b0 / 16 == 14) = true := by rw [beq_iff_eq]; omega
    have n30 : (b0 / 8 == 30) = false := by rw [beq_eq_false_iff_ne]; omega
    simp only [c14, n6, n30, Bool.true_and, Bool.false_and, Bool.false_eq_true, if_false]
    rw [rune_three hs]
    match t, ht, e1, e2 with
    | [], _, _, _ => simp
    | [c], _, _, _ => simp
    | c :: d :: u, ht, e1, e2 =>
      have hc := e1 c rfl
      have hcr := ht c (by simp)
      have hd := e2 d rfl
      have hdr := ht d (by simp)
      simp only [List.length_cons, valid_iff]
      simp only [show decide (1 < u.length + 1 + 1 + 1) = true from decide_eq_true (by omega), show decide (2 < u.length + 1 + 1 + 1) = true from decide_eq_true (by omega)]
      simp only [Bool.true_and]
      by_cases hk : 128 ≤ c ∧ c ≤ 191 ∧ 128 ≤ d ∧ d ≤ 191
      · rw [if_pos (by rw [Bool.and_eq_true, beq_iff_eq, beq_iff_eq]; omega)]
        refine ite_pair ?_ ?_ rfl
        · rw [Bool.and_eq_true, decide_eq_true_iff, decide_eq_true_iff]; omega
        · intro _; simp; omega
      · rw [if_neg (by rw [Bool.and_eq_true, beq_iff_eq, beq_iff_eq]; omega), if_neg (by omega)]
  all_goals have n14 : (b0 / 16 == 14) = false := by rw [beq_eq_false_iff_ne]; omega
  all_goals have c30 : (b0 / 8 == 30) = true := by rw [beq_iff_eq]; omega
  all_goals simp only [c30, n6, n14, Bool.true_and, Bool.false_and, Bool.false_eq_true, if_false]
  all_goals rw [rune_four hs]
  all_goals
    match t, ht, e1, e2, e3 with
    | [], _, _, _, _ => simp
    | [c], _, _, _, _ => simp
    | [c, d], _, _, _, _ => simp
    | c :: d :: e :: u, ht, e1, e2, e3 =>
      have hc := e1 c rfl
      have hcr := ht c (by simp)
      have hd := e2 d rfl
      have hdr := ht d (by simp)
      have he := e3 e rfl
      have her := ht e (by simp)
      simp only [List.length_cons, valid_iff]
      simp only [show decide (1 < u.length + 1 + 1 + 1 + 1) = true from decide_eq_true (by omega), show decide (2 < u.length + 1 + 1 + 1 + 1) = true from decide_eq_true (by omega), show decide (3 < u.length + 1 + 1 + 1 + 1) = true from decide_eq_true (by omega)]
      simp only [Bool.true_and]
      by_cases hk : 128 ≤ c ∧ c ≤ 191 ∧ 128 ≤ d ∧ d ≤ 191 ∧ 128 ≤ e ∧ e ≤ 191
      · rw [if_pos (by simp only [Bool.and_eq_true, beq_iff_eq]; omega)]
        refine ite_pair ?_ ?_ rfl
        · rw [Bool.and_eq_true, decide_eq_true_iff, decide_eq_true_iff]; omega
        · intro _; simp; omega
      · rw [if_neg (by simp only [Bool.and_eq_true, beq_iff_eq]; omega), if_neg (by omega)]
theorem utf8_dec (s : ByteArray) (pos : Nat) (h : pos < s.size) : Utf8.decode s pos = asRune ((bytesOf s).drop pos) := by
  have hl : pos < (bytesOf s).length := by rw [bytes_len]; exact h
  have e := List.drop_eq_getElem_cons hl
  have hbt : ∀ i : Nat, i < s.size → (bytesOf s)[i]? = some (bt s (i : Int)) := fun i hi => by
    have hi' : i < (bytesOf s).length := by rw [bytes_len]; exact hi
    rw [bt_getD, List.getD_eq_getElem?_getD, List.getElem?_eq_getElem hi']
    rfl
  have hg : ∀ k : Nat, ∀ x, ((bytesOf s).drop (pos + 1))[k]? = some x → ((s.get! (pos + (k + 1))).toNat : Int) = x := fun k x hx => by
    rw [List.getElem?_drop] at hx
    have hk : pos + 1 + k < s.size := by
      have := (List.getElem?_eq_some_iff.1 hx).1
      rw [bytes_len] at this
      exact this
    rw [hbt _ hk] at hx
    rw [show pos + (k + 1) = pos + 1 + k by omega, get_nat s _ hk]
    exact Option.some.inj hx
  rw [decode_tail4 s pos h, e]
  have hlen : s.size - pos = ((bytesOf s).drop (pos + 1)).length + 1 := by rw [List.length_drop, bytes_len]; omega
  rw [hlen]
  refine tail4_rune _ _ ?_ ?_ _ _ _ _ ?_ (hg 0) (hg 1) (hg 2)
  · exact bytes_range (List.getElem_mem hl)
  · intro x hx; exact bytes_range (List.mem_of_mem_drop hx)
  · rw [get_nat s pos h]
    have := hbt pos h
    rw [List.getElem?_eq_getElem hl] at this
    exact (Option.some.inj this).symm
end Go.Proofs.YtpmflpeckoeooaaDoor.M
namespace Go.Proofs.YtpmflpeckoeooaaDoor.Y
open Go Go.RowKit Go.Proofs.YtpmflpeckoeooaaDoor.X Go.Proofs.YtpmflpeckoeooaaDoor.M Go.Proofs.YtpmflpeckoeooaaDoorW.PrintWords Go.Proofs.YtpmflpeckoeooaaDoorW.PrintLast Go.Proofs.YtpmflpeckoeooaaDoorW.PrintMore
set_option linter.unusedVariables false
def faultL (l : List Int) : Int :=
  if h : l ≠ [] ∧ (dec l).2.2 = true then (if faultL (l.drop (dec l).2.1.toNat) = -1 then -1 else (dec l).2.1 + faultL (l.drop (dec l).2.1.toNat)) else if l = [] then -1 else 0
termination_by l.length
decreasing_by
  all_goals
    have := dec_ok_n h.2
    have hl : l.length ≠ 0 := fun hz => h.1 (List.length_eq_zero_iff.1 hz)
    rw [List.length_drop]; omega
theorem fault_nil : faultL [] = -1 := by rw [faultL]; simp
theorem fault_ok {l : List Int} (h : l ≠ []) (ok : (dec l).2.2 = true) : faultL l = if faultL (l.drop (dec l).2.1.toNat) = -1 then -1 else (dec l).2.1 + faultL (l.drop (dec l).2.1.toNat) := by
  rw [faultL, dif_pos ⟨h, ok⟩]
theorem fault_bad {l : List Int} (h : l ≠ []) (ok : (dec l).2.2 = false) : faultL l = 0 := by
  rw [faultL, dif_neg (by rw [ok]; simp), if_neg h]
theorem fault_ge : ∀ (n : Nat) (l : List Int), l.length = n → -1 ≤ faultL l := by
  intro n
  induction n using Nat.strongRecOn with
  | _ n ih =>
    intro l hn
    by_cases h : l = []
    · rw [h, fault_nil]; omega
    · cases ok : (dec l).2.2
      · rw [fault_bad h ok]; omega
      · have hp := dec_ok_n ok
        have hl : l.length ≠ 0 := fun hz => h (List.length_eq_zero_iff.1 hz)
        have := ih (l.drop (dec l).2.1.toNat).length (by rw [List.length_drop]; omega) _ rfl
        rw [fault_ok h ok]
        split <;> omega
def at_ (i : Nat) (z : Int) : Int := if z = -1 then -1 else (i : Int) + z
theorem fault_l0 (s : ByteArray) (hs : s.size ≤ 140737488351232) : ∀ d i : Nat, i + d = s.size → Ev (fun k => utf_Fault.l0 k s i) (at_ i (faultL ((bytesOf s).drop i))) := by
  intro d
  induction d using Nat.strongRecOn with
  | _ d ih =>
    intro i hi
    refine Ev.step (fun k => by rw [utf_Fault.l0]) ?_
    refine Ev.ite (fun h => ?_) (fun h => ?_)
    · have hne : (bytesOf s).drop i ≠ [] := fun hz => by have := end_drop hz; omega
      rw [utf8_dec s i h]
      have hd := decode_f (s.extract i s.size) (by rw [← bytes_len, bytes_from, List.length_drop, bytes_len]; omega)
      rw [bytes_from] at hd
      have hn := dec_n ((bytesOf s).drop i)
      rw [List.length_drop, bytes_len] at hn
      unfold asRune
      cases hok : (dec ((bytesOf s).drop i)).2.2
      · simp only [Bool.false_eq_true, if_false]
        refine Ev.ite_pos (by decide) (Ev.bind' hd (Ev.ite_neg (by rw [hok]; simp) (Ev.val ?_)))
        rw [fault_bad hne hok]; unfold at_; rw [if_neg (by omega)]; omega
      · have hn1 := dec_ok_n hok
        simp only [if_true]
        have := ih (s.size - (i + (dec ((bytesOf s).drop i)).2.1.toNat)) (by omega) (i + (dec ((bytesOf s).drop i)).2.1.toNat) (by omega)
        have e2 : at_ i (faultL ((bytesOf s).drop i)) = at_ (i + (dec ((bytesOf s).drop i)).2.1.toNat) (faultL ((bytesOf s).drop (i + (dec ((bytesOf s).drop i)).2.1.toNat))) := by
          rw [fault_ok hne hok, List.drop_drop]
          have hge := fault_ge _ ((bytesOf s).drop (i + (dec ((bytesOf s).drop i)).2.1.toNat)) rfl
          have e1 : ((i + (dec ((bytesOf s).drop i)).2.1.toNat : Nat) : Int) = (i : Int) + (dec ((bytesOf s).drop i)).2.1 := by omega
          unfold at_
          rw [e1]
          split <;> (try split) <;> (try split) <;> omega
        rw [e2]
        exact Ev.ite (fun _ => Ev.bind' hd (Ev.ite_pos hok this)) (fun _ => this)
    · rw [List.drop_of_length_le (by rw [bytes_len]; omega), fault_nil]
      exact Ev.val rfl
theorem fault_f (s : ByteArray) (hs : s.size ≤ 140737488351232) : Ev (fun k => utf_Fault.f k s) (faultL (bytesOf s)) := by
  have h := fault_l0 s hs s.size 0 (by omega)
  have e : at_ 0 (faultL ((bytesOf s).drop 0)) = faultL (bytesOf s) := by rw [List.drop_zero]; unfold at_; split <;> omega
  rw [e] at h
  exact h
def wellL (l : List Int) : Bool := decide (faultL l < 0)
theorem valid_f (s : ByteArray) (hs : s.size ≤ 140737488351232) : Ev (fun k => utf_Valid.f k s) (wellL (bytesOf s)) := Ev.bind' (fault_f s hs) (Ev.now _)
end Go.Proofs.YtpmflpeckoeooaaDoor.Y
namespace Go.Proofs.YtpmflpeckoeooaaDoor.M
open Go Go.RowKit Go.Proofs.YtpmflpeckoeooaaDoorW.PrintWords
set_option linter.unusedVariables false
def sidx (sub : List Int) : List Int → Int
  | [] => if sub = [] then 0 else -1
  | b :: t => if sub.isPrefixOf (b :: t) then 0 else if sidx sub t = -1 then -1 else sidx sub t + 1
theorem sidx_cons (sub : List Int) (b : Int) (t : List Int) : sidx sub (b :: t) = if sub.isPrefixOf (b :: t) then 0 else if sidx sub t = -1 then -1 else sidx sub t + 1 := rfl
theorem sidx_ge (sub l : List Int) : -1 ≤ sidx sub l := by
  induction l with
  | nil => unfold sidx; split <;> omega
  | cons b t ih => rw [sidx_cons]; split <;> (try split) <;> omega
theorem prefix_map (a l : List UInt8) : (a.map fun b => (b.toNat : Int)).isPrefixOf (l.map fun b => (b.toNat : Int)) = a.isPrefixOf l := by
  induction a generalizing l with
  | nil => rfl
  | cons x t ih =>
    cases l with
    | nil => rfl
    | cons y r =>
      rw [List.map_cons, List.map_cons, List.isPrefixOf_cons_cons, List.isPrefixOf_cons_cons, ih]
      congr 1
      rw [Bool.eq_iff_iff, beq_iff_eq, beq_iff_eq]
      constructor
      · intro h; exact UInt8.toNat_inj.1 (by omega)
      · intro h; rw [h]
theorem index_sidx (l sub : List UInt8) : Go.Lib.index l sub = sidx (sub.map fun b => (b.toNat : Int)) (l.map fun b => (b.toNat : Int)) := by
  induction l with
  | nil =>
    unfold Go.Lib.index
    rw [List.map_nil]
    unfold sidx
    cases sub <;> simp
  | cons b t ih =>
    unfold Go.Lib.index
    have hp := prefix_map sub (b :: t)
    rw [List.map_cons] at hp ⊢
    rw [sidx_cons, hp, ih]
    by_cases h : sub.isPrefixOf (b :: t) = true
    · rw [if_pos h, if_pos h]
    · rw [if_neg h, if_neg h]
      simp only [beq_iff_eq]
theorem indexB_sidx (s sub : ByteArray) : Go.Lib.indexB s sub = sidx (bytesOf sub) (bytesOf s) := index_sidx _ _
theorem sidx_one (c : Int) (l : List Int) : sidx [c] l = idx c l := by
  induction l with
  | nil => unfold sidx idx; simp
  | cons b t ih =>
    rw [sidx_cons, ih]
    have : idx c (b :: t) = if b = c then 0 else if idx c t = -1 then -1 else idx c t + 1 := rfl
    rw [this]
    by_cases h : b = c
    · rw [if_pos h, if_pos (by simp [h])]
    · rw [if_neg h, if_neg (by simp; exact fun x => h x.symm)]
theorem sidx_split {sub l : List Int} (h : 0 ≤ sidx sub l) : (sidx sub l).toNat + sub.length ≤ l.length ∧ (l.drop (sidx sub l).toNat).take sub.length = sub := by
  induction l with
  | nil =>
    unfold sidx at h ⊢
    by_cases hs : sub = []
    · subst hs; simp
    · rw [if_neg hs] at h; omega
  | cons b t ih =>
    rw [sidx_cons] at h ⊢
    by_cases hp : sub.isPrefixOf (b :: t) = true
    · rw [if_pos hp]
      have := List.isPrefixOf_iff_prefix.1 hp
      refine ⟨?_, ?_⟩
      · have := this.length_le; simpa using this
      · simpa using (List.prefix_iff_eq_take.1 this).symm
    · rw [if_neg hp] at h ⊢
      by_cases h1 : sidx sub t = -1
      · rw [if_pos h1] at h; omega
      · have hg := sidx_ge sub t
        rw [if_neg h1]
        have := ih (by omega)
        have e : (sidx sub t + 1).toNat = (sidx sub t).toNat + 1 := by omega
        rw [e, List.drop_succ_cons, List.length_cons]
        exact ⟨by omega, this.2⟩
def splitC (c : Int) : List Int → List (List Int)
  | [] => [[]]
  | b :: t => if b = c then [] :: splitC c t else (b :: (splitC c t).headD []) :: (splitC c t).tail
theorem splitC_cons (c b : Int) (t : List Int) : splitC c (b :: t) = if b = c then [] :: splitC c t else (b :: (splitC c t).headD []) :: (splitC c t).tail := rfl
theorem splitC_ne (c : Int) (l : List Int) : splitC c l ≠ [] := by
  cases l with
  | nil => simp [splitC]
  | cons b t => rw [splitC_cons]; split <;> simp
theorem splitC_head (c : Int) (l : List Int) : splitC c l = (splitC c l).headD [] :: (splitC c l).tail := by
  cases h : splitC c l with
  | nil => exact absurd h (splitC_ne c l)
  | cons a r => rfl
theorem splitC_none {c : Int} {l : List Int} (h : c ∉ l) : splitC c l = [l] := by
  induction l with
  | nil => rfl
  | cons b t ih =>
    rw [List.mem_cons, not_or] at h
    rw [splitC_cons, if_neg (fun x => h.1 x.symm), ih h.2]; rfl
theorem splitC_at {c : Int} {a : List Int} (h : c ∉ a) (r : List Int) : splitC c (a ++ c :: r) = a :: splitC c r := by
  induction a with
  | nil => rw [List.nil_append, splitC_cons, if_pos rfl]
  | cons b t ih =>
    rw [List.mem_cons, not_or] at h
    rw [List.cons_append, splitC_cons, if_neg (fun x => h.1 x.symm), ih h.2]; rfl
theorem splitC_len (c : Int) (l : List Int) : (splitC c l).length ≤ l.length + 1 := by
  induction l with
  | nil => simp [splitC]
  | cons b t ih =>
    rw [splitC_cons]
    split
    · simp; omega
    · simp only [List.length_cons, List.length_tail]; omega
theorem splitC_mem {c : Int} {l : List Int} : ∀ p ∈ splitC c l, c ∉ p ∧ (∀ b ∈ p, b ∈ l) ∧ p.length ≤ l.length := by
  induction l with
  | nil => intro p hp; simp [splitC] at hp; subst hp; simp
  | cons b t ih =>
    intro p hp
    rw [splitC_cons] at hp
    by_cases h : b = c
    · rw [if_pos h] at hp
      rcases List.mem_cons.1 hp with rfl | hp
      · simp
      · obtain ⟨h1, h2, h3⟩ := ih p hp
        exact ⟨h1, fun x hx => List.mem_cons_of_mem _ (h2 x hx), by rw [List.length_cons]; omega⟩
    · rw [if_neg h] at hp
      rcases List.mem_cons.1 hp with rfl | hp
      · obtain ⟨h1, h2, h3⟩ := ih ((splitC c t).headD []) (by rw [splitC_head c t]; simp)
        refine ⟨?_, ?_, by simp only [List.length_cons]; omega⟩
        · rw [List.mem_cons, not_or]; exact ⟨fun x => h x.symm, h1⟩
        · intro x hx
          rcases List.mem_cons.1 hx with rfl | hx
          · exact List.mem_cons_self ..
          · exact List.mem_cons_of_mem _ (h2 x hx)
      · obtain ⟨h1, h2, h3⟩ := ih p (List.mem_of_mem_tail hp)
        exact ⟨h1, fun x hx => List.mem_cons_of_mem _ (h2 x hx), by rw [List.length_cons]; omega⟩
theorem splitB_splitC (c : Int) (sep : ByteArray) (hsep : bytesOf sep = [c]) : ∀ (k : Nat) (s : ByteArray), Go.Lib.countB s sep = k → (Go.Lib.splitB sep 0 k s).map bytesOf = splitC c (bytesOf s) := by
  have h1 : sep.size = 1 := by rw [← bytes_len, hsep]; rfl
  intro k
  induction k with
  | zero =>
    intro s hk
    rcases Go.Lib.indexB_cases s sep with hix | ⟨i, hix, hr⟩
    · rw [Go.Lib.splitB_zero, List.map_cons, List.map_nil]
      rw [indexB_sidx, hsep, sidx_one] at hix
      rw [splitC_none (idx_none.1 hix)]
    · have := Go.Lib.countB_hit s sep i (by omega) hix; omega
  | succ k ih =>
    intro s hk
    rcases Go.Lib.indexB_cases s sep with hix | ⟨i, hix, hr⟩
    · rw [Go.Lib.countB_miss s sep hix] at hk; omega
    · have hc := Go.Lib.countB_hit s sep i (by omega) hix
      rw [Go.Lib.splitB_hit sep 0 k s i hix, List.map_cons, ih _ (by omega)]
      rw [indexB_sidx, hsep, sidx_one] at hix
      obtain ⟨e1, e2⟩ := idx_split (c := c) (l := bytesOf s) (by omega)
      rw [hix, Int.toNat_natCast] at e1 e2
      conv => rhs; rw [e1]
      rw [splitC_at e2, bytes_extract, bytes_extract, h1, List.drop_zero, Nat.add_zero]
      rw [← bytes_len, List.take_length]
def dval (l : List Int) : Int := l.foldl (fun n b => 10 * n + (b - 48)) 0
def d8 (l : List Int) : Int :=
  if l.length = 0 ∨ 3 < l.length ∨ (1 < l.length ∧ l.headD 0 = 48) then -1 else if l.all digit then (if dval l ≤ 255 then dval l else -1) else -1
def digs (n : Int) : List Int := if n < 10 then [48 + n] else if n < 100 then [48 + n / 10, 48 + n % 10] else [48 + n / 100, 48 + n / 10 % 10, 48 + n % 10]
theorem digit_iff {b : Int} : digit b = true ↔ 48 ≤ b ∧ b ≤ 57 := by unfold digit; rw [decide_eq_true_iff]
theorem digs_d8 {l : List Int} (h : 0 ≤ d8 l) : digs (d8 l) = l ∧ d8 l ≤ 255 := by
  unfold d8 at h ⊢
  by_cases h1 : l.length = 0 ∨ 3 < l.length ∨ (1 < l.length ∧ l.headD 0 = 48)
  · rw [if_pos h1] at h; omega
  · rw [if_neg h1] at h ⊢
    by_cases h2 : l.all digit = true
    · rw [if_pos h2] at h ⊢
      by_cases h3 : dval l ≤ 255
      · rw [if_pos h3] at h ⊢
        refine ⟨?_, h3⟩
        match l, h1, h2, h3 with
        | [], h1, _, _ => simp at h1
        | [a], h1, h2, h3 =>
          simp only [List.all_cons, List.all_nil, Bool.and_true, digit_iff] at h2
          simp only [dval, List.foldl_cons, List.foldl_nil] at h3 ⊢
          unfold digs
          rw [if_pos (by omega)]
          congr 1; omega
        | [a, b], h1, h2, h3 =>
          simp only [List.all_cons, List.all_nil, Bool.and_true, Bool.and_eq_true, digit_iff] at h2
          simp only [List.length_cons, List.length_nil, List.headD_cons] at h1
          simp only [dval, List.foldl_cons, List.foldl_nil] at h3 ⊢
          unfold digs
          rw [if_neg (by omega), if_pos (by omega)]
          congr 1
          · omega
          · congr 1; omega
        | [a, b, c], h1, h2, h3 =>
          simp only [List.all_cons, List.all_nil, Bool.and_true, Bool.and_eq_true, digit_iff] at h2
          simp only [List.length_cons, List.length_nil, List.headD_cons] at h1
          simp only [dval, List.foldl_cons, List.foldl_nil] at h3 ⊢
          unfold digs
          rw [if_neg (by omega), if_neg (by omega)]
          congr 1
          · omega
          · congr 1
            · omega
            · congr 1; omega
        | _ :: _ :: _ :: _ :: _, h1, _, _ => simp only [List.length_cons] at h1; omega
      · rw [if_neg h3] at h; omega
    · rw [if_neg h2] at h; omega
theorem dval_nonneg {l : List Int} (h : l.all digit = true) : 0 ≤ dval l := by
  have key : ∀ (l : List Int) (n : Int), 0 ≤ n → l.all digit = true → 0 ≤ l.foldl (fun n b => 10 * n + (b - 48)) n := by
    intro l
    induction l with
    | nil => intro n hn _; exact hn
    | cons b t ih =>
      intro n hn h
      rw [List.all_cons, Bool.and_eq_true, digit_iff] at h
      exact ih _ (by show 0 ≤ 10 * n + (b - 48); omega) h.2
  exact key l 0 (by omega) h
theorem d8_range (l : List Int) : -1 ≤ d8 l ∧ d8 l ≤ 255 := by
  by_cases h : 0 ≤ d8 l
  · have := (digs_d8 h).2; omega
  · unfold d8 at h ⊢
    by_cases h1 : l.length = 0 ∨ 3 < l.length ∨ (1 < l.length ∧ l.headD 0 = 48)
    · rw [if_pos h1]; omega
    · rw [if_neg h1] at h ⊢
      by_cases h2 : l.all digit = true
      · rw [if_pos h2] at h ⊢
        by_cases h3 : dval l ≤ 255
        · rw [if_pos h3] at h ⊢
          have key := dval_nonneg h2
          omega
        · rw [if_neg h3]; omega
      · rw [if_neg h2]; omega
def v4 (l : List Int) : Option (Int × Int × Int × Int) :=
  match splitC 46 l with
  | [a, b, c, d] => if 0 ≤ d8 a ∧ 0 ≤ d8 b ∧ 0 ≤ d8 c ∧ 0 ≤ d8 d then some (d8 a, d8 b, d8 c, d8 d) else none
  | _ => none
theorem v4_range {l : List Int} {a b c d : Int} (h : v4 l = some (a, b, c, d)) : (0 ≤ a ∧ a ≤ 255) ∧ (0 ≤ b ∧ b ≤ 255) ∧ (0 ≤ c ∧ c ≤ 255) ∧ 0 ≤ d ∧ d ≤ 255 := by
  unfold v4 at h
  split at h
  · rename_i x y z w _
    split at h
    · simp only [Option.some.injEq, Prod.mk.injEq] at h
      obtain ⟨rfl, rfl, rfl, rfl⟩ := h
      have := d8_range x
      have := d8_range y
      have := d8_range z
      have := d8_range w
      omega
    · cases h
  · cases h
def hval (n : Int) : List Int → Int
  | [] => n
  | b :: t => hval (16 * n + hv b) t
def word (l : List Int) : Int := if l.length = 0 ∨ 4 < l.length then -1 else if l.all hexd then hval 0 l else -1
theorem hval_range : ∀ (l : List Int) (n m : Int), l.all hexd = true → 0 ≤ n → n < m → 0 ≤ hval n l ∧ hval n l < m * 16 ^ l.length := by
  intro l
  induction l with
  | nil => intro n m _ h0 h1; simp [hval]; omega
  | cons b t ih =>
    intro n m h h0 h1
    rw [List.all_cons, Bool.and_eq_true, ← hv_hexd] at h
    have hr := hv_range b
    have := ih (16 * n + hv b) (16 * m) h.2 (by omega) (by omega)
    refine ⟨this.1, Int.lt_of_lt_of_le this.2 ?_⟩
    rw [List.length_cons, Int.pow_succ]
    have : 16 * m * 16 ^ t.length = m * (16 ^ t.length * 16) := by
      rw [Int.mul_comm 16 m, Int.mul_assoc, Int.mul_comm 16]
    omega
def words (fin : Bool) : List (List Int) → Option (List Int)
  | [] => some []
  | p :: r => if r = [] ∧ fin = true ∧ (v4 p).isSome then (v4 p).map fun x => [256 * x.1 + x.2.1, 256 * x.2.2.1 + x.2.2.2]
    else if word p < 0 then none else (words fin r).map fun l => word p :: l
theorem words_cons (fin : Bool) (p : List Int) (r : List (List Int)) : words fin (p :: r) = if r = [] ∧ fin = true ∧ (v4 p).isSome then (v4 p).map fun x => [256 * x.1 + x.2.1, 256 * x.2.2.1 + x.2.2.2]
    else if word p < 0 then none else (words fin r).map fun l => word p :: l := rfl
theorem words_len {fin : Bool} {r : List (List Int)} {l : List Int} (h : words fin r = some l) : l.length ≤ r.length + 1 := by
  induction r generalizing l with
  | nil => simp [words] at h; subst h; simp
  | cons p r ih =>
    rw [words_cons] at h
    split at h
    · obtain ⟨x, _, rfl⟩ := Option.map_eq_some_iff.1 h
      simp
    · split at h
      · cases h
      · obtain ⟨x, hx, rfl⟩ := Option.map_eq_some_iff.1 h
        have := ih hx
        simp only [List.length_cons]; omega
def rowS (fin : Bool) (l : List Int) : Option (List Int) := if l = [] then some [] else words fin (splitC 58 l)
def v6 (l : List Int) : Option (List Int) :=
  if sidx [58, 58] l < 0 then (rowS true l).bind fun w => if w.length = 8 then some w else none
  else (rowS false (l.take (sidx [58, 58] l).toNat)).bind fun a => (rowS true (l.drop ((sidx [58, 58] l).toNat + 2))).bind fun b =>
    if a.length + b.length ≤ 7 then some (a ++ List.replicate (8 - a.length - b.length) 0 ++ b) else none
def fut : List Int → Bool
  | [] => false
  | v :: t => (v == 118 || v == 86) && decide (0 < spanp hexd t) && decide (2 ≤ (t.drop (spanp hexd t)).length) && ((t.drop (spanp hexd t)).headD 0 == 46) && ((t.drop (spanp hexd t)).tail.all fun b => plainAt 1 b)
def brack (l : List Int) : Bool := decide (2 ≤ l.length) && (l.headD 0 == 91) && (l.getLastD 0 == 93)
def hostK (iri : Bool) (l : List Int) : Int :=
  if brack l then (if (v6 ((l.take (l.length - 1)).drop 1)).isSome || fut ((l.take (l.length - 1)).drop 1) then 3 else 0)
  else if (v4 l).isSome then 1 else if allAt 2 iri l then 2 else 0
end Go.Proofs.YtpmflpeckoeooaaDoor.M
namespace Go.Proofs.YtpmflpeckoeooaaDoor.Y
open Go.RowKit Go.Proofs.YtpmflpeckoeooaaDoor.X Go.Proofs.YtpmflpeckoeooaaDoor.M Go.Proofs.YtpmflpeckoeooaaDoorW.PrintWords Go.Proofs.YtpmflpeckoeooaaDoorW.PrintLast Go.Proofs.YtpmflpeckoeooaaDoorW.PrintMore
set_option linter.unusedVariables false
theorem split_f (s sep : ByteArray) (c : Int) (hsep : bytesOf sep = [c]) (hs : s.size < 4294967281) : ∃ R : List ByteArray, strings_Split.f s sep = some R ∧ R.map bytesOf = splitC c (bytesOf s) := by
  have h1 : sep.size = 1 := by rw [← bytes_len, hsep]; rfl
  refine ⟨_, ?_, splitB_splitC c sep hsep _ s rfl⟩
  unfold strings_Split.f
  rw [if_pos ⟨hs, by omega⟩]
theorem strCut_f (s sep : ByteArray) (hs : s.size < 4294967281) (h1 : sep.size ≤ 1000) : strings_Cut.f s sep = some (if sidx (bytesOf sep) (bytesOf s) < 0 then (s, (⟨#[]⟩ : ByteArray), false)
    else (s.extract 0 (sidx (bytesOf sep) (bytesOf s)).toNat, s.extract ((sidx (bytesOf sep) (bytesOf s)).toNat + sep.size) s.size, true)) := by
  unfold strings_Cut.f stringslite_Cut.f stringslite_Index.f
  rw [if_pos hs]
  have e : Go.Lib.index s.data.toList sep.data.toList = sidx (bytesOf sep) (bytesOf s) := index_sidx _ _
  rw [e]
  simp only [Option.bind_some]
  by_cases h : sidx (bytesOf sep) (bytesOf s) < 0
  · rw [if_neg (by omega), if_pos h]; rfl
  · have hsp := sidx_split (sub := bytesOf sep) (l := bytesOf s) (by omega)
    rw [bytes_len, bytes_len] at hsp
    rw [if_pos (by omega), if_pos (by omega), if_pos (by omega), w64 (by omega) (by omega), if_pos (by omega), if_pos (by omega), if_neg h]
    simp only [Option.bind_some]
    have : (sidx (bytesOf sep) (bytesOf s) + (sep.size : Int)).toNat = (sidx (bytesOf sep) (bytesOf s)).toNat + sep.size := by omega
    rw [this]
theorem rdOf_map {R : List ByteArray} {L : List (List Int)} (h : R.map bytesOf = L) (i : Nat) : bytesOf (rdOf ByteArray.empty R (i : Int)) = L.getD i [] := by
  subst h
  unfold rdOf
  rw [Int.toNat_natCast, List.getD_eq_getElem?_getD, List.getD_eq_getElem?_getD, List.getElem?_map]
  cases R[i]? with
  | none => rfl
  | some x => rfl
def p10 : Nat → Int
  | 0 => 1
  | 1 => 10
  | 2 => 100
  | _ => 1000
theorem p10_step {i : Nat} (hi : i < 3) {n b : Int} (h0 : 0 ≤ n) (h1 : n < p10 i) (b0 : 48 ≤ b) (b1 : b ≤ 57) : 0 ≤ 10 * n + (b - 48) ∧ 10 * n + (b - 48) < p10 (i + 1) ∧ n ≤ 1000 := by
  rcases i with _ | _ | _ | i
  · simp only [p10] at *; omega
  · simp only [p10] at *; omega
  · simp only [p10] at *; omega
  · omega
theorem decimal_l0 (s : ByteArray) (h3 : s.size ≤ 3) : ∀ d i : Nat, ∀ n : Int, i + d = s.size → 0 ≤ n → n < p10 i → Ev (fun k => ip_decimal.l0 k s n (s.size : Int) (i : Int))
    (if ((bytesOf s).drop i).all digit then (((bytesOf s).drop i).foldl (fun n b => 10 * n + (b - 48)) n % 256, decide (((bytesOf s).drop i).foldl (fun n b => 10 * n + (b - 48)) n ≤ 255)) else (0, false)) := by
  intro d
  induction d with
  | zero =>
    intro i n hi _ _
    rw [List.drop_of_length_le (by rw [bytes_len]; omega)]
    refine Ev.step (fun k => by rw [ip_decimal.l0]) ?_
    exact Ev.ite_neg (by omega) (Ev.now _)
  | succ d ih =>
    intro i n hi h0 h1
    rcases at_or_end s i (by omega) with ⟨h, _⟩ | ⟨h, e, b0, b1⟩
    · omega
    refine Ev.step (fun k => by rw [ip_decimal.l0]) ?_
    refine Ev.ite_pos (by omega) (Ev.ite_pos (by omega) (Ev.ite_pos (by omega) (Ev.bind' (is_f 2 b0 b1) ?_)))
    rw [e, isc_digit b0 b1, List.all_cons, List.foldl_cons]
    cases hd : digit (bt s (i : Int))
    · refine Ev.ite_neg (by simp) (Ev.val (by simp))
    · refine Ev.ite_pos rfl ?_
      have hb := digit_iff.1 hd
      have hst := p10_step (i := i) (by omega) h0 h1 hb.1 hb.2
      have e1 : wrap64 (wrap64 (10 * n) + (bt s (i : Int) - 48) % 256) = 10 * n + (bt s (i : Int) - 48) := by
        rw [w64 (x := 10 * n) (by omega) (by omega), w64 (by omega) (by omega)]; omega
      rw [e1, w64 (by omega) (by omega)]
      simp only [Bool.true_and]
      exact ih (i + 1) _ (by omega) hst.1 hst.2.1
theorem decimal_f (s : ByteArray) (hs : s.size ≤ 140737488351232) : ∃ n : Int, Ev (fun k => ip_decimal.f k s) (n, decide (0 ≤ d8 (bytesOf s))) ∧ (0 ≤ d8 (bytesOf s) → n = d8 (bytesOf s)) := by
  have bad : (bytesOf s).length = 0 ∨ 3 < (bytesOf s).length ∨ (1 < (bytesOf s).length ∧ (bytesOf s).headD 0 = 48) → Ev (fun k => ip_decimal.j0 k s true) (0, decide (0 ≤ d8 (bytesOf s))) ∧ ¬ 0 ≤ d8 (bytesOf s) := by
    intro h
    have hd : d8 (bytesOf s) = -1 := by unfold d8; rw [if_pos h]
    rw [hd]
    refine ⟨?_, by omega⟩
    refine Ev.step (fun k => by rw [ip_decimal.j0]) ?_
    exact Ev.ite_pos rfl (Ev.now _)
  have hh : 0 < s.size → (bytesOf s).headD 0 = bt s 0 := by
    intro h
    rcases at_begin s with ⟨h2, _⟩ | ⟨_, e, _⟩
    · omega
    · rw [e]; rfl
  by_cases hb : (bytesOf s).length = 0 ∨ 3 < (bytesOf s).length ∨ (1 < (bytesOf s).length ∧ (bytesOf s).headD 0 = 48)
  · obtain ⟨h1, h2⟩ := bad hb
    refine ⟨0, ?_, fun h => absurd h h2⟩
    unfold ip_decimal.f
    rw [bytes_len] at hb
    refine Ev.ite (fun _ => h1) (fun _ => Ev.ite (fun _ => h1) (fun _ => Ev.ite (fun _ => Ev.ite_pos (by omega) ?_) (fun _ => by omega)))
    have : (bt s 0 == 48) = true := by
      rw [beq_iff_eq, ← hh (by omega)]
      omega
    rw [this]
    exact h1
  · have hb2 := hb
    rw [bytes_len] at hb
    have good : Ev (fun k => ip_decimal.j0 k s false) (if (bytesOf s).all digit then (dval (bytesOf s) % 256, decide (dval (bytesOf s) ≤ 255)) else (0, false)) := by
      refine Ev.step (fun k => by rw [ip_decimal.j0]) ?_
      refine Ev.ite_neg (by simp) ?_
      exact decimal_l0 s (by omega) s.size 0 0 (by omega) (by omega) (by decide)
    have all : Ev (fun k => ip_decimal.f k s) (if (bytesOf s).all digit then (dval (bytesOf s) % 256, decide (dval (bytesOf s) ≤ 255)) else (0, false)) := by
      unfold ip_decimal.f
      refine Ev.ite_neg (by omega) (Ev.ite_neg (by omega) (Ev.ite (fun _ => Ev.ite_pos (by omega) ?_) (fun _ => good)))
      have : (bt s 0 == 48) = false := by
        rw [beq_eq_false_iff_ne, ← hh (by omega)]
        intro h
        omega
      rw [this]
      exact good
    have hr := d8_range (bytesOf s)
    unfold d8 at hr ⊢
    rw [if_neg hb2] at hr ⊢
    cases ha : (bytesOf s).all digit
    · rw [ha] at all
      exact ⟨0, all, by simp⟩
    · rw [ha] at all
      by_cases h255 : dval (bytesOf s) ≤ 255
      · rw [if_pos h255] at hr ⊢
        simp only [if_true] at hr all ⊢
        have h0 := dval_nonneg ha
        rw [decide_eq_true h255] at all
        refine ⟨dval (bytesOf s) % 256, ?_, fun _ => by omega⟩
        rw [decide_eq_true h0]
        exact all
      · rw [decide_eq_false h255] at all
        rw [if_neg h255]
        exact ⟨_, all, by simp⟩
def v4T (l : List Int) : Int × Int × Int × Int × Bool := match v4 l with
  | some (a, b, c, d) => (a, b, c, d, true)
  | none => (0, 0, 0, 0, false)
theorem v4T_ok (l : List Int) : (v4T l).2.2.2.2 = (v4 l).isSome := by
  unfold v4T
  cases v4 l with
  | none => rfl
  | some x => obtain ⟨a, b, c, d⟩ := x; rfl
theorem v4_four (l a b c d : List Int) (h : splitC 46 l = [a, b, c, d]) : v4 l = if 0 ≤ d8 a ∧ 0 ≤ d8 b ∧ 0 ≤ d8 c ∧ 0 ≤ d8 d then some (d8 a, d8 b, d8 c, d8 d) else none := by
  unfold v4; rw [h]
theorem v4_other (l : List Int) (h : (splitC 46 l).length ≠ 4) : v4 l = none := by
  unfold v4
  split
  · rename_i e; rw [e] at h; simp at h
  · rfl
theorem v4_step (R : List ByteArray) (i : Nat) (hi : i < R.length) (p : ByteArray) (hp : rdOf ByteArray.empty R (i : Int) = p) (hsz : p.size ≤ 140737488351232) (h4 : i < 4) (a b c d : Int) (r : Int × Int × Int × Int × Bool)
    (bad : ¬ 0 ≤ d8 (bytesOf p) → r = (0, 0, 0, 0, false))
    (good : 0 ≤ d8 (bytesOf p) → Ev (fun k => ip_V4.l0 k R (R.length : Int) ((i : Int) + 1) (if i = 0 then d8 (bytesOf p) else a) (if i = 1 then d8 (bytesOf p) else b) (if i = 2 then d8 (bytesOf p) else c) (if i = 3 then d8 (bytesOf p) else d)) r) :
    Ev (fun k => ip_V4.l0 k R (R.length : Int) (i : Int) a b c d) r := by
  obtain ⟨n, h1, h2⟩ := decimal_f p hsz
  refine Ev.step (fun k => by rw [ip_V4.l0]) ?_
  rw [hp]
  refine Ev.ite_pos (by omega) (Ev.ite_pos (by omega) (Ev.ite_pos (by omega) (Ev.bind' h1 ?_)))
  simp only
  by_cases hd : 0 ≤ d8 (bytesOf p)
  · rw [decide_eq_true hd]
    rw [h2 hd, w64 (by omega) (by omega)]
    have g := good hd
    refine Ev.ite_pos rfl ?_
    have : i = 0 ∨ i = 1 ∨ i = 2 ∨ i = 3 := by omega
    rcases this with rfl | rfl | rfl | rfl
    · exact Ev.ite_pos (by omega) g
    · exact Ev.ite_neg (by omega) (Ev.ite_pos (by omega) g)
    · exact Ev.ite_neg (by omega) (Ev.ite_neg (by omega) (Ev.ite_pos (by omega) g))
    · exact Ev.ite_neg (by omega) (Ev.ite_neg (by omega) (Ev.ite_neg (by omega) (Ev.ite_pos (by omega) g)))
  · rw [decide_eq_false hd]
    exact Ev.ite_neg (by simp) (Ev.val (bad hd).symm)
theorem four_of {α : Type} {R : List α} (h : R.length = 4) : ∃ a b c d, R = [a, b, c, d] := by
  match R, h with
  | [a, b, c, d], _ => exact ⟨a, b, c, d, rfl⟩
theorem part_size {R : List ByteArray} {c : Int} {l : List Int} (h : R.map bytesOf = splitC c l) {p : ByteArray} (hp : p ∈ R) : p.size ≤ l.length := by
  rw [← bytes_len]
  exact (splitC_mem (c := c) (l := l) _ (by rw [← h]; exact List.mem_map.2 ⟨p, hp, rfl⟩)).2.2
theorem v4_f (s : ByteArray) (hs : s.size ≤ 1000000) : Ev (fun k => ip_V4.f k s) (v4T (bytesOf s)) := by
  obtain ⟨R, hR, hL⟩ := split_f s (⟨#[46]⟩ : ByteArray) 46 rfl (by omega)
  unfold ip_V4.f
  refine Ev.pure_bind hR ?_
  have hlen : R.length = (splitC 46 (bytesOf s)).length := by rw [← hL, List.length_map]
  by_cases h4 : R.length = 4
  · refine Ev.ite_pos (by omega) ?_
    obtain ⟨a, b, c, d, rfl⟩ := four_of h4
    have hsz : ∀ p ∈ [a, b, c, d], p.size ≤ 140737488351232 := fun p hp => by have := part_size hL hp; rw [bytes_len] at this; omega
    have hv := v4_four (bytesOf s) _ _ _ _ (by rw [← hL]; rfl)
    have badv : ¬ (0 ≤ d8 (bytesOf a) ∧ 0 ≤ d8 (bytesOf b) ∧ 0 ≤ d8 (bytesOf c) ∧ 0 ≤ d8 (bytesOf d)) → v4T (bytesOf s) = (0, 0, 0, 0, false) := by
      intro h
      unfold v4T
      rw [hv, if_neg h]
    refine v4_step [a, b, c, d] 0 (by simp) a rfl (hsz a (by simp)) (by omega) 0 0 0 0 _ (fun h => badv (fun x => h x.1)) (fun ha => ?_)
    refine v4_step [a, b, c, d] 1 (by simp) b rfl (hsz b (by simp)) (by omega) _ _ _ _ _ (fun h => badv (fun x => h x.2.1)) (fun hb => ?_)
    refine v4_step [a, b, c, d] 2 (by simp) c rfl (hsz c (by simp)) (by omega) _ _ _ _ _ (fun h => badv (fun x => h x.2.2.1)) (fun hc => ?_)
    refine v4_step [a, b, c, d] 3 (by simp) d rfl (hsz d (by simp)) (by omega) _ _ _ _ _ (fun h => badv (fun x => h x.2.2.2)) (fun hd => ?_)
    refine Ev.step (fun k => by rw [ip_V4.l0]) ?_
    refine Ev.ite_neg (by simp) (Ev.val ?_)
    rw [if_pos ⟨ha, hb, hc, hd⟩] at hv
    unfold v4T
    rw [hv]
    simp
  · refine Ev.ite_neg (by omega) (Ev.val ?_)
    unfold v4T
    rw [v4_other _ (by omega)]
theorem wraps_u16 (n : Int) (h0 : 0 ≤ n) (h1 : n < 2 ^ 16) : IntKind.u16.wrap n = n := by
  simp [IntKind.wrap, IntKind.bits, IntKind.signed]
  omega
theorem wraps_i64 (n : Int) (h0 : 0 ≤ n) (h1 : n < 2 ^ 62) : IntKind.i64.wrap n = n := by
  rw [IntKind.wrap_i64]; omega
theorem u16_pair {a b : Int} (a0 : 0 ≤ a) (a1 : a ≤ 255) (b0 : 0 ≤ b) (b1 : b ≤ 255) : Go.bits .or .u16 (IntKind.u16.wrap (IntKind.u16.wrap a * 256)) (IntKind.u16.wrap b) = 256 * a + b := by
  rw [wraps_u16 a a0 (by omega), wraps_u16 (a * 256) (by omega) (by omega), wraps_u16 b b0 (by omega)]
  rw [bits_join .u16 16 (by decide) wraps_u16 8 (a * 256) b (by omega) (by omega) (by omega) (by omega) (by omega) (by omega)]
  omega
theorem i64_hex {a b : Int} (a0 : 0 ≤ a) (a1 : a ≤ 1000000) (b0 : 0 ≤ b) (b1 : b ≤ 15) : Go.bits .or .i64 (wrap64 (a * 16)) b = 16 * a + b := by
  rw [w64 (by omega) (by omega), bits_join .i64 62 (by decide) wraps_i64 4 (a * 16) b (by omega) (by omega) (by omega) (by omega) (by omega) (by omega)]
  omega
def p16 : Nat → Int
  | 0 => 1
  | 1 => 16
  | 2 => 256
  | 3 => 4096
  | _ => 65536
theorem p16_step {i : Nat} (hi : i < 4) {n b : Int} (h0 : 0 ≤ n) (h1 : n < p16 i) (b0 : 0 ≤ b) (b1 : b ≤ 15) : 0 ≤ 16 * n + b ∧ 16 * n + b < p16 (i + 1) ∧ n ≤ 65536 := by
  rcases i with _ | _ | _ | _ | i
  · simp only [p16] at *; omega
  · simp only [p16] at *; omega
  · simp only [p16] at *; omega
  · simp only [p16] at *; omega
  · omega
theorem word_l0 (s : ByteArray) (h4 : s.size ≤ 4) : ∀ d i : Nat, ∀ n : Int, i + d = s.size → 0 ≤ n → n < p16 i → Ev (fun k => ip_word.l0 k s n (s.size : Int) (i : Int))
    (if ((bytesOf s).drop i).all hexd then (hval n ((bytesOf s).drop i), true) else (0, false)) := by
  intro d
  induction d with
  | zero =>
    intro i n hi h0 h1
    rw [List.drop_of_length_le (by rw [bytes_len]; omega)]
    refine Ev.step (fun k => by rw [ip_word.l0]) ?_
    refine Ev.ite_neg (by omega) (Ev.val ?_)
    have : n < 65536 := by
      have h := h1
      have : i ≤ 4 := by omega
      rcases i with _ | _ | _ | _ | _ | i
      all_goals (first | omega | (simp only [p16] at h; omega))
    rw [wraps_u16 n h0 (by omega)]
    rfl
  | succ d ih =>
    intro i n hi h0 h1
    rcases at_or_end s i (by omega) with ⟨h, _⟩ | ⟨h, e, b0, b1⟩
    · omega
    refine Ev.step (fun k => by rw [ip_word.l0]) ?_
    refine Ev.ite_pos (by omega) (Ev.ite_pos (by omega) (Ev.ite_pos (by omega) (Ev.bind' (value_f b0 b1) ?_)))
    rw [e, List.all_cons]
    have hr := hv_range (bt s (i : Int))
    by_cases hv0 : hv (bt s (i : Int)) < 0
    · simp only [if_pos hv0]
      rw [(hv_neg _).1 hv0]
      exact Ev.ite_neg (by simp) (Ev.val (by simp))
    · simp only [if_neg hv0]
      rw [(hv_hexd _).1 (by omega)]
      refine Ev.ite_pos (by simp) ?_
      have hst := p16_step (i := i) (by omega) h0 h1 (b := hv (bt s (i : Int))) (by omega) (by omega)
      rw [i64_hex h0 (by omega) (by omega) (by omega), w64 (by omega) (by omega)]
      simp only [Bool.true_and, hval]
      exact ih (i + 1) _ (by omega) hst.1 hst.2.1
theorem word_f (s : ByteArray) (hs : s.size ≤ 140737488351232) : Ev (fun k => ip_word.f k s) (if word (bytesOf s) < 0 then (0, false) else (word (bytesOf s), true)) := by
  have hb := hval_range (bytesOf s) 0 1
  have bad : (bytesOf s).length = 0 ∨ 4 < (bytesOf s).length → Ev (fun k => ip_word.j0 k s true) (if word (bytesOf s) < 0 then (0, false) else (word (bytesOf s), true)) := by
    intro h
    have : word (bytesOf s) = -1 := by unfold word; rw [if_pos h]
    rw [this]
    refine Ev.step (fun k => by rw [ip_word.j0]) ?_
    exact Ev.ite_pos rfl (Ev.now _)
  unfold ip_word.f
  have hl := bytes_len s
  refine Ev.ite (fun h => bad (by omega)) (fun h => ?_)
  by_cases h4 : (s.size : Int) > 4
  · rw [decide_eq_true h4]
    exact bad (by omega)
  · rw [decide_eq_false h4]
    refine Ev.step (fun k => by rw [ip_word.j0]) ?_
    refine Ev.ite_neg (by simp) ?_
    have := word_l0 s (by omega) s.size 0 0 (by omega) (by omega) (by decide)
    rw [List.drop_zero] at this
    have e : (if word (bytesOf s) < 0 then ((0 : Int), false) else (word (bytesOf s), true)) = (if (bytesOf s).all hexd then (hval 0 (bytesOf s), true) else (0, false)) := by
      have hw : word (bytesOf s) = if (bytesOf s).all hexd then hval 0 (bytesOf s) else -1 := by
        unfold word
        rw [if_neg (by omega)]
      rw [hw]
      by_cases ha : (bytesOf s).all hexd = true
      · have := hb ha (by omega) (by omega)
        simp only [if_pos ha]
        rw [if_neg (by omega)]
      · simp only [if_neg ha]
        rw [if_pos (by omega)]
    rw [e]
    exact this
def wordsT (out : List Int) : Option (List Int) → List Int × Bool
  | some w => (out ++ w, true)
  | none => ([], false)
theorem getD_drop {α : Type} {L : List α} {i : Nat} (h : i < L.length) (z : α) : L.drop i = L.getD i z :: L.drop (i + 1) := by
  rw [List.drop_eq_getElem_cons h, List.getD_eq_getElem?_getD, List.getElem?_eq_getElem h]; rfl
theorem drop_last {α : Type} {L : List α} {i : Nat} (h : i < L.length) : L.drop (i + 1) = [] ↔ i + 1 = L.length := by
  rw [List.drop_eq_nil_iff]; omega
theorem words_l0 (fin : Bool) (R : List ByteArray) (L : List (List Int)) (hL : R.map bytesOf = L) (hp : ∀ p ∈ R, p.size ≤ 1000000) (hR : R.length ≤ 1000001) : ∀ d i : Nat, i + d = R.length → ∀ out : List Int, out.length ≤ i →
    Ev (fun k => ip_words.l0 k fin out R R (R.length : Int) (i : Int)) (wordsT out (words fin (L.drop i))) := by
  have hlen : L.length = R.length := by rw [← hL, List.length_map]
  intro d
  induction d with
  | zero =>
    intro i hi out ho
    rw [List.drop_of_length_le (by omega)]
    refine Ev.step (fun k => by rw [ip_words.l0]) ?_
    exact Ev.ite_neg (by omega) (Ev.val (by simp [words, wordsT]))
  | succ d ih =>
    intro i hi out ho
    have hmem : rdOf ByteArray.empty R (i : Int) ∈ R := by
      unfold rdOf
      rw [Int.toNat_natCast, List.getD_eq_getElem?_getD, List.getElem?_eq_getElem (by omega)]
      exact List.getElem_mem _
    have hq := rdOf_map hL i
    refine Ev.step (fun k => by rw [ip_words.l0]) ?_
    refine Ev.ite_pos (by omega) (Ev.ite_pos (by omega) (Ev.ite_pos (by omega) (Ev.bind' (v4_f _ (hp _ hmem)) ?_)))
    rw [hq, getD_drop (L := L) (i := i) (by omega) [], words_cons, v4T_ok]
    have last : ∀ x : ByteArray, bytesOf x = L.getD i [] → x.size ≤ 1000000 → ∀ a b c e : Int, ¬ (L.drop (i + 1) = [] ∧ fin = true ∧ (v4 (L.getD i [])).isSome = true) →
        Ev (fun k => ip_words.j1 k fin out R x R (R.length : Int) (i : Int) false a b c e) (wordsT out (if L.drop (i + 1) = [] ∧ fin = true ∧ (v4 (L.getD i [])).isSome = true then (v4 (L.getD i [])).map fun x => [256 * x.1 + x.2.1, 256 * x.2.2.1 + x.2.2.2] else if word (L.getD i []) < 0 then none else (words fin (L.drop (i + 1))).map fun l => word (L.getD i []) :: l)) := by
      intro x hx hxs a b c e hno
      rw [if_neg hno]
      refine Ev.step (fun k => by rw [ip_words.j1]) ?_
      refine Ev.ite_neg (by simp) (Ev.bind' (word_f x (by omega)) ?_)
      rw [hx]
      by_cases hw : word (L.getD i []) < 0
      · simp only [if_pos hw]
        exact Ev.ite_neg (by simp) (Ev.now _)
      · simp only [if_neg hw]
        refine Ev.ite_pos (by simp) (Ev.ite_pos (by omega) ?_)
        rw [w64 (by omega) (by omega)]
        have := ih (i + 1) (by omega) (out ++ [word (L.getD i [])]) (by rw [List.length_append, List.length_singleton]; omega)
        have e2 : wordsT (out ++ [word (L.getD i [])]) (words fin (L.drop (i + 1))) = wordsT out ((words fin (L.drop (i + 1))).map fun l => word (L.getD i []) :: l) := by
          cases words fin (L.drop (i + 1)) with
          | none => rfl
          | some w => simp [wordsT]
        rw [← e2]
        exact this
    refine Ev.ite (fun h4 => ?_) (fun h4 => last _ hq (hp _ hmem) _ _ _ _ (fun x => h4 x.2.2))
    refine Ev.ite (fun hf => ?_) (fun hf => last _ hq (hp _ hmem) _ _ _ _ (fun x => hf x.2.1))
    rw [w64 (by omega) (by omega)]
    by_cases hend : i + 1 = R.length
    · have : ((i : Int) == (R.length : Int) - 1) = true := by rw [beq_iff_eq]; omega
      rw [this, if_pos ⟨(drop_last (by omega)).2 (by omega), hf, h4⟩]
      refine Ev.step (fun k => by rw [ip_words.j1]) ?_
      refine Ev.ite_pos rfl ?_
      obtain ⟨⟨a, b, c, e⟩, hx⟩ := Option.isSome_iff_exists.1 h4
      have hr := v4_range hx
      rw [hx]
      unfold v4T
      rw [hx]
      simp only
      rw [u16_pair hr.1.1 hr.1.2 hr.2.1.1 hr.2.1.2, u16_pair hr.2.2.1.1 hr.2.2.1.2 hr.2.2.2.1 hr.2.2.2.2]
      refine Ev.pure_bind rfl (Ev.ite_pos (by simp only [List.length_cons, List.length_nil]; omega) (Ev.val ?_))
      rfl
    · have : ((i : Int) == (R.length : Int) - 1) = false := by rw [beq_eq_false_iff_ne]; omega
      rw [this]
      exact last _ hq (hp _ hmem) _ _ _ _ (fun x => hend (by have := (drop_last (L := L) (i := i) (by omega)).1 x.1; omega))
theorem empty_iff (s : ByteArray) : s.toList = ([] : List UInt8) ↔ bytesOf s = [] := by
  rw [toList_data]
  unfold bytesOf
  exact List.map_eq_nil_iff.symm
theorem words_f (s : ByteArray) (fin : Bool) (hs : s.size ≤ 1000000) : Ev (fun k => ip_words.f k s fin) (wordsT [] (rowS fin (bytesOf s))) := by
  unfold ip_words.f rowS
  refine Ev.ite (fun h => ?_) (fun h => ?_)
  · rw [if_pos ((empty_iff s).1 h)]
    exact Ev.val rfl
  · rw [if_neg (fun x => h ((empty_iff s).2 x))]
    obtain ⟨R, hR, hL⟩ := split_f s (⟨#[58]⟩ : ByteArray) 58 rfl (by omega)
    refine Ev.pure_bind hR ?_
    have hlen := splitC_len 58 (bytesOf s)
    rw [← hL, List.length_map, bytes_len] at hlen
    have := words_l0 fin R _ hL (fun p hp => by have := part_size hL hp; rw [bytes_len] at this; omega) (by omega) R.length 0 (by omega) [] (by simp)
    rw [List.drop_zero] at this
    exact this
end Go.Proofs.YtpmflpeckoeooaaDoor.Y
namespace Go.Proofs.YtpmflpeckoeooaaDoor.Y
open Go.RowKit Go.Proofs.YtpmflpeckoeooaaDoor.X Go.Proofs.YtpmflpeckoeooaaDoor.M Go.Proofs.YtpmflpeckoeooaaDoorW.PrintWords Go.Proofs.YtpmflpeckoeooaaDoorW.PrintLast Go.Proofs.YtpmflpeckoeooaaDoorW.PrintMore
set_option linter.unusedVariables false
set_option linter.unusedSimpArgs false
def tup8 (l : List Int) (b : Bool) : Int × Int × Int × Int × Int × Int × Int × Int × Bool := (l.getD 0 0, l.getD 1 0, l.getD 2 0, l.getD 3 0, l.getD 4 0, l.getD 5 0, l.getD 6 0, l.getD 7 0, b)
def zeros8 : List Int := [0, 0, 0, 0, 0, 0, 0, 0]
def v6T (l : List Int) : Int × Int × Int × Int × Int × Int × Int × Int × Bool := match v6 l with
  | some w => tup8 w true
  | none => tup8 zeros8 false
theorem v6T_ok (l : List Int) : (v6T l).2.2.2.2.2.2.2.2 = (v6 l).isSome := by
  unfold v6T
  cases v6 l <;> rfl
theorem put_all (p : List Int) (h : p.length = 8) : ip_V6_put ip_V6_zeros 0 p 8 = p := by
  unfold ip_V6_put ip_V6_zeros
  rw [← h, List.take_length, h]
  simp
theorem put_both (a b : List Int) (h : a.length + b.length ≤ 7) : ip_V6_put (ip_V6_put ip_V6_zeros 0 a 8) (8 - b.length) b b.length = a ++ List.replicate (8 - a.length - b.length) 0 ++ b := by
  have hz : ip_V6_zeros = List.replicate 8 0 := rfl
  unfold ip_V6_put
  rw [hz]
  have e1 : a.take 8 = a := List.take_of_length_le (by omega)
  rw [e1, List.take_length]
  simp only [List.take_zero, List.nil_append, Nat.zero_add]
  rw [List.drop_replicate, List.take_append]
  have e2 : a.take (8 - b.length) = a := List.take_of_length_le (by omega)
  rw [e2, List.take_replicate]
  have e3 : (a ++ List.replicate (8 - a.length) 0).drop (8 - b.length + b.length) = ([] : List Int) := by
    apply List.drop_of_length_le
    rw [List.length_append, List.length_replicate]; omega
  rw [e3, List.append_nil, show min (8 - b.length - a.length) (8 - a.length) = 8 - a.length - b.length by omega]
theorem v6_f (s : ByteArray) (hs : s.size ≤ 1000000) : Ev (fun k => ip_V6.f k s) (v6T (bytesOf s)) := by
  unfold ip_V6.f
  have hc := strCut_f s (⟨#[58, 58]⟩ : ByteArray) (by omega) (by decide)
  have hb : bytesOf (⟨#[58, 58]⟩ : ByteArray) = [58, 58] := rfl
  have hz : (⟨#[58, 58]⟩ : ByteArray).size = 2 := rfl
  rw [hb, hz] at hc
  refine Ev.pure_bind hc ?_
  by_cases hneg : sidx [58, 58] (bytesOf s) < 0
  · simp only [if_pos hneg]
    refine Ev.bind' (words_f s _ hs) ?_
    simp only [Bool.not_false]
    unfold v6T v6
    rw [if_pos hneg]
    cases hr : rowS true (bytesOf s) with
    | none => exact Ev.ite_pos rfl (Ev.val rfl)
    | some w =>
      refine Ev.ite_neg (by simp [wordsT]) (Ev.ite_pos (by simp) ?_)
      simp only [wordsT, List.nil_append, Option.bind_some]
      refine Ev.ite (fun h => ?_) (fun h => ?_)
      · rw [if_pos h, put_all w h]
        exact Ev.val rfl
      · rw [if_neg h]
        exact Ev.val rfl
  · simp only [if_neg hneg]
    have hsp := sidx_split (sub := [58, 58]) (l := bytesOf s) (by omega)
    simp only [List.length_cons, List.length_nil, bytes_len] at hsp
    unfold v6T v6
    rw [if_neg hneg]
    generalize (sidx [58, 58] (bytesOf s)).toNat = j at hsp ⊢
    have h1 := words_f (s.extract 0 j) (!true) (by rw [← bytes_len, bytes_extract, List.length_drop, List.length_take, bytes_len]; omega)
    have h2 := words_f (s.extract (j + 2) s.size) true (by rw [← bytes_len, bytes_extract, List.length_drop, List.length_take, bytes_len]; omega)
    rw [bytes_extract, List.drop_zero] at h1
    rw [bytes_from] at h2
    simp only [Bool.not_true] at h1 ⊢
    refine Ev.bind' h1 ?_
    cases ha : rowS false ((bytesOf s).take j) with
    | none => exact Ev.ite_pos rfl (Ev.val rfl)
    | some a =>
      refine Ev.ite_neg (by simp [wordsT]) (Ev.ite_neg (by simp) (Ev.bind' h2 ?_))
      simp only [wordsT, List.nil_append, Option.bind_some]
      have hla : a.length ≤ 1000003 := by
        unfold rowS at ha
        split at ha
        · cases ha; simp
        · have := words_len ha
          have := splitC_len 58 ((bytesOf s).take j)
          rw [List.length_take, bytes_len] at this; omega
      cases hbb : rowS true ((bytesOf s).drop (j + 2)) with
      | none => exact Ev.ite_pos rfl (Ev.val rfl)
      | some b =>
        have hlb : b.length ≤ 1000003 := by
          unfold rowS at hbb
          split at hbb
          · cases hbb; simp
          · have := words_len hbb
            have := splitC_len 58 ((bytesOf s).drop (j + 2))
            rw [List.length_drop, bytes_len] at this; omega
        refine Ev.ite_neg (by simp [wordsT]) ?_
        simp only [wordsT, List.nil_append, Option.bind_some]
        have hw : wrap64 ((a.length : Int) + (b.length : Int)) = (a.length : Int) + (b.length : Int) := w64 (by omega) (by omega)
        simp only [hw]
        refine Ev.ite (fun h => ?_) (fun h => Ev.ite_pos (by omega) ?_)
        · rw [if_neg (by omega)]
          exact Ev.val rfl
        · rw [if_pos (by omega), put_both a b (by omega)]
          exact Ev.val rfl
end Go.Proofs.YtpmflpeckoeooaaDoor.Y
namespace Go.Proofs.YtpmflpeckoeooaaDoor.Y
open Go.RowKit Go.Proofs.YtpmflpeckoeooaaDoor.X Go.Proofs.YtpmflpeckoeooaaDoor.M Go.Proofs.YtpmflpeckoeooaaDoorW.PrintWords Go.Proofs.YtpmflpeckoeooaaDoorW.PrintLast Go.Proofs.YtpmflpeckoeooaaDoorW.PrintMore
set_option linter.unusedVariables false
theorem fut_l0 (s : ByteArray) (hs : s.size ≤ 140737488351232) : ∀ d i : Nat, i + d = s.size → Ev (fun k => ip_Future.l0 k s (i : Int)) (((bytesOf s).drop i).all fun b => plainAt 1 b) := by
  intro d
  induction d with
  | zero =>
    intro i hi
    rw [List.drop_of_length_le (by rw [bytes_len]; omega)]
    refine Ev.step (fun k => by rw [ip_Future.l0]) ?_
    exact Ev.ite_neg (by omega) (Ev.now _)
  | succ d ih =>
    intro i hi
    rcases at_or_end s i (by omega) with ⟨h2, _⟩ | ⟨_, e, b0, b1⟩
    · omega
    rw [e, List.all_cons]
    refine Ev.step (fun k => by rw [ip_Future.l0]) ?_
    refine Ev.ite_pos (by omega) (Ev.ite_pos (by omega) (Ev.bind' (plain_f b0 b1) ?_))
    cases hp : plainAt 1 (bt s (i : Int))
    · exact Ev.ite_neg (by simp) (Ev.val (by simp))
    · refine Ev.ite_pos rfl ?_
      rw [w64 (by omega) (by omega)]
      simp only [Bool.true_and]
      exact ih (i + 1) (by omega)
theorem spanp_congr {p q : Int → Bool} {l : List Int} (h : ∀ b ∈ l, p b = q b) : spanp p l = spanp q l := by
  induction l with
  | nil => rfl
  | cons b t ih =>
    unfold spanp
    rw [h b (List.mem_cons_self ..), ih (fun c hc => h c (List.mem_cons_of_mem _ hc))]
theorem or32 {b : Int} (h0 : 0 ≤ b) (h1 : b ≤ 255) : ((Go.bits .or .u8 b 32) != 118) = !(b == 118 || b == 86) :=
  byte_all (p := fun b => ((Go.bits .or .u8 b 32) != 118) = !(b == 118 || b == 86)) (by decide +kernel) h0 h1
theorem fut_cons (v : Int) (t : List Int) : fut (v :: t) = ((v == 118 || v == 86) && decide (0 < spanp hexd t) && decide (2 ≤ (t.drop (spanp hexd t)).length) && ((t.drop (spanp hexd t)).headD 0 == 46) && ((t.drop (spanp hexd t)).tail.all fun b => plainAt 1 b)) := rfl
theorem hex_span (s : ByteArray) (hs : s.size ≤ 140737488351232) : Ev (fun k => octet_Span.f k s 32) (spanp hexd (bytesOf s) : Int) := by
  have := octSpan_f s 32 hs
  rwa [spanp_congr (q := hexd) (fun b hb => isc_hex (bytes_range hb).1 (bytes_range hb).2)] at this
theorem future_f (s : ByteArray) (hs : s.size ≤ 1000000) : Ev (fun k => ip_Future.f k s) (fut (bytesOf s)) := by
  unfold ip_Future.f
  have bad : ∀ r, r = false → Ev (fun k => ip_Future.j0 k s true) r := by
    intro r e
    subst e
    refine Ev.step (fun k => by rw [ip_Future.j0]) ?_
    exact Ev.ite_pos rfl (Ev.now _)
  refine Ev.ite (fun h => bad _ ?_) (fun h => ?_)
  · rw [(empty_iff s).1 h]; rfl
  · rcases at_begin s with ⟨_, e⟩ | ⟨hp, e, b0, b1⟩
    · exact absurd ((empty_iff s).2 e) h
    refine Ev.ite_pos (by omega) ?_
    have hf : fut (bytesOf s) = fut (bt s 0 :: (bytesOf s).drop 1) := by rw [← e]
    rw [hf, fut_cons, or32 b0 b1]
    cases hv : (bt s 0 == 118 || bt s 0 == 86)
    · exact bad _ (by simp)
    · refine Ev.step (fun k => by rw [ip_Future.j0]) ?_
      refine Ev.ite_neg (by simp) (Ev.ite_pos (by omega) ?_)
      have hsp := hex_span (s.extract 1 s.size) (by rw [← bytes_len, bytes_from, List.length_drop, bytes_len]; omega)
      rw [bytes_from] at hsp
      refine Ev.bind' hsp ?_
      have hle := spanp_le hexd ((bytesOf s).drop 1)
      rw [List.length_drop, bytes_len] at hle
      generalize spanp hexd ((bytesOf s).drop 1) = n at hle ⊢
      have hw : wrap64 (1 + (n : Int)) = ((n + 1 : Nat) : Int) := by rw [w64 (by omega) (by omega)]; omega
      simp only [hw]
      refine Ev.ite_pos (by omega) (Ev.ite_pos (by omega) ?_)
      rw [Int.toNat_natCast, List.drop_drop]
      have hsz : (s.extract (n + 1) s.size).size = s.size - (n + 1) := by rw [← bytes_len, bytes_from, List.length_drop, bytes_len]
      have bad1 : ∀ r, r = false → Ev (fun k => ip_Future.j1 k (s.extract (n + 1) s.size) true) r := by
        intro r e
        subst e
        refine Ev.step (fun k => by rw [ip_Future.j1]) ?_
        exact Ev.ite_pos rfl (Ev.now _)
      rw [show 1 + n = n + 1 by omega]
      have hld : ((bytesOf s).drop (n + 1)).length = s.size - (n + 1) := by rw [List.length_drop, bytes_len]
      refine Ev.ite (fun h0 => bad1 _ ?_) (fun h0 => Ev.ite (fun h2 => bad1 _ ?_) (fun h2 => Ev.ite_pos (by omega) ?_))
      · have : n = 0 := by omega
        simp [this]
      · rw [hsz] at h2
        rw [hld, decide_eq_false (p := 2 ≤ s.size - (n + 1)) (by omega)]
        simp
      · rcases at_begin (s.extract (n + 1) s.size) with ⟨h3, _⟩ | ⟨_, e3, _⟩
        · omega
        rw [bytes_from] at e3
        rw [hsz] at h2
        rw [hld, decide_eq_true (p := 0 < n) (by omega), decide_eq_true (p := 2 ≤ s.size - (n + 1)) (by omega)]
        have hh : ((bytesOf s).drop (n + 1)).headD 0 = bt (s.extract (n + 1) s.size) 0 := by rw [e3]; rfl
        have ht : ((bytesOf s).drop (n + 1)).tail = ((bytesOf s).drop (n + 1)).drop 1 := by rw [List.drop_one]
        rw [hh, ht]
        cases h46 : (bt (s.extract (n + 1) s.size) 0 == 46)
        · have : (bt (s.extract (n + 1) s.size) 0 != 46) = true := by rw [bne, h46]; rfl
          rw [this]
          exact bad1 _ (by simp)
        · have : (bt (s.extract (n + 1) s.size) 0 != 46) = false := by rw [bne, h46]; rfl
          rw [this]
          refine Ev.step (fun k => by rw [ip_Future.j1]) ?_
          refine Ev.ite_neg (by simp) ?_
          have := fut_l0 (s.extract (n + 1) s.size) (by omega) ((s.extract (n + 1) s.size).size - 1) 1 (by omega)
          rw [bytes_from] at this
          simpa using this
theorem getLast_bt (s : ByteArray) (h : 0 < s.size) : (bytesOf s).getLastD 0 = bt s ((s.size : Int) - 1) := by
  have e : ((s.size : Int) - 1) = ((s.size - 1 : Nat) : Int) := by omega
  have hne : bytesOf s ≠ [] := by intro x; have := bytes_len s; rw [x] at this; simp at this; omega
  rw [e, bt_getD, List.getLastD_eq_getLast?, List.getLast?_eq_getElem?, List.getD_eq_getElem?_getD, bytes_len]
theorem brack_iff (s : ByteArray) : brack (bytesOf s) = true ↔ 2 ≤ s.size ∧ bt s 0 = 91 ∧ bt s ((s.size : Int) - 1) = 93 := by
  unfold brack
  rw [bytes_len]
  by_cases h : 2 ≤ s.size
  · rcases at_begin s with ⟨h2, _⟩ | ⟨_, e, _⟩
    · omega
    have hh : (bytesOf s).headD 0 = bt s 0 := by rw [e]; rfl
    rw [hh, getLast_bt s (by omega)]
    simp [and_assoc]
  · simp [h]
theorem mid_bytes (s : ByteArray) (h : 2 ≤ s.size) : bytesOf (s.extract 1 (s.size - 1)) = ((bytesOf s).take ((bytesOf s).length - 1)).drop 1 := by
  rw [bytes_extract, bytes_len]
theorem host19_j0 (iri : Bool) (s : ByteArray) (hs : s.size ≤ 1000000) (b : Bool) (hb : b = brack (bytesOf s)) : Ev (fun k => ip_Host.j0 k iri s (s.size : Int) b) (hostK iri (bytesOf s)) := by
  refine Ev.step (fun k => by rw [ip_Host.j0]) ?_
  unfold hostK
  have hw : wrap64 ((s.size : Int) - 1) = (s.size : Int) - 1 := w64 (by omega) (by omega)
  simp only [hw]
  rw [← hb]
  refine Ev.ite (fun h => ?_) (fun h => ?_)
  · rw [if_pos h]
    have hb2 := (brack_iff s).1 (by rw [← hb]; exact h)
    refine Ev.ite_pos (by omega) (Ev.ite_pos (by omega) ?_)
    have e : ((s.size : Int) - 1).toNat = s.size - 1 := by omega
    rw [e]
    have hsz : (s.extract 1 (s.size - 1)).size ≤ 1000000 := by rw [← bytes_len, mid_bytes s hb2.1, List.length_drop, List.length_take, bytes_len]; omega
    have h6 := v6_f (s.extract 1 (s.size - 1)) hsz
    have h7 := future_f (s.extract 1 (s.size - 1)) hsz
    rw [mid_bytes s hb2.1] at h6 h7
    refine Ev.bind' h6 ?_
    rw [v6T_ok]
    refine Ev.ite (fun h8 => ?_) (fun h8 => ?_)
    · rw [h8]
      exact Ev.val (by simp)
    · rw [Bool.not_eq_true] at h8
      rw [h8]
      refine Ev.bind' h7 (Ev.ite (fun h9 => ?_) (fun h9 => ?_))
      · exact Ev.val (by rw [Bool.false_or, if_pos h9])
      · exact Ev.val (by rw [Bool.false_or, if_neg h9])
  · rw [if_neg h]
    refine Ev.bind' (v4_f s hs) ?_
    rw [v4T_ok]
    refine Ev.ite (fun h4 => ?_) (fun h4 => Ev.bind' (all_f 2 iri s (by omega)) (Ev.ite (fun h5 => ?_) (fun h5 => ?_)))
    · exact Ev.val (by rw [if_pos h4])
    · exact Ev.val (by rw [if_neg h4, if_pos h5])
    · exact Ev.val (by rw [if_neg h4, if_neg h5])
theorem host19_f (iri : Bool) (s : ByteArray) (hs : s.size ≤ 1000000) : Ev (fun k => ip_Host.f k iri s) (hostK iri (bytesOf s)) := by
  unfold ip_Host.f
  have hbi := brack_iff s
  have hw : wrap64 ((s.size : Int) - 1) = (s.size : Int) - 1 := w64 (by omega) (by omega)
  simp only [hw]
  have no : ¬ (2 ≤ s.size ∧ bt s 0 = 91 ∧ bt s ((s.size : Int) - 1) = 93) → Ev (fun k => ip_Host.j0 k iri s (s.size : Int) false) (hostK iri (bytesOf s)) := by
    intro h
    refine host19_j0 iri s hs false ?_
    symm
    rw [← Bool.not_eq_true, hbi]
    exact h
  refine Ev.ite (fun h => Ev.ite_pos (by omega) (Ev.ite (fun h2 => Ev.ite_pos (by omega) (Ev.ite_pos (by omega) ?_)) (fun h2 => no (fun x => h2 x.2.1)))) (fun h => no (fun x => h (by omega)))
  refine host19_j0 iri s hs _ ?_
  rw [Bool.eq_iff_iff, hbi, beq_iff_eq]
  constructor
  · intro h3; exact ⟨by omega, h2, h3⟩
  · intro h3; exact h3.2.2
end Go.Proofs.YtpmflpeckoeooaaDoor.Y
namespace Go.Proofs.YtpmflpeckoeooaaDoor.Y
open Go.RowKit Go.Proofs.YtpmflpeckoeooaaDoor.X Go.Proofs.YtpmflpeckoeooaaDoor.M Go.Proofs.YtpmflpeckoeooaaDoorW.PrintWords Go.Proofs.YtpmflpeckoeooaaDoorW.PrintLast
theorem indexByte_f (s : ByteArray) (c : Int) (h0 : 0 ≤ c) (h1 : c ≤ 255) : strings_IndexByte.f s c = some (idx c (bytesOf s)) := by
  unfold strings_IndexByte.f stringslite_IndexByte.f
  rw [indexByte_bytes s c h0 h1]; rfl
theorem lastIndex_l0 (s : ByteArray) (c : Int) (hs : s.size ≤ 140737488351232) : ∀ n : Nat, n ≤ s.size → Ev (fun k => bytealg_LastIndexByteString.l0 k s c ((n : Int) - 1)) (lidx c ((bytesOf s).take n)) := by
  intro n
  induction n with
  | zero =>
    intro _
    refine Ev.step (fun k => rfl) ?_
    simp only [Int.natCast_zero, List.take_zero, lidx]
    refine Ev.ite_neg (by omega) (Ev.now _)
  | succ n ih =>
    intro hn
    refine Ev.step (fun k => rfl) ?_
    have e : ((n + 1 : Nat) : Int) - 1 = (n : Int) := by omega
    rw [e, take_next (by omega), lidx_snoc]
    refine Ev.ite_pos (by omega) (Ev.ite_pos (by omega) (Ev.ite_pos (by omega) ?_))
    by_cases hb : bt s (n : Int) = c
    · refine Ev.ite_pos hb ?_
      rw [if_pos hb, List.length_take, bytes_len, Nat.min_eq_left (by omega)]
      exact Ev.now _
    · refine Ev.ite_neg hb ?_
      rw [if_neg hb, w64 (by omega) (by omega)]
      exact ih (by omega)
theorem lastIndexByte_f (s : ByteArray) (c : Int) (hs : s.size ≤ 140737488351232) : Ev (fun k => strings_LastIndexByte.f k s c) (lidx c (bytesOf s)) := by
  refine Ev.bind' (a := lidx c (bytesOf s)) (f := fun _ t => some t) ?_ (Ev.now _)
  unfold bytealg_LastIndexByteString.f
  rw [w64 (by omega) (by omega)]
  have := lastIndex_l0 s c hs s.size (Nat.le_refl _)
  rw [← bytes_len, List.take_length, bytes_len] at this
  exact this
theorem hasPrefix_f (s p : ByteArray) : strings_HasPrefix.f s p = some (decide ((bytesOf s).take p.size = bytesOf p)) := by
  unfold strings_HasPrefix.f stringslite_HasPrefix.f
  by_cases h : (s.size : Int) ≥ (p.size : Int)
  · rw [if_pos h, if_pos (by omega), if_pos (by omega)]
    simp only [Option.bind_some, Option.some.injEq, Int.toNat_natCast]
    rw [Bool.eq_iff_iff, beq_iff_eq, decide_eq_true_iff, toList_iff, bytes_extract, List.drop_zero]
  · rw [if_neg h]
    simp only [Option.bind_some, Option.some.injEq]
    symm
    rw [decide_eq_false_iff_not]
    intro e
    have := congrArg List.length e
    rw [List.length_take, bytes_len, bytes_len] at this
    omega
def hostEnd (l : List Int) : Int :=
  if l.take 1 = [91] ∧ 0 ≤ idx 93 l then
    (if l.drop ((idx 93 l).toNat + 1) = [] ∨ (l.drop ((idx 93 l).toNat + 1)).getD 0 0 = 58 then idx 93 l + 1 else l.length)
  else if 0 ≤ idx 58 l then idx 58 l else l.length
theorem hostEnd_range (l : List Int) : 0 ≤ hostEnd l ∧ hostEnd l ≤ l.length := by
  have h1 := idx_ge 93 l
  have h2 := idx_lt 93 l
  have h3 := idx_ge 58 l
  have h4 := idx_lt 58 l
  unfold hostEnd
  split
  · split <;> omega
  · split <;> omega
def hostS (s : ByteArray) : ByteArray × ByteArray := (s.extract 0 (hostEnd (bytesOf s)).toNat, s.extract (hostEnd (bytesOf s)).toNat s.size)
theorem extract_all (s : ByteArray) : s.extract 0 s.size = s := ByteArray.extract_zero_size
theorem extract_none (s : ByteArray) : s.extract s.size s.size = (⟨#[]⟩ : ByteArray) := by
  apply bytes_inj
  rw [bytes_extract, ← bytes_len, List.take_length, List.drop_length]; rfl
theorem host_colon (s : ByteArray) (e : Int) (he : e = if 0 ≤ idx 58 (bytesOf s) then idx 58 (bytesOf s) else s.size) :
    ((strings_IndexByte.f s 58).bind fun t => (if t ≥ 0 then (if 0 ≤ t then (if t ≤ (s.size : Int) then (some (s.extract 0 (t : Int).toNat, s.extract (t : Int).toNat s.size)) else (none)) else (none)) else (some (s, (⟨#[]⟩ : ByteArray))))) = some (s.extract 0 e.toNat, s.extract e.toNat s.size) := by
  rw [indexByte_f s 58 (by omega) (by omega)]
  simp only [Option.bind_some]
  have h3 := idx_ge 58 (bytesOf s)
  have h4 := idx_lt 58 (bytesOf s)
  rw [bytes_len] at h4
  by_cases h : 0 ≤ idx 58 (bytesOf s)
  · rw [if_pos h] at he
    rw [if_pos h, if_pos h, if_pos (by omega), he]
  · rw [if_neg h] at he
    rw [if_neg h, he, Int.toNat_natCast, extract_all, extract_none]
theorem drop_nil_iff (s : ByteArray) (i : Nat) : (s.extract i s.size).toList = ([] : List UInt8) ↔ (bytesOf s).drop i = [] := by
  have : ([] : List UInt8) = (⟨#[]⟩ : ByteArray).toList := by rw [ByteArray.toList_eq]
  rw [this, toList_iff, bytes_extract, ← bytes_len, List.take_length]
  exact Iff.rfl
theorem host_f (s : ByteArray) (hs : s.size ≤ 140737488351232) : Ev (fun k => seat_host.f k s) (hostS s) := by
  have h1 := idx_ge 93 (bytesOf s)
  have h2 := idx_lt 93 (bytesOf s)
  rw [bytes_len] at h2
  unfold seat_host.f
  rw [hasPrefix_f]
  simp only [Option.bind_some, decide_eq_true_iff]
  have hb : bytesOf (⟨#[91]⟩ : ByteArray) = [91] := rfl
  have hz : (⟨#[91]⟩ : ByteArray).size = 1 := rfl
  rw [hb, hz]
  by_cases hp : (bytesOf s).take 1 = [91]
  · simp only [if_pos hp]
    rw [indexByte_f s 93 (by omega) (by omega)]
    simp only [Option.bind_some]
    by_cases h : idx 93 (bytesOf s) ≥ 0
    · refine Ev.ite_pos h ?_
      rw [w64 (by omega) (by omega)]
      refine Ev.ite_pos (by omega) (Ev.ite_pos (by omega) ?_)
      have hn : (idx 93 (bytesOf s) + 1).toNat = (idx 93 (bytesOf s)).toNat + 1 := by omega
      rw [hn]
      have fin : ∀ x b, Ev (fun k => seat_host.j0 k s (idx 93 (bytesOf s)) x b) (if b = true then (s.extract 0 ((idx 93 (bytesOf s)).toNat + 1), x) else (s, ⟨#[]⟩)) := by
        intro x b
        refine Ev.step (fun k => by rw [seat_host.j0]) ?_
        rw [w64 (by omega) (by omega)]
        cases b
        · exact Ev.ite_neg (by simp) (Ev.now _)
        · refine Ev.ite_pos rfl (Ev.ite_pos (by omega) (Ev.ite_pos (by omega) ?_))
          rw [hn]
          exact Ev.now _
      by_cases hd : (bytesOf s).drop ((idx 93 (bytesOf s)).toNat + 1) = []
      · refine Ev.ite_pos ((drop_nil_iff s _).2 hd) ?_
        have : hostS s = (s.extract 0 ((idx 93 (bytesOf s)).toNat + 1), s.extract ((idx 93 (bytesOf s)).toNat + 1) s.size) := by
          unfold hostS hostEnd
          rw [if_pos ⟨hp, h⟩, if_pos (.inl hd), hn]
        rw [this]
        exact (fin _ true)
      · refine Ev.ite_neg (fun x => hd ((drop_nil_iff s _).1 x)) ?_
        obtain ⟨b, t, hbt⟩ : ∃ b t, (bytesOf s).drop ((idx 93 (bytesOf s)).toNat + 1) = b :: t := by
          cases hh : (bytesOf s).drop ((idx 93 (bytesOf s)).toNat + 1) with
          | nil => exact absurd hh hd
          | cons b t => exact ⟨b, t, rfl⟩
        have hx : (bytesOf (s.extract ((idx 93 (bytesOf s)).toNat + 1) s.size)).drop 0 = b :: t := by
          rw [bytes_extract, ← bytes_len, List.take_length, List.drop_zero, hbt]
        obtain ⟨g1, g2, _⟩ := at_drop hx
        rw [Int.natCast_zero] at g1
        rw [g1]
        refine Ev.ite_pos (by omega) ?_
        have hg : (List.drop ((idx 93 (bytesOf s)).toNat + 1) (bytesOf s)).getD 0 0 = b := by rw [hbt]; rfl
        have : hostS s = (if (b == 58) = true then (s.extract 0 ((idx 93 (bytesOf s)).toNat + 1), s.extract ((idx 93 (bytesOf s)).toNat + 1) s.size) else (s, ⟨#[]⟩)) := by
          unfold hostS hostEnd
          rw [if_pos ⟨hp, h⟩, hg]
          by_cases hb58 : b = 58
          · rw [if_pos (.inr hb58), if_pos (by simp [hb58]), hn]
          · rw [if_neg (by simp [hd, hb58]), if_neg (by simp [hb58]), bytes_len, Int.toNat_natCast, extract_all, extract_none]
        rw [this]
        exact fin _ _
    · simp only [if_neg h]
      rw [host_colon s (hostEnd (bytesOf s)) (by
        unfold hostEnd
        rw [if_neg (by omega), bytes_len])]
      exact Ev.now _
  · simp only [if_neg hp]
    rw [host_colon s (hostEnd (bytesOf s)) (by
      unfold hostEnd
      rw [if_neg (fun x => hp x.1), bytes_len])]
    exact Ev.now _
def restS (s : ByteArray) : ByteArray := s.extract (lidx 64 (bytesOf s) + 1).toNat s.size
def partS (s : ByteArray) : Bool × ByteArray × ByteArray × Bool × ByteArray :=
  (decide (0 ≤ lidx 64 (bytesOf s)), s.extract 0 (lidx 64 (bytesOf s)).toNat, (restS s).extract 0 (hostEnd (bytesOf (restS s))).toNat,
   decide (hostEnd (bytesOf (restS s)) < (restS s).size), (restS s).extract ((hostEnd (bytesOf (restS s))).toNat + 1) (restS s).size)
theorem extract_zero (s : ByteArray) : s.extract 0 0 = (⟨#[]⟩ : ByteArray) := by
  apply bytes_inj; rw [bytes_extract]; rfl
theorem size_extract_to (s : ByteArray) (i : Nat) : (s.extract i s.size).size = s.size - i := by
  rw [ByteArray.size_extract, Nat.min_self]
theorem extract_past (s : ByteArray) (i : Nat) (h : s.size ≤ i) : s.extract i s.size = (⟨#[]⟩ : ByteArray) := by
  apply bytes_inj
  rw [bytes_extract, List.drop_of_length_le (by rw [List.length_take, bytes_len]; omega)]; rfl
theorem extract_extract_to (s : ByteArray) (i j : Nat) : (s.extract i s.size).extract j (s.extract i s.size).size = s.extract (i + j) s.size := by
  apply bytes_inj
  rw [bytes_extract, bytes_extract, bytes_extract, ← bytes_len (s.extract i s.size), bytes_extract, List.take_length, List.drop_drop]
theorem part_f (s : ByteArray) (hs : s.size ≤ 140737488351232) : Ev (fun k => seat_Part.f k s) (partS s) := by
  have h1 := lidx_ge 64 (bytesOf s)
  have h2 := lidx_lt 64 (bytesOf s)
  rw [bytes_len] at h2
  unfold seat_Part.f
  refine Ev.bind' (lastIndexByte_f s 64 hs) ?_
  have port : ∀ (r : ByteArray), r.size ≤ s.size → (hostS r).2.size = r.size - (hostEnd (bytesOf r)).toNat ∧ ((hostS r).2.toList = ([] : List UInt8) ↔ ¬ hostEnd (bytesOf r) < r.size) := by
    intro r _
    have hr := hostEnd_range (bytesOf r)
    rw [bytes_len] at hr
    refine ⟨size_extract_to r _, ?_⟩
    unfold hostS
    rw [drop_nil_iff, List.drop_eq_nil_iff, bytes_len]
    omega
  by_cases h : lidx 64 (bytesOf s) ≥ 0
  · have hz : (restS s).size ≤ s.size := by unfold restS; rw [size_extract_to]; omega
    obtain ⟨p1, p2⟩ := port (restS s) hz
    have hr := hostEnd_range (bytesOf (restS s))
    rw [bytes_len] at hr
    refine Ev.ite_pos h (Ev.ite_pos h (Ev.ite_pos (by omega) ?_))
    rw [w64 (by omega) (by omega)]
    refine Ev.ite_pos (by omega) (Ev.ite_pos (by omega) ?_)
    refine Ev.bind' (host_f (restS s) (by omega)) ?_
    by_cases hp : hostEnd (bytesOf (restS s)) < (restS s).size
    · refine Ev.ite_neg (fun x => absurd hp (p2.1 x)) (Ev.ite_pos (by rw [p1]; omega) (Ev.ret fun _ => ?_))
      unfold partS
      rw [decide_eq_true h, decide_eq_true hp]
      simp only [hostS, extract_extract_to]
    · refine Ev.ite_pos (p2.2 hp) (Ev.ret fun _ => ?_)
      unfold partS
      rw [decide_eq_true h, decide_eq_false hp, extract_past (restS s) _ (by omega)]
      rfl
  · have hr0 : restS s = s := by
      unfold restS
      have : (lidx 64 (bytesOf s) + 1).toNat = 0 := by omega
      rw [this, extract_all]
    obtain ⟨p1, p2⟩ := port s (Nat.le_refl _)
    have hr := hostEnd_range (bytesOf s)
    rw [bytes_len] at hr
    have ht : (lidx 64 (bytesOf s)).toNat = 0 := by omega
    refine Ev.ite_neg h ?_
    refine Ev.bind' (host_f s hs) ?_
    by_cases hp : hostEnd (bytesOf s) < s.size
    · refine Ev.ite_neg (fun x => absurd hp (p2.1 x)) (Ev.ite_pos (by rw [p1]; omega) (Ev.ret fun _ => ?_))
      unfold partS
      rw [hr0, decide_eq_false h, decide_eq_true hp, ht, extract_zero]
      simp only [hostS, extract_extract_to]
    · refine Ev.ite_pos (p2.2 hp) (Ev.ret fun _ => ?_)
      unfold partS
      rw [hr0, decide_eq_false h, decide_eq_false hp, ht, extract_zero, extract_past s _ (by omega)]
      rfl
theorem append_nil (s : ByteArray) : s ++ (⟨#[]⟩ : ByteArray) = s := by
  apply bytes_inj; rw [bytes_append]; exact List.append_nil _
theorem part_sizes (s : ByteArray) : (partS s).2.1.size ≤ s.size ∧ (partS s).2.2.1.size ≤ s.size ∧ (partS s).2.2.2.2.size ≤ s.size := by
  have hz : (restS s).size ≤ s.size := by unfold restS; rw [size_extract_to]; omega
  unfold partS
  simp only [ByteArray.size_extract]
  omega
end Go.Proofs.YtpmflpeckoeooaaDoor.Y
namespace Go.Proofs.YtpmflpeckoeooaaDoor.Y
open Go.RowKit Go.Proofs.YtpmflpeckoeooaaDoor.X Go.Proofs.YtpmflpeckoeooaaDoor.M Go.Proofs.YtpmflpeckoeooaaDoorW.PrintWords Go.Proofs.YtpmflpeckoeooaaDoorW.PrintLast Go.Proofs.YtpmflpeckoeooaaDoorW.PrintMore
set_option linter.unusedVariables false
def rightL (iri hu : Bool) (u h : List Int) (hp : Bool) (p : List Int) : Bool := (!hu || allAt 1 iri u) && (hostK iri h != 0) && (!hp || p.all digit)
theorem span_digits (l : List Int) (hl : ∀ b ∈ l, 0 ≤ b ∧ b ≤ 255) : (((spanp (fun b => isc b 2) l : Nat) : Int) = (l.length : Int)) ↔ l.all digit = true := by
  rw [spanp_congr (q := digit) (fun b hb => isc_digit (hl b hb).1 (hl b hb).2), List.all_eq_true]
  have := spanp_all (p := digit) (l := l)
  constructor
  · intro h; exact this.1 (by omega)
  · intro h; have := this.2 h; omega
theorem seatRight_f (iri hu : Bool) (u h : ByteArray) (hp : Bool) (p : ByteArray) (s1 : u.size ≤ 1000000) (s2 : h.size ≤ 1000000) (s3 : p.size ≤ 1000000) :
    Ev (fun k => seat_Right.f k iri hu u h hp p) (rightL iri hu (bytesOf u) (bytesOf h) hp (bytesOf p)) := by
  have bad : Ev (fun k => seat_Right.j0 k iri true hu u h hp p) false := by
    refine Ev.step (fun k => by rw [seat_Right.j0]) ?_
    exact Ev.ite_pos rfl (Ev.now _)
  have good : Ev (fun k => seat_Right.j0 k iri false hu u h hp p) ((hostK iri (bytesOf h) != 0) && (!hp || (bytesOf p).all digit)) := by
    refine Ev.step (fun k => by rw [seat_Right.j0]) ?_
    refine Ev.ite_neg (by simp) (Ev.bind' (host19_f iri h s2) ?_)
    refine Ev.ite (fun h0 => Ev.val (by simp [h0])) (fun h0 => ?_)
    have e0 : (hostK iri (bytesOf h) != 0) = true := by simpa using h0
    rw [e0]
    refine Ev.ite (fun h1 => Ev.bind' (octSpan_f p 2 (by omega)) (Ev.val ?_)) (fun h1 => Ev.val ?_)
    · have := span_digits (bytesOf p) (fun b hb => bytes_range hb)
      rw [bytes_len] at this
      rw [h1, Bool.eq_iff_iff, beq_iff_eq, this]
      simp
    · rw [Bool.not_eq_true] at h1
      simp [h1]
  unfold seat_Right.f rightL
  cases hu
  · refine Ev.ite_neg (by simp) ?_
    simp only [Bool.not_false, Bool.true_or, Bool.true_and]
    exact good
  · refine Ev.ite_pos rfl (Ev.bind' (all_f 1 iri u (by omega)) ?_)
    cases ha : allAt 1 iri (bytesOf u)
    · exact bad
    · simp only [Bool.not_true, Bool.or_true, Bool.true_and]
      exact good
def rightP (iri : Bool) (x : Bool × ByteArray × ByteArray × Bool × ByteArray) : Bool := rightL iri x.1 (bytesOf x.2.1) (bytesOf x.2.2.1) x.2.2.2.1 (bytesOf x.2.2.2.2)
theorem seatPart_sizes (s : ByteArray) : (partS s).2.1.size ≤ s.size ∧ (partS s).2.2.1.size ≤ s.size ∧ (partS s).2.2.2.2.size ≤ s.size := part_sizes s
theorem parse_f (iri : Bool) (s : ByteArray) (hs : s.size ≤ 1000000) : Ev (fun k => seat_Parse.f k iri s)
    (if rightP iri (partS s) then ((partS s).1, (partS s).2.1, (partS s).2.2.1, (partS s).2.2.2.1, (partS s).2.2.2.2, true) else (false, (⟨#[]⟩ : ByteArray), (⟨#[]⟩ : ByteArray), false, (⟨#[]⟩ : ByteArray), false)) := by
  unfold seat_Parse.f
  have hz := seatPart_sizes s
  refine Ev.bind' (part_f s (by omega)) (Ev.bind' (seatRight_f iri _ _ _ _ _ (by omega) (by omega) (by omega)) ?_)
  exact Ev.ite (fun h => Ev.val (if_pos h).symm) (fun h => Ev.val (if_neg h).symm)
def vi (s : ByteArray) (i : Int) : Prop := i = -1 ∨ (0 ≤ i ∧ i < s.size ∧ bt s i = 64)
end Go.Proofs.YtpmflpeckoeooaaDoor.Y
