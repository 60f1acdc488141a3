/- The reference's Part, and Join, in the same plain words as the program's. -/
import Derived.Test.YtdmigmccfdhdiaaSeat0
import Derived.Test.YtdmigmccfdhdiaaXx3
import Derived.Test.YtdmigmccfdhdiaaXx4
import Derived.Test.YtdmigmccfdhdiaaXx5
namespace Go.Proofs.Ytdmigmccfdhdiaa.Y
open Go.RowKit Go.Proofs.Ytdmigmccfdhdiaa.X Go.Proofs.Ytdmigmccfdhdiaa.M Go.Proofs.YtdmigmccfdhdiaaW.PrintWords Go.Proofs.YtdmigmccfdhdiaaW.PrintLast

/-- A rest parted at e. -/
def cutAt (b : Bool) (u x : ByteArray) (e : Int) : Bool × ByteArray × ByteArray × Bool × ByteArray :=
  (b, u, x.extract 0 e.toNat, decide (e < x.size), x.extract (e.toNat + 1) x.size)

theorem cut_f (b : Bool) (u x : ByteArray) (e : Int) (h0 : 0 ≤ e) (h1 : e ≤ x.size) (hs : x.size ≤ 140737488351232) :
    (if 0 ≤ e then (if e ≤ (x.size : Int) then (if e < (x.size : Int) then (if 0 ≤ (wrap64 (e + 1)) then (if (wrap64 (e + 1)) ≤ (x.size : Int) then (some (b, u, x.extract 0 (e : Int).toNat, true, x.extract ((wrap64 (e + 1)) : Int).toNat x.size)) else (none)) else (none)) else (some (b, u, x.extract 0 (e : Int).toNat, false, (⟨#[]⟩ : ByteArray)))) else (none)) else (none)) = some (cutAt b u x e) := by
  rw [if_pos h0, if_pos h1, w64 (by omega) (by omega)]
  unfold cutAt
  by_cases h : e < (x.size : Int)
  · rw [if_pos h, if_pos (by omega), if_pos (by omega), decide_eq_true h]
    have : (e + 1).toNat = e.toNat + 1 := by omega
    rw [this]
  · rw [if_neg h, decide_eq_false h, extract_past x _ (by omega)]

theorem ref_l2 (b : Bool) (u x : ByteArray) (hs : x.size ≤ 140737488351232) : ∀ (n : Nat) (e : Int) (r : _), n ≤ x.size →
    Ev (fun k => monikerref21_Part.l2 k x (if 0 ≤ idx 93 ((bytesOf x).take n) then idx 93 ((bytesOf x).take n) + 1 else e) (-1) b u ⟨#[]⟩ false ⟨#[]⟩) r →
    Ev (fun k => monikerref21_Part.l2 k x e ((n : Int) - 1) b u ⟨#[]⟩ false ⟨#[]⟩) r := by
  intro n
  induction n with
  | zero => intro e r _ h; exact h
  | succ n ih =>
    intro e r hn h
    refine Ev.step (fun k => by rw [monikerref21_Part.l2]) ?_
    have en : ((n + 1 : Nat) : Int) - 1 = (n : Int) := by omega
    have h1 := idx_ge 93 ((bytesOf x).take n)
    rw [take_next (by omega), idx_append] at h
    rw [en]
    refine Ev.ite_pos (by omega) (Ev.ite_pos (by omega) (Ev.ite_pos (by omega) ?_))
    rw [w64 (by omega) (by omega)]
    have hl : ((bytesOf x).take n).length = n := by rw [List.length_take, bytes_len]; omega
    by_cases hb : bt x (n : Int) = 93
    · refine Ev.ite_pos hb ?_
      rw [w64 (by omega) (by omega)]
      apply ih _ _ (by omega)
      simp only [idx, hb, if_true, hl] at h
      by_cases hi : idx 93 ((bytesOf x).take n) = -1
      · rw [hi] at h ⊢
        simpa using h
      · simp only [if_neg hi] at h
        rw [if_pos (by omega)] at h ⊢
        exact h
    · refine Ev.ite_neg hb ?_
      rw [w64 (by omega) (by omega)]
      apply ih _ _ (by omega)
      simp only [idx, if_neg hb, if_true] at h
      by_cases hi : idx 93 ((bytesOf x).take n) = -1
      · rw [hi] at h ⊢
        simpa using h
      · simp only [if_neg hi] at h
        exact h

theorem ref_l1 (b : Bool) (u x : ByteArray) (hs : x.size ≤ 140737488351232) : ∀ (n : Nat) (e : Int) (r : _), n ≤ x.size →
    Ev (fun k => monikerref21_Part.l1 k x (if 0 ≤ idx 58 ((bytesOf x).take n) then idx 58 ((bytesOf x).take n) else e) (-1) b u ⟨#[]⟩ false ⟨#[]⟩) r →
    Ev (fun k => monikerref21_Part.l1 k x e ((n : Int) - 1) b u ⟨#[]⟩ false ⟨#[]⟩) r := by
  intro n
  induction n with
  | zero => intro e r _ h; exact h
  | succ n ih =>
    intro e r hn h
    refine Ev.step (fun k => by rw [monikerref21_Part.l1]) ?_
    have en : ((n + 1 : Nat) : Int) - 1 = (n : Int) := by omega
    have h1 := idx_ge 58 ((bytesOf x).take n)
    rw [take_next (by omega), idx_append] at h
    rw [en]
    refine Ev.ite_pos (by omega) (Ev.ite_pos (by omega) (Ev.ite_pos (by omega) ?_))
    rw [w64 (by omega) (by omega)]
    have hl : ((bytesOf x).take n).length = n := by rw [List.length_take, bytes_len]; omega
    by_cases hb : bt x (n : Int) = 58
    · refine Ev.ite_pos hb ?_
      apply ih _ _ (by omega)
      simp only [idx, hb, if_true, hl] at h
      by_cases hi : idx 58 ((bytesOf x).take n) = -1
      · rw [hi] at h ⊢
        simpa using h
      · simp only [if_neg hi] at h
        rw [if_pos (by omega)] at h ⊢
        exact h
    · refine Ev.ite_neg hb ?_
      apply ih _ _ (by omega)
      simp only [idx, if_neg hb, if_true] at h
      by_cases hi : idx 58 ((bytesOf x).take n) = -1
      · rw [hi] at h ⊢
        simpa using h
      · simp only [if_neg hi] at h
        exact h

theorem ref_rest (b : Bool) (u x : ByteArray) (hs : x.size ≤ 140737488351232) :
    Ev (fun k => monikerref21_Part.l1 k x (x.size : Int) (wrap64 ((x.size : Int) - 1)) b u ⟨#[]⟩ false ⟨#[]⟩) (cutAt b u x (hostEnd (bytesOf x))) := by
  rw [w64 (by omega) (by omega)]
  apply ref_l1 b u x hs x.size _ _ (Nat.le_refl _)
  have h1 := idx_ge 58 (bytesOf x)
  have h2 := idx_lt 58 (bytesOf x)
  have h3 := idx_ge 93 (bytesOf x)
  have h4 := idx_lt 93 (bytesOf x)
  rw [← bytes_len, List.take_length, bytes_len]
  rw [bytes_len] at h2 h4
  generalize he : (if 0 ≤ idx 58 (bytesOf x) then idx 58 (bytesOf x) else (x.size : Int)) = e
  have e0 : 0 ≤ e ∧ e ≤ x.size := by
    subst he
    split <;> omega
  refine Ev.step (fun k => by rw [monikerref21_Part.l1]) ?_
  refine Ev.ite_neg (by omega) ?_
  -- not begun by a bracket: cut at e
  have plain : ¬ (bytesOf x).take 1 = [91] → Ev (fun k => monikerref21_Part.j3 k x e false b u ⟨#[]⟩ false ⟨#[]⟩) (cutAt b u x (hostEnd (bytesOf x))) := by
    intro hp
    refine Ev.step (fun k => by rw [monikerref21_Part.j3]) ?_
    refine Ev.ite_neg (by simp) (Ev.ret fun _ => ?_)
    rw [cut_f b u x e e0.1 e0.2 hs]
    unfold hostEnd
    rw [if_neg (fun h => hp h.1), bytes_len, he]
  by_cases hx : (x.size : Int) > 0
  · refine Ev.ite_pos hx (Ev.ite_pos hx ?_)
    obtain ⟨c, t, hct⟩ : ∃ c t, bytesOf x = c :: t := by
      cases hh : bytesOf x with
      | nil => rw [← bytes_len, hh] at hx; simp at hx
      | cons c t => exact ⟨c, t, rfl⟩
    have g1 : bt x 0 = c := by
      have := (at_drop (s := x) (i := 0) (by rw [List.drop_zero]; exact hct)).1
      simpa using this
    rw [g1]
    by_cases hc : c = 91
    · have hp : (bytesOf x).take 1 = [91] := by rw [hct, hc]; rfl
      rw [hc]
      refine Ev.step (fun k => by rw [monikerref21_Part.j3]) ?_
      refine Ev.ite_pos (by rfl) ?_
      rw [w64 (by omega) (by omega)]
      apply ref_l2 b u x hs x.size _ _ (Nat.le_refl _)
      rw [← bytes_len, List.take_length]
      refine Ev.step (fun k => by rw [monikerref21_Part.l2]) ?_
      refine Ev.ite_neg (by omega) ?_
      -- what j5 does at an end e'
      have last : ∀ (e' : Int) (f : Bool), 0 ≤ e' → e' ≤ x.size → hostEnd (bytesOf x) = (if f = true then (x.size : Int) else e') → Ev (fun k => monikerref21_Part.j5 k x e' f b u ⟨#[]⟩ false ⟨#[]⟩) (cutAt b u x (hostEnd (bytesOf x))) := by
        intro e' f f0 f1 hh
        refine Ev.step (fun k => by rw [monikerref21_Part.j5]) ?_
        rw [hh]
        cases f with
        | true => exact Ev.ite_pos rfl (Ev.ret fun _ => cut_f b u x _ (by omega) (by omega) hs)
        | false => exact Ev.ite_neg (by simp) (Ev.ret fun _ => cut_f b u x _ f0 f1 hs)
      by_cases hi : 0 ≤ idx 93 (bytesOf x)
      · simp only [if_pos hi]
        have hn : (idx 93 (bytesOf x) + 1).toNat = (idx 93 (bytesOf x)).toNat + 1 := by omega
        by_cases hlt : idx 93 (bytesOf x) + 1 < (x.size : Int)
        · refine Ev.ite_pos hlt (Ev.ite_pos (by omega) ?_)
          obtain ⟨d, t', hd⟩ : ∃ d t', (bytesOf x).drop ((idx 93 (bytesOf x)).toNat + 1) = d :: t' := by
            cases hh : (bytesOf x).drop ((idx 93 (bytesOf x)).toNat + 1) with
            | nil => rw [List.drop_eq_nil_iff, bytes_len] at hh; omega
            | cons d t' => exact ⟨d, t', rfl⟩
          have g2 := (at_drop hd).1
          have e3 : (((idx 93 (bytesOf x)).toNat + 1 : Nat) : Int) = idx 93 (bytesOf x) + 1 := by omega
          rw [e3] at g2
          rw [g2]
          refine last _ _ (by omega) (by omega) ?_
          unfold hostEnd
          rw [if_pos ⟨hp, hi⟩, hd, bytes_len]
          by_cases h58 : d = 58
          · rw [if_pos (.inr (by simp [h58])), if_neg (by simp [h58])]
          · rw [if_neg (by simp [h58]), if_pos (by simp [h58])]
        · refine Ev.ite_neg hlt ?_
          refine last _ _ (by omega) (by omega) ?_
          unfold hostEnd
          rw [if_pos ⟨hp, hi⟩, if_pos (.inl (by rw [List.drop_eq_nil_iff, bytes_len]; omega)), if_neg (by simp)]
      · simp only [if_neg hi]
        have hend : hostEnd (bytesOf x) = e := by
          unfold hostEnd
          rw [if_neg (fun h => hi h.2), bytes_len, he]
        by_cases hlt : e < (x.size : Int)
        · refine Ev.ite_pos hlt (Ev.ite_pos e0.1 ?_)
          have h58 : bt x e = 58 := by
            have hi58 : 0 ≤ idx 58 (bytesOf x) := by
              by_cases hh : 0 ≤ idx 58 (bytesOf x)
              · exact hh
              · rw [if_neg hh] at he; omega
            rw [if_pos hi58] at he
            have hsp := (idx_split hi58).1
            rw [he] at hsp
            have hdr : (bytesOf x).drop e.toNat = 58 :: (bytesOf x).drop (e.toNat + 1) := by
              have hlen : ((bytesOf x).take e.toNat).length = e.toNat := by rw [List.length_take, bytes_len]; omega
              have : ∀ (p q l : List Int), l = p ++ q → l.drop p.length = q := fun p q l h => by rw [h, List.drop_left]
              have := this _ _ _ hsp
              rw [hlen] at this
              exact this
            have := (at_drop hdr).1
            rw [show ((e.toNat : Nat) : Int) = e by omega] at this
            exact this
          rw [h58]
          exact last _ _ e0.1 e0.2 (by rw [hend, if_neg (by simp)])
        · refine Ev.ite_neg hlt ?_
          exact last _ _ e0.1 e0.2 (by rw [hend, if_neg (by simp)])
    · have hf : (c == 91) = false := by simp [hc]
      rw [hf]
      exact plain (by rw [hct]; simp [hc])
  · refine Ev.ite_neg hx ?_
    apply plain
    intro h
    have := congrArg List.length h
    rw [List.length_take, bytes_len] at this
    simp at this
    omega

theorem ref_l0 (s : ByteArray) (hs : s.size ≤ 140737488351232) : ∀ (t : List Int) (i : Nat) (at_ : Int) (r : _), (bytesOf s).drop i = t → i ≤ s.size →
    Ev (fun k => monikerref21_Part.l0 k s (if lidx 64 t = -1 then at_ else lidx 64 t + i) (s.size : Int) false ⟨#[]⟩ ⟨#[]⟩ false ⟨#[]⟩) r →
    Ev (fun k => monikerref21_Part.l0 k s at_ (i : Int) false ⟨#[]⟩ ⟨#[]⟩ false ⟨#[]⟩) r := by
  intro t
  induction t with
  | nil =>
    intro i a r hd hi h
    have := end_drop hd
    have : i = s.size := by omega
    subst this
    simpa [lidx] using h
  | cons b t ih =>
    intro i a r hd hi h
    obtain ⟨g1, g2, g3, _⟩ := at_drop hd
    have hg := lidx_ge 64 t
    refine Ev.step (fun k => by rw [monikerref21_Part.l0]) ?_
    refine Ev.ite_pos (by omega) (Ev.ite_pos (by omega) ?_)
    rw [w64 (by omega) (by omega), g1]
    have e1 : (i : Int) + 1 = ((i + 1 : Nat) : Int) := by omega
    rw [e1]
    unfold lidx at h
    by_cases hb : b = 64
    · refine Ev.ite_pos hb (ih (i + 1) _ _ g3 (by omega) ?_)
      by_cases hl : lidx 64 t = -1
      · rw [if_pos hl, if_pos hb] at h
        rw [if_pos hl]
        simpa using h
      · rw [if_neg hl] at h ⊢
        rw [if_neg (by omega)] at h
        rw [show lidx 64 t + ((i + 1 : Nat) : Int) = lidx 64 t + 1 + (i : Int) by omega]
        exact h
    · refine Ev.ite_neg hb (ih (i + 1) _ _ g3 (by omega) ?_)
      by_cases hl : lidx 64 t = -1
      · rw [if_pos hl, if_neg hb] at h
        rw [if_pos hl]
        simpa using h
      · rw [if_neg hl] at h ⊢
        rw [if_neg (by omega)] at h
        rw [show lidx 64 t + ((i + 1 : Nat) : Int) = lidx 64 t + 1 + (i : Int) by omega]
        exact h

theorem refPart_f (s : ByteArray) (hs : s.size ≤ 140737488351232) : Ev (fun k => monikerref21_Part.f k s) (partS s) := by
  have h1 := lidx_ge 64 (bytesOf s)
  have h2 := lidx_lt 64 (bytesOf s)
  rw [bytes_len] at h2
  unfold monikerref21_Part.f
  refine ref_l0 s hs (bytesOf s) 0 (-1) _ rfl (by omega) ?_
  have hat : (if lidx 64 (bytesOf s) = -1 then (-1 : Int) else lidx 64 (bytesOf s) + ((0 : Nat) : Int)) = lidx 64 (bytesOf s) := by split <;> omega
  rw [hat]
  have hz : (restS s).size ≤ s.size := by unfold restS; rw [size_extract_to]; omega
  have j1 : ∀ b u, Ev (fun k => monikerref21_Part.j1 k s (lidx 64 (bytesOf s)) b u ⟨#[]⟩ false ⟨#[]⟩) (cutAt b u (restS s) (hostEnd (bytesOf (restS s)))) := by
    intro b u
    refine Ev.step (fun k => by rw [monikerref21_Part.j1]) ?_
    rw [w64 (by omega) (by omega)]
    exact Ev.ite_pos (by omega) (Ev.ite_pos (by omega) (ref_rest b u (restS s) (by omega)))
  refine Ev.step (fun k => by rw [monikerref21_Part.l0]) ?_
  refine Ev.ite_neg (by omega) ?_
  by_cases h : lidx 64 (bytesOf s) ≥ 0
  · refine Ev.ite_pos h (Ev.ite_pos h (Ev.ite_pos (by omega) ?_))
    have := j1 true (s.extract 0 (lidx 64 (bytesOf s)).toNat)
    unfold partS
    rw [decide_eq_true h]
    exact this
  · refine Ev.ite_neg h ?_
    have := j1 false ⟨#[]⟩
    unfold partS
    have ht : (lidx 64 (bytesOf s)).toNat = 0 := by omega
    rw [decide_eq_false h, ht, extract_zero]
    exact this

/-- Three parts joined. -/
def joinS (x : Bool × ByteArray × ByteArray × Bool × ByteArray) : ByteArray :=
  (if x.1 = true then x.2.1 ++ ⟨#[64]⟩ ++ x.2.2.1 else x.2.2.1) ++ (if x.2.2.2.1 = true then ⟨#[58]⟩ ++ x.2.2.2.2 else ⟨#[]⟩)

theorem append_nil (s : ByteArray) : s ++ (⟨#[]⟩ : ByteArray) = s := by
  apply bytes_inj; rw [bytes_append]; exact List.append_nil _

theorem join_f (x : Bool × ByteArray × ByteArray × Bool × ByteArray) (h1 : x.2.1.size ≤ 1000000000000000) (h2 : x.2.2.1.size ≤ 1000000000000000) (h3 : x.2.2.2.2.size ≤ 1000000000000000) :
    seat_Join.f x.1 x.2.1 x.2.2.1 x.2.2.2.1 x.2.2.2.2 = some (joinS x) := by
  obtain ⟨a, u, h, b, p⟩ := x
  simp only at h1 h2 h3 ⊢
  have z1 : (⟨#[64]⟩ : ByteArray).size = 1 := rfl
  have z2 : (⟨#[58]⟩ : ByteArray).size = 1 := rfl
  unfold seat_Join.f joinS
  simp only [ByteArray.size_append, z1, z2]
  cases a <;> cases b
  · simp [append_nil]
  · rw [if_neg (by simp), if_pos rfl, if_pos (by omega), if_pos (by omega)]; simp
  · rw [if_pos rfl, if_pos (by omega), if_pos (by omega), if_neg (by simp)]; simp [append_nil]
  · rw [if_pos rfl, if_pos (by omega), if_pos (by omega), if_pos rfl, if_pos (by omega), if_pos (by omega)]; simp

theorem join_part (s : ByteArray) : joinS (partS s) = s := by
  apply bytes_inj
  have h1 := lidx_ge 64 (bytesOf s)
  have rest : bytesOf ((restS s).extract 0 (hostEnd (bytesOf (restS s))).toNat) ++ bytesOf (if decide (hostEnd (bytesOf (restS s)) < (restS s).size) = true then (⟨#[58]⟩ : ByteArray) ++ (restS s).extract ((hostEnd (bytesOf (restS s))).toNat + 1) (restS s).size else ⟨#[]⟩) = bytesOf (restS s) := by
    generalize restS s = x
    have hr := hostEnd_range (bytesOf x)
    rw [bytes_len] at hr
    rw [bytes_extract, List.drop_zero]
    by_cases h : hostEnd (bytesOf x) < x.size
    · rw [if_pos (decide_eq_true h), bytes_append, bytes_extract, ← bytes_len, List.take_length]
      have hb : bytesOf (⟨#[58]⟩ : ByteArray) = [58] := rfl
      rw [hb]
      have key : (bytesOf x).drop (hostEnd (bytesOf x)).toNat = 58 :: (bytesOf x).drop ((hostEnd (bytesOf x)).toNat + 1) := by
        obtain ⟨d, t, hd⟩ : ∃ d t, (bytesOf x).drop (hostEnd (bytesOf x)).toNat = d :: t := by
          cases hh : (bytesOf x).drop (hostEnd (bytesOf x)).toNat with
          | nil => rw [List.drop_eq_nil_iff, bytes_len] at hh; omega
          | cons d t => exact ⟨d, t, rfl⟩
        have g3 := (at_drop hd).2.2.1
        rw [hd, g3]
        congr 1
        have fromIdx : 0 ≤ idx 58 (bytesOf x) → hostEnd (bytesOf x) = idx 58 (bytesOf x) → d = 58 := by
          intro hi he
          have hsp := (idx_split hi).1
          have hlen : ((bytesOf x).take (idx 58 (bytesOf x)).toNat).length = (idx 58 (bytesOf x)).toNat := by
            have := idx_lt 58 (bytesOf x)
            rw [List.length_take]; omega
          have : ∀ (p q l : List Int), l = p ++ q → l.drop p.length = q := fun p q l h => by rw [h, List.drop_left]
          have := this _ _ _ hsp
          rw [hlen, ← he, hd] at this
          injection this
        by_cases hp : (bytesOf x).take 1 = [91] ∧ 0 ≤ idx 93 (bytesOf x)
        · by_cases hq : (bytesOf x).drop ((idx 93 (bytesOf x)).toNat + 1) = [] ∨ ((bytesOf x).drop ((idx 93 (bytesOf x)).toNat + 1)).getD 0 0 = 58
          · have he : hostEnd (bytesOf x) = idx 93 (bytesOf x) + 1 := by unfold hostEnd; rw [if_pos hp, if_pos hq]
            have hn : (hostEnd (bytesOf x)).toNat = (idx 93 (bytesOf x)).toNat + 1 := by omega
            rw [hn] at hd
            rw [hd] at hq
            rcases hq with hq | hq
            · cases hq
            · simpa using hq
          · have he : hostEnd (bytesOf x) = (bytesOf x).length := by unfold hostEnd; rw [if_pos hp, if_neg hq]
            rw [bytes_len] at he; omega
        · by_cases hi : 0 ≤ idx 58 (bytesOf x)
          · exact fromIdx hi (by unfold hostEnd; rw [if_neg hp, if_pos hi])
          · have he : hostEnd (bytesOf x) = (bytesOf x).length := by unfold hostEnd; rw [if_neg hp, if_neg hi]
            rw [bytes_len] at he; omega
      rw [List.singleton_append, ← key, List.take_append_drop]
    · rw [if_neg (by simpa using h)]
      have : bytesOf (⟨#[]⟩ : ByteArray) = [] := rfl
      rw [this, List.append_nil, List.take_of_length_le (by rw [bytes_len]; omega)]
  unfold joinS partS
  simp only
  rw [bytes_append]
  by_cases h : 0 ≤ lidx 64 (bytesOf s)
  · rw [if_pos (decide_eq_true h), bytes_append, bytes_append, List.append_assoc, rest]
    have hb : bytesOf (⟨#[64]⟩ : ByteArray) = [64] := rfl
    have hn : (lidx 64 (bytesOf s) + 1).toNat = (lidx 64 (bytesOf s)).toNat + 1 := by omega
    rw [hb, restS, bytes_extract, bytes_extract, List.drop_zero, hn, ← bytes_len, List.take_length, List.append_assoc, List.singleton_append]
    exact (lidx_split h).1.symm
  · rw [if_neg (by simpa using h), rest]
    have hn : (lidx 64 (bytesOf s) + 1).toNat = 0 := by omega
    rw [restS, hn, extract_all]

theorem part_sizes (s : ByteArray) : (partS s).2.1.size ≤ s.size ∧ (partS s).2.2.1.size ≤ s.size ∧ (partS s).2.2.2.2.size ≤ s.size := by
  have hz : (restS s).size ≤ s.size := by unfold restS; rw [size_extract_to]; omega
  unfold partS
  simp only [ByteArray.size_extract]
  omega
end Go.Proofs.Ytdmigmccfdhdiaa.Y
