/- Texts that the law's proof needs, joined by a program of this session. -/
import Derived.Test.YtpmflpeckoeooaaGreatDoorZSyntaxOne1
import Derived.Test.YtpmflpeckoeooaaGreatDoorZSyntaxOne2
import Derived.Test.YtpmflpeckoeooaaGreatDoorZSyntaxOne3
import Derived.Test.YtpmflpeckoeooaaGreatDoorZSyntaxOne5
import Derived.Test.YtpmflpeckoeooaaGreatDoorZSyntaxOne7
import Derived.Test.YtpmflpeckoeooaaGreatDoorZSyntaxOne9
import Derived.Test.YtpmflpeckoeooaaGreatDoorZSyntaxOne10
import Derived.Test.YtpmflpeckoeooaaGreatDoorZSyntaxOne12
import Derived.Test.YtpmflpeckoeooaaGreatDoorZSyntaxOne13
namespace Go.Proofs.YtpmflpeckoeooaaGreatDoor.Y
open Go.RowKit Go.Proofs.YtpmflpeckoeooaaGreatDoor.X Go.Proofs.YtpmflpeckoeooaaGreatDoor.M Go.Proofs.YtpmflpeckoeooaaGreatDoorW.PrintWords Go.Proofs.YtpmflpeckoeooaaGreatDoorW.PrintLast
theorem po (s : ByteArray) (c : Int) (h0 : 0 ≤ c) (h1 : c ≤ 255) : dt s c = some (idx c (aa s)) := by
  unfold dt iG
  rw [qc s c h0 h1]; rfl
theorem sd (s : ByteArray) (c : Int) (hs : s.size ≤ 140737488351232) : ∀ n : Nat, n ≤ s.size → Ev (fun k => bh k s c ((n : Int) - 1)) (bM c ((aa s).take n)) := by
  intro n
  induction n with
  | zero =>
    intro _
    refine Ev.step (fun k => rfl) ?_
    simp only [Int.natCast_zero, List.take_zero, bM]
    refine ae (by omega) (ay _)
  | succ n ih =>
    intro hn
    refine Ev.step (fun k => rfl) ?_
    have e : ((n + 1 : Nat) : Int) - 1 = (n : Int) := by omega
    rw [e, wV (by omega), wq]
    refine ab (by omega) (ab (by omega) (ab (by omega) ?_))
    by_cases hb : bt s (n : Int) = c
    · refine ab hb ?_
      rw [if_pos hb, List.length_take, af, Nat.min_eq_left (by omega)]
      exact ay _
    · refine ae hb ?_
      rw [if_neg hb, w64 (by omega) (by omega)]
      exact ih (by omega)
theorem qg (s : ByteArray) (c : Int) (hs : s.size ≤ 140737488351232) : Ev (fun k => cU k s c) (bM c (aa s)) := by
  refine ai (a := bM c (aa s)) (f := fun _ t => some t) ?_ (ay _)
  unfold bX
  rw [w64 (by omega) (by omega)]
  have := sd s c hs s.size (Nat.le_refl _)
  rw [← af, List.take_length, af] at this
  exact this
theorem nz (s p : ByteArray) : ev s p = some (decide ((aa s).take p.size = aa p)) := by
  unfold ev gq
  by_cases h : (s.size : Int) ≥ (p.size : Int)
  · rw [if_pos h, if_pos (by omega), if_pos (by omega)]
    simp only [Option.bind_some, Option.some.injEq, Int.toNat_natCast]
    rw [Bool.eq_iff_iff, beq_iff_eq, decide_eq_true_iff, jn, au, List.drop_zero]
  · rw [if_neg h]
    simp only [Option.bind_some, Option.some.injEq]
    symm
    rw [decide_eq_false_iff_not]
    intro e
    have := congrArg List.length e
    rw [List.length_take, af, af] at this
    omega
def aW (l : List Int) : Int :=
  if l.take 1 = [91] ∧ 0 ≤ idx 93 l then
    (if l.drop ((idx 93 l).toNat + 1) = [] ∨ (l.drop ((idx 93 l).toNat + 1)).getD 0 0 = 58 then idx 93 l + 1 else l.length)
  else if 0 ≤ idx 58 l then idx 58 l else l.length
theorem gm (l : List Int) : 0 ≤ aW l ∧ aW l ≤ l.length := by
  have h1 := lI 93 l
  have h2 := oL 93 l
  have h3 := lI 58 l
  have h4 := oL 58 l
  unfold aW
  split
  · split <;> omega
  · split <;> omega
def lA (s : ByteArray) : ByteArray × ByteArray := (s.extract 0 (aW (aa s)).toNat, s.extract (aW (aa s)).toNat s.size)
theorem ly (s : ByteArray) : s.extract 0 s.size = s := ByteArray.extract_zero_size
theorem oH (s : ByteArray) : s.extract s.size s.size = (⟨#[]⟩ : ByteArray) := by
  apply gK
  rw [au, ← af, List.take_length, List.drop_length]; rfl
theorem qb (s : ByteArray) (e : Int) (he : e = if 0 ≤ idx 58 (aa s) then idx 58 (aa s) else s.size) :
    ((dt s 58).bind fun t => (if t ≥ 0 then (if 0 ≤ t then (if t ≤ (s.size : Int) then (some (s.extract 0 (t : Int).toNat, s.extract (t : Int).toNat s.size)) else (none)) else (none)) else (some (s, (⟨#[]⟩ : ByteArray))))) = some (s.extract 0 e.toNat, s.extract e.toNat s.size) := by
  rw [po s 58 (by omega) (by omega)]
  simp only [Option.bind_some]
  have h3 := lI 58 (aa s)
  have h4 := oL 58 (aa s)
  rw [af] at h4
  by_cases h : 0 ≤ idx 58 (aa s)
  · rw [if_pos h] at he
    rw [if_pos h, if_pos h, if_pos (by omega), he]
  · rw [if_neg h] at he
    rw [if_neg h, he, Int.toNat_natCast, ly, oH]
theorem mw (s : ByteArray) (i : Nat) : (s.extract i s.size).toList = ([] : List UInt8) ↔ (aa s).drop i = [] := by
  have : ([] : List UInt8) = (⟨#[]⟩ : ByteArray).toList := by rw [ByteArray.toList_eq]
  rw [this, jn, au, ← af, List.take_length]
  exact Iff.rfl
theorem vZ (s : ByteArray) (hs : s.size ≤ 140737488351232) : Ev (fun k => gI k s) (lA s) := by
  have h1 := lI 93 (aa s)
  have h2 := oL 93 (aa s)
  rw [af] at h2
  unfold gI
  rw [nz]
  simp only [Option.bind_some, decide_eq_true_iff]
  have hb : aa (⟨#[91]⟩ : ByteArray) = [91] := rfl
  have hz : (⟨#[91]⟩ : ByteArray).size = 1 := rfl
  rw [hb, hz]
  by_cases hp : (aa s).take 1 = [91]
  · simp only [if_pos hp]
    rw [po s 93 (by omega) (by omega)]
    simp only [Option.bind_some]
    by_cases h : idx 93 (aa s) ≥ 0
    · refine ab h ?_
      rw [w64 (by omega) (by omega)]
      refine ab (by omega) (ab (by omega) ?_)
      have hn : (idx 93 (aa s) + 1).toNat = (idx 93 (aa s)).toNat + 1 := by omega
      rw [hn]
      have fin : ∀ x b, Ev (fun k => eH k s (idx 93 (aa s)) x b) (if b = true then (s.extract 0 ((idx 93 (aa s)).toNat + 1), x) else (s, ⟨#[]⟩)) := by
        intro x b
        refine Ev.step (fun k => by rw [eH]) ?_
        rw [w64 (by omega) (by omega)]
        cases b
        · exact ae (by simp) (ay _)
        · refine ab rfl (ab (by omega) (ab (by omega) ?_))
          rw [hn]
          exact ay _
      by_cases hd : (aa s).drop ((idx 93 (aa s)).toNat + 1) = []
      · refine ab ((mw s _).2 hd) ?_
        have : lA s = (s.extract 0 ((idx 93 (aa s)).toNat + 1), s.extract ((idx 93 (aa s)).toNat + 1) s.size) := by
          unfold lA aW
          rw [if_pos ⟨hp, h⟩, if_pos (.inl hd), hn]
        rw [this]
        exact (fin _ true)
      · refine ae (fun x => hd ((mw s _).1 x)) ?_
        obtain ⟨b, t, hbt⟩ : ∃ b t, (aa s).drop ((idx 93 (aa s)).toNat + 1) = b :: t := by
          cases hh : (aa s).drop ((idx 93 (aa s)).toNat + 1) with
          | nil => exact absurd hh hd
          | cons b t => exact ⟨b, t, rfl⟩
        have hx : (aa (s.extract ((idx 93 (aa s)).toNat + 1) s.size)).drop 0 = b :: t := by
          rw [au, ← af, List.take_length, List.drop_zero, hbt]
        obtain ⟨g1, g2, _⟩ := qB hx
        rw [Int.natCast_zero] at g1
        rw [g1]
        refine ab (by omega) ?_
        have hg : (List.drop ((idx 93 (aa s)).toNat + 1) (aa s)).getD 0 0 = b := by rw [hbt]; rfl
        have : lA s = (if (b == 58) = true then (s.extract 0 ((idx 93 (aa s)).toNat + 1), s.extract ((idx 93 (aa s)).toNat + 1) s.size) else (s, ⟨#[]⟩)) := by
          unfold lA aW
          rw [if_pos ⟨hp, h⟩, hg]
          by_cases hb58 : b = 58
          · rw [if_pos (.inr hb58), if_pos (by simp [hb58]), hn]
          · rw [if_neg (by simp [hd, hb58]), if_neg (by simp [hb58]), af, Int.toNat_natCast, ly, oH]
        rw [this]
        exact fin _ _
    · simp only [if_neg h]
      rw [qb s (aW (aa s)) (by
        unfold aW
        rw [if_neg (by omega), af])]
      exact ay _
  · simp only [if_neg hp]
    rw [qb s (aW (aa s)) (by
      unfold aW
      rw [if_neg (fun x => hp x.1), af])]
    exact ay _
def bz (s : ByteArray) : ByteArray := s.extract (bM 64 (aa s) + 1).toNat s.size
def bA (s : ByteArray) : Bool × ByteArray × ByteArray × Bool × ByteArray :=
  (decide (0 ≤ bM 64 (aa s)), s.extract 0 (bM 64 (aa s)).toNat, (bz s).extract 0 (aW (aa (bz s))).toNat,
   decide (aW (aa (bz s)) < (bz s).size), (bz s).extract ((aW (aa (bz s))).toNat + 1) (bz s).size)
theorem k8 (s : ByteArray) : s.extract 0 0 = (⟨#[]⟩ : ByteArray) := by
  apply gK; rw [au]; rfl
theorem gf (s : ByteArray) (i : Nat) : (s.extract i s.size).size = s.size - i := by
  rw [ByteArray.size_extract, Nat.min_self]
theorem k7 (s : ByteArray) (i : Nat) (h : s.size ≤ i) : s.extract i s.size = (⟨#[]⟩ : ByteArray) := by
  apply gK
  rw [au, List.drop_of_length_le (by rw [List.length_take, af]; omega)]; rfl
theorem jQ (s : ByteArray) (i j : Nat) : (s.extract i s.size).extract j (s.extract i s.size).size = s.extract (i + j) s.size := by
  apply gK
  rw [au, au, au, ← af (s.extract i s.size), au, List.take_length, List.drop_drop]
theorem zL (s : ByteArray) (hs : s.size ≤ 140737488351232) : Ev (fun k => aaC k s) (bA s) := by
  have h1 := mt 64 (aa s)
  have h2 := ud 64 (aa s)
  rw [af] at h2
  unfold aaC
  refine ai (qg s 64 hs) ?_
  have port : ∀ (r : ByteArray), r.size ≤ s.size → (lA r).2.size = r.size - (aW (aa r)).toNat ∧ ((lA r).2.toList = ([] : List UInt8) ↔ ¬ aW (aa r) < r.size) := by
    intro r _
    have hr := gm (aa r)
    rw [af] at hr
    refine ⟨gf r _, ?_⟩
    unfold lA
    rw [mw, List.drop_eq_nil_iff, af]
    omega
  by_cases h : bM 64 (aa s) ≥ 0
  · have hz : (bz s).size ≤ s.size := by unfold bz; rw [gf]; omega
    obtain ⟨p1, p2⟩ := port (bz s) hz
    have hr := gm (aa (bz s))
    rw [af] at hr
    refine ab h (ab h (ab (by omega) ?_))
    rw [w64 (by omega) (by omega)]
    refine ab (by omega) (ab (by omega) ?_)
    refine ai (vZ (bz s) (by omega)) ?_
    by_cases hp : aW (aa (bz s)) < (bz s).size
    · refine ae (fun x => absurd hp (p2.1 x)) (ab (by rw [p1]; omega) (pS fun _ => ?_))
      unfold bA
      rw [decide_eq_true h, decide_eq_true hp]
      simp only [lA, jQ]
    · refine ab (p2.2 hp) (pS fun _ => ?_)
      unfold bA
      rw [decide_eq_true h, decide_eq_false hp, k7 (bz s) _ (by omega)]
      rfl
  · have hr0 : bz s = s := by
      unfold bz
      have : (bM 64 (aa s) + 1).toNat = 0 := by omega
      rw [this, ly]
    obtain ⟨p1, p2⟩ := port s (Nat.le_refl _)
    have hr := gm (aa s)
    rw [af] at hr
    have ht : (bM 64 (aa s)).toNat = 0 := by omega
    refine ae h ?_
    refine ai (vZ s hs) ?_
    by_cases hp : aW (aa s) < s.size
    · refine ae (fun x => absurd hp (p2.1 x)) (ab (by rw [p1]; omega) (pS fun _ => ?_))
      unfold bA
      rw [hr0, decide_eq_false h, decide_eq_true hp, ht, k8]
      simp only [lA, jQ]
    · refine ab (p2.2 hp) (pS fun _ => ?_)
      unfold bA
      rw [hr0, decide_eq_false h, decide_eq_false hp, ht, k8, k7 s _ (by omega)]
      rfl
def uQ (x : Bool × ByteArray × ByteArray × Bool × ByteArray) : ByteArray :=
  (if x.1 = true then x.2.1 ++ ⟨#[64]⟩ ++ x.2.2.1 else x.2.2.1) ++ (if x.2.2.2.1 = true then ⟨#[58]⟩ ++ x.2.2.2.2 else ⟨#[]⟩)
theorem append_nil (s : ByteArray) : s ++ (⟨#[]⟩ : ByteArray) = s := by
  apply gK; rw [bl]; exact List.append_nil _
theorem wj (s : ByteArray) : uQ (bA s) = s := by
  apply gK
  have h1 := mt 64 (aa s)
  have rest : aa ((bz s).extract 0 (aW (aa (bz s))).toNat) ++ aa (if decide (aW (aa (bz s)) < (bz s).size) = true then (⟨#[58]⟩ : ByteArray) ++ (bz s).extract ((aW (aa (bz s))).toNat + 1) (bz s).size else ⟨#[]⟩) = aa (bz s) := by
    generalize bz s = x
    have hr := gm (aa x)
    rw [af] at hr
    rw [au, List.drop_zero]
    by_cases h : aW (aa x) < x.size
    · rw [if_pos (decide_eq_true h), bl, au, ← af, List.take_length]
      have hb : aa (⟨#[58]⟩ : ByteArray) = [58] := rfl
      rw [hb]
      have key : (aa x).drop (aW (aa x)).toNat = 58 :: (aa x).drop ((aW (aa x)).toNat + 1) := by
        obtain ⟨d, t, hd⟩ : ∃ d t, (aa x).drop (aW (aa x)).toNat = d :: t := by
          cases hh : (aa x).drop (aW (aa x)).toNat with
          | nil => rw [List.drop_eq_nil_iff, af] at hh; omega
          | cons d t => exact ⟨d, t, rfl⟩
        have g3 := (qB hd).2.2.1
        rw [hd, g3]
        congr 1
        have fromIdx : 0 ≤ idx 58 (aa x) → aW (aa x) = idx 58 (aa x) → d = 58 := by
          intro hi he
          have hsp := (oM hi).1
          have hlen : ((aa x).take (idx 58 (aa x)).toNat).length = (idx 58 (aa x)).toNat := by
            have := oL 58 (aa x)
            rw [List.length_take]; omega
          have : ∀ (p q l : List Int), l = p ++ q → l.drop p.length = q := fun p q l h => by rw [h, List.drop_left]
          have := this _ _ _ hsp
          rw [hlen, ← he, hd] at this
          injection this
        by_cases hp : (aa x).take 1 = [91] ∧ 0 ≤ idx 93 (aa x)
        · by_cases hq : (aa x).drop ((idx 93 (aa x)).toNat + 1) = [] ∨ ((aa x).drop ((idx 93 (aa x)).toNat + 1)).getD 0 0 = 58
          · have he : aW (aa x) = idx 93 (aa x) + 1 := by unfold aW; rw [if_pos hp, if_pos hq]
            have hn : (aW (aa x)).toNat = (idx 93 (aa x)).toNat + 1 := by omega
            rw [hn] at hd
            rw [hd] at hq
            rcases hq with hq | hq
            · cases hq
            · simpa using hq
          · have he : aW (aa x) = (aa x).length := by unfold aW; rw [if_pos hp, if_neg hq]
            rw [af] at he; omega
        · by_cases hi : 0 ≤ idx 58 (aa x)
          · exact fromIdx hi (by unfold aW; rw [if_neg hp, if_pos hi])
          · have he : aW (aa x) = (aa x).length := by unfold aW; rw [if_neg hp, if_neg hi]
            rw [af] at he; omega
      rw [List.singleton_append, ← key, List.take_append_drop]
    · rw [if_neg (by simpa using h)]
      have : aa (⟨#[]⟩ : ByteArray) = [] := rfl
      rw [this, List.append_nil, List.take_of_length_le (by rw [af]; omega)]
  unfold uQ bA
  simp only
  rw [bl]
  by_cases h : 0 ≤ bM 64 (aa s)
  · rw [if_pos (decide_eq_true h), bl, bl, List.append_assoc, rest]
    have hb : aa (⟨#[64]⟩ : ByteArray) = [64] := rfl
    have hn : (bM 64 (aa s) + 1).toNat = (bM 64 (aa s)).toNat + 1 := by omega
    rw [hb, bz, au, au, List.drop_zero, hn, ← af, List.take_length, List.append_assoc, List.singleton_append]
    exact (qh h).1.symm
  · rw [if_neg (by simpa using h), rest]
    have hn : (bM 64 (aa s) + 1).toNat = 0 := by omega
    rw [bz, hn, ly]
theorem uX (s : ByteArray) : (bA s).2.1.size ≤ s.size ∧ (bA s).2.2.1.size ≤ s.size ∧ (bA s).2.2.2.2.size ≤ s.size := by
  have hz : (bz s).size ≤ s.size := by unfold bz; rw [gf]; omega
  unfold bA
  simp only [ByteArray.size_extract]
  omega
end Go.Proofs.YtpmflpeckoeooaaGreatDoor.Y
namespace Go.Proofs.YtpmflpeckoeooaaGreatDoor.Y
open Go.RowKit Go.Proofs.YtpmflpeckoeooaaGreatDoor.X Go.Proofs.YtpmflpeckoeooaaGreatDoor.M Go.Proofs.YtpmflpeckoeooaaGreatDoorW.PrintWords Go.Proofs.YtpmflpeckoeooaaGreatDoorW.PrintLast Go.Proofs.YtpmflpeckoeooaaGreatDoorW.PrintMore
set_option linter.unusedVariables false
def jY (iri hu : Bool) (u h : List Int) (hp : Bool) (p : List Int) : Bool := (!hu || bo 1 iri u) && (iM iri h != 0) && (!hp || p.all dM)
theorem rv (c : Int) (l : List Int) : ∀ b ∈ l, b = c ∨ ∃ p ∈ b6 c l, b ∈ p := by
  induction l with
  | nil => intro b h; cases h
  | cons x t ih =>
    intro b h
    rw [gJ]
    by_cases hx : x = c
    · rw [if_pos hx]
      rcases List.mem_cons.1 h with h | h
      · left; rw [h]; exact hx
      · rcases ih b h with h | ⟨p, hp, h2⟩
        · exact .inl h
        · exact .inr ⟨p, List.mem_cons_of_mem _ hp, h2⟩
    · rw [if_neg hx]
      rcases List.mem_cons.1 h with h | h
      · exact .inr ⟨_, List.mem_cons_self .., by rw [h]; exact List.mem_cons_self ..⟩
      · rcases ih b h with h | ⟨p, hp, h2⟩
        · exact .inl h
        · right
          rw [kz c t] at hp
          rcases List.mem_cons.1 hp with rfl | hp
          · exact ⟨_, List.mem_cons_self .., List.mem_cons_of_mem _ h2⟩
          · exact ⟨p, List.mem_cons_of_mem _ hp, h2⟩
def iT (b : Int) : Bool := bC b || b == 58 || b == 46
theorem uz {b : Int} (h : dM b = true) : iT b = true := by
  have := jc.1 h
  unfold iT bC
  simp only [Bool.or_eq_true, decide_eq_true_iff]
  omega
theorem pQ {l : List Int} (h : (v4 l).isSome = true) : ∀ b ∈ l, dM b = true ∨ b = 46 := by
  intro b hb
  unfold v4 at h
  split at h
  · rename_i x y z w e
    split at h
    · rename_i hd
      rcases rv 46 l b hb with h1 | ⟨p, hp, h1⟩
      · exact .inr h1
      · left
        rw [e] at hp
        simp only [List.mem_cons, List.mem_nil_iff, or_false] at hp
        have key : ∀ q : List Int, 0 ≤ d8 q → b ∈ q → dM b = true := fun q hq hm => List.all_eq_true.1 (xl hq) b hm
        rcases hp with rfl | rfl | rfl | rfl
        · exact key _ hd.1 h1
        · exact key _ hd.2.1 h1
        · exact key _ hd.2.2.1 h1
        · exact key _ hd.2.2.2 h1
    · cases h
  · cases h
theorem tO {fin : Bool} {r : List (List Int)} {l : List Int} (h : gj fin r = some l) : ∀ p ∈ r, ∀ b ∈ p, iT b = true := by
  induction r generalizing l with
  | nil => simp
  | cons q r ih =>
    rw [jo] at h
    intro p hp b hb
    split at h
    · rename_i hc
      rw [hc.1] at hp
      rw [List.mem_singleton] at hp
      subst hp
      rcases pQ hc.2.2 b hb with h1 | h1
      · exact uz h1
      · rw [h1]; rfl
    · split at h
      · cases h
      · rename_i hw
        obtain ⟨x, hx, rfl⟩ := Option.map_eq_some_iff.1 h
        rcases List.mem_cons.1 hp with rfl | hp
        · have := List.all_eq_true.1 (sE (l := p) (by omega)).1 b hb
          unfold iT
          rw [this]; rfl
        · exact ih hx p hp b hb
theorem oq {fin : Bool} {l w : List Int} (h : gC fin l = some w) : ∀ b ∈ l, iT b = true := by
  intro b hb
  unfold gC at h
  split at h
  · rename_i e; rw [e] at hb; cases hb
  · rcases rv 58 l b hb with h1 | ⟨p, hp, h1⟩
    · rw [h1]; rfl
    · exact tO h p hp b h1
theorem sD {l : List Int} (h : (v6 l).isSome = true) : ∀ b ∈ l, iT b = true := by
  intro b hb
  obtain ⟨w, hw⟩ := Option.isSome_iff_exists.1 h
  unfold v6 at hw
  split at hw
  · obtain ⟨x, hx, _⟩ := Option.bind_eq_some_iff.1 hw
    exact oq hx b hb
  · rename_i hs
    obtain ⟨x, hx, hw⟩ := Option.bind_eq_some_iff.1 hw
    obtain ⟨y, hy, _⟩ := Option.bind_eq_some_iff.1 hw
    have hsp := mr (sub := [58, 58]) (l := l) (by omega)
    have e : l = l.take (cz [58, 58] l).toNat ++ ([58, 58] ++ l.drop ((cz [58, 58] l).toNat + 2)) := by
      have h1 := (List.take_append_drop (cz [58, 58] l).toNat l).symm
      have h2 := (List.take_append_drop 2 (l.drop (cz [58, 58] l).toNat)).symm
      have h3 : (l.drop (cz [58, 58] l).toNat).take 2 = [58, 58] := hsp.2
      rw [h3, List.drop_drop] at h2
      rw [← h2]
      exact h1
    rw [e] at hb
    rcases List.mem_append.1 hb with h1 | h1
    · exact oq hx b h1
    · rcases List.mem_append.1 h1 with h1 | h1
      · simp only [List.mem_cons, List.mem_nil_iff, or_false] at h1
        rcases h1 with rfl | rfl <;> rfl
      · exact oq hy b h1
theorem re {l : List Int} (h : fut l = true) : ∀ b ∈ l, iT b = true ∨ cf 1 b = true ∨ b = 118 ∨ b = 86 := by
  cases l with
  | nil => cases h
  | cons v t =>
    rw [pB] at h
    simp only [Bool.and_eq_true, Bool.or_eq_true, beq_iff_eq] at h
    obtain ⟨⟨⟨⟨h1, h2⟩, h3⟩, h4⟩, h5⟩ := h
    intro b hb
    rcases List.mem_cons.1 hb with rfl | hb
    · rcases h1 with h1 | h1
      · exact .inr (.inr (.inl h1))
      · exact .inr (.inr (.inr h1))
    · rw [← List.take_append_drop (be bC t) t] at hb
      rcases List.mem_append.1 hb with hb | hb
      · left
        have := qr t b hb
        unfold iT
        rw [this]; rfl
      · cases hr : t.drop (be bC t) with
        | nil => rw [hr] at hb; cases hb
        | cons c r =>
          rw [hr] at hb h4 h5
          rcases List.mem_cons.1 hb with rfl | hb
          · left
            have : b = 46 := h4
            rw [this]; rfl
          · exact .inr (.inl (List.all_eq_true.1 h5 b hb))
theorem yG {b : Int} (h : jq 2 b = true) : b ≠ 58 ∧ b ≠ 64 ∧ b ≠ 91 ∧ b ≠ 93 := by
  refine ⟨?_, ?_, ?_, ?_⟩ <;> (rintro rfl; exact absurd h (by decide))
theorem oO {b : Int} (h : iT b = true ∨ cf 1 b = true ∨ b = 118 ∨ b = 86) : b ≠ 64 ∧ b ≠ 93 := by
  constructor <;> (rintro rfl; exact absurd h (by decide))
theorem pi {l : List Int} (h : mi l = true) : l = 91 :: ((l.take (l.length - 1)).drop 1 ++ [93]) := by
  unfold mi at h
  simp only [Bool.and_eq_true, decide_eq_true_iff, beq_iff_eq] at h
  obtain ⟨⟨h1, h2⟩, h3⟩ := h
  cases l with
  | nil => simp at h1
  | cons a t =>
    have ha : a = 91 := h2
    subst ha
    have ht : t ≠ [] := by rintro rfl; simp at h1
    have e : t = t.dropLast ++ [93] := by
      have := (List.dropLast_concat_getLast ht).symm
      have hl : t.getLast ht = 93 := by
        rw [List.getLastD_eq_getLast?, List.getLast?_eq_some_getLast (by simp), Option.getD_some, List.getLast_cons ht] at h3
        exact h3
      rw [hl] at this
      exact this
    congr 1
    rw [show (91 :: t).length - 1 = (t.length - 1) + 1 by
      have : t.length ≠ 0 := fun x => ht (List.length_eq_zero_iff.1 x)
      simp; omega]
    rw [List.take_succ_cons, List.drop_succ_cons, List.drop_zero, ← List.dropLast_eq_take]
    exact e
theorem tC {iri : Bool} {h : List Int} (hl : ∀ b ∈ h, 0 ≤ b ∧ b ≤ 255) (hk : iM iri h ≠ 0) : (64 : Int) ∉ h ∧ ((∃ m, h = 91 :: (m ++ [93]) ∧ (93 : Int) ∉ m) ∨ ((58 : Int) ∉ h ∧ (91 : Int) ∉ h)) := by
  unfold iM at hk
  by_cases hb : mi h = true
  · rw [if_pos hb] at hk
    have e := pi hb
    generalize (h.take (h.length - 1)).drop 1 = m at hk e
    have hm : ∀ b ∈ m, b ≠ 64 ∧ b ≠ 93 := by
      by_cases hc : ((v6 m).isSome || fut m) = true
      · rw [Bool.or_eq_true] at hc
        rcases hc with hc | hc
        · exact fun b hb => oO (.inl (sD hc b hb))
        · exact fun b hb => oO (re hc b hb)
      · rw [if_neg hc] at hk
        exact absurd rfl hk
    refine ⟨?_, .inl ⟨m, e, fun x => (hm _ x).2 rfl⟩⟩
    rw [e]
    intro x
    rcases List.mem_cons.1 x with x | x
    · cases x
    · rcases List.mem_append.1 x with x | x
      · exact (hm _ x).1 rfl
      · rw [List.mem_singleton] at x; cases x
  · rw [if_neg hb] at hk
    have key : ∀ b ∈ h, b ≠ 58 ∧ b ≠ 64 ∧ b ≠ 91 := by
      by_cases h4 : (v4 h).isSome = true
      · intro b hb
        rcases pQ h4 b hb with h1 | h1
        · have := jc.1 h1; omega
        · omega
      · rw [if_neg h4] at hk
        by_cases ha : bo 2 iri h = true
        · intro b hb
          have := yG (ks hl ha b hb)
          exact ⟨this.1, this.2.1, this.2.2.1⟩
        · rw [if_neg ha] at hk
          exact absurd rfl hk
    exact ⟨fun x => (key _ x).2.1 rfl, .inr ⟨fun x => (key _ x).1 rfl, fun x => (key _ x).2.2 rfl⟩⟩
theorem wb {c : Int} {a : List Int} (h : c ∉ a) (r : List Int) : idx c (a ++ c :: r) = a.length := by
  rw [uL, if_pos (pD.2 h)]
  have : idx c (c :: r) = 0 := by unfold idx; rw [if_pos rfl]
  rw [this, if_neg (by omega)]; omega
theorem zb {c : Int} (a : List Int) {r : List Int} (h : c ∉ r) : bM c (a ++ c :: r) = a.length := by
  induction a with
  | nil =>
    rw [List.nil_append]
    have : bM c (c :: r) = if bM c r = -1 then (if c = c then 0 else -1) else bM c r + 1 := rfl
    rw [this, if_pos (oV.2 h), if_pos rfl]; rfl
  | cons b t ih =>
    rw [List.cons_append]
    have : bM c (b :: (t ++ c :: r)) = if bM c (t ++ c :: r) = -1 then (if b = c then 0 else -1) else bM c (t ++ c :: r) + 1 := rfl
    rw [this, ih, if_neg (by omega), List.length_cons]; omega
def uF (hu : Bool) (u h : List Int) (hp : Bool) (p : List Int) : List Int := (if hu then u ++ [64] else []) ++ (h ++ if hp then 58 :: p else [])
def rK (l : List Int) : Bool × List Int × List Int × Bool × List Int :=
  (decide (0 ≤ bM 64 l), l.take (bM 64 l).toNat, (l.drop (bM 64 l + 1).toNat).take (aW (l.drop (bM 64 l + 1).toNat)).toNat,
   decide (aW (l.drop (bM 64 l + 1).toNat) < (l.drop (bM 64 l + 1).toNat).length), (l.drop (bM 64 l + 1).toNat).drop ((aW (l.drop (bM 64 l + 1).toNat)).toNat + 1))
theorem ry {h : List Int} (hh : (∃ m, h = 91 :: (m ++ [93]) ∧ (93 : Int) ∉ m) ∨ ((58 : Int) ∉ h ∧ (91 : Int) ∉ h)) (hp : Bool) (p : List Int) : aW (h ++ if hp then 58 :: p else []) = h.length := by
  rcases hh with ⟨m, e, hm⟩ | ⟨h58, h91⟩
  · have e2 : h ++ (if hp then 58 :: p else []) = (91 :: m) ++ 93 :: (if hp then 58 :: p else []) := by rw [e]; simp
    have hi : idx 93 ((91 :: m) ++ 93 :: (if hp then 58 :: p else [])) = (m.length : Int) + 1 := by
      rw [wb (by rw [List.mem_cons, not_or]; exact ⟨by decide, hm⟩), List.length_cons]; omega
    have hl : h.length = m.length + 2 := by rw [e]; simp
    rw [e2]
    unfold aW
    rw [hi, if_pos ⟨by simp, by omega⟩]
    have hd : ((91 :: m) ++ 93 :: (if hp then 58 :: p else [])).drop (((m.length : Int) + 1).toNat + 1) = if hp then 58 :: p else [] := by
      have : ((m.length : Int) + 1).toNat + 1 = ((91 : Int) :: m).length + 1 := by rw [List.length_cons]; omega
      rw [this, List.drop_append]
      simp
    rw [hd, if_pos (by cases hp <;> simp)]
    omega
  · have ht : ¬ ((h ++ if hp then 58 :: p else []).take 1 = [91]) := by
      cases h with
      | nil => cases hp <;> simp
      | cons b t =>
        rw [List.cons_append, List.take_succ_cons, List.take_zero]
        intro x
        injection x with x
        exact h91 (by rw [x]; exact List.mem_cons_self ..)
    unfold aW
    rw [if_neg (fun x => ht x.1)]
    cases hp
    · have : idx 58 (h ++ if false = true then 58 :: p else []) = -1 := by
        rw [if_neg (by simp), List.append_nil]
        exact pD.2 h58
      rw [this, if_neg (by omega), if_neg (by simp), List.append_nil]
    · have : idx 58 (h ++ if true = true then 58 :: p else []) = h.length := by
        rw [if_pos rfl]
        exact wb h58 p
      rw [this, if_pos (by omega)]
theorem vr {iri hu : Bool} {u h : List Int} {hp : Bool} {p : List Int} (hul : ∀ b ∈ u, 0 ≤ b ∧ b ≤ 255) (hhl : ∀ b ∈ h, 0 ≤ b ∧ b ≤ 255) (hu0 : hu = false → u = []) (hp0 : hp = false → p = [])
    (hr : jY iri hu u h hp p = true) : rK (uF hu u h hp p) = (hu, u, h, hp, p) := by
  unfold jY at hr
  simp only [Bool.and_eq_true, Bool.or_eq_true, Bool.not_eq_true'] at hr
  obtain ⟨⟨h1, h2⟩, h3⟩ := hr
  have h2' : iM iri h ≠ 0 := by simpa using h2
  obtain ⟨h64, hform⟩ := tC hhl h2'
  have he := ry hform hp p
  have hrest : (64 : Int) ∉ h ++ if hp then 58 :: p else [] := by
    intro x
    rcases List.mem_append.1 x with x | x
    · exact h64 x
    · cases hp
      · simp at x
      · rw [if_pos rfl] at x
        rcases List.mem_cons.1 x with x | x
        · cases x
        · rcases h3 with h3 | h3
          · cases h3
          · have := jc.1 (List.all_eq_true.1 h3 _ x); omega
  have both : ∀ r, r = h ++ (if hp then 58 :: p else []) → r.take (aW r).toNat = h ∧ decide (aW r < r.length) = hp ∧ r.drop ((aW r).toNat + 1) = p := by
    intro r e
    subst e
    rw [he, Int.toNat_natCast]
    refine ⟨by simp, ?_, ?_⟩
    · cases hp
      · rw [decide_eq_false]; simp
      · rw [decide_eq_true]; simp; omega
    · cases hp
      · rw [hp0 rfl]
        apply List.drop_of_length_le
        simp
      · rw [if_pos rfl, List.drop_append]
        simp
  unfold rK uF
  cases hu
  · have hl : bM 64 ((if false = true then u ++ [64] else []) ++ (h ++ if hp then 58 :: p else [])) = -1 := by
      rw [if_neg (by simp), List.nil_append]
      exact oV.2 hrest
    rw [hl, if_neg (by simp), List.nil_append]
    obtain ⟨b1, b2, b3⟩ := both _ rfl
    have e0 : ((-1 : Int) + 1).toNat = 0 := rfl
    rw [e0, List.drop_zero, b1, b2, b3, hu0 rfl]
    rfl
  · have hl : bM 64 ((if true = true then u ++ [64] else []) ++ (h ++ if hp then 58 :: p else [])) = u.length := by
      rw [if_pos rfl, List.append_assoc, List.singleton_append]
      exact zb u hrest
    rw [hl, if_pos rfl]
    obtain ⟨b1, b2, b3⟩ := both _ rfl
    have e0 : ((u.length : Int) + 1).toNat = u.length + 1 := by omega
    have e1 : ((u ++ [64]) ++ (h ++ if hp then 58 :: p else [])).drop (u.length + 1) = h ++ if hp then 58 :: p else [] := by
      rw [List.drop_append]; simp
    have e2 : ((u ++ [64]) ++ (h ++ if hp then 58 :: p else [])).take u.length = u := by
      rw [List.append_assoc]; simp
    rw [e0, e1, b1, b2, b3, Int.toNat_natCast, e2, decide_eq_true (by omega)]
theorem pu (l : List Int) (hl : ∀ b ∈ l, 0 ≤ b ∧ b ≤ 255) : (((be (fun b => isc b 2) l : Nat) : Int) = (l.length : Int)) ↔ l.all dM = true := by
  rw [pv (q := dM) (fun b hb => rh (hl b hb).1 (hl b hb).2), List.all_eq_true]
  have := wR (p := dM) (l := l)
  constructor
  · intro h; exact this.1 (by omega)
  · intro h; have := this.2 h; omega
theorem tK (iri hu : Bool) (u h : ByteArray) (hp : Bool) (p : ByteArray) (s1 : u.size ≤ 1000000) (s2 : h.size ≤ 1000000) (s3 : p.size ≤ 1000000) :
    Ev (fun k => gR k iri hu u h hp p) (jY iri hu (aa u) (aa h) hp (aa p)) := by
  have bad : Ev (fun k => cX k iri true hu u h hp p) false := by
    refine Ev.step (fun k => by rw [cX]) ?_
    exact ab rfl (ay _)
  have eM : Ev (fun k => cX k iri false hu u h hp p) ((iM iri (aa h) != 0) && (!hp || (aa p).all dM)) := by
    refine Ev.step (fun k => by rw [cX]) ?_
    refine ae (by simp) (ai (xy iri h s2) ?_)
    refine Ev.ite (fun h0 => Ev.val (by simp [h0])) (fun h0 => ?_)
    have e0 : (iM iri (aa h) != 0) = true := by simpa using h0
    rw [e0]
    refine Ev.ite (fun h1 => ai (rm p 2 (by omega)) (Ev.val ?_)) (fun h1 => Ev.val ?_)
    · have := pu (aa p) (fun b hb => ed hb)
      rw [af] at this
      rw [h1, Bool.eq_iff_iff, beq_iff_eq, this]
      simp
    · rw [Bool.not_eq_true] at h1
      simp [h1]
  unfold gR jY
  cases hu
  · refine ae (by simp) ?_
    simp only [Bool.not_false, Bool.true_or, Bool.true_and]
    exact eM
  · refine ab rfl (ai (ym 1 iri u (by omega)) ?_)
    cases ha : bo 1 iri (aa u)
    · exact bad
    · simp only [Bool.not_true, Bool.or_true, Bool.true_and]
      exact eM
theorem qm (iri hu : Bool) (u h : ByteArray) (hp : Bool) (p : ByteArray) (s1 : u.size ≤ 1000000) (s2 : h.size ≤ 1000000) (s3 : p.size ≤ 1000000) :
    Ev (fun k => eT k iri hu u h hp p) (jY iri hu (aa u) (aa h) hp (aa p)) := by
  have bad : Ev (fun k => aay k iri true hu u h hp p) false := by
    refine Ev.step (fun k => by rw [aay]) ?_
    exact ab rfl (ay _)
  have eM : Ev (fun k => aay k iri false hu u h hp p) ((iM iri (aa h) != 0) && (!hp || (aa p).all dM)) := by
    refine Ev.step (fun k => by rw [aay]) ?_
    refine ae (by simp) ?_
    refine Ev.ite (fun h1 => ai (wH p 2 (by omega)) ?_) (fun h1 => ?_)
    · have := pu (aa p) (fun b hb => ed hb)
      rw [af] at this
      rw [h1]
      refine Ev.ite (fun h2 => ai (rr iri h s2) (Ev.val ?_)) (fun h2 => Ev.val ?_)
      · rw [this.1 h2]; simp
      · have h3 : ¬ ((aa p).all dM = true) := fun x => h2 (this.2 x)
        rw [Bool.not_eq_true] at h3
        rw [h3]; simp
    · rw [Bool.not_eq_true] at h1
      rw [h1]
      exact ai (rr iri h s2) (Ev.val (by simp))
  unfold eT jY
  cases hu
  · refine ae (by simp) ?_
    simp only [Bool.not_false, Bool.true_or, Bool.true_and]
    exact eM
  · refine ab rfl (ai (jx 1 iri u (by omega)) ?_)
    cases ha : bo 1 iri (aa u)
    · have e : (((an 1 iri (aa u) : Nat) : Int) != (u.size : Int)) = true := by
        unfold bo at ha
        rw [beq_eq_false_iff_ne, af] at ha
        simp; omega
      rw [e]
      exact bad
    · have e : (((an 1 iri (aa u) : Nat) : Int) != (u.size : Int)) = false := by
        unfold bo at ha
        rw [beq_iff_eq, af] at ha
        simp; omega
      rw [e]
      simp only [Bool.not_true, Bool.or_true, Bool.true_and]
      exact eM
def gb (iri : Bool) (x : Bool × ByteArray × ByteArray × Bool × ByteArray) : Bool := jY iri x.1 (aa x.2.1) (aa x.2.2.1) x.2.2.2.1 (aa x.2.2.2.2)
theorem qI (s : ByteArray) : (bA s).2.1.size ≤ s.size ∧ (bA s).2.2.1.size ≤ s.size ∧ (bA s).2.2.2.2.size ≤ s.size := uX s
theorem zf (iri : Bool) (s : ByteArray) (hs : s.size ≤ 1000000) : Ev (fun k => gc k iri s)
    (if gb iri (bA s) then ((bA s).1, (bA s).2.1, (bA s).2.2.1, (bA s).2.2.2.1, (bA s).2.2.2.2, true) else (false, (⟨#[]⟩ : ByteArray), (⟨#[]⟩ : ByteArray), false, (⟨#[]⟩ : ByteArray), false)) := by
  unfold gc
  have hz := qI s
  refine ai (zL s (by omega)) (ai (tK iri _ _ _ _ _ (by omega) (by omega) (by omega)) ?_)
  exact Ev.ite (fun h => Ev.val (if_pos h).symm) (fun h => Ev.val (if_neg h).symm)
theorem zg (s : ByteArray) : ((bA s).1, aa (bA s).2.1, aa (bA s).2.2.1, (bA s).2.2.2.1, aa (bA s).2.2.2.2) = rK (aa s) := by
  have ts : (aa s).take s.size = aa s := by rw [← af, List.take_length]
  have hr : (s.extract (bM 64 (aa s) + 1).toNat s.size).size = ((aa s).drop (bM 64 (aa s) + 1).toNat).length := by rw [← af, aY]
  unfold bA rK bz
  simp only [au, ts, hr, List.drop_zero, List.take_length]
def cx (s : ByteArray) (i : Int) (k : Nat) : S67 := ⟨decide (0 ≤ i), s.extract 0 i.toNat, s.extract (i + 1).toNat k, decide (k < s.size), s.extract (k + 1) s.size⟩
def eM (iri : Bool) (s : ByteArray) (i : Int) (k : Nat) : Bool := jY iri (cx s i k).f0 (aa (cx s i k).f1) (aa (cx s i k).f2) (cx s i k).f3 (aa (cx s i k).f4)
def qj (s : ByteArray) : S67 := ⟨(bA s).1, (bA s).2.1, (bA s).2.2.1, (bA s).2.2.2.1, (bA s).2.2.2.2⟩
def iS (s : ByteArray) : Int := bM 64 (aa s)
def kS (s : ByteArray) : Nat := (iS s + 1).toNat + (aW (aa (bz s))).toNat
theorem jS (s : ByteArray) : -1 ≤ iS s ∧ iS s < s.size := by
  have h1 := mt 64 (aa s)
  have h2 := ud 64 (aa s)
  rw [af] at h2
  exact ⟨h1, h2⟩
theorem pE (s : ByteArray) : iS s < kS s ∧ kS s ≤ s.size := by
  have h := jS s
  have hr := gm (aa (bz s))
  rw [af] at hr
  have hz : (bz s).size = s.size - (iS s + 1).toNat := gf s _
  unfold kS
  omega
theorem vL (s : ByteArray) : cx s (iS s) (kS s) = qj s := by
  have h := jS s
  have hr := gm (aa (bz s))
  rw [af] at hr
  have hz : (bz s).size = s.size - (iS s + 1).toNat := gf s _
  have e1 : s.extract (iS s + 1).toNat (kS s) = (bz s).extract 0 (aW (aa (bz s))).toNat := by
    apply gK
    rw [au, au]
    unfold bz
    rw [aY, List.drop_zero, List.drop_take]
    unfold kS iS bz
    rw [aY]
    congr 1; omega
  have e2 : decide (kS s < s.size) = decide (aW (aa (bz s)) < (bz s).size) := by
    rw [decide_eq_decide]; unfold kS; omega
  have e3 : s.extract (kS s + 1) s.size = (bz s).extract ((aW (aa (bz s))).toNat + 1) (bz s).size := by
    unfold bz
    rw [jQ]
    unfold kS iS bz
    first | rfl | (congr 1; omega)
  unfold cx qj bA
  rw [e1, e2, e3]
  rfl
def vi (s : ByteArray) (i : Int) : Prop := i = -1 ∨ (0 ≤ i ∧ i < s.size ∧ bt s i = 64)
def vk (s : ByteArray) (k : Nat) : Prop := k = s.size ∨ (k < s.size ∧ bt s (k : Int) = 58)
theorem vX (s : ByteArray) (i : Int) (k : Nat) (hi : vi s i) (hik : i < k) (hk : k ≤ s.size) (hv : vk s k) :
    uF (cx s i k).f0 (aa (cx s i k).f1) (aa (cx s i k).f2) (cx s i k).f3 (aa (cx s i k).f4) = aa s := by
  have ts : (aa s).take s.size = aa s := by rw [← af, List.take_length]
  unfold uF cx
  simp only [au, ts, List.drop_zero]
  have tail : (aa s).drop (i + 1).toNat = ((aa s).take k).drop (i + 1).toNat ++ (if decide (k < s.size) then 58 :: (aa s).drop (k + 1) else []) := by
    have h1 : (aa s).drop (i + 1).toNat = (((aa s).take k ++ (aa s).drop k)).drop (i + 1).toNat := by rw [List.take_append_drop]
    rw [h1, List.drop_append_of_le_length (by rw [List.length_take, af]; omega)]
    congr 1
    rcases hv with rfl | ⟨h2, h3⟩
    · rw [List.drop_of_length_le (by rw [af]; omega)]; simp
    · rcases bB s k hk with ⟨h4, _⟩ | ⟨_, e, _⟩
      · omega
      · rw [e, h3, decide_eq_true h2, if_pos rfl]
  rw [← tail]
  rcases hi with rfl | ⟨h0, h1, h2⟩
  · simp
  · rw [decide_eq_true h0, if_pos rfl]
    have e1 : (i + 1).toNat = i.toNat + 1 := by omega
    rcases bB s i.toNat (by omega) with ⟨h4, _⟩ | ⟨_, e, _⟩
    · omega
    · rw [Int.toNat_of_nonneg h0, h2] at e
      rw [e1, List.append_assoc, List.singleton_append, ← e, List.take_append_drop]
theorem vY (iri : Bool) (s : ByteArray) (i : Int) (k : Nat) (hi : vi s i) (hik : i < k) (hk : k ≤ s.size) (hv : vk s k) (hg : eM iri s i k = true) : i = iS s ∧ k = kS s := by
  have hiv : i < s.size := by rcases hi with rfl | h <;> omega
  have hr := vr (fun b hb => ed hb) (fun b hb => ed hb) (fun h => by
      unfold cx at h ⊢
      simp only [decide_eq_false_iff_not] at h ⊢
      have : i.toNat = 0 := by omega
      rw [this, k8]; rfl) (fun h => by
      unfold cx at h ⊢
      simp only [decide_eq_false_iff_not] at h ⊢
      rw [k7 s _ (by omega)]; rfl) hg
  rw [vX s i k hi hik hk hv] at hr
  have hL := (zg s).trans hr
  simp only [Prod.mk.injEq] at hL
  obtain ⟨q1, q2, q3, q4, q5⟩ := hL
  have n2 := congrArg List.length q2
  have n3 := congrArg List.length q3
  unfold cx at q1 n2 n3
  unfold bA at q1 n2 n3
  simp only [decide_eq_decide] at q1
  rw [af, af, ByteArray.size_extract, ByteArray.size_extract] at n2 n3
  have hir := jS s
  have hz : (bz s).size = s.size - (iS s + 1).toNat := gf s _
  have hre := gm (aa (bz s))
  rw [af] at hre
  have hii : i = iS s := by
    unfold iS at hir ⊢
    rcases hi with rfl | h
    · omega
    · omega
  refine ⟨hii, ?_⟩
  subst hii
  unfold kS
  omega
def fh (iri : Bool) (s : ByteArray) (i : Int) (k : Nat) : List S67 := if eM iri s (iS s) (kS s) = true ∧ (iS s < i ∨ (iS s = i ∧ kS s < k)) then [qj s] else []
theorem xH (iri : Bool) (s : ByteArray) (i : Int) (k : Nat) (hi : vi s i) (hik : i < k) (hk : k ≤ s.size) (hv : vk s k) : (if eM iri s i k = true then fh iri s i k ++ [cx s i k] else fh iri s i k) = fh iri s i (k + 1) := by
  by_cases hg : eM iri s i k = true
  · obtain ⟨e1, e2⟩ := vY iri s i k hi hik hk hv hg
    subst e1; subst e2
    rw [if_pos hg]
    unfold fh
    rw [if_neg (by omega), if_pos ⟨hg, by omega⟩, vL]; rfl
  · rw [if_neg hg]
    unfold fh
    by_cases hG : eM iri s (iS s) (kS s) = true
    · have hne : ¬ (iS s = i ∧ kS s = k) := by
        rintro ⟨rfl, rfl⟩; exact hg hG
      by_cases hc : iS s < i ∨ (iS s = i ∧ kS s < k)
      · rw [if_pos ⟨hG, hc⟩, if_pos ⟨hG, by omega⟩]
      · rw [if_neg (fun x => hc x.2), if_neg (by omega)]
    · rw [if_neg (fun x => hG x.1), if_neg (fun x => hG x.1)]
theorem xI (iri : Bool) (s : ByteArray) (i : Int) (k : Nat) (hne : ¬ (iS s = i ∧ kS s = k)) : fh iri s i k = fh iri s i (k + 1) := by
  unfold fh
  by_cases hG : eM iri s (iS s) (kS s) = true
  · by_cases hc : iS s < i ∨ (iS s = i ∧ kS s < k)
    · rw [if_pos ⟨hG, hc⟩, if_pos ⟨hG, by omega⟩]
    · rw [if_neg (fun x => hc x.2), if_neg (by omega)]
  · rw [if_neg (fun x => hG x.1), if_neg (fun x => hG x.1)]
theorem ug (iri : Bool) (s : ByteArray) (i : Int) (k j : Nat) (h : iS s = i → kS s < k) (hj : (j : Int) ≤ i + 2) : fh iri s i k = fh iri s (i + 1) j := by
  have hk := pE s
  unfold fh
  by_cases hG : eM iri s (iS s) (kS s) = true
  · by_cases hc : iS s ≤ i
    · rw [if_pos ⟨hG, by omega⟩, if_pos ⟨hG, by omega⟩]
    · rw [if_neg (by omega), if_neg (by omega)]
  · rw [if_neg (fun x => hG x.1), if_neg (fun x => hG x.1)]
theorem zc (iri : Bool) (s : ByteArray) (i : Int) (k : Nat) : (fh iri s i k).length ≤ 1 := by
  unfold fh
  split <;> simp
theorem tT {l : List Int} {n : Nat} {c : Int} (h : l = l.take n ++ c :: l.drop (n + 1)) (hn : n < l.length) : l.drop n = c :: l.drop (n + 1) := by
  have h2 := congrArg (List.drop n) h
  rw [List.drop_append_of_le_length (by rw [List.length_take]; omega), List.drop_of_length_le (l := l.take n) (by rw [List.length_take]; omega), List.nil_append] at h2
  exact h2
theorem aar (s : ByteArray) : vi s (iS s) := by
  by_cases h : 0 ≤ iS s
  · right
    refine ⟨h, (jS s).2, ?_⟩
    have hl := qh (c := 64) (l := aa s) h
    have hlt := (jS s).2
    rcases bB s (iS s).toNat (by omega) with ⟨h4, _⟩ | ⟨_, e, _⟩
    · omega
    · rw [Int.toNat_of_nonneg h] at e
      have e3 := tT hl.1 (by unfold iS at hlt; rw [af]; omega)
      unfold iS at e ⊢
      rw [e] at e3
      injection e3
  · left
    have := (jS s).1
    omega
theorem aas (s : ByteArray) : vk s (kS s) := by
  have hk := pE s
  have hi := jS s
  by_cases h : kS s = s.size
  · exact .inl h
  right
  refine ⟨by omega, ?_⟩
  have hz : (bz s).size = s.size - (iS s + 1).toNat := gf s _
  have hre := gm (aa (bz s))
  rw [af] at hre
  have hlt : aW (aa (bz s)) < (aa (bz s)).length := by
    rw [af]
    unfold kS at h hk
    omega
  have key : ∀ l : List Int, aW l < l.length → ∃ t, l.drop (aW l).toNat = 58 :: t := by
    intro l hl
    unfold aW at hl ⊢
    by_cases h1 : l.take 1 = [91] ∧ 0 ≤ idx 93 l
    · rw [if_pos h1] at hl ⊢
      by_cases h2 : l.drop ((idx 93 l).toNat + 1) = [] ∨ (l.drop ((idx 93 l).toNat + 1)).getD 0 0 = 58
      · rw [if_pos h2] at hl ⊢
        have e : (idx 93 l + 1).toNat = (idx 93 l).toNat + 1 := by omega
        rw [e]
        rcases h2 with h2 | h2
        · rw [List.drop_eq_nil_iff] at h2; omega
        · cases hd : l.drop ((idx 93 l).toNat + 1) with
          | nil => rw [List.drop_eq_nil_iff] at hd; omega
          | cons b t =>
            rw [hd] at h2
            have : b = 58 := h2
            exact ⟨t, by rw [this]⟩
      · rw [if_neg h2] at hl; omega
    · rw [if_neg h1] at hl ⊢
      by_cases h2 : 0 ≤ idx 58 l
      · rw [if_pos h2] at hl ⊢
        have hs := oM h2
        refine ⟨l.drop ((idx 58 l).toNat + 1), ?_⟩
        exact tT hs.1 (by omega)
      · rw [if_neg h2] at hl; omega
  obtain ⟨t, ht⟩ := key _ hlt
  unfold bz at ht
  rw [aY, List.drop_drop] at ht
  have e : (bM 64 (aa s) + 1).toNat + (aW ((aa s).drop (bM 64 (aa s) + 1).toNat)).toNat = kS s := by
    unfold kS iS bz
    rw [aY]
  rw [e] at ht
  exact (qB ht).1
theorem uw (s : ByteArray) (i : Int) (k : Nat) : (cx s i k).f1.size ≤ s.size ∧ (cx s i k).f2.size ≤ s.size ∧ (cx s i k).f4.size ≤ s.size := by
  unfold cx
  simp only [ByteArray.size_extract]
  omega
theorem vH (iri : Bool) (s : ByteArray) (hs : s.size ≤ 1000000) (i : Int) (k : Nat) (hi : vi s i) (hik : i < k) (hk : k ≤ s.size) (hv : vk s k) (r : List S67)
    (nx : Ev (fun n => bm n iri s (fh iri s i (k + 1)) i ((k : Int) + 1)) r) (p : ByteArray) (hp : decide (k < s.size) = false → p = (cx s i k).f4) :
    Ev (fun n => es n iri s (fh iri s i k) i (k : Int) (cx s i k).f0 (cx s i k).f1 (cx s i k).f2 false p) r := by
  have hz := uw s i k
  have hl := zc iri s i k
  have hn := xH iri s i k hi hik hk hv
  refine Ev.step (fun n => by rw [es]) ?_
  rw [w64 (x := (k : Int) + 1) (by omega) (by omega)]
  refine Ev.ite (fun h => ab (by omega) (ab (by omega) ?_)) (fun h => ?_)
  · have e1 : s.extract ((k : Int) + 1).toNat s.size = (cx s i k).f4 := by
      have : ((k : Int) + 1).toNat = k + 1 := by omega
      rw [this]; rfl
    have e2 : (cx s i k).f3 = true := by
      show decide (k < s.size) = true
      rw [decide_eq_true (by omega)]
    rw [e1]
    refine ai (qm iri _ _ _ _ _ (by omega) (by omega) (by omega)) ?_
    have hgood : jY iri (cx s i k).f0 (aa (cx s i k).f1) (aa (cx s i k).f2) true (aa (cx s i k).f4) = eM iri s i k := by
      unfold eM; rw [e2]
    rw [hgood]
    refine Ev.ite (fun hg => ab (by omega) ?_) (fun hg => ?_)
    · rw [if_pos hg] at hn
      have e3 : (⟨(cx s i k).f0, (cx s i k).f1, (cx s i k).f2, true, (cx s i k).f4⟩ : S67) = cx s i k := by rw [← e2]
      rw [e3, hn]
      exact nx
    · rw [if_neg hg] at hn
      rw [hn]
      exact nx
  · have e2 : (cx s i k).f3 = false := by
      show decide (k < s.size) = false
      rw [decide_eq_false (by omega)]
    rw [hp (by rw [decide_eq_false (by omega)])]
    refine ai (qm iri _ _ _ _ _ (by omega) (by omega) (by omega)) ?_
    have hgood : jY iri (cx s i k).f0 (aa (cx s i k).f1) (aa (cx s i k).f2) false (aa (cx s i k).f4) = eM iri s i k := by
      unfold eM; rw [e2]
    rw [hgood]
    refine Ev.ite (fun hg => ab (by omega) ?_) (fun hg => ?_)
    · rw [if_pos hg] at hn
      have e3 : (⟨(cx s i k).f0, (cx s i k).f1, (cx s i k).f2, false, (cx s i k).f4⟩ : S67) = cx s i k := by rw [← e2]
      rw [e3, hn]
      exact nx
    · rw [if_neg hg] at hn
      rw [hn]
      exact nx
theorem zA (iri : Bool) (s : ByteArray) (hs : s.size ≤ 1000000) (i : Int) (hi : vi s i) (r : List S67) (nx : Ev (fun n => bZ n iri s (fh iri s i (s.size + 1)) (i + 1)) r) : ∀ d k : Nat, k + d = s.size + 1 → i < k →
    Ev (fun n => bm n iri s (fh iri s i k) i (k : Int)) r := by
  have hir : -1 ≤ i ∧ i < s.size := by rcases hi with rfl | h <;> omega
  intro d
  induction d with
  | zero =>
    intro k hk hik
    have : k = s.size + 1 := by omega
    subst this
    refine Ev.step (fun n => by rw [bm]) ?_
    rw [w64 (x := i + 1) (by omega) (by omega)]
    exact ae (by omega) nx
  | succ d ih =>
    intro k hk hik
    have go := ih (k + 1) (by omega) (by omega)
    have e1 : ((k + 1 : Nat) : Int) = (k : Int) + 1 := by omega
    rw [e1] at go
    have take_ : vk s k → Ev (fun n => dr n iri s (fh iri s i k) i (k : Int) false) r := by
      intro hv
      refine Ev.step (fun n => by rw [dr]) ?_
      rw [w64 (x := i + 1) (by omega) (by omega)]
      refine ae (by simp) (ab (by omega) (ab (by omega) (ab (by omega) ?_)))
      have hp : decide (k < s.size) = false → (⟨#[]⟩ : ByteArray) = (cx s i k).f4 := by
        intro h
        have : ¬ k < s.size := by simpa using h
        show _ = s.extract (k + 1) s.size
        rw [k7 s _ (by omega)]
      refine Ev.ite (fun h0 => ab (by omega) (ab (by omega) ?_)) (fun h0 => ?_)
      · have := vH iri s hs i k hi hik (by omega) hv r go _ hp
        have f0 : (cx s i k).f0 = true := by show decide (0 ≤ i) = true; rw [decide_eq_true h0]
        rw [f0] at this
        rw [Int.toNat_natCast]
        exact this
      · have := vH iri s hs i k hi hik (by omega) hv r go _ hp
        have f0 : (cx s i k).f0 = false := by show decide (0 ≤ i) = false; rw [decide_eq_false h0]
        have f1 : (cx s i k).f1 = (⟨#[]⟩ : ByteArray) := by
          show s.extract 0 i.toNat = _
          have : i.toNat = 0 := by omega
          rw [this, k8]
        rw [f0, f1] at this
        rw [Int.toNat_natCast]
        exact this
    refine Ev.step (fun n => by rw [bm]) ?_
    refine ab (by omega) (Ev.ite (fun h => ab (by omega) ?_) (fun h => take_ (.inl (by omega))))
    by_cases h58 : bt s (k : Int) = 58
    · have : (bt s (k : Int) != 58) = false := by simp [h58]
      rw [this]
      exact take_ (.inr ⟨by omega, h58⟩)
    · have : (bt s (k : Int) != 58) = true := by simpa using h58
      rw [this]
      refine Ev.step (fun n => by rw [dr]) ?_
      refine ab rfl ?_
      rw [w64 (x := (k : Int) + 1) (by omega) (by omega), xI iri s i k (by
        rintro ⟨_, e⟩
        rcases aas s with h2 | h2
        · omega
        · rw [e] at h2; exact h58 h2.2)]
      exact go
theorem zz (iri : Bool) (s : ByteArray) (hs : s.size ≤ 1000000) : ∀ d n : Nat, n + d = s.size + 1 → Ev (fun q => bZ q iri s (fh iri s ((n : Int) - 1) n) ((n : Int) - 1)) (fh iri s s.size (s.size + 1)) := by
  intro d
  induction d with
  | zero =>
    intro n hn
    have : n = s.size + 1 := by omega
    subst this
    refine Ev.step (fun q => by rw [bZ]) ?_
    refine ae (by omega) (Ev.val ?_)
    congr 1; omega
  | succ d ih =>
    intro n hn
    have go := ih (n + 1) (by omega)
    have e1 : ((n + 1 : Nat) : Int) - 1 = (n : Int) - 1 + 1 := by omega
    rw [e1] at go
    have row : vi s ((n : Int) - 1) → Ev (fun q => dq q iri s (fh iri s ((n : Int) - 1) n) ((n : Int) - 1) false) (fh iri s s.size (s.size + 1)) := by
      intro hv
      refine Ev.step (fun q => by rw [dq]) ?_
      refine ae (by simp) ?_
      have hw : wrap64 ((n : Int) - 1 + 1) = (n : Int) := by rw [w64 (by omega) (by omega)]; omega
      simp only [hw]
      refine zA iri s hs _ hv _ ?_ (s.size + 1 - n) n (by omega) (by omega)
      rw [ug iri s ((n : Int) - 1) (s.size + 1) (n + 1) (fun _ => by have := (pE s).2; omega) (by omega)]
      exact go
    refine Ev.step (fun q => by rw [bZ]) ?_
    refine ab (by omega) (Ev.ite (fun h => ab (by omega) ?_) (fun h => row (.inl (by omega))))
    by_cases h64 : bt s ((n : Int) - 1) = 64
    · have : (bt s ((n : Int) - 1) != 64) = false := by simp [h64]
      rw [this]
      exact row (.inr ⟨by omega, by omega, h64⟩)
    · have : (bt s ((n : Int) - 1) != 64) = true := by simpa using h64
      rw [this]
      refine Ev.step (fun q => by rw [dq]) ?_
      refine ab rfl ?_
      rw [w64 (x := (n : Int) - 1 + 1) (by omega) (by omega), ug iri s ((n : Int) - 1) n (n + 1) (fun e => by
        rcases aar s with h2 | h2
        · omega
        · rw [e] at h2; exact absurd h2.2.2 h64) (by omega)]
      exact go
theorem xc (iri : Bool) (s : ByteArray) (hs : s.size ≤ 1000000) : Ev (fun k => gP k iri s) (if gb iri (bA s) then [qj s] else []) := by
  unfold gP
  have h := zz iri s hs (s.size + 1) 0 (by omega)
  have hi := jS s
  have e0 : fh iri s (((0 : Nat) : Int) - 1) 0 = [] := by
    unfold fh
    rw [if_neg (by omega)]
  have e1 : fh iri s s.size (s.size + 1) = if gb iri (bA s) then [qj s] else [] := by
    have hg : eM iri s (iS s) (kS s) = gb iri (bA s) := by
      unfold eM gb
      rw [vL]; rfl
    unfold fh
    rw [hg]
    by_cases hr : gb iri (bA s) = true
    · rw [if_pos ⟨hr, .inl hi.2⟩, if_pos hr]
    · rw [if_neg (fun x => hr x.1), if_neg hr]
  rw [e0, e1] at h
  exact h
end Go.Proofs.YtpmflpeckoeooaaGreatDoor.Y
namespace Go.Proofs.YtpmflpeckoeooaaGreatDoor.M
open Go Go.RowKit Go.Proofs.YtpmflpeckoeooaaGreatDoorW.PrintWords
theorem vQ (n : Nat) (lo hi c : Int) (t r : List Int) (hlo : n ≠ 0 → 128 ≤ lo) (hc : c < 128) : aU n lo hi (t ++ c :: r) = aU n lo hi t := by
  induction n generalizing lo hi t with
  | zero => simp [aU]
  | succ n ih =>
    have hlo := hlo (by omega)
    cases t with
    | nil => simp only [List.nil_append, aU]; rw [if_neg (by omega)]
    | cons d t =>
      simp only [List.cons_append, aU]
      rw [ih 128 191 t (fun _ => by omega)]
theorem zO {b : Int} : (shp b).1.toNat - 1 ≠ 0 → 128 ≤ (shp b).2.1 := fun h => (hZ (by omega)).1
theorem yL (b c : Int) (t r : List Int) (hc : c < 128) : ((dec (b :: t)).2.2 = true ∧ dec (b :: t ++ c :: r) = dec (b :: t)) ∨ ((dec (b :: t)).2.2 = false ∧ (dec (b :: t ++ c :: r)).2.2 = false) := by
  rw [List.cons_append, dk, dk, vQ _ _ _ c t r zO hc]
  by_cases h0 : (shp b).1 = 0
  · right; simp [h0]
  · rw [if_neg h0, if_neg h0]
    by_cases h1 : (aU ((shp b).1.toNat - 1) (shp b).2.1 (shp b).2.2 t : Int) + 1 < (shp b).1
    · right; simp [h1]
    · left
      rw [if_neg h1, if_neg h1]
      refine ⟨rfl, ?_⟩
      have hl := (kF ((shp b).1.toNat - 1) (shp b).2.1 (shp b).2.2 t).2
      rw [List.take_append_of_le_length (by omega)]
theorem xq (c : Int) (r : List Int) (hc : hv c < 0) : ∀ a : List Int, a ≠ [] → (gL (a ++ c :: r) = gL a ∨ (gL (a ++ c :: r) < 0 ∧ gL a < 0))
  | [], h => absurd rfl h
  | [b], _ => by
    right
    cases r with
    | nil => exact ⟨show (-1 : Int) < 0 by decide, show (-1 : Int) < 0 by decide⟩
    | cons d r =>
      simp only [List.cons_append, List.nil_append, gL]
      refine ⟨?_, show (-1 : Int) < 0 by decide⟩
      split
      · rw [if_pos (.inl hc)]; decide
      · decide
  | [b, d], _ => by
    right
    simp only [List.cons_append, List.nil_append, gL]
    refine ⟨?_, show (-1 : Int) < 0 by decide⟩
    split
    · rw [if_pos (.inr hc)]; decide
    · decide
  | b :: d :: e :: a, _ => .inl rfl
theorem yd (p : Int) (iri : Bool) (c : Int) (a r : List Int) (ha : a ≠ []) (hc : c < 128) (hx : hv c < 0) : aT p iri (a ++ c :: r) = aT p iri a := by
  unfold aT
  by_cases hp : dN p = true
  · simp only [if_pos hp]
    have he : (0 ≤ gL (a ++ c :: r)) = (0 ≤ gL a) := by
      rcases xq c r hx a ha with h | ⟨h1, h2⟩
      · rw [h]
      · exact propext ⟨fun h => by omega, fun h => by omega⟩
    simp only [he]
    by_cases h0 : 0 ≤ gL a
    · rw [if_pos h0, if_pos h0]
    · rw [if_neg h0, if_neg h0]
      cases a with
      | nil => exact absurd rfl ha
      | cons b t =>
        rcases yL b c t r hc with ⟨h1, h2⟩ | ⟨h1, h2⟩
        · rw [h2]
        · rw [h1, h2]; simp
  · simp only [if_neg hp]
theorem o0 {p : Int} {iri : Bool} {c : Int} {r : List Int} (h0 : 0 ≤ c) (hc : c < 128) (h37 : c ≠ 37) (hm : cf p c = false) : aT p iri (c :: r) = 0 := by
  unfold aT
  split
  · have he : gL (c :: r) = -1 := by
      match r with
      | [] => rfl
      | [_] => rfl
      | a :: b :: t => show (if c = 37 then _ else _) = _; rw [if_neg h37]
    rw [if_neg (by omega), kL r hc]
    have : gG p iri c = false := by unfold gG; rw [if_pos ⟨h0, hc⟩]; exact hm
    simp [this]
  · rfl
theorem pN (p : Int) (iri : Bool) (c : Int) (r : List Int) (h0 : 0 ≤ c) (hc : c < 128) (h37 : c ≠ 37) (hx : hv c < 0) (hm : cf p c = false) : ∀ (n : Nat) (a : List Int), a.length = n → an p iri (a ++ c :: r) = an p iri a := by
  intro n
  induction n using Nat.strongRecOn with
  | _ n ih =>
    intro a hn
    by_cases ha : a = []
    · subst ha
      rw [List.nil_append, im, o0 h0 hc h37 hm, if_pos rfl, ow]
    · rw [im p iri (a ++ c :: r), im p iri a, yd p iri c a r ha hc hx]
      by_cases hs : aT p iri a = 0
      · rw [if_pos hs, if_pos hs]
      · rw [if_neg hs, if_neg hs]
        have hl := kY p iri a
        rw [List.drop_append_of_le_length hl, ih (a.drop (aT p iri a)).length (by rw [List.length_drop]; omega) _ rfl]
def lU (p q : Int) (iri : Bool) : Prop := dN q = true ∧ ∀ r, gG p iri r = true → gG q iri r = true
theorem px {p q : Int} {iri : Bool} (h : lU p q iri) {l : List Int} (hs : aT p iri l ≠ 0) : aT q iri l = aT p iri l := by
  unfold aT at hs ⊢
  by_cases hp : dN p = true
  · rw [if_pos hp] at hs ⊢
    rw [if_pos h.1]
    by_cases he : 0 ≤ gL l
    · rw [if_pos he, if_pos he]
    · rw [if_neg he] at hs ⊢
      rw [if_neg he]
      by_cases hm : ((dec l).2.2 && gG p iri (dec l).1) = true
      · rw [if_pos hm]
        rw [Bool.and_eq_true] at hm
        rw [if_pos (by rw [Bool.and_eq_true]; exact ⟨hm.1, h.2 _ hm.2⟩)]
      · rw [if_neg hm] at hs; exact absurd rfl hs
  · rw [if_neg hp] at hs; exact absurd rfl hs
theorem jy {p q : Int} {iri : Bool} (h : lU p q iri) : ∀ (n : Nat) (l : List Int), l.length = n → an q iri l = an p iri l + an q iri (l.drop (an p iri l)) := by
  intro n
  induction n using Nat.strongRecOn with
  | _ n ih =>
    intro l hn
    by_cases hs : aT p iri l = 0
    · have : an p iri l = 0 := by rw [im, if_pos hs]
      rw [this, Nat.zero_add, List.drop_zero]
    · have hq := px h hs
      have hl := kY p iri l
      have e : an p iri l = aT p iri l + an p iri (l.drop (aT p iri l)) := by rw [im p iri l, if_neg hs]
      have hz : l.length ≠ 0 := by
        intro hz
        rw [List.length_eq_zero_iff.1 hz, sv] at hs
        exact hs rfl
      rw [im q iri l, if_neg (by rw [hq]; exact hs), hq, ih (l.drop (aT p iri l)).length (by rw [List.length_drop]; omega) _ rfl, e, List.drop_drop]
      omega
theorem o1 {p q : Int} {iri : Bool} (hp : dN p = true) (hq : dN q = true) (hp6 : p ≠ 6) (h : ∀ b, kN p b = true → kN q b = true) : lU p q iri := by
  refine ⟨hq, fun r hr => ?_⟩
  unfold gG at hr ⊢
  by_cases h1 : 0 ≤ r ∧ r < 128
  · rw [if_pos h1] at hr ⊢
    unfold cf at hr ⊢
    rw [hp] at hr
    rw [hq]
    simp only [Bool.true_and, Bool.or_eq_true] at hr ⊢
    exact hr.imp_right (h r)
  · rw [if_neg h1] at hr ⊢
    rw [hp] at hr
    rw [hq]
    have : decide (p = 6) = false := by simpa using hp6
    rw [this] at hr
    simp only [Bool.and_true, Bool.false_and, Bool.or_false, Bool.and_eq_true] at hr
    simp [hr.1, hr.2]
theorem oz (iri : Bool) : lU 4 5 iri := o1 (by decide) (by decide) (by decide) (fun b h => by
  simp only [kN] at h ⊢
  simp at h ⊢
  exact .inl (.inr h))
theorem yk (iri : Bool) : lU 3 5 iri := o1 (by decide) (by decide) (by decide) (fun b h => by
  simp only [kN] at h ⊢
  simp at h ⊢
  exact .inl h)
theorem za {b : Int} (h0 : 0 ≤ b) (h1 : b ≤ 255) : ((shp b).1 = 2 → 2 ≤ cI 2 b) ∧ ((shp b).1 = 3 → 2 ≤ cI 3 b * 64 + ((shp b).2.1 - 128) ∧ 0 ≤ cI 3 b) ∧ ((shp b).1 = 4 → 2 ≤ cI 4 b * 64 + ((shp b).2.1 - 128) ∧ 0 ≤ cI 4 b) :=
  ci (p := fun b => ((shp b).1 = 2 → 2 ≤ cI 2 b) ∧ ((shp b).1 = 3 → 2 ≤ cI 3 b * 64 + ((shp b).2.1 - 128) ∧ 0 ≤ cI 3 b) ∧ ((shp b).1 = 4 → 2 ≤ cI 4 b * 64 + ((shp b).2.1 - 128) ∧ 0 ≤ cI 4 b)) (by decide +kernel) h0 h1
theorem tB {n : Nat} {lo hi : Int} {t : List Int} (h : n + 1 ≤ aU (n + 1) lo hi t) : ∃ c u, t = c :: u ∧ lo ≤ c ∧ c ≤ hi ∧ n ≤ aU n 128 191 u := by
  cases t with
  | nil => simp [aU] at h
  | cons c u =>
    simp only [aU] at h
    split at h
    · exact ⟨c, u, rfl, by omega, by omega, by omega⟩
    · omega
theorem ux {b : Int} {t : List Int} (h0 : 0 ≤ b) (h1 : b ≤ 255) (ok : (dec (b :: t)).2.2 = true) (hr : (dec (b :: t)).1 < 128) : b < 128 ∧ (dec (b :: t)).1 = b ∧ (dec (b :: t)).2.1 = 1 := by
  by_cases hb : b < 128
  · rw [kL t hb]; exact ⟨hb, rfl, rfl⟩
  · exfalso
    have hs := j6 b
    have hl := za h0 h1
    rw [dk] at ok hr
    by_cases hz : (shp b).1 = 0
    · rw [if_pos hz] at ok; cases ok
    · rw [if_neg hz] at ok hr
      by_cases hcn : (aU ((shp b).1.toNat - 1) (shp b).2.1 (shp b).2.2 t : Int) + 1 < (shp b).1
      · rw [if_pos hcn] at ok; cases ok
      · rw [if_neg hcn] at hr
        simp only at hr
        have h1' : (shp b).1 ≠ 1 := by
          have := ci (p := fun b => ¬ b < 128 → (shp b).1 ≠ 1) (by decide +kernel) h0 h1
          exact this hb
        have hbd := hZ (b := b) (by omega)
        obtain ⟨m, hm⟩ : ∃ m : Nat, (shp b).1.toNat - 1 = m + 1 := ⟨(shp b).1.toNat - 2, by omega⟩
        rw [hm] at hr hcn
        obtain ⟨c, u, rfl, hc1, hc2, hu⟩ := tB (n := m) (lo := (shp b).2.1) (hi := (shp b).2.2) (t := t) (by omega)
        rw [List.take_succ_cons] at hr
        have hmem : ∀ d ∈ u.take m, 128 ≤ d := fun d hd => by
          have hle := (kF m 128 191 u).1
          have := lG m 128 191 (by omega) (by omega) u d (by
            have : aU m 128 191 u = m := by omega
            rw [this]; exact hd)
          exact this.1
        have hacc : gE (cI (shp b).1 b) (c :: u.take m) = gE (cI (shp b).1 b * 64 + (c - 128)) (u.take m) := rfl
        rw [hacc] at hr
        have h234 : (shp b).1 = 2 ∨ (shp b).1 = 3 ∨ (shp b).1 = 4 := by omega
        rcases h234 with h | h | h
        · have := hl.1 h
          rw [h] at hr
          have hm0 : m = 0 := by omega
          subst hm0
          simp only [List.take_zero, gE] at hr
          omega
        · have := hl.2.1 h
          rw [h] at hr
          have hm0 : m = 1 := by omega
          subst hm0
          cases u with
          | nil => simp [aU] at hu
          | cons d u =>
            have hd := hmem d (by simp)
            simp only [List.take_succ_cons, List.take_zero, gE] at hr
            omega
        · have := hl.2.2 h
          rw [h] at hr
          have hm0 : m = 2 := by omega
          subst hm0
          match u, hu, hmem, hr with
          | [], hu, _, _ => simp [aU] at hu
          | [d], hu, _, _ => simp only [aU] at hu; split at hu <;> simp at hu
          | d :: e :: u, _, hmem, hr =>
            have hd := hmem d (by simp)
            have he := hmem e (by simp)
            simp only [List.take_succ_cons, List.take_zero, gE] at hr
            omega
theorem j8 {iri : Bool} {l : List Int} (hl : ∀ b ∈ l, 0 ≤ b ∧ b ≤ 255) (h4 : aT 4 iri l = 0) (h5 : aT 5 iri l ≠ 0) : ∃ t, l = 58 :: t ∨ l = 47 :: t := by
  unfold aT at h4 h5
  rw [if_pos (by decide)] at h4 h5
  by_cases he : 0 ≤ gL l
  · rw [if_pos he] at h4; omega
  · rw [if_neg he] at h4 h5
    cases l with
    | nil => simp [dec] at h5
    | cons b t =>
      by_cases hm : ((dec (b :: t)).2.2 && gG 5 iri (dec (b :: t)).1) = true
      · have hm' := hm
        rw [Bool.and_eq_true] at hm
        have hn := lr hm.1
        have h4' : gG 4 iri (dec (b :: t)).1 = false := by
          cases h : gG 4 iri (dec (b :: t)).1 with
          | false => rfl
          | true => rw [if_pos (by rw [hm.1, h]; rfl)] at h4; omega
        have hb := hl b (by simp)
        unfold gG at h4' hm
        by_cases hr : 0 ≤ (dec (b :: t)).1 ∧ (dec (b :: t)).1 < 128
        · rw [if_pos hr] at h4' hm
          have hd := ux hb.1 hb.2 hm.1 hr.2
          rw [hd.2.1] at h4' hm
          unfold cf kN at h4' hm
          have p4 : dN 4 = true := by decide
          have p5 : dN 5 = true := by decide
          rw [p4] at h4'
          rw [p5] at hm
          simp at h4' hm
          have hm2 := hm.2
          rw [h4'.1] at hm2
          have h64 := h4'.2
          refine ⟨t, ?_⟩
          simp only [Bool.false_eq_true, false_or] at hm2
          rcases hm2 with (h | h) | h
          · left; rw [h]
          · exact absurd h h64
          · right; rw [h]
        · rw [if_neg hr] at h4' hm
          have p4 : dN 4 = true := by decide
          have p5 : dN 5 = true := by decide
          rw [p4] at h4'
          rw [p5] at hm
          simp at h4' hm
          have := h4' hm.2.1
          rw [hm.2.2] at this
          cases this
      · rw [if_neg hm] at h5; exact absurd rfl h5
def aJ (set : List Int) (l : List Int) : Nat := be (fun b => !set.contains b) l
theorem iU (set l : List Int) : aJ set l ≤ l.length := pO _ _
theorem mh (set : List Int) (b : Int) (t : List Int) : aJ set (b :: t) = if set.contains b then 0 else aJ set t + 1 := by
  unfold aJ
  show (if (!set.contains b) = true then _ else _) = _
  cases set.contains b <;> rfl
theorem pT (set l : List Int) : ∀ b ∈ l.take (aJ set l), b ∉ set := fun b hb => by
  have := qr (p := fun b => !set.contains b) l b hb
  simpa using this
theorem rO {set l : List Int} (h : aJ set l < l.length) : ∃ b t, l.drop (aJ set l) = b :: t ∧ b ∈ set := by
  cases e : l.drop (aJ set l) with
  | nil => have := congrArg List.length e; rw [List.length_drop] at this; simp at this; omega
  | cons b t =>
    have := vw (p := fun b => !set.contains b) e
    exact ⟨b, t, rfl, by simpa using this⟩
theorem uD (set l : List Int) : jj (fun b => set.contains b) l = if aJ set l = l.length then -1 else (aJ set l : Int) := by
  induction l with
  | nil => rfl
  | cons b t ih =>
    have := iU set t
    rw [nb, mh, ih, List.length_cons]
    cases set.contains b
    · simp only [Bool.false_eq_true, if_false]
      split <;> split <;> (try split) <;> omega
    · simp
def gZ (l : List Int) : Bool := kb (l.headD 0) && l.all fun b => nZ b || [43, 45, 46].contains b
theorem nE : gZ [] = false := by decide
def j5 (iri : Bool) (l : List Int) : Bool := (l == [] || l.headD 0 == 47) && bo 5 iri l
def jJ (iri ns ha : Bool) (l : List Int) : Bool :=
  bo 5 iri l && (if ha then l == [] || l.headD 0 == 47 else !(l.take 2 == [47, 47]) && (!ns || !(l.getD (an 4 iri l) 0 == 58)))
def uY (iri ns ha : Bool) (l : List Int) : Bool :=
  if ha then j5 iri l else if l = [] ∨ l = [47] then true else
    if l.headD 0 = 47 then decide (0 < an 3 iri (l.drop 1)) && j5 iri ((l.drop 1).drop (an 3 iri (l.drop 1)))
    else decide (0 < an (if ns then 4 else 3) iri l) && j5 iri (l.drop (an (if ns then 4 else 3) iri l))
theorem nY {p q : Int} {iri : Bool} (h : lU p q iri) (l : List Int) : bo q iri l = bo q iri (l.drop (an p iri l)) := by
  unfold bo
  rw [jy h l.length l rfl, List.length_drop]
  have := g0 p iri l
  have := g0 q iri (l.drop (an p iri l))
  rw [List.length_drop] at this
  rw [Bool.eq_iff_iff, beq_iff_eq, beq_iff_eq]
  omega
theorem ig (p : Int) (iri : Bool) (l : List Int) : an p iri l = 0 ↔ aT p iri l = 0 := by
  rw [im]
  constructor
  · intro h
    by_cases hs : aT p iri l = 0
    · exact hs
    · rw [if_neg hs] at h; omega
  · intro h; rw [if_pos h]
theorem kZ {p : Int} {iri : Bool} {l : List Int} (h : bo p iri l = true) (hl : l ≠ []) : aT p iri l ≠ 0 := by
  unfold bo at h
  rw [beq_iff_eq] at h
  intro hs
  have := (ig p iri l).2 hs
  have hz : l.length ≠ 0 := fun hz => hl (List.length_eq_zero_iff.1 hz)
  omega
theorem uB (t : List Int) : gL (47 :: t) < 0 := by
  match t with
  | [] => exact show (-1 : Int) < 0 by decide
  | [_] => exact show (-1 : Int) < 0 by decide
  | a :: b :: u => show (if (47 : Int) = 37 then (if hv a < 0 ∨ hv b < 0 then -1 else 16 * hv a + hv b) else (-1 : Int)) < 0; rw [if_neg (by decide)]; decide
theorem tN (iri : Bool) (t : List Int) : aT 5 iri (47 :: t) = 1 := by
  have := uB t
  unfold aT
  rw [if_pos (by decide), if_neg (by omega), kL t (by decide)]
  have : gG 5 iri 47 = true := by cases iri <;> decide
  simp [this]
theorem tL (iri : Bool) (t : List Int) : aT 3 iri (47 :: t) = 0 := o0 (by decide) (by decide) (by decide) (by decide)
theorem tM (iri : Bool) (t : List Int) : aT 4 iri (47 :: t) = 0 := o0 (by decide) (by decide) (by decide) (by decide)
theorem ph (iri : Bool) (t : List Int) : bo 5 iri (47 :: t) = bo 5 iri t := by
  unfold bo
  rw [im, tN, if_neg (by decide), List.length_cons, Bool.eq_iff_iff, beq_iff_eq, beq_iff_eq]
  simp only [List.drop_succ_cons, List.drop_zero]
  omega
theorem lZ {iri : Bool} {l : List Int} (hl : ∀ b ∈ l, 0 ≤ b ∧ b ≤ 255) (h3 : aT 3 iri l = 0) (h5 : aT 5 iri l ≠ 0) : ∃ t, l = 47 :: t := by
  have h4 : aT 4 iri l = 0 := by
    by_cases h : aT 4 iri l = 0
    · exact h
    · have w : lU 4 3 iri := o1 (by decide) (by decide) (by decide) (fun b h => by simp only [kN] at h ⊢; simp at h ⊢; exact .inr h)
      have := px w h
      rw [h3] at this
      exact this.symm
  obtain ⟨t, rfl | rfl⟩ := j8 hl h4 h5
  · exfalso
    have he : gL (58 :: t) < 0 := by
      match t with
      | [] => exact show (-1 : Int) < 0 by decide
      | [_] => exact show (-1 : Int) < 0 by decide
      | a :: b :: u => show (if (58 : Int) = 37 then (if hv a < 0 ∨ hv b < 0 then -1 else 16 * hv a + hv b) else (-1 : Int)) < 0; rw [if_neg (by decide)]; decide
    unfold aT at h3
    rw [if_pos (by decide), if_neg (by omega), kL t (by decide)] at h3
    have : gG 3 iri 58 = true := by cases iri <;> decide
    simp [this] at h3
  · exact ⟨t, rfl⟩
theorem uA {l : List Int} (hl : ∀ b ∈ l, 0 ≤ b ∧ b ≤ 255) (n : Nat) : ∀ b ∈ l.drop n, 0 ≤ b ∧ b ≤ 255 := fun b hb => hl b (List.mem_of_mem_drop hb)
theorem ru {p : Int} {iri : Bool} {l : List Int} (hp : dN p = true) (h : lU p 5 iri) (hbt : ∀ m : List Int, (∀ b ∈ m, 0 ≤ b ∧ b ≤ 255) → aT p iri m = 0 → aT 5 iri m ≠ 0 → m.headD 0 = 47 ∨ (p = 4 ∧ m.headD 0 = 58)) (hl : ∀ b ∈ l, 0 ≤ b ∧ b ≤ 255) :
    j5 iri (l.drop (an p iri l)) = (bo 5 iri l && !(decide (p = 4) && l.getD (an p iri l) 0 == 58)) := by
  unfold j5
  rw [← nY h l]
  cases ha : bo 5 iri l
  · simp
  · rw [nY h l] at ha
    simp only [Bool.and_true, Bool.true_and]
    have e : l.getD (an p iri l) 0 = (l.drop (an p iri l)).headD 0 := by
      rw [List.getD_eq_getElem?_getD, List.headD_eq_head?_getD, List.head?_drop]
    rw [e]
    have hm := uA hl (an p iri l)
    have hz : aT p iri (l.drop (an p iri l)) = 0 := by
      have h1 := jy (p := p) (q := p) (iri := iri) ⟨hp, fun _ hr => hr⟩ l.length l rfl
      have h2 : an p iri (l.drop (an p iri l)) = 0 := by omega
      exact (ig p iri _).1 h2
    generalize l.drop (an p iri l) = m at ha hm hz
    by_cases hn : m = []
    · subst hn; simp
    · have h5 := kZ ha hn
      rcases hbt m hm hz h5 with hh | ⟨rfl, hh⟩
      · rw [hh]; simp
      · rw [hh]
        have : (m == []) = false := by simpa using hn
        rw [this]; simp
theorem uH {l : List Int} (hl : ∀ b ∈ l, 0 ≤ b ∧ b ≤ 255) : l = [] ∨ ∃ b t, l = b :: t ∧ 0 ≤ b ∧ b ≤ 255 := by
  cases l with
  | nil => exact .inl rfl
  | cons b t => exact .inr ⟨b, t, rfl, hl b (by simp)⟩
theorem ya {iri : Bool} {l : List Int} (hl : ∀ b ∈ l, 0 ≤ b ∧ b ≤ 255) : j5 iri (l.drop (an 3 iri l)) = bo 5 iri l := by
  rw [ru (by decide) (yk iri) (fun m hm h3 h5 => .inl (by obtain ⟨t, rfl⟩ := lZ hm h3 h5; rfl)) hl]
  have : decide ((3 : Int) = 4) = false := by decide
  rw [this]; simp
theorem aal {iri : Bool} {l : List Int} (hl : ∀ b ∈ l, 0 ≤ b ∧ b ≤ 255) : j5 iri (l.drop (an 4 iri l)) = (bo 5 iri l && !(l.getD (an 4 iri l) 0 == 58)) := by
  rw [ru (by decide) (oz iri) (fun m hm h4 h5 => by
    obtain ⟨t, rfl | rfl⟩ := j8 hm h4 h5
    · exact .inr ⟨rfl, rfl⟩
    · exact .inl rfl) hl]
  have : decide ((4 : Int) = 4) = true := by decide
  rw [this]; simp
theorem wy (iri ns ha : Bool) {l : List Int} (hl : ∀ b ∈ l, 0 ≤ b ∧ b ≤ 255) : uY iri ns ha l = jJ iri ns ha l := by
  unfold uY jJ
  cases ha
  · simp only [Bool.false_eq_true, if_false]
    rcases uH hl with rfl | ⟨b, t, rfl, hb⟩
    · rw [if_pos (.inl rfl), lD]
      cases ns <;> simp [ow]
    · by_cases h47 : b = 47
      · subst h47
        have n4 : an 4 iri (47 :: t) = 0 := (ig 4 iri _).2 (tM iri t)
        rw [n4, ph]
        cases t with
        | nil => simp [lD]
        | cons c u =>
          rw [if_neg (by simp), if_pos (show (47 :: c :: u).headD 0 = 47 from rfl)]
          simp only [List.drop_succ_cons, List.drop_zero]
          rw [ya (fun x hx => hl x (by simp [hx]))]
          by_cases hc : c = 47
          · subst hc
            have : an 3 iri (47 :: u) = 0 := (ig 3 iri _).2 (tL iri u)
            rw [this]; simp
          · have ht : ((47 :: c :: u).take 2 == [47, 47]) = false := by
              rw [beq_eq_false_iff_ne]; simp [hc]
            rw [ht]
            simp only [List.getD_cons_zero]
            cases h5 : bo 5 iri (c :: u)
            · simp
            · have hs : an 3 iri (c :: u) ≠ 0 := by
                intro hz
                obtain ⟨t', e⟩ := lZ (l := c :: u) (fun x hx => hl x (by simp [hx])) ((ig 3 iri _).1 hz) (kZ h5 (by simp))
                injection e with e1 e2
                exact hc e1
              have : decide (0 < an 3 iri (c :: u)) = true := decide_eq_true (by omega)
              rw [this]; simp
      · have h1 : ¬ (b :: t = [] ∨ b :: t = [47]) := by simp [h47]
        have h2 : ¬ (b :: t).headD 0 = 47 := h47
        have ht : ((b :: t).take 2 == [47, 47]) = false := by
          rw [beq_eq_false_iff_ne]; cases t <;> simp [h47]
        rw [if_neg h1, if_neg h2, ht]
        cases ns
        · simp only [Bool.false_eq_true, if_false, Bool.not_false, Bool.true_or, Bool.and_true]
          rw [ya hl]
          cases h5 : bo 5 iri (b :: t)
          · simp
          · have hs : an 3 iri (b :: t) ≠ 0 := by
              intro hz
              obtain ⟨t', e⟩ := lZ hl ((ig 3 iri _).1 hz) (kZ h5 (by simp))
              injection e with e1 e2
              exact h47 e1
            have : decide (0 < an 3 iri (b :: t)) = true := decide_eq_true (by omega)
            rw [this]; simp
        · simp only [if_true, Bool.not_true, Bool.not_false, Bool.true_and, Bool.false_or]
          rw [aal hl]
          cases h5 : bo 5 iri (b :: t)
          · simp
          · by_cases hs : an 4 iri (b :: t) = 0
            · obtain ⟨t', e⟩ := j8 hl ((ig 4 iri _).1 hs) (kZ h5 (by simp))
              rw [hs]
              rcases e with e | e
              · injection e with e1 e2
                subst e1; simp
              · injection e with e1 e2
                exact absurd e1 h47
            · have : decide (0 < an 4 iri (b :: t)) = true := decide_eq_true (by omega)
              rw [this]; simp
  · simp only [if_true]
    unfold j5
    rw [Bool.and_comm]
end Go.Proofs.YtpmflpeckoeooaaGreatDoor.M
namespace Go.Proofs.YtpmflpeckoeooaaGreatDoor.X
open Go.RowKit Go.Proofs.YtpmflpeckoeooaaGreatDoorW.PrintWords Go.Proofs.YtpmflpeckoeooaaGreatDoorW.PrintLast Go.Proofs.YtpmflpeckoeooaaGreatDoorW.PrintMore
attribute [local go_sem] dK cY fS ip cT gD cg gy gA ik il fL fM gz gB
set_option linter.unusedVariables false
set_option linter.unusedSimpArgs false
def kU : Nat → ByteArray → ByteArray → Int → Option (Int)
  | 0, _, _, _ => none
  | k + 1, x0, x2, x7 => if x7 < (x0.size : Int) then (if 0 ≤ x7 then ((aQ k (bt x0 x7) x2).bind fun t751 => (if t751 = true then (some x7) else (kU k x0 x2 (wrap64 (x7 + 1))))) else (none)) else (some (x0.size : Int))
def hY (k : Nat) (a0 : ByteArray) (a1 : Int) (a2 : ByteArray) : Option (Int) := kU k a0 a2 a1
mutual
def i6 : Nat → ByteArray → Int → Int → Bool → ByteArray → Bool → ByteArray → ByteArray → Bool → ByteArray → Bool → ByteArray → Option (ByteArray × Bool × ByteArray × ByteArray × Bool × ByteArray × Bool × ByteArray)
  | 0, _, _, _, _, _, _, _, _, _, _, _, _ => none
  | k + 1, x0, x4, x5, Ai, Ah, Aa, Ab, Ac, Ad, Ae, Af, Ag => if Ai = true then (if 0 ≤ x5 then (if x5 ≤ (x0.size : Int) then (kQ k x0 (wrap64 (x5 + 1)) (x0.extract 0 (x5 : Int).toNat) Aa Ab Ac Ad Ae Af Ag) else (none)) else (none)) else (kQ k x0 x4 Ah Aa Ab Ac Ad Ae Af Ag)
def kQ : Nat → ByteArray → Int → ByteArray → Bool → ByteArray → ByteArray → Bool → ByteArray → Bool → ByteArray → Option (ByteArray × Bool × ByteArray × ByteArray × Bool × ByteArray × Bool × ByteArray)
  | 0, _, _, _, _, _, _, _, _, _, _ => none
  | k + 1, x0, x4, Aa, Ab, Ac, Ad, Ae, Af, Ag, Ah => if (wrap64 ((x0.size : Int) - x4)) ≥ 2 then (if 0 ≤ x4 then (if x4 < (x0.size : Int) then (if (bt x0 x4) = 47 then (if 0 ≤ (wrap64 (x4 + 1)) then (if (wrap64 (x4 + 1)) < (x0.size : Int) then (i7 k x0 x4 ((bt x0 (wrap64 (x4 + 1))) == 47) Aa Ab Ac Ad Ae Af Ag Ah) else (none)) else (none)) else (i7 k x0 x4 false Aa Ab Ac Ad Ae Af Ag Ah)) else (none)) else (none)) else (i7 k x0 x4 false Aa Ab Ac Ad Ae Af Ag Ah)
def i7 : Nat → ByteArray → Int → Bool → ByteArray → Bool → ByteArray → ByteArray → Bool → ByteArray → Bool → ByteArray → Option (ByteArray × Bool × ByteArray × ByteArray × Bool × ByteArray × Bool × ByteArray)
  | 0, _, _, _, _, _, _, _, _, _, _, _ => none
  | k + 1, x0, x4, Aj, Aa, Ag, Ah, Ab, Ac, Ad, Ae, Af => if Aj = true then ((hY k x0 (wrap64 (x4 + 2)) (⟨#[47, 63, 35]⟩ : ByteArray)).bind fun Ai => (if 0 ≤ (wrap64 (x4 + 2)) then (if (wrap64 (x4 + 2)) ≤ Ai then (if Ai ≤ (x0.size : Int) then (kR k x0 Ai Aa true (x0.extract ((wrap64 (x4 + 2)) : Int).toNat (Ai : Int).toNat) Ab Ac Ad Ae Af) else (none)) else (none)) else (none))) else (kR k x0 x4 Aa Ag Ah Ab Ac Ad Ae Af)
def kR : Nat → ByteArray → Int → ByteArray → Bool → ByteArray → ByteArray → Bool → ByteArray → Bool → ByteArray → Option (ByteArray × Bool × ByteArray × ByteArray × Bool × ByteArray × Bool × ByteArray)
  | 0, _, _, _, _, _, _, _, _, _, _ => none
  | k + 1, x0, x4, Ab, Ac, Ad, Ai, Ae, Af, Ag, Ah => (hY k x0 x4 (⟨#[63, 35]⟩ : ByteArray)).bind fun Aa => (if 0 ≤ x4 then (if x4 ≤ Aa then (if Aa ≤ (x0.size : Int) then (if Aa < (x0.size : Int) then (if 0 ≤ Aa then (kT k x0 Aa ((bt x0 Aa) == 63) Ab Ac Ad (x0.extract (x4 : Int).toNat (Aa : Int).toNat) Ae Af Ag Ah) else (none)) else (kT k x0 Aa false Ab Ac Ad (x0.extract (x4 : Int).toNat (Aa : Int).toNat) Ae Af Ag Ah)) else (none)) else (none)) else (none))
def kT : Nat → ByteArray → Int → Bool → ByteArray → Bool → ByteArray → ByteArray → Bool → ByteArray → Bool → ByteArray → Option (ByteArray × Bool × ByteArray × ByteArray × Bool × ByteArray × Bool × ByteArray)
  | 0, _, _, _, _, _, _, _, _, _, _, _ => none
  | k + 1, x0, x4, Aj, Aa, Ab, Ac, Ad, Af, Ag, Ah, Ai => if Aj = true then ((hY k x0 (wrap64 (x4 + 1)) (⟨#[35]⟩ : ByteArray)).bind fun Ae => (if 0 ≤ (wrap64 (x4 + 1)) then (if (wrap64 (x4 + 1)) ≤ Ae then (if Ae ≤ (x0.size : Int) then (if Ae < (x0.size : Int) then (if 0 ≤ (wrap64 (Ae + 1)) then (if (wrap64 (Ae + 1)) ≤ (x0.size : Int) then (some (Aa, Ab, Ac, Ad, true, x0.extract ((wrap64 (x4 + 1)) : Int).toNat (Ae : Int).toNat, true, x0.extract ((wrap64 (Ae + 1)) : Int).toNat x0.size)) else (none)) else (none)) else (some (Aa, Ab, Ac, Ad, true, x0.extract ((wrap64 (x4 + 1)) : Int).toNat (Ae : Int).toNat, Ah, Ai))) else (none)) else (none)) else (none))) else (if x4 < (x0.size : Int) then (if 0 ≤ (wrap64 (x4 + 1)) then (if (wrap64 (x4 + 1)) ≤ (x0.size : Int) then (some (Aa, Ab, Ac, Ad, Af, Ag, true, x0.extract ((wrap64 (x4 + 1)) : Int).toNat x0.size)) else (none)) else (none)) else (some (Aa, Ab, Ac, Ad, Af, Ag, Ah, Ai)))
end
def og (k : Nat) (a0 : ByteArray) : Option (ByteArray × Bool × ByteArray × ByteArray × Bool × ByteArray × Bool × ByteArray) := (hY k a0 0 (⟨#[58, 47, 63, 35]⟩ : ByteArray)).bind fun t754 => (if t754 > 0 then (if t754 < (a0.size : Int) then (if 0 ≤ t754 then (i6 k a0 0 t754 ((bt a0 t754) == 58) (⟨#[]⟩ : ByteArray) false (⟨#[]⟩ : ByteArray) (⟨#[]⟩ : ByteArray) false (⟨#[]⟩ : ByteArray) false (⟨#[]⟩ : ByteArray)) else (none)) else (i6 k a0 0 t754 false (⟨#[]⟩ : ByteArray) false (⟨#[]⟩ : ByteArray) (⟨#[]⟩ : ByteArray) false (⟨#[]⟩ : ByteArray) false (⟨#[]⟩ : ByteArray))) else (i6 k a0 0 t754 false (⟨#[]⟩ : ByteArray) false (⟨#[]⟩ : ByteArray) (⟨#[]⟩ : ByteArray) false (⟨#[]⟩ : ByteArray) false (⟨#[]⟩ : ByteArray)))
end Go.Proofs.YtpmflpeckoeooaaGreatDoor.X
namespace Go.Proofs.YtpmflpeckoeooaaGreatDoor.Y
open Go.RowKit Go.Proofs.YtpmflpeckoeooaaGreatDoor.X Go.Proofs.YtpmflpeckoeooaaGreatDoor.M Go.Proofs.YtpmflpeckoeooaaGreatDoorW.PrintWords Go.Proofs.YtpmflpeckoeooaaGreatDoorW.PrintLast Go.Proofs.YtpmflpeckoeooaaGreatDoorW.PrintMore
set_option linter.unusedVariables false
set_option linter.unusedSimpArgs false
theorem ji {s : ByteArray} {n : Nat} (h : n < s.size) : (aa s).drop n = bt s (n : Int) :: (aa s).drop (n + 1) := by
  rcases bB s n (by omega) with ⟨h1, _⟩ | ⟨_, h1, _⟩
  · omega
  · exact h1
theorem tV (s t : ByteArray) (n : Nat) (hn : n ≤ s.size) (hs : s.size ≤ 140737488351232) (ht : t.size ≤ 140737488351232) :
    Ev (fun k => di k s (n : Int) t) (if aJ (aa t) ((aa s).drop n) = s.size - n then -1 else (n : Int) + aJ (aa t) ((aa s).drop n)) := by
  have h := vU s t n hn hs ht
  simp only at h
  rw [uD, List.length_drop, af] at h
  by_cases he : aJ (aa t) ((aa s).drop n) = s.size - n
  · rw [if_pos he] at h ⊢
    simpa using h
  · rw [if_neg he] at h ⊢
    rw [if_neg (by omega)] at h
    exact h
def lX (b : Int) : Bool := nZ b || [43, 45, 46].contains b
theorem sg {s : ByteArray} {n : Nat} (h : n < s.size) : aa (s.extract n (n + 1)) = [bt s (n : Int)] := by
  rw [au, List.drop_take, ji h, show n + 1 - n = 1 by omega]
  rfl
theorem zP {s : ByteArray} {n : Nat} (h : n < s.size) : ∃ z, Ev (fun k => di k (⟨#[43, 45, 46]⟩ : ByteArray) 0 (s.extract n (n + 1))) z ∧ (z < 0 ↔ [43, 45, 46].contains (bt s (n : Int)) = false) := by
  have hsz : (s.extract n (n + 1)).size = 1 := by rw [← af, sg h]; rfl
  refine ⟨_, vU (⟨#[43, 45, 46]⟩ : ByteArray) (s.extract n (n + 1)) 0 (by decide) (by decide) (by rw [hsz]; decide), ?_⟩
  rw [sg h]
  have e : (aa (⟨#[43, 45, 46]⟩ : ByteArray)).drop 0 = [43, 45, 46] := by decide +kernel
  rw [e]
  generalize bt s (n : Int) = c
  simp only [jj, List.contains_cons, List.contains_nil, Bool.or_false]
  by_cases h1 : (43 : Int) == c
  · simp only [h1, if_true]
    have : (c == (43 : Int)) = true := by rw [beq_iff_eq] at h1 ⊢; exact h1.symm
    rw [this]; simp
  · have h1' : ((43 : Int) == c) = false := by simpa using h1
    have h1'' : (c == (43 : Int)) = false := by rw [beq_eq_false_iff_ne] at h1' ⊢; exact fun h => h1' h.symm
    by_cases h2 : (45 : Int) == c
    · simp only [h1', h2, if_true]
      have : (c == (45 : Int)) = true := by rw [beq_iff_eq] at h2 ⊢; exact h2.symm
      rw [this]; simp
    · have h2' : ((45 : Int) == c) = false := by simpa using h2
      have h2'' : (c == (45 : Int)) = false := by rw [beq_eq_false_iff_ne] at h2' ⊢; exact fun h => h2' h.symm
      by_cases h3 : (46 : Int) == c
      · simp only [h1', h2', h3, if_true]
        have : (c == (46 : Int)) = true := by rw [beq_iff_eq] at h3 ⊢; exact h3.symm
        rw [this]; simp
      · have h3' : ((46 : Int) == c) = false := by simpa using h3
        have h3'' : (c == (46 : Int)) = false := by rw [beq_eq_false_iff_ne] at h3' ⊢; exact fun h => h3' h.symm
        simp only [h1', h2', h3', h1'', h2'', h3'']
        simp
theorem wO (s : ByteArray) (hs : s.size ≤ 140737488351232) : ∀ d n : Nat, n + d = s.size → Ev (fun k => cl k s (s.size : Int) (n : Int)) (((aa s).drop n).all lX) := by
  intro d
  induction d with
  | zero =>
    intro n hn
    refine Ev.step (fun k => by rw [cl]) (ae (by omega) (Ev.val ?_))
    rw [List.drop_of_length_le (by rw [af]; omega)]; rfl
  | succ d ih =>
    intro n hn
    have hr := jN s (n : Int)
    refine Ev.step (fun k => by rw [cl]) (ab (by omega) (ab (by omega) (ab (by omega) (ai (uP 3 hr.1 hr.2) ?_))))
    rw [oS hr.1 hr.2, ji (by omega), List.all_cons, w64 (by omega) (by omega)]
    have nx := ih (n + 1) (by omega)
    have e1 : ((n + 1 : Nat) : Int) = (n : Int) + 1 := by omega
    rw [e1] at nx
    cases ha : nZ (bt s (n : Int))
    · refine ae (by simp) (ab (by omega) (ab (by omega) ?_))
      have e2 : ((n : Int) + 1).toNat = n + 1 := by omega
      rw [e2, Int.toNat_natCast]
      obtain ⟨z, hz, hz2⟩ := zP (s := s) (n := n) (by omega)
      refine ai hz (Ev.ite (fun h => ?_) (fun h => ?_))
      · refine Ev.val ?_
        unfold lX; rw [ha, hz2.1 h]; rfl
      · have hc : [43, 45, 46].contains (bt s (n : Int)) = true := by
          cases h' : [43, 45, 46].contains (bt s (n : Int)) with
          | true => rfl
          | false => exact absurd (hz2.2 h') h
        have : lX (bt s (n : Int)) = true := by unfold lX; rw [hc]; simp
        rw [this, Bool.true_and]
        exact nx
    · refine ab rfl ?_
      have : lX (bt s (n : Int)) = true := by unfold lX; rw [ha]; rfl
      rw [this, Bool.true_and]
      exact nx
theorem ob {s : ByteArray} (h : 0 < s.size) : (aa s).headD 0 = bt s 0 := by
  have := ji (s := s) (n := 0) h
  rw [List.drop_zero] at this
  rw [this]; rfl
theorem fa (s : ByteArray) : s.toList = ([] : List UInt8) ↔ aa s = [] := by
  rw [jz]
  unfold aa
  simp
theorem xZ (s : ByteArray) (hs : s.size ≤ 140737488351232) : Ev (fun k => fK k s) (gZ (aa s)) := by
  unfold fK
  refine Ev.ite (fun h => ?_) (fun h => ?_)
  · rw [(fa s).1 h, nE]
    exact Ev.step (fun k => by rw [da]) (ab rfl (ay _))
  · have hp : 0 < s.size := by
      rcases Nat.eq_zero_or_pos s.size with hz | hz
      · exact absurd ((fa s).2 (List.length_eq_zero_iff.1 (by rw [af]; exact hz))) h
      · exact hz
    have hr := jN s 0
    refine ab (by omega) (ai (uP 1 hr.1 hr.2) (Ev.step (fun k => by rw [da]) ?_))
    rw [wi hr.1 hr.2]
    unfold gZ
    rw [ob hp]
    cases ha : kb (bt s 0)
    · exact ab rfl (Ev.val rfl)
    · refine ae (by simp) ?_
      have := wO s hs s.size 0 (by omega)
      rw [List.drop_zero] at this
      rw [Bool.true_and]
      exact this
theorem wv {b : Int} (h0 : 0 ≤ b) (h1 : b ≤ 255) : (Int.tmod (cls b) 2 == 0) = !kb b :=
  ci (p := fun b => (Int.tmod (cls b) 2 == 0) = !kb b) (by decide +kernel) h0 h1
theorem sr (s : ByteArray) (hs : s.size ≤ 140737488351232) : ∀ d n : Nat, n + d = s.size → Ev (fun k => ca k s (n : Int)) (decide (0 < s.size) && (!(decide (n = 0 ∧ 0 < s.size)) || kb (bt s 0)) && ((aa s).drop n).all lX) := by
  intro d
  induction d with
  | zero =>
    intro n hn
    refine Ev.step (fun k => by rw [ca]) (ae (by omega) (Ev.val ?_))
    rw [List.drop_of_length_le (by rw [af]; omega)]
    rw [Bool.eq_iff_iff]
    simp
    omega
  | succ d ih =>
    intro n hn
    have hr := jN s (n : Int)
    refine Ev.step (fun k => by rw [ca]) (ab (by omega) (ab (by omega) (ai (ol hr.1 hr.2) ?_)))
    have nx := ih (n + 1) (by omega)
    have e1 : ((n + 1 : Nat) : Int) = (n : Int) + 1 := by omega
    have e3 : decide (n + 1 = 0 ∧ 0 < s.size) = false := by simp
    rw [e1, e3] at nx
    simp only [Bool.not_false, Bool.true_or, Bool.and_true] at nx
    have hsz : decide (0 < s.size) = true := decide_eq_true (by omega)
    rw [hsz, Bool.true_and] at nx
    rw [hsz, Bool.true_and, ji (by omega), List.all_cons]
    have hj : ∀ x : Bool, Ev (fun k => dl k s (n : Int) (cls (bt s (n : Int))) x) (!x && (lX (bt s (n : Int)) && ((aa s).drop (n + 1)).all lX)) := by
      intro x
      refine Ev.step (fun k => by rw [dl]) ?_
      cases x
      · refine ae (by simp) ?_
        rw [w64 (by omega) (by omega), Bool.not_false, Bool.true_and]
        refine Ev.ite (fun h => ?_) (fun h => ?_)
        · have ha : nZ (bt s (n : Int)) = false := by rw [← oS hr.1 hr.2]; exact lu.1 h
          refine ab (by omega) (ab (by omega) (ai (zI _ (⟨#[43, 45, 46]⟩ : ByteArray) (by decide)) ?_))
          have e : aa (⟨#[43, 45, 46]⟩ : ByteArray) = [43, 45, 46] := by decide +kernel
          rw [e]
          unfold lX
          rw [ha]
          cases hc : [43, 45, 46].contains (bt s (n : Int))
          · exact ae (by simp) (Ev.val rfl)
          · exact ab rfl nx
        · have ha : nZ (bt s (n : Int)) = true := by
            rw [← oS hr.1 hr.2]
            cases h' : isc (bt s (n : Int)) 3 with
            | true => rfl
            | false => exact absurd (lu.2 h') h
          unfold lX
          rw [ha]
          exact nx
      · exact ab rfl (Ev.val rfl)
    refine Ev.ite (fun h => ?_) (fun h => ?_)
    · have h0 : n = 0 := by omega
      subst h0
      rw [wv hr.1 hr.2]
      have := hj (!kb (bt s ((0 : Nat) : Int)))
      rw [Bool.not_not] at this
      have e4 : decide (0 = 0 ∧ 0 < s.size) = true := decide_eq_true ⟨rfl, by omega⟩
      rw [e4]
      exact this
    · have e4 : decide (n = 0 ∧ 0 < s.size) = false := decide_eq_false (by omega)
      rw [e4]
      exact hj false
theorem tI (s : ByteArray) (hs : s.size ≤ 140737488351232) : Ev (fun k => gW k s) (gZ (aa s)) := by
  have h := sr s hs s.size 0 (by omega)
  have e : (decide (0 < s.size) && (!(decide (0 = 0 ∧ 0 < s.size)) || kb (bt s 0)) && ((aa s).drop 0).all lX) = gZ (aa s) := by
    rw [List.drop_zero]
    rcases Nat.eq_zero_or_pos s.size with hz | hz
    · have : aa s = [] := List.length_eq_zero_iff.1 (by rw [af]; exact hz)
      rw [this, nE]
      have : decide (0 < s.size) = false := decide_eq_false (by omega)
      rw [this]; rfl
    · have h1 : decide (0 < s.size) = true := decide_eq_true hz
      have h2 : decide (0 = 0 ∧ 0 < s.size) = true := decide_eq_true ⟨rfl, hz⟩
      rw [h1, h2]
      unfold gZ
      rw [ob hz]
      rfl
  rw [e] at h
  exact h
theorem u9 (iri : Bool) (s : ByteArray) (hs : s.size ≤ 140737488351232) : ∀ d n : Nat, n + d = s.size → Ev (fun k => cK k iri s (n : Int)) (j5 iri ((aa s).drop n)) := by
  intro d
  induction d using Nat.strongRecOn with
  | _ d ih =>
    intro n hn
    refine Ev.step (fun k => by rw [cK]) ?_
    refine Ev.ite (fun h => ?_) (fun h => ?_)
    · have hd := ji (s := s) (n := n) (by omega)
      refine ab (by omega) (Ev.ite (fun hb => ?_) (fun hb => ?_))
      · rw [w64 (by omega) (by omega)]
        refine ab (by omega) (ab (by omega) ?_)
        have e2 : ((n : Int) + 1).toNat = n + 1 := by omega
        rw [e2]
        have hsp := jx 3 iri (s.extract (n + 1) s.size) (by rw [← af, aY, List.length_drop, af]; omega)
        rw [aY] at hsp
        refine ai hsp ?_
        have hle := g0 3 iri ((aa s).drop (n + 1))
        rw [List.length_drop, af] at hle
        rw [w64 (by omega) (by omega)]
        have nx := ih (s.size - (n + 1 + an 3 iri ((aa s).drop (n + 1)))) (by omega) (n + 1 + an 3 iri ((aa s).drop (n + 1))) (by omega)
        have e3 : ((n + 1 + an 3 iri ((aa s).drop (n + 1)) : Nat) : Int) = (n : Int) + 1 + (an 3 iri ((aa s).drop (n + 1)) : Int) := by omega
        have hdd : (aa s).drop (n + 1 + an 3 iri ((aa s).drop (n + 1))) = ((aa s).drop (n + 1)).drop (an 3 iri ((aa s).drop (n + 1))) := by rw [List.drop_drop]
        rw [e3, hdd, ya (fun b hb => lF s b (List.mem_of_mem_drop hb))] at nx
        have e4 : j5 iri ((aa s).drop n) = bo 5 iri ((aa s).drop (n + 1)) := by
          rw [hd, hb]
          unfold j5
          rw [ph]
          simp
        rw [e4]
        exact nx
      · refine Ev.val ?_
        rw [hd]
        unfold j5
        have h1 : ((bt s (n : Int) :: (aa s).drop (n + 1)) == []) = false := by rw [beq_eq_false_iff_ne]; simp
        have h2 : ((bt s (n : Int) :: (aa s).drop (n + 1)).headD 0 == 47) = false := by rw [beq_eq_false_iff_ne]; exact hb
        rw [h1, h2]; rfl
    · rw [List.drop_of_length_le (by rw [af]; omega)]
      refine Ev.val ?_
      unfold j5
      rw [lD]; rfl
theorem rt (iri : Bool) (s : ByteArray) (hs : s.size ≤ 140737488351232) : Ev (fun k => fb k iri s) (j5 iri (aa s)) := by
  have := u9 iri s hs s.size 0 (by omega)
  rw [List.drop_zero] at this
  exact this
theorem mM (p : Int) (iri : Bool) (s : ByteArray) (hs : s.size ≤ 140737488351232) : Ev (fun k => dX k p iri s) (decide (0 < an p iri (aa s)) && j5 iri ((aa s).drop (an p iri (aa s)))) := by
  unfold dX
  have hle := g0 p iri (aa s)
  rw [af] at hle
  refine ai (jx p iri s hs) (Ev.ite (fun h => ?_) (fun h => ?_))
  · refine ab (by omega) (ab (by omega) ?_)
    rw [Int.toNat_natCast]
    have h1 := rt iri (s.extract (an p iri (aa s)) s.size) (by rw [← af, aY, List.length_drop, af]; omega)
    rw [aY] at h1
    refine ai h1 (Ev.val ?_)
    have : decide (0 < an p iri (aa s)) = true := decide_eq_true (by omega)
    rw [this, Bool.true_and]
  · refine Ev.val ?_
    have : decide (0 < an p iri (aa s)) = false := decide_eq_false (by omega)
    rw [this, Bool.false_and]
theorem sy (s : ByteArray) : (s.toList == ([47] : List UInt8)) = decide (aa s = [47]) := by
  rw [Bool.eq_iff_iff, beq_iff_eq, decide_eq_true_iff]
  have : s.toList = ([47] : List UInt8) ↔ s.toList = (⟨#[47]⟩ : ByteArray).toList := by
    have e : (⟨#[47]⟩ : ByteArray).toList = ([47] : List UInt8) := by rw [jz]
    rw [e]
  rw [this, jn]
  have e : aa (⟨#[47]⟩ : ByteArray) = [47] := by decide +kernel
  rw [e]
theorem wF (sch : ByteArray) (ha : Bool) (aut pth : ByteArray) (hq : Bool) (q : ByteArray) (hf : Bool) (f : ByteArray) (iri : Bool) (hs : pth.size ≤ 140737488351232) :
    Ev (fun k => gv k sch ha aut pth hq q hf f iri) (jJ iri (aa sch == []) ha (aa pth)) := by
  rw [← wy iri _ ha (lF pth)]
  unfold gv uY
  cases ha
  · simp only [Bool.false_eq_true, if_false]
    have hj : ∀ x : Bool, (x = true ↔ (aa pth = [] ∨ aa pth = [47])) → Ev (fun k => dY k iri pth x sch false aut pth hq q hf f) (if aa pth = [] ∨ aa pth = [47] then true else
        if (aa pth).headD 0 = 47 then decide (0 < an 3 iri ((aa pth).drop 1)) && j5 iri (((aa pth).drop 1).drop (an 3 iri ((aa pth).drop 1)))
        else decide (0 < an (if (aa sch == []) = true then 4 else 3) iri (aa pth)) && j5 iri ((aa pth).drop (an (if (aa sch == []) = true then 4 else 3) iri (aa pth)))) := by
      intro x hx
      refine Ev.step (fun k => by rw [dY]) ?_
      refine Ev.ite (fun h => ?_) (fun h => ?_)
      · rw [if_pos (hx.1 h)]; exact ay _
      · have hn : ¬ (aa pth = [] ∨ aa pth = [47]) := fun h' => h (hx.2 h')
        rw [if_neg hn]
        have hp : 0 < pth.size := by
          rcases Nat.eq_zero_or_pos pth.size with hz | hz
          · exact absurd (.inl (List.length_eq_zero_iff.1 (by rw [af]; exact hz))) hn
          · exact hz
        rw [ob hp]
        refine ab (by omega) (Ev.ite (fun hb => ?_) (fun hb => ?_))
        · rw [if_pos hb]
          refine ab (by omega) ?_
          have h1 := mM 3 iri (pth.extract 1 pth.size) (by rw [← af, aY, List.length_drop, af]; omega)
          rw [aY] at h1
          exact ai h1 (ay _)
        · rw [if_neg hb]
          refine Ev.ite (fun h' => ?_) (fun h' => ?_)
          · have e : (aa sch == []) = true := by rw [beq_iff_eq]; exact (fa sch).1 h'
            rw [e]
            exact ai (mM 4 iri pth hs) (ay _)
          · have e : (aa sch == []) = false := by rw [beq_eq_false_iff_ne]; exact fun h'' => h' ((fa sch).2 h'')
            rw [e]
            exact ai (mM 3 iri pth hs) (ay _)
    refine Ev.ite (fun h => ?_) (fun h => ?_)
    · exact hj true ⟨fun _ => .inl ((fa pth).1 h), fun _ => rfl⟩
    · rw [sy]
      exact hj _ ⟨fun h' => .inr (of_decide_eq_true h'), fun h' => decide_eq_true (h'.resolve_left fun h'' => h ((fa pth).2 h''))⟩
  · simp only [if_true]
    exact ai (rt iri pth hs) (ay _)
def oc (kind : Int) (sch : ByteArray) (ha : Bool) (aut pth q : ByteArray) (hf : Bool) (f : ByteArray) : Bool :=
  (if aa sch = [] then kind == 2 || kind == 5 else gZ (aa sch)) && (!(hf && kind == 3) && ((!ha || gb (decide (kind ≥ 4)) (bA aut)) &&
    (jJ (decide (kind ≥ 4)) (aa sch == []) ha (aa pth) && (bo 6 (decide (kind ≥ 4)) (aa q) && bo 7 (decide (kind ≥ 4)) (aa f)))))
theorem pM (p : Int) (iri : Bool) (s : ByteArray) : ((an p iri (aa s) : Int) = (s.size : Int)) ↔ bo p iri (aa s) = true := by
  unfold bo
  rw [beq_iff_eq, af]
  omega
theorem om (kind : Int) (sch : ByteArray) (ha : Bool) (aut pth : ByteArray) (hq : Bool) (q : ByteArray) (hf : Bool) (f : ByteArray) (h1 : sch.size ≤ 1000000) (h2 : aut.size ≤ 1000000) (h3 : pth.size ≤ 1000000) (h4 : q.size ≤ 1000000) (h5 : f.size ≤ 1000000) :
    Ev (fun k => dR k kind sch ha aut pth hq q hf f) (oc kind sch ha aut pth q hf f) := by
  have hj2 : ∀ x : Bool, Ev (fun k => eu k (decide (kind ≥ 4)) x sch ha aut pth hq q hf f) (!x && (jJ (decide (kind ≥ 4)) (aa sch == []) ha (aa pth) && (bo 6 (decide (kind ≥ 4)) (aa q) && bo 7 (decide (kind ≥ 4)) (aa f)))) := by
    intro x
    refine Ev.step (fun k => by rw [eu]) ?_
    cases x
    · refine ae (by simp) (ai (wF sch ha aut pth hq q hf f _ (by omega)) ?_)
      rw [Bool.not_false, Bool.true_and]
      cases hp : jJ (decide (kind ≥ 4)) (aa sch == []) ha (aa pth)
      · exact ae (by simp) (Ev.val rfl)
      · refine ab rfl (ai (jx 6 _ q (by omega)) ?_)
        rw [Bool.true_and]
        refine Ev.ite (fun h => ?_) (fun h => ?_)
        · rw [(pM 6 _ q).1 h, Bool.true_and]
          refine ai (jx 7 _ f (by omega)) (Ev.val ?_)
          rw [Bool.eq_iff_iff, beq_iff_eq]
          exact pM 7 _ f
        · refine Ev.val ?_
          have : bo 6 (decide (kind ≥ 4)) (aa q) = false := by
            cases h' : bo 6 (decide (kind ≥ 4)) (aa q) with
            | false => rfl
            | true => exact absurd ((pM 6 _ q).2 h') h
          rw [this]; rfl
    · exact ab rfl (Ev.val rfl)
  have hj1 : ∀ x : Bool, Ev (fun k => et k (decide (kind ≥ 4)) x sch ha aut pth hq q hf f) (!x && ((!ha || gb (decide (kind ≥ 4)) (bA aut)) && (jJ (decide (kind ≥ 4)) (aa sch == []) ha (aa pth) && (bo 6 (decide (kind ≥ 4)) (aa q) && bo 7 (decide (kind ≥ 4)) (aa f))))) := by
    intro x
    refine Ev.step (fun k => by rw [et]) ?_
    cases x
    · refine ae (by simp) ?_
      rw [Bool.not_false, Bool.true_and]
      cases ha
      · exact ae (by simp) (hj2 false)
      · refine ab rfl (ai (xc _ aut h2) ?_)
        cases hr : gb (decide (kind ≥ 4)) (bA aut)
        · simp only [Bool.false_eq_true, if_false]
          exact hj2 true
        · simp only [if_true]
          exact hj2 false
    · exact ab rfl (Ev.val rfl)
  have hj0 : ∀ x : Bool, Ev (fun k => cP k kind (decide (kind ≥ 4)) x sch ha aut pth hq q hf f) (!x && (!(hf && kind == 3) && ((!ha || gb (decide (kind ≥ 4)) (bA aut)) && (jJ (decide (kind ≥ 4)) (aa sch == []) ha (aa pth) && (bo 6 (decide (kind ≥ 4)) (aa q) && bo 7 (decide (kind ≥ 4)) (aa f)))))) := by
    intro x
    refine Ev.step (fun k => by rw [cP]) ?_
    cases x
    · refine ae (by simp) ?_
      rw [Bool.not_false, Bool.true_and]
      cases hf
      · exact ae (by simp) (hj1 false)
      · exact ab rfl (hj1 _)
    · exact ab rfl (Ev.val rfl)
  unfold dR oc
  refine Ev.ite (fun h => ?_) (fun h => ?_)
  · rw [if_pos ((fa sch).1 h)]
    refine Ev.ite (fun h2 => ?_) (fun h2 => Ev.ite (fun h5 => ?_) (fun h5 => ?_))
    · subst h2; exact hj0 false
    · subst h5; exact hj0 false
    · have e2 : (kind == 2) = false := by rw [beq_eq_false_iff_ne]; exact h2
      have e5 : (kind == 5) = false := by rw [beq_eq_false_iff_ne]; exact h5
      rw [e2, e5]
      exact hj0 true
  · rw [if_neg (fun h' => h ((fa sch).2 h'))]
    refine ai (tI sch (by omega)) ?_
    have := hj0 (!gZ (aa sch))
    rw [Bool.not_not] at this
    exact this
end Go.Proofs.YtpmflpeckoeooaaGreatDoor.Y
namespace Go.Proofs.YtpmflpeckoeooaaGreatDoor.M
open Go Go.RowKit Go.Proofs.YtpmflpeckoeooaaGreatDoorW.PrintWords
def pI (l : List Int) : Nat := aJ [58, 47, 63, 35] l
def cS (l : List Int) : Bool := decide (0 < pI l) && (l.getD (pI l) 0 == 58)
def pC (l : List Int) : Nat := if cS l then pI l + 1 else 0
def cA (l : List Int) : Bool := (l.drop (pC l)).take 2 == [47, 47]
def g7 (l : List Int) (c : Nat) : Nat := c + 2 + aJ [47, 63, 35] (l.drop (c + 2))
def pP (l : List Int) : Nat := if cA l then g7 l (pC l) else pC l
def fH (l : List Int) (p : Nat) : Nat := p + aJ [63, 35] (l.drop p)
def hD (l : List Int) (p : Nat) : Nat := p + 1 + aJ [35] (l.drop (p + 1))
def cQ (l : List Int) : Bool := l.getD (fH l (pP l)) 0 == 63
def pF (l : List Int) : Nat := if cQ l then hD l (fH l (pP l)) else fH l (pP l)
def cF (l : List Int) : Bool := decide (pF l < l.length)
theorem ls {l : List Int} {i : Nat} {c : Int} (hc : c ≠ 0) (h : l.getD i 0 = c) : i < l.length := by
  rcases Nat.lt_or_ge i l.length with h' | h'
  · exact h'
  · rw [List.getD_eq_getElem?_getD, List.getElem?_eq_none h'] at h
    exact absurd h.symm hc
theorem rJ (l : List Int) : pI l ≤ l.length := iU _ _
theorem uW (l : List Int) : pC l ≤ l.length := by
  unfold pC
  split
  · rename_i h
    unfold cS at h
    rw [Bool.and_eq_true, beq_iff_eq] at h
    have := ls (by decide) h.2
    omega
  · omega
theorem qv {l : List Int} {c : Nat} (h : (l.drop c).take 2 = [47, 47]) : c + 2 ≤ l.length := by
  have := congrArg List.length h
  rw [List.length_take, List.length_drop] at this
  simp at this
  omega
theorem o4 {l : List Int} {c : Nat} (h : c + 2 ≤ l.length) : c + 2 ≤ g7 l c ∧ g7 l c ≤ l.length := by
  have := iU [47, 63, 35] (l.drop (c + 2))
  rw [List.length_drop] at this
  unfold g7
  omega
theorem aaf (l : List Int) : pP l ≤ l.length := by
  unfold pP
  split
  · rename_i h
    unfold cA at h
    rw [beq_iff_eq] at h
    exact (o4 (qv h)).2
  · exact uW l
theorem ze {l : List Int} {p : Nat} (h : p ≤ l.length) : p ≤ fH l p ∧ fH l p ≤ l.length := by
  have := iU [63, 35] (l.drop p)
  rw [List.length_drop] at this
  unfold fH
  omega
theorem uk {l : List Int} {p : Nat} (h : p < l.length) : p + 1 ≤ hD l p ∧ hD l p ≤ l.length := by
  have := iU [35] (l.drop (p + 1))
  rw [List.length_drop] at this
  unfold hD
  omega
theorem nX (set l : List Int) : l.drop (aJ set l) = [] ∨ ∃ b t, l.drop (aJ set l) = b :: t ∧ b ∈ set := by
  by_cases h : aJ set l < l.length
  · exact .inr (rO h)
  · exact .inl (List.drop_of_length_le (by omega))
theorem jM (set l : List Int) : l = l.take (aJ set l) ++ l.drop (aJ set l) := (List.take_append_drop _ _).symm
theorem ov (p : Int) (iri : Bool) (set : List Int) (hset : ∀ c ∈ set, 0 ≤ c ∧ c < 128 ∧ c ≠ 37 ∧ hv c < 0 ∧ cf p c = false) (l : List Int) : an p iri l = an p iri (l.take (aJ set l)) := by
  rcases nX set l with h | ⟨b, t, h, hb⟩
  · have e := jM set l
    rw [h, List.append_nil] at e
    rw [← e]
  · obtain ⟨h0, h1, h2, h3, h4⟩ := hset b hb
    conv => lhs; rw [jM set l, h]
    exact pN p iri b t h0 h1 h2 h3 h4 _ _ rfl
end Go.Proofs.YtpmflpeckoeooaaGreatDoor.M
