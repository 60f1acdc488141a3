/- Texts that the law's proof needs, joined by a program of this session. -/
import Derived.Test.YtpmflpeckoeooaaGreatDoorZSyntaxKinds2
import Derived.Test.YtpmflpeckoeooaaGreatDoorZSyntaxKinds3
import Derived.Test.YtpmflpeckoeooaaGreatDoorZSyntaxKinds5
import Derived.Test.YtpmflpeckoeooaaGreatDoorZSyntaxKinds7
import Derived.Test.YtpmflpeckoeooaaGreatDoorZSyntaxKinds9
import Derived.Test.YtpmflpeckoeooaaGreatDoorZSyntaxKinds10
import Derived.Test.YtpmflpeckoeooaaGreatDoorZSyntaxKinds11
import Derived.Test.YtpmflpeckoeooaaGreatDoorZSyntaxKinds12
set_option linter.unusedSimpArgs false
set_option linter.unusedVariables false
namespace Go.Proofs.YtpmflpeckoeooaaGreatDoor.Y
open Go.RowKit Go.Proofs.YtpmflpeckoeooaaGreatDoor.X Go.Proofs.YtpmflpeckoeooaaGreatDoor.M Go.Proofs.YtpmflpeckoeooaaGreatDoorW.PrintWords Go.Proofs.YtpmflpeckoeooaaGreatDoorW.PrintLast
theorem oy (s : ByteArray) (c : Int) (h0 : 0 ≤ c) (h1 : c ≤ 255) : dq s c = some (idx c (aa s)) := by
  unfold dq ib
  rw [pb s c h0 h1]; rfl
theorem qZ (s : ByteArray) (c : Int) (hs : s.size ≤ 140737488351232) : ∀ n : Nat, n ≤ s.size → Ev (fun k => bf k s c ((n : Int) - 1)) (bC c ((aa s).take n)) := by
  intro n
  induction n with
  | zero =>
    intro _
    refine Ev.step (fun k => rfl) ?_
    simp only [Int.natCast_zero, List.take_zero, bC]
    refine ae (by omega) (az _)
  | succ n ih =>
    intro hn
    refine Ev.step (fun k => rfl) ?_
    have e : ((n + 1 : Nat) : Int) - 1 = (n : Int) := by omega
    rw [e, vT (by omega), vp]
    refine ab (by omega) (ab (by omega) (ab (by omega) ?_))
    by_cases hb : bt s (n : Int) = c
    · refine ab hb ?_
      rw [if_pos hb, List.length_take, af, Nat.min_eq_left (by omega)]
      exact az _
    · refine ae hb ?_
      rw [if_neg hb, w64 (by omega) (by omega)]
      exact ih (by omega)
theorem pe (s : ByteArray) (c : Int) (hs : s.size ≤ 140737488351232) : Ev (fun k => cR k s c) (bC c (aa s)) := by
  refine ah (a := bC c (aa s)) (f := fun _ t => some t) ?_ (az _)
  unfold bQ
  rw [w64 (by omega) (by omega)]
  have := qZ s c hs s.size (Nat.le_refl _)
  rw [← af, List.take_length, af] at this
  exact this
theorem mA (s p : ByteArray) : eg s p = some (decide ((aa s).take p.size = aa p)) := by
  unfold eg fR
  by_cases h : (s.size : Int) ≥ (p.size : Int)
  · rw [if_pos h, if_pos (by omega), if_pos (by omega)]
    simp only [Option.bind_some, Option.some.injEq, Int.toNat_natCast]
    rw [Bool.eq_iff_iff, beq_iff_eq, decide_eq_true_iff, ku, ap, List.drop_zero]
  · rw [if_neg h]
    simp only [Option.bind_some, Option.some.injEq]
    symm
    rw [decide_eq_false_iff_not]
    intro e
    have := congrArg List.length e
    rw [List.length_take, af, af] at this
    omega
def aV (l : List Int) : Int :=
  if l.take 1 = [91] ∧ 0 ≤ idx 93 l then
    (if l.drop ((idx 93 l).toNat + 1) = [] ∨ (l.drop ((idx 93 l).toNat + 1)).getD 0 0 = 58 then idx 93 l + 1 else l.length)
  else if 0 ≤ idx 58 l then idx 58 l else l.length
theorem fM (l : List Int) : 0 ≤ aV l ∧ aV l ≤ l.length := by
  have h1 := kU 93 l
  have h2 := nJ 93 l
  have h3 := kU 58 l
  have h4 := nJ 58 l
  unfold aV
  split
  · split <;> omega
  · split <;> omega
def kI (s : ByteArray) : ByteArray × ByteArray := (s.extract 0 (aV (aa s)).toNat, s.extract (aV (aa s)).toNat s.size)
theorem kH (s : ByteArray) : s.extract 0 s.size = s := ByteArray.extract_zero_size
theorem nH (s : ByteArray) : s.extract s.size s.size = (⟨#[]⟩ : ByteArray) := by
  apply iI
  rw [ap, ← af, List.take_length, List.drop_length]; rfl
theorem pa (s : ByteArray) (e : Int) (he : e = if 0 ≤ idx 58 (aa s) then idx 58 (aa s) else s.size) :
    ((dq s 58).bind fun t => (if t ≥ 0 then (if 0 ≤ t then (if t ≤ (s.size : Int) then (some (s.extract 0 (t : Int).toNat, s.extract (t : Int).toNat s.size)) else (none)) else (none)) else (some (s, (⟨#[]⟩ : ByteArray))))) = some (s.extract 0 e.toNat, s.extract e.toNat s.size) := by
  rw [oy s 58 (by omega) (by omega)]
  simp only [Option.bind_some]
  have h3 := kU 58 (aa s)
  have h4 := nJ 58 (aa s)
  rw [af] at h4
  by_cases h : 0 ≤ idx 58 (aa s)
  · rw [if_pos h] at he
    rw [if_pos h, if_pos h, if_pos (by omega), he]
  · rw [if_neg h] at he
    rw [if_neg h, he, Int.toNat_natCast, kH, nH]
theorem lL (s : ByteArray) (i : Nat) : (s.extract i s.size).toList = ([] : List UInt8) ↔ (aa s).drop i = [] := by
  have : ([] : List UInt8) = (⟨#[]⟩ : ByteArray).toList := by rw [ByteArray.toList_eq]
  rw [this, ku, ap, ← af, List.take_length]
  exact Iff.rfl
theorem uZ (s : ByteArray) (hs : s.size ≤ 140737488351232) : Ev (fun k => gh k s) (kI s) := by
  have h1 := kU 93 (aa s)
  have h2 := nJ 93 (aa s)
  rw [af] at h2
  unfold gh
  rw [mA]
  simp only [Option.bind_some, decide_eq_true_iff]
  have hb : aa (⟨#[91]⟩ : ByteArray) = [91] := rfl
  have hz : (⟨#[91]⟩ : ByteArray).size = 1 := rfl
  rw [hb, hz]
  by_cases hp : (aa s).take 1 = [91]
  · simp only [if_pos hp]
    rw [oy s 93 (by omega) (by omega)]
    simp only [Option.bind_some]
    by_cases h : idx 93 (aa s) ≥ 0
    · refine ab h ?_
      rw [w64 (by omega) (by omega)]
      refine ab (by omega) (ab (by omega) ?_)
      have hn : (idx 93 (aa s) + 1).toNat = (idx 93 (aa s)).toNat + 1 := by omega
      rw [hn]
      have fin : ∀ x b, Ev (fun k => ep k s (idx 93 (aa s)) x b) (if b = true then (s.extract 0 ((idx 93 (aa s)).toNat + 1), x) else (s, ⟨#[]⟩)) := by
        intro x b
        refine Ev.step (fun k => by rw [ep]) ?_
        rw [w64 (by omega) (by omega)]
        cases b
        · exact ae (by simp) (az _)
        · refine ab rfl (ab (by omega) (ab (by omega) ?_))
          rw [hn]
          exact az _
      by_cases hd : (aa s).drop ((idx 93 (aa s)).toNat + 1) = []
      · refine ab ((lL s _).2 hd) ?_
        have : kI s = (s.extract 0 ((idx 93 (aa s)).toNat + 1), s.extract ((idx 93 (aa s)).toNat + 1) s.size) := by
          unfold kI aV
          rw [if_pos ⟨hp, h⟩, if_pos (.inl hd), hn]
        rw [this]
        exact (fin _ true)
      · refine ae (fun x => hd ((lL s _).1 x)) ?_
        obtain ⟨b, t, hbt⟩ : ∃ b t, (aa s).drop ((idx 93 (aa s)).toNat + 1) = b :: t := by
          cases hh : (aa s).drop ((idx 93 (aa s)).toNat + 1) with
          | nil => exact absurd hh hd
          | cons b t => exact ⟨b, t, rfl⟩
        have hx : (aa (s.extract ((idx 93 (aa s)).toNat + 1) s.size)).drop 0 = b :: t := by
          rw [ap, ← af, List.take_length, List.drop_zero, hbt]
        obtain ⟨g1, g2, _⟩ := pD hx
        rw [Int.natCast_zero] at g1
        rw [g1]
        refine ab (by omega) ?_
        have hg : (List.drop ((idx 93 (aa s)).toNat + 1) (aa s)).getD 0 0 = b := by rw [hbt]; rfl
        have : kI s = (if (b == 58) = true then (s.extract 0 ((idx 93 (aa s)).toNat + 1), s.extract ((idx 93 (aa s)).toNat + 1) s.size) else (s, ⟨#[]⟩)) := by
          unfold kI aV
          rw [if_pos ⟨hp, h⟩, hg]
          by_cases hb58 : b = 58
          · rw [if_pos (.inr hb58), if_pos (by simp [hb58]), hn]
          · rw [if_neg (by simp [hd, hb58]), if_neg (by simp [hb58]), af, Int.toNat_natCast, kH, nH]
        rw [this]
        exact fin _ _
    · simp only [if_neg h]
      rw [pa s (aV (aa s)) (by
        unfold aV
        rw [if_neg (by omega), af])]
      exact az _
  · simp only [if_neg hp]
    rw [pa s (aV (aa s)) (by
      unfold aV
      rw [if_neg (fun x => hp x.1), af])]
    exact az _
def br (s : ByteArray) : ByteArray := s.extract (bC 64 (aa s) + 1).toNat s.size
def bq (s : ByteArray) : Bool × ByteArray × ByteArray × Bool × ByteArray :=
  (decide (0 ≤ bC 64 (aa s)), s.extract 0 (bC 64 (aa s)).toNat, (br s).extract 0 (aV (aa (br s))).toNat,
   decide (aV (aa (br s)) < (br s).size), (br s).extract ((aV (aa (br s))).toNat + 1) (br s).size)
theorem kl (s : ByteArray) : s.extract 0 0 = (⟨#[]⟩ : ByteArray) := by
  apply iI; rw [ap]; rfl
theorem fF (s : ByteArray) (i : Nat) : (s.extract i s.size).size = s.size - i := by
  rw [ByteArray.size_extract, Nat.min_self]
theorem kk (s : ByteArray) (i : Nat) (h : s.size ≤ i) : s.extract i s.size = (⟨#[]⟩ : ByteArray) := by
  apply iI
  rw [ap, List.drop_of_length_le (by rw [List.length_take, af]; omega)]; rfl
theorem jp (s : ByteArray) (i j : Nat) : (s.extract i s.size).extract j (s.extract i s.size).size = s.extract (i + j) s.size := by
  apply iI
  rw [ap, ap, ap, ← af (s.extract i s.size), ap, List.take_length, List.drop_drop]
theorem yt (s : ByteArray) (hs : s.size ≤ 140737488351232) : Ev (fun k => gR k s) (bq s) := by
  have h1 := lH 64 (aa s)
  have h2 := tf 64 (aa s)
  rw [af] at h2
  unfold gR
  refine ah (pe s 64 hs) ?_
  have port : ∀ (r : ByteArray), r.size ≤ s.size → (kI r).2.size = r.size - (aV (aa r)).toNat ∧ ((kI r).2.toList = ([] : List UInt8) ↔ ¬ aV (aa r) < r.size) := by
    intro r _
    have hr := fM (aa r)
    rw [af] at hr
    refine ⟨fF r _, ?_⟩
    unfold kI
    rw [lL, List.drop_eq_nil_iff, af]
    omega
  by_cases h : bC 64 (aa s) ≥ 0
  · have hz : (br s).size ≤ s.size := by unfold br; rw [fF]; omega
    obtain ⟨p1, p2⟩ := port (br s) hz
    have hr := fM (aa (br s))
    rw [af] at hr
    refine ab h (ab h (ab (by omega) ?_))
    rw [w64 (by omega) (by omega)]
    refine ab (by omega) (ab (by omega) ?_)
    refine ah (uZ (br s) (by omega)) ?_
    by_cases hp : aV (aa (br s)) < (br s).size
    · refine ae (fun x => absurd hp (p2.1 x)) (ab (by rw [p1]; omega) (oY fun _ => ?_))
      unfold bq
      rw [decide_eq_true h, decide_eq_true hp]
      simp only [kI, jp]
    · refine ab (p2.2 hp) (oY fun _ => ?_)
      unfold bq
      rw [decide_eq_true h, decide_eq_false hp, kk (br s) _ (by omega)]
      rfl
  · have hr0 : br s = s := by
      unfold br
      have : (bC 64 (aa s) + 1).toNat = 0 := by omega
      rw [this, kH]
    obtain ⟨p1, p2⟩ := port s (Nat.le_refl _)
    have hr := fM (aa s)
    rw [af] at hr
    have ht : (bC 64 (aa s)).toNat = 0 := by omega
    refine ae h ?_
    refine ah (uZ s hs) ?_
    by_cases hp : aV (aa s) < s.size
    · refine ae (fun x => absurd hp (p2.1 x)) (ab (by rw [p1]; omega) (oY fun _ => ?_))
      unfold bq
      rw [hr0, decide_eq_false h, decide_eq_true hp, ht, kl]
      simp only [kI, jp]
    · refine ab (p2.2 hp) (oY fun _ => ?_)
      unfold bq
      rw [hr0, decide_eq_false h, decide_eq_false hp, ht, kl, kk s _ (by omega)]
      rfl
def tT (x : Bool × ByteArray × ByteArray × Bool × ByteArray) : ByteArray :=
  (if x.1 = true then x.2.1 ++ ⟨#[64]⟩ ++ x.2.2.1 else x.2.2.1) ++ (if x.2.2.2.1 = true then ⟨#[58]⟩ ++ x.2.2.2.2 else ⟨#[]⟩)
theorem append_nil (s : ByteArray) : s ++ (⟨#[]⟩ : ByteArray) = s := by
  apply iI; rw [eX]; exact List.append_nil _
theorem vm (s : ByteArray) : tT (bq s) = s := by
  apply iI
  have h1 := lH 64 (aa s)
  have rest : aa ((br s).extract 0 (aV (aa (br s))).toNat) ++ aa (if decide (aV (aa (br s)) < (br s).size) = true then (⟨#[58]⟩ : ByteArray) ++ (br s).extract ((aV (aa (br s))).toNat + 1) (br s).size else ⟨#[]⟩) = aa (br s) := by
    generalize br s = x
    have hr := fM (aa x)
    rw [af] at hr
    rw [ap, List.drop_zero]
    by_cases h : aV (aa x) < x.size
    · rw [if_pos (decide_eq_true h), eX, ap, ← af, List.take_length]
      have hb : aa (⟨#[58]⟩ : ByteArray) = [58] := rfl
      rw [hb]
      have key : (aa x).drop (aV (aa x)).toNat = 58 :: (aa x).drop ((aV (aa x)).toNat + 1) := by
        obtain ⟨d, t, hd⟩ : ∃ d t, (aa x).drop (aV (aa x)).toNat = d :: t := by
          cases hh : (aa x).drop (aV (aa x)).toNat with
          | nil => rw [List.drop_eq_nil_iff, af] at hh; omega
          | cons d t => exact ⟨d, t, rfl⟩
        have g3 := (pD hd).2.2.1
        rw [hd, g3]
        congr 1
        have fromIdx : 0 ≤ idx 58 (aa x) → aV (aa x) = idx 58 (aa x) → d = 58 := by
          intro hi he
          have hsp := (nK hi).1
          have hlen : ((aa x).take (idx 58 (aa x)).toNat).length = (idx 58 (aa x)).toNat := by
            have := nJ 58 (aa x)
            rw [List.length_take]; omega
          have : ∀ (p q l : List Int), l = p ++ q → l.drop p.length = q := fun p q l h => by rw [h, List.drop_left]
          have := this _ _ _ hsp
          rw [hlen, ← he, hd] at this
          injection this
        by_cases hp : (aa x).take 1 = [91] ∧ 0 ≤ idx 93 (aa x)
        · by_cases hq : (aa x).drop ((idx 93 (aa x)).toNat + 1) = [] ∨ ((aa x).drop ((idx 93 (aa x)).toNat + 1)).getD 0 0 = 58
          · have he : aV (aa x) = idx 93 (aa x) + 1 := by unfold aV; rw [if_pos hp, if_pos hq]
            have hn : (aV (aa x)).toNat = (idx 93 (aa x)).toNat + 1 := by omega
            rw [hn] at hd
            rw [hd] at hq
            rcases hq with hq | hq
            · cases hq
            · simpa using hq
          · have he : aV (aa x) = (aa x).length := by unfold aV; rw [if_pos hp, if_neg hq]
            rw [af] at he; omega
        · by_cases hi : 0 ≤ idx 58 (aa x)
          · exact fromIdx hi (by unfold aV; rw [if_neg hp, if_pos hi])
          · have he : aV (aa x) = (aa x).length := by unfold aV; rw [if_neg hp, if_neg hi]
            rw [af] at he; omega
      rw [List.singleton_append, ← key, List.take_append_drop]
    · rw [if_neg (by simpa using h)]
      have : aa (⟨#[]⟩ : ByteArray) = [] := rfl
      rw [this, List.append_nil, List.take_of_length_le (by rw [af]; omega)]
  unfold tT bq
  simp only
  rw [eX]
  by_cases h : 0 ≤ bC 64 (aa s)
  · rw [if_pos (decide_eq_true h), eX, eX, List.append_assoc, rest]
    have hb : aa (⟨#[64]⟩ : ByteArray) = [64] := rfl
    have hn : (bC 64 (aa s) + 1).toNat = (bC 64 (aa s)).toNat + 1 := by omega
    rw [hb, br, ap, ap, List.drop_zero, hn, ← af, List.take_length, List.append_assoc, List.singleton_append]
    exact (pf h).1.symm
  · rw [if_neg (by simpa using h), rest]
    have hn : (bC 64 (aa s) + 1).toNat = 0 := by omega
    rw [br, hn, kH]
theorem ua (s : ByteArray) : (bq s).2.1.size ≤ s.size ∧ (bq s).2.2.1.size ≤ s.size ∧ (bq s).2.2.2.2.size ≤ s.size := by
  have hz : (br s).size ≤ s.size := by unfold br; rw [fF]; omega
  unfold bq
  simp only [ByteArray.size_extract]
  omega
end Go.Proofs.YtpmflpeckoeooaaGreatDoor.Y
namespace Go.Proofs.YtpmflpeckoeooaaGreatDoor.Y
open Go.RowKit Go.Proofs.YtpmflpeckoeooaaGreatDoor.X Go.Proofs.YtpmflpeckoeooaaGreatDoor.M Go.Proofs.YtpmflpeckoeooaaGreatDoorW.PrintWords Go.Proofs.YtpmflpeckoeooaaGreatDoorW.PrintLast Go.Proofs.YtpmflpeckoeooaaGreatDoorW.PrintMore
def i1 (iri hu : Bool) (u h : List Int) (hp : Bool) (p : List Int) : Bool := (!hu || be 1 iri u) && (gu iri h != 0) && (!hp || p.all dr)
theorem qu (c : Int) (l : List Int) : ∀ b ∈ l, b = c ∨ ∃ p ∈ bT c l, b ∈ p := by
  induction l with
  | nil => intro b h; cases h
  | cons x t ih =>
    intro b h
    rw [gi]
    by_cases hx : x = c
    · rw [if_pos hx]
      rcases List.mem_cons.1 h with h | h
      · left; rw [h]; exact hx
      · rcases ih b h with h | ⟨p, hp, h2⟩
        · exact .inl h
        · exact .inr ⟨p, List.mem_cons_of_mem _ hp, h2⟩
    · rw [if_neg hx]
      rcases List.mem_cons.1 h with h | h
      · exact .inr ⟨_, List.mem_cons_self .., by rw [h]; exact List.mem_cons_self ..⟩
      · rcases ih b h with h | ⟨p, hp, h2⟩
        · exact .inl h
        · right
          rw [jU c t] at hp
          rcases List.mem_cons.1 hp with rfl | hp
          · exact ⟨_, List.mem_cons_self .., List.mem_cons_of_mem _ h2⟩
          · exact ⟨p, List.mem_cons_of_mem _ hp, h2⟩
def gX (b : Int) : Bool := bv b || b == 58 || b == 46
theorem tD {b : Int} (h : dr b = true) : gX b = true := by
  have := iK.1 h
  unfold gX bv
  simp only [Bool.or_eq_true, decide_eq_true_iff]
  omega
theorem oV {l : List Int} (h : (v4 l).isSome = true) : ∀ b ∈ l, dr b = true ∨ b = 46 := by
  intro b hb
  unfold v4 at h
  split at h
  · rename_i x y z w e
    split at h
    · rename_i hd
      rcases qu 46 l b hb with h1 | ⟨p, hp, h1⟩
      · exact .inr h1
      · left
        rw [e] at hp
        simp only [List.mem_cons, List.mem_nil_iff, or_false] at hp
        have key : ∀ q : List Int, 0 ≤ d8 q → b ∈ q → dr b = true := fun q hq hm => List.all_eq_true.1 (wf hq) b hm
        rcases hp with rfl | rfl | rfl | rfl
        · exact key _ hd.1 h1
        · exact key _ hd.2.1 h1
        · exact key _ hd.2.2.1 h1
        · exact key _ hd.2.2.2 h1
    · cases h
  · cases h
theorem sW {fin : Bool} {r : List (List Int)} {l : List Int} (h : fJ fin r = some l) : ∀ p ∈ r, ∀ b ∈ p, gX b = true := by
  induction r generalizing l with
  | nil => simp
  | cons q r ih =>
    rw [iV] at h
    intro p hp b hb
    split at h
    · rename_i hc
      rw [hc.1] at hp
      rw [List.mem_singleton] at hp
      subst hp
      rcases oV hc.2.2 b hb with h1 | h1
      · exact tD h1
      · rw [h1]; rfl
    · split at h
      · cases h
      · rename_i hw
        obtain ⟨x, hx, rfl⟩ := Option.map_eq_some_iff.1 h
        rcases List.mem_cons.1 hp with rfl | hp
        · have := List.all_eq_true.1 (rD (l := p) (by omega)).1 b hb
          unfold gX
          rw [this]; rfl
        · exact ih hx p hp b hb
theorem nu {fin : Bool} {l w : List Int} (h : fY fin l = some w) : ∀ b ∈ l, gX b = true := by
  intro b hb
  unfold fY at h
  split at h
  · rename_i e; rw [e] at hb; cases hb
  · rcases qu 58 l b hb with h1 | ⟨p, hp, h1⟩
    · rw [h1]; rfl
    · exact sW h p hp b h1
theorem rC {l : List Int} (h : (v6 l).isSome = true) : ∀ b ∈ l, gX b = true := by
  intro b hb
  obtain ⟨w, hw⟩ := Option.isSome_iff_exists.1 h
  unfold v6 at hw
  split at hw
  · obtain ⟨x, hx, _⟩ := Option.bind_eq_some_iff.1 hw
    exact nu hx b hb
  · rename_i hs
    obtain ⟨x, hx, hw⟩ := Option.bind_eq_some_iff.1 hw
    obtain ⟨y, hy, _⟩ := Option.bind_eq_some_iff.1 hw
    have hsp := lF (sub := [58, 58]) (l := l) (by omega)
    have e : l = l.take (cv [58, 58] l).toNat ++ ([58, 58] ++ l.drop ((cv [58, 58] l).toNat + 2)) := by
      have h1 := (List.take_append_drop (cv [58, 58] l).toNat l).symm
      have h2 := (List.take_append_drop 2 (l.drop (cv [58, 58] l).toNat)).symm
      have h3 : (l.drop (cv [58, 58] l).toNat).take 2 = [58, 58] := hsp.2
      rw [h3, List.drop_drop] at h2
      rw [← h2]
      exact h1
    rw [e] at hb
    rcases List.mem_append.1 hb with h1 | h1
    · exact nu hx b h1
    · rcases List.mem_append.1 h1 with h1 | h1
      · simp only [List.mem_cons, List.mem_nil_iff, or_false] at h1
        rcases h1 with rfl | rfl <;> rfl
      · exact nu hy b h1
theorem qf {l : List Int} (h : fut l = true) : ∀ b ∈ l, gX b = true ∨ bV 1 b = true ∨ b = 118 ∨ b = 86 := by
  cases l with
  | nil => cases h
  | cons v t =>
    rw [oJ] at h
    simp only [Bool.and_eq_true, Bool.or_eq_true, beq_iff_eq] at h
    obtain ⟨⟨⟨⟨h1, h2⟩, h3⟩, h4⟩, h5⟩ := h
    intro b hb
    rcases List.mem_cons.1 hb with rfl | hb
    · rcases h1 with h1 | h1
      · exact .inr (.inr (.inl h1))
      · exact .inr (.inr (.inr h1))
    · rw [← List.take_append_drop (bd bv t) t] at hb
      rcases List.mem_append.1 hb with hb | hb
      · left
        have := pr t b hb
        unfold gX
        rw [this]; rfl
      · cases hr : t.drop (bd bv t) with
        | nil => rw [hr] at hb; cases hb
        | cons c r =>
          rw [hr] at hb h4 h5
          rcases List.mem_cons.1 hb with rfl | hb
          · left
            have : b = 46 := h4
            rw [this]; rfl
          · exact .inr (.inl (List.all_eq_true.1 h5 b hb))
theorem xu {b : Int} (h : kh 2 b = true) : b ≠ 58 ∧ b ≠ 64 ∧ b ≠ 91 ∧ b ≠ 93 := by
  refine ⟨?_, ?_, ?_, ?_⟩ <;> (rintro rfl; exact absurd h (by decide))
theorem nM {b : Int} (h : gX b = true ∨ bV 1 b = true ∨ b = 118 ∨ b = 86) : b ≠ 64 ∧ b ≠ 93 := by
  constructor <;> (rintro rfl; exact absurd h (by decide))
theorem oq {l : List Int} (h : ly l = true) : l = 91 :: ((l.take (l.length - 1)).drop 1 ++ [93]) := by
  unfold ly at h
  simp only [Bool.and_eq_true, decide_eq_true_iff, beq_iff_eq] at h
  obtain ⟨⟨h1, h2⟩, h3⟩ := h
  cases l with
  | nil => simp at h1
  | cons a t =>
    have ha : a = 91 := h2
    subst ha
    have ht : t ≠ [] := by rintro rfl; simp at h1
    have e : t = t.dropLast ++ [93] := by
      have := (List.dropLast_concat_getLast ht).symm
      have hl : t.getLast ht = 93 := by
        rw [List.getLastD_eq_getLast?, List.getLast?_eq_some_getLast (by simp), Option.getD_some, List.getLast_cons ht] at h3
        exact h3
      rw [hl] at this
      exact this
    congr 1
    rw [show (91 :: t).length - 1 = (t.length - 1) + 1 by
      have : t.length ≠ 0 := fun x => ht (List.length_eq_zero_iff.1 x)
      simp; omega]
    rw [List.take_succ_cons, List.drop_succ_cons, List.drop_zero, ← List.dropLast_eq_take]
    exact e
theorem sD {iri : Bool} {h : List Int} (hl : ∀ b ∈ h, 0 ≤ b ∧ b ≤ 255) (hk : gu iri h ≠ 0) : (64 : Int) ∉ h ∧ ((∃ m, h = 91 :: (m ++ [93]) ∧ (93 : Int) ∉ m) ∨ ((58 : Int) ∉ h ∧ (91 : Int) ∉ h)) := by
  unfold gu at hk
  by_cases hb : ly h = true
  · rw [if_pos hb] at hk
    have e := oq hb
    generalize (h.take (h.length - 1)).drop 1 = m at hk e
    have hm : ∀ b ∈ m, b ≠ 64 ∧ b ≠ 93 := by
      by_cases hc : ((v6 m).isSome || fut m) = true
      · rw [Bool.or_eq_true] at hc
        rcases hc with hc | hc
        · exact fun b hb => nM (.inl (rC hc b hb))
        · exact fun b hb => nM (qf hc b hb)
      · rw [if_neg hc] at hk
        exact absurd rfl hk
    refine ⟨?_, .inl ⟨m, e, fun x => (hm _ x).2 rfl⟩⟩
    rw [e]
    intro x
    rcases List.mem_cons.1 x with x | x
    · cases x
    · rcases List.mem_append.1 x with x | x
      · exact (hm _ x).1 rfl
      · rw [List.mem_singleton] at x; cases x
  · rw [if_neg hb] at hk
    have key : ∀ b ∈ h, b ≠ 58 ∧ b ≠ 64 ∧ b ≠ 91 := by
      by_cases h4 : (v4 h).isSome = true
      · intro b hb
        rcases oV h4 b hb with h1 | h1
        · have := iK.1 h1; omega
        · omega
      · rw [if_neg h4] at hk
        by_cases ha : be 2 iri h = true
        · intro b hb
          have := xu (sB hl ha b hb)
          exact ⟨this.1, this.2.1, this.2.2.1⟩
        · rw [if_neg ha] at hk
          exact absurd rfl hk
    exact ⟨fun x => (key _ x).2.1 rfl, .inr ⟨fun x => (key _ x).1 rfl, fun x => (key _ x).2.2 rfl⟩⟩
theorem u1 {c : Int} {a : List Int} (h : c ∉ a) (r : List Int) : idx c (a ++ c :: r) = a.length := by
  rw [tN, if_pos (oK.2 h)]
  have : idx c (c :: r) = 0 := by unfold idx; rw [if_pos rfl]
  rw [this, if_neg (by omega)]; omega
theorem xO {c : Int} (a : List Int) {r : List Int} (h : c ∉ r) : bC c (a ++ c :: r) = a.length := by
  induction a with
  | nil =>
    rw [List.nil_append]
    have : bC c (c :: r) = if bC c r = -1 then (if c = c then 0 else -1) else bC c r + 1 := rfl
    rw [this, if_pos (nS.2 h), if_pos rfl]; rfl
  | cons b t ih =>
    rw [List.cons_append]
    have : bC c (b :: (t ++ c :: r)) = if bC c (t ++ c :: r) = -1 then (if b = c then 0 else -1) else bC c (t ++ c :: r) + 1 := rfl
    rw [this, ih, if_neg (by omega), List.length_cons]; omega
def tJ (hu : Bool) (u h : List Int) (hp : Bool) (p : List Int) : List Int := (if hu then u ++ [64] else []) ++ (h ++ if hp then 58 :: p else [])
def qI (l : List Int) : Bool × List Int × List Int × Bool × List Int :=
  (decide (0 ≤ bC 64 l), l.take (bC 64 l).toNat, (l.drop (bC 64 l + 1).toNat).take (aV (l.drop (bC 64 l + 1).toNat)).toNat,
   decide (aV (l.drop (bC 64 l + 1).toNat) < (l.drop (bC 64 l + 1).toNat).length), (l.drop (bC 64 l + 1).toNat).drop ((aV (l.drop (bC 64 l + 1).toNat)).toNat + 1))
theorem qv {h : List Int} (hh : (∃ m, h = 91 :: (m ++ [93]) ∧ (93 : Int) ∉ m) ∨ ((58 : Int) ∉ h ∧ (91 : Int) ∉ h)) (hp : Bool) (p : List Int) : aV (h ++ if hp then 58 :: p else []) = h.length := by
  rcases hh with ⟨m, e, hm⟩ | ⟨h58, h91⟩
  · have e2 : h ++ (if hp then 58 :: p else []) = (91 :: m) ++ 93 :: (if hp then 58 :: p else []) := by rw [e]; simp
    have hi : idx 93 ((91 :: m) ++ 93 :: (if hp then 58 :: p else [])) = (m.length : Int) + 1 := by
      rw [u1 (by rw [List.mem_cons, not_or]; exact ⟨by decide, hm⟩), List.length_cons]; omega
    have hl : h.length = m.length + 2 := by rw [e]; simp
    rw [e2]
    unfold aV
    rw [hi, if_pos ⟨by simp, by omega⟩]
    have hd : ((91 :: m) ++ 93 :: (if hp then 58 :: p else [])).drop (((m.length : Int) + 1).toNat + 1) = if hp then 58 :: p else [] := by
      have : ((m.length : Int) + 1).toNat + 1 = ((91 : Int) :: m).length + 1 := by rw [List.length_cons]; omega
      rw [this, List.drop_append]
      simp
    rw [hd, if_pos (by cases hp <;> simp)]
    omega
  · have ht : ¬ ((h ++ if hp then 58 :: p else []).take 1 = [91]) := by
      cases h with
      | nil => cases hp <;> simp
      | cons b t =>
        rw [List.cons_append, List.take_succ_cons, List.take_zero]
        intro x
        injection x with x
        exact h91 (by rw [x]; exact List.mem_cons_self ..)
    unfold aV
    rw [if_neg (fun x => ht x.1)]
    cases hp
    · have : idx 58 (h ++ if false = true then 58 :: p else []) = -1 := by
        rw [if_neg (by simp), List.append_nil]
        exact oK.2 h58
      rw [this, if_neg (by omega), if_neg (by simp), List.append_nil]
    · have : idx 58 (h ++ if true = true then 58 :: p else []) = h.length := by
        rw [if_pos rfl]
        exact u1 h58 p
      rw [this, if_pos (by omega)]
theorem ur {iri hu : Bool} {u h : List Int} {hp : Bool} {p : List Int} (hul : ∀ b ∈ u, 0 ≤ b ∧ b ≤ 255) (hhl : ∀ b ∈ h, 0 ≤ b ∧ b ≤ 255) (hu0 : hu = false → u = []) (hp0 : hp = false → p = [])
    (hr : i1 iri hu u h hp p = true) : qI (tJ hu u h hp p) = (hu, u, h, hp, p) := by
  unfold i1 at hr
  simp only [Bool.and_eq_true, Bool.or_eq_true, Bool.not_eq_true'] at hr
  obtain ⟨⟨h1, h2⟩, h3⟩ := hr
  have h2' : gu iri h ≠ 0 := by simpa using h2
  obtain ⟨h64, hform⟩ := sD hhl h2'
  have he := qv hform hp p
  have hrest : (64 : Int) ∉ h ++ if hp then 58 :: p else [] := by
    intro x
    rcases List.mem_append.1 x with x | x
    · exact h64 x
    · cases hp
      · simp at x
      · rw [if_pos rfl] at x
        rcases List.mem_cons.1 x with x | x
        · cases x
        · rcases h3 with h3 | h3
          · cases h3
          · have := iK.1 (List.all_eq_true.1 h3 _ x); omega
  have both : ∀ r, r = h ++ (if hp then 58 :: p else []) → r.take (aV r).toNat = h ∧ decide (aV r < r.length) = hp ∧ r.drop ((aV r).toNat + 1) = p := by
    intro r e
    subst e
    rw [he, Int.toNat_natCast]
    refine ⟨by simp, ?_, ?_⟩
    · cases hp
      · rw [decide_eq_false]; simp
      · rw [decide_eq_true]; simp; omega
    · cases hp
      · rw [hp0 rfl]
        apply List.drop_of_length_le
        simp
      · rw [if_pos rfl, List.drop_append]
        simp
  unfold qI tJ
  cases hu
  · have hl : bC 64 ((if false = true then u ++ [64] else []) ++ (h ++ if hp then 58 :: p else [])) = -1 := by
      rw [if_neg (by simp), List.nil_append]
      exact nS.2 hrest
    rw [hl, if_neg (by simp), List.nil_append]
    obtain ⟨b1, b2, b3⟩ := both _ rfl
    have e0 : ((-1 : Int) + 1).toNat = 0 := rfl
    rw [e0, List.drop_zero, b1, b2, b3, hu0 rfl]
    rfl
  · have hl : bC 64 ((if true = true then u ++ [64] else []) ++ (h ++ if hp then 58 :: p else [])) = u.length := by
      rw [if_pos rfl, List.append_assoc, List.singleton_append]
      exact xO u hrest
    rw [hl, if_pos rfl]
    obtain ⟨b1, b2, b3⟩ := both _ rfl
    have e0 : ((u.length : Int) + 1).toNat = u.length + 1 := by omega
    have e1 : ((u ++ [64]) ++ (h ++ if hp then 58 :: p else [])).drop (u.length + 1) = h ++ if hp then 58 :: p else [] := by
      rw [List.drop_append]; simp
    have e2 : ((u ++ [64]) ++ (h ++ if hp then 58 :: p else [])).take u.length = u := by
      rw [List.append_assoc]; simp
    rw [e0, e1, b1, b2, b3, Int.toNat_natCast, e2, decide_eq_true (by omega)]
theorem oC (l : List Int) (hl : ∀ b ∈ l, 0 ≤ b ∧ b ≤ 255) : (((bd (fun b => isc b 2) l : Nat) : Int) = (l.length : Int)) ↔ l.all dr = true := by
  rw [oD (q := dr) (fun b hb => qh (hl b hb).1 (hl b hb).2), List.all_eq_true]
  have := vO (p := dr) (l := l)
  constructor
  · intro h; exact this.1 (by omega)
  · intro h; have := this.2 h; omega
theorem sQ (iri hu : Bool) (u h : ByteArray) (hp : Bool) (p : ByteArray) (s1 : u.size ≤ 1000000) (s2 : h.size ≤ 1000000) (s3 : p.size ≤ 1000000) :
    Ev (fun k => gq k iri hu u h hp p) (i1 iri hu (aa u) (aa h) hp (aa p)) := by
  have bad : Ev (fun k => cV k iri true hu u h hp p) false := by
    refine Ev.step (fun k => by rw [cV]) ?_
    exact ab rfl (az _)
  have fo : Ev (fun k => cV k iri false hu u h hp p) ((gu iri (aa h) != 0) && (!hp || (aa p).all dr)) := by
    refine Ev.step (fun k => by rw [cV]) ?_
    refine ae (by simp) (ah (wq iri h s2) ?_)
    refine Ev.ite (fun h0 => Ev.val (by simp [h0])) (fun h0 => ?_)
    have e0 : (gu iri (aa h) != 0) = true := by simpa using h0
    rw [e0]
    refine Ev.ite (fun h1 => ah (qk p 2 (by omega)) (Ev.val ?_)) (fun h1 => Ev.val ?_)
    · have := oC (aa p) (fun b hb => d6 hb)
      rw [af] at this
      rw [h1, Bool.eq_iff_iff, beq_iff_eq, this]
      simp
    · rw [Bool.not_eq_true] at h1
      simp [h1]
  unfold gq i1
  cases hu
  · refine ae (by simp) ?_
    simp only [Bool.not_false, Bool.true_or, Bool.true_and]
    exact fo
  · refine ab rfl (ah (xc 1 iri u (by omega)) ?_)
    cases ha : be 1 iri (aa u)
    · exact bad
    · simp only [Bool.not_true, Bool.or_true, Bool.true_and]
      exact fo
theorem pm (iri hu : Bool) (u h : ByteArray) (hp : Bool) (p : ByteArray) (s1 : u.size ≤ 1000000) (s2 : h.size ≤ 1000000) (s3 : p.size ≤ 1000000) :
    Ev (fun k => eB k iri hu u h hp p) (i1 iri hu (aa u) (aa h) hp (aa p)) := by
  have bad : Ev (fun k => cn k iri true hu u h hp p) false := by
    refine Ev.step (fun k => by rw [cn]) ?_
    exact ab rfl (az _)
  have fo : Ev (fun k => cn k iri false hu u h hp p) ((gu iri (aa h) != 0) && (!hp || (aa p).all dr)) := by
    refine Ev.step (fun k => by rw [cn]) ?_
    refine ae (by simp) ?_
    refine Ev.ite (fun h1 => ah (vF p 2 (by omega)) ?_) (fun h1 => ?_)
    · have := oC (aa p) (fun b hb => d6 hb)
      rw [af] at this
      rw [h1]
      refine Ev.ite (fun h2 => ah (qp iri h s2) (Ev.val ?_)) (fun h2 => Ev.val ?_)
      · rw [this.1 h2]; simp
      · have h3 : ¬ ((aa p).all dr = true) := fun x => h2 (this.2 x)
        rw [Bool.not_eq_true] at h3
        rw [h3]; simp
    · rw [Bool.not_eq_true] at h1
      rw [h1]
      exact ah (qp iri h s2) (Ev.val (by simp))
  unfold eB i1
  cases hu
  · refine ae (by simp) ?_
    simp only [Bool.not_false, Bool.true_or, Bool.true_and]
    exact fo
  · refine ab rfl (ah (i6 1 iri u (by omega)) ?_)
    cases ha : be 1 iri (aa u)
    · have e : (((al 1 iri (aa u) : Nat) : Int) != (u.size : Int)) = true := by
        unfold be at ha
        rw [beq_eq_false_iff_ne, af] at ha
        simp; omega
      rw [e]
      exact bad
    · have e : (((al 1 iri (aa u) : Nat) : Int) != (u.size : Int)) = false := by
        unfold be at ha
        rw [beq_iff_eq, af] at ha
        simp; omega
      rw [e]
      simp only [Bool.not_true, Bool.or_true, Bool.true_and]
      exact fo
def eJ (iri : Bool) (x : Bool × ByteArray × ByteArray × Bool × ByteArray) : Bool := i1 iri x.1 (aa x.2.1) (aa x.2.2.1) x.2.2.2.1 (aa x.2.2.2.2)
theorem pM (s : ByteArray) : (bq s).2.1.size ≤ s.size ∧ (bq s).2.2.1.size ≤ s.size ∧ (bq s).2.2.2.2.size ≤ s.size := ua s
theorem xR (iri : Bool) (s : ByteArray) (hs : s.size ≤ 1000000) : Ev (fun k => fE k iri s)
    (if eJ iri (bq s) then ((bq s).1, (bq s).2.1, (bq s).2.2.1, (bq s).2.2.2.1, (bq s).2.2.2.2, true) else (false, (⟨#[]⟩ : ByteArray), (⟨#[]⟩ : ByteArray), false, (⟨#[]⟩ : ByteArray), false)) := by
  unfold fE
  have hz := pM s
  refine ah (yt s (by omega)) (ah (sQ iri _ _ _ _ _ (by omega) (by omega) (by omega)) ?_)
  exact Ev.ite (fun h => Ev.val (if_pos h).symm) (fun h => Ev.val (if_neg h).symm)
theorem xS (s : ByteArray) : ((bq s).1, aa (bq s).2.1, aa (bq s).2.2.1, (bq s).2.2.2.1, aa (bq s).2.2.2.2) = qI (aa s) := by
  have ts : (aa s).take s.size = aa s := by rw [← af, List.take_length]
  have hr : (s.extract (bC 64 (aa s) + 1).toNat s.size).size = ((aa s).drop (bC 64 (aa s) + 1).toNat).length := by rw [← af, bh]
  unfold bq qI br
  simp only [ap, ts, hr, List.drop_zero, List.take_length]
def ct (s : ByteArray) (i : Int) (k : Nat) : S67 := ⟨decide (0 ≤ i), s.extract 0 i.toNat, s.extract (i + 1).toNat k, decide (k < s.size), s.extract (k + 1) s.size⟩
def fo (iri : Bool) (s : ByteArray) (i : Int) (k : Nat) : Bool := i1 iri (ct s i k).f0 (aa (ct s i k).f1) (aa (ct s i k).f2) (ct s i k).f3 (aa (ct s i k).f4)
def pi (s : ByteArray) : S67 := ⟨(bq s).1, (bq s).2.1, (bq s).2.2.1, (bq s).2.2.2.1, (bq s).2.2.2.2⟩
def iS (s : ByteArray) : Int := bC 64 (aa s)
def kS (s : ByteArray) : Nat := (iS s + 1).toNat + (aV (aa (br s))).toNat
theorem jq (s : ByteArray) : -1 ≤ iS s ∧ iS s < s.size := by
  have h1 := lH 64 (aa s)
  have h2 := tf 64 (aa s)
  rw [af] at h2
  exact ⟨h1, h2⟩
theorem oL (s : ByteArray) : iS s < kS s ∧ kS s ≤ s.size := by
  have h := jq s
  have hr := fM (aa (br s))
  rw [af] at hr
  have hz : (br s).size = s.size - (iS s + 1).toNat := fF s _
  unfold kS
  omega
theorem uM (s : ByteArray) : ct s (iS s) (kS s) = pi s := by
  have h := jq s
  have hr := fM (aa (br s))
  rw [af] at hr
  have hz : (br s).size = s.size - (iS s + 1).toNat := fF s _
  have e1 : s.extract (iS s + 1).toNat (kS s) = (br s).extract 0 (aV (aa (br s))).toNat := by
    apply iI
    rw [ap, ap]
    unfold br
    rw [bh, List.drop_zero, List.drop_take]
    unfold kS iS br
    rw [bh]
    congr 1; omega
  have e2 : decide (kS s < s.size) = decide (aV (aa (br s)) < (br s).size) := by
    rw [decide_eq_decide]; unfold kS; omega
  have e3 : s.extract (kS s + 1) s.size = (br s).extract ((aV (aa (br s))).toNat + 1) (br s).size := by
    unfold br
    rw [jp]
    unfold kS iS br
    first | rfl | (congr 1; omega)
  unfold ct pi bq
  rw [e1, e2, e3]
  rfl
def vi (s : ByteArray) (i : Int) : Prop := i = -1 ∨ (0 ≤ i ∧ i < s.size ∧ bt s i = 64)
def vk (s : ByteArray) (k : Nat) : Prop := k = s.size ∨ (k < s.size ∧ bt s (k : Int) = 58)
theorem uW (s : ByteArray) (i : Int) (k : Nat) (hi : vi s i) (hik : i < k) (hk : k ≤ s.size) (hv : vk s k) :
    tJ (ct s i k).f0 (aa (ct s i k).f1) (aa (ct s i k).f2) (ct s i k).f3 (aa (ct s i k).f4) = aa s := by
  have ts : (aa s).take s.size = aa s := by rw [← af, List.take_length]
  unfold tJ ct
  simp only [ap, ts, List.drop_zero]
  have tail : (aa s).drop (i + 1).toNat = ((aa s).take k).drop (i + 1).toNat ++ (if decide (k < s.size) then 58 :: (aa s).drop (k + 1) else []) := by
    have h1 : (aa s).drop (i + 1).toNat = (((aa s).take k ++ (aa s).drop k)).drop (i + 1).toNat := by rw [List.take_append_drop]
    rw [h1, List.drop_append_of_le_length (by rw [List.length_take, af]; omega)]
    congr 1
    rcases hv with rfl | ⟨h2, h3⟩
    · rw [List.drop_of_length_le (by rw [af]; omega)]; simp
    · rcases bu s k hk with ⟨h4, _⟩ | ⟨_, e, _⟩
      · omega
      · rw [e, h3, decide_eq_true h2, if_pos rfl]
  rw [← tail]
  rcases hi with rfl | ⟨h0, h1, h2⟩
  · simp
  · rw [decide_eq_true h0, if_pos rfl]
    have e1 : (i + 1).toNat = i.toNat + 1 := by omega
    rcases bu s i.toNat (by omega) with ⟨h4, _⟩ | ⟨_, e, _⟩
    · omega
    · rw [Int.toNat_of_nonneg h0, h2] at e
      rw [e1, List.append_assoc, List.singleton_append, ← e, List.take_append_drop]
theorem uX (iri : Bool) (s : ByteArray) (i : Int) (k : Nat) (hi : vi s i) (hik : i < k) (hk : k ≤ s.size) (hv : vk s k) (hg : fo iri s i k = true) : i = iS s ∧ k = kS s := by
  have hiv : i < s.size := by rcases hi with rfl | h <;> omega
  have hr := ur (fun b hb => d6 hb) (fun b hb => d6 hb) (fun h => by
      unfold ct at h ⊢
      simp only [decide_eq_false_iff_not] at h ⊢
      have : i.toNat = 0 := by omega
      rw [this, kl]; rfl) (fun h => by
      unfold ct at h ⊢
      simp only [decide_eq_false_iff_not] at h ⊢
      rw [kk s _ (by omega)]; rfl) hg
  rw [uW s i k hi hik hk hv] at hr
  have hL := (xS s).trans hr
  simp only [Prod.mk.injEq] at hL
  obtain ⟨q1, q2, q3, q4, q5⟩ := hL
  have n2 := congrArg List.length q2
  have n3 := congrArg List.length q3
  unfold ct at q1 n2 n3
  unfold bq at q1 n2 n3
  simp only [decide_eq_decide] at q1
  rw [af, af, ByteArray.size_extract, ByteArray.size_extract] at n2 n3
  have hir := jq s
  have hz : (br s).size = s.size - (iS s + 1).toNat := fF s _
  have hre := fM (aa (br s))
  rw [af] at hre
  have hii : i = iS s := by
    unfold iS at hir ⊢
    rcases hi with rfl | h
    · omega
    · omega
  refine ⟨hii, ?_⟩
  subst hii
  unfold kS
  omega
def eR (iri : Bool) (s : ByteArray) (i : Int) (k : Nat) : List S67 := if fo iri s (iS s) (kS s) = true ∧ (iS s < i ∨ (iS s = i ∧ kS s < k)) then [pi s] else []
theorem wy (iri : Bool) (s : ByteArray) (i : Int) (k : Nat) (hi : vi s i) (hik : i < k) (hk : k ≤ s.size) (hv : vk s k) : (if fo iri s i k = true then eR iri s i k ++ [ct s i k] else eR iri s i k) = eR iri s i (k + 1) := by
  by_cases hg : fo iri s i k = true
  · obtain ⟨e1, e2⟩ := uX iri s i k hi hik hk hv hg
    subst e1; subst e2
    rw [if_pos hg]
    unfold eR
    rw [if_neg (by omega), if_pos ⟨hg, by omega⟩, uM]; rfl
  · rw [if_neg hg]
    unfold eR
    by_cases hG : fo iri s (iS s) (kS s) = true
    · have hne : ¬ (iS s = i ∧ kS s = k) := by
        rintro ⟨rfl, rfl⟩; exact hg hG
      by_cases hc : iS s < i ∨ (iS s = i ∧ kS s < k)
      · rw [if_pos ⟨hG, hc⟩, if_pos ⟨hG, by omega⟩]
      · rw [if_neg (fun x => hc x.2), if_neg (by omega)]
    · rw [if_neg (fun x => hG x.1), if_neg (fun x => hG x.1)]
theorem wz (iri : Bool) (s : ByteArray) (i : Int) (k : Nat) (hne : ¬ (iS s = i ∧ kS s = k)) : eR iri s i k = eR iri s i (k + 1) := by
  unfold eR
  by_cases hG : fo iri s (iS s) (kS s) = true
  · by_cases hc : iS s < i ∨ (iS s = i ∧ kS s < k)
    · rw [if_pos ⟨hG, hc⟩, if_pos ⟨hG, by omega⟩]
    · rw [if_neg (fun x => hc x.2), if_neg (by omega)]
  · rw [if_neg (fun x => hG x.1), if_neg (fun x => hG x.1)]
theorem th (iri : Bool) (s : ByteArray) (i : Int) (k j : Nat) (h : iS s = i → kS s < k) (hj : (j : Int) ≤ i + 2) : eR iri s i k = eR iri s (i + 1) j := by
  have hk := oL s
  unfold eR
  by_cases hG : fo iri s (iS s) (kS s) = true
  · by_cases hc : iS s ≤ i
    · rw [if_pos ⟨hG, by omega⟩, if_pos ⟨hG, by omega⟩]
    · rw [if_neg (by omega), if_neg (by omega)]
  · rw [if_neg (fun x => hG x.1), if_neg (fun x => hG x.1)]
theorem xP (iri : Bool) (s : ByteArray) (i : Int) (k : Nat) : (eR iri s i k).length ≤ 1 := by
  unfold eR
  split <;> simp
theorem s7 {l : List Int} {n : Nat} {c : Int} (h : l = l.take n ++ c :: l.drop (n + 1)) (hn : n < l.length) : l.drop n = c :: l.drop (n + 1) := by
  have h2 := congrArg (List.drop n) h
  rw [List.drop_append_of_le_length (by rw [List.length_take]; omega), List.drop_of_length_le (l := l.take n) (by rw [List.length_take]; omega), List.nil_append] at h2
  exact h2
theorem zi (s : ByteArray) : vi s (iS s) := by
  by_cases h : 0 ≤ iS s
  · right
    refine ⟨h, (jq s).2, ?_⟩
    have hl := pf (c := 64) (l := aa s) h
    have hlt := (jq s).2
    rcases bu s (iS s).toNat (by omega) with ⟨h4, _⟩ | ⟨_, e, _⟩
    · omega
    · rw [Int.toNat_of_nonneg h] at e
      have e3 := s7 hl.1 (by unfold iS at hlt; rw [af]; omega)
      unfold iS at e ⊢
      rw [e] at e3
      injection e3
  · left
    have := (jq s).1
    omega
theorem zj (s : ByteArray) : vk s (kS s) := by
  have hk := oL s
  have hi := jq s
  by_cases h : kS s = s.size
  · exact .inl h
  right
  refine ⟨by omega, ?_⟩
  have hz : (br s).size = s.size - (iS s + 1).toNat := fF s _
  have hre := fM (aa (br s))
  rw [af] at hre
  have hlt : aV (aa (br s)) < (aa (br s)).length := by
    rw [af]
    unfold kS at h hk
    omega
  have key : ∀ l : List Int, aV l < l.length → ∃ t, l.drop (aV l).toNat = 58 :: t := by
    intro l hl
    unfold aV at hl ⊢
    by_cases h1 : l.take 1 = [91] ∧ 0 ≤ idx 93 l
    · rw [if_pos h1] at hl ⊢
      by_cases h2 : l.drop ((idx 93 l).toNat + 1) = [] ∨ (l.drop ((idx 93 l).toNat + 1)).getD 0 0 = 58
      · rw [if_pos h2] at hl ⊢
        have e : (idx 93 l + 1).toNat = (idx 93 l).toNat + 1 := by omega
        rw [e]
        rcases h2 with h2 | h2
        · rw [List.drop_eq_nil_iff] at h2; omega
        · cases hd : l.drop ((idx 93 l).toNat + 1) with
          | nil => rw [List.drop_eq_nil_iff] at hd; omega
          | cons b t =>
            rw [hd] at h2
            have : b = 58 := h2
            exact ⟨t, by rw [this]⟩
      · rw [if_neg h2] at hl; omega
    · rw [if_neg h1] at hl ⊢
      by_cases h2 : 0 ≤ idx 58 l
      · rw [if_pos h2] at hl ⊢
        have hs := nK h2
        refine ⟨l.drop ((idx 58 l).toNat + 1), ?_⟩
        exact s7 hs.1 (by omega)
      · rw [if_neg h2] at hl; omega
  obtain ⟨t, ht⟩ := key _ hlt
  unfold br at ht
  rw [bh, List.drop_drop] at ht
  have e : (bC 64 (aa s) + 1).toNat + (aV ((aa s).drop (bC 64 (aa s) + 1).toNat)).toNat = kS s := by
    unfold kS iS br
    rw [bh]
  rw [e] at ht
  exact (pD ht).1
theorem tB (s : ByteArray) (i : Int) (k : Nat) : (ct s i k).f1.size ≤ s.size ∧ (ct s i k).f2.size ≤ s.size ∧ (ct s i k).f4.size ≤ s.size := by
  unfold ct
  simp only [ByteArray.size_extract]
  omega
theorem uI (iri : Bool) (s : ByteArray) (hs : s.size ≤ 1000000) (i : Int) (k : Nat) (hi : vi s i) (hik : i < k) (hk : k ≤ s.size) (hv : vk s k) (r : List S67)
    (nx : Ev (fun n => bj n iri s (eR iri s i (k + 1)) i ((k : Int) + 1)) r) (p : ByteArray) (hp : decide (k < s.size) = false → p = (ct s i k).f4) :
    Ev (fun n => ed n iri s (eR iri s i k) i (k : Int) (ct s i k).f0 (ct s i k).f1 (ct s i k).f2 false p) r := by
  have hz := tB s i k
  have hl := xP iri s i k
  have hn := wy iri s i k hi hik hk hv
  refine Ev.step (fun n => by rw [ed]) ?_
  rw [w64 (x := (k : Int) + 1) (by omega) (by omega)]
  refine Ev.ite (fun h => ab (by omega) (ab (by omega) ?_)) (fun h => ?_)
  · have e1 : s.extract ((k : Int) + 1).toNat s.size = (ct s i k).f4 := by
      have : ((k : Int) + 1).toNat = k + 1 := by omega
      rw [this]; rfl
    have e2 : (ct s i k).f3 = true := by
      show decide (k < s.size) = true
      rw [decide_eq_true (by omega)]
    rw [e1]
    refine ah (pm iri _ _ _ _ _ (by omega) (by omega) (by omega)) ?_
    have hgood : i1 iri (ct s i k).f0 (aa (ct s i k).f1) (aa (ct s i k).f2) true (aa (ct s i k).f4) = fo iri s i k := by
      unfold fo; rw [e2]
    rw [hgood]
    refine Ev.ite (fun hg => ab (by omega) ?_) (fun hg => ?_)
    · rw [if_pos hg] at hn
      have e3 : (⟨(ct s i k).f0, (ct s i k).f1, (ct s i k).f2, true, (ct s i k).f4⟩ : S67) = ct s i k := by rw [← e2]
      rw [e3, hn]
      exact nx
    · rw [if_neg hg] at hn
      rw [hn]
      exact nx
  · have e2 : (ct s i k).f3 = false := by
      show decide (k < s.size) = false
      rw [decide_eq_false (by omega)]
    rw [hp (by rw [decide_eq_false (by omega)])]
    refine ah (pm iri _ _ _ _ _ (by omega) (by omega) (by omega)) ?_
    have hgood : i1 iri (ct s i k).f0 (aa (ct s i k).f1) (aa (ct s i k).f2) false (aa (ct s i k).f4) = fo iri s i k := by
      unfold fo; rw [e2]
    rw [hgood]
    refine Ev.ite (fun hg => ab (by omega) ?_) (fun hg => ?_)
    · rw [if_pos hg] at hn
      have e3 : (⟨(ct s i k).f0, (ct s i k).f1, (ct s i k).f2, false, (ct s i k).f4⟩ : S67) = ct s i k := by rw [← e2]
      rw [e3, hn]
      exact nx
    · rw [if_neg hg] at hn
      rw [hn]
      exact nx
theorem ym (iri : Bool) (s : ByteArray) (hs : s.size ≤ 1000000) (i : Int) (hi : vi s i) (r : List S67) (nx : Ev (fun n => bS n iri s (eR iri s i (s.size + 1)) (i + 1)) r) : ∀ d k : Nat, k + d = s.size + 1 → i < k →
    Ev (fun n => bj n iri s (eR iri s i k) i (k : Int)) r := by
  have hir : -1 ≤ i ∧ i < s.size := by rcases hi with rfl | h <;> omega
  intro d
  induction d with
  | zero =>
    intro k hk hik
    have : k = s.size + 1 := by omega
    subst this
    refine Ev.step (fun n => by rw [bj]) ?_
    rw [w64 (x := i + 1) (by omega) (by omega)]
    exact ae (by omega) nx
  | succ d ih =>
    intro k hk hik
    have go := ih (k + 1) (by omega) (by omega)
    have e1 : ((k + 1 : Nat) : Int) = (k : Int) + 1 := by omega
    rw [e1] at go
    have take_ : vk s k → Ev (fun n => dp n iri s (eR iri s i k) i (k : Int) false) r := by
      intro hv
      refine Ev.step (fun n => by rw [dp]) ?_
      rw [w64 (x := i + 1) (by omega) (by omega)]
      refine ae (by simp) (ab (by omega) (ab (by omega) (ab (by omega) ?_)))
      have hp : decide (k < s.size) = false → (⟨#[]⟩ : ByteArray) = (ct s i k).f4 := by
        intro h
        have : ¬ k < s.size := by simpa using h
        show _ = s.extract (k + 1) s.size
        rw [kk s _ (by omega)]
      refine Ev.ite (fun h0 => ab (by omega) (ab (by omega) ?_)) (fun h0 => ?_)
      · have := uI iri s hs i k hi hik (by omega) hv r go _ hp
        have f0 : (ct s i k).f0 = true := by show decide (0 ≤ i) = true; rw [decide_eq_true h0]
        rw [f0] at this
        rw [Int.toNat_natCast]
        exact this
      · have := uI iri s hs i k hi hik (by omega) hv r go _ hp
        have f0 : (ct s i k).f0 = false := by show decide (0 ≤ i) = false; rw [decide_eq_false h0]
        have f1 : (ct s i k).f1 = (⟨#[]⟩ : ByteArray) := by
          show s.extract 0 i.toNat = _
          have : i.toNat = 0 := by omega
          rw [this, kl]
        rw [f0, f1] at this
        rw [Int.toNat_natCast]
        exact this
    refine Ev.step (fun n => by rw [bj]) ?_
    refine ab (by omega) (Ev.ite (fun h => ab (by omega) ?_) (fun h => take_ (.inl (by omega))))
    by_cases h58 : bt s (k : Int) = 58
    · have : (bt s (k : Int) != 58) = false := by simp [h58]
      rw [this]
      exact take_ (.inr ⟨by omega, h58⟩)
    · have : (bt s (k : Int) != 58) = true := by simpa using h58
      rw [this]
      refine Ev.step (fun n => by rw [dp]) ?_
      refine ab rfl ?_
      rw [w64 (x := (k : Int) + 1) (by omega) (by omega), wz iri s i k (by
        rintro ⟨_, e⟩
        rcases zj s with h2 | h2
        · omega
        · rw [e] at h2; exact h58 h2.2)]
      exact go
theorem yl (iri : Bool) (s : ByteArray) (hs : s.size ≤ 1000000) : ∀ d n : Nat, n + d = s.size + 1 → Ev (fun q => bS q iri s (eR iri s ((n : Int) - 1) n) ((n : Int) - 1)) (eR iri s s.size (s.size + 1)) := by
  intro d
  induction d with
  | zero =>
    intro n hn
    have : n = s.size + 1 := by omega
    subst this
    refine Ev.step (fun q => by rw [bS]) ?_
    refine ae (by omega) (Ev.val ?_)
    congr 1; omega
  | succ d ih =>
    intro n hn
    have go := ih (n + 1) (by omega)
    have e1 : ((n + 1 : Nat) : Int) - 1 = (n : Int) - 1 + 1 := by omega
    rw [e1] at go
    have row : vi s ((n : Int) - 1) → Ev (fun q => dn q iri s (eR iri s ((n : Int) - 1) n) ((n : Int) - 1) false) (eR iri s s.size (s.size + 1)) := by
      intro hv
      refine Ev.step (fun q => by rw [dn]) ?_
      refine ae (by simp) ?_
      have hw : wrap64 ((n : Int) - 1 + 1) = (n : Int) := by rw [w64 (by omega) (by omega)]; omega
      simp only [hw]
      refine ym iri s hs _ hv _ ?_ (s.size + 1 - n) n (by omega) (by omega)
      rw [th iri s ((n : Int) - 1) (s.size + 1) (n + 1) (fun _ => by have := (oL s).2; omega) (by omega)]
      exact go
    refine Ev.step (fun q => by rw [bS]) ?_
    refine ab (by omega) (Ev.ite (fun h => ab (by omega) ?_) (fun h => row (.inl (by omega))))
    by_cases h64 : bt s ((n : Int) - 1) = 64
    · have : (bt s ((n : Int) - 1) != 64) = false := by simp [h64]
      rw [this]
      exact row (.inr ⟨by omega, by omega, h64⟩)
    · have : (bt s ((n : Int) - 1) != 64) = true := by simpa using h64
      rw [this]
      refine Ev.step (fun q => by rw [dn]) ?_
      refine ab rfl ?_
      rw [w64 (x := (n : Int) - 1 + 1) (by omega) (by omega), th iri s ((n : Int) - 1) n (n + 1) (fun e => by
        rcases zi s with h2 | h2
        · omega
        · rw [e] at h2; exact absurd h2.2.2 h64) (by omega)]
      exact go
theorem vZ (iri : Bool) (s : ByteArray) (hs : s.size ≤ 1000000) : Ev (fun k => gn k iri s) (if eJ iri (bq s) then [pi s] else []) := by
  unfold gn
  have h := yl iri s hs (s.size + 1) 0 (by omega)
  have hi := jq s
  have e0 : eR iri s (((0 : Nat) : Int) - 1) 0 = [] := by
    unfold eR
    rw [if_neg (by omega)]
  have e1 : eR iri s s.size (s.size + 1) = if eJ iri (bq s) then [pi s] else [] := by
    have hg : fo iri s (iS s) (kS s) = eJ iri (bq s) := by
      unfold fo eJ
      rw [uM]; rfl
    unfold eR
    rw [hg]
    by_cases hr : eJ iri (bq s) = true
    · rw [if_pos ⟨hr, .inl hi.2⟩, if_pos hr]
    · rw [if_neg (fun x => hr x.1), if_neg hr]
  rw [e0, e1] at h
  exact h
end Go.Proofs.YtpmflpeckoeooaaGreatDoor.Y
namespace Go.Proofs.YtpmflpeckoeooaaGreatDoor.M
open Go Go.RowKit Go.Proofs.YtpmflpeckoeooaaGreatDoorW.PrintWords
theorem uR (n : Nat) (lo hi c : Int) (t r : List Int) (hlo : n ≠ 0 → 128 ≤ lo) (hc : c < 128) : aN n lo hi (t ++ c :: r) = aN n lo hi t := by
  induction n generalizing lo hi t with
  | zero => simp [aN]
  | succ n ih =>
    have hlo := hlo (by omega)
    cases t with
    | nil => simp only [List.nil_append, aN]; rw [if_neg (by omega)]
    | cons d t =>
      simp only [List.cons_append, aN]
      rw [ih 128 191 t (fun _ => by omega)]
theorem yy {b : Int} : (shp b).1.toNat - 1 ≠ 0 → 128 ≤ (shp b).2.1 := fun h => (gK (by omega)).1
theorem xx (b c : Int) (t r : List Int) (hc : c < 128) : ((dec (b :: t)).2.2 = true ∧ dec (b :: t ++ c :: r) = dec (b :: t)) ∨ ((dec (b :: t)).2.2 = false ∧ (dec (b :: t ++ c :: r)).2.2 = false) := by
  rw [List.cons_append, dh, dh, uR _ _ _ c t r yy hc]
  by_cases h0 : (shp b).1 = 0
  · right; simp [h0]
  · rw [if_neg h0, if_neg h0]
    by_cases h1 : (aN ((shp b).1.toNat - 1) (shp b).2.1 (shp b).2.2 t : Int) + 1 < (shp b).1
    · right; simp [h1]
    · left
      rw [if_neg h1, if_neg h1]
      refine ⟨rfl, ?_⟩
      have hl := (jY ((shp b).1.toNat - 1) (shp b).2.1 (shp b).2.2 t).2
      rw [List.take_append_of_le_length (by omega)]
theorem wj (c : Int) (r : List Int) (hc : hv c < 0) : ∀ a : List Int, a ≠ [] → (fX (a ++ c :: r) = fX a ∨ (fX (a ++ c :: r) < 0 ∧ fX a < 0))
  | [], h => absurd rfl h
  | [b], _ => by
    right
    cases r with
    | nil => exact ⟨show (-1 : Int) < 0 by decide, show (-1 : Int) < 0 by decide⟩
    | cons d r =>
      simp only [List.cons_append, List.nil_append, fX]
      refine ⟨?_, show (-1 : Int) < 0 by decide⟩
      split
      · rw [if_pos (.inl hc)]; decide
      · decide
  | [b, d], _ => by
    right
    simp only [List.cons_append, List.nil_append, fX]
    refine ⟨?_, show (-1 : Int) < 0 by decide⟩
    split
    · rw [if_pos (.inr hc)]; decide
    · decide
  | b :: d :: e :: a, _ => .inl rfl
theorem wU (p : Int) (iri : Bool) (c : Int) (a r : List Int) (ha : a ≠ []) (hc : c < 128) (hx : hv c < 0) : aE p iri (a ++ c :: r) = aE p iri a := by
  unfold aE
  by_cases hp : du p = true
  · simp only [if_pos hp]
    have he : (0 ≤ fX (a ++ c :: r)) = (0 ≤ fX a) := by
      rcases wj c r hx a ha with h | ⟨h1, h2⟩
      · rw [h]
      · exact propext ⟨fun h => by omega, fun h => by omega⟩
    simp only [he]
    by_cases h0 : 0 ≤ fX a
    · rw [if_pos h0, if_pos h0]
    · rw [if_neg h0, if_neg h0]
      cases a with
      | nil => exact absurd rfl ha
      | cons b t =>
        rcases xx b c t r hc with ⟨h1, h2⟩ | ⟨h1, h2⟩
        · rw [h2]
        · rw [h1, h2]; simp
  · simp only [if_neg hp]
theorem nX {p : Int} {iri : Bool} {c : Int} {r : List Int} (h0 : 0 ≤ c) (hc : c < 128) (h37 : c ≠ 37) (hm : bV p c = false) : aE p iri (c :: r) = 0 := by
  unfold aE
  split
  · have he : fX (c :: r) = -1 := by
      match r with
      | [] => rfl
      | [_] => rfl
      | a :: b :: t => show (if c = 37 then _ else _) = _; rw [if_neg h37]
    rw [if_neg (by omega), iJ r hc]
    have : eQ p iri c = false := by unfold eQ; rw [if_pos ⟨h0, hc⟩]; exact hm
    simp [this]
  · rfl
theorem ru (p : Int) (iri : Bool) (c : Int) (r : List Int) (h0 : 0 ≤ c) (hc : c < 128) (h37 : c ≠ 37) (hx : hv c < 0) (hm : bV p c = false) : ∀ (n : Nat) (a : List Int), a.length = n → al p iri (a ++ c :: r) = al p iri a := by
  intro n
  induction n using Nat.strongRecOn with
  | _ n ih =>
    intro a hn
    by_cases ha : a = []
    · subst ha
      rw [List.nil_append, fL, nX h0 hc h37 hm, if_pos rfl, nz]
    · rw [fL p iri (a ++ c :: r), fL p iri a, wU p iri c a r ha hc hx]
      by_cases hs : aE p iri a = 0
      · rw [if_pos hs, if_pos hs]
      · rw [if_neg hs, if_neg hs]
        have hl := i7 p iri a
        rw [List.drop_append_of_le_length hl, ih (a.drop (aE p iri a)).length (by rw [List.length_drop]; omega) _ rfl]
def la (p q : Int) (iri : Bool) : Prop := du q = true ∧ ∀ r, eQ p iri r = true → eQ q iri r = true
theorem oF {p q : Int} {iri : Bool} (h : la p q iri) {l : List Int} (hs : aE p iri l ≠ 0) : aE q iri l = aE p iri l := by
  unfold aE at hs ⊢
  by_cases hp : du p = true
  · rw [if_pos hp] at hs ⊢
    rw [if_pos h.1]
    by_cases he : 0 ≤ fX l
    · rw [if_pos he, if_pos he]
    · rw [if_neg he] at hs ⊢
      rw [if_neg he]
      by_cases hm : ((dec l).2.2 && eQ p iri (dec l).1) = true
      · rw [if_pos hm]
        rw [Bool.and_eq_true] at hm
        rw [if_pos (by rw [Bool.and_eq_true]; exact ⟨hm.1, h.2 _ hm.2⟩)]
      · rw [if_neg hm] at hs; exact absurd rfl hs
  · rw [if_neg hp] at hs; exact absurd rfl hs
theorem jT {p q : Int} {iri : Bool} (h : la p q iri) : ∀ (n : Nat) (l : List Int), l.length = n → al q iri l = al p iri l + al q iri (l.drop (al p iri l)) := by
  intro n
  induction n using Nat.strongRecOn with
  | _ n ih =>
    intro l hn
    by_cases hs : aE p iri l = 0
    · have : al p iri l = 0 := by rw [fL, if_pos hs]
      rw [this, Nat.zero_add, List.drop_zero]
    · have hq := oF h hs
      have hl := i7 p iri l
      have e : al p iri l = aE p iri l + al p iri (l.drop (aE p iri l)) := by rw [fL p iri l, if_neg hs]
      have hz : l.length ≠ 0 := by
        intro hz
        rw [List.length_eq_zero_iff.1 hz, nA] at hs
        exact hs rfl
      rw [fL q iri l, if_neg (by rw [hq]; exact hs), hq, ih (l.drop (aE p iri l)).length (by rw [List.length_drop]; omega) _ rfl, e, List.drop_drop]
      omega
theorem nZ {p q : Int} {iri : Bool} (hp : du p = true) (hq : du q = true) (hp6 : p ≠ 6) (h : ∀ b, j9 p b = true → j9 q b = true) : la p q iri := by
  refine ⟨hq, fun r hr => ?_⟩
  unfold eQ at hr ⊢
  by_cases h1 : 0 ≤ r ∧ r < 128
  · rw [if_pos h1] at hr ⊢
    unfold bV at hr ⊢
    rw [hp] at hr
    rw [hq]
    simp only [Bool.true_and, Bool.or_eq_true] at hr ⊢
    exact hr.imp_right (h r)
  · rw [if_neg h1] at hr ⊢
    rw [hp] at hr
    rw [hq]
    have : decide (p = 6) = false := by simpa using hp6
    rw [this] at hr
    simp only [Bool.and_true, Bool.false_and, Bool.or_false, Bool.and_eq_true] at hr
    simp [hr.1, hr.2]
theorem oW (iri : Bool) : la 4 5 iri := nZ (by decide) (by decide) (by decide) (fun b h => by
  simp only [j9] at h ⊢
  simp at h ⊢
  exact .inl (.inr h))
theorem wZ (iri : Bool) : la 3 5 iri := nZ (by decide) (by decide) (by decide) (fun b h => by
  simp only [j9] at h ⊢
  simp at h ⊢
  exact .inl h)
theorem xN {b : Int} (h0 : 0 ≤ b) (h1 : b ≤ 255) : ((shp b).1 = 2 → 2 ≤ cD 2 b) ∧ ((shp b).1 = 3 → 2 ≤ cD 3 b * 64 + ((shp b).2.1 - 128) ∧ 0 ≤ cD 3 b) ∧ ((shp b).1 = 4 → 2 ≤ cD 4 b * 64 + ((shp b).2.1 - 128) ∧ 0 ≤ cD 4 b) :=
  b6 (p := fun b => ((shp b).1 = 2 → 2 ≤ cD 2 b) ∧ ((shp b).1 = 3 → 2 ≤ cD 3 b * 64 + ((shp b).2.1 - 128) ∧ 0 ≤ cD 3 b) ∧ ((shp b).1 = 4 → 2 ≤ cD 4 b * 64 + ((shp b).2.1 - 128) ∧ 0 ≤ cD 4 b)) (by decide +kernel) h0 h1
theorem sC {n : Nat} {lo hi : Int} {t : List Int} (h : n + 1 ≤ aN (n + 1) lo hi t) : ∃ c u, t = c :: u ∧ lo ≤ c ∧ c ≤ hi ∧ n ≤ aN n 128 191 u := by
  cases t with
  | nil => simp [aN] at h
  | cons c u =>
    simp only [aN] at h
    split at h
    · exact ⟨c, u, rfl, by omega, by omega, by omega⟩
    · omega
theorem o4 {b : Int} {t : List Int} (h0 : 0 ≤ b) (h1 : b ≤ 255) (ok : (dec (b :: t)).2.2 = true) (hr : (dec (b :: t)).1 < 128) : b < 128 ∧ (dec (b :: t)).1 = b ∧ (dec (b :: t)).2.1 = 1 := by
  by_cases hb : b < 128
  · rw [iJ t hb]; exact ⟨hb, rfl, rfl⟩
  · exfalso
    have hs := jy b
    have hl := xN h0 h1
    rw [dh] at ok hr
    by_cases hz : (shp b).1 = 0
    · rw [if_pos hz] at ok; cases ok
    · rw [if_neg hz] at ok hr
      by_cases hcn : (aN ((shp b).1.toNat - 1) (shp b).2.1 (shp b).2.2 t : Int) + 1 < (shp b).1
      · rw [if_pos hcn] at ok; cases ok
      · rw [if_neg hcn] at hr
        simp only at hr
        have h1' : (shp b).1 ≠ 1 := by
          have := b6 (p := fun b => ¬ b < 128 → (shp b).1 ≠ 1) (by decide +kernel) h0 h1
          exact this hb
        have hbd := gK (b := b) (by omega)
        obtain ⟨m, hm⟩ : ∃ m : Nat, (shp b).1.toNat - 1 = m + 1 := ⟨(shp b).1.toNat - 2, by omega⟩
        rw [hm] at hr hcn
        obtain ⟨c, u, rfl, hc1, hc2, hu⟩ := sC (n := m) (lo := (shp b).2.1) (hi := (shp b).2.2) (t := t) (by omega)
        rw [List.take_succ_cons] at hr
        have hmem : ∀ d ∈ u.take m, 128 ≤ d := fun d hd => by
          have hle := (jY m 128 191 u).1
          have := kR m 128 191 (by omega) (by omega) u d (by
            have : aN m 128 191 u = m := by omega
            rw [this]; exact hd)
          exact this.1
        have hacc : ga (cD (shp b).1 b) (c :: u.take m) = ga (cD (shp b).1 b * 64 + (c - 128)) (u.take m) := rfl
        rw [hacc] at hr
        have h234 : (shp b).1 = 2 ∨ (shp b).1 = 3 ∨ (shp b).1 = 4 := by omega
        rcases h234 with h | h | h
        · have := hl.1 h
          rw [h] at hr
          have hm0 : m = 0 := by omega
          subst hm0
          simp only [List.take_zero, ga] at hr
          omega
        · have := hl.2.1 h
          rw [h] at hr
          have hm0 : m = 1 := by omega
          subst hm0
          cases u with
          | nil => simp [aN] at hu
          | cons d u =>
            have hd := hmem d (by simp)
            simp only [List.take_succ_cons, List.take_zero, ga] at hr
            omega
        · have := hl.2.2 h
          rw [h] at hr
          have hm0 : m = 2 := by omega
          subst hm0
          match u, hu, hmem, hr with
          | [], hu, _, _ => simp [aN] at hu
          | [d], hu, _, _ => simp only [aN] at hu; split at hu <;> simp at hu
          | d :: e :: u, _, hmem, hr =>
            have hd := hmem d (by simp)
            have he := hmem e (by simp)
            simp only [List.take_succ_cons, List.take_zero, ga] at hr
            omega
theorem kt {iri : Bool} {l : List Int} (hl : ∀ b ∈ l, 0 ≤ b ∧ b ≤ 255) (h4 : aE 4 iri l = 0) (h5 : aE 5 iri l ≠ 0) : ∃ t, l = 58 :: t ∨ l = 47 :: t := by
  unfold aE at h4 h5
  rw [if_pos (by decide)] at h4 h5
  by_cases he : 0 ≤ fX l
  · rw [if_pos he] at h4; omega
  · rw [if_neg he] at h4 h5
    cases l with
    | nil => simp [dec] at h5
    | cons b t =>
      by_cases hm : ((dec (b :: t)).2.2 && eQ 5 iri (dec (b :: t)).1) = true
      · have hm' := hm
        rw [Bool.and_eq_true] at hm
        have hn := kD hm.1
        have h4' : eQ 4 iri (dec (b :: t)).1 = false := by
          cases h : eQ 4 iri (dec (b :: t)).1 with
          | false => rfl
          | true => rw [if_pos (by rw [hm.1, h]; rfl)] at h4; omega
        have hb := hl b (by simp)
        unfold eQ at h4' hm
        by_cases hr : 0 ≤ (dec (b :: t)).1 ∧ (dec (b :: t)).1 < 128
        · rw [if_pos hr] at h4' hm
          have hd := o4 hb.1 hb.2 hm.1 hr.2
          rw [hd.2.1] at h4' hm
          unfold bV j9 at h4' hm
          have p4 : du 4 = true := by decide
          have p5 : du 5 = true := by decide
          rw [p4] at h4'
          rw [p5] at hm
          simp at h4' hm
          have hm2 := hm.2
          rw [h4'.1] at hm2
          have h64 := h4'.2
          refine ⟨t, ?_⟩
          simp only [Bool.false_eq_true, false_or] at hm2
          rcases hm2 with (h | h) | h
          · left; rw [h]
          · exact absurd h h64
          · right; rw [h]
        · rw [if_neg hr] at h4' hm
          have p4 : du 4 = true := by decide
          have p5 : du 5 = true := by decide
          rw [p4] at h4'
          rw [p5] at hm
          simp at h4' hm
          have := h4' hm.2.1
          rw [hm.2.2] at this
          cases this
      · rw [if_neg hm] at h5; exact absurd rfl h5
def aQ (set : List Int) (l : List Int) : Nat := bd (fun b => !set.contains b) l
theorem jl (set l : List Int) : aQ set l ≤ l.length := oT _ _
theorem uH (set : List Int) : aQ set [] = 0 := rfl
theorem nc (set : List Int) (b : Int) (t : List Int) : aQ set (b :: t) = if set.contains b then 0 else aQ set t + 1 := by
  unfold aQ
  show (if (!set.contains b) = true then _ else _) = _
  cases set.contains b <;> rfl
theorem tw (set l : List Int) : ∀ b ∈ l.take (aQ set l), b ∉ set := fun b hb => by
  have := pr (p := fun b => !set.contains b) l b hb
  simpa using this
theorem qN {set l : List Int} (h : aQ set l < l.length) : ∃ b t, l.drop (aQ set l) = b :: t ∧ b ∈ set := by
  cases e : l.drop (aQ set l) with
  | nil => have := congrArg List.length e; rw [List.length_drop] at this; simp at this; omega
  | cons b t =>
    have := uv (p := fun b => !set.contains b) e
    exact ⟨b, t, rfl, by simpa using this⟩
theorem tH (set l : List Int) : iR (fun b => set.contains b) l = if aQ set l = l.length then -1 else (aQ set l : Int) := by
  induction l with
  | nil => rfl
  | cons b t ih =>
    have := jl set t
    rw [mj, nc, ih, List.length_cons]
    cases set.contains b
    · simp only [Bool.false_eq_true, if_false]
      split <;> split <;> (try split) <;> omega
    · simp
def gA (l : List Int) : Bool := jA (l.headD 0) && l.all fun b => mf b || [43, 45, 46].contains b
theorem mF : gA [] = false := by decide
def jx (iri : Bool) (l : List Int) : Bool := (l == [] || l.headD 0 == 47) && be 5 iri l
def im (iri ns ha : Bool) (l : List Int) : Bool :=
  be 5 iri l && (if ha then l == [] || l.headD 0 == 47 else !(l.take 2 == [47, 47]) && (!ns || !(l.getD (al 4 iri l) 0 == 58)))
def ub (iri ns ha : Bool) (l : List Int) : Bool :=
  if ha then jx iri l else if l = [] ∨ l = [47] then true else
    if l.headD 0 = 47 then decide (0 < al 3 iri (l.drop 1)) && jx iri ((l.drop 1).drop (al 3 iri (l.drop 1)))
    else decide (0 < al (if ns then 4 else 3) iri l) && jx iri (l.drop (al (if ns then 4 else 3) iri l))
theorem o0 {p q : Int} {iri : Bool} (h : la p q iri) (l : List Int) : be q iri l = be q iri (l.drop (al p iri l)) := by
  unfold be
  rw [jT h l.length l rfl, List.length_drop]
  have := gV p iri l
  have := gV q iri (l.drop (al p iri l))
  rw [List.length_drop] at this
  rw [Bool.eq_iff_iff, beq_iff_eq, beq_iff_eq]
  omega
theorem io (p : Int) (iri : Bool) (l : List Int) : al p iri l = 0 ↔ aE p iri l = 0 := by
  rw [fL]
  constructor
  · intro h
    by_cases hs : aE p iri l = 0
    · exact hs
    · rw [if_neg hs] at h; omega
  · intro h; rw [if_pos h]
theorem kf {p : Int} {iri : Bool} {l : List Int} (h : be p iri l = true) (hl : l ≠ []) : aE p iri l ≠ 0 := by
  unfold be at h
  rw [beq_iff_eq] at h
  intro hs
  have := (io p iri l).2 hs
  have hz : l.length ≠ 0 := fun hz => hl (List.length_eq_zero_iff.1 hz)
  omega
theorem tF (t : List Int) : fX (47 :: t) < 0 := by
  match t with
  | [] => exact show (-1 : Int) < 0 by decide
  | [_] => exact show (-1 : Int) < 0 by decide
  | a :: b :: u => show (if (47 : Int) = 37 then (if hv a < 0 ∨ hv b < 0 then -1 else 16 * hv a + hv b) else (-1 : Int)) < 0; rw [if_neg (by decide)]; decide
theorem sV (iri : Bool) (t : List Int) : aE 5 iri (47 :: t) = 1 := by
  have := tF t
  unfold aE
  rw [if_pos (by decide), if_neg (by omega), iJ t (by decide)]
  have : eQ 5 iri 47 = true := by cases iri <;> decide
  simp [this]
theorem sT (iri : Bool) (t : List Int) : aE 3 iri (47 :: t) = 0 := nX (by decide) (by decide) (by decide) (by decide)
theorem sU (iri : Bool) (t : List Int) : aE 4 iri (47 :: t) = 0 := nX (by decide) (by decide) (by decide) (by decide)
theorem oo (iri : Bool) (t : List Int) : be 5 iri (47 :: t) = be 5 iri t := by
  unfold be
  rw [fL, sV, if_neg (by decide), List.length_cons, Bool.eq_iff_iff, beq_iff_eq, beq_iff_eq]
  simp only [List.drop_succ_cons, List.drop_zero]
  omega
theorem lf {iri : Bool} {l : List Int} (hl : ∀ b ∈ l, 0 ≤ b ∧ b ≤ 255) (h3 : aE 3 iri l = 0) (h5 : aE 5 iri l ≠ 0) : ∃ t, l = 47 :: t := by
  have h4 : aE 4 iri l = 0 := by
    by_cases h : aE 4 iri l = 0
    · exact h
    · have w : la 4 3 iri := nZ (by decide) (by decide) (by decide) (fun b h => by simp only [j9] at h ⊢; simp at h ⊢; exact .inr h)
      have := oF w h
      rw [h3] at this
      exact this.symm
  obtain ⟨t, rfl | rfl⟩ := kt hl h4 h5
  · exfalso
    have he : fX (58 :: t) < 0 := by
      match t with
      | [] => exact show (-1 : Int) < 0 by decide
      | [_] => exact show (-1 : Int) < 0 by decide
      | a :: b :: u => show (if (58 : Int) = 37 then (if hv a < 0 ∨ hv b < 0 then -1 else 16 * hv a + hv b) else (-1 : Int)) < 0; rw [if_neg (by decide)]; decide
    unfold aE at h3
    rw [if_pos (by decide), if_neg (by omega), iJ t (by decide)] at h3
    have : eQ 3 iri 58 = true := by cases iri <;> decide
    simp [this] at h3
  · exact ⟨t, rfl⟩
theorem tE {l : List Int} (hl : ∀ b ∈ l, 0 ≤ b ∧ b ≤ 255) (n : Nat) : ∀ b ∈ l.drop n, 0 ≤ b ∧ b ≤ 255 := fun b hb => hl b (List.mem_of_mem_drop hb)
theorem qr {p : Int} {iri : Bool} {l : List Int} (hp : du p = true) (h : la p 5 iri) (hbt : ∀ m : List Int, (∀ b ∈ m, 0 ≤ b ∧ b ≤ 255) → aE p iri m = 0 → aE 5 iri m ≠ 0 → m.headD 0 = 47 ∨ (p = 4 ∧ m.headD 0 = 58)) (hl : ∀ b ∈ l, 0 ≤ b ∧ b ≤ 255) :
    jx iri (l.drop (al p iri l)) = (be 5 iri l && !(decide (p = 4) && l.getD (al p iri l) 0 == 58)) := by
  unfold jx
  rw [← o0 h l]
  cases ha : be 5 iri l
  · simp
  · rw [o0 h l] at ha
    simp only [Bool.and_true, Bool.true_and]
    have e : l.getD (al p iri l) 0 = (l.drop (al p iri l)).headD 0 := by
      rw [List.getD_eq_getElem?_getD, List.headD_eq_head?_getD, List.head?_drop]
    rw [e]
    have hm := tE hl (al p iri l)
    have hz : aE p iri (l.drop (al p iri l)) = 0 := by
      have h1 := jT (p := p) (q := p) (iri := iri) ⟨hp, fun _ hr => hr⟩ l.length l rfl
      have h2 : al p iri (l.drop (al p iri l)) = 0 := by omega
      exact (io p iri _).1 h2
    generalize l.drop (al p iri l) = m at ha hm hz
    by_cases hn : m = []
    · subst hn; simp
    · have h5 := kf ha hn
      rcases hbt m hm hz h5 with hh | ⟨rfl, hh⟩
      · rw [hh]; simp
      · rw [hh]
        have : (m == []) = false := by simpa using hn
        rw [this]; simp
theorem tK {l : List Int} (hl : ∀ b ∈ l, 0 ≤ b ∧ b ≤ 255) : l = [] ∨ ∃ b t, l = b :: t ∧ 0 ≤ b ∧ b ≤ 255 := by
  cases l with
  | nil => exact .inl rfl
  | cons b t => exact .inr ⟨b, t, rfl, hl b (by simp)⟩
theorem wQ {iri : Bool} {l : List Int} (hl : ∀ b ∈ l, 0 ≤ b ∧ b ≤ 255) : jx iri (l.drop (al 3 iri l)) = be 5 iri l := by
  rw [qr (by decide) (wZ iri) (fun m hm h3 h5 => .inl (by obtain ⟨t, rfl⟩ := lf hm h3 h5; rfl)) hl]
  have : decide ((3 : Int) = 4) = false := by decide
  rw [this]; simp
theorem ze {iri : Bool} {l : List Int} (hl : ∀ b ∈ l, 0 ≤ b ∧ b ≤ 255) : jx iri (l.drop (al 4 iri l)) = (be 5 iri l && !(l.getD (al 4 iri l) 0 == 58)) := by
  rw [qr (by decide) (oW iri) (fun m hm h4 h5 => by
    obtain ⟨t, rfl | rfl⟩ := kt hm h4 h5
    · exact .inr ⟨rfl, rfl⟩
    · exact .inl rfl) hl]
  have : decide ((4 : Int) = 4) = true := by decide
  rw [this]; simp
theorem vy (iri ns ha : Bool) {l : List Int} (hl : ∀ b ∈ l, 0 ≤ b ∧ b ≤ 255) : ub iri ns ha l = im iri ns ha l := by
  unfold ub im
  cases ha
  · simp only [Bool.false_eq_true, if_false]
    rcases tK hl with rfl | ⟨b, t, rfl, hb⟩
    · rw [if_pos (.inl rfl), kO]
      cases ns <;> simp [nz]
    · by_cases h47 : b = 47
      · subst h47
        have n4 : al 4 iri (47 :: t) = 0 := (io 4 iri _).2 (sU iri t)
        rw [n4, oo]
        cases t with
        | nil => simp [kO]
        | cons c u =>
          rw [if_neg (by simp), if_pos (show (47 :: c :: u).headD 0 = 47 from rfl)]
          simp only [List.drop_succ_cons, List.drop_zero]
          rw [wQ (fun x hx => hl x (by simp [hx]))]
          by_cases hc : c = 47
          · subst hc
            have : al 3 iri (47 :: u) = 0 := (io 3 iri _).2 (sT iri u)
            rw [this]; simp
          · have ht : ((47 :: c :: u).take 2 == [47, 47]) = false := by
              rw [beq_eq_false_iff_ne]; simp [hc]
            rw [ht]
            simp only [List.getD_cons_zero]
            cases h5 : be 5 iri (c :: u)
            · simp
            · have hs : al 3 iri (c :: u) ≠ 0 := by
                intro hz
                obtain ⟨t', e⟩ := lf (l := c :: u) (fun x hx => hl x (by simp [hx])) ((io 3 iri _).1 hz) (kf h5 (by simp))
                injection e with e1 e2
                exact hc e1
              have : decide (0 < al 3 iri (c :: u)) = true := decide_eq_true (by omega)
              rw [this]; simp
      · have h1 : ¬ (b :: t = [] ∨ b :: t = [47]) := by simp [h47]
        have h2 : ¬ (b :: t).headD 0 = 47 := h47
        have ht : ((b :: t).take 2 == [47, 47]) = false := by
          rw [beq_eq_false_iff_ne]; cases t <;> simp [h47]
        rw [if_neg h1, if_neg h2, ht]
        cases ns
        · simp only [Bool.false_eq_true, if_false, Bool.not_false, Bool.true_or, Bool.and_true]
          rw [wQ hl]
          cases h5 : be 5 iri (b :: t)
          · simp
          · have hs : al 3 iri (b :: t) ≠ 0 := by
              intro hz
              obtain ⟨t', e⟩ := lf hl ((io 3 iri _).1 hz) (kf h5 (by simp))
              injection e with e1 e2
              exact h47 e1
            have : decide (0 < al 3 iri (b :: t)) = true := decide_eq_true (by omega)
            rw [this]; simp
        · simp only [if_true, Bool.not_true, Bool.not_false, Bool.true_and, Bool.false_or]
          rw [ze hl]
          cases h5 : be 5 iri (b :: t)
          · simp
          · by_cases hs : al 4 iri (b :: t) = 0
            · obtain ⟨t', e⟩ := kt hl ((io 4 iri _).1 hs) (kf h5 (by simp))
              rw [hs]
              rcases e with e | e
              · injection e with e1 e2
                subst e1; simp
              · injection e with e1 e2
                exact absurd e1 h47
            · have : decide (0 < al 4 iri (b :: t)) = true := decide_eq_true (by omega)
              rw [this]; simp
  · simp only [if_true]
    unfold jx
    rw [Bool.and_comm]
end Go.Proofs.YtpmflpeckoeooaaGreatDoor.M
namespace Go.Proofs.YtpmflpeckoeooaaGreatDoor.Y
open Go.RowKit Go.Proofs.YtpmflpeckoeooaaGreatDoor.X Go.Proofs.YtpmflpeckoeooaaGreatDoor.M Go.Proofs.YtpmflpeckoeooaaGreatDoorW.PrintWords Go.Proofs.YtpmflpeckoeooaaGreatDoorW.PrintLast Go.Proofs.YtpmflpeckoeooaaGreatDoorW.PrintMore
theorem gf {s : ByteArray} {n : Nat} (h : n < s.size) : (aa s).drop n = bt s (n : Int) :: (aa s).drop (n + 1) := by
  rcases bu s n (by omega) with ⟨h1, _⟩ | ⟨_, h1, _⟩
  · omega
  · exact h1
theorem sK (s t : ByteArray) (hs : s.size ≤ 140737488351232) (ht : t.size ≤ 140737488351232) : ∀ d n : Nat, n + d = s.size → Ev (fun k => cO k s t (n : Int)) ((n : Int) + aQ (aa t) ((aa s).drop n)) := by
  intro d
  induction d with
  | zero =>
    intro n hn
    refine Ev.step (fun k => by rw [cO]) (ae (by omega) (Ev.val ?_))
    rw [List.drop_of_length_le (by rw [af]; omega), uH]; omega
  | succ d ih =>
    intro n hn
    refine Ev.step (fun k => by rw [cO]) (ab (by omega) (ab (by omega) (ah (ws _ t ht) ?_)))
    rw [gf (by omega), nc, w64 (by omega) (by omega)]
    cases hc : (aa t).contains (bt s (n : Int))
    · refine ae (by simp) ?_
      have := ih (n + 1) (by omega)
      simp only [Bool.false_eq_true, if_false]
      have e1 : ((n + 1 : Nat) : Int) = (n : Int) + 1 := by omega
      rw [e1] at this
      have e2 : (n : Int) + ((aQ (aa t) ((aa s).drop (n + 1)) + 1 : Nat) : Int) = (n : Int) + 1 + (aQ (aa t) ((aa s).drop (n + 1)) : Int) := by omega
      rw [e2]
      exact this
    · exact ab rfl (Ev.val (by simp))
theorem lC (s t : ByteArray) (n : Nat) (hn : n ≤ s.size) (hs : s.size ≤ 140737488351232) (ht : t.size ≤ 140737488351232) : Ev (fun k => dP k s (n : Int) t) ((n : Int) + aQ (aa t) ((aa s).drop n)) :=
  sK s t hs ht (s.size - n) n (by omega)
theorem s9 (s t : ByteArray) (n : Nat) (hn : n ≤ s.size) (hs : s.size ≤ 140737488351232) (ht : t.size ≤ 140737488351232) :
    Ev (fun k => df k s (n : Int) t) (if aQ (aa t) ((aa s).drop n) = s.size - n then -1 else (n : Int) + aQ (aa t) ((aa s).drop n)) := by
  have h := uU s t n hn hs ht
  simp only at h
  rw [tH, List.length_drop, af] at h
  by_cases he : aQ (aa t) ((aa s).drop n) = s.size - n
  · rw [if_pos he] at h ⊢
    simpa using h
  · rw [if_neg he] at h ⊢
    rw [if_neg (by omega)] at h
    exact h
def le (b : Int) : Bool := mf b || [43, 45, 46].contains b
theorem rb {s : ByteArray} {n : Nat} (h : n < s.size) : aa (s.extract n (n + 1)) = [bt s (n : Int)] := by
  rw [ap, List.drop_take, gf h, show n + 1 - n = 1 by omega]
  rfl
theorem yz {s : ByteArray} {n : Nat} (h : n < s.size) : ∃ z, Ev (fun k => df k (⟨#[43, 45, 46]⟩ : ByteArray) 0 (s.extract n (n + 1))) z ∧ (z < 0 ↔ [43, 45, 46].contains (bt s (n : Int)) = false) := by
  have hsz : (s.extract n (n + 1)).size = 1 := by rw [← af, rb h]; rfl
  refine ⟨_, uU (⟨#[43, 45, 46]⟩ : ByteArray) (s.extract n (n + 1)) 0 (by decide) (by decide) (by rw [hsz]; decide), ?_⟩
  rw [rb h]
  have e : (aa (⟨#[43, 45, 46]⟩ : ByteArray)).drop 0 = [43, 45, 46] := by decide +kernel
  rw [e]
  generalize bt s (n : Int) = c
  simp only [iR, List.contains_cons, List.contains_nil, Bool.or_false]
  by_cases h1 : (43 : Int) == c
  · simp only [h1, if_true]
    have : (c == (43 : Int)) = true := by rw [beq_iff_eq] at h1 ⊢; exact h1.symm
    rw [this]; simp
  · have h1' : ((43 : Int) == c) = false := by simpa using h1
    have h1'' : (c == (43 : Int)) = false := by rw [beq_eq_false_iff_ne] at h1' ⊢; exact fun h => h1' h.symm
    by_cases h2 : (45 : Int) == c
    · simp only [h1', h2, if_true]
      have : (c == (45 : Int)) = true := by rw [beq_iff_eq] at h2 ⊢; exact h2.symm
      rw [this]; simp
    · have h2' : ((45 : Int) == c) = false := by simpa using h2
      have h2'' : (c == (45 : Int)) = false := by rw [beq_eq_false_iff_ne] at h2' ⊢; exact fun h => h2' h.symm
      by_cases h3 : (46 : Int) == c
      · simp only [h1', h2', h3, if_true]
        have : (c == (46 : Int)) = true := by rw [beq_iff_eq] at h3 ⊢; exact h3.symm
        rw [this]; simp
      · have h3' : ((46 : Int) == c) = false := by simpa using h3
        have h3'' : (c == (46 : Int)) = false := by rw [beq_eq_false_iff_ne] at h3' ⊢; exact fun h => h3' h.symm
        simp only [h1', h2', h3', h1'', h2'', h3'']
        simp
theorem vM (s : ByteArray) (hs : s.size ≤ 140737488351232) : ∀ d n : Nat, n + d = s.size → Ev (fun k => cf k s (s.size : Int) (n : Int)) (((aa s).drop n).all le) := by
  intro d
  induction d with
  | zero =>
    intro n hn
    refine Ev.step (fun k => by rw [cf]) (ae (by omega) (Ev.val ?_))
    rw [List.drop_of_length_le (by rw [af]; omega)]; rfl
  | succ d ih =>
    intro n hn
    have hr := jn s (n : Int)
    refine Ev.step (fun k => by rw [cf]) (ab (by omega) (ab (by omega) (ab (by omega) (ah (tR 3 hr.1 hr.2) ?_))))
    rw [nQ hr.1 hr.2, gf (by omega), List.all_cons, w64 (by omega) (by omega)]
    have nx := ih (n + 1) (by omega)
    have e1 : ((n + 1 : Nat) : Int) = (n : Int) + 1 := by omega
    rw [e1] at nx
    cases ha : mf (bt s (n : Int))
    · refine ae (by simp) (ab (by omega) (ab (by omega) ?_))
      have e2 : ((n : Int) + 1).toNat = n + 1 := by omega
      rw [e2, Int.toNat_natCast]
      obtain ⟨z, hz, hz2⟩ := yz (s := s) (n := n) (by omega)
      refine ah hz (Ev.ite (fun h => ?_) (fun h => ?_))
      · refine Ev.val ?_
        unfold le; rw [ha, hz2.1 h]; rfl
      · have hc : [43, 45, 46].contains (bt s (n : Int)) = true := by
          cases h' : [43, 45, 46].contains (bt s (n : Int)) with
          | true => rfl
          | false => exact absurd (hz2.2 h') h
        have : le (bt s (n : Int)) = true := by unfold le; rw [hc]; simp
        rw [this, Bool.true_and]
        exact nx
    · refine ab rfl ?_
      have : le (bt s (n : Int)) = true := by unfold le; rw [ha]; rfl
      rw [this, Bool.true_and]
      exact nx
theorem nl {s : ByteArray} (h : 0 < s.size) : (aa s).headD 0 = bt s 0 := by
  have := gf (s := s) (n := 0) h
  rw [List.drop_zero] at this
  rw [this]; rfl
theorem eH (s : ByteArray) : s.toList = ([] : List UInt8) ↔ aa s = [] := by
  rw [i8]
  unfold aa
  simp
theorem wP (s : ByteArray) (hs : s.size ≤ 140737488351232) : Ev (fun k => fq k s) (gA (aa s)) := by
  unfold fq
  refine Ev.ite (fun h => ?_) (fun h => ?_)
  · rw [(eH s).1 h, mF]
    exact Ev.step (fun k => by rw [cX]) (ab rfl (az _))
  · have hp : 0 < s.size := by
      rcases Nat.eq_zero_or_pos s.size with hz | hz
      · exact absurd ((eH s).2 (List.length_eq_zero_iff.1 (by rw [af]; exact hz))) h
      · exact hz
    have hr := jn s 0
    refine ab (by omega) (ah (tR 1 hr.1 hr.2) (Ev.step (fun k => by rw [cX]) ?_))
    rw [vl hr.1 hr.2]
    unfold gA
    rw [nl hp]
    cases ha : jA (bt s 0)
    · exact ab rfl (Ev.val rfl)
    · refine ae (by simp) ?_
      have := vM s hs s.size 0 (by omega)
      rw [List.drop_zero] at this
      rw [Bool.true_and]
      exact this
theorem vu {b : Int} (h0 : 0 ≤ b) (h1 : b ≤ 255) : (Int.tmod (cls b) 2 == 0) = !jA b :=
  b6 (p := fun b => (Int.tmod (cls b) 2 == 0) = !jA b) (by decide +kernel) h0 h1
theorem rm (s : ByteArray) (hs : s.size ≤ 140737488351232) : ∀ d n : Nat, n + d = s.size → Ev (fun k => bX k s (n : Int)) (decide (0 < s.size) && (!(decide (n = 0 ∧ 0 < s.size)) || jA (bt s 0)) && ((aa s).drop n).all le) := by
  intro d
  induction d with
  | zero =>
    intro n hn
    refine Ev.step (fun k => by rw [bX]) (ae (by omega) (Ev.val ?_))
    rw [List.drop_of_length_le (by rw [af]; omega)]
    rw [Bool.eq_iff_iff]
    simp
    omega
  | succ d ih =>
    intro n hn
    have hr := jn s (n : Int)
    refine Ev.step (fun k => by rw [bX]) (ab (by omega) (ab (by omega) (ah (nr hr.1 hr.2) ?_)))
    have nx := ih (n + 1) (by omega)
    have e1 : ((n + 1 : Nat) : Int) = (n : Int) + 1 := by omega
    have e3 : decide (n + 1 = 0 ∧ 0 < s.size) = false := by simp
    rw [e1, e3] at nx
    simp only [Bool.not_false, Bool.true_or, Bool.and_true] at nx
    have hsz : decide (0 < s.size) = true := decide_eq_true (by omega)
    rw [hsz, Bool.true_and] at nx
    rw [hsz, Bool.true_and, gf (by omega), List.all_cons]
    have hj : ∀ x : Bool, Ev (fun k => di k s (n : Int) (cls (bt s (n : Int))) x) (!x && (le (bt s (n : Int)) && ((aa s).drop (n + 1)).all le)) := by
      intro x
      refine Ev.step (fun k => by rw [di]) ?_
      cases x
      · refine ae (by simp) ?_
        rw [w64 (by omega) (by omega), Bool.not_false, Bool.true_and]
        refine Ev.ite (fun h => ?_) (fun h => ?_)
        · have ha : mf (bt s (n : Int)) = false := by rw [← nQ hr.1 hr.2]; exact kF.1 h
          refine ab (by omega) (ab (by omega) (ah (ws _ (⟨#[43, 45, 46]⟩ : ByteArray) (by decide)) ?_))
          have e : aa (⟨#[43, 45, 46]⟩ : ByteArray) = [43, 45, 46] := by decide +kernel
          rw [e]
          unfold le
          rw [ha]
          cases hc : [43, 45, 46].contains (bt s (n : Int))
          · exact ae (by simp) (Ev.val rfl)
          · exact ab rfl nx
        · have ha : mf (bt s (n : Int)) = true := by
            rw [← nQ hr.1 hr.2]
            cases h' : isc (bt s (n : Int)) 3 with
            | true => rfl
            | false => exact absurd (kF.2 h') h
          unfold le
          rw [ha]
          exact nx
      · exact ab rfl (Ev.val rfl)
    refine Ev.ite (fun h => ?_) (fun h => ?_)
    · have h0 : n = 0 := by omega
      subst h0
      rw [vu hr.1 hr.2]
      have := hj (!jA (bt s ((0 : Nat) : Int)))
      rw [Bool.not_not] at this
      have e4 : decide (0 = 0 ∧ 0 < s.size) = true := decide_eq_true ⟨rfl, by omega⟩
      rw [e4]
      exact this
    · have e4 : decide (n = 0 ∧ 0 < s.size) = false := decide_eq_false (by omega)
      rw [e4]
      exact hj false
theorem sN (s : ByteArray) (hs : s.size ≤ 140737488351232) : Ev (fun k => gx k s) (gA (aa s)) := by
  have h := rm s hs s.size 0 (by omega)
  have e : (decide (0 < s.size) && (!(decide (0 = 0 ∧ 0 < s.size)) || jA (bt s 0)) && ((aa s).drop 0).all le) = gA (aa s) := by
    rw [List.drop_zero]
    rcases Nat.eq_zero_or_pos s.size with hz | hz
    · have : aa s = [] := List.length_eq_zero_iff.1 (by rw [af]; exact hz)
      rw [this, mF]
      have : decide (0 < s.size) = false := decide_eq_false (by omega)
      rw [this]; rfl
    · have h1 : decide (0 < s.size) = true := decide_eq_true hz
      have h2 : decide (0 = 0 ∧ 0 < s.size) = true := decide_eq_true ⟨rfl, hz⟩
      rw [h1, h2]
      unfold gA
      rw [nl hz]
      rfl
  rw [e] at h
  exact h
theorem uj (iri : Bool) (s : ByteArray) (hs : s.size ≤ 140737488351232) : ∀ d n : Nat, n + d = s.size → Ev (fun k => cI k iri s (n : Int)) (jx iri ((aa s).drop n)) := by
  intro d
  induction d using Nat.strongRecOn with
  | _ d ih =>
    intro n hn
    refine Ev.step (fun k => by rw [cI]) ?_
    refine Ev.ite (fun h => ?_) (fun h => ?_)
    · have hd := gf (s := s) (n := n) (by omega)
      refine ab (by omega) (Ev.ite (fun hb => ?_) (fun hb => ?_))
      · rw [w64 (by omega) (by omega)]
        refine ab (by omega) (ab (by omega) ?_)
        have e2 : ((n : Int) + 1).toNat = n + 1 := by omega
        rw [e2]
        have hsp := i6 3 iri (s.extract (n + 1) s.size) (by rw [← af, bh, List.length_drop, af]; omega)
        rw [bh] at hsp
        refine ah hsp ?_
        have hle := gV 3 iri ((aa s).drop (n + 1))
        rw [List.length_drop, af] at hle
        rw [w64 (by omega) (by omega)]
        have nx := ih (s.size - (n + 1 + al 3 iri ((aa s).drop (n + 1)))) (by omega) (n + 1 + al 3 iri ((aa s).drop (n + 1))) (by omega)
        have e3 : ((n + 1 + al 3 iri ((aa s).drop (n + 1)) : Nat) : Int) = (n : Int) + 1 + (al 3 iri ((aa s).drop (n + 1)) : Int) := by omega
        have hdd : (aa s).drop (n + 1 + al 3 iri ((aa s).drop (n + 1))) = ((aa s).drop (n + 1)).drop (al 3 iri ((aa s).drop (n + 1))) := by rw [List.drop_drop]
        rw [e3, hdd, wQ (fun b hb => kQ s b (List.mem_of_mem_drop hb))] at nx
        have e4 : jx iri ((aa s).drop n) = be 5 iri ((aa s).drop (n + 1)) := by
          rw [hd, hb]
          unfold jx
          rw [oo]
          simp
        rw [e4]
        exact nx
      · refine Ev.val ?_
        rw [hd]
        unfold jx
        have h1 : ((bt s (n : Int) :: (aa s).drop (n + 1)) == []) = false := by rw [beq_eq_false_iff_ne]; simp
        have h2 : ((bt s (n : Int) :: (aa s).drop (n + 1)).headD 0 == 47) = false := by rw [beq_eq_false_iff_ne]; exact hb
        rw [h1, h2]; rfl
    · rw [List.drop_of_length_le (by rw [af]; omega)]
      refine Ev.val ?_
      unfold jx
      rw [kO]; rfl
theorem qq (iri : Bool) (s : ByteArray) (hs : s.size ≤ 140737488351232) : Ev (fun k => eI k iri s) (jx iri (aa s)) := by
  have := uj iri s hs s.size 0 (by omega)
  rw [List.drop_zero] at this
  exact this
theorem lZ (p : Int) (iri : Bool) (s : ByteArray) (hs : s.size ≤ 140737488351232) : Ev (fun k => dQ k p iri s) (decide (0 < al p iri (aa s)) && jx iri ((aa s).drop (al p iri (aa s)))) := by
  unfold dQ
  have hle := gV p iri (aa s)
  rw [af] at hle
  refine ah (i6 p iri s hs) (Ev.ite (fun h => ?_) (fun h => ?_))
  · refine ab (by omega) (ab (by omega) ?_)
    rw [Int.toNat_natCast]
    have h1 := qq iri (s.extract (al p iri (aa s)) s.size) (by rw [← af, bh, List.length_drop, af]; omega)
    rw [bh] at h1
    refine ah h1 (Ev.val ?_)
    have : decide (0 < al p iri (aa s)) = true := decide_eq_true (by omega)
    rw [this, Bool.true_and]
  · refine Ev.val ?_
    have : decide (0 < al p iri (aa s)) = false := decide_eq_false (by omega)
    rw [this, Bool.false_and]
theorem ry (s : ByteArray) : (s.toList == ([47] : List UInt8)) = decide (aa s = [47]) := by
  rw [Bool.eq_iff_iff, beq_iff_eq, decide_eq_true_iff]
  have : s.toList = ([47] : List UInt8) ↔ s.toList = (⟨#[47]⟩ : ByteArray).toList := by
    have e : (⟨#[47]⟩ : ByteArray).toList = ([47] : List UInt8) := by rw [i8]
    rw [e]
  rw [this, ku]
  have e : aa (⟨#[47]⟩ : ByteArray) = [47] := by decide +kernel
  rw [e]
theorem vD (sch : ByteArray) (ha : Bool) (aut pth : ByteArray) (hq : Bool) (q : ByteArray) (hf : Bool) (f : ByteArray) (iri : Bool) (hs : pth.size ≤ 140737488351232) :
    Ev (fun k => fV k sch ha aut pth hq q hf f iri) (im iri (aa sch == []) ha (aa pth)) := by
  rw [← vy iri _ ha (kQ pth)]
  unfold fV ub
  cases ha
  · simp only [Bool.false_eq_true, if_false]
    have hj : ∀ x : Bool, (x = true ↔ (aa pth = [] ∨ aa pth = [47])) → Ev (fun k => dR k iri pth x sch false aut pth hq q hf f) (if aa pth = [] ∨ aa pth = [47] then true else
        if (aa pth).headD 0 = 47 then decide (0 < al 3 iri ((aa pth).drop 1)) && jx iri (((aa pth).drop 1).drop (al 3 iri ((aa pth).drop 1)))
        else decide (0 < al (if (aa sch == []) = true then 4 else 3) iri (aa pth)) && jx iri ((aa pth).drop (al (if (aa sch == []) = true then 4 else 3) iri (aa pth)))) := by
      intro x hx
      refine Ev.step (fun k => by rw [dR]) ?_
      refine Ev.ite (fun h => ?_) (fun h => ?_)
      · rw [if_pos (hx.1 h)]; exact az _
      · have hn : ¬ (aa pth = [] ∨ aa pth = [47]) := fun h' => h (hx.2 h')
        rw [if_neg hn]
        have hp : 0 < pth.size := by
          rcases Nat.eq_zero_or_pos pth.size with hz | hz
          · exact absurd (.inl (List.length_eq_zero_iff.1 (by rw [af]; exact hz))) hn
          · exact hz
        rw [nl hp]
        refine ab (by omega) (Ev.ite (fun hb => ?_) (fun hb => ?_))
        · rw [if_pos hb]
          refine ab (by omega) ?_
          have h1 := lZ 3 iri (pth.extract 1 pth.size) (by rw [← af, bh, List.length_drop, af]; omega)
          rw [bh] at h1
          exact ah h1 (az _)
        · rw [if_neg hb]
          refine Ev.ite (fun h' => ?_) (fun h' => ?_)
          · have e : (aa sch == []) = true := by rw [beq_iff_eq]; exact (eH sch).1 h'
            rw [e]
            exact ah (lZ 4 iri pth hs) (az _)
          · have e : (aa sch == []) = false := by rw [beq_eq_false_iff_ne]; exact fun h'' => h' ((eH sch).2 h'')
            rw [e]
            exact ah (lZ 3 iri pth hs) (az _)
    refine Ev.ite (fun h => ?_) (fun h => ?_)
    · exact hj true ⟨fun _ => .inl ((eH pth).1 h), fun _ => rfl⟩
    · rw [ry]
      exact hj _ ⟨fun h' => .inr (of_decide_eq_true h'), fun h' => decide_eq_true (h'.resolve_left fun h'' => h ((eH pth).2 h''))⟩
  · simp only [if_true]
    exact ah (qq iri pth hs) (az _)
def kn (kind : Int) (sch : ByteArray) (ha : Bool) (aut pth q : ByteArray) (hf : Bool) (f : ByteArray) : Bool :=
  (if aa sch = [] then kind == 2 || kind == 5 else gA (aa sch)) && (!(hf && kind == 3) && ((!ha || eJ (decide (kind ≥ 4)) (bq aut)) &&
    (im (decide (kind ≥ 4)) (aa sch == []) ha (aa pth) && (be 6 (decide (kind ≥ 4)) (aa q) && be 7 (decide (kind ≥ 4)) (aa f)))))
theorem oS (p : Int) (iri : Bool) (s : ByteArray) : ((al p iri (aa s) : Int) = (s.size : Int)) ↔ be p iri (aa s) = true := by
  unfold be
  rw [beq_iff_eq, af]
  omega
theorem ug (kind : Int) (sch : ByteArray) (ha : Bool) (aut pth : ByteArray) (hq : Bool) (q : ByteArray) (hf : Bool) (f : ByteArray) (h1 : sch.size ≤ 1000000) (h2 : aut.size ≤ 1000000) (h3 : pth.size ≤ 1000000) (h4 : q.size ≤ 1000000) (h5 : f.size ≤ 1000000) :
    Ev (fun k => gp k kind sch ha aut pth hq q hf f) (kn kind sch ha aut pth q hf f) := by
  have hj2 : ∀ x : Bool, Ev (fun k => ef k (decide (kind ≥ 4)) x sch ha aut pth hq q hf f) (!x && (im (decide (kind ≥ 4)) (aa sch == []) ha (aa pth) && (be 6 (decide (kind ≥ 4)) (aa q) && be 7 (decide (kind ≥ 4)) (aa f)))) := by
    intro x
    refine Ev.step (fun k => by rw [ef]) ?_
    cases x
    · refine ae (by simp) (ah (vD sch ha aut pth hq q hf f _ (by omega)) ?_)
      rw [Bool.not_false, Bool.true_and]
      cases hp : im (decide (kind ≥ 4)) (aa sch == []) ha (aa pth)
      · exact ae (by simp) (Ev.val rfl)
      · refine ab rfl (ah (i6 6 _ q (by omega)) ?_)
        rw [Bool.true_and]
        refine Ev.ite (fun h => ?_) (fun h => ?_)
        · rw [(oS 6 _ q).1 h, Bool.true_and]
          refine ah (i6 7 _ f (by omega)) (Ev.val ?_)
          rw [Bool.eq_iff_iff, beq_iff_eq]
          exact oS 7 _ f
        · refine Ev.val ?_
          have : be 6 (decide (kind ≥ 4)) (aa q) = false := by
            cases h' : be 6 (decide (kind ≥ 4)) (aa q) with
            | false => rfl
            | true => exact absurd ((oS 6 _ q).2 h') h
          rw [this]; rfl
    · exact ab rfl (Ev.val rfl)
  have hj1 : ∀ x : Bool, Ev (fun k => ee k (decide (kind ≥ 4)) x sch ha aut pth hq q hf f) (!x && ((!ha || eJ (decide (kind ≥ 4)) (bq aut)) && (im (decide (kind ≥ 4)) (aa sch == []) ha (aa pth) && (be 6 (decide (kind ≥ 4)) (aa q) && be 7 (decide (kind ≥ 4)) (aa f))))) := by
    intro x
    refine Ev.step (fun k => by rw [ee]) ?_
    cases x
    · refine ae (by simp) ?_
      rw [Bool.not_false, Bool.true_and]
      cases ha
      · exact ae (by simp) (hj2 false)
      · refine ab rfl (ah (vZ _ aut h2) ?_)
        cases hr : eJ (decide (kind ≥ 4)) (bq aut)
        · simp only [Bool.false_eq_true, if_false]
          exact hj2 true
        · simp only [if_true]
          exact hj2 false
    · exact ab rfl (Ev.val rfl)
  have hj0 : ∀ x : Bool, Ev (fun k => cL k kind (decide (kind ≥ 4)) x sch ha aut pth hq q hf f) (!x && (!(hf && kind == 3) && ((!ha || eJ (decide (kind ≥ 4)) (bq aut)) && (im (decide (kind ≥ 4)) (aa sch == []) ha (aa pth) && (be 6 (decide (kind ≥ 4)) (aa q) && be 7 (decide (kind ≥ 4)) (aa f)))))) := by
    intro x
    refine Ev.step (fun k => by rw [cL]) ?_
    cases x
    · refine ae (by simp) ?_
      rw [Bool.not_false, Bool.true_and]
      cases hf
      · exact ae (by simp) (hj1 false)
      · exact ab rfl (hj1 _)
    · exact ab rfl (Ev.val rfl)
  unfold gp kn
  refine Ev.ite (fun h => ?_) (fun h => ?_)
  · rw [if_pos ((eH sch).1 h)]
    refine Ev.ite (fun h2 => ?_) (fun h2 => Ev.ite (fun h5 => ?_) (fun h5 => ?_))
    · subst h2; exact hj0 false
    · subst h5; exact hj0 false
    · have e2 : (kind == 2) = false := by rw [beq_eq_false_iff_ne]; exact h2
      have e5 : (kind == 5) = false := by rw [beq_eq_false_iff_ne]; exact h5
      rw [e2, e5]
      exact hj0 true
  · rw [if_neg (fun h' => h ((eH sch).2 h'))]
    refine ah (sN sch (by omega)) ?_
    have := hj0 (!gA (aa sch))
    rw [Bool.not_not] at this
    exact this
end Go.Proofs.YtpmflpeckoeooaaGreatDoor.Y
namespace Go.Proofs.YtpmflpeckoeooaaGreatDoor.M
open Go Go.RowKit Go.Proofs.YtpmflpeckoeooaaGreatDoorW.PrintWords
def pI (l : List Int) : Nat := aQ [58, 47, 63, 35] l
def cS (l : List Int) : Bool := decide (0 < pI l) && (l.getD (pI l) 0 == 58)
def pC (l : List Int) : Nat := if cS l then pI l + 1 else 0
def cA (l : List Int) : Bool := (l.drop (pC l)).take 2 == [47, 47]
def fm (l : List Int) (c : Nat) : Nat := c + 2 + aQ [47, 63, 35] (l.drop (c + 2))
def pP (l : List Int) : Nat := if cA l then fm l (pC l) else pC l
def dK (l : List Int) (p : Nat) : Nat := p + aQ [63, 35] (l.drop p)
def ei (l : List Int) (p : Nat) : Nat := p + 1 + aQ [35] (l.drop (p + 1))
def cQ (l : List Int) : Bool := l.getD (dK l (pP l)) 0 == 63
def pF (l : List Int) : Nat := if cQ l then ei l (dK l (pP l)) else dK l (pP l)
def cF (l : List Int) : Bool := decide (pF l < l.length)
theorem lG {l : List Int} {i : Nat} {c : Int} (hc : c ≠ 0) (h : l.getD i 0 = c) : i < l.length := by
  rcases Nat.lt_or_ge i l.length with h' | h'
  · exact h'
  · rw [List.getD_eq_getElem?_getD, List.getElem?_eq_none h'] at h
    exact absurd h.symm hc
theorem ph (l : List Int) : pI l ≤ l.length := jl _ _
theorem qH (l : List Int) : pC l ≤ l.length := by
  unfold pC
  split
  · rename_i h
    unfold cS at h
    rw [Bool.and_eq_true, beq_iff_eq] at h
    have := lG (by decide) h.2
    omega
  · omega
theorem pv {l : List Int} {c : Nat} (h : (l.drop c).take 2 = [47, 47]) : c + 2 ≤ l.length := by
  have := congrArg List.length h
  rw [List.length_take, List.length_drop] at this
  simp at this
  omega
theorem mH {l : List Int} {c : Nat} (h : c + 2 ≤ l.length) : c + 2 ≤ fm l c ∧ fm l c ≤ l.length := by
  have := jl [47, 63, 35] (l.drop (c + 2))
  rw [List.length_drop] at this
  unfold fm
  omega
theorem yX (l : List Int) : pP l ≤ l.length := by
  unfold pP
  split
  · rename_i h
    unfold cA at h
    rw [beq_iff_eq] at h
    exact (mH (pv h)).2
  · exact qH l
theorem ti {l : List Int} {p : Nat} (h : p ≤ l.length) : p ≤ dK l p ∧ dK l p ≤ l.length := by
  have := jl [63, 35] (l.drop p)
  rw [List.length_drop] at this
  unfold dK
  omega
theorem pK {l : List Int} {p : Nat} (h : p < l.length) : p + 1 ≤ ei l p ∧ ei l p ≤ l.length := by
  have := jl [35] (l.drop (p + 1))
  rw [List.length_drop] at this
  unfold ei
  omega
theorem oZ (set l : List Int) : l.drop (aQ set l) = [] ∨ ∃ b t, l.drop (aQ set l) = b :: t ∧ b ∈ set := by
  by_cases h : aQ set l < l.length
  · exact .inr (qN h)
  · exact .inl (List.drop_of_length_le (by omega))
theorem lJ (set l : List Int) : l = l.take (aQ set l) ++ l.drop (aQ set l) := (List.take_append_drop _ _).symm
theorem ny (p : Int) (iri : Bool) (set : List Int) (hset : ∀ c ∈ set, 0 ≤ c ∧ c < 128 ∧ c ≠ 37 ∧ hv c < 0 ∧ bV p c = false) (l : List Int) : al p iri l = al p iri (l.take (aQ set l)) := by
  rcases oZ set l with h | ⟨b, t, h, hb⟩
  · have e := lJ set l
    rw [h, List.append_nil] at e
    rw [← e]
  · obtain ⟨h0, h1, h2, h3, h4⟩ := hset b hb
    conv => lhs; rw [lJ set l, h]
    exact ru p iri b t h0 h1 h2 h3 h4 _ _ rfl
end Go.Proofs.YtpmflpeckoeooaaGreatDoor.M
