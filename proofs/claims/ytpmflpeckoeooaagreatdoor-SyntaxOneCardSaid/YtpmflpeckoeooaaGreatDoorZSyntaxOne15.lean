/- Texts that the law's proof needs, joined by a program of this session. -/
import Derived.Test.YtpmflpeckoeooaaGreatDoorZSyntaxOne1
import Derived.Test.YtpmflpeckoeooaaGreatDoorZSyntaxOne2
import Derived.Test.YtpmflpeckoeooaaGreatDoorZSyntaxOne5
import Derived.Test.YtpmflpeckoeooaaGreatDoorZSyntaxOne6
import Derived.Test.YtpmflpeckoeooaaGreatDoorZSyntaxOne7
import Derived.Test.YtpmflpeckoeooaaGreatDoorZSyntaxOne10
import Derived.Test.YtpmflpeckoeooaaGreatDoorZSyntaxOne14
set_option linter.unusedSimpArgs false
set_option linter.unusedVariables false
namespace Go.Proofs.YtpmflpeckoeooaaGreatDoor.Y
open Go.RowKit Go.Proofs.YtpmflpeckoeooaaGreatDoor.X Go.Proofs.YtpmflpeckoeooaaGreatDoor.M Go.Proofs.YtpmflpeckoeooaaGreatDoorW.PrintWords Go.Proofs.YtpmflpeckoeooaaGreatDoorW.PrintLast Go.Proofs.YtpmflpeckoeooaaGreatDoorW.PrintMore
abbrev fo := ByteArray × Bool × ByteArray × ByteArray × Bool × ByteArray × Bool × ByteArray
abbrev nil8 : ByteArray := (⟨#[]⟩ : ByteArray)
def bk (s : ByteArray) : fo :=
  (if cS (aa s) then s.extract 0 (pI (aa s)) else nil8, cA (aa s), if cA (aa s) then s.extract (pC (aa s) + 2) (g7 (aa s) (pC (aa s))) else nil8,
    s.extract (pP (aa s)) (fH (aa s) (pP (aa s))), cQ (aa s), if cQ (aa s) then s.extract (fH (aa s) (pP (aa s)) + 1) (pF (aa s)) else nil8,
    cF (aa s), if cF (aa s) then s.extract (pF (aa s) + 1) s.size else nil8)
theorem aao : aa (⟨#[58, 47, 63, 35]⟩ : ByteArray) = [58, 47, 63, 35] := by decide +kernel
theorem aan : aa (⟨#[47, 63, 35]⟩ : ByteArray) = [47, 63, 35] := by decide +kernel
theorem yb : aa (⟨#[63, 35]⟩ : ByteArray) = [63, 35] := by decide +kernel
theorem aam : aa (⟨#[35]⟩ : ByteArray) = [35] := by decide +kernel
theorem gU (s : ByteArray) (i : Nat) : (aa s).getD i 0 = bt s (i : Int) := (kK s i).symm
theorem oG (s : ByteArray) {i : Nat} (h : s.size ≤ i) : bt s (i : Int) = 0 := by
  rw [kK, List.getD_eq_getElem?_getD, List.getElem?_eq_none (by rw [af]; exact h)]; rfl
theorem se (s : ByteArray) (n : Nat) (hn : n ≤ s.size) (hs : s.size ≤ 1000000) (iri : Bool) (sch : ByteArray) (ha : Bool) (aut pth : ByteArray) (hq : Bool) (q : ByteArray) (hf : Bool) (f sign : ByteArray) (hg : sign.size ≤ 10) :
    eI s (n : Int) iri sch ha aut pth hq q hf f sign = some (if ((aa s).drop n).take sign.size = aa sign then (true, s, ((n + sign.size : Nat) : Int), iri, sch, ha, aut, pth, hq, q, hf, f) else (false, s, (n : Int), iri, sch, ha, aut, pth, hq, q, hf, f)) := by
  unfold eI
  rw [if_pos (by omega), if_pos (by omega), nz, Int.toNat_natCast, aY, Option.bind_some]
  by_cases h : ((aa s).drop n).take sign.size = aa sign
  · rw [if_pos (decide_eq_true h), if_pos h, w64 (by omega) (by omega)]
    simp
  · rw [if_neg (by simpa using h), if_neg h]
theorem ou (s : ByteArray) (n : Nat) (hn : n ≤ s.size) (hs : s.size ≤ 1000000) (iri : Bool) (sch : ByteArray) (ha : Bool) (aut pth : ByteArray) (hq : Bool) (q : ByteArray) (hf : Bool) (f : ByteArray) (p : Int) :
    Ev (fun k => aax k s (n : Int) iri sch ha aut pth hq q hf f p) (s.extract n (n + an p iri ((aa s).drop n)), s, ((n + an p iri ((aa s).drop n) : Nat) : Int), iri, sch, ha, aut, pth, hq, q, hf, f) := by
  unfold aax
  have hsp := wQ p iri (s.extract n s.size) (by rw [← af, aY, List.length_drop, af]; omega)
  rw [aY] at hsp
  have hle := g0 p iri ((aa s).drop n)
  rw [List.length_drop, af] at hle
  rw [Int.toNat_natCast]
  refine ab (by omega) (ab (by omega) (ai hsp ?_))
  have e : (n : Int) + (an p iri ((aa s).drop n) : Int) = ((n + an p iri ((aa s).drop n) : Nat) : Int) := by omega
  rw [w64 (by omega) (by omega), e]
  refine ab (by omega) (ab (by omega) (Ev.val ?_))
  rw [Int.toNat_natCast]
def okS (l : List Int) : Bool := cS l && gZ (l.take (pI l))
theorem nT (s : ByteArray) : aa (s.extract 0 (pI (aa s))) = (aa s).take (pI (aa s)) := by rw [au, List.drop_zero]
theorem vu (s : ByteArray) (hs : s.size ≤ 1000000) (iri : Bool) :
    Ev (fun k => cB k s 0 iri nil8 false nil8 nil8 false nil8 false nil8)
      (if okS (aa s) = true then (true, s, ((pI (aa s) + 1 : Nat) : Int), iri, s.extract 0 (pI (aa s)), false, nil8, nil8, false, nil8, false, nil8) else (false, s, 0, iri, nil8, false, nil8, nil8, false, nil8, false, nil8)) := by
  unfold cB
  have hI := rJ (aa s)
  rw [af] at hI
  have hf := tV s (⟨#[58, 47, 63, 35]⟩ : ByteArray) 0 (by omega) (by omega) (by decide)
  rw [aao, List.drop_zero] at hf
  have e : (aJ [58, 47, 63, 35] (aa s)) = pI (aa s) := rfl
  rw [e] at hf
  have e0 : ((0 : Nat) : Int) = 0 := rfl
  rw [e0] at hf
  refine ai hf ?_
  by_cases he : pI (aa s) = s.size - 0
  · simp only [if_pos he]
    refine ab (by decide) (Ev.val ?_)
    have hc : cS (aa s) = false := by
      unfold cS; rw [gU, oG s (by omega)]; simp
    have : okS (aa s) = false := by unfold okS; rw [hc]; rfl
    rw [this]; rfl
  · simp only [if_neg he, Int.zero_add]
    refine ae (by omega) (ab (by omega) (ab (by omega) (Ev.ite (fun hb => ?_) (fun hb => ?_))))
    · refine ab (by omega) ?_
      rw [Int.toNat_natCast]
      have h1 := xZ (s.extract 0 (pI (aa s))) (by rw [← af, nT, List.length_take, af]; omega)
      rw [nT] at h1
      refine ai h1 ?_
      have hc : cS (aa s) = true ∨ gZ ((aa s).take (pI (aa s))) = false := by
        rcases Nat.eq_zero_or_pos (pI (aa s)) with hz | hz
        · right; rw [hz, List.take_zero, nE]
        · left
          unfold cS; rw [gU, hb, decide_eq_true hz]; rfl
      cases hsl : gZ ((aa s).take (pI (aa s)))
      · have : okS (aa s) = false := by unfold okS; rw [hsl, Bool.and_false]
        rw [this]
        exact ae (by simp) (Ev.val rfl)
      · have : okS (aa s) = true := by
          unfold okS; rw [hsl, Bool.and_true]
          rcases hc with hc | hc
          · exact hc
          · rw [hsl] at hc; cases hc
        rw [this]
        refine ab rfl (Ev.val ?_)
        rw [w64 (by omega) (by omega)]
        simp
    · have hc : cS (aa s) = false := by
        unfold cS; rw [gU]
        have : (bt s (pI (aa s) : Int) == 58) = false := beq_eq_false_iff_ne.2 hb
        rw [this, Bool.and_false]
      have : okS (aa s) = false := by unfold okS; rw [hc]; rfl
      rw [this]
      exact Ev.val rfl
theorem zB (s : ByteArray) (c : Nat) (hc : c ≤ s.size) (hs : s.size ≤ 1000000) (iri : Bool) (sch : ByteArray) :
    Ev (fun k => aaw k s (c : Int) iri sch false nil8 nil8 false nil8 false nil8)
      (if ((aa s).drop c).take 2 = [47, 47] then (gb iri (bA (s.extract (c + 2) (g7 (aa s) c))), s, (g7 (aa s) c : Int), iri, sch, true, s.extract (c + 2) (g7 (aa s) c), nil8, false, nil8, false, nil8)
        else (true, s, (c : Int), iri, sch, false, nil8, nil8, false, nil8, false, nil8)) := by
  unfold aaw
  have hb : aa (⟨#[47, 47]⟩ : ByteArray) = [47, 47] := by decide +kernel
  have hz : (⟨#[47, 47]⟩ : ByteArray).size = 2 := rfl
  have hn := se s c hc hs iri sch false nil8 nil8 false nil8 false nil8 (⟨#[47, 47]⟩ : ByteArray) (by decide)
  rw [hb, hz] at hn
  refine bD hn ?_
  by_cases h2 : ((aa s).drop c).take 2 = [47, 47]
  · simp only [if_pos h2]
    have hc2 := qv h2
    rw [af] at hc2
    have ha := o4 (l := aa s) (c := c) (by rw [af]; exact hc2)
    rw [af] at ha
    have hf := tV s (⟨#[47, 63, 35]⟩ : ByteArray) (c + 2) hc2 (by omega) (by decide)
    rw [aan] at hf
    have hpz : (s.extract (c + 2) (g7 (aa s) c)).size ≤ 1000000 := by
      rw [← af, au, List.length_drop, List.length_take, af]; omega
    have hp := zf iri (s.extract (c + 2) (g7 (aa s) c)) hpz
    refine ai hf ?_
    by_cases he : aJ [47, 63, 35] ((aa s).drop (c + 2)) = s.size - (c + 2)
    · simp only [if_pos he]
      have e : g7 (aa s) c = s.size := by unfold g7; omega
      rw [e] at hp ⊢
      refine ab (by decide) (ab (by omega) (ab (by omega) (ab (by omega) ?_)))
      rw [Int.toNat_natCast, Int.toNat_natCast]
      refine ai hp (Ev.val ?_)
      cases gb iri (bA (s.extract (c + 2) s.size)) <;> rfl
    · simp only [if_neg he]
      have e : ((c + 2 : Nat) : Int) + (aJ [47, 63, 35] ((aa s).drop (c + 2)) : Int) = (g7 (aa s) c : Int) := by unfold g7; omega
      rw [e]
      refine ae (by omega) (ab (by omega) (ab (by omega) (ab (by omega) ?_)))
      rw [Int.toNat_natCast, Int.toNat_natCast]
      refine ai hp (Ev.val ?_)
      cases gb iri (bA (s.extract (c + 2) (g7 (aa s) c))) <;> rfl
  · simp only [if_neg h2]
    exact ae (by simp) (Ev.val rfl)
def j7 (ha : Bool) (l : List Int) : Bool := if ha then l == [] || l.headD 0 == 47 else !(l.take 2 == [47, 47])
def jP (ns ha iri : Bool) (l : List Int) : Bool := ns && !ha && (l.getD (an 4 iri l) 0 == 58)
theorem ui (s : ByteArray) (p m : Nat) (hpm : p ≤ m) (hm : m ≤ s.size) (hs : s.size ≤ 1000000) (iri : Bool) (sch : ByteArray) (ha : Bool) (aut : ByteArray) (e : Nat) (he : e = m + an 5 iri ((aa s).drop m)) :
    Ev (fun k => bO k (p : Int) s (m : Int) iri sch ha aut nil8 false nil8 false nil8)
      (j7 ha (aa (s.extract p e)), s, (e : Int), iri, sch, ha, aut, s.extract p e, false, nil8, false, nil8) := by
  have hle := g0 5 iri ((aa s).drop m)
  rw [List.length_drop, af] at hle
  have hsp := ou s m hm hs iri sch ha aut nil8 false nil8 false nil8 5
  rw [← he] at hsp
  refine Ev.step (fun k => by rw [bO]) (ai hsp ?_)
  dsimp only
  refine ab (by omega) (ab (by omega) (ab (by omega) ?_))
  rw [Int.toNat_natCast, Int.toNat_natCast]
  cases ha
  · refine ae (by simp) (bD (nz _ _) (Ev.val ?_))
    have hb : aa (⟨#[47, 47]⟩ : ByteArray) = [47, 47] := by decide +kernel
    have hz : (⟨#[47, 47]⟩ : ByteArray).size = 2 := rfl
    rw [hb, hz]
    unfold j7
    have : decide ((aa (s.extract p e)).take 2 = [47, 47]) = ((aa (s.extract p e)).take 2 == [47, 47]) := by
      rw [Bool.eq_iff_iff, decide_eq_true_iff, beq_iff_eq]
    rw [this]; rfl
  · refine ab rfl (Ev.ite (fun h => ?_) (fun h => ?_))
    · refine Ev.val ?_
      rw [(fa _).1 h]; rfl
    · have hp : 0 < (s.extract p e).size := by
        rcases Nat.eq_zero_or_pos (s.extract p e).size with hz | hz
        · exact absurd ((fa _).2 (List.length_eq_zero_iff.1 (by rw [af]; exact hz))) h
        · exact hz
      refine ab (by omega) (Ev.val ?_)
      unfold j7
      have hne : (aa (s.extract p e) == []) = false := beq_eq_false_iff_ne.2 (fun h' => h ((fa _).2 h'))
      rw [ob hp, hne]; rfl
theorem xO (s : ByteArray) (p : Nat) (hp : p ≤ s.size) (hs : s.size ≤ 1000000) (iri : Bool) (sch : ByteArray) (ha : Bool) (aut : ByteArray) :
    ∃ z, Ev (fun k => bJ k s (p : Int) iri sch ha aut nil8 false nil8 false nil8) z ∧
      (jP (aa sch == []) ha iri ((aa s).drop p) = true → z.1 = false) ∧
      (jP (aa sch == []) ha iri ((aa s).drop p) = false → z = (j7 ha (aa (s.extract p (p + an 5 iri ((aa s).drop p)))), s, ((p + an 5 iri ((aa s).drop p) : Nat) : Int), iri, sch, ha, aut, s.extract p (p + an 5 iri ((aa s).drop p)), false, nil8, false, nil8)) := by
  have h4 := g0 4 iri ((aa s).drop p)
  rw [List.length_drop, af] at h4
  have hj0 : ∀ x : Bool, ∃ z, Ev (fun k => bn k (p : Int) x s (p : Int) iri sch ha aut nil8 false nil8 false nil8) z ∧
      ((x && (((aa s).drop p).getD (an 4 iri ((aa s).drop p)) 0 == 58)) = true → z.1 = false) ∧
      ((x && (((aa s).drop p).getD (an 4 iri ((aa s).drop p)) 0 == 58)) = false → z = (j7 ha (aa (s.extract p (p + an 5 iri ((aa s).drop p)))), s, ((p + an 5 iri ((aa s).drop p) : Nat) : Int), iri, sch, ha, aut, s.extract p (p + an 5 iri ((aa s).drop p)), false, nil8, false, nil8)) := by
    intro x
    cases x
    · refine ⟨_, Ev.step (fun k => by rw [bn]) (ae (by simp) (ui s p p (Nat.le_refl _) hp hs iri sch ha aut _ rfl)), fun h => by simp at h, fun _ => rfl⟩
    · have e5 : p + an 5 iri ((aa s).drop p) = p + an 4 iri ((aa s).drop p) + an 5 iri ((aa s).drop (p + an 4 iri ((aa s).drop p))) := by
        rw [jy (oz iri) _ ((aa s).drop p) rfl, List.drop_drop]; omega
      have hg : ((aa s).drop p).getD (an 4 iri ((aa s).drop p)) 0 = bt s ((p + an 4 iri ((aa s).drop p) : Nat) : Int) := by
        rw [List.getD_eq_getElem?_getD, List.getElem?_drop, ← List.getD_eq_getElem?_getD, gU]
      rw [hg, Bool.true_and]
      have hj := ui s p (p + an 4 iri ((aa s).drop p)) (by omega) (by omega) hs iri sch ha aut _ e5
      have hsp := ou s p hp hs iri sch ha aut nil8 false nil8 false nil8 4
      by_cases hb : bt s ((p + an 4 iri ((aa s).drop p) : Nat) : Int) = 58
      · have hlt : p + an 4 iri ((aa s).drop p) < s.size := by
          rcases Nat.lt_or_ge (p + an 4 iri ((aa s).drop p)) s.size with h | h
          · exact h
          · rw [oG s h] at hb; omega
        have hgo : Ev (fun k => bn k (p : Int) true s (p : Int) iri sch ha aut nil8 false nil8 false nil8) (false, s, ((p + an 4 iri ((aa s).drop p) : Nat) : Int), iri, sch, ha, aut, nil8, false, nil8, false, nil8) := by
          refine Ev.step (fun k => by rw [bn]) (ab rfl (ai hsp ?_))
          dsimp only
          exact ab (by omega) (ab (by omega) (ab hb (ay _)))
        refine ⟨_, hgo, fun _ => rfl, fun h => ?_⟩
        rw [hb] at h; simp at h
      · have hgo : Ev (fun k => bn k (p : Int) true s (p : Int) iri sch ha aut nil8 false nil8 false nil8) (j7 ha (aa (s.extract p (p + an 5 iri ((aa s).drop p)))), s, ((p + an 5 iri ((aa s).drop p) : Nat) : Int), iri, sch, ha, aut, s.extract p (p + an 5 iri ((aa s).drop p)), false, nil8, false, nil8) := by
          refine Ev.step (fun k => by rw [bn]) (ab rfl (ai hsp ?_))
          dsimp only
          refine Ev.ite (fun h => ?_) (fun h => hj)
          exact ab (Int.natCast_nonneg _) (ae hb hj)
        refine ⟨_, hgo, fun h => ?_, fun _ => rfl⟩
        rw [beq_iff_eq] at h
        exact absurd h hb
  unfold bJ jP
  by_cases h : sch.toList = ([] : List UInt8)
  · have e : (aa sch == []) = true := by rw [beq_iff_eq]; exact (fa sch).1 h
    rw [e, Bool.true_and]
    obtain ⟨z, hz, h1, h2⟩ := hj0 (!ha)
    exact ⟨z, ab h hz, h1, h2⟩
  · have e : (aa sch == []) = false := beq_eq_false_iff_ne.2 fun h' => h ((fa sch).2 h')
    rw [e]
    obtain ⟨z, hz, h1, h2⟩ := hj0 false
    exact ⟨z, ae h hz, fun h => by simp at h, fun _ => h2 (by simp)⟩
def qP (s : ByteArray) (iri : Bool) (e : Nat) : Nat := if bt s (e : Int) = 63 then e + 1 + an 6 iri ((aa s).drop (e + 1)) else e
def fP (s : ByteArray) (iri fr : Bool) (e : Nat) : Nat := if fr = true ∧ bt s (e : Int) = 35 then e + 1 + an 7 iri ((aa s).drop (e + 1)) else e
theorem oh (s : ByteArray) (c : Int) (hc : c ≠ 0) (n : Nat) : ((aa s).drop n).take 1 = [c] ↔ bt s (n : Int) = c := by
  rcases Nat.lt_or_ge n s.size with h | h
  · rw [ji h]; simp
  · rw [List.drop_of_length_le (by rw [af]; exact h), oG s h]
    simp
    exact fun h => hc h.symm
theorem pa {s : ByteArray} {c : Int} (hc : c ≠ 0) {n : Nat} (h : bt s (n : Int) = c) : n < s.size := by
  rcases Nat.lt_or_ge n s.size with h' | h'
  · exact h'
  · rw [oG s h'] at h; exact absurd h.symm hc
theorem aag (s : ByteArray) (iri : Bool) (e : Nat) (he : e ≤ s.size) : e ≤ qP s iri e ∧ qP s iri e ≤ s.size := by
  unfold qP
  split
  · rename_i h
    have := pa (by decide) h
    have hle := g0 6 iri ((aa s).drop (e + 1))
    rw [List.length_drop, af] at hle
    omega
  · omega
theorem uo (s : ByteArray) (e : Nat) (he : e ≤ s.size) (hs : s.size ≤ 1000000) (iri : Bool) (sch : ByteArray) (ha : Bool) (aut pth : ByteArray) (hq : Bool) (q : ByteArray) (fr : Bool) :
    Ev (fun k => b7 k fr s (e : Int) iri sch ha aut pth hq q false nil8)
      (s, (fP s iri fr e : Int), iri, sch, ha, aut, pth, hq, q, decide (fr = true ∧ bt s (e : Int) = 35), if fr = true ∧ bt s (e : Int) = 35 then s.extract (e + 1) (fP s iri fr e) else nil8) := by
  refine Ev.step (fun k => by rw [b7]) ?_
  unfold fP
  cases fr
  · refine ae (by simp) (Ev.val ?_)
    simp
  · refine ab rfl ?_
    have hn := se s e he hs iri sch ha aut pth hq q false nil8 (⟨#[35]⟩ : ByteArray) (by decide)
    rw [aam] at hn
    have hz : (⟨#[35]⟩ : ByteArray).size = 1 := rfl
    rw [hz] at hn
    refine bD hn ?_
    by_cases h : bt s (e : Int) = 35
    · have hlt := pa (by decide) h
      rw [if_pos ((oh s 35 (by decide) e).2 h)]
      refine ab rfl ?_
      dsimp only
      refine ai (ou s (e + 1) (by omega) hs iri sch ha aut pth hq q true nil8 7) (Ev.val ?_)
      simp [h]
    · rw [if_neg (fun h' => h ((oh s 35 (by decide) e).1 h'))]
      refine ae (by simp) (Ev.val ?_)
      simp [h]
theorem zR (s : ByteArray) (e : Nat) (he : e ≤ s.size) (hs : s.size ≤ 1000000) (iri : Bool) (sch : ByteArray) (ha : Bool) (aut pth : ByteArray) (fr : Bool) :
    Ev (fun k => bK k s (e : Int) iri sch ha aut pth false nil8 false nil8 fr)
      (s, (fP s iri fr (qP s iri e) : Int), iri, sch, ha, aut, pth, decide (bt s (e : Int) = 63), (if bt s (e : Int) = 63 then s.extract (e + 1) (qP s iri e) else nil8), decide (fr = true ∧ bt s (qP s iri e : Int) = 35), if fr = true ∧ bt s (qP s iri e : Int) = 35 then s.extract (qP s iri e + 1) (fP s iri fr (qP s iri e)) else nil8) := by
  unfold bK
  have hq := aag s iri e he
  have hn := se s e he hs iri sch ha aut pth false nil8 false nil8 (⟨#[63]⟩ : ByteArray) (by decide)
  have hb : aa (⟨#[63]⟩ : ByteArray) = [63] := by decide +kernel
  rw [hb] at hn
  have hz : (⟨#[63]⟩ : ByteArray).size = 1 := rfl
  rw [hz] at hn
  refine bD hn ?_
  by_cases h : bt s (e : Int) = 63
  · have hlt := pa (by decide) h
    rw [if_pos ((oh s 63 (by decide) e).2 h)]
    refine ab rfl ?_
    dsimp only
    have hqe : qP s iri e = e + 1 + an 6 iri ((aa s).drop (e + 1)) := by unfold qP; rw [if_pos h]
    have hsp := ou s (e + 1) (by omega) hs iri sch ha aut pth true nil8 false nil8 6
    rw [← hqe] at hsp
    refine ai hsp ?_
    dsimp only
    rw [decide_eq_true h, if_pos h]
    exact uo s (qP s iri e) hq.2 hs iri sch ha aut pth true _ fr
  · rw [if_neg (fun h' => h ((oh s 63 (by decide) e).1 h'))]
    refine ae (by simp) ?_
    dsimp only
    have hqe : qP s iri e = e := by unfold qP; rw [if_neg h]
    rw [hqe, decide_eq_false h, if_neg h]
    exact uo s e he hs iri sch ha aut pth false nil8 fr
def d4 (s : ByteArray) (c : Nat) : Bool := ((aa s).drop c).take 2 == [47, 47]
def bj (s : ByteArray) (c : Nat) : Nat := if d4 s c then g7 (aa s) c else c
def ki (s : ByteArray) (c : Nat) : ByteArray := if d4 s c then s.extract (c + 2) (g7 (aa s) c) else nil8
def fG (s : ByteArray) (iri : Bool) (c : Nat) : Nat := bj s c + an 5 iri ((aa s).drop (bj s c))
def jt (s : ByteArray) (iri fr ns : Bool) (c : Nat) : Bool :=
  (!d4 s c || gb iri (bA (ki s c))) && (!jP ns (d4 s c) iri ((aa s).drop (bj s c)) && (j7 (d4 s c) (aa (s.extract (bj s c) (fG s iri c))) && decide (fP s iri fr (qP s iri (fG s iri c)) = s.size)))
def oo (s : ByteArray) (iri fr : Bool) (c : Nat) (sch : ByteArray) : fo :=
  (sch, d4 s c, ki s c, s.extract (bj s c) (fG s iri c), decide (bt s (fG s iri c : Int) = 63), if bt s (fG s iri c : Int) = 63 then s.extract (fG s iri c + 1) (qP s iri (fG s iri c)) else nil8,
    decide (fr = true ∧ bt s (qP s iri (fG s iri c) : Int) = 35), if fr = true ∧ bt s (qP s iri (fG s iri c) : Int) = 35 then s.extract (qP s iri (fG s iri c) + 1) (fP s iri fr (qP s iri (fG s iri c))) else nil8)
abbrev rM := ByteArray × Bool × ByteArray × ByteArray × Bool × ByteArray × Bool × ByteArray × Bool
def pR (p : fo) : rM := (p.1, p.2.1, p.2.2.1, p.2.2.2.1, p.2.2.2.2.1, p.2.2.2.2.2.1, p.2.2.2.2.2.2.1, p.2.2.2.2.2.2.2, true)
def no9 : rM := (nil8, false, nil8, nil8, false, nil8, false, nil8, false)
theorem pK (s : ByteArray) (c : Nat) (hc : c ≤ s.size) : bj s c ≤ s.size := by
  unfold bj
  split
  · rename_i h
    unfold d4 at h
    rw [beq_iff_eq] at h
    have := (o4 (qv h)).2
    rw [af] at this
    exact this
  · exact hc
theorem xV (s : ByteArray) (iri : Bool) (c : Nat) (hc : c ≤ s.size) : fG s iri c ≤ s.size := by
  have h1 := pK s c hc
  have h2 := g0 5 iri ((aa s).drop (bj s c))
  rw [List.length_drop, af] at h2
  unfold fG
  omega
theorem rp (s : ByteArray) (c : Nat) (hc : c ≤ s.size) (hs : s.size ≤ 1000000) (kind : Int) (iri : Bool) (sch : ByteArray) :
    Ev (fun k => (aaw k s (c : Int) iri sch false nil8 nil8 false nil8 false nil8).bind fun Ac => (if Ac.1 = true then ((bJ k Ac.2.1 Ac.2.2.1 Ac.2.2.2.1 Ac.2.2.2.2.1 Ac.2.2.2.2.2.1 Ac.2.2.2.2.2.2.1 Ac.2.2.2.2.2.2.2.1 Ac.2.2.2.2.2.2.2.2.1 Ac.2.2.2.2.2.2.2.2.2.1 Ac.2.2.2.2.2.2.2.2.2.2.1 Ac.2.2.2.2.2.2.2.2.2.2.2).bind fun Aa => (if Aa.1 = true then ((bK k Aa.2.1 Aa.2.2.1 Aa.2.2.2.1 Aa.2.2.2.2.1 Aa.2.2.2.2.2.1 Aa.2.2.2.2.2.2.1 Aa.2.2.2.2.2.2.2.1 Aa.2.2.2.2.2.2.2.2.1 Aa.2.2.2.2.2.2.2.2.2.1 Aa.2.2.2.2.2.2.2.2.2.2.1 Aa.2.2.2.2.2.2.2.2.2.2.2 (kind != 3)).bind fun Ab => (if Ab.2.1 = (s.size : Int) then (some (Ab.2.2.2.1, Ab.2.2.2.2.1, Ab.2.2.2.2.2.1, Ab.2.2.2.2.2.2.1, Ab.2.2.2.2.2.2.2.1, Ab.2.2.2.2.2.2.2.2.1, Ab.2.2.2.2.2.2.2.2.2.1, Ab.2.2.2.2.2.2.2.2.2.2, true)) else (some no9))) else (some no9))) else (some no9)))
      (if jt s iri (kind != 3) (aa sch == []) c = true then pR (oo s iri (kind != 3) c sch) else no9) := by
  have hau := zB s c hc hs iri sch
  have hE := xV s iri c hc
  have hgo : Ev (fun k => ((bJ k s (bj s c : Int) iri sch (d4 s c) (ki s c) nil8 false nil8 false nil8).bind fun Aa => (if Aa.1 = true then ((bK k Aa.2.1 Aa.2.2.1 Aa.2.2.2.1 Aa.2.2.2.2.1 Aa.2.2.2.2.2.1 Aa.2.2.2.2.2.2.1 Aa.2.2.2.2.2.2.2.1 Aa.2.2.2.2.2.2.2.2.1 Aa.2.2.2.2.2.2.2.2.2.1 Aa.2.2.2.2.2.2.2.2.2.2.1 Aa.2.2.2.2.2.2.2.2.2.2.2 (kind != 3)).bind fun Ab => (if Ab.2.1 = (s.size : Int) then (some (Ab.2.2.2.1, Ab.2.2.2.2.1, Ab.2.2.2.2.2.1, Ab.2.2.2.2.2.2.1, Ab.2.2.2.2.2.2.2.1, Ab.2.2.2.2.2.2.2.2.1, Ab.2.2.2.2.2.2.2.2.2.1, Ab.2.2.2.2.2.2.2.2.2.2, true)) else (some no9))) else (some no9))))
      (if (!jP (aa sch == []) (d4 s c) iri ((aa s).drop (bj s c)) && (j7 (d4 s c) (aa (s.extract (bj s c) (fG s iri c))) && decide (fP s iri (kind != 3) (qP s iri (fG s iri c)) = s.size))) = true then pR (oo s iri (kind != 3) c sch) else no9) := by
    obtain ⟨z, hz, h1, h2⟩ := xO s (bj s c) (pK s c hc) hs iri sch (d4 s c) (ki s c)
    refine ai hz ?_
    cases hcol : jP (aa sch == []) (d4 s c) iri ((aa s).drop (bj s c))
    · have Ad := h2 hcol
      have hEe : bj s c + an 5 iri ((aa s).drop (bj s c)) = fG s iri c := rfl
      rw [hEe] at Ad
      subst Ad
      dsimp only
      rw [Bool.not_false, Bool.true_and]
      cases hsl : j7 (d4 s c) (aa (s.extract (bj s c) (fG s iri c)))
      · exact ae (by simp) (Ev.val rfl)
      · refine ab rfl (ai (zR s (fG s iri c) hE hs iri sch (d4 s c) (ki s c) _ (kind != 3)) ?_)
        dsimp only
        rw [Bool.true_and]
        refine Ev.ite (fun h => ?_) (fun h => ?_)
        · refine Ev.val ?_
          rw [if_pos (decide_eq_true (by omega))]
          rfl
        · refine Ev.val ?_
          rw [if_neg (by rw [decide_eq_true_iff]; omega)]
    · have Ae := h1 hcol
      rw [Ae]
      exact ae (by simp) (Ev.val rfl)
  by_cases hA : ((aa s).drop c).take 2 = [47, 47]
  · have eA : d4 s c = true := by unfold d4; rw [beq_iff_eq]; exact hA
    have eP : bj s c = g7 (aa s) c := by unfold bj; rw [eA]; rfl
    have eU : ki s c = s.extract (c + 2) (g7 (aa s) c) := by unfold ki; rw [eA]; rfl
    rw [if_pos hA] at hau
    refine ai hau ?_
    unfold jt
    rw [eP, eU, eA] at hgo
    rw [eP, eU, eA]
    cases hr : gb iri (bA (s.extract (c + 2) (g7 (aa s) c)))
    · exact ae (by simp) (Ev.val (by simp))
    · refine ab rfl ?_
      dsimp only
      simp only [Bool.not_true, Bool.or_true, Bool.true_and]
      exact hgo
  · have eA : d4 s c = false := by unfold d4; rw [beq_eq_false_iff_ne]; exact hA
    have eP : bj s c = c := by unfold bj; rw [eA]; rfl
    have eU : ki s c = nil8 := by unfold ki; rw [eA]; rfl
    rw [if_neg hA] at hau
    refine ai hau (ab rfl ?_)
    dsimp only
    unfold jt
    rw [eP, eU, eA] at hgo
    rw [eP, eU, eA]
    simp only [Bool.not_false, Bool.true_or, Bool.true_and]
    exact hgo
theorem uf {kind : Int} (h1 : 1 ≤ kind) (h5 : kind ≤ 5) : io kind = some (decide (kind ≥ 4)) := by
  unfold io
  by_cases h : kind = 4
  · rw [if_pos h]; simp [h]
  · rw [if_neg h]
    have : (kind == 5) = decide (kind ≥ 4) := by rw [Bool.eq_iff_iff, beq_iff_eq, decide_eq_true_iff]; omega
    rw [this]
def rL (kind : Int) (s : ByteArray) : rM :=
  if okS (aa s) = true then (if jt s (decide (kind ≥ 4)) (kind != 3) (aa (s.extract 0 (pI (aa s))) == []) (pI (aa s) + 1) = true then pR (oo s (decide (kind ≥ 4)) (kind != 3) (pI (aa s) + 1) (s.extract 0 (pI (aa s)))) else no9)
  else if kind = 2 ∨ kind = 5 then (if jt s (decide (kind ≥ 4)) (kind != 3) true 0 = true then pR (oo s (decide (kind ≥ 4)) (kind != 3) 0 nil8) else no9) else no9
theorem zN (kind : Int) (h1 : 1 ≤ kind) (h5 : kind ≤ 5) (s : ByteArray) (hs : s.size ≤ 1000000) : Ev (fun k => gp k kind s) (rL kind s) := by
  unfold gp rL
  refine bD (uf h1 h5) ?_
  have hsc := vu s hs (decide (kind ≥ 4))
  have hI := rJ (aa s)
  rw [af] at hI
  have hn : (aa nil8 == []) = true := by decide +kernel
  have r0 := rp s 0 (by omega) hs kind (decide (kind ≥ 4)) nil8
  rw [hn] at r0
  cases hok : okS (aa s)
  · rw [hok] at hsc
    simp only [Bool.false_eq_true, if_false] at hsc ⊢
    refine Ev.ite (fun h => ?_) (fun h => ?_)
    · rw [if_pos (.inl h)]
      refine ai hsc (ae (by simp) ?_)
      exact r0
    · refine ai hsc (ae (by simp) (Ev.ite (fun h' => ?_) (fun h' => ?_)))
      · rw [if_pos (.inr h')]
        exact r0
      · rw [if_neg (by omega)]
        exact Ev.val rfl
  · rw [hok] at hsc
    simp only [if_true] at hsc ⊢
    have hlt : pI (aa s) + 1 ≤ s.size := by
      unfold okS cS at hok
      rw [Bool.and_eq_true, Bool.and_eq_true, beq_iff_eq] at hok
      have := ls (by decide) hok.1.2
      rw [af] at this
      omega
    have r1 := rp s (pI (aa s) + 1) hlt hs kind (decide (kind ≥ 4)) (s.extract 0 (pI (aa s)))
    refine Ev.ite (fun h => ?_) (fun h => ?_)
    · refine ai hsc (ab rfl ?_)
      exact r1
    · refine ai hsc (ab rfl ?_)
      exact r1
theorem o5 (s : ByteArray) (p m : Nat) : bt s ((p + m : Nat) : Int) = ((aa s).drop p).getD m 0 := by
  rw [List.getD_eq_getElem?_getD, List.getElem?_drop, ← List.getD_eq_getElem?_getD, gU]
theorem k9 {set l : List Int} {m : Nat} (h : m < aJ set l) : l.getD m 0 ∉ set := by
  have hle := iU set l
  refine pT set l _ ?_
  rw [List.getD_eq_getElem?_getD, List.getElem?_eq_getElem (by omega)]
  have : l[m]'(by omega) = (l.take (aJ set l))[m]'(by rw [List.length_take]; omega) := by rw [List.getElem_take]
  show l[m]'(by omega) ∈ _
  rw [this]
  exact List.getElem_mem _
theorem oN {set l : List Int} (h : aJ set l < l.length) : l.getD (aJ set l) 0 ∈ set := by
  obtain ⟨b, t, e, hb⟩ := rO h
  have : l.getD (aJ set l) 0 = b := by
    have h1 : (l.drop (aJ set l))[0]? = some b := by rw [e]; rfl
    rw [List.getElem?_drop, Nat.add_zero] at h1
    rw [List.getD_eq_getElem?_getD, h1]; rfl
  rw [this]; exact hb
theorem yy : ∀ p : Int, (p = 4 ∨ p = 5) → ∀ c ∈ ([63, 35] : List Int), 0 ≤ c ∧ c < 128 ∧ c ≠ 37 ∧ hv c < 0 ∧ cf p c = false := by
  intro p hp c hc
  rcases hp with rfl | rfl <;> (simp only [List.mem_cons, List.mem_nil_iff, or_false] at hc; rcases hc with rfl | rfl <;> decide)
theorem aah : ∀ c ∈ ([35] : List Int), 0 ≤ c ∧ c < 128 ∧ c ≠ 37 ∧ hv c < 0 ∧ cf 6 c = false := by
  intro c hc
  simp only [List.mem_cons, List.mem_nil_iff, or_false] at hc
  subst hc; decide
theorem rb (s : ByteArray) (p n : Nat) : aa (s.extract p (p + n)) = ((aa s).drop p).take n := by
  rw [au, List.drop_take]; congr 1; omega
theorem mP {p : Int} {iri : Bool} {l : List Int} {n : Nat} (hn : n ≤ l.length) : an p iri (l.take n) ≤ n ∧ (bo p iri (l.take n) = true ↔ an p iri (l.take n) = n) := by
  have h := g0 p iri (l.take n)
  rw [List.length_take] at h
  refine ⟨by omega, ?_⟩
  unfold bo
  rw [beq_iff_eq, List.length_take]; omega
theorem n9 {s : ByteArray} {iri fr : Bool} {e : Nat} (h : bt s (e : Int) ≠ 35) : fP s iri fr e = e := by unfold fP; rw [if_neg (fun h' => h h'.2)]
theorem pH {s : ByteArray} {iri : Bool} {e : Nat} (h : bt s (e : Int) ≠ 63) : qP s iri e = e := by unfold qP; rw [if_neg h]
theorem wU (s : ByteArray) (iri fr : Bool) (p : Nat) (hp : p ≤ s.size) (he : aJ [63, 35] ((aa s).drop p) = 0) :
    (decide (fP s iri fr (qP s iri p) = s.size) = (!(decide ((if bt s (p : Int) = 63 then hD (aa s) p else p) < s.size) && !fr) &&
      (bo 6 iri (aa (if bt s (p : Int) = 63 then s.extract (p + 1) (hD (aa s) p) else nil8)) &&
       bo 7 iri (aa (if (if bt s (p : Int) = 63 then hD (aa s) p else p) < s.size then s.extract ((if bt s (p : Int) = 63 then hD (aa s) p else p) + 1) s.size else nil8))))) ∧
    (fP s iri fr (qP s iri p) = s.size → (if bt s (p : Int) = 63 then s.extract (p + 1) (qP s iri p) else nil8) = (if bt s (p : Int) = 63 then s.extract (p + 1) (hD (aa s) p) else nil8) ∧
      decide (fr = true ∧ bt s (qP s iri p : Int) = 35) = decide ((if bt s (p : Int) = 63 then hD (aa s) p else p) < s.size) ∧
      (if fr = true ∧ bt s (qP s iri p : Int) = 35 then s.extract (qP s iri p + 1) (fP s iri fr (qP s iri p)) else nil8) = (if (if bt s (p : Int) = 63 then hD (aa s) p else p) < s.size then s.extract ((if bt s (p : Int) = 63 then hD (aa s) p else p) + 1) s.size else nil8)) := by
  have frag : ∀ f : Nat, f ≤ s.size → (f < s.size → bt s (f : Int) = 35) →
      (decide (fP s iri fr f = s.size) = (!(decide (f < s.size) && !fr) && bo 7 iri (aa (if f < s.size then s.extract (f + 1) s.size else nil8)))) ∧
      (fP s iri fr f = s.size → decide (fr = true ∧ bt s (f : Int) = 35) = decide (f < s.size) ∧ (if fr = true ∧ bt s (f : Int) = 35 then s.extract (f + 1) (fP s iri fr f) else nil8) = (if f < s.size then s.extract (f + 1) s.size else nil8)) := by
    intro f hf h35
    have n7 : bo 7 iri (aa nil8) = true := by
      have : aa nil8 = [] := by decide +kernel
      rw [this, lD]
    rcases Nat.lt_or_ge f s.size with h | h
    · have hb := h35 h
      rw [decide_eq_true h, if_pos h]
      cases fr
      · have e1 : fP s iri false f = f := by unfold fP; rw [if_neg (by simp)]
        rw [e1]
        have : decide (f = s.size) = false := decide_eq_false (by omega)
        rw [this]
        exact ⟨by simp, fun h' => by omega⟩
      · have e1 : fP s iri true f = f + 1 + an 7 iri ((aa s).drop (f + 1)) := by unfold fP; rw [if_pos ⟨rfl, hb⟩]
        have hle := g0 7 iri ((aa s).drop (f + 1))
        rw [List.length_drop, af] at hle
        have e2 : aa (s.extract (f + 1) s.size) = (aa s).drop (f + 1) := aY s (f + 1)
        refine ⟨?_, fun h' => ?_⟩
        · rw [e1, e2]
          unfold bo
          rw [List.length_drop, af, Bool.eq_iff_iff]
          simp
          omega
        · rw [h', decide_eq_true ⟨rfl, hb⟩, if_pos ⟨rfl, hb⟩]
          exact ⟨rfl, rfl⟩
    · have hz := oG s h
      have hne : bt s (f : Int) ≠ 35 := by rw [hz]; decide
      have : decide (f < s.size) = false := decide_eq_false (by omega)
      rw [this, if_neg (by omega), n9 hne, n7]
      have hfs : f = s.size := by omega
      have e3 : decide (fr = true ∧ bt s (f : Int) = 35) = false := decide_eq_false (fun h' => hne h'.2)
      refine ⟨?_, fun _ => ?_⟩
      · rw [decide_eq_true hfs]; simp
      · rw [e3, if_neg (fun h' => hne h'.2)]
        exact ⟨rfl, rfl⟩
  have n6 : bo 6 iri (aa nil8) = true := by
    have : aa nil8 = [] := by decide +kernel
    rw [this, lD]
  by_cases hq : bt s (p : Int) = 63
  · simp only [if_pos hq]
    have hlt := pa (by decide) hq
    have hqe := uk (l := aa s) (p := p) (by rw [af]; exact hlt)
    rw [af] at hqe
    have hn := iU [35] ((aa s).drop (p + 1))
    have eq1 : hD (aa s) p = p + 1 + aJ [35] ((aa s).drop (p + 1)) := rfl
    have hsp := ov 6 iri [35] aah ((aa s).drop (p + 1))
    have hst := mP (p := 6) (iri := iri) (l := (aa s).drop (p + 1)) hn
    have eqb : aa (s.extract (p + 1) (hD (aa s) p)) = ((aa s).drop (p + 1)).take (aJ [35] ((aa s).drop (p + 1))) := by rw [eq1, rb]
    have eqp : qP s iri p = p + 1 + an 6 iri ((aa s).drop (p + 1)) := by unfold qP; rw [if_pos hq]
    rw [hsp] at eqp
    rw [eqb]
    cases h6 : bo 6 iri (((aa s).drop (p + 1)).take (aJ [35] ((aa s).drop (p + 1))))
    · have hlt6 : an 6 iri (((aa s).drop (p + 1)).take (aJ [35] ((aa s).drop (p + 1)))) < aJ [35] ((aa s).drop (p + 1)) := by
        rcases Nat.lt_or_ge (an 6 iri (((aa s).drop (p + 1)).take (aJ [35] ((aa s).drop (p + 1))))) (aJ [35] ((aa s).drop (p + 1))) with h | h
        · exact h
        · have := hst.2.2 (by have := hst.1; omega)
          rw [this] at h6; cases h6
      have hne : bt s (qP s iri p : Int) ≠ 35 := by
        rw [eqp, o5]
        have := k9 hlt6
        simpa using this
      have hfp : fP s iri fr (qP s iri p) = qP s iri p := n9 hne
      have hsz : qP s iri p < s.size := by omega
      have : decide (fP s iri fr (qP s iri p) = s.size) = false := decide_eq_false (by rw [hfp]; omega)
      rw [this]
      refine ⟨by simp, fun h' => ?_⟩
      rw [hfp] at h'
      omega
    · have hfull := hst.2.1 h6
      have eqq : qP s iri p = hD (aa s) p := by rw [eqp, hfull]; exact eq1.symm
      rw [eqq, Bool.true_and]
      have hf := frag (hD (aa s) p) hqe.2 (fun h => by
        have := oN (set := [35]) (l := (aa s).drop (p + 1)) (by rw [List.length_drop, af]; omega)
        rw [eq1, o5]
        simpa using this)
      exact ⟨hf.1, fun h => ⟨rfl, hf.2 h⟩⟩
  · simp only [if_neg hq]
    rw [pH hq, n6, Bool.true_and]
    have hf := frag p hp (fun h => by
      have := oN (set := [63, 35]) (l := (aa s).drop p) (by rw [he, List.length_drop, af]; omega)
      rw [he, ← o5, Nat.add_zero] at this
      simp only [List.mem_cons, List.mem_nil_iff, or_false] at this
      exact this.resolve_left hq)
    exact ⟨hf.1, fun h => ⟨trivial, hf.2 h⟩⟩
theorem tz (set : List Int) (l : List Int) : aJ set (l.drop (aJ set l)) = 0 := by
  rcases nX set l with h | ⟨b, t, h, hb⟩
  · rw [h]; rfl
  · rw [h, mh]
    have : set.contains b = true := by simpa using hb
    rw [if_pos this]
theorem wL (s : ByteArray) (iri fr ns : Bool) (c : Nat) (hc : c ≤ s.size) (e : Nat) (he : e = fH (aa s) (bj s c)) (f : Nat) (hf : f = if bt s (e : Int) = 63 then hD (aa s) e else e) :
    (jt s iri fr ns c = ((!d4 s c || gb iri (bA (ki s c))) && (!(decide (f < s.size) && !fr) && (jJ iri ns (d4 s c) (aa (s.extract (bj s c) e)) &&
      (bo 6 iri (aa (if bt s (e : Int) = 63 then s.extract (e + 1) (hD (aa s) e) else nil8)) && bo 7 iri (aa (if f < s.size then s.extract (f + 1) s.size else nil8))))))) ∧
    (jt s iri fr ns c = true → ∀ sch, oo s iri fr c sch = (sch, d4 s c, ki s c, s.extract (bj s c) e, decide (bt s (e : Int) = 63), if bt s (e : Int) = 63 then s.extract (e + 1) (hD (aa s) e) else nil8, decide (f < s.size), if f < s.size then s.extract (f + 1) s.size else nil8)) := by
  have hp := pK s c hc
  have hn := iU [63, 35] ((aa s).drop (bj s c))
  have eE : e = bj s c + aJ [63, 35] ((aa s).drop (bj s c)) := he
  have hel : e ≤ s.size := by rw [List.length_drop, af] at hn; omega
  have hpb : aa (s.extract (bj s c) e) = ((aa s).drop (bj s c)).take (aJ [63, 35] ((aa s).drop (bj s c))) := by rw [eE, rb]
  have h5 := ov 5 iri [63, 35] (yy 5 (.inr rfl)) ((aa s).drop (bj s c))
  have h4 := ov 4 iri [63, 35] (yy 4 (.inl rfl)) ((aa s).drop (bj s c))
  have s5 := mP (p := 5) (iri := iri) (l := (aa s).drop (bj s c)) hn
  have s4 := mP (p := 4) (iri := iri) (l := (aa s).drop (bj s c)) hn
  have eRE : fG s iri c = bj s c + an 5 iri (((aa s).drop (bj s c)).take (aJ [63, 35] ((aa s).drop (bj s c)))) := by unfold fG; rw [h5]
  unfold jt
  cases ha5 : bo 5 iri (aa (s.extract (bj s c) e))
  · have hlt : an 5 iri (((aa s).drop (bj s c)).take (aJ [63, 35] ((aa s).drop (bj s c)))) < aJ [63, 35] ((aa s).drop (bj s c)) := by
      rcases Nat.lt_or_ge (an 5 iri (((aa s).drop (bj s c)).take (aJ [63, 35] ((aa s).drop (bj s c))))) (aJ [63, 35] ((aa s).drop (bj s c))) with h | h
      · exact h
      · have := s5.2.2 (by have := s5.1; omega)
        rw [← hpb, ha5] at this; cases this
    have hno := k9 hlt
    rw [← o5, ← eRE] at hno
    simp only [List.mem_cons, List.mem_nil_iff, or_false, not_or] at hno
    have hq := pH (iri := iri) hno.1
    have hfp := n9 (iri := iri) (fr := fr) hno.2
    have hlt2 : fG s iri c < s.size := by rw [List.length_drop, af] at hn; omega
    have : decide (fP s iri fr (qP s iri (fG s iri c)) = s.size) = false := decide_eq_false (by rw [hq, hfp]; omega)
    rw [this]
    have hpl : jJ iri ns (d4 s c) (aa (s.extract (bj s c) e)) = false := by unfold jJ; rw [ha5]; rfl
    rw [hpl]
    simp
  · rw [hpb] at ha5
    have hfull := s5.2.1 ha5
    have eRe : fG s iri c = e := by rw [eRE, hfull, eE]
    have hag := tz [63, 35] ((aa s).drop (bj s c))
    rw [List.drop_drop, ← eE] at hag
    have tl := wU s iri fr e hel hag
    rw [← hf] at tl
    rw [eRe, tl.1]
    have hcol : (!jP ns (d4 s c) iri ((aa s).drop (bj s c)) && j7 (d4 s c) (aa (s.extract (bj s c) e))) = jJ iri ns (d4 s c) (aa (s.extract (bj s c) e)) := by
      have hg : (((aa s).drop (bj s c)).getD (an 4 iri ((aa s).drop (bj s c))) 0 == 58) = ((aa (s.extract (bj s c) e)).getD (an 4 iri (aa (s.extract (bj s c) e))) 0 == 58) := by
        rw [h4, hpb]
        generalize hm : an 4 iri (((aa s).drop (bj s c)).take (aJ [63, 35] ((aa s).drop (bj s c)))) = m at s4
        rcases Nat.lt_or_ge m (aJ [63, 35] ((aa s).drop (bj s c))) with h | h
        · congr 1
          rw [List.getD_eq_getElem?_getD, List.getD_eq_getElem?_getD, List.getElem?_take_of_lt h]
        · have hmn : m = aJ [63, 35] ((aa s).drop (bj s c)) := by omega
          have e2 : (((aa s).drop (bj s c)).take (aJ [63, 35] ((aa s).drop (bj s c)))).getD m 0 = 0 := by
            rw [List.getD_eq_getElem?_getD, List.getElem?_eq_none (by rw [List.length_take]; omega)]; rfl
          rw [e2]
          rcases Nat.lt_or_ge m ((aa s).drop (bj s c)).length with hl | hl
          · have := oN (set := [63, 35]) (l := (aa s).drop (bj s c)) (by omega)
            rw [← hmn] at this
            simp only [List.mem_cons, List.mem_nil_iff, or_false] at this
            rcases this with h' | h' <;> rw [h'] <;> decide
          · rw [List.getD_eq_getElem?_getD, List.getElem?_eq_none hl]; decide
      unfold jP j7 jJ
      rw [hg, hpb, ha5, ← hpb]
      cases d4 s c <;> cases ns <;> simp [Bool.and_comm]
    refine ⟨?_, fun hok sch => ?_⟩
    · rw [← hcol]
      cases (!d4 s c || gb iri (bA (ki s c))) <;> cases (!(decide (f < s.size) && !fr)) <;> cases (!jP ns (d4 s c) iri ((aa s).drop (bj s c))) <;> simp
    · have hfe : fP s iri fr (qP s iri e) = s.size := by
        rw [← tl.1] at hok
        simp only [Bool.and_eq_true, decide_eq_true_iff] at hok
        exact hok.2.2.2
      have t2 := tl.2 hfe
      unfold oo
      rw [eRe, t2.1, t2.2.1, t2.2.2]
def iC (kind : Int) (s : ByteArray) : Bool := oc kind (bk s).1 (bk s).2.1 (bk s).2.2.1 (bk s).2.2.2.1 (bk s).2.2.2.2.2.1 (bk s).2.2.2.2.2.2.1 (bk s).2.2.2.2.2.2.2
theorem zk (s : ByteArray) : d4 s (pC (aa s)) = cA (aa s) := rfl
theorem zl (s : ByteArray) : bj s (pC (aa s)) = pP (aa s) := rfl
theorem qo (s : ByteArray) (kind : Int) (ns : Bool) (sch : ByteArray) (hsch : sch = (bk s).1) (hns : ns = (aa sch == [])) (hk : (if aa sch = [] then kind == 2 || kind == 5 else gZ (aa sch)) = true) :
    (jt s (decide (kind ≥ 4)) (kind != 3) ns (pC (aa s)) = iC kind s) ∧ (jt s (decide (kind ≥ 4)) (kind != 3) ns (pC (aa s)) = true → oo s (decide (kind ≥ 4)) (kind != 3) (pC (aa s)) sch = bk s) := by
  have hC := uW (aa s)
  rw [af] at hC
  have e63 : ∀ x : Int, decide (x = 63) = (x == 63) := fun x => by rw [Bool.eq_iff_iff, decide_eq_true_iff, beq_iff_eq]
  have hf : pF (aa s) = if bt s (fH (aa s) (pP (aa s)) : Int) = 63 then hD (aa s) (fH (aa s) (pP (aa s))) else fH (aa s) (pP (aa s)) := by
    unfold pF cQ
    rw [gU]
    by_cases h : bt s (fH (aa s) (pP (aa s)) : Int) = 63
    · rw [if_pos h, if_pos (beq_iff_eq.2 h)]
    · rw [if_neg h, if_neg (by rw [beq_iff_eq]; exact h)]
  have h := wL s (decide (kind ≥ 4)) (kind != 3) ns (pC (aa s)) hC (fH (aa s) (pP (aa s))) rfl (pF (aa s)) hf
  have hU : ki s (pC (aa s)) = (bk s).2.2.1 := rfl
  have hQ : decide (bt s (fH (aa s) (pP (aa s)) : Int) = 63) = cQ (aa s) := by unfold cQ; rw [gU, e63]
  have hq : (if bt s (fH (aa s) (pP (aa s)) : Int) = 63 then s.extract (fH (aa s) (pP (aa s)) + 1) (hD (aa s) (fH (aa s) (pP (aa s)))) else nil8) = (bk s).2.2.2.2.2.1 := by
    show _ = if cQ (aa s) = true then s.extract (fH (aa s) (pP (aa s)) + 1) (pF (aa s)) else nil8
    by_cases h : bt s (fH (aa s) (pP (aa s)) : Int) = 63
    · have hc : cQ (aa s) = true := by rw [← hQ]; exact decide_eq_true h
      rw [if_pos h, if_pos hc, hf, if_pos h]
    · have hc : cQ (aa s) = false := by rw [← hQ]; exact decide_eq_false h
      rw [if_neg h, hc]; rfl
  have hF : decide (pF (aa s) < s.size) = cF (aa s) := by unfold cF; rw [af]
  have hfr : (if pF (aa s) < s.size then s.extract (pF (aa s) + 1) s.size else nil8) = (bk s).2.2.2.2.2.2.2 := by
    show _ = if cF (aa s) = true then s.extract (pF (aa s) + 1) s.size else nil8
    by_cases h : pF (aa s) < s.size
    · rw [if_pos h, if_pos (by rw [← hF]; exact decide_eq_true h)]
    · have hc : cF (aa s) = false := by rw [← hF]; exact decide_eq_false h
      rw [if_neg h, hc]; rfl
  rw [hq, hfr, hQ, hF, hU, zk, zl] at h
  refine ⟨?_, fun hok => ?_⟩
  · rw [h.1]
    unfold iC oc
    rw [← hsch, hk, hns]
    have e3 : (cF (aa s) && !(kind != 3)) = (cF (aa s) && kind == 3) := by rw [bne, Bool.not_not]
    rw [e3]
    cases hc : cF (aa s) && kind == 3
    · have : ((bk s).2.2.2.2.2.2.1 && kind == 3) = false := hc
      rw [this, Bool.true_and]
      show _ = (true && ((!cA (aa s) || _) && _))
      simp
      rfl
    · have : ((bk s).2.2.2.2.2.2.1 && kind == 3) = true := hc
      rw [this]
      simp
  · rw [h.2 hok sch, hsch]
    rfl
theorem wu (s : ByteArray) (iri fr : Bool) (h : cS (aa s) = true) : jt s iri fr true 0 = false := by
  unfold cS at h
  rw [Bool.and_eq_true, decide_eq_true_iff, beq_iff_eq] at h
  have hlt := ls (by decide) h.2
  have hsz := hlt
  rw [af] at hsz
  have h0 := k9 (set := [58, 47, 63, 35]) (l := aa s) (m := 0) h.1
  have hA : d4 s 0 = false := by
    unfold d4
    rw [List.drop_zero, beq_eq_false_iff_ne]
    intro h2
    have : (aa s).getD 0 0 = 47 := by
      cases e : aa s with
      | nil => rw [e] at h2; simp at h2
      | cons b t =>
        rw [e] at h2
        cases t with
        | nil => simp at h2
        | cons c u => simp at h2; simp [h2.1]
    rw [this] at h0
    simp at h0
  have hP : bj s 0 = 0 := by unfold bj; rw [hA]; rfl
  have hd : (aa s).drop (pI (aa s)) = 58 :: (aa s).drop (pI (aa s) + 1) := by
    rw [ji hsz, ← gU, h.2]
  have e4 : an 4 iri (aa s) = an 4 iri ((aa s).take (pI (aa s))) := by
    conv => lhs; rw [jM [58, 47, 63, 35] (aa s)]
    have hd' : (aa s).drop (aJ [58, 47, 63, 35] (aa s)) = 58 :: (aa s).drop (pI (aa s) + 1) := hd
    rw [hd']
    exact pN 4 iri 58 _ (by decide) (by decide) (by decide) (by decide) (by decide) _ _ rfl
  have hle4 := g0 4 iri ((aa s).take (pI (aa s)))
  rw [List.length_take] at hle4
  unfold jt
  rw [hA, hP, List.drop_zero]
  by_cases hcol : (aa s).getD (an 4 iri (aa s)) 0 = 58
  · have : jP true false iri (aa s) = true := by unfold jP; rw [hcol]; rfl
    rw [this]; simp
  · have hm : an 4 iri (aa s) < pI (aa s) := by
      rcases Nat.lt_or_ge (an 4 iri (aa s)) (pI (aa s)) with h' | h'
      · exact h'
      · have : an 4 iri (aa s) = pI (aa s) := by omega
        rw [this] at hcol
        exact absurd h.2 hcol
    have hno := k9 (set := [58, 47, 63, 35]) (l := aa s) hm
    have hz4 : aT 4 iri ((aa s).drop (an 4 iri (aa s))) = 0 := by
      have h1 := jy (p := 4) (q := 4) (iri := iri) ⟨by decide, fun _ hr => hr⟩ _ (aa s) rfl
      exact (ig 4 iri _).1 (by omega)
    have hz5 : aT 5 iri ((aa s).drop (an 4 iri (aa s))) = 0 := by
      by_cases h5 : aT 5 iri ((aa s).drop (an 4 iri (aa s))) = 0
      · exact h5
      · exfalso
        obtain ⟨t, ht⟩ := j8 (fun b hb => lF s b (List.mem_of_mem_drop hb)) hz4 h5
        have hg : (aa s).getD (an 4 iri (aa s)) 0 = ((aa s).drop (an 4 iri (aa s))).getD 0 0 := by
          rw [List.getD_eq_getElem?_getD, List.getD_eq_getElem?_getD, List.getElem?_drop, Nat.add_zero]
        rw [hg] at hno
        rcases ht with ht | ht <;> (rw [ht] at hno; simp at hno)
    have e5 : an 5 iri (aa s) = an 4 iri (aa s) := by
      rw [jy (oz iri) _ (aa s) rfl, (ig 5 iri _).2 hz5, Nat.add_zero]
    have hE : fG s iri 0 = an 4 iri (aa s) := by unfold fG; rw [hP, List.drop_zero, e5, Nat.zero_add]
    rw [hE]
    rw [gU] at hno
    simp only [List.mem_cons, List.mem_nil_iff, or_false, not_or] at hno
    have hq := pH (iri := iri) hno.2.2.1
    have hfp := n9 (iri := iri) (fr := fr) hno.2.2.2
    have : decide (fP s iri fr (qP s iri (an 4 iri (aa s))) = s.size) = false := decide_eq_false (by rw [hq, hfp]; omega)
    rw [this]; simp
theorem wB (kind : Int) (h1 : 1 ≤ kind) (h5 : kind ≤ 5) (s : ByteArray) : rL kind s = if iC kind s = true then pR (bk s) else no9 := by
  have hI := rJ (aa s)
  rw [af] at hI
  unfold rL
  cases hc : cS (aa s)
  ·
    have hok : okS (aa s) = false := by unfold okS; rw [hc]; rfl
    have hC0 : pC (aa s) = 0 := by unfold pC; rw [hc]; rfl
    have hs1 : (bk s).1 = nil8 := by show (if cS (aa s) = true then _ else nil8) = _; rw [hc]; rfl
    have hn : aa nil8 = [] := by decide +kernel
    rw [hok]
    simp only [Bool.false_eq_true, if_false]
    by_cases hk : kind = 2 ∨ kind = 5
    · have h := qo s kind true nil8 hs1.symm (by rw [hn]; rfl) (by rw [if_pos hn]; rcases hk with rfl | rfl <;> decide)
      rw [hC0] at h
      rw [if_pos hk, h.1]
      cases hm : iC kind s
      · rfl
      · rw [if_pos rfl, if_pos rfl, h.2 (by rw [h.1]; exact hm)]
    · rw [if_neg hk]
      have : iC kind s = false := by
        unfold iC oc
        rw [hs1, if_pos hn]
        have e2 : (kind == 2) = false := beq_eq_false_iff_ne.2 (fun h => hk (.inl h))
        have e5 : (kind == 5) = false := beq_eq_false_iff_ne.2 (fun h => hk (.inr h))
        rw [e2, e5]; rfl
      rw [this]; rfl
  · have hlt : pI (aa s) < s.size ∧ 0 < pI (aa s) := by
      have h := hc
      unfold cS at h
      rw [Bool.and_eq_true, decide_eq_true_iff, beq_iff_eq] at h
      have := ls (by decide) h.2
      rw [af] at this
      exact ⟨this, h.1⟩
    have hs1 : (bk s).1 = s.extract 0 (pI (aa s)) := by show (if cS (aa s) = true then _ else nil8) = _; rw [hc]; rfl
    have hne : aa (s.extract 0 (pI (aa s))) ≠ [] := by
      rw [nT]
      intro h
      have hl : ((aa s).take (pI (aa s))).length = 0 := by rw [h]; rfl
      rw [List.length_take, af] at hl
      omega
    cases hsl : gZ ((aa s).take (pI (aa s)))
    · have hok : okS (aa s) = false := by unfold okS; rw [hsl, Bool.and_false]
      have : iC kind s = false := by
        unfold iC oc
        rw [hs1, if_neg hne, nT, hsl]; rfl
      rw [hok, this]
      simp only [Bool.false_eq_true, if_false]
      split
      · rw [wu s _ _ hc]; rfl
      · rfl
    · have hok : okS (aa s) = true := by unfold okS; rw [hc, hsl]; rfl
      have hC : pC (aa s) = pI (aa s) + 1 := by unfold pC; rw [hc]; rfl
      have h := qo s kind (aa (s.extract 0 (pI (aa s))) == []) (s.extract 0 (pI (aa s))) hs1.symm rfl (by rw [if_neg hne, nT]; exact hsl)
      rw [hC] at h
      rw [hok, if_pos rfl, h.1]
      cases hm : iC kind s
      · rfl
      · rw [if_pos rfl, if_pos rfl, h.2 (by rw [h.1]; exact hm)]
end Go.Proofs.YtpmflpeckoeooaaGreatDoor.Y
namespace Go.Proofs.YtpmflpeckoeooaaGreatDoor.X
open Go.RowKit Go.Proofs.YtpmflpeckoeooaaGreatDoorW.PrintWords Go.Proofs.YtpmflpeckoeooaaGreatDoorW.PrintLast Go.Proofs.YtpmflpeckoeooaaGreatDoorW.PrintMore
attribute [local go_sem] dK cY fS ip cT gD cg gy gA ik il fL fM gz gB
mutual
def monikerref22_Parse.j0 : Nat → Int → ByteArray → Bool → Option (ByteArray × Bool × ByteArray × ByteArray × Bool × ByteArray × Bool × ByteArray × Int)
  | 0, _, _, _ => none
  | k + 1, x0, x1, x12 => if x12 = true then (some ((⟨#[]⟩ : ByteArray), false, (⟨#[]⟩ : ByteArray), (⟨#[]⟩ : ByteArray), false, (⟨#[]⟩ : ByteArray), false, (⟨#[]⟩ : ByteArray), 1)) else (if (x1.size : Int) > 65535 then (some ((⟨#[]⟩ : ByteArray), false, (⟨#[]⟩ : ByteArray), (⟨#[]⟩ : ByteArray), false, (⟨#[]⟩ : ByteArray), false, (⟨#[]⟩ : ByteArray), 2)) else (if x0 ≥ 4 then ((fZ k x1).bind fun t759 => (monikerref22_Parse.j1 k x0 x1 (decide (t759 ≥ 0)))) else (monikerref22_Parse.j1 k x0 x1 false)))
def monikerref22_Parse.j1 : Nat → Int → ByteArray → Bool → Option (ByteArray × Bool × ByteArray × ByteArray × Bool × ByteArray × Bool × ByteArray × Int)
  | 0, _, _, _ => none
  | k + 1, x0, x1, Ac => if Ac = true then (some ((⟨#[]⟩ : ByteArray), false, (⟨#[]⟩ : ByteArray), (⟨#[]⟩ : ByteArray), false, (⟨#[]⟩ : ByteArray), false, (⟨#[]⟩ : ByteArray), 3)) else ((og k x1).bind fun Aa => ((dR k x0 Aa.1 Aa.2.1 Aa.2.2.1 Aa.2.2.2.1 Aa.2.2.2.2.1 Aa.2.2.2.2.2.1 Aa.2.2.2.2.2.2.1 Aa.2.2.2.2.2.2.2).bind fun Ab => (if Ab = true then (some (Aa.1, Aa.2.1, Aa.2.2.1, Aa.2.2.2.1, Aa.2.2.2.2.1, Aa.2.2.2.2.2.1, Aa.2.2.2.2.2.2.1, Aa.2.2.2.2.2.2.2, 0)) else (some ((⟨#[]⟩ : ByteArray), false, (⟨#[]⟩ : ByteArray), (⟨#[]⟩ : ByteArray), false, (⟨#[]⟩ : ByteArray), false, (⟨#[]⟩ : ByteArray), 4)))))
end
end Go.Proofs.YtpmflpeckoeooaaGreatDoor.X
namespace Go.Proofs.YtpmflpeckoeooaaGreatDoor.Y
open Go.RowKit Go.Proofs.YtpmflpeckoeooaaGreatDoor.X Go.Proofs.YtpmflpeckoeooaaGreatDoor.M Go.Proofs.YtpmflpeckoeooaaGreatDoorW.PrintWords Go.Proofs.YtpmflpeckoeooaaGreatDoorW.PrintLast Go.Proofs.YtpmflpeckoeooaaGreatDoorW.PrintMore
abbrev rN := ByteArray × Bool × ByteArray × ByteArray × Bool × ByteArray × Bool × ByteArray × Int
def my (e : Int) : rN := (nil8, false, nil8, nil8, false, nil8, false, nil8, e)
def ok9 (p : fo) : rN := (p.1, p.2.1, p.2.2.1, p.2.2.2.1, p.2.2.2.2.1, p.2.2.2.2.2.1, p.2.2.2.2.2.2.1, p.2.2.2.2.2.2.2, 0)
def i8 (kind : Int) (s : ByteArray) : rN :=
  if kind < 1 ∨ 5 < kind then my 1 else if 65535 < s.size then my 2 else if 4 ≤ kind ∧ ms (aa s) = false then my 3
  else if iC kind s = true then ok9 (bk s) else my 4
theorem xM (kind : Int) (h1 : 1 ≤ kind) (h5 : kind ≤ 5) (s : ByteArray) (hs : s.size ≤ 1000000) (x : Bool) :
    Ev (fun k => dj k kind s x) (if x = true then my 3 else if iC kind s = true then ok9 (bk s) else my 4) := by
  refine Ev.step (fun k => by rw [dj]) ?_
  cases x
  · refine ae (by simp) (ai (zN kind h1 h5 s hs) ?_)
    rw [wB kind h1 h5 s]
    cases hm : iC kind s
    · exact ae (by simp [no9]) (Ev.val (by simp [my]))
    · exact ab (by simp [pR]) (Ev.val (by simp [ok9, pR]))
  · exact ab rfl (Ev.val (by simp [my]))
theorem xL (kind : Int) (s : ByteArray) : Ev (fun k => e9 k kind s) (i8 kind s) := by
  have bad : Ev (fun k => cJ k kind s true) (my 1) := by
    refine Ev.step (fun k => by rw [cJ]) ?_
    exact ab rfl (Ev.val rfl)
  unfold e9 i8
  by_cases h1 : kind < 1
  · rw [if_pos (.inl h1)]; exact ab h1 bad
  · refine ae h1 ?_
    by_cases h5 : 5 < kind
    · rw [if_pos (.inr h5), decide_eq_true (show kind > 5 from h5)]; exact bad
    · rw [if_neg (by omega), decide_eq_false (show ¬ kind > 5 from h5)]
      refine Ev.step (fun k => by rw [cJ]) ?_
      refine ae (by simp) ?_
      by_cases hs : 65535 < s.size
      · rw [if_pos hs]; exact ab (by omega) (Ev.val rfl)
      · rw [if_neg hs]
        refine ae (by omega) (bD (uf (by omega) (by omega)) ?_)
        have hj := xM kind (by omega) (by omega) s (by omega)
        by_cases h4 : 4 ≤ kind
        · refine ab (decide_eq_true h4) (ai (zq s (by omega)) ?_)
          have h := hj (!ms (aa s))
          cases hw : ms (aa s)
          · rw [if_pos ⟨h4, rfl⟩]; rw [hw] at h; exact h
          · rw [if_neg (by simp)]; rw [hw] at h; exact h
        · refine ae (by rw [decide_eq_true_iff]; omega) ?_
          rw [if_neg (by omega)]
          exact hj false
end Go.Proofs.YtpmflpeckoeooaaGreatDoor.Y
namespace Go.Proofs.YtpmflpeckoeooaaGreatDoor.Y
open Go.RowKit Go.Proofs.YtpmflpeckoeooaaGreatDoor.X Go.Proofs.YtpmflpeckoeooaaGreatDoor.M Go.Proofs.YtpmflpeckoeooaaGreatDoorW.PrintWords Go.Proofs.YtpmflpeckoeooaaGreatDoorW.PrintLast Go.Proofs.YtpmflpeckoeooaaGreatDoorW.PrintMore
set_option maxRecDepth 100000 in
theorem mX : Ev (fun k => b8 k) true := mg (fun k => mT k) (k := 60) (by decide +kernel)
end Go.Proofs.YtpmflpeckoeooaaGreatDoor.Y
namespace Go.Proofs.YtpmflpeckoeooaaGreatDoor.M
open Go Go.RowKit Go.Proofs.YtpmflpeckoeooaaGreatDoorW.PrintWords
theorem kJ {set a : List Int} (h : ∀ b ∈ a, b ∉ set) (l : List Int) : aJ set (a ++ l) = a.length + aJ set l := by
  induction a with
  | nil => simp
  | cons b t ih =>
    have hb : set.contains b = false := by
      have := h b List.mem_cons_self
      rw [← Bool.not_eq_true, List.contains_iff_mem]; exact this
    rw [List.cons_append, mh, hb, ih (fun c hc => h c (List.mem_cons_of_mem _ hc)), List.length_cons]
    simp; omega
def ny (set l : List Int) : Prop := l = [] ∨ ∃ b t, l = b :: t ∧ b ∈ set
theorem kc {set l : List Int} (h : ny set l) : aJ set l = 0 := by
  rcases h with rfl | ⟨b, t, rfl, hb⟩
  · rfl
  · rw [mh, if_pos (List.contains_iff_mem.2 hb)]
def du (hf : Bool) (f : List Int) : List Int := if hf then 35 :: f else []
def b5 (hq : Bool) (q : List Int) : List Int := if hq then 63 :: q else []
def dL (ha : Bool) (aut : List Int) : List Int := if ha then 47 :: 47 :: aut else []
def eG (sch : List Int) : List Int := if sch = [] then [] else sch ++ [58]
def cZ (sch : List Int) (ha : Bool) (aut pth : List Int) (hq : Bool) (q : List Int) (hf : Bool) (f : List Int) : List Int :=
  eG sch ++ (dL ha aut ++ (pth ++ (b5 hq q ++ du hf f)))
theorem vW (hf : Bool) (f : List Int) : ny [35] (du hf f) := by
  cases hf
  · exact .inl rfl
  · exact .inr ⟨35, f, rfl, by simp⟩
theorem nt (hq : Bool) (q : List Int) (hf : Bool) (f : List Int) : ny [63, 35] (b5 hq q ++ du hf f) := by
  cases hq
  · cases hf
    · exact .inl rfl
    · exact .inr ⟨35, f, rfl, by simp⟩
  · exact .inr ⟨63, _, rfl, by simp⟩
theorem ra {set yb l : List Int} (h : ny set l) (hs : ∀ b ∈ set, b ∈ yb) : ny yb l := by
  rcases h with h | ⟨b, t, e, hb⟩
  · exact .inl h
  · exact .inr ⟨b, t, e, hs b hb⟩
structure Fit (sch : List Int) (ha : Bool) (aut pth q : List Int) : Prop where
  sch_free : ∀ b ∈ sch, b ∉ ([58, 47, 63, 35] : List Int)
  aut_free : ha = true → ∀ b ∈ aut, b ∉ ([47, 63, 35] : List Int)
  pth_slash : ha = true → ny [47] pth
  pth_no : ha = false → pth.take 2 ≠ [47, 47]
  pth_free : ∀ b ∈ pth, b ∉ ([63, 35] : List Int)
  q_free : ∀ b ∈ q, b ∉ ([35] : List Int)
  colon : sch = [] → ha = false → pth.getD (aJ [58, 47] pth) 0 ≠ 58
theorem zT {pth T : List Int} (h : pth.take 2 ≠ [47, 47]) (hT : ny [63, 35] T) : (pth ++ T).take 2 ≠ [47, 47] := by
  have hd : ∀ t : List Int, T ≠ 47 :: t := by
    intro t ht
    rcases hT with e | ⟨b, u, e, hb⟩
    · rw [e] at ht; cases ht
    · rw [e] at ht; injection ht with h1 h2; subst h1; simp at hb
  intro hh
  match pth with
  | [] =>
    cases T with
    | nil => simp at hh
    | cons b u => simp at hh; exact hd u (by rw [hh.1])
  | [a] =>
    cases T with
    | nil => simp at hh
    | cons b u => simp at hh; exact hd u (by rw [hh.2])
  | a :: b :: u => exact h (by simpa using hh)
theorem o8 (X Y : List Int) (n : Nat) (h : n = X.length) : (X ++ Y).getD n 0 = Y.headD 0 := by
  subst h
  rw [List.getD_eq_getElem?_getD, List.getElem?_append_right (Nat.le_refl _), Nat.sub_self]
  cases Y <;> rfl
theorem mid {X Y Z : List Int} {i j : Nat} (hi : i = X.length) (hj : j = X.length + Y.length) : ((X ++ (Y ++ Z)).take j).drop i = Y := by
  subst hi; subst hj
  rw [← List.append_assoc, List.take_append_of_le_length (by rw [List.length_append]; exact Nat.le_refl _), List.take_of_length_le (by rw [List.length_append]; exact Nat.le_refl _), List.drop_left]
theorem aae {pth T : List Int} (hp : ∀ b ∈ pth, b ∉ ([63, 35] : List Int)) (hT : ny [63, 35] T) (h : pth.getD (aJ [58, 47] pth) 0 ≠ 58) : cS (pth ++ T) = false := by
  have hT4 : ny [58, 47, 63, 35] T := ra hT (by intro b hb; simp at hb ⊢; omega)
  have free : ∀ b, b ∉ ([58, 47] : List Int) → b ∉ ([63, 35] : List Int) → b ∉ ([58, 47, 63, 35] : List Int) := by
    intro b h1 h2 h3; simp at h1 h2 h3; omega
  have hn := pT [58, 47] pth
  rcases nX [58, 47] pth with e | ⟨b, t, e, hb⟩
  · have hl : aJ [58, 47] pth = pth.length := by
      have h1 := iU [58, 47] pth
      have h2 := congrArg List.length e
      rw [List.length_drop] at h2
      simp at h2; omega
    have hI : pI (pth ++ T) = pth.length := by
      unfold pI
      rw [kJ (fun c hc => free c (hn c (by rw [hl, List.take_length]; exact hc)) (hp c hc)), kc hT4]
      rfl
    unfold cS
    rw [hI, o8 pth T _ rfl]
    have : (T.headD 0 == 58) = false := by
      rw [beq_eq_false_iff_ne]
      rcases hT with e | ⟨b, t, e, hb⟩
      · rw [e]; decide
      · rw [e]; simp at hb; show b ≠ 58; omega
    rw [this, Bool.and_false]
  · have hspl := jM [58, 47] pth
    have hI : pI (pth ++ T) = aJ [58, 47] pth := by
      unfold pI
      conv => lhs; rw [hspl, e, List.append_assoc]
      rw [kJ (fun c hc => free c (hn c hc) (hp c (List.mem_of_mem_take hc))), List.cons_append, kc (.inr ⟨b, t ++ T, rfl, by simp at hb ⊢; omega⟩), List.length_take]
      have := iU [58, 47] pth
      omega
    have hlt : aJ [58, 47] pth < pth.length := by
      have h2 := congrArg List.length e
      rw [List.length_drop] at h2
      simp at h2; omega
    unfold cS
    rw [hI, List.getD_eq_getElem?_getD, List.getElem?_append_left hlt, ← List.getD_eq_getElem?_getD, beq_eq_false_iff_ne.2 h, Bool.and_false]
section
variable {sch : List Int} {ha : Bool} {aut pth : List Int} {hq : Bool} {q : List Int} {hf : Bool} {f : List Int}
theorem qF (F : Fit sch ha aut pth q) : cS (cZ sch ha aut pth hq q hf f) = !(sch == []) ∧ pC (cZ sch ha aut pth hq q hf f) = (eG sch).length ∧ (sch ≠ [] → pI (cZ sch ha aut pth hq q hf f) = sch.length) := by
  have hT := nt hq q hf f
  cases hsch : sch with
  | nil =>
    have hc : cS (cZ [] ha aut pth hq q hf f) = false := by
      show cS (dL ha aut ++ (pth ++ (b5 hq q ++ du hf f))) = false
      cases hha : ha
      · show cS (pth ++ (b5 hq q ++ du hf f)) = false
        exact aae F.pth_free hT (F.colon hsch hha)
      · rfl
    refine ⟨by rw [hc]; rfl, ?_, fun h => absurd rfl h⟩
    unfold pC
    rw [hc]; rfl
  | cons b t =>
    rw [← hsch]
    have hne : sch ≠ [] := by rw [hsch]; simp
    have e : cZ sch ha aut pth hq q hf f = sch ++ (58 :: (dL ha aut ++ (pth ++ (b5 hq q ++ du hf f)))) := by
      unfold cZ eG
      rw [if_neg hne, List.append_assoc]; rfl
    have hI : pI (cZ sch ha aut pth hq q hf f) = sch.length := by
      unfold pI
      rw [e, kJ F.sch_free, kc (.inr ⟨58, _, rfl, by simp⟩)]
      rfl
    have hc : cS (cZ sch ha aut pth hq q hf f) = true := by
      unfold cS
      rw [hI, e, o8 _ _ _ rfl]
      have : 0 < sch.length := by rw [hsch]; simp
      rw [decide_eq_true this]; rfl
    refine ⟨by rw [hc, beq_eq_false_iff_ne.2 hne]; rfl, ?_, fun _ => hI⟩
    unfold pC eG
    rw [hc, if_pos rfl, hI, if_neg hne, List.length_append]; rfl
theorem lJ (X Y : List Int) : (X ++ Y).drop X.length = Y := List.drop_left
theorem t6 (F : Fit sch ha aut pth q) : cA (cZ sch ha aut pth hq q hf f) = ha := by
  unfold cA
  rw [(qF F).2.1]
  unfold cZ
  rw [lJ]
  cases hha : ha
  · show ((pth ++ (b5 hq q ++ du hf f)).take 2 == [47, 47]) = false
    exact beq_eq_false_iff_ne.2 (zT (F.pth_no hha) (nt hq q hf f))
  · rfl
theorem rj (F : Fit sch ha aut pth q) (h : ha = true) : g7 (cZ sch ha aut pth hq q hf f) (eG sch).length = (eG sch).length + (dL ha aut).length := by
  have hT := nt hq q hf f
  subst h
  unfold g7 cZ
  have e : (eG sch ++ (dL true aut ++ (pth ++ (b5 hq q ++ du hf f)))).drop ((eG sch).length + 2) = aut ++ (pth ++ (b5 hq q ++ du hf f)) := by
    rw [← List.drop_drop, lJ]; rfl
  have hE : ny [47, 63, 35] (pth ++ (b5 hq q ++ du hf f)) := by
    rcases F.pth_slash rfl with e1 | ⟨b, t, e1, hb⟩
    · rw [e1]; exact ra hT (by intro b hb; simp at hb ⊢; omega)
    · rw [e1]; exact .inr ⟨b, _, rfl, by simp at hb ⊢; omega⟩
  rw [e, kJ (F.aut_free rfl), kc hE]
  show _ = _ + (47 :: 47 :: aut).length
  simp; omega
theorem ub (F : Fit sch ha aut pth q) : pP (cZ sch ha aut pth hq q hf f) = (eG sch).length + (dL ha aut).length := by
  unfold pP
  rw [t6 F, (qF F).2.1]
  cases hha : ha
  · rfl
  · rw [← hha, rj F hha, hha]; rfl
theorem rk : (cZ sch ha aut pth hq q hf f).drop ((eG sch).length + (dL ha aut).length) = pth ++ (b5 hq q ++ du hf f) := by
  unfold cZ
  rw [← List.drop_drop, lJ, lJ]
theorem oT (F : Fit sch ha aut pth q) : fH (cZ sch ha aut pth hq q hf f) (pP (cZ sch ha aut pth hq q hf f)) = (eG sch).length + (dL ha aut).length + pth.length := by
  unfold fH
  rw [ub F, rk, kJ F.pth_free, kc (nt hq q hf f)]
  rfl
theorem sb : (cZ sch ha aut pth hq q hf f).drop ((eG sch).length + (dL ha aut).length + pth.length) = b5 hq q ++ du hf f := by
  rw [← List.drop_drop, rk, lJ]
theorem uG (l : List Int) (n : Nat) : l.getD n 0 = (l.drop n).headD 0 := by
  have h : (l.drop n)[0]? = l[n]? := by rw [List.getElem?_drop, Nat.add_zero]
  rw [List.getD_eq_getElem?_getD, ← h]
  cases l.drop n <;> rfl
theorem t7 (F : Fit sch ha aut pth q) : cQ (cZ sch ha aut pth hq q hf f) = hq := by
  unfold cQ
  rw [oT F, uG, sb]
  cases hq
  · cases hf <;> rfl
  · rfl
theorem ua (F : Fit sch ha aut pth q) : pF (cZ sch ha aut pth hq q hf f) = (eG sch).length + (dL ha aut).length + pth.length + (b5 hq q).length := by
  unfold pF
  rw [t7 F, oT F]
  cases hhq : hq
  · rfl
  · have e : (cZ sch ha aut pth true q hf f).drop ((eG sch).length + (dL ha aut).length + pth.length + 1) = q ++ du hf f := by
      rw [← List.drop_drop, sb]; rfl
    show hD _ _ = _
    unfold hD
    rw [e, kJ F.q_free, kc (vW hf f)]
    show _ = _ + (63 :: q).length
    simp; omega
theorem sc : (cZ sch ha aut pth hq q hf f).length = (eG sch).length + (dL ha aut).length + pth.length + (b5 hq q).length + (du hf f).length := by
  unfold cZ
  simp only [List.length_append]; omega
theorem yY (F : Fit sch ha aut pth q) : cF (cZ sch ha aut pth hq q hf f) = hf := by
  unfold cF
  rw [ua F, sc]
  cases hf
  · exact decide_eq_false (by show ¬ _ < _ + ([] : List Int).length; simp)
  · exact decide_eq_true (by show _ < _ + (35 :: f).length; simp)
end
end Go.Proofs.YtpmflpeckoeooaaGreatDoor.M
namespace Go.Proofs.YtpmflpeckoeooaaGreatDoor.Y
open Go.RowKit Go.Proofs.YtpmflpeckoeooaaGreatDoor.X Go.Proofs.YtpmflpeckoeooaaGreatDoor.M Go.Proofs.YtpmflpeckoeooaaGreatDoorW.PrintWords Go.Proofs.YtpmflpeckoeooaaGreatDoorW.PrintLast Go.Proofs.YtpmflpeckoeooaaGreatDoorW.PrintMore
theorem t1 {b : Int} (h : iT b = true ∨ cf 1 b = true ∨ b = 118 ∨ b = 86) : b ∉ ([47, 63, 35] : List Int) := by
  intro hb
  simp only [List.mem_cons, List.mem_nil_iff, or_false] at hb
  rcases hb with rfl | rfl | rfl <;> exact absurd h (by decide)
theorem rQ {p b : Int} (hp : p = 1 ∨ p = 2) (h : jq p b = true) : b ∉ ([47, 63, 35] : List Int) := by
  intro hb
  simp only [List.mem_cons, List.mem_nil_iff, or_false] at hb
  rcases hp with rfl | rfl <;> rcases hb with rfl | rfl | rfl <;> exact absurd h (by decide)
theorem qZ {b : Int} (h : dM b = true) : b ∉ ([47, 63, 35] : List Int) := by
  intro hb
  simp only [List.mem_cons, List.mem_nil_iff, or_false] at hb
  rcases hb with rfl | rfl | rfl <;> exact absurd h (by decide)
theorem uJ {iri : Bool} {h : List Int} (hl : ∀ b ∈ h, 0 ≤ b ∧ b ≤ 255) (hk : iM iri h ≠ 0) : ∀ b ∈ h, b ∉ ([47, 63, 35] : List Int) := by
  unfold iM at hk
  by_cases hb : mi h = true
  · rw [if_pos hb] at hk
    have e := pi hb
    generalize (h.take (h.length - 1)).drop 1 = m at hk e
    have hm : ∀ b ∈ m, b ∉ ([47, 63, 35] : List Int) := by
      by_cases hc : ((v6 m).isSome || fut m) = true
      · rw [Bool.or_eq_true] at hc
        rcases hc with hc | hc
        · exact fun b hb => t1 (.inl (sD hc b hb))
        · exact fun b hb => t1 (re hc b hb)
      · rw [if_neg hc] at hk
        exact absurd rfl hk
    rw [e]
    intro b x
    rcases List.mem_cons.1 x with x | x
    · rw [x]; decide
    · rcases List.mem_append.1 x with x | x
      · exact hm _ x
      · rw [List.mem_singleton] at x; rw [x]; decide
  · rw [if_neg hb] at hk
    by_cases h4 : (v4 h).isSome = true
    · intro b hb
      rcases pQ h4 b hb with h1 | h1
      · exact qZ h1
      · rw [h1]; decide
    · rw [if_neg h4] at hk
      by_cases ha : bo 2 iri h = true
      · exact fun b hb => rQ (.inr rfl) (ks hl ha b hb)
      · rw [if_neg ha] at hk
        exact absurd rfl hk
theorem vq {iri : Bool} {s : ByteArray} (h : gb iri (bA s) = true) : ∀ b ∈ aa s, b ∉ ([47, 63, 35] : List Int) := by
  intro b hb
  rw [← wj s] at hb
  unfold gb jY at h
  rw [Bool.and_eq_true, Bool.and_eq_true] at h
  obtain ⟨⟨h1, h2⟩, h3⟩ := h
  have hh := uJ (fun b hb => ed hb) (by simpa using h2)
  unfold uQ at hb
  have e64 : aa (⟨#[64]⟩ : ByteArray) = [64] := by decide +kernel
  have e58 : aa (⟨#[58]⟩ : ByteArray) = [58] := by decide +kernel
  rw [bl] at hb
  rcases List.mem_append.1 hb with hb | hb
  · by_cases e : (bA s).1 = true
    · rw [if_pos e, bl, bl, e64] at hb
      rw [e] at h1
      rcases List.mem_append.1 hb with hb | hb
      · rcases List.mem_append.1 hb with hb | hb
        · exact rQ (.inl rfl) (ks (fun b hb => ed hb) (by simpa using h1) b hb)
        · rw [List.mem_singleton] at hb; rw [hb]; decide
      · exact hh b hb
    · rw [if_neg e] at hb
      exact hh b hb
  · by_cases e : (bA s).2.2.2.1 = true
    · rw [if_pos e, bl, e58] at hb
      rw [e] at h3
      rcases List.mem_append.1 hb with hb | hb
      · rw [List.mem_singleton] at hb; rw [hb]; decide
      · have h3 : (aa (bA s).2.2.2.2).all dM = true := by simpa using h3
        exact qZ (List.all_eq_true.1 h3 b hb)
    · rw [if_neg e] at hb
      exact absurd hb (by simp [aa])
theorem xi {b : Int} (h : jq 5 b = true) : b ∉ ([63, 35] : List Int) := by
  intro hb
  simp only [List.mem_cons, List.mem_nil_iff, or_false] at hb
  rcases hb with rfl | rfl <;> exact absurd h (by decide)
theorem xh {b : Int} (h : jq 6 b = true) : b ∉ ([35] : List Int) := by
  intro hb
  rw [List.mem_singleton] at hb
  subst hb; exact absurd h (by decide)
theorem tA {iri : Bool} {l : List Int} (hl : ∀ b ∈ l, 0 ≤ b ∧ b ≤ 255) (h5 : bo 5 iri l = true) (h4 : ¬ l.getD (an 4 iri l) 0 = 58) : l.getD (aJ [58, 47] l) 0 ≠ 58 := by
  intro hc
  have hlt := ls (by decide) hc
  have hd : l.drop (aJ [58, 47] l) = 58 :: l.drop (aJ [58, 47] l + 1) := by
    rw [List.drop_eq_getElem_cons hlt]
    rw [List.getD_eq_getElem?_getD, List.getElem?_eq_getElem hlt] at hc
    have hc : l[aJ [58, 47] l] = 58 := hc
    rw [hc]
  have e4 : an 4 iri l = an 4 iri (l.take (aJ [58, 47] l)) := by
    conv => lhs; rw [jM [58, 47] l]
    rw [hd]
    exact pN 4 iri 58 _ (by decide) (by decide) (by decide) (by decide) (by decide) _ _ rfl
  have e4' := g0 4 iri (l.take (aJ [58, 47] l))
  rw [List.length_take] at e4'
  have hle : an 4 iri l ≤ aJ [58, 47] l := by omega
  rcases Nat.lt_or_ge (an 4 iri l) (aJ [58, 47] l) with hm | hm
  ·
    have h := nY (oz iri) l
    rw [h5] at h
    have hne : l.drop (an 4 iri l) ≠ [] := by
      intro h0
      have := congrArg List.length h0
      rw [List.length_drop] at this
      simp at this; omega
    have hz := kZ h.symm hne
    have z4 : aT 4 iri (l.drop (an 4 iri l)) = 0 := by
      have h1 := jy (p := 4) (q := 4) (iri := iri) ⟨by decide, fun _ hr => hr⟩ _ l rfl
      exact (ig 4 iri _).1 (by omega)
    have hno := k9 (set := [58, 47]) (l := l) hm
    obtain ⟨t, ht⟩ := j8 (fun b hb => hl b (List.mem_of_mem_drop hb)) z4 hz
    have hg : l.getD (an 4 iri l) 0 = (l.drop (an 4 iri l)).getD 0 0 := by
      rw [List.getD_eq_getElem?_getD, List.getD_eq_getElem?_getD, List.getElem?_drop, Nat.add_zero]
    rw [hg] at hno
    rcases ht with ht | ht <;> (rw [ht] at hno; simp at hno)
  · exact h4 (by rw [show an 4 iri l = aJ [58, 47] l by omega]; exact hc)
theorem zG {kind : Int} {sch : ByteArray} {ha : Bool} {aut pth q : ByteArray} {hf : Bool} {f : ByteArray} (h : oc kind sch ha aut pth q hf f = true) :
    Fit (aa sch) ha (aa aut) (aa pth) (aa q) := by
  unfold oc at h
  rw [Bool.and_eq_true, Bool.and_eq_true, Bool.and_eq_true, Bool.and_eq_true, Bool.and_eq_true] at h
  obtain ⟨h1, h2, h3, h4, h5, h6⟩ := h
  have hr : ∀ (s : ByteArray), ∀ b ∈ aa s, 0 ≤ b ∧ b ≤ 255 := fun s b hb => ed hb
  unfold jJ at h4
  rw [Bool.and_eq_true] at h4
  obtain ⟨h4, h7⟩ := h4
  refine ⟨?_, ?_, ?_, ?_, ?_, ?_, ?_⟩
  · intro b hb
    by_cases e : aa sch = []
    · rw [e] at hb; cases hb
    · rw [if_neg e] at h1
      unfold gZ at h1
      rw [Bool.and_eq_true] at h1
      have := List.all_eq_true.1 h1.2 b hb
      intro hb
      simp only [List.mem_cons, List.mem_nil_iff, or_false] at hb
      rcases hb with rfl | rfl | rfl | rfl <;> exact absurd this (by decide)
  · intro e
    rw [e] at h3
    exact vq (by simpa using h3)
  · intro e
    rw [e, if_pos rfl, Bool.or_eq_true, beq_iff_eq, beq_iff_eq] at h7
    cases hp : aa pth with
    | nil => exact .inl rfl
    | cons b t =>
      rw [hp] at h7
      refine .inr ⟨b, t, rfl, ?_⟩
      rcases h7 with h7 | h7
      · cases h7
      · have : b = 47 := h7
        rw [this]; simp
  · intro e
    rw [e, if_neg (by simp), Bool.and_eq_true] at h7
    intro h8
    rw [h8] at h7
    exact absurd h7.1 (by decide)
  · exact fun b hb => xi (ks (hr _) h4 b hb)
  · exact fun b hb => xh (ks (hr _) h5 b hb)
  · intro e1 e2
    rw [e2, if_neg (by simp), Bool.and_eq_true, e1] at h7
    exact tA (hr _) h4 (by simpa using h7.2)
def nh (p : fo) : List Int := cZ (aa p.1) p.2.1 (aa p.2.2.1) (aa p.2.2.2.1) p.2.2.2.2.1 (aa p.2.2.2.2.2.1) p.2.2.2.2.2.2.1 (aa p.2.2.2.2.2.2.2)
theorem mj : aa nil8 = [] := by decide +kernel
theorem ue {s : ByteArray} (h : aa s = []) : s = nil8 := gK (by rw [h, mj])
theorem iI {s t : ByteArray} {X Z : List Int} {i j : Nat} (hl : aa s = X ++ (aa t ++ Z)) (hi : i = X.length) (hj : j = X.length + (aa t).length) : s.extract i j = t := by
  apply gK
  rw [au, hl, mid hi hj]
theorem vx {s : ByteArray} {sch : ByteArray} {ha : Bool} {aut pth : ByteArray} {hq : Bool} {q : ByteArray} {hf : Bool} {f : ByteArray}
    (F : Fit (aa sch) ha (aa aut) (aa pth) (aa q)) (na : ha = false → aut = nil8) (nq : hq = false → q = nil8) (nf : hf = false → f = nil8)
    (hl : aa s = cZ (aa sch) ha (aa aut) (aa pth) hq (aa q) hf (aa f)) : bk s = (sch, ha, aut, pth, hq, q, hf, f) := by
  have hC := qF (hq := hq) (hf := hf) (f := aa f) F
  have hA := t6 (hq := hq) (hf := hf) (f := aa f) F
  have hP := ub (hq := hq) (hf := hf) (f := aa f) F
  have hE := oT (hq := hq) (hf := hf) (f := aa f) F
  have hQ := t7 (hq := hq) (hf := hf) (f := aa f) F
  have hF := ua (hq := hq) (hf := hf) (f := aa f) F
  have hcF := yY (hq := hq) (hf := hf) (f := aa f) F
  have hL := sc (sch := aa sch) (ha := ha) (aut := aa aut) (pth := aa pth) (hq := hq) (q := aa q) (hf := hf) (f := aa f)
  have hAe := rj (hq := hq) (hf := hf) (f := aa f) F
  rw [← hl] at hC hA hP hE hQ hF hcF hL hAe
  rw [af] at hL
  obtain ⟨hcS, hpC, hpI⟩ := hC
  unfold bk
  rw [hcS, hA, hpC, hQ, hcF, hE, hF, hP]
  have p1 : (if (!(aa sch == [])) = true then s.extract 0 (pI (aa s)) else nil8) = sch := by
    by_cases e : aa sch = []
    · rw [e, if_neg (by simp), ue e]
    · rw [if_pos (by rw [beq_eq_false_iff_ne.2 e]; rfl), hpI e]
      exact iI (X := []) (Z := _) (by rw [hl]; unfold cZ eG; rw [if_neg e, List.append_assoc]; rfl) rfl (by simp)
  have p3 : (if ha = true then s.extract ((eG (aa sch)).length + 2) (g7 (aa s) (eG (aa sch)).length) else nil8) = aut := by
    cases hha : ha
    · rw [if_neg (by simp), na hha]
    · rw [if_pos rfl, hAe hha, hha]
      refine iI (X := eG (aa sch) ++ [47, 47]) (Z := aa pth ++ (b5 hq (aa q) ++ du hf (aa f))) ?_ (by simp) ?_
      · rw [hl, hha]; unfold cZ dL; simp
      · unfold dL; simp; omega
  have p4 : s.extract ((eG (aa sch)).length + (dL ha (aa aut)).length) ((eG (aa sch)).length + (dL ha (aa aut)).length + (aa pth).length) = pth := by
    refine iI (X := eG (aa sch) ++ dL ha (aa aut)) (Z := b5 hq (aa q) ++ du hf (aa f)) ?_ (by rw [List.length_append]) (by rw [List.length_append])
    rw [hl]; unfold cZ; simp
  have p6 : (if hq = true then s.extract ((eG (aa sch)).length + (dL ha (aa aut)).length + (aa pth).length + 1) ((eG (aa sch)).length + (dL ha (aa aut)).length + (aa pth).length + (b5 hq (aa q)).length) else nil8) = q := by
    cases hhq : hq
    · rw [if_neg (by simp), nq hhq]
    · rw [if_pos rfl]
      refine iI (X := eG (aa sch) ++ dL ha (aa aut) ++ aa pth ++ [63]) (Z := du hf (aa f)) ?_ (by simp only [List.length_append, List.length_singleton]) ?_
      · rw [hl, hhq]; unfold cZ b5; simp
      · unfold b5; simp; omega
  have p8 : (if hf = true then s.extract ((eG (aa sch)).length + (dL ha (aa aut)).length + (aa pth).length + (b5 hq (aa q)).length + 1) s.size else nil8) = f := by
    cases hhf : hf
    · rw [if_neg (by simp), nf hhf]
    · rw [if_pos rfl]
      refine iI (X := eG (aa sch) ++ dL ha (aa aut) ++ aa pth ++ b5 hq (aa q) ++ [35]) (Z := []) ?_ (by simp only [List.length_append, List.length_singleton]) ?_
      · rw [hl, hhf]; unfold cZ du; simp
      · rw [hL, hhf]; unfold du; simp; omega
  rw [p1, p3, p4, p6, p8]
theorem i2 (l : List Int) {i j : Nat} (h : i ≤ j) (hj : j ≤ l.length) : (l.take j).drop i ++ l.drop j = l.drop i := by
  have e : l.drop i = (l.take j ++ l.drop j).drop i := by rw [List.take_append_drop]
  rw [e, List.drop_append_of_le_length (by rw [List.length_take]; omega)]
theorem qf (s : ByteArray) : nh (bk s) = aa s := by
  have hI := rJ (aa s)
  have hC := uW (aa s)
  have hPl := aaf (aa s)
  have hEl := ze (l := aa s) (p := pP (aa s)) hPl
  unfold nh bk cZ
  dsimp only
  have e5 : du (cF (aa s)) (aa (if cF (aa s) = true then s.extract (pF (aa s) + 1) s.size else nil8)) = (aa s).drop (pF (aa s)) := by
    cases h : cF (aa s)
    · unfold cF at h
      rw [decide_eq_false_iff_not] at h
      rw [List.drop_eq_nil_of_le (by omega)]; rfl
    · have h' := h
      unfold cF at h'
      rw [decide_eq_true_iff] at h'
      have hs : (aa s).getD (pF (aa s)) 0 = 35 := by
        unfold pF at h' ⊢
        cases hq : cQ (aa s)
        · rw [hq] at h'
          simp only [Bool.false_eq_true, if_false] at h' ⊢
          have hin : (aa s).getD (fH (aa s) (pP (aa s))) 0 ∈ ([63, 35] : List Int) := by
            have := oN (set := [63, 35]) (l := (aa s).drop (pP (aa s))) (by rw [List.length_drop]; unfold fH at h'; omega)
            rw [List.getD_eq_getElem?_getD, List.getElem?_drop, ← List.getD_eq_getElem?_getD] at this
            exact this
          unfold cQ at hq
          rw [beq_eq_false_iff_ne] at hq
          simp only [List.mem_cons, List.mem_nil_iff, or_false] at hin
          exact hin.resolve_left hq
        · rw [hq] at h'
          simp only [if_true] at h' ⊢
          unfold hD at h' ⊢
          have := oN (set := [35]) (l := (aa s).drop (fH (aa s) (pP (aa s)) + 1)) (by rw [List.length_drop]; omega)
          rw [List.getD_eq_getElem?_getD, List.getElem?_drop, ← List.getD_eq_getElem?_getD, List.mem_singleton] at this
          exact this
      show 35 :: aa (if true = true then s.extract (pF (aa s) + 1) s.size else nil8) = _
      rw [if_pos rfl, aY, List.drop_eq_getElem_cons h']
      rw [List.getD_eq_getElem?_getD, List.getElem?_eq_getElem h'] at hs
      have hs : (aa s)[pF (aa s)] = 35 := hs
      rw [hs]
  have e4 : b5 (cQ (aa s)) (aa (if cQ (aa s) = true then s.extract (fH (aa s) (pP (aa s)) + 1) (pF (aa s)) else nil8)) ++ (aa s).drop (pF (aa s)) = (aa s).drop (fH (aa s) (pP (aa s))) := by
    cases h : cQ (aa s)
    · unfold pF; rw [h]; rfl
    · have h' := h
      unfold cQ at h'
      rw [beq_iff_eq] at h'
      have hlt := ls (by decide) h'
      have hq := uk hlt
      have e : pF (aa s) = hD (aa s) (fH (aa s) (pP (aa s))) := by unfold pF; rw [h]; rfl
      show 63 :: aa (if true = true then _ else nil8) ++ _ = _
      rw [if_pos rfl, e, List.drop_eq_getElem_cons hlt]
      rw [List.getD_eq_getElem?_getD, List.getElem?_eq_getElem hlt] at h'
      have h' : (aa s)[fH (aa s) (pP (aa s))] = 63 := h'
      rw [h', List.cons_append, au]
      congr 1
      have := i2 (aa s) hq.1 hq.2
      exact this
  have e3 : aa (s.extract (pP (aa s)) (fH (aa s) (pP (aa s)))) ++ (aa s).drop (fH (aa s) (pP (aa s))) = (aa s).drop (pP (aa s)) := by
    rw [au]
    exact i2 (aa s) hEl.1 hEl.2
  have e2 : dL (cA (aa s)) (aa (if cA (aa s) = true then s.extract (pC (aa s) + 2) (g7 (aa s) (pC (aa s))) else nil8)) ++ (aa s).drop (pP (aa s)) = (aa s).drop (pC (aa s)) := by
    cases h : cA (aa s)
    · unfold pP; rw [h]; rfl
    · have h' := h
      unfold cA at h'
      rw [beq_iff_eq] at h'
      have hle := o4 (qv h')
      have e : pP (aa s) = g7 (aa s) (pC (aa s)) := by unfold pP; rw [h]; rfl
      have h2 := i2 (aa s) hle.1 hle.2
      have h3 : (aa s).drop (pC (aa s)) = [47, 47] ++ (aa s).drop (pC (aa s) + 2) := by
        rw [← h', ← List.drop_drop, List.take_append_drop]
      rw [if_pos rfl, e, h3, au, ← h2]
      rfl
  have e1 : eG (aa (if cS (aa s) = true then s.extract 0 (pI (aa s)) else nil8)) ++ (aa s).drop (pC (aa s)) = aa s := by
    cases h : cS (aa s)
    · unfold pC; rw [h, if_neg (by simp), mj]; rfl
    · have h' := h
      unfold cS at h'
      rw [Bool.and_eq_true, decide_eq_true_iff, beq_iff_eq] at h'
      have hlt := ls (by decide) h'.2
      have e : pC (aa s) = pI (aa s) + 1 := by unfold pC; rw [h]; rfl
      have hb : aa (s.extract 0 (pI (aa s))) = (aa s).take (pI (aa s)) := by rw [au, List.drop_zero]
      rw [if_pos rfl, hb, e]
      unfold eG
      rw [if_neg (by
        intro h0
        have := congrArg List.length h0
        rw [List.length_take, List.length_nil] at this
        omega)]
      have hd : (aa s).drop (pI (aa s)) = 58 :: (aa s).drop (pI (aa s) + 1) := by
        rw [List.drop_eq_getElem_cons hlt]
        have h2 := h'.2
        rw [List.getD_eq_getElem?_getD, List.getElem?_eq_getElem hlt] at h2
        have h2 : (aa s)[pI (aa s)] = 58 := h2
        rw [h2]
      rw [List.append_assoc, List.singleton_append, ← hd, List.take_append_drop]
  rw [e5, e4, e3, e2, e1]
def cR {α : Type} (c : Nat → List α) : Nat → Nat → List α
  | _, 0 => []
  | n, d + 1 => c n ++ cR c (n + 1) d
theorem dU {α : Type} {c : Nat → List α} {x : α} : ∀ {d n : Nat}, x ∈ cR c n d ↔ ∃ m, n ≤ m ∧ m < n + d ∧ x ∈ c m
  | 0, n => by
    constructor
    · intro h; cases h
    · rintro ⟨m, h1, h2, _⟩; omega
  | d + 1, n => by
    show x ∈ c n ++ cR c (n + 1) d ↔ _
    rw [List.mem_append, dU]
    constructor
    · rintro (h | ⟨m, h1, h2, h3⟩)
      · exact ⟨n, Nat.le_refl _, by omega, h⟩
      · exact ⟨m, by omega, by omega, h3⟩
    · rintro ⟨m, h1, h2, h3⟩
      rcases Nat.eq_or_lt_of_le h1 with h | h
      · subst h; exact .inl h3
      · exact .inr ⟨m, h, by omega, h3⟩
theorem kf {α : Type} {c : Nat → List α} {B : Nat} (h : ∀ m, (c m).length ≤ B) : ∀ (d n : Nat), (cR c n d).length ≤ d * B
  | 0, n => by simp [cR]
  | d + 1, n => by
    show (c n ++ cR c (n + 1) d).length ≤ _
    rw [List.length_append, Nat.succ_mul]
    have h1 := h n
    have h2 := kf h d (n + 1)
    omega
def toS (p : fo) : S24 := ⟨p.1, p.2.1, p.2.2.1, p.2.2.2.1, p.2.2.2.2.1, p.2.2.2.2.2.1, p.2.2.2.2.2.2.1, p.2.2.2.2.2.2.2⟩
def oW (kind : Int) (p : fo) : Bool := oc kind p.1 p.2.1 p.2.2.1 p.2.2.2.1 p.2.2.2.2.2.1 p.2.2.2.2.2.2.1 p.2.2.2.2.2.2.2
def iW (kind : Int) (p : fo) : List S24 := if oW kind p = true then [toS p] else []
theorem sf (kind : Int) (p : fo) : (iW kind p).length ≤ 1 := by unfold iW; split <;> simp
def c1 (s sch : ByteArray) (ha : Bool) (aut : ByteArray) (i j : Nat) : fo :=
  (sch, ha, aut, s.extract 0 i, decide (i < j), if i < j then s.extract (i + 1) j else nil8, decide (j < s.size), if j < s.size then s.extract (j + 1) s.size else nil8)
def c2 (s sch : ByteArray) (ha : Bool) (aut : ByteArray) (x : Nat) : fo := (sch, ha, aut, s.extract 0 x, false, nil8, true, s.extract (x + 1) s.size)
def k1 (kind : Int) (s sch : ByteArray) (ha : Bool) (aut : ByteArray) (i j : Nat) : List S24 := if j < s.size ∧ bt s (j : Int) ≠ 35 then [] else iW kind (c1 s sch ha aut i j)
def k2 (kind : Int) (s sch : ByteArray) (ha : Bool) (aut : ByteArray) (x : Nat) : List S24 := if bt s (x : Int) = 35 then iW kind (c2 s sch ha aut x) else []
def k0 (kind : Int) (s sch : ByteArray) (ha : Bool) (aut : ByteArray) (i : Nat) : List S24 := if i < s.size ∧ bt s (i : Int) ≠ 63 then [] else cR (k1 kind s sch ha aut i) i (s.size + 1 - i)
def ju (kind : Int) (s sch : ByteArray) (ha : Bool) (aut : ByteArray) : List S24 := cR (k0 kind s sch ha aut) 0 (s.size + 1) ++ cR (k2 kind s sch ha aut) 0 s.size
theorem wl (kind : Int) (s sch : ByteArray) (ha : Bool) (aut : ByteArray) (i j : Nat) : (k1 kind s sch ha aut i j).length ≤ 1 := by
  unfold k1; split
  · simp
  · exact sf _ _
theorem zJ (kind : Int) (s sch : ByteArray) (ha : Bool) (aut : ByteArray) (x : Nat) : (k2 kind s sch ha aut x).length ≤ 1 := by
  unfold k2; split
  · exact sf _ _
  · simp
theorem wk (kind : Int) (s sch : ByteArray) (ha : Bool) (aut : ByteArray) (i : Nat) : (k0 kind s sch ha aut i).length ≤ s.size + 1 := by
  unfold k0; split
  · simp
  · have := kf (wl kind s sch ha aut i) (s.size + 1 - i) i
    omega
theorem ox (kind : Int) (s sch : ByteArray) (ha : Bool) (aut : ByteArray) (h : s.size ≤ 30) : (ju kind s sch ha aut).length ≤ 991 := by
  unfold ju
  rw [List.length_append]
  have h1 := kf (wk kind s sch ha aut) (s.size + 1) 0
  have h2 := kf (zJ kind s sch ha aut) s.size 0
  have h3 : (s.size + 1) * (s.size + 1) ≤ 31 * 31 := Nat.mul_le_mul (by omega) (by omega)
  omega
theorem lf {n : Nat} (h : n ≤ 1000000) : wrap64 ((n : Int) + 1) = ((n + 1 : Nat) : Int) := by rw [w64 (by omega) (by omega)]; omega
theorem rc (s : ByteArray) (hs : s.size ≤ 30) (i j : Nat) : (s.extract i j).size ≤ 1000000 := by rw [ByteArray.size_extract]; omega
section
variable (kind : Int) (s sch : ByteArray) (ha : Bool) (aut : ByteArray) (hs : s.size ≤ 30) (h1 : sch.size ≤ 1000000) (h2 : aut.size ≤ 1000000)
include hs h1 h2
theorem yh : ∀ d x : Nat, ∀ acc : List S24, x + d = s.size → acc.length + d ≤ 1000000 →
    Ev (fun k => bH k kind s acc (x : Int) sch ha aut nil8 false nil8 false nil8) (acc ++ cR (k2 kind s sch ha aut) x d) := by
  have hx := fun i j => rc s hs i j
  have hn : nil8.size ≤ 1000000 := by decide
  intro d
  induction d with
  | zero =>
    intro x acc hd _
    refine Ev.step (fun k => by rw [bH]) ?_
    refine ae (by omega) (Ev.val ?_)
    show acc = acc ++ []
    rw [List.append_nil]
  | succ d ih =>
    intro x acc hd hacc
    refine Ev.step (fun k => by rw [bH]) ?_
    have hw := lf (n := x) (by omega)
    rw [hw, Int.toNat_natCast, Int.toNat_natCast]
    refine ab (by omega) (ab (by omega) ?_)
    show Ev _ (acc ++ (k2 kind s sch ha aut x ++ cR (k2 kind s sch ha aut) (x + 1) d))
    refine Ev.ite (fun h => ?_) (fun h => ?_)
    · refine ab (by omega) (ab (by omega) (ab (by omega) (ai (om kind sch ha aut (s.extract 0 x) false nil8 true (s.extract (x + 1) s.size) h1 h2 (hx _ _) hn (hx _ _)) ?_)))
      have ek : k2 kind s sch ha aut x = iW kind (c2 s sch ha aut x) := by unfold k2; rw [if_pos h]
      rw [ek]
      refine Ev.ite (fun hm => ?_) (fun hm => ?_)
      · have eo : iW kind (c2 s sch ha aut x) = [toS (c2 s sch ha aut x)] := by unfold iW; exact if_pos hm
        refine ab (by omega) ?_
        rw [eo, ← List.append_assoc]
        exact ih (x + 1) _ (by omega) (by rw [List.length_append]; simp; omega)
      · have eo : iW kind (c2 s sch ha aut x) = [] := by unfold iW; exact if_neg hm
        rw [eo, List.nil_append]
        exact ih (x + 1) _ (by omega) (by omega)
    · have ek : k2 kind s sch ha aut x = [] := by unfold k2; rw [if_neg h]
      rw [ek, List.nil_append]
      exact ih (x + 1) _ (by omega) (by omega)
theorem sx (i j : Nat) (acc R : List S24) (hij : i ≤ j) (hj : j ≤ s.size) (hacc : acc.length ≤ 1000000) (hq : Bool) (q : ByteArray) (eq1 : hq = decide (i < j)) (eq2 : q = if i < j then s.extract (i + 1) j else nil8)
    (nx : Ev (fun k => bg k kind s (acc ++ iW kind (c1 s sch ha aut i j)) (i : Int) ((j + 1 : Nat) : Int) sch ha aut nil8 false nil8 false nil8) R) :
    Ev (fun k => dI k kind s acc (i : Int) (j : Int) sch ha aut nil8 false nil8 false nil8 sch ha aut (s.extract 0 i) hq q false nil8) R := by
  have hx := fun i j => rc s hs i j
  have hn : nil8.size ≤ 1000000 := by decide
  have hqs : q.size ≤ 1000000 := by rw [eq2]; split; exact hx _ _; exact hn
  refine Ev.step (fun k => by rw [dI]) ?_
  rw [lf (n := j) (by omega), Int.toNat_natCast]
  refine Ev.ite (fun h => ?_) (fun h => ?_)
  · have ec : c1 s sch ha aut i j = (sch, ha, aut, s.extract 0 i, hq, q, true, s.extract (j + 1) s.size) := by
      unfold c1; rw [decide_eq_true (show j < s.size by omega), if_pos (show j < s.size by omega), ← eq1, ← eq2]
    rw [ec] at nx
    refine ab (by omega) (ab (by omega) (ai (om kind sch ha aut (s.extract 0 i) hq q true (s.extract (j + 1) s.size) h1 h2 (hx _ _) hqs (hx _ _)) ?_))
    refine Ev.ite (fun hm => ?_) (fun hm => ?_)
    · refine ab (by omega) ?_
      have eo : iW kind (sch, ha, aut, s.extract 0 i, hq, q, true, s.extract (j + 1) s.size) = [toS (sch, ha, aut, s.extract 0 i, hq, q, true, s.extract (j + 1) s.size)] := by unfold iW; exact if_pos hm
      rw [eo] at nx
      exact nx
    · have eo : iW kind (sch, ha, aut, s.extract 0 i, hq, q, true, s.extract (j + 1) s.size) = [] := by unfold iW; exact if_neg hm
      rw [eo, List.append_nil] at nx
      exact nx
  · have ec : c1 s sch ha aut i j = (sch, ha, aut, s.extract 0 i, hq, q, false, nil8) := by
      unfold c1; rw [decide_eq_false (show ¬ j < s.size by omega), if_neg (show ¬ j < s.size by omega), ← eq1, ← eq2]
    rw [ec] at nx
    refine ai (om kind sch ha aut (s.extract 0 i) hq q false nil8 h1 h2 (hx _ _) hqs hn) ?_
    refine Ev.ite (fun hm => ?_) (fun hm => ?_)
    · refine ab (by omega) ?_
      have eo : iW kind (sch, ha, aut, s.extract 0 i, hq, q, false, nil8) = [toS (sch, ha, aut, s.extract 0 i, hq, q, false, nil8)] := by unfold iW; exact if_pos hm
      rw [eo] at nx
      exact nx
    · have eo : iW kind (sch, ha, aut, s.extract 0 i, hq, q, false, nil8) = [] := by unfold iW; exact if_neg hm
      rw [eo, List.append_nil] at nx
      exact nx
theorem yg (i : Nat) (R : List S24) : ∀ d j : Nat, ∀ acc : List S24, j + d = s.size + 1 → i ≤ j → acc.length + d ≤ 1000000 →
    Ev (fun k => bG k kind s (acc ++ cR (k1 kind s sch ha aut i) j d) ((i + 1 : Nat) : Int) sch ha aut nil8 false nil8 false nil8) R →
    Ev (fun k => bg k kind s acc (i : Int) (j : Int) sch ha aut nil8 false nil8 false nil8) R := by
  intro d
  induction d with
  | zero =>
    intro j acc hd hij hacc nx
    refine Ev.step (fun k => by rw [bg]) ?_
    refine ae (by omega) ?_
    rw [lf (n := i) (by omega)]
    have e : acc ++ cR (k1 kind s sch ha aut i) j 0 = acc := List.append_nil _
    rw [e] at nx
    exact nx
  | succ d ih =>
    intro j acc hd hij hacc nx
    have eg : cR (k1 kind s sch ha aut i) j (d + 1) = k1 kind s sch ha aut i j ++ cR (k1 kind s sch ha aut i) (j + 1) d := rfl
    rw [eg, ← List.append_assoc] at nx
    have hl := wl kind s sch ha aut i j
    have nx' := ih (j + 1) (acc ++ k1 kind s sch ha aut i j) (by omega) (by omega) (by rw [List.length_append]; omega) nx
    have hmn : mn (i : Int) (j : Int) = (i : Int) := by unfold mn; rw [if_neg (by omega)]
    have hj3 : ∀ x : Bool, x = decide (j < s.size ∧ bt s (j : Int) ≠ 35) → Ev (fun k => dH k kind s acc (i : Int) (j : Int) x sch ha aut nil8 false nil8 false nil8) R := by
      intro x hx
      refine Ev.step (fun k => by rw [dH]) ?_
      rw [hmn, lf (n := i) (by omega), lf (n := j) (by omega), Int.toNat_natCast, Int.toNat_natCast, Int.toNat_natCast]
      refine Ev.ite (fun h => ?_) (fun h => ?_)
      · have : k1 kind s sch ha aut i j = [] := by unfold k1; rw [if_pos (of_decide_eq_true (hx.symm.trans h))]
        rw [this, List.append_nil] at nx'
        exact nx'
      · have hno : ¬ (j < s.size ∧ bt s (j : Int) ≠ 35) := fun h' => h (hx.trans (decide_eq_true h'))
        have : k1 kind s sch ha aut i j = iW kind (c1 s sch ha aut i j) := by unfold k1; rw [if_neg hno]
        rw [this] at nx'
        refine ab (by omega) (ab (by omega) ?_)
        refine Ev.ite (fun h => ?_) (fun h => ?_)
        · refine ab (by omega) (ab (by omega) (ab (by omega) ?_))
          exact sx kind s sch ha aut hs h1 h2 i j acc R hij (by omega) (by omega) true _ (decide_eq_true (by omega)).symm (by rw [if_pos (by omega)]) nx'
        · exact sx kind s sch ha aut hs h1 h2 i j acc R hij (by omega) (by omega) false nil8 (decide_eq_false (by omega)).symm (by rw [if_neg (by omega)]) nx'
    refine Ev.step (fun k => by rw [bg]) ?_
    refine ab (by omega) ?_
    refine Ev.ite (fun h => ?_) (fun h => ?_)
    · refine ab (by omega) (hj3 _ ?_)
      by_cases hb : bt s (j : Int) = 35
      · rw [hb, decide_eq_false (fun h' => h'.2 rfl)]; rfl
      · rw [decide_eq_true ⟨by omega, hb⟩]; exact bne_iff_ne.2 hb
    · exact hj3 false (decide_eq_false (fun h' => h (by omega))).symm
theorem yf : ∀ d i : Nat, ∀ acc : List S24, i + d = s.size + 1 → acc.length + d * (s.size + 1) + s.size ≤ 1000000 →
    Ev (fun k => bG k kind s acc (i : Int) sch ha aut nil8 false nil8 false nil8) (acc ++ cR (k0 kind s sch ha aut) i d ++ cR (k2 kind s sch ha aut) 0 s.size) := by
  intro d
  induction d with
  | zero =>
    intro i acc hd hacc
    refine Ev.step (fun k => by rw [bG]) ?_
    refine ae (by omega) ?_
    have e : acc ++ cR (k0 kind s sch ha aut) i 0 = acc := List.append_nil _
    rw [e]
    exact yh kind s sch ha aut hs h1 h2 s.size 0 acc (by omega) (by omega)
  | succ d ih =>
    intro i acc hd hacc
    have eg : cR (k0 kind s sch ha aut) i (d + 1) = k0 kind s sch ha aut i ++ cR (k0 kind s sch ha aut) (i + 1) d := rfl
    rw [eg, ← List.append_assoc]
    rw [Nat.succ_mul] at hacc
    have hl := wk kind s sch ha aut i
    have nx := ih (i + 1) (acc ++ k0 kind s sch ha aut i) (by omega) (by rw [List.length_append]; omega)
    have hj1 : ∀ x : Bool, x = decide (i < s.size ∧ bt s (i : Int) ≠ 63) → Ev (fun k => dG k kind s acc (i : Int) x sch ha aut nil8 false nil8 false nil8) (acc ++ k0 kind s sch ha aut i ++ cR (k0 kind s sch ha aut) (i + 1) d ++ cR (k2 kind s sch ha aut) 0 s.size) := by
      intro x hx
      refine Ev.step (fun k => by rw [dG]) ?_
      rw [lf (n := i) (by omega)]
      refine Ev.ite (fun h => ?_) (fun h => ?_)
      · have : k0 kind s sch ha aut i = [] := by unfold k0; rw [if_pos (of_decide_eq_true (hx.symm.trans h))]
        rw [this, List.append_nil] at nx ⊢
        exact nx
      · have hno : ¬ (i < s.size ∧ bt s (i : Int) ≠ 63) := fun h' => h (hx.trans (decide_eq_true h'))
        have : k0 kind s sch ha aut i = cR (k1 kind s sch ha aut i) i (s.size + 1 - i) := by unfold k0; rw [if_neg hno]
        rw [this] at nx ⊢
        exact yg kind s sch ha aut hs h1 h2 i _ (s.size + 1 - i) i acc (by omega) (Nat.le_refl _) (by omega) nx
    refine Ev.step (fun k => by rw [bG]) ?_
    refine ab (by omega) ?_
    refine Ev.ite (fun h => ?_) (fun h => ?_)
    · refine ab (by omega) (hj1 _ ?_)
      by_cases hb : bt s (i : Int) = 63
      · rw [hb, decide_eq_false (fun h' => h'.2 rfl)]; rfl
      · rw [decide_eq_true ⟨by omega, hb⟩]; exact bne_iff_ne.2 hb
    · exact hj1 false (decide_eq_false (fun h' => h (by omega))).symm
theorem up : Ev (fun k => eW k kind sch ha aut nil8 false nil8 false nil8 s) (ju kind s sch ha aut) := by
  unfold eW ju
  have h3 : (s.size + 1) * (s.size + 1) ≤ 31 * 31 := Nat.mul_le_mul (by omega) (by omega)
  have h := yf kind s sch ha aut hs h1 h2 (s.size + 1) 0 [] (by omega) (by simp; omega)
  simpa using h
end
end Go.Proofs.YtpmflpeckoeooaaGreatDoor.Y
