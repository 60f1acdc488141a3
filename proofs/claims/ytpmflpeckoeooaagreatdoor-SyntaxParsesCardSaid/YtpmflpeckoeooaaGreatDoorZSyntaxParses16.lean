/- The law SyntaxParses of layer 22, for every input: Any bytes have the components that the document says, or its first error; joined they are the bytes. No condition beside the row's own. -/
import Derived.Test.YtpmflpeckoeooaaGreatDoorZSyntaxParses2
import Derived.Test.YtpmflpeckoeooaaGreatDoorZSyntaxParses6
import Derived.Test.YtpmflpeckoeooaaGreatDoorZSyntaxParses7
import Derived.Test.YtpmflpeckoeooaaGreatDoorZSyntaxParses10
import Derived.Test.YtpmflpeckoeooaaGreatDoorZSyntaxParses11
import Derived.Test.YtpmflpeckoeooaaGreatDoorZSyntaxParses12
import Derived.Test.YtpmflpeckoeooaaGreatDoorZSyntaxParses14
import Derived.Test.YtpmflpeckoeooaaGreatDoorZSyntaxParses15
import Derived.Test.YtpmflpeckoeooaaGreatDoorRows
import Derived.Test.YtpmflpeckoeooaaGreatDoorCards
import Derived.Test.YtpmflpeckoeooaaGreatDoorTie
import Derived.WalkKit
import Derived.ProofKit
import Derived.OpenShut
import Derived.ShutString
import Derived.ChangeOld
import Derived.Below
import Derived.SizedLaws
import Derived.ChangeArms
import Derived.Lib.SmallJoins
import Derived.Deep.DeepHandedRow
import Derived.Lib.LaidTab
import Derived.Shelf.Vars
import Derived.MakeChecks
set_option linter.unusedSimpArgs false
set_option linter.unusedVariables false
namespace Go.Proofs.YtpmflpeckoeooaaGreatDoor.Y
open Go.RowKit Go.Proofs.YtpmflpeckoeooaaGreatDoor.X Go.Proofs.YtpmflpeckoeooaaGreatDoor.M Go.Proofs.YtpmflpeckoeooaaGreatDoorW.PrintWords Go.Proofs.YtpmflpeckoeooaaGreatDoorW.PrintLast Go.Proofs.YtpmflpeckoeooaaGreatDoorW.PrintMore
def dZ (s : ByteArray) (c : Nat) : Bool := ((aa s).drop c).take 2 == [47, 47]
def bh (s : ByteArray) (c : Nat) : Nat := if dZ s c then eF (aa s) c else c
def jN (s : ByteArray) (c : Nat) : ByteArray := if dZ s c then s.extract (c + 2) (eF (aa s) c) else nil8
def fu (s : ByteArray) (iri : Bool) (c : Nat) : Nat := bh s c + an 5 iri ((aa s).drop (bh s c))
def jh (s : ByteArray) (iri fr ns : Bool) (c : Nat) : Bool :=
  (!dZ s c || gF iri (bL (jN s c))) && (!jy ns (dZ s c) iri ((aa s).drop (bh s c)) && (jI (dZ s c) (aa (s.extract (bh s c) (fu s iri c))) && decide (fP s iri fr (qP s iri (fu s iri c)) = s.size)))
def nI (s : ByteArray) (iri fr : Bool) (c : Nat) (sch : ByteArray) : kx :=
  (sch, dZ s c, jN s c, s.extract (bh s c) (fu s iri c), decide (bt s (fu s iri c : Int) = 63), if bt s (fu s iri c : Int) = 63 then s.extract (fu s iri c + 1) (qP s iri (fu s iri c)) else nil8,
    decide (fr = true ∧ bt s (qP s iri (fu s iri c) : Int) = 35), if fr = true ∧ bt s (qP s iri (fu s iri c) : Int) = 35 then s.extract (qP s iri (fu s iri c) + 1) (fP s iri fr (qP s iri (fu s iri c))) else nil8)
abbrev qR := ByteArray × Bool × ByteArray × ByteArray × Bool × ByteArray × Bool × ByteArray × Bool
def o8 (p : kx) : qR := (p.1, p.2.1, p.2.2.1, p.2.2.2.1, p.2.2.2.2.1, p.2.2.2.2.2.1, p.2.2.2.2.2.2.1, p.2.2.2.2.2.2.2, true)
def no9 : qR := (nil8, false, nil8, nil8, false, nil8, false, nil8, false)
theorem o2 (s : ByteArray) (c : Nat) (hc : c ≤ s.size) : bh s c ≤ s.size := by
  unfold bh
  split
  · rename_i h
    unfold dZ at h
    rw [beq_iff_eq] at h
    have := (lW (oh h)).2
    rw [af] at this
    exact this
  · exact hc
theorem wV (s : ByteArray) (iri : Bool) (c : Nat) (hc : c ≤ s.size) : fu s iri c ≤ s.size := by
  have h1 := o2 s c hc
  have h2 := hO 5 iri ((aa s).drop (bh s c))
  rw [List.length_drop, af] at h2
  unfold fu
  omega
theorem qw (s : ByteArray) (c : Nat) (hc : c ≤ s.size) (hs : s.size ≤ 1000000) (kind : Int) (iri : Bool) (sch : ByteArray) :
    Ev (fun k => (bl k s (c : Int) iri sch false nil8 nil8 false nil8 false nil8).bind fun Ac => (if Ac.1 = true then ((bz k Ac.2.1 Ac.2.2.1 Ac.2.2.2.1 Ac.2.2.2.2.1 Ac.2.2.2.2.2.1 Ac.2.2.2.2.2.2.1 Ac.2.2.2.2.2.2.2.1 Ac.2.2.2.2.2.2.2.2.1 Ac.2.2.2.2.2.2.2.2.2.1 Ac.2.2.2.2.2.2.2.2.2.2.1 Ac.2.2.2.2.2.2.2.2.2.2.2).bind fun Aa => (if Aa.1 = true then ((bA k Aa.2.1 Aa.2.2.1 Aa.2.2.2.1 Aa.2.2.2.2.1 Aa.2.2.2.2.2.1 Aa.2.2.2.2.2.2.1 Aa.2.2.2.2.2.2.2.1 Aa.2.2.2.2.2.2.2.2.1 Aa.2.2.2.2.2.2.2.2.2.1 Aa.2.2.2.2.2.2.2.2.2.2.1 Aa.2.2.2.2.2.2.2.2.2.2.2 (kind != 3)).bind fun Ab => (if Ab.2.1 = (s.size : Int) then (some (Ab.2.2.2.1, Ab.2.2.2.2.1, Ab.2.2.2.2.2.1, Ab.2.2.2.2.2.2.1, Ab.2.2.2.2.2.2.2.1, Ab.2.2.2.2.2.2.2.2.1, Ab.2.2.2.2.2.2.2.2.2.1, Ab.2.2.2.2.2.2.2.2.2.2, true)) else (some no9))) else (some no9))) else (some no9)))
      (if jh s iri (kind != 3) (aa sch == []) c = true then o8 (nI s iri (kind != 3) c sch) else no9) := by
  have hau := yy s c hc hs iri sch
  have hE := wV s iri c hc
  have hgo : Ev (fun k => ((bz k s (bh s c : Int) iri sch (dZ s c) (jN s c) nil8 false nil8 false nil8).bind fun Aa => (if Aa.1 = true then ((bA k Aa.2.1 Aa.2.2.1 Aa.2.2.2.1 Aa.2.2.2.2.1 Aa.2.2.2.2.2.1 Aa.2.2.2.2.2.2.1 Aa.2.2.2.2.2.2.2.1 Aa.2.2.2.2.2.2.2.2.1 Aa.2.2.2.2.2.2.2.2.2.1 Aa.2.2.2.2.2.2.2.2.2.2.1 Aa.2.2.2.2.2.2.2.2.2.2.2 (kind != 3)).bind fun Ab => (if Ab.2.1 = (s.size : Int) then (some (Ab.2.2.2.1, Ab.2.2.2.2.1, Ab.2.2.2.2.2.1, Ab.2.2.2.2.2.2.1, Ab.2.2.2.2.2.2.2.1, Ab.2.2.2.2.2.2.2.2.1, Ab.2.2.2.2.2.2.2.2.2.1, Ab.2.2.2.2.2.2.2.2.2.2, true)) else (some no9))) else (some no9))))
      (if (!jy (aa sch == []) (dZ s c) iri ((aa s).drop (bh s c)) && (jI (dZ s c) (aa (s.extract (bh s c) (fu s iri c))) && decide (fP s iri (kind != 3) (qP s iri (fu s iri c)) = s.size))) = true then o8 (nI s iri (kind != 3) c sch) else no9) := by
    obtain ⟨z, hz, h1, h2⟩ := wO s (bh s c) (o2 s c hc) hs iri sch (dZ s c) (jN s c)
    refine ah hz ?_
    cases hcol : jy (aa sch == []) (dZ s c) iri ((aa s).drop (bh s c))
    · have Ad := h2 hcol
      have hEe : bh s c + an 5 iri ((aa s).drop (bh s c)) = fu s iri c := rfl
      rw [hEe] at Ad
      subst Ad
      dsimp only
      rw [Bool.not_false, Bool.true_and]
      cases hsl : jI (dZ s c) (aa (s.extract (bh s c) (fu s iri c)))
      · exact ae (by simp) (Ev.val rfl)
      · refine ab rfl (ah (yL s (fu s iri c) hE hs iri sch (dZ s c) (jN s c) _ (kind != 3)) ?_)
        dsimp only
        rw [Bool.true_and]
        refine Ev.ite (fun h => ?_) (fun h => ?_)
        · refine Ev.val ?_
          rw [if_pos (decide_eq_true (by omega))]
          rfl
        · refine Ev.val ?_
          rw [if_neg (by rw [decide_eq_true_iff]; omega)]
    · have Ae := h1 hcol
      rw [Ae]
      exact ae (by simp) (Ev.val rfl)
  by_cases hA : ((aa s).drop c).take 2 = [47, 47]
  · have eA : dZ s c = true := by unfold dZ; rw [beq_iff_eq]; exact hA
    have eP : bh s c = eF (aa s) c := by unfold bh; rw [eA]; rfl
    have eU : jN s c = s.extract (c + 2) (eF (aa s) c) := by unfold jN; rw [eA]; rfl
    rw [if_pos hA] at hau
    refine ah hau ?_
    unfold jh
    rw [eP, eU, eA] at hgo
    rw [eP, eU, eA]
    cases hr : gF iri (bL (s.extract (c + 2) (eF (aa s) c)))
    · exact ae (by simp) (Ev.val (by simp))
    · refine ab rfl ?_
      dsimp only
      simp only [Bool.not_true, Bool.or_true, Bool.true_and]
      exact hgo
  · have eA : dZ s c = false := by unfold dZ; rw [beq_eq_false_iff_ne]; exact hA
    have eP : bh s c = c := by unfold bh; rw [eA]; rfl
    have eU : jN s c = nil8 := by unfold jN; rw [eA]; rfl
    rw [if_neg hA] at hau
    refine ah hau (ab rfl ?_)
    dsimp only
    unfold jh
    rw [eP, eU, eA] at hgo
    rw [eP, eU, eA]
    simp only [Bool.not_false, Bool.true_or, Bool.true_and]
    exact hgo
theorem tt {kind : Int} (h1 : 1 ≤ kind) (h5 : kind ≤ 5) : eR kind = some (decide (kind ≥ 4)) := by
  unfold eR
  by_cases h : kind = 4
  · rw [if_pos h]; simp [h]
  · rw [if_neg h]
    have : (kind == 5) = decide (kind ≥ 4) := by rw [Bool.eq_iff_iff, beq_iff_eq, decide_eq_true_iff]; omega
    rw [this]
def qQ (kind : Int) (s : ByteArray) : qR :=
  if okS (aa s) = true then (if jh s (decide (kind ≥ 4)) (kind != 3) (aa (s.extract 0 (pI (aa s))) == []) (pI (aa s) + 1) = true then o8 (nI s (decide (kind ≥ 4)) (kind != 3) (pI (aa s) + 1) (s.extract 0 (pI (aa s)))) else no9)
  else if kind = 2 ∨ kind = 5 then (if jh s (decide (kind ≥ 4)) (kind != 3) true 0 = true then o8 (nI s (decide (kind ≥ 4)) (kind != 3) 0 nil8) else no9) else no9
theorem yF (kind : Int) (h1 : 1 ≤ kind) (h5 : kind ≤ 5) (s : ByteArray) (hs : s.size ≤ 1000000) : Ev (fun k => fZ k kind s) (qQ kind s) := by
  unfold fZ qQ
  refine aG (tt h1 h5) ?_
  have hsc := uA s hs (decide (kind ≥ 4))
  have hI := ou (aa s)
  rw [af] at hI
  have hn : (aa nil8 == []) = true := by decide +kernel
  have r0 := qw s 0 (by omega) hs kind (decide (kind ≥ 4)) nil8
  rw [hn] at r0
  cases hok : okS (aa s)
  · rw [hok] at hsc
    simp only [Bool.false_eq_true, if_false] at hsc ⊢
    refine Ev.ite (fun h => ?_) (fun h => ?_)
    · rw [if_pos (.inl h)]
      refine ah hsc (ae (by simp) ?_)
      exact r0
    · refine ah hsc (ae (by simp) (Ev.ite (fun h' => ?_) (fun h' => ?_)))
      · rw [if_pos (.inr h')]
        exact r0
      · rw [if_neg (by omega)]
        exact Ev.val rfl
  · rw [hok] at hsc
    simp only [if_true] at hsc ⊢
    have hlt : pI (aa s) + 1 ≤ s.size := by
      unfold okS cS at hok
      rw [Bool.and_eq_true, Bool.and_eq_true, beq_iff_eq] at hok
      have := lY (by decide) hok.1.2
      rw [af] at this
      omega
    have r1 := qw s (pI (aa s) + 1) hlt hs kind (decide (kind ≥ 4)) (s.extract 0 (pI (aa s)))
    refine Ev.ite (fun h => ?_) (fun h => ?_)
    · refine ah hsc (ab rfl ?_)
      exact r1
    · refine ah hsc (ab rfl ?_)
      exact r1
theorem lX (s : ByteArray) (p m : Nat) : bt s ((p + m : Nat) : Int) = ((aa s).drop p).getD m 0 := by
  rw [List.getD_eq_getElem?_getD, List.getElem?_drop, ← List.getD_eq_getElem?_getD, iz]
theorem lQ {set l : List Int} {m : Nat} (h : m < aC set l) : l.getD m 0 ∉ set := by
  have hle := iL set l
  refine tF set l _ ?_
  rw [List.getD_eq_getElem?_getD, List.getElem?_eq_getElem (by omega)]
  have : l[m]'(by omega) = (l.take (aC set l))[m]'(by rw [List.length_take]; omega) := by rw [List.getElem_take]
  show l[m]'(by omega) ∈ _
  rw [this]
  exact List.getElem_mem _
theorem l9 {set l : List Int} (h : aC set l < l.length) : l.getD (aC set l) 0 ∈ set := by
  obtain ⟨b, t, e, hb⟩ := qT h
  have : l.getD (aC set l) 0 = b := by
    have h1 : (l.drop (aC set l))[0]? = some b := by rw [e]; rfl
    rw [List.getElem?_drop, Nat.add_zero] at h1
    rw [List.getD_eq_getElem?_getD, h1]; rfl
  rw [this]; exact hb
theorem xy : ∀ p : Int, (p = 4 ∨ p = 5) → ∀ c ∈ ([63, 35] : List Int), 0 ≤ c ∧ c < 128 ∧ c ≠ 37 ∧ hv c < 0 ∧ cn p c = false := by
  intro p hp c hc
  rcases hp with rfl | rfl <;> (simp only [List.mem_cons, List.mem_nil_iff, or_false] at hc; rcases hc with rfl | rfl <;> decide)
theorem zd : ∀ c ∈ ([35] : List Int), 0 ≤ c ∧ c < 128 ∧ c ≠ 37 ∧ hv c < 0 ∧ cn 6 c = false := by
  intro c hc
  simp only [List.mem_cons, List.mem_nil_iff, or_false] at hc
  subst hc; decide
theorem nW (s : ByteArray) (p n : Nat) : aa (s.extract p (p + n)) = ((aa s).drop p).take n := by
  rw [ay, List.drop_take]; congr 1; omega
theorem ms {p : Int} {iri : Bool} {l : List Int} {n : Nat} (hn : n ≤ l.length) : an p iri (l.take n) ≤ n ∧ (bn p iri (l.take n) = true ↔ an p iri (l.take n) = n) := by
  have h := hO p iri (l.take n)
  rw [List.length_take] at h
  refine ⟨by omega, ?_⟩
  unfold bn
  rw [beq_iff_eq, List.length_take]; omega
theorem nA {s : ByteArray} {iri fr : Bool} {e : Nat} (h : bt s (e : Int) ≠ 35) : fP s iri fr e = e := by unfold fP; rw [if_neg (fun h' => h h'.2)]
theorem o0 {s : ByteArray} {iri : Bool} {e : Nat} (h : bt s (e : Int) ≠ 63) : qP s iri e = e := by unfold qP; rw [if_neg h]
theorem vY (s : ByteArray) (iri fr : Bool) (p : Nat) (hp : p ≤ s.size) (he : aC [63, 35] ((aa s).drop p) = 0) :
    (decide (fP s iri fr (qP s iri p) = s.size) = (!(decide ((if bt s (p : Int) = 63 then dP (aa s) p else p) < s.size) && !fr) &&
      (bn 6 iri (aa (if bt s (p : Int) = 63 then s.extract (p + 1) (dP (aa s) p) else nil8)) &&
       bn 7 iri (aa (if (if bt s (p : Int) = 63 then dP (aa s) p else p) < s.size then s.extract ((if bt s (p : Int) = 63 then dP (aa s) p else p) + 1) s.size else nil8))))) ∧
    (fP s iri fr (qP s iri p) = s.size → (if bt s (p : Int) = 63 then s.extract (p + 1) (qP s iri p) else nil8) = (if bt s (p : Int) = 63 then s.extract (p + 1) (dP (aa s) p) else nil8) ∧
      decide (fr = true ∧ bt s (qP s iri p : Int) = 35) = decide ((if bt s (p : Int) = 63 then dP (aa s) p else p) < s.size) ∧
      (if fr = true ∧ bt s (qP s iri p : Int) = 35 then s.extract (qP s iri p + 1) (fP s iri fr (qP s iri p)) else nil8) = (if (if bt s (p : Int) = 63 then dP (aa s) p else p) < s.size then s.extract ((if bt s (p : Int) = 63 then dP (aa s) p else p) + 1) s.size else nil8)) := by
  have frag : ∀ f : Nat, f ≤ s.size → (f < s.size → bt s (f : Int) = 35) →
      (decide (fP s iri fr f = s.size) = (!(decide (f < s.size) && !fr) && bn 7 iri (aa (if f < s.size then s.extract (f + 1) s.size else nil8)))) ∧
      (fP s iri fr f = s.size → decide (fr = true ∧ bt s (f : Int) = 35) = decide (f < s.size) ∧ (if fr = true ∧ bt s (f : Int) = 35 then s.extract (f + 1) (fP s iri fr f) else nil8) = (if f < s.size then s.extract (f + 1) s.size else nil8)) := by
    intro f hf h35
    have n7 : bn 7 iri (aa nil8) = true := by
      have : aa nil8 = [] := by decide +kernel
      rw [this, la]
    rcases Nat.lt_or_ge f s.size with h | h
    · have hb := h35 h
      rw [decide_eq_true h, if_pos h]
      cases fr
      · have e1 : fP s iri false f = f := by unfold fP; rw [if_neg (by simp)]
        rw [e1]
        have : decide (f = s.size) = false := decide_eq_false (by omega)
        rw [this]
        exact ⟨by simp, fun h' => by omega⟩
      · have e1 : fP s iri true f = f + 1 + an 7 iri ((aa s).drop (f + 1)) := by unfold fP; rw [if_pos ⟨rfl, hb⟩]
        have hle := hO 7 iri ((aa s).drop (f + 1))
        rw [List.length_drop, af] at hle
        have e2 : aa (s.extract (f + 1) s.size) = (aa s).drop (f + 1) := ba s (f + 1)
        refine ⟨?_, fun h' => ?_⟩
        · rw [e1, e2]
          unfold bn
          rw [List.length_drop, af, Bool.eq_iff_iff]
          simp
          omega
        · rw [h', decide_eq_true ⟨rfl, hb⟩, if_pos ⟨rfl, hb⟩]
          exact ⟨rfl, rfl⟩
    · have hz := jw s h
      have hne : bt s (f : Int) ≠ 35 := by rw [hz]; decide
      have : decide (f < s.size) = false := decide_eq_false (by omega)
      rw [this, if_neg (by omega), nA hne, n7]
      have hfs : f = s.size := by omega
      have e3 : decide (fr = true ∧ bt s (f : Int) = 35) = false := decide_eq_false (fun h' => hne h'.2)
      refine ⟨?_, fun _ => ?_⟩
      · rw [decide_eq_true hfs]; simp
      · rw [e3, if_neg (fun h' => hne h'.2)]
        exact ⟨rfl, rfl⟩
  have n6 : bn 6 iri (aa nil8) = true := by
    have : aa nil8 = [] := by decide +kernel
    rw [this, la]
  by_cases hq : bt s (p : Int) = 63
  · simp only [if_pos hq]
    have hlt := ni (by decide) hq
    have hqe := ov (l := aa s) (p := p) (by rw [af]; exact hlt)
    rw [af] at hqe
    have hn := iL [35] ((aa s).drop (p + 1))
    have eq1 : dP (aa s) p = p + 1 + aC [35] ((aa s).drop (p + 1)) := rfl
    have hsp := nM 6 iri [35] zd ((aa s).drop (p + 1))
    have hst := ms (p := 6) (iri := iri) (l := (aa s).drop (p + 1)) hn
    have eqb : aa (s.extract (p + 1) (dP (aa s) p)) = ((aa s).drop (p + 1)).take (aC [35] ((aa s).drop (p + 1))) := by rw [eq1, nW]
    have eqp : qP s iri p = p + 1 + an 6 iri ((aa s).drop (p + 1)) := by unfold qP; rw [if_pos hq]
    rw [hsp] at eqp
    rw [eqb]
    cases h6 : bn 6 iri (((aa s).drop (p + 1)).take (aC [35] ((aa s).drop (p + 1))))
    · have hlt6 : an 6 iri (((aa s).drop (p + 1)).take (aC [35] ((aa s).drop (p + 1)))) < aC [35] ((aa s).drop (p + 1)) := by
        rcases Nat.lt_or_ge (an 6 iri (((aa s).drop (p + 1)).take (aC [35] ((aa s).drop (p + 1))))) (aC [35] ((aa s).drop (p + 1))) with h | h
        · exact h
        · have := hst.2.2 (by have := hst.1; omega)
          rw [this] at h6; cases h6
      have hne : bt s (qP s iri p : Int) ≠ 35 := by
        rw [eqp, lX]
        have := lQ hlt6
        simpa using this
      have hfp : fP s iri fr (qP s iri p) = qP s iri p := nA hne
      have hsz : qP s iri p < s.size := by omega
      have : decide (fP s iri fr (qP s iri p) = s.size) = false := decide_eq_false (by rw [hfp]; omega)
      rw [this]
      refine ⟨by simp, fun h' => ?_⟩
      rw [hfp] at h'
      omega
    · have hfull := hst.2.1 h6
      have eqq : qP s iri p = dP (aa s) p := by rw [eqp, hfull]; exact eq1.symm
      rw [eqq, Bool.true_and]
      have hf := frag (dP (aa s) p) hqe.2 (fun h => by
        have := l9 (set := [35]) (l := (aa s).drop (p + 1)) (by rw [List.length_drop, af]; omega)
        rw [eq1, lX]
        simpa using this)
      exact ⟨hf.1, fun h => ⟨rfl, hf.2 h⟩⟩
  · simp only [if_neg hq]
    rw [o0 hq, n6, Bool.true_and]
    have hf := frag p hp (fun h => by
      have := l9 (set := [63, 35]) (l := (aa s).drop p) (by rw [he, List.length_drop, af]; omega)
      rw [he, ← lX, Nat.add_zero] at this
      simp only [List.mem_cons, List.mem_nil_iff, or_false] at this
      exact this.resolve_left hq)
    exact ⟨hf.1, fun h => ⟨trivial, hf.2 h⟩⟩
theorem sH (set : List Int) (l : List Int) : aC set (l.drop (aC set l)) = 0 := by
  rcases pb set l with h | ⟨b, t, h, hb⟩
  · rw [h]; rfl
  · rw [h, lM]
    have : set.contains b = true := by simpa using hb
    rw [if_pos this]
theorem vP (s : ByteArray) (iri fr ns : Bool) (c : Nat) (hc : c ≤ s.size) (e : Nat) (he : e = cT (aa s) (bh s c)) (f : Nat) (hf : f = if bt s (e : Int) = 63 then dP (aa s) e else e) :
    (jh s iri fr ns c = ((!dZ s c || gF iri (bL (jN s c))) && (!(decide (f < s.size) && !fr) && (jM iri ns (dZ s c) (aa (s.extract (bh s c) e)) &&
      (bn 6 iri (aa (if bt s (e : Int) = 63 then s.extract (e + 1) (dP (aa s) e) else nil8)) && bn 7 iri (aa (if f < s.size then s.extract (f + 1) s.size else nil8))))))) ∧
    (jh s iri fr ns c = true → ∀ sch, nI s iri fr c sch = (sch, dZ s c, jN s c, s.extract (bh s c) e, decide (bt s (e : Int) = 63), if bt s (e : Int) = 63 then s.extract (e + 1) (dP (aa s) e) else nil8, decide (f < s.size), if f < s.size then s.extract (f + 1) s.size else nil8)) := by
  have hp := o2 s c hc
  have hn := iL [63, 35] ((aa s).drop (bh s c))
  have eE : e = bh s c + aC [63, 35] ((aa s).drop (bh s c)) := he
  have hel : e ≤ s.size := by rw [List.length_drop, af] at hn; omega
  have hpb : aa (s.extract (bh s c) e) = ((aa s).drop (bh s c)).take (aC [63, 35] ((aa s).drop (bh s c))) := by rw [eE, nW]
  have h5 := nM 5 iri [63, 35] (xy 5 (.inr rfl)) ((aa s).drop (bh s c))
  have h4 := nM 4 iri [63, 35] (xy 4 (.inl rfl)) ((aa s).drop (bh s c))
  have s5 := ms (p := 5) (iri := iri) (l := (aa s).drop (bh s c)) hn
  have s4 := ms (p := 4) (iri := iri) (l := (aa s).drop (bh s c)) hn
  have eRE : fu s iri c = bh s c + an 5 iri (((aa s).drop (bh s c)).take (aC [63, 35] ((aa s).drop (bh s c)))) := by unfold fu; rw [h5]
  unfold jh
  cases ha5 : bn 5 iri (aa (s.extract (bh s c) e))
  · have hlt : an 5 iri (((aa s).drop (bh s c)).take (aC [63, 35] ((aa s).drop (bh s c)))) < aC [63, 35] ((aa s).drop (bh s c)) := by
      rcases Nat.lt_or_ge (an 5 iri (((aa s).drop (bh s c)).take (aC [63, 35] ((aa s).drop (bh s c))))) (aC [63, 35] ((aa s).drop (bh s c))) with h | h
      · exact h
      · have := s5.2.2 (by have := s5.1; omega)
        rw [← hpb, ha5] at this; cases this
    have hno := lQ hlt
    rw [← lX, ← eRE] at hno
    simp only [List.mem_cons, List.mem_nil_iff, or_false, not_or] at hno
    have hq := o0 (iri := iri) hno.1
    have hfp := nA (iri := iri) (fr := fr) hno.2
    have hlt2 : fu s iri c < s.size := by rw [List.length_drop, af] at hn; omega
    have : decide (fP s iri fr (qP s iri (fu s iri c)) = s.size) = false := decide_eq_false (by rw [hq, hfp]; omega)
    rw [this]
    have hpl : jM iri ns (dZ s c) (aa (s.extract (bh s c) e)) = false := by unfold jM; rw [ha5]; rfl
    rw [hpl]
    simp
  · rw [hpb] at ha5
    have hfull := s5.2.1 ha5
    have eRe : fu s iri c = e := by rw [eRE, hfull, eE]
    have hag := sH [63, 35] ((aa s).drop (bh s c))
    rw [List.drop_drop, ← eE] at hag
    have tl := vY s iri fr e hel hag
    rw [← hf] at tl
    rw [eRe, tl.1]
    have hcol : (!jy ns (dZ s c) iri ((aa s).drop (bh s c)) && jI (dZ s c) (aa (s.extract (bh s c) e))) = jM iri ns (dZ s c) (aa (s.extract (bh s c) e)) := by
      have hg : (((aa s).drop (bh s c)).getD (an 4 iri ((aa s).drop (bh s c))) 0 == 58) = ((aa (s.extract (bh s c) e)).getD (an 4 iri (aa (s.extract (bh s c) e))) 0 == 58) := by
        rw [h4, hpb]
        generalize hm : an 4 iri (((aa s).drop (bh s c)).take (aC [63, 35] ((aa s).drop (bh s c)))) = m at s4
        rcases Nat.lt_or_ge m (aC [63, 35] ((aa s).drop (bh s c))) with h | h
        · congr 1
          rw [List.getD_eq_getElem?_getD, List.getD_eq_getElem?_getD, List.getElem?_take_of_lt h]
        · have hmn : m = aC [63, 35] ((aa s).drop (bh s c)) := by omega
          have e2 : (((aa s).drop (bh s c)).take (aC [63, 35] ((aa s).drop (bh s c)))).getD m 0 = 0 := by
            rw [List.getD_eq_getElem?_getD, List.getElem?_eq_none (by rw [List.length_take]; omega)]; rfl
          rw [e2]
          rcases Nat.lt_or_ge m ((aa s).drop (bh s c)).length with hl | hl
          · have := l9 (set := [63, 35]) (l := (aa s).drop (bh s c)) (by omega)
            rw [← hmn] at this
            simp only [List.mem_cons, List.mem_nil_iff, or_false] at this
            rcases this with h' | h' <;> rw [h'] <;> decide
          · rw [List.getD_eq_getElem?_getD, List.getElem?_eq_none hl]; decide
      unfold jy jI jM
      rw [hg, hpb, ha5, ← hpb]
      cases dZ s c <;> cases ns <;> simp [Bool.and_comm]
    refine ⟨?_, fun hok sch => ?_⟩
    · rw [← hcol]
      cases (!dZ s c || gF iri (bL (jN s c))) <;> cases (!(decide (f < s.size) && !fr)) <;> cases (!jy ns (dZ s c) iri ((aa s).drop (bh s c))) <;> simp
    · have hfe : fP s iri fr (qP s iri e) = s.size := by
        rw [← tl.1] at hok
        simp only [Bool.and_eq_true, decide_eq_true_iff] at hok
        exact hok.2.2.2
      have t2 := tl.2 hfe
      unfold nI
      rw [eRe, t2.1, t2.2.1, t2.2.2]
def jV (kind : Int) (s : ByteArray) : Bool := pT kind (bN s).1 (bN s).2.1 (bN s).2.2.1 (bN s).2.2.2.1 (bN s).2.2.2.2.2.1 (bN s).2.2.2.2.2.2.1 (bN s).2.2.2.2.2.2.2
theorem yg (s : ByteArray) : dZ s (pC (aa s)) = cA (aa s) := rfl
theorem yh (s : ByteArray) : bh s (pC (aa s)) = pP (aa s) := rfl
theorem px (s : ByteArray) (kind : Int) (ns : Bool) (sch : ByteArray) (hsch : sch = (bN s).1) (hns : ns = (aa sch == [])) (hk : (if aa sch = [] then kind == 2 || kind == 5 else hH (aa sch)) = true) :
    (jh s (decide (kind ≥ 4)) (kind != 3) ns (pC (aa s)) = jV kind s) ∧ (jh s (decide (kind ≥ 4)) (kind != 3) ns (pC (aa s)) = true → nI s (decide (kind ≥ 4)) (kind != 3) (pC (aa s)) sch = bN s) := by
  have hC := pp (aa s)
  rw [af] at hC
  have e63 : ∀ x : Int, decide (x = 63) = (x == 63) := fun x => by rw [Bool.eq_iff_iff, decide_eq_true_iff, beq_iff_eq]
  have hf : pF (aa s) = if bt s (cT (aa s) (pP (aa s)) : Int) = 63 then dP (aa s) (cT (aa s) (pP (aa s))) else cT (aa s) (pP (aa s)) := by
    unfold pF cQ
    rw [iz]
    by_cases h : bt s (cT (aa s) (pP (aa s)) : Int) = 63
    · rw [if_pos h, if_pos (beq_iff_eq.2 h)]
    · rw [if_neg h, if_neg (by rw [beq_iff_eq]; exact h)]
  have h := vP s (decide (kind ≥ 4)) (kind != 3) ns (pC (aa s)) hC (cT (aa s) (pP (aa s))) rfl (pF (aa s)) hf
  have hU : jN s (pC (aa s)) = (bN s).2.2.1 := rfl
  have hQ : decide (bt s (cT (aa s) (pP (aa s)) : Int) = 63) = cQ (aa s) := by unfold cQ; rw [iz, e63]
  have hq : (if bt s (cT (aa s) (pP (aa s)) : Int) = 63 then s.extract (cT (aa s) (pP (aa s)) + 1) (dP (aa s) (cT (aa s) (pP (aa s)))) else nil8) = (bN s).2.2.2.2.2.1 := by
    show _ = if cQ (aa s) = true then s.extract (cT (aa s) (pP (aa s)) + 1) (pF (aa s)) else nil8
    by_cases h : bt s (cT (aa s) (pP (aa s)) : Int) = 63
    · have hc : cQ (aa s) = true := by rw [← hQ]; exact decide_eq_true h
      rw [if_pos h, if_pos hc, hf, if_pos h]
    · have hc : cQ (aa s) = false := by rw [← hQ]; exact decide_eq_false h
      rw [if_neg h, hc]; rfl
  have hF : decide (pF (aa s) < s.size) = cF (aa s) := by unfold cF; rw [af]
  have hfr : (if pF (aa s) < s.size then s.extract (pF (aa s) + 1) s.size else nil8) = (bN s).2.2.2.2.2.2.2 := by
    show _ = if cF (aa s) = true then s.extract (pF (aa s) + 1) s.size else nil8
    by_cases h : pF (aa s) < s.size
    · rw [if_pos h, if_pos (by rw [← hF]; exact decide_eq_true h)]
    · have hc : cF (aa s) = false := by rw [← hF]; exact decide_eq_false h
      rw [if_neg h, hc]; rfl
  rw [hq, hfr, hQ, hF, hU, yg, yh] at h
  refine ⟨?_, fun hok => ?_⟩
  · rw [h.1]
    unfold jV pT
    rw [← hsch, hk, hns]
    have e3 : (cF (aa s) && !(kind != 3)) = (cF (aa s) && kind == 3) := by rw [bne, Bool.not_not]
    rw [e3]
    cases hc : cF (aa s) && kind == 3
    · have : ((bN s).2.2.2.2.2.2.1 && kind == 3) = false := hc
      rw [this, Bool.true_and]
      show _ = (true && ((!cA (aa s) || _) && _))
      simp
      rfl
    · have : ((bN s).2.2.2.2.2.2.1 && kind == 3) = true := hc
      rw [this]
      simp
  · rw [h.2 hok sch, hsch]
    rfl
theorem vA (s : ByteArray) (iri fr : Bool) (h : cS (aa s) = true) : jh s iri fr true 0 = false := by
  unfold cS at h
  rw [Bool.and_eq_true, decide_eq_true_iff, beq_iff_eq] at h
  have hlt := lY (by decide) h.2
  have hsz := hlt
  rw [af] at hsz
  have h0 := lQ (set := [58, 47, 63, 35]) (l := aa s) (m := 0) h.1
  have hA : dZ s 0 = false := by
    unfold dZ
    rw [List.drop_zero, beq_eq_false_iff_ne]
    intro h2
    have : (aa s).getD 0 0 = 47 := by
      cases e : aa s with
      | nil => rw [e] at h2; simp at h2
      | cons b t =>
        rw [e] at h2
        cases t with
        | nil => simp at h2
        | cons c u => simp at h2; simp [h2.1]
    rw [this] at h0
    simp at h0
  have hP : bh s 0 = 0 := by unfold bh; rw [hA]; rfl
  have hd : (aa s).drop (pI (aa s)) = 58 :: (aa s).drop (pI (aa s) + 1) := by
    rw [fJ hsz, ← iz, h.2]
  have e4 : an 4 iri (aa s) = an 4 iri ((aa s).take (pI (aa s))) := by
    conv => lhs; rw [l4 [58, 47, 63, 35] (aa s)]
    have hd' : (aa s).drop (aC [58, 47, 63, 35] (aa s)) = 58 :: (aa s).drop (pI (aa s) + 1) := hd
    rw [hd']
    exact rB 4 iri 58 _ (by decide) (by decide) (by decide) (by decide) (by decide) _ _ rfl
  have hle4 := hO 4 iri ((aa s).take (pI (aa s)))
  rw [List.length_take] at hle4
  unfold jh
  rw [hA, hP, List.drop_zero]
  by_cases hcol : (aa s).getD (an 4 iri (aa s)) 0 = 58
  · have : jy true false iri (aa s) = true := by unfold jy; rw [hcol]; rfl
    rw [this]; simp
  · have hm : an 4 iri (aa s) < pI (aa s) := by
      rcases Nat.lt_or_ge (an 4 iri (aa s)) (pI (aa s)) with h' | h'
      · exact h'
      · have : an 4 iri (aa s) = pI (aa s) := by omega
        rw [this] at hcol
        exact absurd h.2 hcol
    have hno := lQ (set := [58, 47, 63, 35]) (l := aa s) hm
    have hz4 : aT 4 iri ((aa s).drop (an 4 iri (aa s))) = 0 := by
      have h1 := ka (p := 4) (q := 4) (iri := iri) ⟨by decide, fun _ hr => hr⟩ _ (aa s) rfl
      exact (iJ 4 iri _).1 (by omega)
    have hz5 : aT 5 iri ((aa s).drop (an 4 iri (aa s))) = 0 := by
      by_cases h5 : aT 5 iri ((aa s).drop (an 4 iri (aa s))) = 0
      · exact h5
      · exfalso
        obtain ⟨t, ht⟩ := kK (fun b hb => lb s b (List.mem_of_mem_drop hb)) hz4 h5
        have hg : (aa s).getD (an 4 iri (aa s)) 0 = ((aa s).drop (an 4 iri (aa s))).getD 0 0 := by
          rw [List.getD_eq_getElem?_getD, List.getD_eq_getElem?_getD, List.getElem?_drop, Nat.add_zero]
        rw [hg] at hno
        rcases ht with ht | ht <;> (rw [ht] at hno; simp at hno)
    have e5 : an 5 iri (aa s) = an 4 iri (aa s) := by
      rw [ka (o7 iri) _ (aa s) rfl, (iJ 5 iri _).2 hz5, Nat.add_zero]
    have hE : fu s iri 0 = an 4 iri (aa s) := by unfold fu; rw [hP, List.drop_zero, e5, Nat.zero_add]
    rw [hE]
    rw [iz] at hno
    simp only [List.mem_cons, List.mem_nil_iff, or_false, not_or] at hno
    have hq := o0 (iri := iri) hno.2.2.1
    have hfp := nA (iri := iri) (fr := fr) hno.2.2.2
    have : decide (fP s iri fr (qP s iri (an 4 iri (aa s))) = s.size) = false := decide_eq_false (by rw [hq, hfp]; omega)
    rw [this]; simp
theorem vG (kind : Int) (h1 : 1 ≤ kind) (h5 : kind ≤ 5) (s : ByteArray) : qQ kind s = if jV kind s = true then o8 (bN s) else no9 := by
  have hI := ou (aa s)
  rw [af] at hI
  unfold qQ
  cases hc : cS (aa s)
  ·
    have hok : okS (aa s) = false := by unfold okS; rw [hc]; rfl
    have hC0 : pC (aa s) = 0 := by unfold pC; rw [hc]; rfl
    have hs1 : (bN s).1 = nil8 := by show (if cS (aa s) = true then _ else nil8) = _; rw [hc]; rfl
    have hn : aa nil8 = [] := by decide +kernel
    rw [hok]
    simp only [Bool.false_eq_true, if_false]
    by_cases hk : kind = 2 ∨ kind = 5
    · have h := px s kind true nil8 hs1.symm (by rw [hn]; rfl) (by rw [if_pos hn]; rcases hk with rfl | rfl <;> decide)
      rw [hC0] at h
      rw [if_pos hk, h.1]
      cases hm : jV kind s
      · rfl
      · rw [if_pos rfl, if_pos rfl, h.2 (by rw [h.1]; exact hm)]
    · rw [if_neg hk]
      have : jV kind s = false := by
        unfold jV pT
        rw [hs1, if_pos hn]
        have e2 : (kind == 2) = false := beq_eq_false_iff_ne.2 (fun h => hk (.inl h))
        have e5 : (kind == 5) = false := beq_eq_false_iff_ne.2 (fun h => hk (.inr h))
        rw [e2, e5]; rfl
      rw [this]; rfl
  · have hlt : pI (aa s) < s.size ∧ 0 < pI (aa s) := by
      have h := hc
      unfold cS at h
      rw [Bool.and_eq_true, decide_eq_true_iff, beq_iff_eq] at h
      have := lY (by decide) h.2
      rw [af] at this
      exact ⟨this, h.1⟩
    have hs1 : (bN s).1 = s.extract 0 (pI (aa s)) := by show (if cS (aa s) = true then _ else nil8) = _; rw [hc]; rfl
    have hne : aa (s.extract 0 (pI (aa s))) ≠ [] := by
      rw [nq]
      intro h
      have hl : ((aa s).take (pI (aa s))).length = 0 := by rw [h]; rfl
      rw [List.length_take, af] at hl
      omega
    cases hsl : hH ((aa s).take (pI (aa s)))
    · have hok : okS (aa s) = false := by unfold okS; rw [hsl, Bool.and_false]
      have : jV kind s = false := by
        unfold jV pT
        rw [hs1, if_neg hne, nq, hsl]; rfl
      rw [hok, this]
      simp only [Bool.false_eq_true, if_false]
      split
      · rw [vA s _ _ hc]; rfl
      · rfl
    · have hok : okS (aa s) = true := by unfold okS; rw [hc, hsl]; rfl
      have hC : pC (aa s) = pI (aa s) + 1 := by unfold pC; rw [hc]; rfl
      have h := px s kind (aa (s.extract 0 (pI (aa s))) == []) (s.extract 0 (pI (aa s))) hs1.symm rfl (by rw [if_neg hne, nq]; exact hsl)
      rw [hC] at h
      rw [hok, if_pos rfl, h.1]
      cases hm : jV kind s
      · rfl
      · rw [if_pos rfl, if_pos rfl, h.2 (by rw [h.1]; exact hm)]
end Go.Proofs.YtpmflpeckoeooaaGreatDoor.Y
namespace Go.Proofs.YtpmflpeckoeooaaGreatDoor.M
open Go Go.RowKit Go.Proofs.YtpmflpeckoeooaaGreatDoorW.PrintWords
def zi (set l : List Int) : Prop := l = [] ∨ ∃ b t, l = b :: t ∧ b ∈ set
def nC (hf : Bool) (f : List Int) : List Int := if hf then 35 :: f else []
def mm (hq : Bool) (q : List Int) : List Int := if hq then 63 :: q else []
def qK (ha : Bool) (aut : List Int) : List Int := if ha then 47 :: 47 :: aut else []
def uz (sch : List Int) : List Int := if sch = [] then [] else sch ++ [58]
def t7 (sch : List Int) (ha : Bool) (aut pth : List Int) (hq : Bool) (q : List Int) (hf : Bool) (f : List Int) : List Int :=
  uz sch ++ (qK ha aut ++ (pth ++ (mm hq q ++ nC hf f)))
structure Fit (sch : List Int) (ha : Bool) (aut pth q : List Int) : Prop where
  sch_free : ∀ b ∈ sch, b ∉ ([58, 47, 63, 35] : List Int)
  aut_free : ha = true → ∀ b ∈ aut, b ∉ ([47, 63, 35] : List Int)
  pth_slash : ha = true → zi [47] pth
  pth_no : ha = false → pth.take 2 ≠ [47, 47]
  pth_free : ∀ b ∈ pth, b ∉ ([63, 35] : List Int)
  q_free : ∀ b ∈ q, b ∉ ([35] : List Int)
  colon : sch = [] → ha = false → pth.getD (aC [58, 47] pth) 0 ≠ 58
end Go.Proofs.YtpmflpeckoeooaaGreatDoor.M
namespace Go.Proofs.YtpmflpeckoeooaaGreatDoor.Y
open Go.RowKit Go.Proofs.YtpmflpeckoeooaaGreatDoor.X Go.Proofs.YtpmflpeckoeooaaGreatDoor.M Go.Proofs.YtpmflpeckoeooaaGreatDoorW.PrintWords Go.Proofs.YtpmflpeckoeooaaGreatDoorW.PrintLast Go.Proofs.YtpmflpeckoeooaaGreatDoorW.PrintMore
def qM (p : kx) : List Int := t7 (aa p.1) p.2.1 (aa p.2.2.1) (aa p.2.2.2.1) p.2.2.2.2.1 (aa p.2.2.2.2.2.1) p.2.2.2.2.2.2.1 (aa p.2.2.2.2.2.2.2)
theorem tJ : aa nil8 = [] := by decide +kernel
theorem kX (l : List Int) {i j : Nat} (h : i ≤ j) (hj : j ≤ l.length) : (l.take j).drop i ++ l.drop j = l.drop i := by
  have e : l.drop i = (l.take j ++ l.drop j).drop i := by rw [List.take_append_drop]
  rw [e, List.drop_append_of_le_length (by rw [List.length_take]; omega)]
theorem ua (s : ByteArray) : qM (bN s) = aa s := by
  have hI := ou (aa s)
  have hC := pp (aa s)
  have hPl := zb (aa s)
  have hEl := pU (l := aa s) (p := pP (aa s)) hPl
  unfold qM bN t7
  dsimp only
  have e5 : nC (cF (aa s)) (aa (if cF (aa s) = true then s.extract (pF (aa s) + 1) s.size else nil8)) = (aa s).drop (pF (aa s)) := by
    cases h : cF (aa s)
    · unfold cF at h
      rw [decide_eq_false_iff_not] at h
      rw [List.drop_eq_nil_of_le (by omega)]; rfl
    · have h' := h
      unfold cF at h'
      rw [decide_eq_true_iff] at h'
      have hs : (aa s).getD (pF (aa s)) 0 = 35 := by
        unfold pF at h' ⊢
        cases hq : cQ (aa s)
        · rw [hq] at h'
          simp only [Bool.false_eq_true, if_false] at h' ⊢
          have hin : (aa s).getD (cT (aa s) (pP (aa s))) 0 ∈ ([63, 35] : List Int) := by
            have := l9 (set := [63, 35]) (l := (aa s).drop (pP (aa s))) (by rw [List.length_drop]; unfold cT at h'; omega)
            rw [List.getD_eq_getElem?_getD, List.getElem?_drop, ← List.getD_eq_getElem?_getD] at this
            exact this
          unfold cQ at hq
          rw [beq_eq_false_iff_ne] at hq
          simp only [List.mem_cons, List.mem_nil_iff, or_false] at hin
          exact hin.resolve_left hq
        · rw [hq] at h'
          simp only [if_true] at h' ⊢
          unfold dP at h' ⊢
          have := l9 (set := [35]) (l := (aa s).drop (cT (aa s) (pP (aa s)) + 1)) (by rw [List.length_drop]; omega)
          rw [List.getD_eq_getElem?_getD, List.getElem?_drop, ← List.getD_eq_getElem?_getD, List.mem_singleton] at this
          exact this
      show 35 :: aa (if true = true then s.extract (pF (aa s) + 1) s.size else nil8) = _
      rw [if_pos rfl, ba, List.drop_eq_getElem_cons h']
      rw [List.getD_eq_getElem?_getD, List.getElem?_eq_getElem h'] at hs
      have hs : (aa s)[pF (aa s)] = 35 := hs
      rw [hs]
  have e4 : mm (cQ (aa s)) (aa (if cQ (aa s) = true then s.extract (cT (aa s) (pP (aa s)) + 1) (pF (aa s)) else nil8)) ++ (aa s).drop (pF (aa s)) = (aa s).drop (cT (aa s) (pP (aa s))) := by
    cases h : cQ (aa s)
    · unfold pF; rw [h]; rfl
    · have h' := h
      unfold cQ at h'
      rw [beq_iff_eq] at h'
      have hlt := lY (by decide) h'
      have hq := ov hlt
      have e : pF (aa s) = dP (aa s) (cT (aa s) (pP (aa s))) := by unfold pF; rw [h]; rfl
      show 63 :: aa (if true = true then _ else nil8) ++ _ = _
      rw [if_pos rfl, e, List.drop_eq_getElem_cons hlt]
      rw [List.getD_eq_getElem?_getD, List.getElem?_eq_getElem hlt] at h'
      have h' : (aa s)[cT (aa s) (pP (aa s))] = 63 := h'
      rw [h', List.cons_append, ay]
      congr 1
      have := kX (aa s) hq.1 hq.2
      exact this
  have e3 : aa (s.extract (pP (aa s)) (cT (aa s) (pP (aa s)))) ++ (aa s).drop (cT (aa s) (pP (aa s))) = (aa s).drop (pP (aa s)) := by
    rw [ay]
    exact kX (aa s) hEl.1 hEl.2
  have e2 : qK (cA (aa s)) (aa (if cA (aa s) = true then s.extract (pC (aa s) + 2) (eF (aa s) (pC (aa s))) else nil8)) ++ (aa s).drop (pP (aa s)) = (aa s).drop (pC (aa s)) := by
    cases h : cA (aa s)
    · unfold pP; rw [h]; rfl
    · have h' := h
      unfold cA at h'
      rw [beq_iff_eq] at h'
      have hle := lW (oh h')
      have e : pP (aa s) = eF (aa s) (pC (aa s)) := by unfold pP; rw [h]; rfl
      have h2 := kX (aa s) hle.1 hle.2
      have h3 : (aa s).drop (pC (aa s)) = [47, 47] ++ (aa s).drop (pC (aa s) + 2) := by
        rw [← h', ← List.drop_drop, List.take_append_drop]
      rw [if_pos rfl, e, h3, ay, ← h2]
      rfl
  have e1 : uz (aa (if cS (aa s) = true then s.extract 0 (pI (aa s)) else nil8)) ++ (aa s).drop (pC (aa s)) = aa s := by
    cases h : cS (aa s)
    · unfold pC; rw [h, if_neg (by simp), tJ]; rfl
    · have h' := h
      unfold cS at h'
      rw [Bool.and_eq_true, decide_eq_true_iff, beq_iff_eq] at h'
      have hlt := lY (by decide) h'.2
      have e : pC (aa s) = pI (aa s) + 1 := by unfold pC; rw [h]; rfl
      have hb : aa (s.extract 0 (pI (aa s))) = (aa s).take (pI (aa s)) := by rw [ay, List.drop_zero]
      rw [if_pos rfl, hb, e]
      unfold uz
      rw [if_neg (by
        intro h0
        have := congrArg List.length h0
        rw [List.length_take, List.length_nil] at this
        omega)]
      have hd : (aa s).drop (pI (aa s)) = 58 :: (aa s).drop (pI (aa s) + 1) := by
        rw [List.drop_eq_getElem_cons hlt]
        have h2 := h'.2
        rw [List.getD_eq_getElem?_getD, List.getElem?_eq_getElem hlt] at h2
        have h2 : (aa s)[pI (aa s)] = 58 := h2
        rw [h2]
      rw [List.append_assoc, List.singleton_append, ← hd, List.take_append_drop]
  rw [e5, e4, e3, e2, e1]
end Go.Proofs.YtpmflpeckoeooaaGreatDoor.Y
namespace Go.Proofs.YtpmflpeckoeooaaGreatDoor.Y
open Go Go.RowKit Go.Proofs.YtpmflpeckoeooaaGreatDoor.X Go.Proofs.YtpmflpeckoeooaaGreatDoor.M Go.Proofs.YtpmflpeckoeooaaGreatDoorW.PrintWords Go.Proofs.YtpmflpeckoeooaaGreatDoorW.PrintLast Go.Proofs.YtpmflpeckoeooaaGreatDoorW.PrintMore
theorem ri (c : List UInt8) (b : UInt8) : (c.map fun b => (b.toNat : Int)).contains (b.toNat : Int) = c.contains b := by
  rw [Bool.eq_iff_iff, List.contains_iff_mem, List.contains_iff_mem, List.mem_map]
  constructor
  · rintro ⟨a, ha, e⟩
    have : a = b := UInt8.toNat_inj.1 (by omega)
    exact this ▸ ha
  · exact fun h => ⟨b, h, rfl⟩
theorem na (c : List UInt8) : ∀ l : List UInt8, Go.Lib.indexAny l c = if aC (c.map fun b => (b.toNat : Int)) (l.map fun b => (b.toNat : Int)) = l.length then -1 else (aC (c.map fun b => (b.toNat : Int)) (l.map fun b => (b.toNat : Int)) : Int)
  | [] => rfl
  | b :: l => by
    have ih := na c l
    have hle := iL (c.map fun b => (b.toNat : Int)) (l.map fun b => (b.toNat : Int))
    rw [List.length_map] at hle
    rw [Go.Lib.indexAny, List.map_cons, lM, ri, ih, List.length_cons]
    generalize aC (c.map fun b => (b.toNat : Int)) (l.map fun b => (b.toNat : Int)) = n at hle
    cases c.contains b
    · simp only [Bool.false_eq_true, if_false, beq_iff_eq]
      by_cases h : n = l.length
      · rw [if_pos h, if_pos rfl, if_pos (by omega)]
      · rw [if_neg h, if_neg (by omega), if_neg (by omega)]; omega
    · simp only [if_true]
      rw [if_neg (by omega)]; rfl
theorem wh (s set : ByteArray) (L : List Int) (hs : s.size ≤ 1000000) (hset : set.size ≤ 1000 ∧ set.data.toList.all (fun b => b.toNat < 128) = true) (hL : aa set = L) :
    fS s set = some (s.extract 0 (aC L (aa s)), s.extract (aC L (aa s)) s.size) := by
  subst hL
  unfold fS iK
  rw [if_pos ⟨by omega, hset⟩, Option.bind_some, na]
  have hle := iL (aa set) (aa s)
  rw [af] at hle
  have hl : s.data.toList.length = s.size := by rw [← af]; unfold aa; rw [List.length_map]
  rw [hl]
  show (if (if aC (aa set) (aa s) = s.size then (-1 : Int) else (aC (aa set) (aa s) : Int)) ≥ 0 then (if 0 ≤ (if aC (aa set) (aa s) = s.size then (-1 : Int) else (aC (aa set) (aa s) : Int)) then _ else _) else _) = _
  by_cases h : aC (aa set) (aa s) = s.size
  · rw [if_pos h, if_neg (by omega), h, jX, l8]
  · rw [if_neg h, if_pos (by omega), if_pos (by omega)]
    show (if (if aC (aa set) (aa s) = s.size then (-1 : Int) else (aC (aa set) (aa s) : Int)) ≤ (s.size : Int) then some (s.extract 0 (if aC (aa set) (aa s) = s.size then (-1 : Int) else (aC (aa set) (aa s) : Int)).toNat, s.extract (if aC (aa set) (aa s) = s.size then (-1 : Int) else (aC (aa set) (aa s) : Int)).toNat s.size) else none) = _
    rw [if_neg h, if_pos (by omega), Int.toNat_natCast]
theorem ra (s : ByteArray) {p : Nat} (n : Nat) (hp : p ≤ s.size) : (s.extract p s.size).extract 0 n = s.extract p (p + n) := by
  apply iE
  rw [ay, ba, nW, List.drop_zero]
theorem qb (s set : ByteArray) (L : List Int) (p : Nat) (hp : p ≤ s.size) (hs : s.size ≤ 1000000) (hset : set.size ≤ 1000 ∧ set.data.toList.all (fun b => b.toNat < 128) = true) (hL : aa set = L) :
    fS (s.extract p s.size) set = some (s.extract p (p + aC L ((aa s).drop p)), s.extract (p + aC L ((aa s).drop p)) s.size) := by
  rw [wh (s.extract p s.size) set L (by rw [eo]; omega) hset hL, ba, ra s _ hp, fz]
theorem sL (s z : ByteArray) : cq s z = some (if (aa s).take z.size = aa z then (s.extract z.size s.size, true) else (s, false)) := by
  have h := jY s z
  unfold cM at h
  have h' : cV s z = some (decide ((aa s).take z.size = aa z)) := by
    cases e : cV s z
    · rw [e] at h; cases h
    · rw [e] at h; simpa using h
  unfold cq ga
  rw [h', Option.bind_some]
  by_cases hp : (aa s).take z.size = aa z
  · have hz : z.size ≤ s.size := by
      have := congrArg List.length hp
      rw [List.length_take, af, af] at this
      omega
    rw [decide_eq_true hp, if_pos rfl, if_pos (by omega), if_pos (by omega), if_pos hp, Int.toNat_natCast]; rfl
  · rw [decide_eq_false hp, if_neg (by simp), if_neg hp]; rfl
theorem uZ (s z : ByteArray) (p : Nat) : cq (s.extract p s.size) z = some (if ((aa s).drop p).take z.size = aa z then (s.extract (p + z.size) s.size, true) else (s.extract p s.size, false)) := by
  rw [sL, ba, fz]
theorem p3 (s : ByteArray) (e : Nat) (c : Int) (hc : c ≠ 0) : ((aa s).drop e).take 1 = [c] ↔ bt s (e : Int) = c := by
  rcases Nat.lt_or_ge e s.size with h | h
  · rw [fJ (s := s) (n := e) h]
    simp
  · rw [jw s h, List.drop_of_length_le (by rw [af]; exact h)]
    constructor
    · intro h'; cases h'
    · intro h'; exact absurd h'.symm hc
theorem wq (s : ByteArray) (e : Nat) (c : Int) (hc : c ≠ 0) (z : ByteArray) (h1 : z.size = 1) (hz : aa z = [c]) :
    cq (s.extract e s.size) z = some (if bt s (e : Int) = c then (s.extract (e + 1) s.size, true) else (s.extract e s.size, false)) := by
  rw [uZ, h1, hz]
  by_cases h : bt s (e : Int) = c
  · rw [if_pos h, if_pos ((p3 s e c hc).2 h)]
  · rw [if_neg h, if_neg (fun h' => h ((p3 s e c hc).1 h'))]
theorem wd (s : ByteArray) (hs : s.size ≤ 1000000) (p : Nat) (hp : p ≤ s.size) (sch : ByteArray) (ha : Bool) (aut : ByteArray) :
    Ev (fun k => gm k (s.extract p s.size) sch ha aut nil8 false nil8 false nil8) (jv s sch ha aut p) := by
  have he := pU (l := aa s) (p := p) (by rw [af]; exact hp)
  rw [af] at he
  refine Ev.step (fun k => by rw [gm]) ?_
  refine aG (qb s _ [63, 35] p hp hs (by decide) yG) ?_
  dsimp only
  have hE : p + aC [63, 35] ((aa s).drop p) = cT (aa s) p := rfl
  rw [hE]
  have hat : cT (aa s) p < s.size → bt s (cT (aa s) p : Int) = 63 ∨ bt s (cT (aa s) p : Int) = 35 := by
    intro h
    have hin := l9 (set := [63, 35]) (l := (aa s).drop p) (by rw [List.length_drop, af]; omega)
    rw [← lX, hE] at hin
    simpa using hin
  obtain ⟨e, hE'⟩ : ∃ e, cT (aa s) p = e := ⟨_, rfl⟩
  rw [hE'] at he hat ⊢
  refine aG (wq s e 63 (by decide) _ rfl (by decide +kernel)) ?_
  unfold jv
  rw [hE']
  dsimp only
  by_cases hq : bt s (e : Int) = 63
  · have hlt := ni (by decide) hq
    have hqe := ov (l := aa s) (p := e) (by rw [af]; exact hlt)
    rw [af] at hqe
    have hb : (bt s (e : Int) == 63) = true := beq_iff_eq.2 hq
    rw [if_pos hq, hb]
    refine ab rfl (aG (qb s _ [35] (e + 1) (by omega) hs (by decide) xb) ?_)
    dsimp only
    have hF : e + 1 + aC [35] ((aa s).drop (e + 1)) = dP (aa s) e := rfl
    rw [hF]
    have hat2 : dP (aa s) e < s.size → bt s (dP (aa s) e : Int) = 35 := by
      intro h
      have hin := l9 (set := [35]) (l := (aa s).drop (e + 1)) (by rw [List.length_drop, af]; omega)
      rw [← lX, hF] at hin
      simpa using hin
    generalize dP (aa s) e = f at hqe hat2
    simp only [if_true]
    refine aG (wq s f 35 (by decide) _ rfl (by decide +kernel)) ?_
    by_cases hf : f < s.size
    · rw [if_pos (hat2 hf), decide_eq_true hf, if_pos hf]
      exact ab rfl (Ev.val rfl)
    · rw [if_neg (show ¬ bt s (f : Int) = 35 by rw [jw s (by omega)]; decide), decide_eq_false hf, if_neg hf]
      exact ae (by simp) (Ev.val rfl)
  · have hb : (bt s (e : Int) == 63) = false := beq_eq_false_iff_ne.2 hq
    rw [if_neg hq, hb]
    simp only [Bool.false_eq_true, if_false]
    refine aG (wq s e 35 (by decide) _ rfl (by decide +kernel)) ?_
    by_cases hf : e < s.size
    · have h35 := (hat hf).resolve_left hq
      rw [if_pos h35, decide_eq_true hf, if_pos hf]
      exact ab rfl (Ev.val rfl)
    · rw [if_neg (show ¬ bt s (e : Int) = 35 by rw [jw s (by omega)]; decide), decide_eq_false hf, if_neg hf]
      exact ae (by simp) (Ev.val rfl)
theorem wb (s : ByteArray) (hs : s.size ≤ 1000000) (c : Nat) (hc : c ≤ s.size) (sch : ByteArray) :
    Ev (fun k => gl k (s.extract c s.size) sch false nil8 nil8 false nil8 false nil8) (if ((aa s).drop c).take 2 = [47, 47] then jv s sch true (s.extract (c + 2) (eF (aa s) c)) (eF (aa s) c) else jv s sch false nil8 c) := by
  refine Ev.step (fun k => by rw [gl]) ?_
  have e2 : aa (⟨#[47, 47]⟩ : ByteArray) = [47, 47] := by decide +kernel
  have h := uZ s (⟨#[47, 47]⟩ : ByteArray) c
  rw [e2, show (⟨#[47, 47]⟩ : ByteArray).size = 2 from rfl] at h
  refine aG h ?_
  by_cases h2 : ((aa s).drop c).take 2 = [47, 47]
  · rw [if_pos h2, if_pos h2]
    have hc2 := oh h2
    rw [af] at hc2
    have ha := lW (l := aa s) (c := c) (by rw [af]; exact hc2)
    rw [af] at ha
    refine ab rfl (aG (qb s _ [47, 63, 35] (c + 2) hc2 hs (by decide) xc) ?_)
    exact wd s hs (eF (aa s) c) ha.2 sch true _
  · rw [if_neg h2, if_neg h2]
    exact ae (by simp) (wd s hs c hc sch false nil8)
theorem pH (s : ByteArray) (hs : s.size ≤ 1000000) : Ev (fun k => iB k s) (bN s) := by
  have hI := ou (aa s)
  rw [af] at hI
  have hC := pp (aa s)
  rw [af] at hC
  unfold iB
  have hj0 : Ev (fun k => gj k s (s.extract 0 (pI (aa s))) (s.extract (pI (aa s)) s.size) (cS (aa s)) nil8 false nil8 nil8 false nil8 false nil8) (bN s) := by
    refine Ev.step (fun k => by rw [gj]) ?_
    rw [oR]
    cases hc : cS (aa s)
    · have h0 : pC (aa s) = 0 := by unfold pC; rw [hc]; rfl
      rw [h0]
      have h := wb s hs 0 (by omega) nil8
      rw [jX] at h
      exact ae (by simp) h
    · have h0 : pC (aa s) = pI (aa s) + 1 := by unfold pC; rw [hc]; rfl
      rw [h0] at hC ⊢
      simp only [if_true]
      refine ab (by rw [eo]; omega) ?_
      rw [fz]
      exact wb s hs (pI (aa s) + 1) hC (s.extract 0 (pI (aa s)))
  have hcs : cS (aa s) = (decide (0 < pI (aa s)) && (bt s (pI (aa s) : Int) == 58)) := by unfold cS; rw [iz]
  refine aG (wh s _ [58, 47, 63, 35] hs (by decide) xd) ?_
  have e2 : aC [58, 47, 63, 35] (aa s) = pI (aa s) := rfl
  rw [e2]
  dsimp only
  have hnil : (s.extract 0 (pI (aa s))).toList = ([] : List UInt8) ↔ pI (aa s) = 0 := by
    rw [dx, ay, List.drop_zero]
    constructor
    · intro h
      have := congrArg List.length h
      rw [List.length_take, af, List.length_nil] at this
      omega
    · intro h; rw [h]; rfl
  refine Ev.ite (fun h => ?_) (fun h => ?_)
  · have : decide (0 < pI (aa s)) = false := decide_eq_false (by have := hnil.1 h; omega)
    rw [this, Bool.false_and] at hcs
    rw [hcs] at hj0
    exact hj0
  · have h1 : decide (0 < pI (aa s)) = true := decide_eq_true (Nat.pos_of_ne_zero fun e => h (hnil.2 e))
    rw [h1, Bool.true_and] at hcs
    refine aG (jY _ _) ?_
    have e58 : aa (⟨#[58]⟩ : ByteArray) = [58] := by decide +kernel
    rw [e58, ba]
    have e3 : decide (((aa s).drop (pI (aa s))).take (⟨#[58]⟩ : ByteArray).size = [58]) = cS (aa s) := by
      rw [hcs, Bool.eq_iff_iff, decide_eq_true_iff, beq_iff_eq]
      exact p3 s (pI (aa s)) 58 (by decide)
    rw [e3]
    exact hj0
theorem ue (s : ByteArray) : strOfNums (aa s) = s := by
  apply iE
  unfold aa strOfNums
  simp
theorem pG (l : List Int) (p : kx) (hl : l.length ≤ 10000000) (h3 : p.2.2.2.1.size ≤ 1000000) (h5 : p.2.2.2.2.2.1.size ≤ 1000000) (h7 : p.2.2.2.2.2.2.2.size ≤ 1000000) :
    Ev (fun k => fw k l p.1 p.2.1 p.2.2.1 p.2.2.2.1 p.2.2.2.2.1 p.2.2.2.2.2.1 p.2.2.2.2.2.2.1 p.2.2.2.2.2.2.2)
      (strOfNums (l ++ (aa p.2.2.2.1 ++ (mm p.2.2.2.2.1 (aa p.2.2.2.2.2.1) ++ nC p.2.2.2.2.2.2.1 (aa p.2.2.2.2.2.2.2))))) := by
  obtain ⟨sch, ha, aut, pth, hq, q, hf, f⟩ := p
  dsimp only at *
  refine Ev.step (fun k => by rw [fw]) ?_
  have L := fun s : ByteArray => af s
  refine ab (by omega) (aG rfl ?_)
  unfold mm nC
  cases hq <;> cases hf
  · exact ae (by simp) (ae (by simp) (Ev.val (by simp)))
  · refine ae (by simp) (ab rfl (ab (by rw [List.length_append, L]; omega) (aG rfl (ab (by rw [List.length_append, List.length_append, L, List.length_singleton]; omega) (Ev.val (by simp))))))
  · refine ab rfl (ab (by rw [List.length_append, L]; omega) (aG rfl (ab (by rw [List.length_append, List.length_append, L, List.length_singleton]; omega) (aG rfl (ae (by simp) (Ev.val (by simp)))))))
  · refine ab rfl (ab (by rw [List.length_append, L]; omega) (aG rfl (ab (by rw [List.length_append, List.length_append, L, List.length_singleton]; omega) (aG rfl (ab rfl (ab (by rw [List.length_append, List.length_append, List.length_append, L, L, List.length_singleton]; omega) (aG rfl (ab (by rw [List.length_append, List.length_append, List.length_append, List.length_append, L, L, List.length_singleton, List.length_singleton]; omega) (Ev.val (by simp))))))))))
theorem pE (l : List Int) (p : kx) (hl : l.length ≤ 1000001) (h2 : p.2.2.1.size ≤ 1000000) (h3 : p.2.2.2.1.size ≤ 1000000) (h5 : p.2.2.2.2.2.1.size ≤ 1000000) (h7 : p.2.2.2.2.2.2.2.size ≤ 1000000) :
    Ev (fun k => fv k l p.1 p.2.1 p.2.2.1 p.2.2.2.1 p.2.2.2.2.1 p.2.2.2.2.2.1 p.2.2.2.2.2.2.1 p.2.2.2.2.2.2.2)
      (strOfNums (l ++ (qK p.2.1 (aa p.2.2.1) ++ (aa p.2.2.2.1 ++ (mm p.2.2.2.2.1 (aa p.2.2.2.2.2.1) ++ nC p.2.2.2.2.2.2.1 (aa p.2.2.2.2.2.2.2)))))) := by
  have L := af p.2.2.1
  have e2 : aa (⟨#[47, 47]⟩ : ByteArray) = [47, 47] := by decide +kernel
  refine Ev.step (fun k => by rw [fv]) ?_
  unfold qK
  by_cases h : p.2.1 = true
  · rw [if_pos h]
    refine ab h (ab (by omega) (aG rfl (ab (by rw [e2, List.length_append]; simp only [List.length_cons, List.length_nil]; omega) ?_)))
    have hj := pG (l ++ aa (⟨#[47, 47]⟩ : ByteArray) ++ aa p.2.2.1) p (by rw [e2, List.length_append, List.length_append, L]; simp only [List.length_cons, List.length_nil]; omega) h3 h5 h7
    rw [e2] at hj
    have e : l ++ (47 :: 47 :: aa p.2.2.1 ++ (aa p.2.2.2.1 ++ (mm p.2.2.2.2.1 (aa p.2.2.2.2.2.1) ++ nC p.2.2.2.2.2.2.1 (aa p.2.2.2.2.2.2.2)))) = l ++ [47, 47] ++ aa p.2.2.1 ++ (aa p.2.2.2.1 ++ (mm p.2.2.2.2.1 (aa p.2.2.2.2.2.1) ++ nC p.2.2.2.2.2.2.1 (aa p.2.2.2.2.2.2.2))) := by simp
    rw [e, e2]
    exact hj
  · rw [if_neg h, List.nil_append]
    exact ae h (pG l p (by omega) h3 h5 h7)
theorem wa (p : kx) (h1 : p.1.size ≤ 1000000) (h2 : p.2.2.1.size ≤ 1000000) (h3 : p.2.2.2.1.size ≤ 1000000) (h5 : p.2.2.2.2.2.1.size ≤ 1000000) (h7 : p.2.2.2.2.2.2.2.size ≤ 1000000) :
    Ev (fun k => ip k p.1 p.2.1 p.2.2.1 p.2.2.2.1 p.2.2.2.2.1 p.2.2.2.2.2.1 p.2.2.2.2.2.2.1 p.2.2.2.2.2.2.2) (strOfNums (qM p)) := by
  have L := af p.1
  unfold ip qM t7 uz
  refine Ev.ite (fun h => ?_) (fun h => ?_)
  · rw [if_pos ((dx _).1 h)]
    exact pE [] p (by simp) h2 h3 h5 h7
  · rw [if_neg (fun h' => h ((dx _).2 h'))]
    refine ab (by simp only [List.length_nil]; omega) (aG rfl (ab (by rw [List.nil_append, L]; omega) ?_))
    have hj := pE ([] ++ aa p.1 ++ [58]) p (by simp only [List.nil_append, List.length_append, List.length_singleton, L]; omega) h2 h3 h5 h7
    rw [List.nil_append] at hj ⊢
    exact hj
theorem nR (s : ByteArray) (hs : s.size ≤ 1000000) :
    Ev (fun k => ip k (bN s).1 (bN s).2.1 (bN s).2.2.1 (bN s).2.2.2.1 (bN s).2.2.2.2.1 (bN s).2.2.2.2.2.1 (bN s).2.2.2.2.2.2.1 (bN s).2.2.2.2.2.2.2) s := by
  have hp : ∀ i j, (s.extract i j).size ≤ 1000000 := fun i j => by rw [ByteArray.size_extract]; omega
  have hn : nil8.size ≤ 1000000 := by decide
  have ha : ∀ (c : Bool) i j, (if c = true then s.extract i j else nil8).size ≤ 1000000 := fun c i j => by cases c; exact hn; exact hp i j
  have h := wa (bN s) (ha _ _ _) (ha _ _ _) (hp _ _) (ha _ _ _) (ha _ _ _)
  rw [ua, ue] at h
  exact h
end Go.Proofs.YtpmflpeckoeooaaGreatDoor.Y
namespace Go.Proofs.YtpmflpeckoeooaaGreatDoor.Y
open Go.RowKit Go.Proofs.YtpmflpeckoeooaaGreatDoor.X Go.Proofs.YtpmflpeckoeooaaGreatDoor.M Go.Proofs.YtpmflpeckoeooaaGreatDoorW.PrintWords Go.Proofs.YtpmflpeckoeooaaGreatDoorW.PrintLast Go.Proofs.YtpmflpeckoeooaaGreatDoorW.PrintMore
abbrev qS := ByteArray × Bool × ByteArray × ByteArray × Bool × ByteArray × Bool × ByteArray × Int
def kC (e : Int) : qS := (nil8, false, nil8, nil8, false, nil8, false, nil8, e)
def ok9 (p : kx) : qS := (p.1, p.2.1, p.2.2.1, p.2.2.2.1, p.2.2.2.2.1, p.2.2.2.2.2.1, p.2.2.2.2.2.2.1, p.2.2.2.2.2.2.2, 0)
def ll (kind : Int) (s : ByteArray) : qS :=
  if kind < 1 ∨ 5 < kind then kC 1 else if 65535 < s.size then kC 2 else if 4 ≤ kind ∧ mR (aa s) = false then kC 3
  else if jV kind s = true then ok9 (bN s) else kC 4
theorem wM (kind : Int) (h1 : 1 ≤ kind) (h5 : kind ≤ 5) (s : ByteArray) (hs : s.size ≤ 1000000) (x : Bool) :
    Ev (fun k => di k kind s x) (if x = true then kC 3 else if jV kind s = true then ok9 (bN s) else kC 4) := by
  refine Ev.step (fun k => by rw [di]) ?_
  cases x
  · refine ae (by simp) (ah (yF kind h1 h5 s hs) ?_)
    rw [vG kind h1 h5 s]
    cases hm : jV kind s
    · exact ae (by simp [no9]) (Ev.val (by simp [kC]))
    · exact ab (by simp [o8]) (Ev.val (by simp [ok9, o8]))
  · exact ab rfl (Ev.val (by simp [kC]))
theorem rn (kind : Int) (s : ByteArray) : Ev (fun k => eS k kind s) (ll kind s) := by
  have bad : Ev (fun k => cH k kind s true) (kC 1) := by
    refine Ev.step (fun k => by rw [cH]) ?_
    exact ab rfl (Ev.val rfl)
  unfold eS ll
  by_cases h1 : kind < 1
  · rw [if_pos (.inl h1)]; exact ab h1 bad
  · refine ae h1 ?_
    by_cases h5 : 5 < kind
    · rw [if_pos (.inr h5), decide_eq_true (show kind > 5 from h5)]; exact bad
    · rw [if_neg (by omega), decide_eq_false (show ¬ kind > 5 from h5)]
      refine Ev.step (fun k => by rw [cH]) ?_
      refine ae (by simp) ?_
      by_cases hs : 65535 < s.size
      · rw [if_pos hs]; exact ab (by omega) (Ev.val rfl)
      · rw [if_neg hs]
        refine ae (by omega) (aG (tt (by omega) (by omega)) ?_)
        have hj := wM kind (by omega) (by omega) s (by omega)
        by_cases h4 : 4 ≤ kind
        · refine ab (decide_eq_true h4) (ah (yn s (by omega)) ?_)
          have h := hj (!mR (aa s))
          cases hw : mR (aa s)
          · rw [if_pos ⟨h4, rfl⟩]; rw [hw] at h; exact h
          · rw [if_neg (by simp)]; rw [hw] at h; exact h
        · refine ae (by rw [decide_eq_true_iff]; omega) ?_
          rw [if_neg (by omega)]
          exact hj false
theorem uN (kind : Int) (s : ByteArray) : Ev (fun k => dn k kind s) ((ll kind s).2.2.2.2.2.2.2.2 == 0) := by
  unfold dn
  exact ah (rn kind s) (az _)
theorem sT (kind : Int) (h1 : 1 ≤ kind) (h5 : kind ≤ 5) (s : ByteArray) (hs : s.size ≤ 1000000) (x : Bool) :
    Ev (fun k => dL k kind s x) (if x = true then kC 3 else if jV kind s = true then ok9 (bN s) else kC 4) := by
  refine Ev.step (fun k => by rw [dL]) ?_
  have hp : ∀ i j, (s.extract i j).size ≤ 1000000 := fun i j => by rw [ByteArray.size_extract]; omega
  have hn : nil8.size ≤ 1000000 := by decide
  have ha : ∀ (c : Bool) i j, (if c = true then s.extract i j else nil8).size ≤ 1000000 := fun c i j => by cases c; exact hn; exact hp i j
  cases x
  · refine ae (by simp) (ah (us s (by omega)) ?_)
    refine ah (un kind _ _ _ _ _ _ _ _ (ha _ _ _) (ha _ _ _) (hp _ _) (ha _ _ _) (ha _ _ _)) ?_
    show Ev (fun k => if jV kind s = true then _ else _) _
    cases hm : jV kind s
    · exact ae (by simp) (Ev.val (by simp [kC]))
    · exact ab rfl (Ev.val (by simp [ok9]))
  · exact ab rfl (Ev.val (by simp [kC]))
theorem uo (kind : Int) (s : ByteArray) : Ev (fun k => fQ k kind s) (ll kind s) := by
  have bad : Ev (fun k => cR k kind s true) (kC 1) := by
    refine Ev.step (fun k => by rw [cR]) ?_
    exact ab rfl (Ev.val rfl)
  unfold fQ ll
  by_cases h1 : kind < 1
  · rw [if_pos (.inl h1)]; exact ab h1 bad
  · refine ae h1 ?_
    by_cases h5 : 5 < kind
    · rw [if_pos (.inr h5), decide_eq_true (show kind > 5 from h5)]; exact bad
    · rw [if_neg (by omega), decide_eq_false (show ¬ kind > 5 from h5)]
      refine Ev.step (fun k => by rw [cR]) ?_
      refine ae (by simp) ?_
      by_cases hs : 65535 < s.size
      · rw [if_pos hs]; exact ab (by omega) (Ev.val rfl)
      · rw [if_neg hs]
        refine ae (by omega) ?_
        have hj := sT kind (by omega) (by omega) s (by omega)
        by_cases h4 : 4 ≤ kind
        · refine ab h4 (ah (um s (by omega)) ?_)
          have h := hj (decide (dC (aa s) ≥ 0))
          cases hw : mR (aa s)
          · rw [if_pos ⟨h4, rfl⟩]
            unfold mR at hw
            rw [decide_eq_false_iff_not] at hw
            rw [decide_eq_true (show dC (aa s) ≥ 0 by omega)] at h ⊢; exact h
          · rw [if_neg (by simp)]
            unfold mR at hw
            rw [decide_eq_true_iff] at hw
            rw [decide_eq_false (show ¬ dC (aa s) ≥ 0 by omega)] at h ⊢; exact h
        · refine ae h4 ?_
          rw [if_neg (by omega)]
          exact hj false
end Go.Proofs.YtpmflpeckoeooaaGreatDoor.Y
namespace Go.Proofs.YtpmflpeckoeooaaGreatDoor.Y
open Go.RowKit Go.Proofs.YtpmflpeckoeooaaGreatDoor.X Go.Proofs.YtpmflpeckoeooaaGreatDoor.M Go.Proofs.YtpmflpeckoeooaaGreatDoorW.PrintWords Go.Proofs.YtpmflpeckoeooaaGreatDoorW.PrintLast Go.Proofs.YtpmflpeckoeooaaGreatDoorW.PrintMore
set_option maxRecDepth 100000 in
theorem k9 : Ev (fun k => bG k) true := lL (fun k => my k) (k := 60) (by decide +kernel)
end Go.Proofs.YtpmflpeckoeooaaGreatDoor.Y
namespace Go.Proofs.YtpmflpeckoeooaaGreatDoor.Pure
open Go.RowKit Go.Proofs.YtpmflpeckoeooaaGreatDoor.X Go.Proofs.YtpmflpeckoeooaaGreatDoor.M Go.Proofs.YtpmflpeckoeooaaGreatDoor.Y Go.Proofs.YtpmflpeckoeooaaGreatDoorW.PrintWords Go.Proofs.YtpmflpeckoeooaaGreatDoorW.PrintLast Go.Proofs.YtpmflpeckoeooaaGreatDoorW.PrintMore
theorem pq {kind : Int} {s : ByteArray} (h : (ll kind s).2.2.2.2.2.2.2.2 = 0) : ll kind s = ok9 (bN s) := by
  unfold ll at h ⊢
  by_cases h1 : kind < 1 ∨ 5 < kind
  · rw [if_pos h1] at h; exact absurd h (by decide)
  · rw [if_neg h1] at h ⊢
    by_cases h2 : 65535 < s.size
    · rw [if_pos h2] at h; exact absurd h (by decide)
    · rw [if_neg h2] at h ⊢
      by_cases h3 : 4 ≤ kind ∧ mR (aa s) = false
      · rw [if_pos h3] at h; exact absurd h (by decide)
      · rw [if_neg h3] at h ⊢
        by_cases h4 : jV kind s = true
        · rw [if_pos h4]
        · rw [if_neg h4] at h; exact absurd h (by decide)
theorem SyntaxParses : kF := by
  intro kind s _ _
  refine uK (r := true) ?_
  unfold e7
  refine Ev.ite (fun _ => ah k9 (az _)) (fun hs => ?_)
  refine ah (rn kind s) (ah (uo kind s) (ab (by simp) (ab rfl (ah (uN kind s) (ab (by simp) ?_)))))
  have hof : eR kind = some (kind == 4 || kind == 5) := by
    unfold eR
    by_cases h : kind = 4
    · rw [if_pos h, h]; rfl
    · rw [if_neg h, show (kind == 4) = false from beq_eq_false_iff_ne.2 h, Bool.false_or]
  refine aG hof ?_
  refine Ev.ite (fun h4 => ?_) (fun h4 => ?_)
  · refine ab (by rw [h4]; rfl) (Ev.ite (fun h0 => ?_) (fun _ => ah k9 (az _)))
    rw [pq h0]
    exact ah (nR s (by omega)) (ab rfl (ah (pH s (by omega)) (ab (by simp [ok9]) (ah k9 (az _)))))
  · refine ab (by rw [show (kind == 4) = false from beq_eq_false_iff_ne.2 h4]; simp) (Ev.ite (fun h0 => ?_) (fun _ => ah k9 (az _)))
    rw [pq h0]
    exact ah (nR s (by omega)) (ab rfl (ah (pH s (by omega)) (ab (by simp [ok9]) (ah k9 (az _)))))
end Go.Proofs.YtpmflpeckoeooaaGreatDoor.Pure
namespace Go.Proofs.YtpmflpeckoeooaaGreatDoor.syntaxParses
open Go.ChangeShapes Go.WideShapes Go.ChangeAt Go.RowKit
open Go.ChangeMaps (open_string shut_string)
theorem own : ownKnob Tryz.prog.godebug = none := by kernel_rfl
theorem gw_len {W : World} (h : W.ShapedOpen Tryz.prog) : ∃ m, W.cell? ⟨0, 0, none⟩ = some (.int .i64 m) :=
  Go.Proofs.cell_of_shapedOpen_int (g := 0) (t := 3) (zero := #[.int .i64 0]) h (of_decide_eq_true (by kernel_rfl)) (by kernel_rfl) rfl (by kernel_rfl) (by kernel_rfl) Tryz.underlying3
theorem gw {W : World} (h : W.ShapedOpen Tryz.prog) (hL0 : laidMetH Tryz.prog Rows.syntaxParsesRow.laid W) : X.GW W := ⟨gw_len h⟩
set_option maxRecDepth 100000 in
theorem contract (H : Type) (enc : TypeId × Value → H) (W : World) (base : Nat) (args : Array Value) (ds gs : List (DataW H)) (before : List MemPlace)
    (hval0 : ∀ (j : Nat) t v, Tryz.f5.params[j]? = some t → args[j]? = some v → Value.okWide Tryz.prog W .any base t v)
    (hW : DataW.Whole enc Tryz.prog Tryz.f5.params.toList Rows.syntaxParsesSpec.vars false W args.toList ds gs before)
    (hsz0 : (DataW.weightsEach Tryz.prog (Tryz.f5.params.toList ++ Rows.syntaxParsesSpec.plain.varTypes Tryz.prog) (ds ++ gs)).all (· ≤ reachBytes) = true) (hsh : W.ShapedOpen Tryz.prog) (hL : laidMetH Tryz.prog Rows.syntaxParsesRow.laid W) :
    Calls Tryz.prog 5 args W fun e W' => ∃ v, e = .returned v ∧ Rows.syntaxParsesSpec.post enc Tryz.prog Tryz.f5 false true false false W args v W' := by
  have hsz : (DataW.weightsEach Tryz.prog (Tryz.f5.params.toList ++ Rows.syntaxParsesSpec.plain.varTypes Tryz.prog) (ds ++ gs)).all (· ≤ reachBytes) = true := hsz0
  have jz : ∀ (j : Nat) t v, Tryz.f5.params[j]? = some t → args[j]? = some v → Value.okWide Tryz.prog W .any base t v := hval0
  have hW' := hW
  obtain ⟨p, q, hA0, hV, rfl, hfz, hnd⟩ := hW
  have hA : DataW.TrodAll enc Tryz.prog W 0 (fun _ => true) true Tryz.f5.params.toList args.toList ds p := hA0
  rw [Tryz.params5] at hA jz hsz
  obtain ⟨v0, vs0, d0, ds0, p0, q0, hargs, rfl, rfl, h0, r0⟩ := trodAll_cons hA
  obtain ⟨v1, vs1, d1, ds1, p1, q1, rfl, rfl, rfl, h1, r1⟩ := trodAll_cons r0
  obtain ⟨rfl, rfl, rfl⟩ := trodAll_nil r1
  obtain rfl : args = #[v0, v1] := by cases args; simp_all
  obtain ⟨rfl, rfl⟩ := trodVars_none hV
  obtain ⟨a0, rfl, rfl, rfl, w0⟩ := open_int Tryz.underlying3 (jz 0 3 v0 rfl rfl) h0
  obtain ⟨a1, rfl, rfl, rfl, y1⟩ := open_string Tryz.underlying9 (jz 1 9 v1 rfl rfl) h1
  have w1 : a1.size ≤ 140737488351232 := by
    have z := sized_string hsz (j := 1) (t := 9) rfl rfl
    rw [Array.length_toList] at z
    exact z
  clear hA0 hval0 hsz0 hsz
  obtain ⟨k, hk⟩ := Pure.SyntaxParses a0 a1 w0 w1
  refine (X.kw k a0 a1 true W (gw hsh hL) hk).mono fun e W' ⟨he, bel0⟩ => ?_
  have bel : Below W.heap.size W W' := bel0
  subst he
  exact ⟨_, rfl, _, _, _, [], _, [], hW', trodAll_mk1 (shut_bool Tryz.underlying4 _), (trodAll_cons_mk (shut_int Tryz.underlying3 w0) (trodAll_cons_mk (shut_string Tryz.underlying9 y1) trodAll_mk0)), rfl, bel.frame _, fun h => by cases h⟩
def flat : Nat → DataW Unit → List Value
  | 0, _ => []
  | k + 1, .agg l => l.flatMap (flat k)
  | _ + 1, .lit (.int kd n) => [.int kd n]
  | _ + 1, .lit (.bool b) => [.bool b]
  | _ + 1, _ => []
def layAt (g : Nat) (cs : List Value) (h : Array Obj) : Array Obj := h.modify g fun
  | .cells _ t frozen => .cells cs.toArray t frozen
  | x => x
noncomputable def oa (os : Os) : World := { World.holding Tryz.prog os ⟨#[], #[], []⟩ with heap := layAt 1 (flat 9 Rows.laid_unicode_utf8_first) (layAt 2 (flat 9 Rows.laid_unicode_utf8_acceptRanges) ((World.holding Tryz.prog os ⟨#[], #[], []⟩).heap)) }
theorem laid_met (os : Os) : laidMet Tryz.prog Rows.syntaxParsesRow.laid ((oa os).forCall (fun _ _ => 0) ⟨#[], #[.int .i64 0, .string ByteArray.empty], []⟩).memory :=
  laidMet_of_run' 8 (by kernel_rfl) (by kernel_rfl)
theorem reads (os : Os) {H : Type} (enc : TypeId × Value → H) : ∃ places, DataW.whole enc Tryz.prog ((oa os).forCall (fun _ _ => 0) ⟨#[], #[.int .i64 0, .string ByteArray.empty], []⟩).memory Tryz.f5.params.toList Rows.syntaxParsesSpec.vars false (#[.int .i64 0, .string ByteArray.empty] : Array Value).toList 8 = some ([.lit (.int .i64 0), .lit (.string [])], [], places) :=
  ⟨[], by kernel_rfl⟩
set_option maxRecDepth 100000 in
theorem lifted (os : Os) (started : os.Started) (H : Type) (enc : TypeId × Value → H) (F : Stop.Interp) :
    ReturnsInHanded {} Tryz.checked os 5 .any ((OpenSpec.ofChange Rows.syntaxParsesSpec).preRow enc Tryz.prog Tryz.f5 Rows.syntaxParsesRow.domain false Rows.syntaxParsesRow.laid) (((OpenSpec.ofChange Rows.syntaxParsesSpec).at F).post enc Tryz.prog Tryz.f5 false true false false) := by
  obtain ⟨places, hx⟩ := reads os enc
  refine returnsInHanded_of_row (C := Tryz.checked) (s := OpenSpec.ofChange Rows.syntaxParsesSpec) own started (by kernel_rfl) Tryz.func5
    (witness_row_at (enc := enc) (C := Tryz.checked) false (oa os) #[.int .i64 0, .string ByteArray.empty] rfl (by kernel_rfl) (by kernel_rfl) (by kernel_rfl)
      (OpenSpec.preRow_of_cond 8 hx (by kernel_rfl) (fun k hk => by cases hk) (by kernel_rfl) (laid_met os))) ?_
  intro W base args ds gs before jz hW _ _ hsz hL hsh _
  exact contract H enc W base args ds gs before jz hW hsz hsh hL
theorem said : Rows.SyntaxParsesSaid :=
  OpenClaim.holds_of_cond 5 Tryz.f5 rfl rfl rfl rfl rfl rfl rfl ⟨rfl, rfl, rfl, rfl, rfl⟩ rfl rfl rfl rfl rfl (by kernel_rfl) Tryz.func5 (by kernel_rfl)
    (of_decide_eq_true (by kernel_rfl)) (by unfold Func.isWrapper; first | (rw [if_pos (by decide +kernel)]; kernel_rfl) | (rw [if_neg (by decide +kernel)]; exact ⟨rfl, rfl⟩))
    (fun os started H enc _ F => by rw [OpenClaim.pre_eq_preRow]; exact lifted os started H enc F)
theorem plain (f : FuncId) (fn : Func) (hf : Tryz.pinned.checked.prog.funcNamed "moniker/monikerlaw22.SyntaxParses" = some f) (hfn : Tryz.pinned.checked.prog.funcs[f]? = some fn) :
    false = Tryz.pinned.checked.prog.looks [] ∧ ∀ (j : Nat) t, fn.params[j]? = some t → Tryz.pinned.checked.prog.wantsStandIn t = false := by
  obtain rfl : f = 5 := Option.some.inj ((show Tryz.prog.funcNamed "moniker/monikerlaw22.SyntaxParses" = some 5 by kernel_rfl).symm.trans hf) |>.symm
  obtain rfl : fn = Tryz.f5 := (Option.some.inj (Tryz.func5.symm.trans hfn)).symm
  refine ⟨by kernel_rfl, fun j t ht => ?_⟩
  rw [Tryz.params5] at ht
  have hm := Array.mem_of_getElem? ht
  simp only [List.mem_cons, List.mem_toArray, List.mem_nil_iff, or_false] at hm
  rcases hm with rfl | rfl
  · exact (show Tryz.prog.wantsStandIn 3 = false by kernel_rfl)
  · exact (show Tryz.prog.wantsStandIn 9 = false by kernel_rfl)
theorem card : Rows.SyntaxParsesCardSaid :=
  Claim7.holds_tied_plain_at .later [] _ _ _ _ said (fun _ h => by cases h) (by kernel_rfl) (fun _ h => by cases h) syntaxParses_row_tie rfl ⟨rfl, rfl⟩ (by kernel_rfl) rfl plain (by kernel_rfl)
#print axioms card
end Go.Proofs.YtpmflpeckoeooaaGreatDoor.syntaxParses
namespace Go.Proofs.YtpmflpeckoeooaaGreatDoor
theorem syntaxParses_card : Rows.SyntaxParsesCardSaid := syntaxParses.card
end Go.Proofs.YtpmflpeckoeooaaGreatDoor
