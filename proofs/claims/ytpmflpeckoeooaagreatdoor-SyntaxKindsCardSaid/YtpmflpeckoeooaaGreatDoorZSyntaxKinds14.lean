/- The law SyntaxKinds of layer 22, for every input: Which kinds a text is of is what the document says; kinds lie within one another. No condition beside the row's own. -/
import Derived.Test.YtpmflpeckoeooaaGreatDoorZSyntaxKinds1
import Derived.Test.YtpmflpeckoeooaaGreatDoorZSyntaxKinds2
import Derived.Test.YtpmflpeckoeooaaGreatDoorZSyntaxKinds5
import Derived.Test.YtpmflpeckoeooaaGreatDoorZSyntaxKinds6
import Derived.Test.YtpmflpeckoeooaaGreatDoorZSyntaxKinds7
import Derived.Test.YtpmflpeckoeooaaGreatDoorZSyntaxKinds10
import Derived.Test.YtpmflpeckoeooaaGreatDoorZSyntaxKinds13
import Derived.Test.YtpmflpeckoeooaaGreatDoorRows
import Derived.Test.YtpmflpeckoeooaaGreatDoorCards
import Derived.Test.YtpmflpeckoeooaaGreatDoorTie
import Derived.WalkKit
import Derived.ProofKit
import Derived.OpenShut
import Derived.ShutString
import Derived.ChangeOld
import Derived.Below
import Derived.SizedLaws
import Derived.ChangeArms
import Derived.Lib.SmallJoins
import Derived.Deep.DeepHandedRow
import Derived.Lib.LaidTab
import Derived.Shelf.Vars
import Derived.MakeChecks
set_option linter.unusedSimpArgs false
set_option linter.unusedVariables false
namespace Go.Proofs.YtpmflpeckoeooaaGreatDoor.Y
open Go.RowKit Go.Proofs.YtpmflpeckoeooaaGreatDoor.X Go.Proofs.YtpmflpeckoeooaaGreatDoor.M Go.Proofs.YtpmflpeckoeooaaGreatDoorW.PrintWords Go.Proofs.YtpmflpeckoeooaaGreatDoorW.PrintLast Go.Proofs.YtpmflpeckoeooaaGreatDoorW.PrintMore
abbrev mG := ByteArray × Bool × ByteArray × ByteArray × Bool × ByteArray × Bool × ByteArray
abbrev nil8 : ByteArray := (⟨#[]⟩ : ByteArray)
def bO (s : ByteArray) : mG :=
  (if cS (aa s) then s.extract 0 (pI (aa s)) else nil8, cA (aa s), if cA (aa s) then s.extract (pC (aa s) + 2) (fm (aa s) (pC (aa s))) else nil8,
    s.extract (pP (aa s)) (dK (aa s) (pP (aa s))), cQ (aa s), if cQ (aa s) then s.extract (dK (aa s) (pP (aa s)) + 1) (pF (aa s)) else nil8,
    cF (aa s), if cF (aa s) then s.extract (pF (aa s) + 1) s.size else nil8)
theorem yx : aa (⟨#[58, 47, 63, 35]⟩ : ByteArray) = [58, 47, 63, 35] := by decide +kernel
theorem yw : aa (⟨#[47, 63, 35]⟩ : ByteArray) = [47, 63, 35] := by decide +kernel
theorem zf : aa (⟨#[63, 35]⟩ : ByteArray) = [63, 35] := by decide +kernel
theorem yv : aa (⟨#[35]⟩ : ByteArray) = [35] := by decide +kernel
theorem iC (s : ByteArray) (i : Nat) : (aa s).getD i 0 = bt s (i : Int) := (j7 s i).symm
theorem kP (s : ByteArray) {i : Nat} (h : s.size ≤ i) : bt s (i : Int) = 0 := by
  rw [j7, List.getD_eq_getElem?_getD, List.getElem?_eq_none (by rw [af]; exact h)]; rfl
theorem wS (s : ByteArray) (hs : s.size ≤ 140737488351232) (p : Nat) (hp : p ≤ s.size) (sch : ByteArray) (ha : Bool) (aut pth : ByteArray) :
    Ev (fun k => dG k s (p : Int) (bt s (p : Int) == 63) sch ha aut pth false nil8 false nil8)
      (sch, ha, aut, pth, bt s (p : Int) == 63, if (bt s (p : Int) == 63) = true then s.extract (p + 1) (ei (aa s) p) else nil8,
        decide ((if (bt s (p : Int) == 63) = true then ei (aa s) p else p) < s.size), if (if (bt s (p : Int) == 63) = true then ei (aa s) p else p) < s.size then s.extract ((if (bt s (p : Int) == 63) = true then ei (aa s) p else p) + 1) s.size else nil8) := by
  refine Ev.step (fun k => by rw [dG]) ?_
  cases hx : bt s (p : Int) == 63
  · simp only [Bool.false_eq_true, if_false]
    refine Ev.ite (fun h => ?_) (fun h => ?_)
    · rw [w64 (by omega) (by omega)]
      refine ab (by omega) (ab (by omega) (Ev.val ?_))
      have h1 : decide (p < s.size) = true := decide_eq_true (by omega)
      rw [h1, if_pos (by omega), show ((p : Int) + 1).toNat = p + 1 by omega]
    · refine Ev.val ?_
      have h1 : decide (p < s.size) = false := decide_eq_false (by omega)
      rw [h1, if_neg (by omega)]
  · simp only [if_true]
    rw [beq_iff_eq] at hx
    have hlt : p < s.size := by
      rcases Nat.lt_or_ge p s.size with h | h
      · exact h
      · rw [kP s h] at hx; omega
    have hq := pK (l := aa s) (p := p) (by rw [af]; exact hlt)
    rw [af] at hq
    rw [w64 (x := (p : Int) + 1) (by omega) (by omega)]
    have hf := lC s (⟨#[35]⟩ : ByteArray) (p + 1) (by omega) hs (by decide)
    rw [yv] at hf
    have e1 : ((p + 1 : Nat) : Int) = (p : Int) + 1 := by omega
    have e2 : ((p + 1 : Nat) : Int) + (aQ [35] ((aa s).drop (p + 1)) : Int) = (ei (aa s) p : Int) := by unfold ei; omega
    rw [e2, e1] at hf
    refine ah hf (ab (by omega) (ab (by omega) (ab (by omega) ?_)))
    refine Ev.ite (fun h => ?_) (fun h => ?_)
    · rw [w64 (by omega) (by omega)]
      refine ab (by omega) (ab (by omega) (Ev.val ?_))
      have h1 : decide (ei (aa s) p < s.size) = true := decide_eq_true (by omega)
      rw [h1, if_pos (by omega), Int.toNat_natCast, show ((p : Int) + 1).toNat = p + 1 by omega, show ((ei (aa s) p : Int) + 1).toNat = ei (aa s) p + 1 by omega]
    · refine Ev.val ?_
      have h1 : decide (ei (aa s) p < s.size) = false := decide_eq_false (by omega)
      rw [h1, if_neg (by omega), Int.toNat_natCast, show ((p : Int) + 1).toNat = p + 1 by omega]
def kL (s : ByteArray) (sch : ByteArray) (ha : Bool) (aut : ByteArray) (p : Nat) : mG :=
  let e := dK (aa s) p
  let f := if (bt s (e : Int) == 63) = true then ei (aa s) e else e
  (sch, ha, aut, s.extract p e, bt s (e : Int) == 63, if (bt s (e : Int) == 63) = true then s.extract (e + 1) (ei (aa s) e) else nil8, decide (f < s.size), if f < s.size then s.extract (f + 1) s.size else nil8)
theorem rx (s : ByteArray) (hs : s.size ≤ 140737488351232) (p : Nat) (hp : p ≤ s.size) (sch : ByteArray) (ha : Bool) (aut : ByteArray) :
    Ev (fun k => dF k s (p : Int) sch ha aut nil8 false nil8 false nil8) (kL s sch ha aut p) := by
  have he := ti (l := aa s) (p := p) (by rw [af]; exact hp)
  rw [af] at he
  refine Ev.step (fun k => by rw [dF]) ?_
  have hf := lC s (⟨#[63, 35]⟩ : ByteArray) p hp hs (by decide)
  rw [zf] at hf
  have e2 : (p : Int) + (aQ [63, 35] ((aa s).drop p) : Int) = (dK (aa s) p : Int) := by unfold dK; omega
  rw [e2] at hf
  refine ah hf (ab (by omega) (ab (by omega) (ab (by omega) ?_)))
  have h4 := wS s hs (dK (aa s) p) he.2 sch ha aut (s.extract p (dK (aa s) p))
  rw [Int.toNat_natCast, Int.toNat_natCast]
  refine Ev.ite (fun h => ?_) (fun h => ?_)
  · exact ab (by omega) h4
  · have hz : (bt s (dK (aa s) p : Int) == 63) = false := by rw [kP s (by omega)]; rfl
    have h5 := h4
    rw [hz] at h5
    unfold kL
    simp only [hz]
    exact h5
theorem oU (s : ByteArray) (hs : s.size ≤ 140737488351232) (c : Nat) (hc : c ≤ s.size) (x : Bool) (hx : x = true → c + 2 ≤ s.size) (sch : ByteArray) :
    Ev (fun k => cN k s (c : Int) x sch false nil8 nil8 false nil8 false nil8) (if x then kL s sch true (s.extract (c + 2) (fm (aa s) c)) (fm (aa s) c) else kL s sch false nil8 c) := by
  refine Ev.step (fun k => by rw [cN]) ?_
  cases x
  · exact ae (by simp) (rx s hs c hc sch false nil8)
  · have hx := hx rfl
    have ha := mH (l := aa s) (c := c) (by rw [af]; exact hx)
    rw [af] at ha
    rw [w64 (by omega) (by omega)]
    have hf := lC s (⟨#[47, 63, 35]⟩ : ByteArray) (c + 2) hx hs (by decide)
    rw [yw] at hf
    have e1 : ((c + 2 : Nat) : Int) = (c : Int) + 2 := by omega
    have e2 : ((c + 2 : Nat) : Int) + (aQ [47, 63, 35] ((aa s).drop (c + 2)) : Int) = (fm (aa s) c : Int) := by unfold fm; omega
    rw [e2, e1] at hf
    refine ab rfl (ah hf (ab (by omega) (ab (by omega) (ab (by omega) ?_))))
    rw [Int.toNat_natCast, show ((c : Int) + 2).toNat = c + 2 by omega]
    simp only [if_true]
    exact rx s hs (fm (aa s) c) ha.2 sch true _
theorem vU (s : ByteArray) (c : Nat) : ((aa s).drop c).take 2 = [47, 47] ↔ (c + 2 ≤ s.size ∧ bt s (c : Int) = 47 ∧ bt s ((c + 1 : Nat) : Int) = 47) := by
  rcases Nat.lt_or_ge (c + 1) s.size with h | h
  · rw [gf (s := s) (n := c) (by omega), gf (s := s) (n := c + 1) h]
    simp
    omega
  · constructor
    · intro h'
      have := congrArg List.length h'
      rw [List.length_take, List.length_drop, af] at this
      simp at this
      omega
    · intro h'; omega
theorem rv (s : ByteArray) (hs : s.size ≤ 140737488351232) (c : Nat) (hc : c ≤ s.size) (sch : ByteArray) :
    Ev (fun k => dE k s (c : Int) sch false nil8 nil8 false nil8 false nil8) (if ((aa s).drop c).take 2 = [47, 47] then kL s sch true (s.extract (c + 2) (fm (aa s) c)) (fm (aa s) c) else kL s sch false nil8 c) := by
  refine Ev.step (fun k => by rw [dE]) ?_
  rw [w64 (x := (s.size : Int) - c) (by omega) (by omega)]
  have tb := vU s c
  refine Ev.ite (fun h => ?_) (fun h => ?_)
  · refine ab (by omega) (ab (by omega) (Ev.ite (fun h1 => ?_) (fun h1 => ?_)))
    · rw [w64 (by omega) (by omega)]
      have e1 : ((c + 1 : Nat) : Int) = (c : Int) + 1 := by omega
      rw [e1] at tb
      refine ab (by omega) (ab (by omega) ?_)
      have h2 := oU s hs c hc (bt s ((c : Int) + 1) == 47) (fun _ => by omega) sch
      by_cases hb : bt s ((c : Int) + 1) = 47
      · rw [if_pos (tb.2 ⟨by omega, h1, hb⟩)]
        have : (bt s ((c : Int) + 1) == 47) = true := beq_iff_eq.2 hb
        rw [this] at h2 ⊢
        exact h2
      · rw [if_neg (fun h' => hb (tb.1 h').2.2)]
        have : (bt s ((c : Int) + 1) == 47) = false := beq_eq_false_iff_ne.2 hb
        rw [this] at h2 ⊢
        exact h2
    · rw [if_neg (fun h' => h1 (tb.1 h').2.1)]
      exact oU s hs c hc false (fun h => by cases h) sch
  · rw [if_neg (fun h' => by have := (tb.1 h').1; omega)]
    exact oU s hs c hc false (fun h => by cases h) sch
theorem sS (s : ByteArray) : bO s = if ((aa s).drop (pC (aa s))).take 2 = [47, 47] then kL s (if cS (aa s) then s.extract 0 (pI (aa s)) else nil8) true (s.extract (pC (aa s) + 2) (fm (aa s) (pC (aa s)))) (fm (aa s) (pC (aa s)))
    else kL s (if cS (aa s) then s.extract 0 (pI (aa s)) else nil8) false nil8 (pC (aa s)) := by
  have hq : ∀ p, pP (aa s) = p → ∀ sch ha aut, kL s sch ha aut p = (sch, ha, aut, s.extract (pP (aa s)) (dK (aa s) (pP (aa s))), cQ (aa s), if cQ (aa s) then s.extract (dK (aa s) (pP (aa s)) + 1) (pF (aa s)) else nil8,
    cF (aa s), if cF (aa s) then s.extract (pF (aa s) + 1) s.size else nil8) := by
    intro p hp sch ha aut
    have e1 : (bt s (dK (aa s) p : Int) == 63) = cQ (aa s) := by unfold cQ; rw [hp, iC]
    unfold kL
    simp only [e1]
    have e2 : (if cQ (aa s) = true then ei (aa s) (dK (aa s) p) else dK (aa s) p) = pF (aa s) := by unfold pF; rw [hp]
    rw [e2, hp]
    have e3 : decide (pF (aa s) < s.size) = cF (aa s) := by unfold cF; rw [af]
    rw [e3]
    simp only [Prod.mk.injEq, true_and]
    refine ⟨?_, ?_⟩
    · cases hc : cQ (aa s)
      · rfl
      · simp only [if_true]
        congr 1
        unfold pF; rw [hc, hp]; rfl
    · cases hc : cF (aa s)
      · rw [if_neg (by rw [hc] at e3; exact of_decide_eq_false e3)]; rfl
      · rw [if_pos (by rw [hc] at e3; exact of_decide_eq_true e3)]; rfl
  unfold bO
  by_cases h : ((aa s).drop (pC (aa s))).take 2 = [47, 47]
  · have hA : cA (aa s) = true := by unfold cA; rw [beq_iff_eq]; exact h
    rw [if_pos h, hq _ (by unfold pP; rw [hA]; rfl), hA]; rfl
  · have hA : cA (aa s) = false := by unfold cA; rw [beq_eq_false_iff_ne]; exact h
    rw [if_neg h, hq _ (by unfold pP; rw [hA]; rfl), hA]; rfl
theorem ul (s : ByteArray) (hs : s.size ≤ 140737488351232) : Ev (fun k => fB k s) (bO s) := by
  have hI := ph (aa s)
  rw [af] at hI
  have hC := qH (aa s)
  rw [af] at hC
  unfold fB
  have hf := lC s (⟨#[58, 47, 63, 35]⟩ : ByteArray) 0 (by omega) hs (by decide)
  rw [yx, List.drop_zero] at hf
  have e2 : ((0 : Nat) : Int) + (aQ [58, 47, 63, 35] (aa s) : Int) = (pI (aa s) : Int) := by unfold pI; omega
  rw [e2] at hf
  have hj0 : Ev (fun k => cM k s 0 (pI (aa s) : Int) (cS (aa s)) nil8 false nil8 nil8 false nil8 false nil8) (bO s) := by
    refine Ev.step (fun k => by rw [cM]) ?_
    rw [sS]
    cases hc : cS (aa s)
    · have h0 : pC (aa s) = 0 := by unfold pC; rw [hc]; rfl
      rw [h0]
      exact ae (by simp) (rv s hs 0 (by omega) nil8)
    · have h0 : pC (aa s) = pI (aa s) + 1 := by unfold pC; rw [hc]; rfl
      rw [h0] at hC ⊢
      simp only [if_true]
      rw [w64 (by omega) (by omega)]
      refine ab (by omega) (ab (by omega) ?_)
      rw [Int.toNat_natCast]
      exact rv s hs (pI (aa s) + 1) hC (s.extract 0 (pI (aa s)))
  have hcs : cS (aa s) = (decide (0 < pI (aa s)) && (bt s (pI (aa s) : Int) == 58)) := by unfold cS; rw [iC]
  refine ah hf (Ev.ite (fun h => Ev.ite (fun h1 => ab (by omega) ?_) (fun h1 => ?_)) (fun h => ?_))
  · have : decide (0 < pI (aa s)) = true := decide_eq_true (by omega)
    rw [this, Bool.true_and] at hcs
    rw [← hcs]
    exact hj0
  · have : (bt s (pI (aa s) : Int) == 58) = false := by rw [kP s (by omega)]; rfl
    rw [this, Bool.and_false] at hcs
    rw [hcs] at hj0
    exact hj0
  · have : decide (0 < pI (aa s)) = false := decide_eq_false (by omega)
    rw [this, Bool.false_and] at hcs
    rw [hcs] at hj0
    exact hj0
theorem ra (s : ByteArray) (n : Nat) (hn : n ≤ s.size) (hs : s.size ≤ 1000000) (iri : Bool) (sch : ByteArray) (ha : Bool) (aut pth : ByteArray) (hq : Bool) (q : ByteArray) (hf : Bool) (f sign : ByteArray) (hg : sign.size ≤ 10) :
    eq s (n : Int) iri sch ha aut pth hq q hf f sign = some (if ((aa s).drop n).take sign.size = aa sign then (true, s, ((n + sign.size : Nat) : Int), iri, sch, ha, aut, pth, hq, q, hf, f) else (false, s, (n : Int), iri, sch, ha, aut, pth, hq, q, hf, f)) := by
  unfold eq
  rw [if_pos (by omega), if_pos (by omega), mA, Int.toNat_natCast, bh, Option.bind_some]
  by_cases h : ((aa s).drop n).take sign.size = aa sign
  · rw [if_pos (decide_eq_true h), if_pos h, w64 (by omega) (by omega)]
    simp
  · rw [if_neg (by simpa using h), if_neg h]
theorem nw (s : ByteArray) (n : Nat) (hn : n ≤ s.size) (hs : s.size ≤ 1000000) (iri : Bool) (sch : ByteArray) (ha : Bool) (aut pth : ByteArray) (hq : Bool) (q : ByteArray) (hf : Bool) (f : ByteArray) (p : Int) :
    Ev (fun k => b9 k s (n : Int) iri sch ha aut pth hq q hf f p) (s.extract n (n + al p iri ((aa s).drop n)), s, ((n + al p iri ((aa s).drop n) : Nat) : Int), iri, sch, ha, aut, pth, hq, q, hf, f) := by
  unfold b9
  have hsp := vN p iri (s.extract n s.size) (by rw [← af, bh, List.length_drop, af]; omega)
  rw [bh] at hsp
  have hle := gV p iri ((aa s).drop n)
  rw [List.length_drop, af] at hle
  rw [Int.toNat_natCast]
  refine ab (by omega) (ab (by omega) (ah hsp ?_))
  have e : (n : Int) + (al p iri ((aa s).drop n) : Int) = ((n + al p iri ((aa s).drop n) : Nat) : Int) := by omega
  rw [w64 (by omega) (by omega), e]
  refine ab (by omega) (ab (by omega) (Ev.val ?_))
  rw [Int.toNat_natCast]
def okS (l : List Int) : Bool := cS l && gA (l.take (pI l))
theorem mY (s : ByteArray) : aa (s.extract 0 (pI (aa s))) = (aa s).take (pI (aa s)) := by rw [ap, List.drop_zero]
theorem ut (s : ByteArray) (hs : s.size ≤ 1000000) (iri : Bool) :
    Ev (fun k => cw k s 0 iri nil8 false nil8 nil8 false nil8 false nil8)
      (if okS (aa s) = true then (true, s, ((pI (aa s) + 1 : Nat) : Int), iri, s.extract 0 (pI (aa s)), false, nil8, nil8, false, nil8, false, nil8) else (false, s, 0, iri, nil8, false, nil8, nil8, false, nil8, false, nil8)) := by
  unfold cw
  have hI := ph (aa s)
  rw [af] at hI
  have hf := s9 s (⟨#[58, 47, 63, 35]⟩ : ByteArray) 0 (by omega) (by omega) (by decide)
  rw [yx, List.drop_zero] at hf
  have e : (aQ [58, 47, 63, 35] (aa s)) = pI (aa s) := rfl
  rw [e] at hf
  have e0 : ((0 : Nat) : Int) = 0 := rfl
  rw [e0] at hf
  refine ah hf ?_
  by_cases he : pI (aa s) = s.size - 0
  · simp only [if_pos he]
    refine ab (by decide) (Ev.val ?_)
    have hc : cS (aa s) = false := by
      unfold cS; rw [iC, kP s (by omega)]; simp
    have : okS (aa s) = false := by unfold okS; rw [hc]; rfl
    rw [this]; rfl
  · simp only [if_neg he, Int.zero_add]
    refine ae (by omega) (ab (by omega) (ab (by omega) (Ev.ite (fun hb => ?_) (fun hb => ?_))))
    · refine ab (by omega) ?_
      rw [Int.toNat_natCast]
      have h1 := wP (s.extract 0 (pI (aa s))) (by rw [← af, mY, List.length_take, af]; omega)
      rw [mY] at h1
      refine ah h1 ?_
      have hc : cS (aa s) = true ∨ gA ((aa s).take (pI (aa s))) = false := by
        rcases Nat.eq_zero_or_pos (pI (aa s)) with hz | hz
        · right; rw [hz, List.take_zero, mF]
        · left
          unfold cS; rw [iC, hb, decide_eq_true hz]; rfl
      cases hsl : gA ((aa s).take (pI (aa s)))
      · have : okS (aa s) = false := by unfold okS; rw [hsl, Bool.and_false]
        rw [this]
        exact ae (by simp) (Ev.val rfl)
      · have : okS (aa s) = true := by
          unfold okS; rw [hsl, Bool.and_true]
          rcases hc with hc | hc
          · exact hc
          · rw [hsl] at hc; cases hc
        rw [this]
        refine ab rfl (Ev.val ?_)
        rw [w64 (by omega) (by omega)]
        simp
    · have hc : cS (aa s) = false := by
        unfold cS; rw [iC]
        have : (bt s (pI (aa s) : Int) == 58) = false := beq_eq_false_iff_ne.2 hb
        rw [this, Bool.and_false]
      have : okS (aa s) = false := by unfold okS; rw [hc]; rfl
      rw [this]
      exact Ev.val rfl
theorem yn (s : ByteArray) (c : Nat) (hc : c ≤ s.size) (hs : s.size ≤ 1000000) (iri : Bool) (sch : ByteArray) :
    Ev (fun k => bl k s (c : Int) iri sch false nil8 nil8 false nil8 false nil8)
      (if ((aa s).drop c).take 2 = [47, 47] then (eJ iri (bq (s.extract (c + 2) (fm (aa s) c))), s, (fm (aa s) c : Int), iri, sch, true, s.extract (c + 2) (fm (aa s) c), nil8, false, nil8, false, nil8)
        else (true, s, (c : Int), iri, sch, false, nil8, nil8, false, nil8, false, nil8)) := by
  unfold bl
  have hb : aa (⟨#[47, 47]⟩ : ByteArray) = [47, 47] := by decide +kernel
  have hz : (⟨#[47, 47]⟩ : ByteArray).size = 2 := rfl
  have hn := ra s c hc hs iri sch false nil8 nil8 false nil8 false nil8 (⟨#[47, 47]⟩ : ByteArray) (by decide)
  rw [hb, hz] at hn
  refine bw hn ?_
  by_cases h2 : ((aa s).drop c).take 2 = [47, 47]
  · simp only [if_pos h2]
    have hc2 := pv h2
    rw [af] at hc2
    have ha := mH (l := aa s) (c := c) (by rw [af]; exact hc2)
    rw [af] at ha
    have hf := s9 s (⟨#[47, 63, 35]⟩ : ByteArray) (c + 2) hc2 (by omega) (by decide)
    rw [yw] at hf
    have hpz : (s.extract (c + 2) (fm (aa s) c)).size ≤ 1000000 := by
      rw [← af, ap, List.length_drop, List.length_take, af]; omega
    have hp := xR iri (s.extract (c + 2) (fm (aa s) c)) hpz
    refine ah hf ?_
    by_cases he : aQ [47, 63, 35] ((aa s).drop (c + 2)) = s.size - (c + 2)
    · simp only [if_pos he]
      have e : fm (aa s) c = s.size := by unfold fm; omega
      rw [e] at hp ⊢
      refine ab (by decide) (ab (by omega) (ab (by omega) (ab (by omega) ?_)))
      rw [Int.toNat_natCast, Int.toNat_natCast]
      refine ah hp (Ev.val ?_)
      cases eJ iri (bq (s.extract (c + 2) s.size)) <;> rfl
    · simp only [if_neg he]
      have e : ((c + 2 : Nat) : Int) + (aQ [47, 63, 35] ((aa s).drop (c + 2)) : Int) = (fm (aa s) c : Int) := by unfold fm; omega
      rw [e]
      refine ae (by omega) (ab (by omega) (ab (by omega) (ab (by omega) ?_)))
      rw [Int.toNat_natCast, Int.toNat_natCast]
      refine ah hp (Ev.val ?_)
      cases eJ iri (bq (s.extract (c + 2) (fm (aa s) c))) <;> rfl
  · simp only [if_neg h2]
    exact ae (by simp) (Ev.val rfl)
def jz (ha : Bool) (l : List Int) : Bool := if ha then l == [] || l.headD 0 == 47 else !(l.take 2 == [47, 47])
def jo (ns ha iri : Bool) (l : List Int) : Bool := ns && !ha && (l.getD (al 4 iri l) 0 == 58)
theorem tk (s : ByteArray) (p m : Nat) (hpm : p ≤ m) (hm : m ≤ s.size) (hs : s.size ≤ 1000000) (iri : Bool) (sch : ByteArray) (ha : Bool) (aut : ByteArray) (e : Nat) (he : e = m + al 5 iri ((aa s).drop m)) :
    Ev (fun k => bE k (p : Int) s (m : Int) iri sch ha aut nil8 false nil8 false nil8)
      (jz ha (aa (s.extract p e)), s, (e : Int), iri, sch, ha, aut, s.extract p e, false, nil8, false, nil8) := by
  have hle := gV 5 iri ((aa s).drop m)
  rw [List.length_drop, af] at hle
  have hsp := nw s m hm hs iri sch ha aut nil8 false nil8 false nil8 5
  rw [← he] at hsp
  refine Ev.step (fun k => by rw [bE]) (ah hsp ?_)
  dsimp only
  refine ab (by omega) (ab (by omega) (ab (by omega) ?_))
  rw [Int.toNat_natCast, Int.toNat_natCast]
  cases ha
  · refine ae (by simp) (bw (mA _ _) (Ev.val ?_))
    have hb : aa (⟨#[47, 47]⟩ : ByteArray) = [47, 47] := by decide +kernel
    have hz : (⟨#[47, 47]⟩ : ByteArray).size = 2 := rfl
    rw [hb, hz]
    unfold jz
    have : decide ((aa (s.extract p e)).take 2 = [47, 47]) = ((aa (s.extract p e)).take 2 == [47, 47]) := by
      rw [Bool.eq_iff_iff, decide_eq_true_iff, beq_iff_eq]
    rw [this]; rfl
  · refine ab rfl (Ev.ite (fun h => ?_) (fun h => ?_))
    · refine Ev.val ?_
      rw [(eH _).1 h]; rfl
    · have hp : 0 < (s.extract p e).size := by
        rcases Nat.eq_zero_or_pos (s.extract p e).size with hz | hz
        · exact absurd ((eH _).2 (List.length_eq_zero_iff.1 (by rw [af]; exact hz))) h
        · exact hz
      refine ab (by omega) (Ev.val ?_)
      unfold jz
      have hne : (aa (s.extract p e) == []) = false := beq_eq_false_iff_ne.2 (fun h' => h ((eH _).2 h'))
      rw [nl hp, hne]; rfl
theorem wF (s : ByteArray) (p : Nat) (hp : p ≤ s.size) (hs : s.size ≤ 1000000) (iri : Bool) (sch : ByteArray) (ha : Bool) (aut : ByteArray) :
    ∃ z, Ev (fun k => bA k s (p : Int) iri sch ha aut nil8 false nil8 false nil8) z ∧
      (jo (aa sch == []) ha iri ((aa s).drop p) = true → z.1 = false) ∧
      (jo (aa sch == []) ha iri ((aa s).drop p) = false → z = (jz ha (aa (s.extract p (p + al 5 iri ((aa s).drop p)))), s, ((p + al 5 iri ((aa s).drop p) : Nat) : Int), iri, sch, ha, aut, s.extract p (p + al 5 iri ((aa s).drop p)), false, nil8, false, nil8)) := by
  have h4 := gV 4 iri ((aa s).drop p)
  rw [List.length_drop, af] at h4
  have hj0 : ∀ x : Bool, ∃ z, Ev (fun k => bk k (p : Int) x s (p : Int) iri sch ha aut nil8 false nil8 false nil8) z ∧
      ((x && (((aa s).drop p).getD (al 4 iri ((aa s).drop p)) 0 == 58)) = true → z.1 = false) ∧
      ((x && (((aa s).drop p).getD (al 4 iri ((aa s).drop p)) 0 == 58)) = false → z = (jz ha (aa (s.extract p (p + al 5 iri ((aa s).drop p)))), s, ((p + al 5 iri ((aa s).drop p) : Nat) : Int), iri, sch, ha, aut, s.extract p (p + al 5 iri ((aa s).drop p)), false, nil8, false, nil8)) := by
    intro x
    cases x
    · refine ⟨_, Ev.step (fun k => by rw [bk]) (ae (by simp) (tk s p p (Nat.le_refl _) hp hs iri sch ha aut _ rfl)), fun h => by simp at h, fun _ => rfl⟩
    · have e5 : p + al 5 iri ((aa s).drop p) = p + al 4 iri ((aa s).drop p) + al 5 iri ((aa s).drop (p + al 4 iri ((aa s).drop p))) := by
        rw [jT (oW iri) _ ((aa s).drop p) rfl, List.drop_drop]; omega
      have hg : ((aa s).drop p).getD (al 4 iri ((aa s).drop p)) 0 = bt s ((p + al 4 iri ((aa s).drop p) : Nat) : Int) := by
        rw [List.getD_eq_getElem?_getD, List.getElem?_drop, ← List.getD_eq_getElem?_getD, iC]
      rw [hg, Bool.true_and]
      have hj := tk s p (p + al 4 iri ((aa s).drop p)) (by omega) (by omega) hs iri sch ha aut _ e5
      have hsp := nw s p hp hs iri sch ha aut nil8 false nil8 false nil8 4
      by_cases hb : bt s ((p + al 4 iri ((aa s).drop p) : Nat) : Int) = 58
      · have hlt : p + al 4 iri ((aa s).drop p) < s.size := by
          rcases Nat.lt_or_ge (p + al 4 iri ((aa s).drop p)) s.size with h | h
          · exact h
          · rw [kP s h] at hb; omega
        have hgo : Ev (fun k => bk k (p : Int) true s (p : Int) iri sch ha aut nil8 false nil8 false nil8) (false, s, ((p + al 4 iri ((aa s).drop p) : Nat) : Int), iri, sch, ha, aut, nil8, false, nil8, false, nil8) := by
          refine Ev.step (fun k => by rw [bk]) (ab rfl (ah hsp ?_))
          dsimp only
          exact ab (by omega) (ab (by omega) (ab hb (az _)))
        refine ⟨_, hgo, fun _ => rfl, fun h => ?_⟩
        rw [hb] at h; simp at h
      · have hgo : Ev (fun k => bk k (p : Int) true s (p : Int) iri sch ha aut nil8 false nil8 false nil8) (jz ha (aa (s.extract p (p + al 5 iri ((aa s).drop p)))), s, ((p + al 5 iri ((aa s).drop p) : Nat) : Int), iri, sch, ha, aut, s.extract p (p + al 5 iri ((aa s).drop p)), false, nil8, false, nil8) := by
          refine Ev.step (fun k => by rw [bk]) (ab rfl (ah hsp ?_))
          dsimp only
          refine Ev.ite (fun h => ?_) (fun h => hj)
          exact ab (Int.natCast_nonneg _) (ae hb hj)
        refine ⟨_, hgo, fun h => ?_, fun _ => rfl⟩
        rw [beq_iff_eq] at h
        exact absurd h hb
  unfold bA jo
  by_cases h : sch.toList = ([] : List UInt8)
  · have e : (aa sch == []) = true := by rw [beq_iff_eq]; exact (eH sch).1 h
    rw [e, Bool.true_and]
    obtain ⟨z, hz, h1, h2⟩ := hj0 (!ha)
    exact ⟨z, ab h hz, h1, h2⟩
  · have e : (aa sch == []) = false := beq_eq_false_iff_ne.2 fun h' => h ((eH sch).2 h')
    rw [e]
    obtain ⟨z, hz, h1, h2⟩ := hj0 false
    exact ⟨z, ae h hz, fun h => by simp at h, fun _ => h2 (by simp)⟩
def qP (s : ByteArray) (iri : Bool) (e : Nat) : Nat := if bt s (e : Int) = 63 then e + 1 + al 6 iri ((aa s).drop (e + 1)) else e
def fP (s : ByteArray) (iri fr : Bool) (e : Nat) : Nat := if fr = true ∧ bt s (e : Int) = 35 then e + 1 + al 7 iri ((aa s).drop (e + 1)) else e
theorem np (s : ByteArray) (c : Int) (hc : c ≠ 0) (n : Nat) : ((aa s).drop n).take 1 = [c] ↔ bt s (n : Int) = c := by
  rcases Nat.lt_or_ge n s.size with h | h
  · rw [gf h]; simp
  · rw [List.drop_of_length_le (by rw [af]; exact h), kP s h]
    simp
    exact fun h => hc h.symm
theorem oc {s : ByteArray} {c : Int} (hc : c ≠ 0) {n : Nat} (h : bt s (n : Int) = c) : n < s.size := by
  rcases Nat.lt_or_ge n s.size with h' | h'
  · exact h'
  · rw [kP s h'] at h; exact absurd h.symm hc
theorem yY (s : ByteArray) (iri : Bool) (e : Nat) (he : e ≤ s.size) : e ≤ qP s iri e ∧ qP s iri e ≤ s.size := by
  unfold qP
  split
  · rename_i h
    have := oc (by decide) h
    have hle := gV 6 iri ((aa s).drop (e + 1))
    rw [List.length_drop, af] at hle
    omega
  · omega
theorem tr (s : ByteArray) (e : Nat) (he : e ≤ s.size) (hs : s.size ≤ 1000000) (iri : Bool) (sch : ByteArray) (ha : Bool) (aut pth : ByteArray) (hq : Bool) (q : ByteArray) (fr : Bool) :
    Ev (fun k => bU k fr s (e : Int) iri sch ha aut pth hq q false nil8)
      (s, (fP s iri fr e : Int), iri, sch, ha, aut, pth, hq, q, decide (fr = true ∧ bt s (e : Int) = 35), if fr = true ∧ bt s (e : Int) = 35 then s.extract (e + 1) (fP s iri fr e) else nil8) := by
  refine Ev.step (fun k => by rw [bU]) ?_
  unfold fP
  cases fr
  · refine ae (by simp) (Ev.val ?_)
    simp
  · refine ab rfl ?_
    have hn := ra s e he hs iri sch ha aut pth hq q false nil8 (⟨#[35]⟩ : ByteArray) (by decide)
    rw [yv] at hn
    have hz : (⟨#[35]⟩ : ByteArray).size = 1 := rfl
    rw [hz] at hn
    refine bw hn ?_
    by_cases h : bt s (e : Int) = 35
    · have hlt := oc (by decide) h
      rw [if_pos ((np s 35 (by decide) e).2 h)]
      refine ab rfl ?_
      dsimp only
      refine ah (nw s (e + 1) (by omega) hs iri sch ha aut pth hq q true nil8 7) (Ev.val ?_)
      simp [h]
    · rw [if_neg (fun h' => h ((np s 35 (by decide) e).1 h'))]
      refine ae (by simp) (Ev.val ?_)
      simp [h]
theorem yB (s : ByteArray) (e : Nat) (he : e ≤ s.size) (hs : s.size ≤ 1000000) (iri : Bool) (sch : ByteArray) (ha : Bool) (aut pth : ByteArray) (fr : Bool) :
    Ev (fun k => bB k s (e : Int) iri sch ha aut pth false nil8 false nil8 fr)
      (s, (fP s iri fr (qP s iri e) : Int), iri, sch, ha, aut, pth, decide (bt s (e : Int) = 63), (if bt s (e : Int) = 63 then s.extract (e + 1) (qP s iri e) else nil8), decide (fr = true ∧ bt s (qP s iri e : Int) = 35), if fr = true ∧ bt s (qP s iri e : Int) = 35 then s.extract (qP s iri e + 1) (fP s iri fr (qP s iri e)) else nil8) := by
  unfold bB
  have hq := yY s iri e he
  have hn := ra s e he hs iri sch ha aut pth false nil8 false nil8 (⟨#[63]⟩ : ByteArray) (by decide)
  have hb : aa (⟨#[63]⟩ : ByteArray) = [63] := by decide +kernel
  rw [hb] at hn
  have hz : (⟨#[63]⟩ : ByteArray).size = 1 := rfl
  rw [hz] at hn
  refine bw hn ?_
  by_cases h : bt s (e : Int) = 63
  · have hlt := oc (by decide) h
    rw [if_pos ((np s 63 (by decide) e).2 h)]
    refine ab rfl ?_
    dsimp only
    have hqe : qP s iri e = e + 1 + al 6 iri ((aa s).drop (e + 1)) := by unfold qP; rw [if_pos h]
    have hsp := nw s (e + 1) (by omega) hs iri sch ha aut pth true nil8 false nil8 6
    rw [← hqe] at hsp
    refine ah hsp ?_
    dsimp only
    rw [decide_eq_true h, if_pos h]
    exact tr s (qP s iri e) hq.2 hs iri sch ha aut pth true _ fr
  · rw [if_neg (fun h' => h ((np s 63 (by decide) e).1 h'))]
    refine ae (by simp) ?_
    dsimp only
    have hqe : qP s iri e = e := by unfold qP; rw [if_neg h]
    rw [hqe, decide_eq_false h, if_neg h]
    exact tr s e he hs iri sch ha aut pth false nil8 fr
def dU (s : ByteArray) (c : Nat) : Bool := ((aa s).drop c).take 2 == [47, 47]
def bg (s : ByteArray) (c : Nat) : Nat := if dU s c then fm (aa s) c else c
def jD (s : ByteArray) (c : Nat) : ByteArray := if dU s c then s.extract (c + 2) (fm (aa s) c) else nil8
def fk (s : ByteArray) (iri : Bool) (c : Nat) : Nat := bg s c + al 5 iri ((aa s).drop (bg s c))
def iZ (s : ByteArray) (iri fr ns : Bool) (c : Nat) : Bool :=
  (!dU s c || eJ iri (bq (jD s c))) && (!jo ns (dU s c) iri ((aa s).drop (bg s c)) && (jz (dU s c) (aa (s.extract (bg s c) (fk s iri c))) && decide (fP s iri fr (qP s iri (fk s iri c)) = s.size)))
def nt (s : ByteArray) (iri fr : Bool) (c : Nat) (sch : ByteArray) : mG :=
  (sch, dU s c, jD s c, s.extract (bg s c) (fk s iri c), decide (bt s (fk s iri c : Int) = 63), if bt s (fk s iri c : Int) = 63 then s.extract (fk s iri c + 1) (qP s iri (fk s iri c)) else nil8,
    decide (fr = true ∧ bt s (qP s iri (fk s iri c) : Int) = 35), if fr = true ∧ bt s (qP s iri (fk s iri c) : Int) = 35 then s.extract (qP s iri (fk s iri c) + 1) (fP s iri fr (qP s iri (fk s iri c))) else nil8)
abbrev qK := ByteArray × Bool × ByteArray × ByteArray × Bool × ByteArray × Bool × ByteArray × Bool
def oX (p : mG) : qK := (p.1, p.2.1, p.2.2.1, p.2.2.2.1, p.2.2.2.2.1, p.2.2.2.2.2.1, p.2.2.2.2.2.2.1, p.2.2.2.2.2.2.2, true)
def no9 : qK := (nil8, false, nil8, nil8, false, nil8, false, nil8, false)
theorem oQ (s : ByteArray) (c : Nat) (hc : c ≤ s.size) : bg s c ≤ s.size := by
  unfold bg
  split
  · rename_i h
    unfold dU at h
    rw [beq_iff_eq] at h
    have := (mH (pv h)).2
    rw [af] at this
    exact this
  · exact hc
theorem wM (s : ByteArray) (iri : Bool) (c : Nat) (hc : c ≤ s.size) : fk s iri c ≤ s.size := by
  have h1 := oQ s c hc
  have h2 := gV 5 iri ((aa s).drop (bg s c))
  rw [List.length_drop, af] at h2
  unfold fk
  omega
theorem qn (s : ByteArray) (c : Nat) (hc : c ≤ s.size) (hs : s.size ≤ 1000000) (kind : Int) (iri : Bool) (sch : ByteArray) :
    Ev (fun k => (bl k s (c : Int) iri sch false nil8 nil8 false nil8 false nil8).bind fun Ac => (if Ac.1 = true then ((bA k Ac.2.1 Ac.2.2.1 Ac.2.2.2.1 Ac.2.2.2.2.1 Ac.2.2.2.2.2.1 Ac.2.2.2.2.2.2.1 Ac.2.2.2.2.2.2.2.1 Ac.2.2.2.2.2.2.2.2.1 Ac.2.2.2.2.2.2.2.2.2.1 Ac.2.2.2.2.2.2.2.2.2.2.1 Ac.2.2.2.2.2.2.2.2.2.2.2).bind fun Aa => (if Aa.1 = true then ((bB k Aa.2.1 Aa.2.2.1 Aa.2.2.2.1 Aa.2.2.2.2.1 Aa.2.2.2.2.2.1 Aa.2.2.2.2.2.2.1 Aa.2.2.2.2.2.2.2.1 Aa.2.2.2.2.2.2.2.2.1 Aa.2.2.2.2.2.2.2.2.2.1 Aa.2.2.2.2.2.2.2.2.2.2.1 Aa.2.2.2.2.2.2.2.2.2.2.2 (kind != 3)).bind fun Ab => (if Ab.2.1 = (s.size : Int) then (some (Ab.2.2.2.1, Ab.2.2.2.2.1, Ab.2.2.2.2.2.1, Ab.2.2.2.2.2.2.1, Ab.2.2.2.2.2.2.2.1, Ab.2.2.2.2.2.2.2.2.1, Ab.2.2.2.2.2.2.2.2.2.1, Ab.2.2.2.2.2.2.2.2.2.2, true)) else (some no9))) else (some no9))) else (some no9)))
      (if iZ s iri (kind != 3) (aa sch == []) c = true then oX (nt s iri (kind != 3) c sch) else no9) := by
  have hau := yn s c hc hs iri sch
  have hE := wM s iri c hc
  have hgo : Ev (fun k => ((bA k s (bg s c : Int) iri sch (dU s c) (jD s c) nil8 false nil8 false nil8).bind fun Aa => (if Aa.1 = true then ((bB k Aa.2.1 Aa.2.2.1 Aa.2.2.2.1 Aa.2.2.2.2.1 Aa.2.2.2.2.2.1 Aa.2.2.2.2.2.2.1 Aa.2.2.2.2.2.2.2.1 Aa.2.2.2.2.2.2.2.2.1 Aa.2.2.2.2.2.2.2.2.2.1 Aa.2.2.2.2.2.2.2.2.2.2.1 Aa.2.2.2.2.2.2.2.2.2.2.2 (kind != 3)).bind fun Ab => (if Ab.2.1 = (s.size : Int) then (some (Ab.2.2.2.1, Ab.2.2.2.2.1, Ab.2.2.2.2.2.1, Ab.2.2.2.2.2.2.1, Ab.2.2.2.2.2.2.2.1, Ab.2.2.2.2.2.2.2.2.1, Ab.2.2.2.2.2.2.2.2.2.1, Ab.2.2.2.2.2.2.2.2.2.2, true)) else (some no9))) else (some no9))))
      (if (!jo (aa sch == []) (dU s c) iri ((aa s).drop (bg s c)) && (jz (dU s c) (aa (s.extract (bg s c) (fk s iri c))) && decide (fP s iri (kind != 3) (qP s iri (fk s iri c)) = s.size))) = true then oX (nt s iri (kind != 3) c sch) else no9) := by
    obtain ⟨z, hz, h1, h2⟩ := wF s (bg s c) (oQ s c hc) hs iri sch (dU s c) (jD s c)
    refine ah hz ?_
    cases hcol : jo (aa sch == []) (dU s c) iri ((aa s).drop (bg s c))
    · have Ad := h2 hcol
      have hEe : bg s c + al 5 iri ((aa s).drop (bg s c)) = fk s iri c := rfl
      rw [hEe] at Ad
      subst Ad
      dsimp only
      rw [Bool.not_false, Bool.true_and]
      cases hsl : jz (dU s c) (aa (s.extract (bg s c) (fk s iri c)))
      · exact ae (by simp) (Ev.val rfl)
      · refine ab rfl (ah (yB s (fk s iri c) hE hs iri sch (dU s c) (jD s c) _ (kind != 3)) ?_)
        dsimp only
        rw [Bool.true_and]
        refine Ev.ite (fun h => ?_) (fun h => ?_)
        · refine Ev.val ?_
          rw [if_pos (decide_eq_true (by omega))]
          rfl
        · refine Ev.val ?_
          rw [if_neg (by rw [decide_eq_true_iff]; omega)]
    · have Ae := h1 hcol
      rw [Ae]
      exact ae (by simp) (Ev.val rfl)
  by_cases hA : ((aa s).drop c).take 2 = [47, 47]
  · have eA : dU s c = true := by unfold dU; rw [beq_iff_eq]; exact hA
    have eP : bg s c = fm (aa s) c := by unfold bg; rw [eA]; rfl
    have eU : jD s c = s.extract (c + 2) (fm (aa s) c) := by unfold jD; rw [eA]; rfl
    rw [if_pos hA] at hau
    refine ah hau ?_
    unfold iZ
    rw [eP, eU, eA] at hgo
    rw [eP, eU, eA]
    cases hr : eJ iri (bq (s.extract (c + 2) (fm (aa s) c)))
    · exact ae (by simp) (Ev.val (by simp))
    · refine ab rfl ?_
      dsimp only
      simp only [Bool.not_true, Bool.or_true, Bool.true_and]
      exact hgo
  · have eA : dU s c = false := by unfold dU; rw [beq_eq_false_iff_ne]; exact hA
    have eP : bg s c = c := by unfold bg; rw [eA]; rfl
    have eU : jD s c = nil8 := by unfold jD; rw [eA]; rfl
    rw [if_neg hA] at hau
    refine ah hau (ab rfl ?_)
    dsimp only
    unfold iZ
    rw [eP, eU, eA] at hgo
    rw [eP, eU, eA]
    simp only [Bool.not_false, Bool.true_or, Bool.true_and]
    exact hgo
theorem tg {kind : Int} (h1 : 1 ≤ kind) (h5 : kind ≤ 5) : gW kind = some (decide (kind ≥ 4)) := by
  unfold gW
  by_cases h : kind = 4
  · rw [if_pos h]; simp [h]
  · rw [if_neg h]
    have : (kind == 5) = decide (kind ≥ 4) := by rw [Bool.eq_iff_iff, beq_iff_eq, decide_eq_true_iff]; omega
    rw [this]
def qJ (kind : Int) (s : ByteArray) : qK :=
  if okS (aa s) = true then (if iZ s (decide (kind ≥ 4)) (kind != 3) (aa (s.extract 0 (pI (aa s))) == []) (pI (aa s) + 1) = true then oX (nt s (decide (kind ≥ 4)) (kind != 3) (pI (aa s) + 1) (s.extract 0 (pI (aa s)))) else no9)
  else if kind = 2 ∨ kind = 5 then (if iZ s (decide (kind ≥ 4)) (kind != 3) true 0 = true then oX (nt s (decide (kind ≥ 4)) (kind != 3) 0 nil8) else no9) else no9
theorem yu (kind : Int) (h1 : 1 ≤ kind) (h5 : kind ≤ 5) (s : ByteArray) (hs : s.size ≤ 1000000) : Ev (fun k => fO k kind s) (qJ kind s) := by
  unfold fO qJ
  refine bw (tg h1 h5) ?_
  have hsc := ut s hs (decide (kind ≥ 4))
  have hI := ph (aa s)
  rw [af] at hI
  have hn : (aa nil8 == []) = true := by decide +kernel
  have r0 := qn s 0 (by omega) hs kind (decide (kind ≥ 4)) nil8
  rw [hn] at r0
  cases hok : okS (aa s)
  · rw [hok] at hsc
    simp only [Bool.false_eq_true, if_false] at hsc ⊢
    refine Ev.ite (fun h => ?_) (fun h => ?_)
    · rw [if_pos (.inl h)]
      refine ah hsc (ae (by simp) ?_)
      exact r0
    · refine ah hsc (ae (by simp) (Ev.ite (fun h' => ?_) (fun h' => ?_)))
      · rw [if_pos (.inr h')]
        exact r0
      · rw [if_neg (by omega)]
        exact Ev.val rfl
  · rw [hok] at hsc
    simp only [if_true] at hsc ⊢
    have hlt : pI (aa s) + 1 ≤ s.size := by
      unfold okS cS at hok
      rw [Bool.and_eq_true, Bool.and_eq_true, beq_iff_eq] at hok
      have := lG (by decide) hok.1.2
      rw [af] at this
      omega
    have r1 := qn s (pI (aa s) + 1) hlt hs kind (decide (kind ≥ 4)) (s.extract 0 (pI (aa s)))
    refine Ev.ite (fun h => ?_) (fun h => ?_)
    · refine ah hsc (ab rfl ?_)
      exact r1
    · refine ah hsc (ab rfl ?_)
      exact r1
theorem n9 (s : ByteArray) (p m : Nat) : bt s ((p + m : Nat) : Int) = ((aa s).drop p).getD m 0 := by
  rw [List.getD_eq_getElem?_getD, List.getElem?_drop, ← List.getD_eq_getElem?_getD, iC]
theorem lB {set l : List Int} {m : Nat} (h : m < aQ set l) : l.getD m 0 ∉ set := by
  have hle := jl set l
  refine tw set l _ ?_
  rw [List.getD_eq_getElem?_getD, List.getElem?_eq_getElem (by omega)]
  have : l[m]'(by omega) = (l.take (aQ set l))[m]'(by rw [List.length_take]; omega) := by rw [List.getElem_take]
  show l[m]'(by omega) ∈ _
  rw [this]
  exact List.getElem_mem _
theorem nL {set l : List Int} (h : aQ set l < l.length) : l.getD (aQ set l) 0 ∈ set := by
  obtain ⟨b, t, e, hb⟩ := qN h
  have : l.getD (aQ set l) 0 = b := by
    have h1 : (l.drop (aQ set l))[0]? = some b := by rw [e]; rfl
    rw [List.getElem?_drop, Nat.add_zero] at h1
    rw [List.getD_eq_getElem?_getD, h1]; rfl
  rw [this]; exact hb
theorem xn : ∀ p : Int, (p = 4 ∨ p = 5) → ∀ c ∈ ([63, 35] : List Int), 0 ≤ c ∧ c < 128 ∧ c ≠ 37 ∧ hv c < 0 ∧ bV p c = false := by
  intro p hp c hc
  rcases hp with rfl | rfl <;> (simp only [List.mem_cons, List.mem_nil_iff, or_false] at hc; rcases hc with rfl | rfl <;> decide)
theorem yZ : ∀ c ∈ ([35] : List Int), 0 ≤ c ∧ c < 128 ∧ c ≠ 37 ∧ hv c < 0 ∧ bV 6 c = false := by
  intro c hc
  simp only [List.mem_cons, List.mem_nil_iff, or_false] at hc
  subst hc; decide
theorem qd (s : ByteArray) (p n : Nat) : aa (s.extract p (p + n)) = ((aa s).drop p).take n := by
  rw [ap, List.drop_take]; congr 1; omega
theorem l6 {p : Int} {iri : Bool} {l : List Int} {n : Nat} (hn : n ≤ l.length) : al p iri (l.take n) ≤ n ∧ (be p iri (l.take n) = true ↔ al p iri (l.take n) = n) := by
  have h := gV p iri (l.take n)
  rw [List.length_take] at h
  refine ⟨by omega, ?_⟩
  unfold be
  rw [beq_iff_eq, List.length_take]; omega
theorem ni {s : ByteArray} {iri fr : Bool} {e : Nat} (h : bt s (e : Int) ≠ 35) : fP s iri fr e = e := by unfold fP; rw [if_neg (fun h' => h h'.2)]
theorem oO {s : ByteArray} {iri : Bool} {e : Nat} (h : bt s (e : Int) ≠ 63) : qP s iri e = e := by unfold qP; rw [if_neg h]
theorem vS (s : ByteArray) (iri fr : Bool) (p : Nat) (hp : p ≤ s.size) (he : aQ [63, 35] ((aa s).drop p) = 0) :
    (decide (fP s iri fr (qP s iri p) = s.size) = (!(decide ((if bt s (p : Int) = 63 then ei (aa s) p else p) < s.size) && !fr) &&
      (be 6 iri (aa (if bt s (p : Int) = 63 then s.extract (p + 1) (ei (aa s) p) else nil8)) &&
       be 7 iri (aa (if (if bt s (p : Int) = 63 then ei (aa s) p else p) < s.size then s.extract ((if bt s (p : Int) = 63 then ei (aa s) p else p) + 1) s.size else nil8))))) ∧
    (fP s iri fr (qP s iri p) = s.size → (if bt s (p : Int) = 63 then s.extract (p + 1) (qP s iri p) else nil8) = (if bt s (p : Int) = 63 then s.extract (p + 1) (ei (aa s) p) else nil8) ∧
      decide (fr = true ∧ bt s (qP s iri p : Int) = 35) = decide ((if bt s (p : Int) = 63 then ei (aa s) p else p) < s.size) ∧
      (if fr = true ∧ bt s (qP s iri p : Int) = 35 then s.extract (qP s iri p + 1) (fP s iri fr (qP s iri p)) else nil8) = (if (if bt s (p : Int) = 63 then ei (aa s) p else p) < s.size then s.extract ((if bt s (p : Int) = 63 then ei (aa s) p else p) + 1) s.size else nil8)) := by
  have frag : ∀ f : Nat, f ≤ s.size → (f < s.size → bt s (f : Int) = 35) →
      (decide (fP s iri fr f = s.size) = (!(decide (f < s.size) && !fr) && be 7 iri (aa (if f < s.size then s.extract (f + 1) s.size else nil8)))) ∧
      (fP s iri fr f = s.size → decide (fr = true ∧ bt s (f : Int) = 35) = decide (f < s.size) ∧ (if fr = true ∧ bt s (f : Int) = 35 then s.extract (f + 1) (fP s iri fr f) else nil8) = (if f < s.size then s.extract (f + 1) s.size else nil8)) := by
    intro f hf h35
    have n7 : be 7 iri (aa nil8) = true := by
      have : aa nil8 = [] := by decide +kernel
      rw [this, kO]
    rcases Nat.lt_or_ge f s.size with h | h
    · have hb := h35 h
      rw [decide_eq_true h, if_pos h]
      cases fr
      · have e1 : fP s iri false f = f := by unfold fP; rw [if_neg (by simp)]
        rw [e1]
        have : decide (f = s.size) = false := decide_eq_false (by omega)
        rw [this]
        exact ⟨by simp, fun h' => by omega⟩
      · have e1 : fP s iri true f = f + 1 + al 7 iri ((aa s).drop (f + 1)) := by unfold fP; rw [if_pos ⟨rfl, hb⟩]
        have hle := gV 7 iri ((aa s).drop (f + 1))
        rw [List.length_drop, af] at hle
        have e2 : aa (s.extract (f + 1) s.size) = (aa s).drop (f + 1) := bh s (f + 1)
        refine ⟨?_, fun h' => ?_⟩
        · rw [e1, e2]
          unfold be
          rw [List.length_drop, af, Bool.eq_iff_iff]
          simp
          omega
        · rw [h', decide_eq_true ⟨rfl, hb⟩, if_pos ⟨rfl, hb⟩]
          exact ⟨rfl, rfl⟩
    · have hz := kP s h
      have hne : bt s (f : Int) ≠ 35 := by rw [hz]; decide
      have : decide (f < s.size) = false := decide_eq_false (by omega)
      rw [this, if_neg (by omega), ni hne, n7]
      have hfs : f = s.size := by omega
      have e3 : decide (fr = true ∧ bt s (f : Int) = 35) = false := decide_eq_false (fun h' => hne h'.2)
      refine ⟨?_, fun _ => ?_⟩
      · rw [decide_eq_true hfs]; simp
      · rw [e3, if_neg (fun h' => hne h'.2)]
        exact ⟨rfl, rfl⟩
  have n6 : be 6 iri (aa nil8) = true := by
    have : aa nil8 = [] := by decide +kernel
    rw [this, kO]
  by_cases hq : bt s (p : Int) = 63
  · simp only [if_pos hq]
    have hlt := oc (by decide) hq
    have hqe := pK (l := aa s) (p := p) (by rw [af]; exact hlt)
    rw [af] at hqe
    have hn := jl [35] ((aa s).drop (p + 1))
    have eq1 : ei (aa s) p = p + 1 + aQ [35] ((aa s).drop (p + 1)) := rfl
    have hsp := ny 6 iri [35] yZ ((aa s).drop (p + 1))
    have hst := l6 (p := 6) (iri := iri) (l := (aa s).drop (p + 1)) hn
    have eqb : aa (s.extract (p + 1) (ei (aa s) p)) = ((aa s).drop (p + 1)).take (aQ [35] ((aa s).drop (p + 1))) := by rw [eq1, qd]
    have eqp : qP s iri p = p + 1 + al 6 iri ((aa s).drop (p + 1)) := by unfold qP; rw [if_pos hq]
    rw [hsp] at eqp
    rw [eqb]
    cases h6 : be 6 iri (((aa s).drop (p + 1)).take (aQ [35] ((aa s).drop (p + 1))))
    · have hlt6 : al 6 iri (((aa s).drop (p + 1)).take (aQ [35] ((aa s).drop (p + 1)))) < aQ [35] ((aa s).drop (p + 1)) := by
        rcases Nat.lt_or_ge (al 6 iri (((aa s).drop (p + 1)).take (aQ [35] ((aa s).drop (p + 1))))) (aQ [35] ((aa s).drop (p + 1))) with h | h
        · exact h
        · have := hst.2.2 (by have := hst.1; omega)
          rw [this] at h6; cases h6
      have hne : bt s (qP s iri p : Int) ≠ 35 := by
        rw [eqp, n9]
        have := lB hlt6
        simpa using this
      have hfp : fP s iri fr (qP s iri p) = qP s iri p := ni hne
      have hsz : qP s iri p < s.size := by omega
      have : decide (fP s iri fr (qP s iri p) = s.size) = false := decide_eq_false (by rw [hfp]; omega)
      rw [this]
      refine ⟨by simp, fun h' => ?_⟩
      rw [hfp] at h'
      omega
    · have hfull := hst.2.1 h6
      have eqq : qP s iri p = ei (aa s) p := by rw [eqp, hfull]; exact eq1.symm
      rw [eqq, Bool.true_and]
      have hf := frag (ei (aa s) p) hqe.2 (fun h => by
        have := nL (set := [35]) (l := (aa s).drop (p + 1)) (by rw [List.length_drop, af]; omega)
        rw [eq1, n9]
        simpa using this)
      exact ⟨hf.1, fun h => ⟨rfl, hf.2 h⟩⟩
  · simp only [if_neg hq]
    rw [oO hq, n6, Bool.true_and]
    have hf := frag p hp (fun h => by
      have := nL (set := [63, 35]) (l := (aa s).drop p) (by rw [he, List.length_drop, af]; omega)
      rw [he, ← n9, Nat.add_zero] at this
      simp only [List.mem_cons, List.mem_nil_iff, or_false] at this
      exact this.resolve_left hq)
    exact ⟨hf.1, fun h => ⟨trivial, hf.2 h⟩⟩
theorem sA (set : List Int) (l : List Int) : aQ set (l.drop (aQ set l)) = 0 := by
  rcases oZ set l with h | ⟨b, t, h, hb⟩
  · rw [h]; rfl
  · rw [h, nc]
    have : set.contains b = true := by simpa using hb
    rw [if_pos this]
theorem vJ (s : ByteArray) (iri fr ns : Bool) (c : Nat) (hc : c ≤ s.size) (e : Nat) (he : e = dK (aa s) (bg s c)) (f : Nat) (hf : f = if bt s (e : Int) = 63 then ei (aa s) e else e) :
    (iZ s iri fr ns c = ((!dU s c || eJ iri (bq (jD s c))) && (!(decide (f < s.size) && !fr) && (im iri ns (dU s c) (aa (s.extract (bg s c) e)) &&
      (be 6 iri (aa (if bt s (e : Int) = 63 then s.extract (e + 1) (ei (aa s) e) else nil8)) && be 7 iri (aa (if f < s.size then s.extract (f + 1) s.size else nil8))))))) ∧
    (iZ s iri fr ns c = true → ∀ sch, nt s iri fr c sch = (sch, dU s c, jD s c, s.extract (bg s c) e, decide (bt s (e : Int) = 63), if bt s (e : Int) = 63 then s.extract (e + 1) (ei (aa s) e) else nil8, decide (f < s.size), if f < s.size then s.extract (f + 1) s.size else nil8)) := by
  have hp := oQ s c hc
  have hn := jl [63, 35] ((aa s).drop (bg s c))
  have eE : e = bg s c + aQ [63, 35] ((aa s).drop (bg s c)) := he
  have hel : e ≤ s.size := by rw [List.length_drop, af] at hn; omega
  have hpb : aa (s.extract (bg s c) e) = ((aa s).drop (bg s c)).take (aQ [63, 35] ((aa s).drop (bg s c))) := by rw [eE, qd]
  have h5 := ny 5 iri [63, 35] (xn 5 (.inr rfl)) ((aa s).drop (bg s c))
  have h4 := ny 4 iri [63, 35] (xn 4 (.inl rfl)) ((aa s).drop (bg s c))
  have s5 := l6 (p := 5) (iri := iri) (l := (aa s).drop (bg s c)) hn
  have s4 := l6 (p := 4) (iri := iri) (l := (aa s).drop (bg s c)) hn
  have eRE : fk s iri c = bg s c + al 5 iri (((aa s).drop (bg s c)).take (aQ [63, 35] ((aa s).drop (bg s c)))) := by unfold fk; rw [h5]
  unfold iZ
  cases ha5 : be 5 iri (aa (s.extract (bg s c) e))
  · have hlt : al 5 iri (((aa s).drop (bg s c)).take (aQ [63, 35] ((aa s).drop (bg s c)))) < aQ [63, 35] ((aa s).drop (bg s c)) := by
      rcases Nat.lt_or_ge (al 5 iri (((aa s).drop (bg s c)).take (aQ [63, 35] ((aa s).drop (bg s c))))) (aQ [63, 35] ((aa s).drop (bg s c))) with h | h
      · exact h
      · have := s5.2.2 (by have := s5.1; omega)
        rw [← hpb, ha5] at this; cases this
    have hno := lB hlt
    rw [← n9, ← eRE] at hno
    simp only [List.mem_cons, List.mem_nil_iff, or_false, not_or] at hno
    have hq := oO (iri := iri) hno.1
    have hfp := ni (iri := iri) (fr := fr) hno.2
    have hlt2 : fk s iri c < s.size := by rw [List.length_drop, af] at hn; omega
    have : decide (fP s iri fr (qP s iri (fk s iri c)) = s.size) = false := decide_eq_false (by rw [hq, hfp]; omega)
    rw [this]
    have hpl : im iri ns (dU s c) (aa (s.extract (bg s c) e)) = false := by unfold im; rw [ha5]; rfl
    rw [hpl]
    simp
  · rw [hpb] at ha5
    have hfull := s5.2.1 ha5
    have eRe : fk s iri c = e := by rw [eRE, hfull, eE]
    have hag := sA [63, 35] ((aa s).drop (bg s c))
    rw [List.drop_drop, ← eE] at hag
    have tl := vS s iri fr e hel hag
    rw [← hf] at tl
    rw [eRe, tl.1]
    have hcol : (!jo ns (dU s c) iri ((aa s).drop (bg s c)) && jz (dU s c) (aa (s.extract (bg s c) e))) = im iri ns (dU s c) (aa (s.extract (bg s c) e)) := by
      have hg : (((aa s).drop (bg s c)).getD (al 4 iri ((aa s).drop (bg s c))) 0 == 58) = ((aa (s.extract (bg s c) e)).getD (al 4 iri (aa (s.extract (bg s c) e))) 0 == 58) := by
        rw [h4, hpb]
        generalize hm : al 4 iri (((aa s).drop (bg s c)).take (aQ [63, 35] ((aa s).drop (bg s c)))) = m at s4
        rcases Nat.lt_or_ge m (aQ [63, 35] ((aa s).drop (bg s c))) with h | h
        · congr 1
          rw [List.getD_eq_getElem?_getD, List.getD_eq_getElem?_getD, List.getElem?_take_of_lt h]
        · have hmn : m = aQ [63, 35] ((aa s).drop (bg s c)) := by omega
          have e2 : (((aa s).drop (bg s c)).take (aQ [63, 35] ((aa s).drop (bg s c)))).getD m 0 = 0 := by
            rw [List.getD_eq_getElem?_getD, List.getElem?_eq_none (by rw [List.length_take]; omega)]; rfl
          rw [e2]
          rcases Nat.lt_or_ge m ((aa s).drop (bg s c)).length with hl | hl
          · have := nL (set := [63, 35]) (l := (aa s).drop (bg s c)) (by omega)
            rw [← hmn] at this
            simp only [List.mem_cons, List.mem_nil_iff, or_false] at this
            rcases this with h' | h' <;> rw [h'] <;> decide
          · rw [List.getD_eq_getElem?_getD, List.getElem?_eq_none hl]; decide
      unfold jo jz im
      rw [hg, hpb, ha5, ← hpb]
      cases dU s c <;> cases ns <;> simp [Bool.and_comm]
    refine ⟨?_, fun hok sch => ?_⟩
    · rw [← hcol]
      cases (!dU s c || eJ iri (bq (jD s c))) <;> cases (!(decide (f < s.size) && !fr)) <;> cases (!jo ns (dU s c) iri ((aa s).drop (bg s c))) <;> simp
    · have hfe : fP s iri fr (qP s iri e) = s.size := by
        rw [← tl.1] at hok
        simp only [Bool.and_eq_true, decide_eq_true_iff] at hok
        exact hok.2.2.2
      have t2 := tl.2 hfe
      unfold nt
      rw [eRe, t2.1, t2.2.1, t2.2.2]
def hX (kind : Int) (s : ByteArray) : Bool := kn kind (bO s).1 (bO s).2.1 (bO s).2.2.1 (bO s).2.2.2.1 (bO s).2.2.2.2.2.1 (bO s).2.2.2.2.2.2.1 (bO s).2.2.2.2.2.2.2
theorem xX (s : ByteArray) : dU s (pC (aa s)) = cA (aa s) := rfl
theorem xY (s : ByteArray) : bg s (pC (aa s)) = pP (aa s) := rfl
theorem po (s : ByteArray) (kind : Int) (ns : Bool) (sch : ByteArray) (hsch : sch = (bO s).1) (hns : ns = (aa sch == [])) (hk : (if aa sch = [] then kind == 2 || kind == 5 else gA (aa sch)) = true) :
    (iZ s (decide (kind ≥ 4)) (kind != 3) ns (pC (aa s)) = hX kind s) ∧ (iZ s (decide (kind ≥ 4)) (kind != 3) ns (pC (aa s)) = true → nt s (decide (kind ≥ 4)) (kind != 3) (pC (aa s)) sch = bO s) := by
  have hC := qH (aa s)
  rw [af] at hC
  have e63 : ∀ x : Int, decide (x = 63) = (x == 63) := fun x => by rw [Bool.eq_iff_iff, decide_eq_true_iff, beq_iff_eq]
  have hf : pF (aa s) = if bt s (dK (aa s) (pP (aa s)) : Int) = 63 then ei (aa s) (dK (aa s) (pP (aa s))) else dK (aa s) (pP (aa s)) := by
    unfold pF cQ
    rw [iC]
    by_cases h : bt s (dK (aa s) (pP (aa s)) : Int) = 63
    · rw [if_pos h, if_pos (beq_iff_eq.2 h)]
    · rw [if_neg h, if_neg (by rw [beq_iff_eq]; exact h)]
  have h := vJ s (decide (kind ≥ 4)) (kind != 3) ns (pC (aa s)) hC (dK (aa s) (pP (aa s))) rfl (pF (aa s)) hf
  have hU : jD s (pC (aa s)) = (bO s).2.2.1 := rfl
  have hQ : decide (bt s (dK (aa s) (pP (aa s)) : Int) = 63) = cQ (aa s) := by unfold cQ; rw [iC, e63]
  have hq : (if bt s (dK (aa s) (pP (aa s)) : Int) = 63 then s.extract (dK (aa s) (pP (aa s)) + 1) (ei (aa s) (dK (aa s) (pP (aa s)))) else nil8) = (bO s).2.2.2.2.2.1 := by
    show _ = if cQ (aa s) = true then s.extract (dK (aa s) (pP (aa s)) + 1) (pF (aa s)) else nil8
    by_cases h : bt s (dK (aa s) (pP (aa s)) : Int) = 63
    · have hc : cQ (aa s) = true := by rw [← hQ]; exact decide_eq_true h
      rw [if_pos h, if_pos hc, hf, if_pos h]
    · have hc : cQ (aa s) = false := by rw [← hQ]; exact decide_eq_false h
      rw [if_neg h, hc]; rfl
  have hF : decide (pF (aa s) < s.size) = cF (aa s) := by unfold cF; rw [af]
  have hfr : (if pF (aa s) < s.size then s.extract (pF (aa s) + 1) s.size else nil8) = (bO s).2.2.2.2.2.2.2 := by
    show _ = if cF (aa s) = true then s.extract (pF (aa s) + 1) s.size else nil8
    by_cases h : pF (aa s) < s.size
    · rw [if_pos h, if_pos (by rw [← hF]; exact decide_eq_true h)]
    · have hc : cF (aa s) = false := by rw [← hF]; exact decide_eq_false h
      rw [if_neg h, hc]; rfl
  rw [hq, hfr, hQ, hF, hU, xX, xY] at h
  refine ⟨?_, fun hok => ?_⟩
  · rw [h.1]
    unfold hX kn
    rw [← hsch, hk, hns]
    have e3 : (cF (aa s) && !(kind != 3)) = (cF (aa s) && kind == 3) := by rw [bne, Bool.not_not]
    rw [e3]
    cases hc : cF (aa s) && kind == 3
    · have : ((bO s).2.2.2.2.2.2.1 && kind == 3) = false := hc
      rw [this, Bool.true_and]
      show _ = (true && ((!cA (aa s) || _) && _))
      simp
      rfl
    · have : ((bO s).2.2.2.2.2.2.1 && kind == 3) = true := hc
      rw [this]
      simp
  · rw [h.2 hok sch, hsch]
    rfl
theorem vt (s : ByteArray) (iri fr : Bool) (h : cS (aa s) = true) : iZ s iri fr true 0 = false := by
  unfold cS at h
  rw [Bool.and_eq_true, decide_eq_true_iff, beq_iff_eq] at h
  have hlt := lG (by decide) h.2
  have hsz := hlt
  rw [af] at hsz
  have h0 := lB (set := [58, 47, 63, 35]) (l := aa s) (m := 0) h.1
  have hA : dU s 0 = false := by
    unfold dU
    rw [List.drop_zero, beq_eq_false_iff_ne]
    intro h2
    have : (aa s).getD 0 0 = 47 := by
      cases e : aa s with
      | nil => rw [e] at h2; simp at h2
      | cons b t =>
        rw [e] at h2
        cases t with
        | nil => simp at h2
        | cons c u => simp at h2; simp [h2.1]
    rw [this] at h0
    simp at h0
  have hP : bg s 0 = 0 := by unfold bg; rw [hA]; rfl
  have hd : (aa s).drop (pI (aa s)) = 58 :: (aa s).drop (pI (aa s) + 1) := by
    rw [gf hsz, ← iC, h.2]
  have e4 : al 4 iri (aa s) = al 4 iri ((aa s).take (pI (aa s))) := by
    conv => lhs; rw [lJ [58, 47, 63, 35] (aa s)]
    have hd' : (aa s).drop (aQ [58, 47, 63, 35] (aa s)) = 58 :: (aa s).drop (pI (aa s) + 1) := hd
    rw [hd']
    exact ru 4 iri 58 _ (by decide) (by decide) (by decide) (by decide) (by decide) _ _ rfl
  have hle4 := gV 4 iri ((aa s).take (pI (aa s)))
  rw [List.length_take] at hle4
  unfold iZ
  rw [hA, hP, List.drop_zero]
  by_cases hcol : (aa s).getD (al 4 iri (aa s)) 0 = 58
  · have : jo true false iri (aa s) = true := by unfold jo; rw [hcol]; rfl
    rw [this]; simp
  · have hm : al 4 iri (aa s) < pI (aa s) := by
      rcases Nat.lt_or_ge (al 4 iri (aa s)) (pI (aa s)) with h' | h'
      · exact h'
      · have : al 4 iri (aa s) = pI (aa s) := by omega
        rw [this] at hcol
        exact absurd h.2 hcol
    have hno := lB (set := [58, 47, 63, 35]) (l := aa s) hm
    have hz4 : aE 4 iri ((aa s).drop (al 4 iri (aa s))) = 0 := by
      have h1 := jT (p := 4) (q := 4) (iri := iri) ⟨by decide, fun _ hr => hr⟩ _ (aa s) rfl
      exact (io 4 iri _).1 (by omega)
    have hz5 : aE 5 iri ((aa s).drop (al 4 iri (aa s))) = 0 := by
      by_cases h5 : aE 5 iri ((aa s).drop (al 4 iri (aa s))) = 0
      · exact h5
      · exfalso
        obtain ⟨t, ht⟩ := kt (fun b hb => kQ s b (List.mem_of_mem_drop hb)) hz4 h5
        have hg : (aa s).getD (al 4 iri (aa s)) 0 = ((aa s).drop (al 4 iri (aa s))).getD 0 0 := by
          rw [List.getD_eq_getElem?_getD, List.getD_eq_getElem?_getD, List.getElem?_drop, Nat.add_zero]
        rw [hg] at hno
        rcases ht with ht | ht <;> (rw [ht] at hno; simp at hno)
    have e5 : al 5 iri (aa s) = al 4 iri (aa s) := by
      rw [jT (oW iri) _ (aa s) rfl, (io 5 iri _).2 hz5, Nat.add_zero]
    have hE : fk s iri 0 = al 4 iri (aa s) := by unfold fk; rw [hP, List.drop_zero, e5, Nat.zero_add]
    rw [hE]
    rw [iC] at hno
    simp only [List.mem_cons, List.mem_nil_iff, or_false, not_or] at hno
    have hq := oO (iri := iri) hno.2.2.1
    have hfp := ni (iri := iri) (fr := fr) hno.2.2.2
    have : decide (fP s iri fr (qP s iri (al 4 iri (aa s))) = s.size) = false := decide_eq_false (by rw [hq, hfp]; omega)
    rw [this]; simp
theorem vA (kind : Int) (h1 : 1 ≤ kind) (h5 : kind ≤ 5) (s : ByteArray) : qJ kind s = if hX kind s = true then oX (bO s) else no9 := by
  have hI := ph (aa s)
  rw [af] at hI
  unfold qJ
  cases hc : cS (aa s)
  ·
    have hok : okS (aa s) = false := by unfold okS; rw [hc]; rfl
    have hC0 : pC (aa s) = 0 := by unfold pC; rw [hc]; rfl
    have hs1 : (bO s).1 = nil8 := by show (if cS (aa s) = true then _ else nil8) = _; rw [hc]; rfl
    have hn : aa nil8 = [] := by decide +kernel
    rw [hok]
    simp only [Bool.false_eq_true, if_false]
    by_cases hk : kind = 2 ∨ kind = 5
    · have h := po s kind true nil8 hs1.symm (by rw [hn]; rfl) (by rw [if_pos hn]; rcases hk with rfl | rfl <;> decide)
      rw [hC0] at h
      rw [if_pos hk, h.1]
      cases hm : hX kind s
      · rfl
      · rw [if_pos rfl, if_pos rfl, h.2 (by rw [h.1]; exact hm)]
    · rw [if_neg hk]
      have : hX kind s = false := by
        unfold hX kn
        rw [hs1, if_pos hn]
        have e2 : (kind == 2) = false := beq_eq_false_iff_ne.2 (fun h => hk (.inl h))
        have e5 : (kind == 5) = false := beq_eq_false_iff_ne.2 (fun h => hk (.inr h))
        rw [e2, e5]; rfl
      rw [this]; rfl
  · have hlt : pI (aa s) < s.size ∧ 0 < pI (aa s) := by
      have h := hc
      unfold cS at h
      rw [Bool.and_eq_true, decide_eq_true_iff, beq_iff_eq] at h
      have := lG (by decide) h.2
      rw [af] at this
      exact ⟨this, h.1⟩
    have hs1 : (bO s).1 = s.extract 0 (pI (aa s)) := by show (if cS (aa s) = true then _ else nil8) = _; rw [hc]; rfl
    have hne : aa (s.extract 0 (pI (aa s))) ≠ [] := by
      rw [mY]
      intro h
      have hl : ((aa s).take (pI (aa s))).length = 0 := by rw [h]; rfl
      rw [List.length_take, af] at hl
      omega
    cases hsl : gA ((aa s).take (pI (aa s)))
    · have hok : okS (aa s) = false := by unfold okS; rw [hsl, Bool.and_false]
      have : hX kind s = false := by
        unfold hX kn
        rw [hs1, if_neg hne, mY, hsl]; rfl
      rw [hok, this]
      simp only [Bool.false_eq_true, if_false]
      split
      · rw [vt s _ _ hc]; rfl
      · rfl
    · have hok : okS (aa s) = true := by unfold okS; rw [hc, hsl]; rfl
      have hC : pC (aa s) = pI (aa s) + 1 := by unfold pC; rw [hc]; rfl
      have h := po s kind (aa (s.extract 0 (pI (aa s))) == []) (s.extract 0 (pI (aa s))) hs1.symm rfl (by rw [if_neg hne, mY]; exact hsl)
      rw [hC] at h
      rw [hok, if_pos rfl, h.1]
      cases hm : hX kind s
      · rfl
      · rw [if_pos rfl, if_pos rfl, h.2 (by rw [h.1]; exact hm)]
abbrev qL := ByteArray × Bool × ByteArray × ByteArray × Bool × ByteArray × Bool × ByteArray × Int
def kj (e : Int) : qL := (nil8, false, nil8, nil8, false, nil8, false, nil8, e)
def ok9 (p : mG) : qL := (p.1, p.2.1, p.2.2.1, p.2.2.2.1, p.2.2.2.2.1, p.2.2.2.2.2.1, p.2.2.2.2.2.2.1, p.2.2.2.2.2.2.2, 0)
def kY (kind : Int) (s : ByteArray) : qL :=
  if kind < 1 ∨ 5 < kind then kj 1 else if 65535 < s.size then kj 2 else if 4 ≤ kind ∧ kM (aa s) = false then kj 3
  else if hX kind s = true then ok9 (bO s) else kj 4
theorem wD (kind : Int) (h1 : 1 ≤ kind) (h5 : kind ≤ 5) (s : ByteArray) (hs : s.size ≤ 1000000) (x : Bool) :
    Ev (fun k => dg k kind s x) (if x = true then kj 3 else if hX kind s = true then ok9 (bO s) else kj 4) := by
  refine Ev.step (fun k => by rw [dg]) ?_
  cases x
  · refine ae (by simp) (ah (yu kind h1 h5 s hs) ?_)
    rw [vA kind h1 h5 s]
    cases hm : hX kind s
    · exact ae (by simp [no9]) (Ev.val (by simp [kj]))
    · exact ab (by simp [oX]) (Ev.val (by simp [ok9, oX]))
  · exact ab rfl (Ev.val (by simp [kj]))
theorem wC (kind : Int) (s : ByteArray) : Ev (fun k => fw k kind s) (kY kind s) := by
  have bad : Ev (fun k => cG k kind s true) (kj 1) := by
    refine Ev.step (fun k => by rw [cG]) ?_
    exact ab rfl (Ev.val rfl)
  unfold fw kY
  by_cases h1 : kind < 1
  · rw [if_pos (.inl h1)]; exact ab h1 bad
  · refine ae h1 ?_
    by_cases h5 : 5 < kind
    · rw [if_pos (.inr h5), decide_eq_true (show kind > 5 from h5)]; exact bad
    · rw [if_neg (by omega), decide_eq_false (show ¬ kind > 5 from h5)]
      refine Ev.step (fun k => by rw [cG]) ?_
      refine ae (by simp) ?_
      by_cases hs : 65535 < s.size
      · rw [if_pos hs]; exact ab (by omega) (Ev.val rfl)
      · rw [if_neg hs]
        refine ae (by omega) (bw (tg (by omega) (by omega)) ?_)
        have hj := wD kind (by omega) (by omega) s (by omega)
        by_cases h4 : 4 ≤ kind
        · refine ab (decide_eq_true h4) (ah (yd s (by omega)) ?_)
          have h := hj (!kM (aa s))
          cases hw : kM (aa s)
          · rw [if_pos ⟨h4, rfl⟩]; rw [hw] at h; exact h
          · rw [if_neg (by simp)]; rw [hw] at h; exact h
        · refine ae (by rw [decide_eq_true_iff]; omega) ?_
          rw [if_neg (by omega)]
          exact hj false
theorem uG (kind : Int) (s : ByteArray) : Ev (fun k => dV k kind s) ((kY kind s).2.2.2.2.2.2.2.2 == 0) := by
  unfold dV
  exact ah (wC kind s) (az _)
theorem sM (kind : Int) (h1 : 1 ≤ kind) (h5 : kind ≤ 5) (s : ByteArray) (hs : s.size ≤ 1000000) (x : Bool) :
    Ev (fun k => dH k kind s x) (if x = true then kj 3 else if hX kind s = true then ok9 (bO s) else kj 4) := by
  refine Ev.step (fun k => by rw [dH]) ?_
  have hp : ∀ i j, (s.extract i j).size ≤ 1000000 := fun i j => by rw [ByteArray.size_extract]; omega
  have hn : nil8.size ≤ 1000000 := by decide
  have ha : ∀ (c : Bool) i j, (if c = true then s.extract i j else nil8).size ≤ 1000000 := fun c i j => by cases c; exact hn; exact hp i j
  cases x
  · refine ae (by simp) (ah (ul s (by omega)) ?_)
    refine ah (ug kind _ _ _ _ _ _ _ _ (ha _ _ _) (ha _ _ _) (hp _ _) (ha _ _ _) (ha _ _ _)) ?_
    show Ev (fun k => if hX kind s = true then _ else _) _
    cases hm : hX kind s
    · exact ae (by simp) (Ev.val (by simp [kj]))
    · exact ab rfl (Ev.val (by simp [ok9]))
  · exact ab rfl (Ev.val (by simp [kj]))
theorem uh (kind : Int) (s : ByteArray) : Ev (fun k => fD k kind s) (kY kind s) := by
  have bad : Ev (fun k => cP k kind s true) (kj 1) := by
    refine Ev.step (fun k => by rw [cP]) ?_
    exact ab rfl (Ev.val rfl)
  unfold fD kY
  by_cases h1 : kind < 1
  · rw [if_pos (.inl h1)]; exact ab h1 bad
  · refine ae h1 ?_
    by_cases h5 : 5 < kind
    · rw [if_pos (.inr h5), decide_eq_true (show kind > 5 from h5)]; exact bad
    · rw [if_neg (by omega), decide_eq_false (show ¬ kind > 5 from h5)]
      refine Ev.step (fun k => by rw [cP]) ?_
      refine ae (by simp) ?_
      by_cases hs : 65535 < s.size
      · rw [if_pos hs]; exact ab (by omega) (Ev.val rfl)
      · rw [if_neg hs]
        refine ae (by omega) ?_
        have hj := sM kind (by omega) (by omega) s (by omega)
        by_cases h4 : 4 ≤ kind
        · refine ab h4 (ah (uf s (by omega)) ?_)
          have h := hj (decide (dk (aa s) ≥ 0))
          cases hw : kM (aa s)
          · rw [if_pos ⟨h4, rfl⟩]
            unfold kM at hw
            rw [decide_eq_false_iff_not] at hw
            rw [decide_eq_true (show dk (aa s) ≥ 0 by omega)] at h ⊢; exact h
          · rw [if_neg (by simp)]
            unfold kM at hw
            rw [decide_eq_true_iff] at hw
            rw [decide_eq_false (show ¬ dk (aa s) ≥ 0 by omega)] at h ⊢; exact h
        · refine ae h4 ?_
          rw [if_neg (by omega)]
          exact hj false
end Go.Proofs.YtpmflpeckoeooaaGreatDoor.Y
namespace Go.Proofs.YtpmflpeckoeooaaGreatDoor.M
open Go Go.RowKit Go.Proofs.YtpmflpeckoeooaaGreatDoorW.PrintWords
def zb (set l : List Int) : Prop := l = [] ∨ ∃ b t, l = b :: t ∧ b ∈ set
def qF (hf : Bool) (f : List Int) : List Int := if hf then 35 :: f else []
def pj (hq : Bool) (q : List Int) : List Int := if hq then 63 :: q else []
def qD (ha : Bool) (aut : List Int) : List Int := if ha then 47 :: 47 :: aut else []
def rq (sch : List Int) : List Int := if sch = [] then [] else sch ++ [58]
def xg (sch : List Int) (ha : Bool) (aut pth : List Int) (hq : Bool) (q : List Int) (hf : Bool) (f : List Int) : List Int :=
  rq sch ++ (qD ha aut ++ (pth ++ (pj hq q ++ qF hf f)))
structure Fit (sch : List Int) (ha : Bool) (aut pth q : List Int) : Prop where
  sch_free : ∀ b ∈ sch, b ∉ ([58, 47, 63, 35] : List Int)
  aut_free : ha = true → ∀ b ∈ aut, b ∉ ([47, 63, 35] : List Int)
  pth_slash : ha = true → zb [47] pth
  pth_no : ha = false → pth.take 2 ≠ [47, 47]
  pth_free : ∀ b ∈ pth, b ∉ ([63, 35] : List Int)
  q_free : ∀ b ∈ q, b ∉ ([35] : List Int)
  colon : sch = [] → ha = false → pth.getD (aQ [58, 47] pth) 0 ≠ 58
end Go.Proofs.YtpmflpeckoeooaaGreatDoor.M
namespace Go.Proofs.YtpmflpeckoeooaaGreatDoor.Y
open Go.RowKit Go.Proofs.YtpmflpeckoeooaaGreatDoor.X Go.Proofs.YtpmflpeckoeooaaGreatDoor.M Go.Proofs.YtpmflpeckoeooaaGreatDoorW.PrintWords Go.Proofs.YtpmflpeckoeooaaGreatDoorW.PrintLast Go.Proofs.YtpmflpeckoeooaaGreatDoorW.PrintMore
def tS (p : mG) : List Int := xg (aa p.1) p.2.1 (aa p.2.2.1) (aa p.2.2.2.1) p.2.2.2.2.1 (aa p.2.2.2.2.2.1) p.2.2.2.2.2.2.1 (aa p.2.2.2.2.2.2.2)
theorem o2 : aa nil8 = [] := by decide +kernel
theorem kE (l : List Int) {i j : Nat} (h : i ≤ j) (hj : j ≤ l.length) : (l.take j).drop i ++ l.drop j = l.drop i := by
  have e : l.drop i = (l.take j ++ l.drop j).drop i := by rw [List.take_append_drop]
  rw [e, List.drop_append_of_le_length (by rw [List.length_take]; omega)]
theorem tU (s : ByteArray) : tS (bO s) = aa s := by
  have hI := ph (aa s)
  have hC := qH (aa s)
  have hPl := yX (aa s)
  have hEl := ti (l := aa s) (p := pP (aa s)) hPl
  unfold tS bO xg
  dsimp only
  have e5 : qF (cF (aa s)) (aa (if cF (aa s) = true then s.extract (pF (aa s) + 1) s.size else nil8)) = (aa s).drop (pF (aa s)) := by
    cases h : cF (aa s)
    · unfold cF at h
      rw [decide_eq_false_iff_not] at h
      rw [List.drop_eq_nil_of_le (by omega)]; rfl
    · have h' := h
      unfold cF at h'
      rw [decide_eq_true_iff] at h'
      have hs : (aa s).getD (pF (aa s)) 0 = 35 := by
        unfold pF at h' ⊢
        cases hq : cQ (aa s)
        · rw [hq] at h'
          simp only [Bool.false_eq_true, if_false] at h' ⊢
          have hin : (aa s).getD (dK (aa s) (pP (aa s))) 0 ∈ ([63, 35] : List Int) := by
            have := nL (set := [63, 35]) (l := (aa s).drop (pP (aa s))) (by rw [List.length_drop]; unfold dK at h'; omega)
            rw [List.getD_eq_getElem?_getD, List.getElem?_drop, ← List.getD_eq_getElem?_getD] at this
            exact this
          unfold cQ at hq
          rw [beq_eq_false_iff_ne] at hq
          simp only [List.mem_cons, List.mem_nil_iff, or_false] at hin
          exact hin.resolve_left hq
        · rw [hq] at h'
          simp only [if_true] at h' ⊢
          unfold ei at h' ⊢
          have := nL (set := [35]) (l := (aa s).drop (dK (aa s) (pP (aa s)) + 1)) (by rw [List.length_drop]; omega)
          rw [List.getD_eq_getElem?_getD, List.getElem?_drop, ← List.getD_eq_getElem?_getD, List.mem_singleton] at this
          exact this
      show 35 :: aa (if true = true then s.extract (pF (aa s) + 1) s.size else nil8) = _
      rw [if_pos rfl, bh, List.drop_eq_getElem_cons h']
      rw [List.getD_eq_getElem?_getD, List.getElem?_eq_getElem h'] at hs
      have hs : (aa s)[pF (aa s)] = 35 := hs
      rw [hs]
  have e4 : pj (cQ (aa s)) (aa (if cQ (aa s) = true then s.extract (dK (aa s) (pP (aa s)) + 1) (pF (aa s)) else nil8)) ++ (aa s).drop (pF (aa s)) = (aa s).drop (dK (aa s) (pP (aa s))) := by
    cases h : cQ (aa s)
    · unfold pF; rw [h]; rfl
    · have h' := h
      unfold cQ at h'
      rw [beq_iff_eq] at h'
      have hlt := lG (by decide) h'
      have hq := pK hlt
      have e : pF (aa s) = ei (aa s) (dK (aa s) (pP (aa s))) := by unfold pF; rw [h]; rfl
      show 63 :: aa (if true = true then _ else nil8) ++ _ = _
      rw [if_pos rfl, e, List.drop_eq_getElem_cons hlt]
      rw [List.getD_eq_getElem?_getD, List.getElem?_eq_getElem hlt] at h'
      have h' : (aa s)[dK (aa s) (pP (aa s))] = 63 := h'
      rw [h', List.cons_append, ap]
      congr 1
      have := kE (aa s) hq.1 hq.2
      exact this
  have e3 : aa (s.extract (pP (aa s)) (dK (aa s) (pP (aa s)))) ++ (aa s).drop (dK (aa s) (pP (aa s))) = (aa s).drop (pP (aa s)) := by
    rw [ap]
    exact kE (aa s) hEl.1 hEl.2
  have e2 : qD (cA (aa s)) (aa (if cA (aa s) = true then s.extract (pC (aa s) + 2) (fm (aa s) (pC (aa s))) else nil8)) ++ (aa s).drop (pP (aa s)) = (aa s).drop (pC (aa s)) := by
    cases h : cA (aa s)
    · unfold pP; rw [h]; rfl
    · have h' := h
      unfold cA at h'
      rw [beq_iff_eq] at h'
      have hle := mH (pv h')
      have e : pP (aa s) = fm (aa s) (pC (aa s)) := by unfold pP; rw [h]; rfl
      have h2 := kE (aa s) hle.1 hle.2
      have h3 : (aa s).drop (pC (aa s)) = [47, 47] ++ (aa s).drop (pC (aa s) + 2) := by
        rw [← h', ← List.drop_drop, List.take_append_drop]
      rw [if_pos rfl, e, h3, ap, ← h2]
      rfl
  have e1 : rq (aa (if cS (aa s) = true then s.extract 0 (pI (aa s)) else nil8)) ++ (aa s).drop (pC (aa s)) = aa s := by
    cases h : cS (aa s)
    · unfold pC; rw [h, if_neg (by simp), o2]; rfl
    · have h' := h
      unfold cS at h'
      rw [Bool.and_eq_true, decide_eq_true_iff, beq_iff_eq] at h'
      have hlt := lG (by decide) h'.2
      have e : pC (aa s) = pI (aa s) + 1 := by unfold pC; rw [h]; rfl
      have hb : aa (s.extract 0 (pI (aa s))) = (aa s).take (pI (aa s)) := by rw [ap, List.drop_zero]
      rw [if_pos rfl, hb, e]
      unfold rq
      rw [if_neg (by
        intro h0
        have := congrArg List.length h0
        rw [List.length_take, List.length_nil] at this
        omega)]
      have hd : (aa s).drop (pI (aa s)) = 58 :: (aa s).drop (pI (aa s) + 1) := by
        rw [List.drop_eq_getElem_cons hlt]
        have h2 := h'.2
        rw [List.getD_eq_getElem?_getD, List.getElem?_eq_getElem hlt] at h2
        have h2 : (aa s)[pI (aa s)] = 58 := h2
        rw [h2]
      rw [List.append_assoc, List.singleton_append, ← hd, List.take_append_drop]
  rw [e5, e4, e3, e2, e1]
def asc (l : List Int) : Prop := ∀ b ∈ l, 0 ≤ b ∧ b < 128
theorem iB : asc [] := fun b hb => by cases hb
theorem iA {a b : List Int} (ha : asc a) (hb : asc b) : asc (a ++ b) := fun x hx => (List.mem_append.1 hx).elim (ha x) (hb x)
theorem iQ {c : Int} {t : List Int} (hc : 0 ≤ c ∧ c < 128) (ht : asc t) : asc (c :: t) := fun x hx => (List.mem_cons.1 hx).elim (fun e => e ▸ hc) (ht x)
theorem wT (p : Int) (i j : Bool) {l : List Int} (h : asc l) : aE p i l = aE p j l := by
  cases l with
  | nil => rw [nA, nA]
  | cons b t =>
    have hb := h b (List.mem_cons_self ..)
    unfold aE
    rw [iJ t hb.2]
    have e : eQ p i b = eQ p j b := by unfold eQ; rw [if_pos hb, if_pos hb]
    dsimp only
    rw [e]
theorem rt (p : Int) (i j : Bool) : ∀ (n : Nat) (l : List Int), l.length = n → asc l → al p i l = al p j l := by
  intro n
  induction n using Nat.strongRecOn with
  | _ n ih =>
    intro l hn h
    rw [fL p i, fL p j, wT p i j h]
    by_cases hz : aE p j l = 0
    · rw [if_pos hz, if_pos hz]
    · have := i7 p j l
      rw [if_neg hz, if_neg hz, ih (l.drop (aE p j l)).length (by rw [List.length_drop]; omega) _ rfl (fun b hb => h b (List.mem_of_mem_drop hb))]
theorem kN (p : Int) (i j : Bool) {l : List Int} (h : asc l) : be p i l = be p j l := by
  unfold be; rw [rt p i j _ l rfl h]
theorem vR {p : Int} {l : List Int} (hl : ∀ b ∈ l, 0 ≤ b ∧ b ≤ 255) (h : aE p false l ≠ 0) : asc (l.take (aE p false l)) := by
  unfold aE at h ⊢
  by_cases hp : du p = true
  · rw [if_pos hp] at h ⊢
    by_cases he : 0 ≤ fX l
    · rw [if_pos he] at h ⊢
      obtain ⟨a, b, t, rfl, ha, hb, _⟩ := oI he
      intro x hx
      have hx' : x = 37 ∨ x = a ∨ x = b := by simpa using hx
      unfold bv at ha hb
      rw [decide_eq_true_iff] at ha hb
      rcases hx' with rfl | rfl | rfl <;> omega
    · rw [if_neg he] at h ⊢
      by_cases hd : ((dec l).2.2 && eQ p false (dec l).1) = true
      · rw [if_pos hd] at h ⊢
        rw [Bool.and_eq_true] at hd
        cases l with
        | nil => exact absurd hd.1 (by decide)
        | cons b t =>
          have hr : 0 ≤ (dec (b :: t)).1 ∧ (dec (b :: t)).1 < 128 := by
            have h2 := hd.2
            unfold eQ at h2
            by_cases hr : 0 ≤ (dec (b :: t)).1 ∧ (dec (b :: t)).1 < 128
            · exact hr
            · rw [if_neg hr] at h2
              simp at h2
          have hb := hl b (List.mem_cons_self ..)
          obtain ⟨h1, _, h3⟩ := o4 hb.1 hb.2 hd.1 hr.2
          rw [h3]
          intro x hx
          have : x = b := by simpa using hx
          omega
      · rw [if_neg hd] at h; exact absurd rfl h
  · rw [if_neg hp] at h; exact absurd rfl h
theorem sY {p : Int} : ∀ (n : Nat) (l : List Int), l.length = n → (∀ b ∈ l, 0 ≤ b ∧ b ≤ 255) → be p false l = true → asc l := by
  intro n
  induction n using Nat.strongRecOn with
  | _ n ih =>
    intro l hn hl ha
    by_cases he : l = []
    · rw [he]; exact iB
    · have hs := kf ha he
      have h1 := vR hl hs
      have hle := i7 p false l
      have ha' := ha
      unfold be at ha'
      rw [beq_iff_eq, fL, if_neg hs] at ha'
      have h2 := ih (l.drop (aE p false l)).length (by rw [List.length_drop]; omega) _ rfl (fun b hb => hl b (List.mem_of_mem_drop hb)) (by unfold be; rw [beq_iff_eq, List.length_drop]; omega)
      have := iA h1 h2
      rwa [List.take_append_drop] at this
theorem n8 {p : Int} {s : ByteArray} (h : be p false (aa s) = true) : asc (aa s) := sY _ _ rfl (fun b hb => d6 hb) h
theorem qe : ∀ l : List Int, asc l → dk l = -1
  | [], _ => mi
  | b :: t, h => by
    have hb := h b (List.mem_cons_self ..)
    have ih := qe t (fun c hc => h c (List.mem_cons_of_mem _ hc))
    have e := iJ t hb.2
    rw [nj (by simp) (by rw [e]), e]
    have e1 : (b :: t).drop ((1 : Int)).toNat = t := rfl
    dsimp only
    rw [e1, if_pos ih]
theorem uY (i j : Bool) {h : List Int} (ha : asc h) : gu i h = gu j h := by unfold gu; rw [kN 2 i j ha]
theorem mI {s : ByteArray} (h : asc (aa s)) (i j : Nat) : asc (aa (s.extract i j)) := by
  rw [ap]
  exact fun b hb => h b (List.mem_of_mem_take (List.mem_of_mem_drop hb))
theorem uq (i j : Bool) {s : ByteArray} (h : asc (aa s)) : eJ i (bq s) = eJ j (bq s) := by
  unfold eJ i1
  have hr : asc (aa (br s)) := mI h _ _
  have h1 : asc (aa (bq s).2.1) := mI h _ _
  have h2 : asc (aa (bq s).2.2.1) := mI hr _ _
  rw [kN 1 i j h1, uY i j h2]
theorem vx (i j ns ha : Bool) {l : List Int} (h : asc l) : im i ns ha l = im j ns ha l := by
  unfold im; rw [kN 5 i j h, rt 4 i j _ l rfl h]
theorem wv {k m : Int} (hk : k < 4) (hm : 4 ≤ m) (hk3 : (k == 3) = false) (hm3 : (m == 3) = false) (hkm : (k == 2 || k == 5) = (m == 2 || m == 5))
    (sch : ByteArray) (ha : Bool) {aut pth q : ByteArray} (hf : Bool) {f : ByteArray} (h1 : asc (aa aut)) (h2 : asc (aa pth)) (h3 : asc (aa q)) (h4 : asc (aa f)) :
    kn k sch ha aut pth q hf f = kn m sch ha aut pth q hf f := by
  unfold kn
  rw [decide_eq_false (show ¬ k ≥ 4 by omega), decide_eq_true (show m ≥ 4 from hm), hk3, hm3, hkm, uq false true h1, vx false true _ _ h2, kN 6 false true h3, kN 7 false true h4]
theorem uw {s : ByteArray} (h : asc (aa s)) : asc (aa (bO s).2.2.1) ∧ asc (aa (bO s).2.2.2.1) ∧ asc (aa (bO s).2.2.2.2.2.1) ∧ asc (aa (bO s).2.2.2.2.2.2.2) := by
  have hn : asc (aa nil8) := by rw [o2]; exact iB
  have hi : ∀ (c : Bool) i j, asc (aa (if c = true then s.extract i j else nil8)) := fun c i j => by cases c; exact hn; exact mI h i j
  exact ⟨hi _ _ _, mI h _ _, hi _ _ _, hi _ _ _⟩
theorem ww {k m : Int} (hk : k < 4) (hm : 4 ≤ m) (hk3 : (k == 3) = false) (hm3 : (m == 3) = false) (hkm : (k == 2 || k == 5) = (m == 2 || m == 5)) {s : ByteArray} (h : asc (aa s)) : hX k s = hX m s := by
  obtain ⟨h1, h2, h3, h4⟩ := uw h
  exact wv hk hm hk3 hm3 hkm _ _ _ h1 h2 h3 h4
theorem qW {h : List Int} (hl : ∀ b ∈ h, 0 ≤ b ∧ b ≤ 255) (hk : gu false h ≠ 0) : asc h := by
  have inside : ∀ b : Int, (gX b = true ∨ bV 1 b = true ∨ b = 118 ∨ b = 86) → 0 ≤ b ∧ b ≤ 255 → 0 ≤ b ∧ b < 128 := by
    intro b h1 h2
    have : ∀ n : Fin 256, (gX (n.val : Int) = true ∨ bV 1 (n.val : Int) = true ∨ (n.val : Int) = 118 ∨ (n.val : Int) = 86) → (n.val : Int) < 128 := by decide +kernel
    have h3 := this ⟨b.toNat, by omega⟩
    have e : ((b.toNat : Nat) : Int) = b := by omega
    simp only [e] at h3
    exact ⟨h2.1, h3 h1⟩
  unfold gu at hk
  by_cases hb : ly h = true
  · rw [if_pos hb] at hk
    have e := oq hb
    have hml : ∀ b ∈ (h.take (h.length - 1)).drop 1, 0 ≤ b ∧ b ≤ 255 := fun b hb => hl b (List.mem_of_mem_take (List.mem_of_mem_drop hb))
    generalize (h.take (h.length - 1)).drop 1 = m at hk e hml
    have hm : asc m := by
      by_cases hc : ((v6 m).isSome || fut m) = true
      · rw [Bool.or_eq_true] at hc
        rcases hc with hc | hc
        · exact fun b hb => inside b (.inl (rC hc b hb)) (hml b hb)
        · exact fun b hb => inside b (qf hc b hb) (hml b hb)
      · rw [if_neg hc] at hk
        exact absurd rfl hk
    rw [e]
    exact iQ (by decide) (iA hm (iQ (by decide) iB))
  · rw [if_neg hb] at hk
    by_cases h4 : (v4 h).isSome = true
    · intro b hb
      rcases oV h4 b hb with h1 | h1
      · unfold dr at h1; rw [decide_eq_true_iff] at h1; omega
      · omega
    · rw [if_neg h4] at hk
      by_cases ha : be 2 false h = true
      · exact sY _ _ rfl hl ha
      · rw [if_neg ha] at hk
        exact absurd rfl hk
theorem ro {s : ByteArray} (h : eJ false (bq s) = true) : asc (aa s) := by
  rw [← vm s]
  unfold eJ i1 at h
  rw [Bool.and_eq_true, Bool.and_eq_true] at h
  obtain ⟨⟨h1, h2⟩, h3⟩ := h
  have hh := qW (fun b hb => d6 hb) (by simpa using h2)
  unfold tT
  have e64 : aa (⟨#[64]⟩ : ByteArray) = [64] := by decide +kernel
  have e58 : aa (⟨#[58]⟩ : ByteArray) = [58] := by decide +kernel
  rw [eX]
  refine iA ?_ ?_
  · by_cases e : (bq s).1 = true
    · rw [if_pos e, eX, eX, e64]
      rw [e] at h1
      exact iA (iA (n8 (by simpa using h1)) (iQ (by decide) iB)) hh
    · rw [if_neg e]
      exact hh
  · by_cases e : (bq s).2.2.2.1 = true
    · rw [if_pos e, eX, e58]
      rw [e] at h3
      have h3 : (aa (bq s).2.2.2.2).all dr = true := by simpa using h3
      refine iA (iQ (by decide) iB) (fun b hb => ?_)
      have h4 := List.all_eq_true.1 h3 b hb
      unfold dr at h4; rw [decide_eq_true_iff] at h4; omega
    · rw [if_neg e]
      intro b hb
      exact absurd hb (by simp [aa])
theorem sF {k : Int} (hk : k < 4) {sch : ByteArray} {ha : Bool} {aut pth q : ByteArray} {hf : Bool} {f : ByteArray} (h : kn k sch ha aut pth q hf f = true) :
    asc (aa sch) ∧ (ha = true → asc (aa aut)) ∧ asc (aa pth) ∧ asc (aa q) ∧ asc (aa f) := by
  unfold kn at h
  rw [decide_eq_false (show ¬ k ≥ 4 by omega), Bool.and_eq_true, Bool.and_eq_true, Bool.and_eq_true, Bool.and_eq_true, Bool.and_eq_true] at h
  obtain ⟨h1, h2, h3, h4, h5, h6⟩ := h
  unfold im at h4
  rw [Bool.and_eq_true] at h4
  refine ⟨?_, fun e => ?_, n8 h4.1, n8 h5, n8 h6⟩
  · by_cases e : aa sch = []
    · rw [e]; exact iB
    · rw [if_neg e] at h1
      unfold gA at h1
      rw [Bool.and_eq_true] at h1
      intro b hb
      have h7 := List.all_eq_true.1 h1.2 b hb
      have hr := d6 hb
      have : ∀ n : Fin 256, (mf (n.val : Int) || [43, 45, 46].contains (n.val : Int)) = true → (n.val : Int) < 128 := by decide +kernel
      have h8 := this ⟨b.toNat, by omega⟩
      have e8 : ((b.toNat : Nat) : Int) = b := by omega
      simp only [e8] at h8
      exact ⟨hr.1, h8 h7⟩
  · rw [e] at h3
    exact ro (by simpa using h3)
theorem sG {k : Int} (hk : k < 4) {s : ByteArray} (h : hX k s = true) : asc (aa s) := by
  obtain ⟨h1, h2, h3, h4, h5⟩ := sF hk h
  have hs : asc (rq (aa (bO s).1)) := by
    unfold rq
    split
    · exact iB
    · exact iA h1 (iQ (by decide) iB)
  have ha : asc (qD (bO s).2.1 (aa (bO s).2.2.1)) := by
    unfold qD
    split
    · rename_i e; exact iQ (by decide) (iQ (by decide) (h2 e))
    · exact iB
  have hq : asc (pj (bO s).2.2.2.2.1 (aa (bO s).2.2.2.2.2.1)) := by
    unfold pj
    split
    · exact iQ (by decide) h4
    · exact iB
  have hf : asc (qF (bO s).2.2.2.2.2.2.1 (aa (bO s).2.2.2.2.2.2.2)) := by
    unfold qF
    split
    · exact iQ (by decide) h5
    · exact iB
  have hj : asc (tS (bO s)) := iA hs (iA ha (iA h3 (iA hq hf)))
  rw [tU s] at hj
  exact hj
def acc (k : Int) (s : ByteArray) : Bool := (kY k s).2.2.2.2.2.2.2.2 == 0
theorem pB {k : Int} (h1 : 1 ≤ k) (h3 : k < 4) (s : ByteArray) : acc k s = (decide (s.size ≤ 65535) && hX k s) := by
  unfold acc kY
  rw [if_neg (by omega)]
  by_cases hs : 65535 < s.size
  · rw [if_pos hs, decide_eq_false (by omega)]; rfl
  · rw [if_neg hs, if_neg (by omega), decide_eq_true (by omega), Bool.true_and]
    cases h : hX k s <;> rfl
theorem qM {k : Int} (h1 : 4 ≤ k) (h3 : k ≤ 5) (s : ByteArray) : acc k s = (decide (s.size ≤ 65535) && (kM (aa s) && hX k s)) := by
  unfold acc kY
  rw [if_neg (by omega)]
  by_cases hs : 65535 < s.size
  · rw [if_pos hs, decide_eq_false (by omega)]; rfl
  · rw [if_neg hs, decide_eq_true (by omega), Bool.true_and]
    cases hw : kM (aa s)
    · rw [if_pos ⟨h1, rfl⟩]; rfl
    · rw [if_neg (by simp), Bool.true_and]
      cases h : hX k s <;> rfl
theorem uF {k m : Int} (h1 : 1 ≤ k) (hk : k < 4) (hm : 4 ≤ m) (h5 : m ≤ 5) (hk3 : (k == 3) = false) (hm3 : (m == 3) = false) (hkm : (k == 2 || k == 5) = (m == 2 || m == 5)) {s : ByteArray} (h : acc k s = true) : acc m s = true := by
  rw [pB h1 hk, Bool.and_eq_true] at h
  have ha := sG hk h.2
  rw [qM hm h5, Bool.and_eq_true, Bool.and_eq_true]
  refine ⟨h.1, ?_, ?_⟩
  · unfold kM; rw [decide_eq_true_iff, qe _ ha]; decide
  · rw [← ww hk hm hk3 hm3 hkm ha]; exact h.2
theorem oN {k m : Int} (hi : decide (k ≥ 4) = decide (m ≥ 4)) (hk : (k == 2 || k == 5) = false) (hm3 : (m == 3) = false) {sch : ByteArray} {ha : Bool} {aut pth q : ByteArray} {hf : Bool} {f : ByteArray}
    (h : kn k sch ha aut pth q hf f = true) : kn m sch ha aut pth q hf f = true := by
  unfold kn at h ⊢
  rw [hi, Bool.and_eq_true, Bool.and_eq_true] at h
  rw [Bool.and_eq_true, Bool.and_eq_true]
  refine ⟨?_, ?_, h.2.2⟩
  · by_cases e : aa sch = []
    · rw [if_pos e, hk] at h; exact absurd h.1 (by simp)
    · rw [if_neg e] at h ⊢; exact h.1
  · rw [hm3]; simp
theorem yM {s : ByteArray} (h : acc 1 s = true) : acc 2 s = true := by
  rw [pB (by decide) (by decide), Bool.and_eq_true] at h ⊢
  exact ⟨h.1, oN (by decide) (by decide) (by decide) h.2⟩
theorem yP {s : ByteArray} (h : acc 3 s = true) : acc 1 s = true := by
  rw [pB (by decide) (by decide), Bool.and_eq_true] at h ⊢
  exact ⟨h.1, oN (by decide) (by decide) (by decide) h.2⟩
theorem yQ {s : ByteArray} (h : acc 4 s = true) : acc 5 s = true := by
  rw [qM (by decide) (by decide), Bool.and_eq_true, Bool.and_eq_true] at h ⊢
  exact ⟨h.1, h.2.1, oN (by decide) (by decide) (by decide) h.2.2⟩
theorem yN {s : ByteArray} (h : acc 1 s = true) : acc 4 s = true := uF (by decide) (by decide) (by decide) (by decide) (by decide) (by decide) (by decide) h
theorem yO {s : ByteArray} (h : acc 2 s = true) : acc 5 s = true := uF (by decide) (by decide) (by decide) (by decide) (by decide) (by decide) (by decide) h
end Go.Proofs.YtpmflpeckoeooaaGreatDoor.Y
namespace Go.Proofs.YtpmflpeckoeooaaGreatDoor.Y
open Go.RowKit Go.Proofs.YtpmflpeckoeooaaGreatDoor.X Go.Proofs.YtpmflpeckoeooaaGreatDoor.M Go.Proofs.YtpmflpeckoeooaaGreatDoorW.PrintWords Go.Proofs.YtpmflpeckoeooaaGreatDoorW.PrintLast Go.Proofs.YtpmflpeckoeooaaGreatDoorW.PrintMore
set_option maxRecDepth 100000 in
theorem pZ : Ev (fun k => cY k) true := lx (fun k => ma k) (k := 60) (by decide +kernel)
end Go.Proofs.YtpmflpeckoeooaaGreatDoor.Y
namespace Go.Proofs.YtpmflpeckoeooaaGreatDoor.Pure
open Go.RowKit Go.Proofs.YtpmflpeckoeooaaGreatDoor.X Go.Proofs.YtpmflpeckoeooaaGreatDoor.M Go.Proofs.YtpmflpeckoeooaaGreatDoor.Y Go.Proofs.YtpmflpeckoeooaaGreatDoorW.PrintWords Go.Proofs.YtpmflpeckoeooaaGreatDoorW.PrintLast Go.Proofs.YtpmflpeckoeooaaGreatDoorW.PrintMore
theorem km (s : ByteArray) (n j : Int) (h1 : 1 ≤ j) (h5 : j ≤ 5) {r : Int}
    (h : Ev (fun k => bM k s (if acc j s = true then Go.bits .or .i64 n (shl .i64 1 j) else n) (j + 1)) r) : Ev (fun k => bM k s n j) r := by
  refine Ev.step (fun k => by rw [bM]) ?_
  refine ab h5 (ah (uG j s) ?_)
  rw [w64 (by omega) (by omega)]
  show Ev (fun k => if acc j s = true then _ else _) r
  cases ha : acc j s
  · rw [ha] at h
    exact ae (by simp) h
  · rw [ha] at h
    exact ab rfl (ab (by omega) h)
theorem vn (s : ByteArray) (n : Int) : Ev (fun k => bM k s n 6) n := by
  refine Ev.step (fun k => by rw [bM]) ?_
  exact ae (by decide) (Ev.val rfl)
theorem k9 (s : ByteArray) (n j : Int) (h1 : 1 ≤ j) (h5 : j ≤ 5) {r : Int}
    (h : Ev (fun k => bb k s (if acc j s = true then wrap64 (n + shl .i64 1 j) else n) (j + 1)) r) : Ev (fun k => bb k s n j) r := by
  refine Ev.step (fun k => by rw [bb]) ?_
  refine ab h5 (ah (uh j s) ?_)
  rw [w64 (x := j + 1) (by omega) (by omega)]
  cases ha : acc j s
  · rw [ha] at h
    unfold acc at ha
    rw [beq_eq_false_iff_ne] at ha
    exact ae ha h
  · rw [ha] at h
    unfold acc at ha
    rw [beq_iff_eq] at ha
    exact ab ha (ab (by omega) h)
theorem wY (s : ByteArray) (n : Int) : Ev (fun k => bb k s n 6) n := by
  refine Ev.step (fun k => by rw [bb]) ?_
  exact ae (by decide) (Ev.val rfl)
def mK (b1 b2 b3 b4 b5 : Bool) : Int :=
  let n1 := if b1 = true then Go.bits .or .i64 0 (shl .i64 1 1) else 0
  let n2 := if b2 = true then Go.bits .or .i64 n1 (shl .i64 1 2) else n1
  let n3 := if b3 = true then Go.bits .or .i64 n2 (shl .i64 1 3) else n2
  let n4 := if b4 = true then Go.bits .or .i64 n3 (shl .i64 1 4) else n3
  if b5 = true then Go.bits .or .i64 n4 (shl .i64 1 5) else n4
def mW (b1 b2 b3 b4 b5 : Bool) : Int :=
  let n1 := if b1 = true then wrap64 (0 + shl .i64 1 1) else 0
  let n2 := if b2 = true then wrap64 (n1 + shl .i64 1 2) else n1
  let n3 := if b3 = true then wrap64 (n2 + shl .i64 1 3) else n2
  let n4 := if b4 = true then wrap64 (n3 + shl .i64 1 4) else n3
  if b5 = true then wrap64 (n4 + shl .i64 1 5) else n4
theorem yV : ∀ b1 b2 b3 b4 b5 : Bool, (b3 = true → b1 = true) → (b1 = true → b2 = true) → (b1 = true → b4 = true) → (b4 = true → b5 = true) → (b2 = true → b5 = true) →
    jE (fQ (mK b1 b2 b3 b4 b5) 1) (fQ (mK b1 b2 b3 b4 b5) 2) (fQ (mK b1 b2 b3 b4 b5) 3) (fQ (mK b1 b2 b3 b4 b5) 4) (fQ (mK b1 b2 b3 b4 b5) 5) = false ∧ mK b1 b2 b3 b4 b5 = mW b1 b2 b3 b4 b5 := by decide +kernel
theorem xL (s : ByteArray) : Ev (fun k => cW k s) (mK (acc 1 s) (acc 2 s) (acc 3 s) (acc 4 s) (acc 5 s)) := by
  unfold cW
  exact km s _ 1 (by decide) (by decide) (km s _ 2 (by decide) (by decide) (km s _ 3 (by decide) (by decide) (km s _ 4 (by decide) (by decide) (km s _ 5 (by decide) (by decide) (vn s _)))))
theorem yF (s : ByteArray) : Ev (fun k => bb k s 0 1) (mW (acc 1 s) (acc 2 s) (acc 3 s) (acc 4 s) (acc 5 s)) :=
  k9 s _ 1 (by decide) (by decide) (k9 s _ 2 (by decide) (by decide) (k9 s _ 3 (by decide) (by decide) (k9 s _ 4 (by decide) (by decide) (k9 s _ 5 (by decide) (by decide) (wY s _)))))
theorem SyntaxKinds : ∀ (a0 : ByteArray), a0.size ≤ 140737488351232 → ∃ k, X.fh k a0 = some true := by
  intro s hs
  refine uC (r := true) ?_
  unfold fh
  refine Ev.ite (fun _ => pZ) (fun h => ?_)
  obtain ⟨h1, h2⟩ := yV (acc 1 s) (acc 2 s) (acc 3 s) (acc 4 s) (acc 5 s) yP yM yN yQ yO
  refine ah (xL s) (ah (yF s) ?_)
  exact ae (by rw [h1]; simp) (ab h2 pZ)
end Go.Proofs.YtpmflpeckoeooaaGreatDoor.Pure
namespace Go.Proofs.YtpmflpeckoeooaaGreatDoor.syntaxKinds
open Go.ChangeShapes Go.WideShapes Go.ChangeAt Go.RowKit
open Go.ChangeMaps (open_string shut_string)
theorem own : ownKnob Tryz.prog.godebug = none := by kernel_rfl
theorem gw_len {W : World} (h : W.ShapedOpen Tryz.prog) : ∃ m, W.cell? ⟨0, 0, none⟩ = some (.int .i64 m) :=
  Go.Proofs.cell_of_shapedOpen_int (g := 0) (t := 3) (zero := #[.int .i64 0]) h (of_decide_eq_true (by kernel_rfl)) (by kernel_rfl) rfl (by kernel_rfl) (by kernel_rfl) Tryz.underlying3
theorem gw {W : World} (h : W.ShapedOpen Tryz.prog) (hL0 : laidMetH Tryz.prog Rows.syntaxKindsRow.laid W) : X.GW W := ⟨gw_len h⟩
set_option maxRecDepth 100000 in
theorem contract (H : Type) (enc : TypeId × Value → H) (W : World) (base : Nat) (args : Array Value) (ds gs : List (DataW H)) (before : List MemPlace)
    (hval0 : ∀ (j : Nat) t v, Tryz.f4.params[j]? = some t → args[j]? = some v → Value.okWide Tryz.prog W .any base t v)
    (hW : DataW.Whole enc Tryz.prog Tryz.f4.params.toList Rows.syntaxKindsSpec.vars false W args.toList ds gs before)
    (hsz0 : (DataW.weightsEach Tryz.prog (Tryz.f4.params.toList ++ Rows.syntaxKindsSpec.plain.varTypes Tryz.prog) (ds ++ gs)).all (· ≤ reachBytes) = true) (hsh : W.ShapedOpen Tryz.prog) (hL : laidMetH Tryz.prog Rows.syntaxKindsRow.laid W) :
    Calls Tryz.prog 4 args W fun e W' => ∃ v, e = .returned v ∧ Rows.syntaxKindsSpec.post enc Tryz.prog Tryz.f4 false true false false W args v W' := by
  have hsz : (DataW.weightsEach Tryz.prog (Tryz.f4.params.toList ++ Rows.syntaxKindsSpec.plain.varTypes Tryz.prog) (ds ++ gs)).all (· ≤ reachBytes) = true := hsz0
  have jL : ∀ (j : Nat) t v, Tryz.f4.params[j]? = some t → args[j]? = some v → Value.okWide Tryz.prog W .any base t v := hval0
  have hW' := hW
  obtain ⟨p, q, hA0, hV, rfl, hfz, hnd⟩ := hW
  have hA : DataW.TrodAll enc Tryz.prog W 0 (fun _ => true) true Tryz.f4.params.toList args.toList ds p := hA0
  rw [Tryz.params4] at hA jL hsz
  obtain ⟨v0, vs0, d0, ds0, p0, q0, hargs, rfl, rfl, h0, r0⟩ := trodAll_cons hA
  obtain ⟨rfl, rfl, rfl⟩ := trodAll_nil r0
  obtain rfl : args = #[v0] := by cases args; simp_all
  obtain ⟨rfl, rfl⟩ := trodVars_none hV
  obtain ⟨a0, rfl, rfl, rfl, y0⟩ := open_string Tryz.underlying9 (jL 0 9 v0 rfl rfl) h0
  have w0 : a0.size ≤ 140737488351232 := by
    have z := sized_string hsz (j := 0) (t := 9) rfl rfl
    rw [Array.length_toList] at z
    exact z
  clear hA0 hval0 hsz0 hsz
  obtain ⟨k, hk⟩ := Pure.SyntaxKinds a0 w0
  refine (X.ko k a0 true W (gw hsh hL) hk).mono fun e W' ⟨he, bel0⟩ => ?_
  have bel : Below W.heap.size W W' := bel0
  subst he
  exact ⟨_, rfl, _, _, _, [], _, [], hW', trodAll_mk1 (shut_bool Tryz.underlying4 _), (trodAll_cons_mk (shut_string Tryz.underlying9 y0) trodAll_mk0), rfl, bel.frame _, fun h => by cases h⟩
def flat : Nat → DataW Unit → List Value
  | 0, _ => []
  | k + 1, .agg l => l.flatMap (flat k)
  | _ + 1, .lit (.int kd n) => [.int kd n]
  | _ + 1, .lit (.bool b) => [.bool b]
  | _ + 1, _ => []
def layAt (g : Nat) (cs : List Value) (h : Array Obj) : Array Obj := h.modify g fun
  | .cells _ t frozen => .cells cs.toArray t frozen
  | x => x
noncomputable def nR (os : Os) : World := { World.holding Tryz.prog os ⟨#[], #[], []⟩ with heap := layAt 1 (flat 9 Rows.laid_unicode_utf8_first) (layAt 2 (flat 9 Rows.laid_unicode_utf8_acceptRanges) ((World.holding Tryz.prog os ⟨#[], #[], []⟩).heap)) }
theorem laid_met (os : Os) : laidMet Tryz.prog Rows.syntaxKindsRow.laid ((nR os).forCall (fun _ _ => 0) ⟨#[], #[.string ByteArray.empty], []⟩).memory :=
  laidMet_of_run' 8 (by kernel_rfl) (by kernel_rfl)
theorem reads (os : Os) {H : Type} (enc : TypeId × Value → H) : ∃ places, DataW.whole enc Tryz.prog ((nR os).forCall (fun _ _ => 0) ⟨#[], #[.string ByteArray.empty], []⟩).memory Tryz.f4.params.toList Rows.syntaxKindsSpec.vars false (#[.string ByteArray.empty] : Array Value).toList 8 = some ([.lit (.string [])], [], places) :=
  ⟨[], by kernel_rfl⟩
set_option maxRecDepth 100000 in
theorem lifted (os : Os) (started : os.Started) (H : Type) (enc : TypeId × Value → H) (F : Stop.Interp) :
    ReturnsInHanded {} Tryz.checked os 4 .any ((OpenSpec.ofChange Rows.syntaxKindsSpec).preRow enc Tryz.prog Tryz.f4 Rows.syntaxKindsRow.domain false Rows.syntaxKindsRow.laid) (((OpenSpec.ofChange Rows.syntaxKindsSpec).at F).post enc Tryz.prog Tryz.f4 false true false false) := by
  obtain ⟨places, hx⟩ := reads os enc
  refine returnsInHanded_of_row (C := Tryz.checked) (s := OpenSpec.ofChange Rows.syntaxKindsSpec) own started (by kernel_rfl) Tryz.func4
    (witness_row_at (enc := enc) (C := Tryz.checked) false (nR os) #[.string ByteArray.empty] rfl (by kernel_rfl) (by kernel_rfl) (by kernel_rfl)
      (OpenSpec.preRow_of_cond 8 hx (by kernel_rfl) (fun k hk => by cases hk) (by kernel_rfl) (laid_met os))) ?_
  intro W base args ds gs before jL hW _ _ hsz hL hsh _
  exact contract H enc W base args ds gs before jL hW hsz hsh hL
theorem said : Rows.SyntaxKindsSaid :=
  OpenClaim.holds_of_cond 4 Tryz.f4 rfl rfl rfl rfl rfl rfl rfl ⟨rfl, rfl, rfl, rfl, rfl⟩ rfl rfl rfl rfl rfl (by kernel_rfl) Tryz.func4 (by kernel_rfl)
    (of_decide_eq_true (by kernel_rfl)) (by unfold Func.isWrapper; first | (rw [if_pos (by decide +kernel)]; kernel_rfl) | (rw [if_neg (by decide +kernel)]; exact ⟨rfl, rfl⟩))
    (fun os started H enc _ F => by rw [OpenClaim.pre_eq_preRow]; exact lifted os started H enc F)
theorem plain (f : FuncId) (fn : Func) (hf : Tryz.pinned.checked.prog.funcNamed "moniker/monikerlaw22.SyntaxKinds" = some f) (hfn : Tryz.pinned.checked.prog.funcs[f]? = some fn) :
    false = Tryz.pinned.checked.prog.looks [] ∧ ∀ (j : Nat) t, fn.params[j]? = some t → Tryz.pinned.checked.prog.wantsStandIn t = false := by
  obtain rfl : f = 4 := Option.some.inj ((show Tryz.prog.funcNamed "moniker/monikerlaw22.SyntaxKinds" = some 4 by kernel_rfl).symm.trans hf) |>.symm
  obtain rfl : fn = Tryz.f4 := (Option.some.inj (Tryz.func4.symm.trans hfn)).symm
  refine ⟨by kernel_rfl, fun j t ht => ?_⟩
  rw [Tryz.params4] at ht
  have hm := Array.mem_of_getElem? ht
  simp only [List.mem_cons, List.mem_toArray, List.mem_nil_iff, or_false] at hm
  rcases hm with rfl
  · exact (show Tryz.prog.wantsStandIn 9 = false by kernel_rfl)
theorem card : Rows.SyntaxKindsCardSaid :=
  Claim7.holds_tied_plain_at .later [] _ _ _ _ said (fun _ h => by cases h) (by kernel_rfl) (fun _ h => by cases h) syntaxKinds_row_tie rfl ⟨rfl, rfl⟩ (by kernel_rfl) rfl plain (by kernel_rfl)
#print axioms card
end Go.Proofs.YtpmflpeckoeooaaGreatDoor.syntaxKinds
namespace Go.Proofs.YtpmflpeckoeooaaGreatDoor
theorem syntaxKinds_card : Rows.SyntaxKindsCardSaid := syntaxKinds.card
end Go.Proofs.YtpmflpeckoeooaaGreatDoor
