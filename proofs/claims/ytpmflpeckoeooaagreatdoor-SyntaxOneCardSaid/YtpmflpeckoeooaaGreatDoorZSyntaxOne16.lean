/- The law SyntaxOne of layer 22, for every input: A text is of a kind just if the kind's grammar has it; of all ways to split it there is one, and Parse tells that. No condition beside the row's own. -/
import Derived.Test.YtpmflpeckoeooaaGreatDoorZSyntaxOne7
import Derived.Test.YtpmflpeckoeooaaGreatDoorZSyntaxOne11
import Derived.Test.YtpmflpeckoeooaaGreatDoorZSyntaxOne15
import Derived.Test.YtpmflpeckoeooaaGreatDoorRows
import Derived.Test.YtpmflpeckoeooaaGreatDoorCards
import Derived.Test.YtpmflpeckoeooaaGreatDoorTie
import Derived.WalkKit
import Derived.ProofKit
import Derived.OpenShut
import Derived.ShutString
import Derived.ChangeOld
import Derived.Below
import Derived.SizedLaws
import Derived.ChangeArms
import Derived.Lib.SmallJoins
import Derived.Deep.DeepHandedRow
import Derived.Lib.LaidTab
import Derived.Shelf.Vars
import Derived.MakeChecks
namespace Go.Proofs.YtpmflpeckoeooaaGreatDoor.Y
open Go.RowKit Go.Proofs.YtpmflpeckoeooaaGreatDoor.X Go.Proofs.YtpmflpeckoeooaaGreatDoor.M Go.Proofs.YtpmflpeckoeooaaGreatDoorW.PrintWords Go.Proofs.YtpmflpeckoeooaaGreatDoorW.PrintLast Go.Proofs.YtpmflpeckoeooaaGreatDoorW.PrintMore
set_option linter.unusedVariables false
set_option linter.unusedSimpArgs false
def iR (p : fo) : List Int := aa p.2.2.2.1 ++ (b5 p.2.2.2.2.1 (aa p.2.2.2.2.2.1) ++ du p.2.2.2.2.2.2.1 (aa p.2.2.2.2.2.2.2))
def jO (p : fo) : Prop := (p.2.2.2.2.1 = false → p.2.2.2.2.2.1 = nil8) ∧ (p.2.2.2.2.2.2.1 = false → p.2.2.2.2.2.2.2 = nil8)
theorem oK {l : List Int} {n : Nat} {c : Int} (h : n < l.length) (hc : l.getD n 0 = c) : l.drop n = c :: l.drop (n + 1) := by
  rw [List.drop_eq_getElem_cons h]
  rw [List.getD_eq_getElem?_getD, List.getElem?_eq_getElem h] at hc
  have hc : l[n] = c := hc
  rw [hc]
theorem yp (s : ByteArray) (j : Nat) (hj : j ≤ s.size) (h : j < s.size → bt s (j : Int) = 35) :
    du (decide (j < s.size)) (aa (if j < s.size then s.extract (j + 1) s.size else nil8)) = (aa s).drop j := by
  by_cases hl : j < s.size
  · rw [decide_eq_true hl, if_pos hl, aY, oK (n := j) (c := 35) (by rw [af]; exact hl) (by rw [gU]; exact h hl)]; rfl
  · rw [decide_eq_false hl, if_neg hl, List.drop_eq_nil_of_le (by rw [af]; omega)]; rfl
theorem zM (s : ByteArray) (i j : Nat) (hij : i ≤ j) (hj : j ≤ s.size) (h : i < j → bt s (i : Int) = 63) :
    b5 (decide (i < j)) (aa (if i < j then s.extract (i + 1) j else nil8)) ++ (aa s).drop j = (aa s).drop i := by
  by_cases hl : i < j
  · rw [decide_eq_true hl, if_pos hl, au, oK (n := i) (c := 63) (by rw [af]; omega) (by rw [gU]; exact h hl)]
    show 63 :: (_ ++ _) = _
    rw [i2 (aa s) (by omega) (by rw [af]; exact hj)]
  · have : i = j := by omega
    subst this
    rw [decide_eq_false hl]; rfl
theorem yv (s : ByteArray) (i : Nat) : aa (s.extract 0 i) ++ (aa s).drop i = aa s := by
  rw [au, List.drop_zero, List.take_append_drop]
theorem yH (s sch : ByteArray) (ha : Bool) (aut : ByteArray) (i j : Nat) (hij : i ≤ j) (hj : j ≤ s.size) (h1 : i < s.size → bt s (i : Int) = 63) (h2 : j < s.size → bt s (j : Int) = 35) :
    iR (c1 s sch ha aut i j) = aa s ∧ jO (c1 s sch ha aut i j) := by
  constructor
  · unfold iR c1
    dsimp only
    rw [yp s j hj h2, zM s i j hij hj (fun h => h1 (by omega)), yv]
  · unfold jO c1
    exact ⟨fun h => if_neg (of_decide_eq_false h), fun h => if_neg (of_decide_eq_false h)⟩
theorem yI (s sch : ByteArray) (ha : Bool) (aut : ByteArray) (x : Nat) (hx : x < s.size) (h : bt s (x : Int) = 35) :
    iR (c2 s sch ha aut x) = aa s ∧ jO (c2 s sch ha aut x) := by
  constructor
  · unfold iR c2
    dsimp only
    have := yp s x (by omega) (fun _ => h)
    rw [decide_eq_true hx, if_pos hx] at this
    rw [this, show b5 false (aa nil8) = [] from rfl, List.nil_append, yv]
  · unfold jO c2
    exact ⟨fun _ => rfl, fun h => by cases h⟩
theorem lw {kind : Int} {p : fo} {x : S24} : x ∈ iW kind p ↔ x = toS p ∧ oW kind p = true := by
  unfold iW
  split
  · rename_i h; rw [List.mem_singleton]; exact ⟨fun e => ⟨e, h⟩, fun e => e.1⟩
  · rename_i h; exact ⟨fun e => (by cases e), fun e => absurd e.2 h⟩
theorem sw {kind : Int} {s sch : ByteArray} {ha : Bool} {aut : ByteArray} {x : S24} (h : x ∈ ju kind s sch ha aut) :
    ∃ p : fo, x = toS p ∧ oW kind p = true ∧ p.1 = sch ∧ p.2.1 = ha ∧ p.2.2.1 = aut ∧ jO p ∧ iR p = aa s := by
  unfold ju at h
  rcases List.mem_append.1 h with h | h
  · obtain ⟨i, _, hi, h⟩ := dU.1 h
    unfold k0 at h
    by_cases hc : i < s.size ∧ bt s (i : Int) ≠ 63
    · rw [if_pos hc] at h; cases h
    · rw [if_neg hc] at h
      obtain ⟨j, hij, hj, h⟩ := dU.1 h
      unfold k1 at h
      by_cases hd : j < s.size ∧ bt s (j : Int) ≠ 35
      · rw [if_pos hd] at h; cases h
      · rw [if_neg hd] at h
        obtain ⟨e, hm⟩ := lw.1 h
        have ht := yH s sch ha aut i j hij (by omega) (fun hl => Decidable.byContradiction fun hb => hc ⟨hl, hb⟩) (fun hl => Decidable.byContradiction fun hb => hd ⟨hl, hb⟩)
        exact ⟨_, e, hm, rfl, rfl, rfl, ht.2, ht.1⟩
  · obtain ⟨j, _, hj, h⟩ := dU.1 h
    unfold k2 at h
    by_cases hd : bt s (j : Int) = 35
    · rw [if_pos hd] at h
      obtain ⟨e, hm⟩ := lw.1 h
      have ht := yI s sch ha aut j (by omega) hd
      exact ⟨_, e, hm, rfl, rfl, rfl, ht.2, ht.1⟩
    · rw [if_neg hd] at h; cases h
theorem lY (s : ByteArray) : s.size = (aa s).length := (af s).symm
theorem rx {kind : Int} {s : ByteArray} {p : fo} (hm : oW kind p = true) (hc : jO p) (ht : iR p = aa s) : toS p ∈ ju kind s p.1 p.2.1 p.2.2.1 := by
  obtain ⟨sch, ha, aut, pth, hq, q, hf, f⟩ := p
  unfold jO at hc
  unfold iR at ht
  dsimp only at hc ht ⊢
  have ht := ht.symm
  have hz : s.size = (aa pth).length + ((b5 hq (aa q)).length + (du hf (aa f)).length) := by rw [lY, ht, List.length_append, List.length_append]
  have ep : s.extract 0 (aa pth).length = pth := iI (X := []) (Z := b5 hq (aa q) ++ du hf (aa f)) ht rfl (by simp)
  unfold ju
  have kC : ∀ (X : List Int) (c : Int) (Z : List Int), aa s = X ++ c :: Z → bt s (X.length : Int) = c := by
    intro X c Z e
    rw [← gU, e, o8 _ _ _ rfl]; rfl
  cases hf
  ·
    have ef : f = nil8 := hc.2 rfl
    subst ef
    have eF : du false (aa nil8) = [] := rfl
    rw [eF] at ht hz
    cases hq
    · have eq : q = nil8 := hc.1 rfl
      subst eq
      have eQ : b5 false (aa nil8) = [] := rfl
      rw [eQ] at ht hz
      simp only [List.length_nil, Nat.add_zero] at hz
      refine List.mem_append_left _ (dU.2 ⟨s.size, by omega, by omega, ?_⟩)
      unfold k0
      rw [if_neg (fun h => absurd h.1 (by omega))]
      refine dU.2 ⟨s.size, by omega, by omega, ?_⟩
      unfold k1
      rw [if_neg (fun h => absurd h.1 (by omega))]
      have ec : c1 s sch ha aut s.size s.size = (sch, ha, aut, pth, false, nil8, false, nil8) := by
        unfold c1
        rw [decide_eq_false (Nat.lt_irrefl _), if_neg (Nat.lt_irrefl _), hz, ep]
      rw [ec]
      exact lw.2 ⟨rfl, hm⟩
    · have eQ : b5 true (aa q) = 63 :: aa q := rfl
      rw [eQ] at ht hz
      simp only [List.length_nil, Nat.add_zero, List.length_cons] at hz
      have hb := kC (aa pth) 63 (aa q ++ []) (by rw [ht]; rfl)
      refine List.mem_append_left _ (dU.2 ⟨(aa pth).length, by omega, by omega, ?_⟩)
      unfold k0
      rw [if_neg (fun h => absurd hb h.2)]
      refine dU.2 ⟨s.size, by omega, by omega, ?_⟩
      unfold k1
      rw [if_neg (fun h => absurd h.1 (by omega))]
      have e6 : s.extract ((aa pth).length + 1) s.size = q := iI (X := aa pth ++ [63]) (Z := []) (by rw [ht]; simp) (by simp) (by simp; omega)
      have ec : c1 s sch ha aut (aa pth).length s.size = (sch, ha, aut, pth, true, q, false, nil8) := by
        unfold c1
        rw [decide_eq_true (show (aa pth).length < s.size by omega), if_pos (show (aa pth).length < s.size by omega), decide_eq_false (Nat.lt_irrefl _), if_neg (Nat.lt_irrefl _), ep, e6]
      rw [ec]
      exact lw.2 ⟨rfl, hm⟩
  · have eF : du true (aa f) = 35 :: aa f := rfl
    rw [eF] at ht hz
    simp only [List.length_cons] at hz
    cases hq
    · have eq : q = nil8 := hc.1 rfl
      subst eq
      have eQ : b5 false (aa nil8) = [] := rfl
      rw [eQ] at ht hz
      simp only [List.length_nil, Nat.zero_add] at hz
      have hb := kC (aa pth) 35 (aa f) ht
      refine List.mem_append_right _ (dU.2 ⟨(aa pth).length, by omega, by omega, ?_⟩)
      unfold k2
      rw [if_pos hb]
      have e8 : s.extract ((aa pth).length + 1) s.size = f := iI (X := aa pth ++ [35]) (Z := []) (by rw [ht]; simp) (by simp) (by simp; omega)
      have ec : c2 s sch ha aut (aa pth).length = (sch, ha, aut, pth, false, nil8, true, f) := by unfold c2; rw [ep, e8]
      rw [ec]
      exact lw.2 ⟨rfl, hm⟩
    · have eQ : b5 true (aa q) = 63 :: aa q := rfl
      rw [eQ] at ht hz
      simp only [List.length_cons] at hz
      have hb := kC (aa pth) 63 (aa q ++ 35 :: aa f) (by rw [ht]; rfl)
      have hb2 := kC (aa pth ++ 63 :: aa q) 35 (aa f) (by rw [ht, List.append_assoc])
      have el : (aa pth ++ 63 :: aa q).length = (aa pth).length + 1 + (aa q).length := by simp; omega
      rw [el] at hb2
      refine List.mem_append_left _ (dU.2 ⟨(aa pth).length, by omega, by omega, ?_⟩)
      unfold k0
      rw [if_neg (fun h => absurd hb h.2)]
      refine dU.2 ⟨(aa pth).length + 1 + (aa q).length, by omega, by omega, ?_⟩
      unfold k1
      rw [if_neg (fun h => absurd hb2 h.2)]
      have e6 : s.extract ((aa pth).length + 1) ((aa pth).length + 1 + (aa q).length) = q := iI (X := aa pth ++ [63]) (Z := 35 :: aa f) (by rw [ht]; simp) (by simp) (by simp)
      have e8 : s.extract ((aa pth).length + 1 + (aa q).length + 1) s.size = f := iI (X := aa pth ++ 63 :: aa q ++ [35]) (Z := []) (by rw [ht]; simp) (by simp; omega) (by simp; omega)
      have ec : c1 s sch ha aut (aa pth).length ((aa pth).length + 1 + (aa q).length) = (sch, ha, aut, pth, true, q, true, f) := by
        unfold c1
        rw [decide_eq_true (show (aa pth).length < (aa pth).length + 1 + (aa q).length by omega), if_pos (show (aa pth).length < (aa pth).length + 1 + (aa q).length by omega),
          decide_eq_true (show (aa pth).length + 1 + (aa q).length < s.size by omega), if_pos (show (aa pth).length + 1 + (aa q).length < s.size by omega), ep, e6, e8]
      rw [ec]
      exact lw.2 ⟨rfl, hm⟩
def kh (kind : Int) (s sch : ByteArray) (h : Nat) : List S24 := ju kind (s.extract h s.size) sch true (s.extract 2 h)
def i3 (kind : Int) (s sch : ByteArray) : List S24 :=
  ju kind s sch false nil8 ++ if s.size < 2 ∨ (aa s).take 2 ≠ [47, 47] then [] else cR (kh kind s sch) 2 (s.size - 1)
def ka (kind : Int) (s : ByteArray) (i : Nat) : List S24 := if bt s (i : Int) = 58 ∧ 0 < i then i3 kind (s.extract (i + 1) s.size) (s.extract 0 i) else []
def nv (kind : Int) (s : ByteArray) : List S24 := i3 kind s nil8 ++ cR (ka kind s) 0 s.size
theorem kX (s : ByteArray) (i j : Nat) : (s.extract i j).size ≤ s.size := by rw [ByteArray.size_extract]; omega
theorem wn (kind : Int) (s sch : ByteArray) (hs : s.size ≤ 30) (h : Nat) : (kh kind s sch h).length ≤ 991 := ox _ _ _ _ _ (by have := kX s h s.size; omega)
theorem qa (kind : Int) (s sch : ByteArray) (hs : s.size ≤ 30) : (i3 kind s sch).length ≤ 31 * 991 := by
  unfold i3
  rw [List.length_append]
  have h1 := ox kind s sch false nil8 hs
  have h2 := kf (wn kind s sch hs) (s.size - 1) 2
  have h3 : (s.size - 1) * 991 ≤ 29 * 991 := Nat.mul_le_mul (by omega) (Nat.le_refl _)
  split
  · simp; omega
  · omega
theorem wm (kind : Int) (s : ByteArray) (hs : s.size ≤ 30) (i : Nat) : (ka kind s i).length ≤ 31 * 991 := by
  unfold ka
  split
  · exact qa _ _ _ (by have := kX s (i + 1) s.size; omega)
  · simp
theorem xv (kind : Int) (s sch : ByteArray) (hs : s.size ≤ 30) (h1 : sch.size ≤ 1000000) : ∀ d h : Nat, ∀ acc : List S24, h + d = s.size + 1 → 2 ≤ h → acc.length + d * 991 ≤ 1000000 →
    Ev (fun k => ct k kind s acc (h : Int) sch false nil8 nil8 false nil8 false nil8) (acc ++ cR (kh kind s sch) h d) := by
  intro d
  induction d with
  | zero =>
    intro h acc hd hh hacc
    refine Ev.step (fun k => by rw [ct]) ?_
    exact ae (by omega) (Ev.val (List.append_nil _).symm)
  | succ d ih =>
    intro h acc hd hh hacc
    rw [Nat.succ_mul] at hacc
    have hl := wn kind s sch hs h
    refine Ev.step (fun k => by rw [ct]) ?_
    rw [Int.toNat_natCast, lf (n := h) (by omega)]
    have e1 := kX s h s.size
    have e2 := kX s 2 h
    refine ab (by omega) (ab (by omega) (ab (by omega) (ai (up kind (s.extract h s.size) sch true (s.extract 2 h) (by omega) h1 (by omega)) ?_)))
    have hl' : (ju kind (s.extract h s.size) sch true (s.extract 2 h)).length ≤ 991 := hl
    refine ab (by omega) ?_
    have nx := ih (h + 1) (acc ++ kh kind s sch h) (by omega) (by omega) (by rw [List.length_append]; omega)
    rw [List.append_assoc] at nx
    exact nx
theorem tY (kind : Int) (s sch : ByteArray) (hs : s.size ≤ 30) (h1 : sch.size ≤ 1000000) : Ev (fun k => eV k kind sch false nil8 nil8 false nil8 false nil8 s) (i3 kind s sch) := by
  unfold eV
  refine ai (up kind s sch false nil8 hs h1 (by decide)) ?_
  have hl := ox kind s sch false nil8 hs
  have hj : ∀ x : Bool, x = decide (s.size < 2 ∨ (aa s).take 2 ≠ [47, 47]) → Ev (fun k => dF k kind s (ju kind s sch false nil8) x sch false nil8 nil8 false nil8 false nil8) (i3 kind s sch) := by
    intro x hx
    refine Ev.step (fun k => by rw [dF]) ?_
    unfold i3
    refine Ev.ite (fun h => ?_) (fun h => ?_)
    · rw [if_pos (of_decide_eq_true (hx.symm.trans h))]
      exact Ev.val (List.append_nil _).symm
    · rw [if_neg (fun h' => h (hx.trans (decide_eq_true h')))]
      have hz : ¬ (s.size < 2) := fun h' => h (hx.trans (decide_eq_true (.inl h')))
      have h3 : (s.size - 1) * 991 ≤ 29 * 991 := Nat.mul_le_mul (by omega) (Nat.le_refl _)
      exact xv kind s sch hs h1 (s.size - 1) 2 _ (by omega) (by omega) (by omega)
  refine Ev.ite (fun h => ?_) (fun h => ?_)
  · exact hj true (decide_eq_true (.inl (by omega))).symm
  · refine ab (by decide) (ab (by omega) (hj _ ?_))
    have e : aa (s.extract 0 2) = (aa s).take 2 := by rw [au, List.drop_zero]
    have e2 : aa (⟨#[47, 47]⟩ : ByteArray) = [47, 47] := by decide +kernel
    have e3 : ((s.extract 0 2).toList = ([47, 47] : List UInt8)) ↔ (aa s).take 2 = [47, 47] := by
      rw [show ([47, 47] : List UInt8) = (⟨#[47, 47]⟩ : ByteArray).toList by decide +kernel, jn, e, e2]
    rw [Bool.eq_iff_iff, bne_iff_ne, decide_eq_true_iff]
    constructor
    · exact fun h' => .inr (fun h2 => h' (e3.2 h2))
    · rintro (h' | h')
      · exact absurd h' (by omega)
      · exact fun h2 => h' (e3.1 h2)
theorem rY {kind : Int} {s sch : ByteArray} {x : S24} (h : x ∈ i3 kind s sch) :
    ∃ p : fo, x = toS p ∧ oW kind p = true ∧ p.1 = sch ∧ (p.2.1 = false → p.2.2.1 = nil8) ∧ jO p ∧ dL p.2.1 (aa p.2.2.1) ++ iR p = aa s := by
  unfold i3 at h
  rcases List.mem_append.1 h with h | h
  · obtain ⟨p, e, hm, h1, h2, h3, hc, ht⟩ := sw h
    refine ⟨p, e, hm, h1, fun _ => h3, hc, ?_⟩
    rw [h2]; exact ht
  · by_cases hb : s.size < 2 ∨ (aa s).take 2 ≠ [47, 47]
    · rw [if_pos hb] at h; cases h
    · rw [if_neg hb] at h
      obtain ⟨n, hn, hn2, h⟩ := dU.1 h
      unfold kh at h
      obtain ⟨p, e, hm, h1, h2, h3, hc, ht⟩ := sw h
      refine ⟨p, e, hm, h1, fun h => (by rw [h2] at h; cases h), hc, ?_⟩
      have h47 : (aa s).take 2 = [47, 47] := Decidable.byContradiction fun h' => hb (.inr h')
      rw [h2, h3, ht, aY, au]
      show [47, 47] ++ _ ++ _ = _
      rw [List.append_assoc, i2 (aa s) (by omega) (by rw [af]; omega), ← h47, List.take_append_drop]
theorem rf {kind : Int} {s : ByteArray} {p : fo} (hm : oW kind p = true) (hc : jO p) (na : p.2.1 = false → p.2.2.1 = nil8) (ht : dL p.2.1 (aa p.2.2.1) ++ iR p = aa s) : toS p ∈ i3 kind s p.1 := by
  unfold i3
  cases hha : p.2.1
  · have hn := na hha
    rw [hha] at ht
    have := rx hm hc ht
    rw [hha, hn] at this
    exact List.mem_append_left _ this
  · rw [hha] at ht
    have ht : [47, 47] ++ (aa p.2.2.1 ++ iR p) = aa s := ht
    have hz : s.size = 2 + ((aa p.2.2.1).length + (iR p).length) := by rw [lY, ← ht, List.length_append, List.length_append]; rfl
    have h2 : (aa s).take 2 = [47, 47] := by rw [← ht]; rfl
    rw [if_neg (by rintro (h' | h'); omega; exact h' h2)]
    refine List.mem_append_right _ (dU.2 ⟨2 + (aa p.2.2.1).length, by omega, by omega, ?_⟩)
    have e1 : s.extract 2 (2 + (aa p.2.2.1).length) = p.2.2.1 := iI (X := [47, 47]) (Z := iR p) ht.symm rfl rfl
    have e2 : iR p = aa (s.extract (2 + (aa p.2.2.1).length) s.size) := by
      rw [aY, ← ht, ← List.append_assoc]
      exact (List.drop_left' (by simp; omega)).symm
    have := rx (s := s.extract (2 + (aa p.2.2.1).length) s.size) hm hc e2
    unfold kh
    rw [e1]
    rw [hha] at this
    exact this
theorem zy {kind : Int} {s : ByteArray} {x : S24} (h : x ∈ nv kind s) :
    ∃ p : fo, x = toS p ∧ oW kind p = true ∧ (p.2.1 = false → p.2.2.1 = nil8) ∧ jO p ∧ nh p = aa s := by
  unfold nv at h
  rcases List.mem_append.1 h with h | h
  · obtain ⟨p, e, hm, h1, h2, hc, ht⟩ := rY h
    refine ⟨p, e, hm, h2, hc, ?_⟩
    unfold nh cZ
    rw [h1]; exact ht
  · obtain ⟨i, _, hi, h⟩ := dU.1 h
    unfold ka at h
    by_cases hb : bt s (i : Int) = 58 ∧ 0 < i
    · rw [if_pos hb] at h
      obtain ⟨p, e, hm, h1, h2, hc, ht⟩ := rY h
      refine ⟨p, e, hm, h2, hc, ?_⟩
      have ht : dL p.2.1 (aa p.2.2.1) ++ (aa p.2.2.2.1 ++ (b5 p.2.2.2.2.1 (aa p.2.2.2.2.2.1) ++ du p.2.2.2.2.2.2.1 (aa p.2.2.2.2.2.2.2))) = _ := ht
      unfold nh cZ
      rw [ht, h1, aY, au, List.drop_zero]
      unfold eG
      rw [if_neg (by
        intro h0
        have := congrArg List.length h0
        rw [List.length_take, af, List.length_nil] at this
        omega), List.append_assoc, List.singleton_append, ← oK (n := i) (c := 58) (by rw [af]; omega) (by rw [gU]; exact hb.1), List.take_append_drop]
    · rw [if_neg hb] at h; cases h
theorem yF {kind : Int} {s : ByteArray} {p : fo} (hm : oW kind p = true) (hc : jO p) (na : p.2.1 = false → p.2.2.1 = nil8) (ht : nh p = aa s) : toS p ∈ nv kind s := by
  unfold nv
  have ht : eG (aa p.1) ++ (dL p.2.1 (aa p.2.2.1) ++ iR p) = aa s := ht
  by_cases hs : aa p.1 = []
  · have e := ue hs
    unfold eG at ht
    rw [if_pos hs] at ht
    have := rf hm hc na ht
    rw [e] at this
    exact List.mem_append_left _ this
  · unfold eG at ht
    rw [if_neg hs, List.append_assoc] at ht
    have hlen : (aa p.1).length ≠ 0 := fun h => hs (List.length_eq_zero_iff.1 h)
    have hz : s.size = (aa p.1).length + (1 + (dL p.2.1 (aa p.2.2.1) ++ iR p).length) := by rw [lY, ← ht, List.length_append, List.length_append]; rfl
    have hb : bt s ((aa p.1).length : Int) = 58 := by rw [← gU, ← ht, o8 _ _ _ rfl]; rfl
    refine List.mem_append_right _ (dU.2 ⟨(aa p.1).length, by omega, by omega, ?_⟩)
    unfold ka
    rw [if_pos ⟨hb, by omega⟩]
    have e1 : s.extract 0 (aa p.1).length = p.1 := iI (X := []) (Z := [58] ++ (dL p.2.1 (aa p.2.2.1) ++ iR p)) ht.symm rfl (by simp)
    have e2 : dL p.2.1 (aa p.2.2.1) ++ iR p = aa (s.extract ((aa p.1).length + 1) s.size) := by
      rw [aY, ← ht, ← List.append_assoc]
      exact (List.drop_left' (by simp)).symm
    have := rf (s := s.extract ((aa p.1).length + 1) s.size) hm hc na e2
    rw [e1]
    exact this
theorem vG {kind : Int} {s : ByteArray} {x : S24} (h : x ∈ nv kind s) : x = toS (bk s) ∧ iC kind s = true := by
  obtain ⟨p, e, hm, na, hc, ht⟩ := zy h
  have hsp : bk s = p := vx (zG hm) na hc.1 hc.2 ht.symm
  refine ⟨by rw [e, hsp], ?_⟩
  unfold iC
  rw [hsp]
  exact hm
theorem yE {kind : Int} {s : ByteArray} (h : iC kind s = true) : toS (bk s) ∈ nv kind s := by
  refine yF h ⟨?_, ?_⟩ ?_ (qf s)
  · intro h'
    unfold bk at h' ⊢
    dsimp only at h' ⊢
    rw [h']; rfl
  · intro h'
    unfold bk at h' ⊢
    dsimp only at h' ⊢
    rw [h']; rfl
  · intro h'
    unfold bk at h' ⊢
    dsimp only at h' ⊢
    rw [h']; rfl
theorem wA {l : List S24} {T : S24} (h : ∀ x ∈ l, x = T) {n : Nat} (hn : n < l.length) : ag l (n : Int) = T := by
  unfold ag
  rw [Int.toNat_natCast, List.getD_eq_getElem?_getD, List.getElem?_eq_getElem hn]
  exact h _ (List.getElem_mem _)
theorem vT (l : List S24) (T : S24) (h : ∀ x ∈ l, x = T) (hl : l.length ≤ 1000000) : ∀ d n : Nat, n + d = l.length → Ev (fun k => bx k l [T] (n : Int)) [T] := by
  intro d
  induction d with
  | zero =>
    intro n hd
    refine Ev.step (fun k => by rw [bx]) ?_
    exact ae (by omega) (Ev.val rfl)
  | succ d ih =>
    intro n hd
    refine Ev.step (fun k => by rw [bx]) ?_
    refine ab (by omega) ?_
    refine Ev.step (fun k => by rw [cO]) ?_
    have e1 : ag l (n : Int) = T := wA h (by omega)
    have e0 : ag [T] 0 = T := rfl
    rw [e1, e0]
    refine ab (by simp) (ab (by decide) (ab (by omega) (ab (by omega) (ab (by simp) ?_))))
    rw [show wrap64 ((0 : Int) + 1) = 1 by unfold wrap64; decide]
    refine Ev.step (fun k => by rw [cO]) ?_
    refine ae (by simp) (ab rfl ?_)
    rw [lf (n := n) (by omega)]
    exact ih (n + 1) (by omega)
theorem zD (l : List S24) (T : S24) (h : ∀ x ∈ l, x = T) (hl : l.length ≤ 1000000) : Ev (fun k => bx k l [] 0) (if l = [] then [] else [T]) := by
  refine Ev.step (fun k => by rw [bx]) ?_
  by_cases hn : l = []
  · subst hn
    exact ae (by decide) (Ev.val rfl)
  · have hlen : l.length ≠ 0 := fun e => hn (List.length_eq_zero_iff.1 e)
    rw [if_neg hn]
    refine ab (by omega) ?_
    refine Ev.step (fun k => by rw [cO]) ?_
    have e1 : ag l 0 = T := wA (n := 0) h (by omega)
    rw [e1]
    refine ae (by decide) (ae (by simp) (ab (by decide) (ab (by omega) (ab (by decide) ?_))))
    rw [show wrap64 ((0 : Int) + 1) = ((1 : Nat) : Int) by unfold wrap64; decide]
    exact vT l T h hl (l.length - 1) 1 (by omega)
theorem xb (kind : Int) (s : ByteArray) (hs : s.size ≤ 30) (R : List S24) : ∀ d i : Nat, ∀ acc : List S24, i + d = s.size → acc.length + d * (31 * 991) ≤ 1000000 →
    Ev (fun k => bx k (acc ++ cR (ka kind s) i d) [] 0) R → Ev (fun k => b4 k kind s acc (i : Int)) R := by
  intro d
  induction d with
  | zero =>
    intro i acc hd hacc nx
    refine Ev.step (fun k => by rw [b4]) ?_
    refine ae (by omega) ?_
    have e : acc ++ cR (ka kind s) i 0 = acc := List.append_nil _
    rw [e] at nx
    exact nx
  | succ d ih =>
    intro i acc hd hacc nx
    rw [Nat.succ_mul] at hacc
    have hl := wm kind s hs i
    have eg : cR (ka kind s) i (d + 1) = ka kind s i ++ cR (ka kind s) (i + 1) d := rfl
    rw [eg, ← List.append_assoc] at nx
    have nx' := ih (i + 1) (acc ++ ka kind s i) (by omega) (by rw [List.length_append]; omega) nx
    refine Ev.step (fun k => by rw [b4]) ?_
    rw [Int.toNat_natCast, lf (n := i) (by omega), Int.toNat_natCast]
    refine ab (by omega) (ab (by omega) ?_)
    have e1 := kX s (i + 1) s.size
    have e2 := kX s 0 i
    refine Ev.ite (fun hb => ?_) (fun hb => ?_)
    · refine Ev.ite (fun h0 => ?_) (fun h0 => ?_)
      · have ek : ka kind s i = i3 kind (s.extract (i + 1) s.size) (s.extract 0 i) := by unfold ka; rw [if_pos ⟨hb, by omega⟩]
        rw [ek] at nx' hl
        refine ab (by omega) (ab (by omega) (ab (by omega) (ai (tY kind (s.extract (i + 1) s.size) (s.extract 0 i) (by omega) (by omega)) (ab (by omega) nx'))))
      · have ek : ka kind s i = [] := by unfold ka; rw [if_neg (fun h => h0 (by omega))]
        rw [ek, List.append_nil] at nx'
        exact nx'
    · have ek : ka kind s i = [] := by unfold ka; rw [if_neg (fun h => hb h.1)]
      rw [ek, List.append_nil] at nx'
      exact nx'
theorem tQ (kind : Int) (s : ByteArray) (hs : s.size ≤ 30) : Ev (fun k => gQ k kind s) (if iC kind s = true then [toS (bk s)] else []) := by
  unfold gQ
  refine ai (tY kind s nil8 hs (by decide)) ?_
  have hl := qa kind s nil8 hs
  have hg := kf (wm kind s hs) s.size 0
  have h3 : s.size * (31 * 991) ≤ 30 * (31 * 991) := Nat.mul_le_mul hs (Nat.le_refl _)
  refine xb kind s hs _ s.size 0 (i3 kind s nil8) (by omega) (by omega) ?_
  have hd := zD (nv kind s) (toS (bk s)) (fun x hx => (vG hx).1) (by unfold nv; rw [List.length_append]; omega)
  have e : (if nv kind s = [] then [] else [toS (bk s)]) = (if iC kind s = true then [toS (bk s)] else []) := by
    by_cases hm : iC kind s = true
    · rw [if_pos hm, if_neg (fun h => by have := yE hm; rw [h] at this; cases this)]
    · rw [if_neg hm, if_pos]
      cases hL : nv kind s with
      | nil => rfl
      | cons x t => exact absurd (vG (x := x) (by rw [hL]; exact List.mem_cons_self)).2 hm
  rw [e] at hd
  exact hd
theorem wE (p : fo) (h1 : p.1.size ≤ 1000000) (h2 : p.2.2.1.size ≤ 1000000) (h3 : p.2.2.2.1.size ≤ 1000000) (h4 : p.2.2.2.2.2.1.size ≤ 1000000) (h5 : p.2.2.2.2.2.2.2.size ≤ 1000000) :
    ∃ R, Ev (fun k => fm k p.1 p.2.1 p.2.2.1 p.2.2.2.1 p.2.2.2.2.1 p.2.2.2.2.2.1 p.2.2.2.2.2.2.1 p.2.2.2.2.2.2.2) R ∧ aa R = nh p := by
  obtain ⟨sch, ha, aut, pth, hq, q, hf, f⟩ := p
  dsimp only at h1 h2 h3 h4 h5 ⊢
  have b58 : aa (⟨#[58]⟩ : ByteArray) = [58] := by decide +kernel
  have b4747 : aa (⟨#[47, 47]⟩ : ByteArray) = [47, 47] := by decide +kernel
  have b63 : aa (⟨#[63]⟩ : ByteArray) = [63] := by decide +kernel
  have b35 : aa (⟨#[35]⟩ : ByteArray) = [35] := by decide +kernel
  have z1 : (⟨#[58]⟩ : ByteArray).size = 1 := by decide
  have z2 : (⟨#[47, 47]⟩ : ByteArray).size = 2 := by decide
  have z3 : (⟨#[63]⟩ : ByteArray).size = 1 := by decide
  have z4 : (⟨#[35]⟩ : ByteArray).size = 1 := by decide
  have hj1 : ∀ x : ByteArray, x.size ≤ 3000000 → ∃ R, Ev (fun k => ce k x sch ha aut pth hq q hf f) R ∧ aa R = aa x ++ (aa pth ++ (b5 hq (aa q) ++ du hf (aa f))) := by
    intro x hx
    cases hq
    · cases hf
      · refine ⟨x ++ pth, Ev.step (fun k => by rw [ce]) (ab (by omega) (ae (by simp) (ae (by simp) (ay _)))), ?_⟩
        rw [bl]; simp [b5, du]
      · refine ⟨(x ++ pth) ++ ((⟨#[35]⟩ : ByteArray) ++ f), Ev.step (fun k => by rw [ce]) (ab (by omega) (ae (by simp) (ab rfl (ab (by omega) (ab (by simp only [ByteArray.size_append, z4]; omega) (ay _)))))), ?_⟩
        rw [bl, bl, bl, b35]; simp [b5, du]
    · cases hf
      · refine ⟨(x ++ pth) ++ ((⟨#[63]⟩ : ByteArray) ++ q), Ev.step (fun k => by rw [ce]) (ab (by omega) (ab rfl (ab (by omega) (ab (by simp only [ByteArray.size_append, z3]; omega) (ae (by simp) (ay _)))))), ?_⟩
        rw [bl, bl, bl, b63]; simp [b5, du]
      · refine ⟨((x ++ pth) ++ ((⟨#[63]⟩ : ByteArray) ++ q)) ++ ((⟨#[35]⟩ : ByteArray) ++ f), Ev.step (fun k => by rw [ce]) (ab (by omega) (ab rfl (ab (by omega) (ab (by simp only [ByteArray.size_append, z3]; omega) (ab rfl (ab (by omega) (ab (by simp only [ByteArray.size_append, z3, z4]; omega) (ay _)))))))), ?_⟩
        rw [bl, bl, bl, bl, bl, b63, b35]; simp [b5, du]
  have hj0 : ∀ x : ByteArray, x.size ≤ 1000001 → ∃ R, Ev (fun k => dh k x sch ha aut pth hq q hf f) R ∧ aa R = aa x ++ (dL ha (aa aut) ++ (aa pth ++ (b5 hq (aa q) ++ du hf (aa f)))) := by
    intro x hx
    cases hha : ha
    · obtain ⟨R, e, hb⟩ := hj1 x (by omega)
      rw [hha] at e
      exact ⟨R, Ev.step (fun k => by rw [dh]) (ae (by simp) e), hb⟩
    · obtain ⟨R, e, hb⟩ := hj1 (x ++ ((⟨#[47, 47]⟩ : ByteArray) ++ aut)) (by simp only [ByteArray.size_append, z2]; omega)
      rw [hha] at e
      refine ⟨R, Ev.step (fun k => by rw [dh]) (ab rfl (ab (by omega) (ab (by simp only [ByteArray.size_append, z2]; omega) e))), ?_⟩
      rw [hb, bl, bl, b4747]; simp [dL]
  unfold fm nh cZ
  dsimp only
  have en : (sch.toList = ([] : List UInt8)) ↔ aa sch = [] := by
    rw [show ([] : List UInt8) = nil8.toList by decide +kernel, jn, mj]
  by_cases hsc : aa sch = []
  · obtain ⟨R, e, hb⟩ := hj0 nil8 (by decide)
    refine ⟨R, ab (en.2 hsc) e, ?_⟩
    rw [hb, mj]; unfold eG; rw [if_pos hsc]
  · obtain ⟨R, e, hb⟩ := hj0 (sch ++ (⟨#[58]⟩ : ByteArray)) (by simp only [ByteArray.size_append, z1]; omega)
    refine ⟨R, ae (fun h => hsc (en.1 h)) (ab (by omega) e), ?_⟩
    rw [hb, bl, b58]; unfold eG; rw [if_neg hsc]
theorem rC (s : ByteArray) (hs : s.size ≤ 1000000) : Ev (fun k => fm k (bk s).1 (bk s).2.1 (bk s).2.2.1 (bk s).2.2.2.1 (bk s).2.2.2.2.1 (bk s).2.2.2.2.2.1 (bk s).2.2.2.2.2.2.1 (bk s).2.2.2.2.2.2.2) s := by
  have hp : ∀ i j, (s.extract i j).size ≤ 1000000 := fun i j => by rw [ByteArray.size_extract]; omega
  have hn : nil8.size ≤ 1000000 := by decide
  have hc : ∀ (c : Bool) i j, (if c = true then s.extract i j else nil8).size ≤ 1000000 := fun c i j => by cases c; exact hn; exact hp i j
  obtain ⟨R, e, hb⟩ := wE (bk s) (hc _ _ _) (hc _ _ _) (hp _ _) (hc _ _ _) (hc _ _ _)
  rw [qf] at hb
  rw [gK hb] at e
  exact e
end Go.Proofs.YtpmflpeckoeooaaGreatDoor.Y
namespace Go.Proofs.YtpmflpeckoeooaaGreatDoor.Pure
open Go.RowKit Go.Proofs.YtpmflpeckoeooaaGreatDoor.X Go.Proofs.YtpmflpeckoeooaaGreatDoor.M Go.Proofs.YtpmflpeckoeooaaGreatDoor.Y Go.Proofs.YtpmflpeckoeooaaGreatDoorW.PrintWords Go.Proofs.YtpmflpeckoeooaaGreatDoorW.PrintLast Go.Proofs.YtpmflpeckoeooaaGreatDoorW.PrintMore
set_option linter.unusedVariables false
set_option linter.unusedSimpArgs false
theorem xE (kind : Int) (s : ByteArray) : Ev (fun k => bi k kind s 3 true nil8 false nil8 nil8 false nil8 false nil8) true := by
  refine Ev.step (fun k => by rw [bi]) ?_
  exact ab rfl (ab rfl (ab (by decide +kernel) (ai mX (ay _))))
theorem xF (kind : Int) (s : ByteArray) (hs : s.size ≤ 30) (hm : iC kind s = false) : Ev (fun k => bi k kind s 4 false nil8 false nil8 nil8 false nil8 false nil8) true := by
  refine Ev.step (fun k => by rw [bi]) ?_
  refine ae (by simp) (ai (tQ kind s hs) ?_)
  rw [hm]
  exact ab rfl (ab rfl (ab (by decide +kernel) (ai mX (ay _))))
theorem xD (kind : Int) (s : ByteArray) (hs : s.size ≤ 30) (hm : iC kind s = true) :
    Ev (fun k => bi k kind s 0 false (bk s).1 (bk s).2.1 (bk s).2.2.1 (bk s).2.2.2.1 (bk s).2.2.2.2.1 (bk s).2.2.2.2.2.1 (bk s).2.2.2.2.2.2.1 (bk s).2.2.2.2.2.2.2) true := by
  refine Ev.step (fun k => by rw [bi]) ?_
  refine ae (by simp) (ai (tQ kind s hs) ?_)
  rw [hm, if_pos rfl]
  refine ae (by simp) (ab (by simp) (ab rfl (ab (by simp) (ab ?_ (ai (rC s (by omega)) (ab rfl (ai mX (ay _))))))))
  have e : ag [toS (bk s)] 0 = toS (bk s) := rfl
  rw [e]
  unfold toS
  simp
theorem SyntaxOne : lL := by
  intro kind s _ _
  refine vD (r := true) ?_
  have aw : Ev (fun k => bL k kind s true) true := by
    refine Ev.step (fun k => by rw [bL]) ?_
    exact ab rfl (ai mX (ay _))
  unfold fX
  refine Ev.ite (fun _ => aw) (fun hs => Ev.ite (fun _ => aw) (fun h1 => ?_))
  by_cases h5 : kind > 5
  · rw [decide_eq_true h5]; exact aw
  · rw [decide_eq_false h5]
    have hs : s.size ≤ 30 := by omega
    refine Ev.step (fun k => by rw [bL]) ?_
    refine ae (by simp) (ai (xL kind s) ?_)
    have hp : i8 kind s = if 4 ≤ kind ∧ ms (aa s) = false then my 3 else if iC kind s = true then ok9 (bk s) else my 4 := by
      unfold i8; rw [if_neg (by omega), if_neg (by omega)]
    have eM : ¬ (4 ≤ kind ∧ ms (aa s) = false) → Ev (fun k => bi k kind s (i8 kind s).2.2.2.2.2.2.2.2 false (i8 kind s).1 (i8 kind s).2.1 (i8 kind s).2.2.1 (i8 kind s).2.2.2.1 (i8 kind s).2.2.2.2.1 (i8 kind s).2.2.2.2.2.1 (i8 kind s).2.2.2.2.2.2.1 (i8 kind s).2.2.2.2.2.2.2.1) true := by
      intro h
      rw [hp, if_neg h]
      cases hm : iC kind s
      · exact xF kind s hs hm
      · exact xD kind s hs hm
    refine Ev.ite (fun h4 => ai (u2 s (by omega)) ?_) (fun h4 => eM (fun h => h4 h.1))
    cases hw : ms (aa s)
    · have : decide (dP (aa s) ≥ 0) = true := by
        unfold ms at hw
        rw [decide_eq_false_iff_not] at hw
        exact decide_eq_true (by omega)
      rw [this, hp, if_pos ⟨h4, hw⟩]
      exact xE kind s
    · have : decide (dP (aa s) ≥ 0) = false := by
        unfold ms at hw
        rw [decide_eq_true_iff] at hw
        exact decide_eq_false (by omega)
      rw [this]
      exact eM (fun h => by rw [hw] at h; exact absurd h.2 (by simp))
end Go.Proofs.YtpmflpeckoeooaaGreatDoor.Pure
namespace Go.Proofs.YtpmflpeckoeooaaGreatDoor.syntaxOne
open Go.ChangeShapes Go.WideShapes Go.ChangeAt Go.RowKit
open Go.ChangeMaps (open_string shut_string)
set_option linter.unusedVariables false
set_option linter.unusedSimpArgs false
theorem own : ownKnob Tryz.prog.godebug = none := by kernel_rfl
theorem gw_len {W : World} (h : W.ShapedOpen Tryz.prog) : ∃ m, W.cell? ⟨0, 0, none⟩ = some (.int .i64 m) :=
  Go.Proofs.cell_of_shapedOpen_int (g := 0) (t := 3) (zero := #[.int .i64 0]) h (of_decide_eq_true (by kernel_rfl)) (by kernel_rfl) rfl (by kernel_rfl) (by kernel_rfl) Tryz.underlying3
theorem gw {W : World} (h : W.ShapedOpen Tryz.prog) (hL0 : laidMetH Tryz.prog Rows.syntaxOneRow.laid W) : X.GW W := ⟨gw_len h⟩
set_option maxRecDepth 100000 in
theorem contract (H : Type) (enc : TypeId × Value → H) (W : World) (base : Nat) (args : Array Value) (ds gs : List (DataW H)) (before : List MemPlace)
    (hval0 : ∀ (j : Nat) t v, Tryz.f3.params[j]? = some t → args[j]? = some v → Value.okWide Tryz.prog W .any base t v)
    (hW : DataW.Whole enc Tryz.prog Tryz.f3.params.toList Rows.syntaxOneSpec.vars false W args.toList ds gs before)
    (hsz0 : (DataW.weightsEach Tryz.prog (Tryz.f3.params.toList ++ Rows.syntaxOneSpec.plain.varTypes Tryz.prog) (ds ++ gs)).all (· ≤ reachBytes) = true) (hsh : W.ShapedOpen Tryz.prog) (hL : laidMetH Tryz.prog Rows.syntaxOneRow.laid W) :
    Calls Tryz.prog 3 args W fun e W' => ∃ v, e = .returned v ∧ Rows.syntaxOneSpec.post enc Tryz.prog Tryz.f3 false true false false W args v W' := by
  have hsz : (DataW.weightsEach Tryz.prog (Tryz.f3.params.toList ++ Rows.syntaxOneSpec.plain.varTypes Tryz.prog) (ds ++ gs)).all (· ≤ reachBytes) = true := hsz0
  have jR : ∀ (j : Nat) t v, Tryz.f3.params[j]? = some t → args[j]? = some v → Value.okWide Tryz.prog W .any base t v := hval0
  have hW' := hW
  obtain ⟨p, q, hA0, hV, rfl, hfz, hnd⟩ := hW
  have hA : DataW.TrodAll enc Tryz.prog W 0 (fun _ => true) true Tryz.f3.params.toList args.toList ds p := hA0
  rw [Tryz.params3] at hA jR hsz
  obtain ⟨v0, vs0, d0, ds0, p0, q0, hargs, rfl, rfl, h0, r0⟩ := trodAll_cons hA
  obtain ⟨v1, vs1, d1, ds1, p1, q1, rfl, rfl, rfl, h1, r1⟩ := trodAll_cons r0
  obtain ⟨rfl, rfl, rfl⟩ := trodAll_nil r1
  obtain rfl : args = #[v0, v1] := by cases args; simp_all
  obtain ⟨rfl, rfl⟩ := trodVars_none hV
  obtain ⟨a0, rfl, rfl, rfl, w0⟩ := open_int Tryz.underlying3 (jR 0 3 v0 rfl rfl) h0
  obtain ⟨a1, rfl, rfl, rfl, y1⟩ := open_string Tryz.underlying9 (jR 1 9 v1 rfl rfl) h1
  have w1 : a1.size ≤ 140737488351232 := by
    have z := sized_string hsz (j := 1) (t := 9) rfl rfl
    rw [Array.length_toList] at z
    exact z
  clear hA0 hval0 hsz0 hsz
  obtain ⟨k, hk⟩ := Pure.SyntaxOne a0 a1 w0 w1
  refine (X.lv k a0 a1 true W (gw hsh hL) hk).mono fun e W' ⟨he, bel0⟩ => ?_
  have bel : Below W.heap.size W W' := bel0
  subst he
  exact ⟨_, rfl, _, _, _, [], _, [], hW', trodAll_mk1 (shut_bool Tryz.underlying4 _), (trodAll_cons_mk (shut_int Tryz.underlying3 w0) (trodAll_cons_mk (shut_string Tryz.underlying9 y1) trodAll_mk0)), rfl, bel.frame _, fun h => by cases h⟩
def flat : Nat → DataW Unit → List Value
  | 0, _ => []
  | k + 1, .agg l => l.flatMap (flat k)
  | _ + 1, .lit (.int kd n) => [.int kd n]
  | _ + 1, .lit (.bool b) => [.bool b]
  | _ + 1, _ => []
def layAt (g : Nat) (cs : List Value) (h : Array Obj) : Array Obj := h.modify g fun
  | .cells _ t frozen => .cells cs.toArray t frozen
  | x => x
noncomputable def oU (os : Os) : World := { World.holding Tryz.prog os ⟨#[], #[], []⟩ with heap := layAt 1 (flat 9 Rows.laid_unicode_utf8_first) (layAt 2 (flat 9 Rows.laid_unicode_utf8_acceptRanges) ((World.holding Tryz.prog os ⟨#[], #[], []⟩).heap)) }
theorem laid_met (os : Os) : laidMet Tryz.prog Rows.syntaxOneRow.laid ((oU os).forCall (fun _ _ => 0) ⟨#[], #[.int .i64 0, .string ByteArray.empty], []⟩).memory :=
  laidMet_of_run' 8 (by kernel_rfl) (by kernel_rfl)
theorem reads (os : Os) {H : Type} (enc : TypeId × Value → H) : ∃ places, DataW.whole enc Tryz.prog ((oU os).forCall (fun _ _ => 0) ⟨#[], #[.int .i64 0, .string ByteArray.empty], []⟩).memory Tryz.f3.params.toList Rows.syntaxOneSpec.vars false (#[.int .i64 0, .string ByteArray.empty] : Array Value).toList 8 = some ([.lit (.int .i64 0), .lit (.string [])], [], places) :=
  ⟨[], by kernel_rfl⟩
set_option maxRecDepth 100000 in
theorem lifted (os : Os) (started : os.Started) (H : Type) (enc : TypeId × Value → H) (F : Stop.Interp) :
    ReturnsInHanded {} Tryz.checked os 3 .any ((OpenSpec.ofChange Rows.syntaxOneSpec).preRow enc Tryz.prog Tryz.f3 Rows.syntaxOneRow.domain false Rows.syntaxOneRow.laid) (((OpenSpec.ofChange Rows.syntaxOneSpec).at F).post enc Tryz.prog Tryz.f3 false true false false) := by
  obtain ⟨places, hx⟩ := reads os enc
  refine returnsInHanded_of_row (C := Tryz.checked) (s := OpenSpec.ofChange Rows.syntaxOneSpec) own started (by kernel_rfl) Tryz.func3
    (witness_row_at (enc := enc) (C := Tryz.checked) false (oU os) #[.int .i64 0, .string ByteArray.empty] rfl (by kernel_rfl) (by kernel_rfl) (by kernel_rfl)
      (OpenSpec.preRow_of_cond 8 hx (by kernel_rfl) (fun k hk => by cases hk) (by kernel_rfl) (laid_met os))) ?_
  intro W base args ds gs before jR hW _ _ hsz hL hsh _
  exact contract H enc W base args ds gs before jR hW hsz hsh hL
theorem said : Rows.SyntaxOneSaid :=
  OpenClaim.holds_of_cond 3 Tryz.f3 rfl rfl rfl rfl rfl rfl rfl ⟨rfl, rfl, rfl, rfl, rfl⟩ rfl rfl rfl rfl rfl (by kernel_rfl) Tryz.func3 (by kernel_rfl)
    (of_decide_eq_true (by kernel_rfl)) (by unfold Func.isWrapper; first | (rw [if_pos (by decide +kernel)]; kernel_rfl) | (rw [if_neg (by decide +kernel)]; exact ⟨rfl, rfl⟩))
    (fun os started H enc _ F => by rw [OpenClaim.pre_eq_preRow]; exact lifted os started H enc F)
theorem plain (f : FuncId) (fn : Func) (hf : Tryz.pinned.checked.prog.funcNamed "moniker/monikerlaw22.SyntaxOne" = some f) (hfn : Tryz.pinned.checked.prog.funcs[f]? = some fn) :
    false = Tryz.pinned.checked.prog.looks [] ∧ ∀ (j : Nat) t, fn.params[j]? = some t → Tryz.pinned.checked.prog.wantsStandIn t = false := by
  obtain rfl : f = 3 := Option.some.inj ((show Tryz.prog.funcNamed "moniker/monikerlaw22.SyntaxOne" = some 3 by kernel_rfl).symm.trans hf) |>.symm
  obtain rfl : fn = Tryz.f3 := (Option.some.inj (Tryz.func3.symm.trans hfn)).symm
  refine ⟨by kernel_rfl, fun j t ht => ?_⟩
  rw [Tryz.params3] at ht
  have hm := Array.mem_of_getElem? ht
  simp only [List.mem_cons, List.mem_toArray, List.mem_nil_iff, or_false] at hm
  rcases hm with rfl | rfl
  · exact (show Tryz.prog.wantsStandIn 3 = false by kernel_rfl)
  · exact (show Tryz.prog.wantsStandIn 9 = false by kernel_rfl)
theorem card : Rows.SyntaxOneCardSaid :=
  Claim7.holds_tied_plain_at .later [] _ _ _ _ said (fun _ h => by cases h) (by kernel_rfl) (fun _ h => by cases h) syntaxOne_row_tie rfl ⟨rfl, rfl⟩ (by kernel_rfl) rfl plain (by kernel_rfl)
#print axioms card
end Go.Proofs.YtpmflpeckoeooaaGreatDoor.syntaxOne
namespace Go.Proofs.YtpmflpeckoeooaaGreatDoor
theorem syntaxOne_card : Rows.SyntaxOneCardSaid := syntaxOne.card
end Go.Proofs.YtpmflpeckoeooaaGreatDoor
