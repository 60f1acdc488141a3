/- Texts that the law's proof needs, joined by a program of this session. -/
import Derived.Test.YtpmflpeckoeooaaGreatDoorZSyntaxParses2
import Derived.Test.YtpmflpeckoeooaaGreatDoorZSyntaxParses5
import Derived.Test.YtpmflpeckoeooaaGreatDoorZSyntaxParses6
import Derived.Test.YtpmflpeckoeooaaGreatDoorZSyntaxParses7
import Derived.Test.YtpmflpeckoeooaaGreatDoorZSyntaxParses9
import Derived.Test.YtpmflpeckoeooaaGreatDoorZSyntaxParses10
import Derived.Test.YtpmflpeckoeooaaGreatDoorZSyntaxParses13
import Derived.Test.YtpmflpeckoeooaaGreatDoorZSyntaxParses14
set_option linter.unusedSimpArgs false
set_option linter.unusedVariables false
namespace Go.Proofs.YtpmflpeckoeooaaGreatDoor.Y
open Go.RowKit Go.Proofs.YtpmflpeckoeooaaGreatDoor.X Go.Proofs.YtpmflpeckoeooaaGreatDoor.M Go.Proofs.YtpmflpeckoeooaaGreatDoorW.PrintWords Go.Proofs.YtpmflpeckoeooaaGreatDoorW.PrintLast Go.Proofs.YtpmflpeckoeooaaGreatDoorW.PrintMore
theorem oO (l : List Int) (hl : ∀ b ∈ l, 0 ≤ b ∧ b ≤ 255) : (((bf (fun b => isc b 2) l : Nat) : Int) = (l.length : Int)) ↔ l.all eb = true := by
  rw [oP (q := eb) (fun b hb => qp (hl b hb).1 (hl b hb).2), List.all_eq_true]
  have := vV (p := eb) (l := l)
  constructor
  · intro h; exact this.1 (by omega)
  · intro h; have := this.2 h; omega
theorem sX (iri hu : Bool) (u h : ByteArray) (hp : Bool) (p : ByteArray) (s1 : u.size ≤ 1000000) (s2 : h.size ≤ 1000000) (s3 : p.size ≤ 1000000) :
    Ev (fun k => gG k iri hu u h hp p) (j9 iri hu (aa u) (aa h) hp (aa p)) := by
  have bad : Ev (fun k => cY k iri true hu u h hp p) false := by
    refine Ev.step (fun k => by rw [cY]) ?_
    exact ab rfl (az _)
  have fy : Ev (fun k => cY k iri false hu u h hp p) ((i9 iri (aa h) != 0) && (!hp || (aa p).all eb)) := by
    refine Ev.step (fun k => by rw [cY]) ?_
    refine ae (by simp) (ah (wE iri h s2) ?_)
    refine Ev.ite (fun h0 => Ev.val (by simp [h0])) (fun h0 => ?_)
    have e0 : (i9 iri (aa h) != 0) = true := by simpa using h0
    rw [e0]
    refine Ev.ite (fun h1 => ah (qt p 2 (by omega)) (Ev.val ?_)) (fun h1 => Ev.val ?_)
    · have := oO (aa p) (fun b hb => fI hb)
      rw [af] at this
      rw [h1, Bool.eq_iff_iff, beq_iff_eq, this]
      simp
    · rw [Bool.not_eq_true] at h1
      simp [h1]
  unfold gG j9
  cases hu
  · refine ae (by simp) ?_
    simp only [Bool.not_false, Bool.true_or, Bool.true_and]
    exact fy
  · refine ab rfl (ah (xp 1 iri u (by omega)) ?_)
    cases ha : bn 1 iri (aa u)
    · exact bad
    · simp only [Bool.not_true, Bool.or_true, Bool.true_and]
      exact fy
theorem pv (iri hu : Bool) (u h : ByteArray) (hp : Bool) (p : ByteArray) (s1 : u.size ≤ 1000000) (s2 : h.size ≤ 1000000) (s3 : p.size ≤ 1000000) :
    Ev (fun k => eK k iri hu u h hp p) (j9 iri hu (aa u) (aa h) hp (aa p)) := by
  have bad : Ev (fun k => cm k iri true hu u h hp p) false := by
    refine Ev.step (fun k => by rw [cm]) ?_
    exact ab rfl (az _)
  have fy : Ev (fun k => cm k iri false hu u h hp p) ((i9 iri (aa h) != 0) && (!hp || (aa p).all eb)) := by
    refine Ev.step (fun k => by rw [cm]) ?_
    refine ae (by simp) ?_
    refine Ev.ite (fun h1 => ah (vL p 2 (by omega)) ?_) (fun h1 => ?_)
    · have := oO (aa p) (fun b hb => fI hb)
      rw [af] at this
      rw [h1]
      refine Ev.ite (fun h2 => ah (qy iri h s2) (Ev.val ?_)) (fun h2 => Ev.val ?_)
      · rw [this.1 h2]; simp
      · have h3 : ¬ ((aa p).all eb = true) := fun x => h2 (this.2 x)
        rw [Bool.not_eq_true] at h3
        rw [h3]; simp
    · rw [Bool.not_eq_true] at h1
      rw [h1]
      exact ah (qy iri h s2) (Ev.val (by simp))
  unfold eK j9
  cases hu
  · refine ae (by simp) ?_
    simp only [Bool.not_false, Bool.true_or, Bool.true_and]
    exact fy
  · refine ab rfl (ah (jk 1 iri u (by omega)) ?_)
    cases ha : bn 1 iri (aa u)
    · have e : (((an 1 iri (aa u) : Nat) : Int) != (u.size : Int)) = true := by
        unfold bn at ha
        rw [beq_eq_false_iff_ne, af] at ha
        simp; omega
      rw [e]
      exact bad
    · have e : (((an 1 iri (aa u) : Nat) : Int) != (u.size : Int)) = false := by
        unfold bn at ha
        rw [beq_iff_eq, af] at ha
        simp; omega
      rw [e]
      simp only [Bool.not_true, Bool.or_true, Bool.true_and]
      exact fy
def gF (iri : Bool) (x : Bool × ByteArray × ByteArray × Bool × ByteArray) : Bool := j9 iri x.1 (aa x.2.1) (aa x.2.2.1) x.2.2.2.1 (aa x.2.2.2.2)
theorem pW (s : ByteArray) : (bL s).2.1.size ≤ s.size ∧ (bL s).2.2.1.size ≤ s.size ∧ (bL s).2.2.2.2.size ≤ s.size := uh s
theorem yb (iri : Bool) (s : ByteArray) (hs : s.size ≤ 1000000) : Ev (fun k => fR k iri s)
    (if gF iri (bL s) then ((bL s).1, (bL s).2.1, (bL s).2.2.1, (bL s).2.2.2.1, (bL s).2.2.2.2, true) else (false, (⟨#[]⟩ : ByteArray), (⟨#[]⟩ : ByteArray), false, (⟨#[]⟩ : ByteArray), false)) := by
  unfold fR
  have hz := pW s
  refine ah (yE s (by omega)) (ah (sX iri _ _ _ _ _ (by omega) (by omega) (by omega)) ?_)
  exact Ev.ite (fun h => Ev.val (if_pos h).symm) (fun h => Ev.val (if_neg h).symm)
theorem yc (s : ByteArray) : ((bL s).1, aa (bL s).2.1, aa (bL s).2.2.1, (bL s).2.2.2.1, aa (bL s).2.2.2.2) = qO (aa s) := by
  have ts : (aa s).take s.size = aa s := by rw [← af, List.take_length]
  have hr : (s.extract (bP 64 (aa s) + 1).toNat s.size).size = ((aa s).drop (bP 64 (aa s) + 1).toNat).length := by rw [← af, ba]
  unfold bL qO bW
  simp only [ay, ts, hr, List.drop_zero, List.take_length]
def cu (s : ByteArray) (i : Int) (k : Nat) : S67 := ⟨decide (0 ≤ i), s.extract 0 i.toNat, s.extract (i + 1).toNat k, decide (k < s.size), s.extract (k + 1) s.size⟩
def fy (iri : Bool) (s : ByteArray) (i : Int) (k : Nat) : Bool := j9 iri (cu s i k).f0 (aa (cu s i k).f1) (aa (cu s i k).f2) (cu s i k).f3 (aa (cu s i k).f4)
def pr (s : ByteArray) : S67 := ⟨(bL s).1, (bL s).2.1, (bL s).2.2.1, (bL s).2.2.2.1, (bL s).2.2.2.2⟩
def iS (s : ByteArray) : Int := bP 64 (aa s)
def kS (s : ByteArray) : Nat := (iS s + 1).toNat + (bs (aa (bW s))).toNat
theorem jA (s : ByteArray) : -1 ≤ iS s ∧ iS s < s.size := by
  have h1 := nh 64 (aa s)
  have h2 := tr 64 (aa s)
  rw [af] at h2
  exact ⟨h1, h2⟩
theorem oY (s : ByteArray) : iS s < kS s ∧ kS s ≤ s.size := by
  have h := jA s
  have hr := gT (aa (bW s))
  rw [af] at hr
  have hz : (bW s).size = s.size - (iS s + 1).toNat := eo s _
  unfold kS
  omega
theorem uT (s : ByteArray) : cu s (iS s) (kS s) = pr s := by
  have h := jA s
  have hr := gT (aa (bW s))
  rw [af] at hr
  have hz : (bW s).size = s.size - (iS s + 1).toNat := eo s _
  have e1 : s.extract (iS s + 1).toNat (kS s) = (bW s).extract 0 (bs (aa (bW s))).toNat := by
    apply iE
    rw [ay, ay]
    unfold bW
    rw [ba, List.drop_zero, List.drop_take]
    unfold kS iS bW
    rw [ba]
    congr 1; omega
  have e2 : decide (kS s < s.size) = decide (bs (aa (bW s)) < (bW s).size) := by
    rw [decide_eq_decide]; unfold kS; omega
  have e3 : s.extract (kS s + 1) s.size = (bW s).extract ((bs (aa (bW s))).toNat + 1) (bW s).size := by
    unfold bW
    rw [fz]
    unfold kS iS bW
    first | rfl | (congr 1; omega)
  unfold cu pr bL
  rw [e1, e2, e3]
  rfl
def vi (s : ByteArray) (i : Int) : Prop := i = -1 ∨ (0 ≤ i ∧ i < s.size ∧ bt s i = 64)
def vk (s : ByteArray) (k : Nat) : Prop := k = s.size ∨ (k < s.size ∧ bt s (k : Int) = 58)
theorem vl (s : ByteArray) (i : Int) (k : Nat) (hi : vi s i) (hik : i < k) (hk : k ≤ s.size) (hv : vk s k) :
    tT (cu s i k).f0 (aa (cu s i k).f1) (aa (cu s i k).f2) (cu s i k).f3 (aa (cu s i k).f4) = aa s := by
  have ts : (aa s).take s.size = aa s := by rw [← af, List.take_length]
  unfold tT cu
  simp only [ay, ts, List.drop_zero]
  have tail : (aa s).drop (i + 1).toNat = ((aa s).take k).drop (i + 1).toNat ++ (if decide (k < s.size) then 58 :: (aa s).drop (k + 1) else []) := by
    have h1 : (aa s).drop (i + 1).toNat = (((aa s).take k ++ (aa s).drop k)).drop (i + 1).toNat := by rw [List.take_append_drop]
    rw [h1, List.drop_append_of_le_length (by rw [List.length_take, af]; omega)]
    congr 1
    rcases hv with rfl | ⟨h2, h3⟩
    · rw [List.drop_of_length_le (by rw [af]; omega)]; simp
    · rcases br s k hk with ⟨h4, _⟩ | ⟨_, e, _⟩
      · omega
      · rw [e, h3, decide_eq_true h2, if_pos rfl]
  rw [← tail]
  rcases hi with rfl | ⟨h0, h1, h2⟩
  · simp
  · rw [decide_eq_true h0, if_pos rfl]
    have e1 : (i + 1).toNat = i.toNat + 1 := by omega
    rcases br s i.toNat (by omega) with ⟨h4, _⟩ | ⟨_, e, _⟩
    · omega
    · rw [Int.toNat_of_nonneg h0, h2] at e
      rw [e1, List.append_assoc, List.singleton_append, ← e, List.take_append_drop]
theorem vm (iri : Bool) (s : ByteArray) (i : Int) (k : Nat) (hi : vi s i) (hik : i < k) (hk : k ≤ s.size) (hv : vk s k) (hg : fy iri s i k = true) : i = iS s ∧ k = kS s := by
  have hiv : i < s.size := by rcases hi with rfl | h <;> omega
  have hr := ux (fun b hb => fI hb) (fun b hb => fI hb) (fun h => by
      unfold cu at h ⊢
      simp only [decide_eq_false_iff_not] at h ⊢
      have : i.toNat = 0 := by omega
      rw [this, kE]; rfl) (fun h => by
      unfold cu at h ⊢
      simp only [decide_eq_false_iff_not] at h ⊢
      rw [kD s _ (by omega)]; rfl) hg
  rw [vl s i k hi hik hk hv] at hr
  have hL := (yc s).trans hr
  simp only [Prod.mk.injEq] at hL
  obtain ⟨q1, q2, q3, q4, q5⟩ := hL
  have n2 := congrArg List.length q2
  have n3 := congrArg List.length q3
  unfold cu at q1 n2 n3
  unfold bL at q1 n2 n3
  simp only [decide_eq_decide] at q1
  rw [af, af, ByteArray.size_extract, ByteArray.size_extract] at n2 n3
  have hir := jA s
  have hz : (bW s).size = s.size - (iS s + 1).toNat := eo s _
  have hre := gT (aa (bW s))
  rw [af] at hre
  have hii : i = iS s := by
    unfold iS at hir ⊢
    rcases hi with rfl | h
    · omega
    · omega
  refine ⟨hii, ?_⟩
  subst hii
  unfold kS
  omega
def e8 (iri : Bool) (s : ByteArray) (i : Int) (k : Nat) : List S67 := if fy iri s (iS s) (kS s) = true ∧ (iS s < i ∨ (iS s = i ∧ kS s < k)) then [pr s] else []
theorem wI (iri : Bool) (s : ByteArray) (i : Int) (k : Nat) (hi : vi s i) (hik : i < k) (hk : k ≤ s.size) (hv : vk s k) : (if fy iri s i k = true then e8 iri s i k ++ [cu s i k] else e8 iri s i k) = e8 iri s i (k + 1) := by
  by_cases hg : fy iri s i k = true
  · obtain ⟨e1, e2⟩ := vm iri s i k hi hik hk hv hg
    subst e1; subst e2
    rw [if_pos hg]
    unfold e8
    rw [if_neg (by omega), if_pos ⟨hg, by omega⟩, uT]; rfl
  · rw [if_neg hg]
    unfold e8
    by_cases hG : fy iri s (iS s) (kS s) = true
    · have hne : ¬ (iS s = i ∧ kS s = k) := by
        rintro ⟨rfl, rfl⟩; exact hg hG
      by_cases hc : iS s < i ∨ (iS s = i ∧ kS s < k)
      · rw [if_pos ⟨hG, hc⟩, if_pos ⟨hG, by omega⟩]
      · rw [if_neg (fun x => hc x.2), if_neg (by omega)]
    · rw [if_neg (fun x => hG x.1), if_neg (fun x => hG x.1)]
theorem wJ (iri : Bool) (s : ByteArray) (i : Int) (k : Nat) (hne : ¬ (iS s = i ∧ kS s = k)) : e8 iri s i k = e8 iri s i (k + 1) := by
  unfold e8
  by_cases hG : fy iri s (iS s) (kS s) = true
  · by_cases hc : iS s < i ∨ (iS s = i ∧ kS s < k)
    · rw [if_pos ⟨hG, hc⟩, if_pos ⟨hG, by omega⟩]
    · rw [if_neg (fun x => hc x.2), if_neg (by omega)]
  · rw [if_neg (fun x => hG x.1), if_neg (fun x => hG x.1)]
theorem tu (iri : Bool) (s : ByteArray) (i : Int) (k j : Nat) (h : iS s = i → kS s < k) (hj : (j : Int) ≤ i + 2) : e8 iri s i k = e8 iri s (i + 1) j := by
  have hk := oY s
  unfold e8
  by_cases hG : fy iri s (iS s) (kS s) = true
  · by_cases hc : iS s ≤ i
    · rw [if_pos ⟨hG, by omega⟩, if_pos ⟨hG, by omega⟩]
    · rw [if_neg (by omega), if_neg (by omega)]
  · rw [if_neg (fun x => hG x.1), if_neg (fun x => hG x.1)]
theorem xZ (iri : Bool) (s : ByteArray) (i : Int) (k : Nat) : (e8 iri s i k).length ≤ 1 := by
  unfold e8
  split <;> simp
theorem ti {l : List Int} {n : Nat} {c : Int} (h : l = l.take n ++ c :: l.drop (n + 1)) (hn : n < l.length) : l.drop n = c :: l.drop (n + 1) := by
  have h2 := congrArg (List.drop n) h
  rw [List.drop_append_of_le_length (by rw [List.length_take]; omega), List.drop_of_length_le (l := l.take n) (by rw [List.length_take]; omega), List.nil_append] at h2
  exact h2
theorem zq (s : ByteArray) : vi s (iS s) := by
  by_cases h : 0 ≤ iS s
  · right
    refine ⟨h, (jA s).2, ?_⟩
    have hl := ud (c := 64) (l := aa s) h
    have hlt := (jA s).2
    rcases br s (iS s).toNat (by omega) with ⟨h4, _⟩ | ⟨_, e, _⟩
    · omega
    · rw [Int.toNat_of_nonneg h] at e
      have e3 := ti hl.1 (by unfold iS at hlt; rw [af]; omega)
      unfold iS at e ⊢
      rw [e] at e3
      injection e3
  · left
    have := (jA s).1
    omega
theorem zr (s : ByteArray) : vk s (kS s) := by
  have hk := oY s
  have hi := jA s
  by_cases h : kS s = s.size
  · exact .inl h
  right
  refine ⟨by omega, ?_⟩
  have hz : (bW s).size = s.size - (iS s + 1).toNat := eo s _
  have hre := gT (aa (bW s))
  rw [af] at hre
  have hlt : bs (aa (bW s)) < (aa (bW s)).length := by
    rw [af]
    unfold kS at h hk
    omega
  have key : ∀ l : List Int, bs l < l.length → ∃ t, l.drop (bs l).toNat = 58 :: t := by
    intro l hl
    unfold bs at hl ⊢
    by_cases h1 : l.take 1 = [91] ∧ 0 ≤ idx 93 l
    · rw [if_pos h1] at hl ⊢
      by_cases h2 : l.drop ((idx 93 l).toNat + 1) = [] ∨ (l.drop ((idx 93 l).toNat + 1)).getD 0 0 = 58
      · rw [if_pos h2] at hl ⊢
        have e : (idx 93 l + 1).toNat = (idx 93 l).toNat + 1 := by omega
        rw [e]
        rcases h2 with h2 | h2
        · rw [List.drop_eq_nil_iff] at h2; omega
        · cases hd : l.drop ((idx 93 l).toNat + 1) with
          | nil => rw [List.drop_eq_nil_iff] at hd; omega
          | cons b t =>
            rw [hd] at h2
            have : b = 58 := h2
            exact ⟨t, by rw [this]⟩
      · rw [if_neg h2] at hl; omega
    · rw [if_neg h1] at hl ⊢
      by_cases h2 : 0 ≤ idx 58 l
      · rw [if_pos h2] at hl ⊢
        have hs := qo h2
        refine ⟨l.drop ((idx 58 l).toNat + 1), ?_⟩
        exact ti hs.1 (by omega)
      · rw [if_neg h2] at hl; omega
  obtain ⟨t, ht⟩ := key _ hlt
  unfold bW at ht
  rw [ba, List.drop_drop] at ht
  have e : (bP 64 (aa s) + 1).toNat + (bs ((aa s).drop (bP 64 (aa s) + 1).toNat)).toNat = kS s := by
    unfold kS iS bW
    rw [ba]
  rw [e] at ht
  exact (tf ht).1
theorem tK (s : ByteArray) (i : Int) (k : Nat) : (cu s i k).f1.size ≤ s.size ∧ (cu s i k).f2.size ≤ s.size ∧ (cu s i k).f4.size ≤ s.size := by
  unfold cu
  simp only [ByteArray.size_extract]
  omega
theorem uP (iri : Bool) (s : ByteArray) (hs : s.size ≤ 1000000) (i : Int) (k : Nat) (hi : vi s i) (hik : i < k) (hk : k ≤ s.size) (hv : vk s k) (r : List S67)
    (nx : Ev (fun n => bj n iri s (e8 iri s i (k + 1)) i ((k : Int) + 1)) r) (p : ByteArray) (hp : decide (k < s.size) = false → p = (cu s i k).f4) :
    Ev (fun n => ej n iri s (e8 iri s i k) i (k : Int) (cu s i k).f0 (cu s i k).f1 (cu s i k).f2 false p) r := by
  have hz := tK s i k
  have hl := xZ iri s i k
  have hn := wI iri s i k hi hik hk hv
  refine Ev.step (fun n => by rw [ej]) ?_
  rw [w64 (x := (k : Int) + 1) (by omega) (by omega)]
  refine Ev.ite (fun h => ab (by omega) (ab (by omega) ?_)) (fun h => ?_)
  · have e1 : s.extract ((k : Int) + 1).toNat s.size = (cu s i k).f4 := by
      have : ((k : Int) + 1).toNat = k + 1 := by omega
      rw [this]; rfl
    have e2 : (cu s i k).f3 = true := by
      show decide (k < s.size) = true
      rw [decide_eq_true (by omega)]
    rw [e1]
    refine ah (pv iri _ _ _ _ _ (by omega) (by omega) (by omega)) ?_
    have hgood : j9 iri (cu s i k).f0 (aa (cu s i k).f1) (aa (cu s i k).f2) true (aa (cu s i k).f4) = fy iri s i k := by
      unfold fy; rw [e2]
    rw [hgood]
    refine Ev.ite (fun hg => ab (by omega) ?_) (fun hg => ?_)
    · rw [if_pos hg] at hn
      have e3 : (⟨(cu s i k).f0, (cu s i k).f1, (cu s i k).f2, true, (cu s i k).f4⟩ : S67) = cu s i k := by rw [← e2]
      rw [e3, hn]
      exact nx
    · rw [if_neg hg] at hn
      rw [hn]
      exact nx
  · have e2 : (cu s i k).f3 = false := by
      show decide (k < s.size) = false
      rw [decide_eq_false (by omega)]
    rw [hp (by rw [decide_eq_false (by omega)])]
    refine ah (pv iri _ _ _ _ _ (by omega) (by omega) (by omega)) ?_
    have hgood : j9 iri (cu s i k).f0 (aa (cu s i k).f1) (aa (cu s i k).f2) false (aa (cu s i k).f4) = fy iri s i k := by
      unfold fy; rw [e2]
    rw [hgood]
    refine Ev.ite (fun hg => ab (by omega) ?_) (fun hg => ?_)
    · rw [if_pos hg] at hn
      have e3 : (⟨(cu s i k).f0, (cu s i k).f1, (cu s i k).f2, false, (cu s i k).f4⟩ : S67) = cu s i k := by rw [← e2]
      rw [e3, hn]
      exact nx
    · rw [if_neg hg] at hn
      rw [hn]
      exact nx
theorem yx (iri : Bool) (s : ByteArray) (hs : s.size ≤ 1000000) (i : Int) (hi : vi s i) (r : List S67) (nx : Ev (fun n => bS n iri s (e8 iri s i (s.size + 1)) (i + 1)) r) : ∀ d k : Nat, k + d = s.size + 1 → i < k →
    Ev (fun n => bj n iri s (e8 iri s i k) i (k : Int)) r := by
  have hir : -1 ≤ i ∧ i < s.size := by rcases hi with rfl | h <;> omega
  intro d
  induction d with
  | zero =>
    intro k hk hik
    have : k = s.size + 1 := by omega
    subst this
    refine Ev.step (fun n => by rw [bj]) ?_
    rw [w64 (x := i + 1) (by omega) (by omega)]
    exact ae (by omega) nx
  | succ d ih =>
    intro k hk hik
    have go := ih (k + 1) (by omega) (by omega)
    have e1 : ((k + 1 : Nat) : Int) = (k : Int) + 1 := by omega
    rw [e1] at go
    have take_ : vk s k → Ev (fun n => du n iri s (e8 iri s i k) i (k : Int) false) r := by
      intro hv
      refine Ev.step (fun n => by rw [du]) ?_
      rw [w64 (x := i + 1) (by omega) (by omega)]
      refine ae (by simp) (ab (by omega) (ab (by omega) (ab (by omega) ?_)))
      have hp : decide (k < s.size) = false → (⟨#[]⟩ : ByteArray) = (cu s i k).f4 := by
        intro h
        have : ¬ k < s.size := by simpa using h
        show _ = s.extract (k + 1) s.size
        rw [kD s _ (by omega)]
      refine Ev.ite (fun h0 => ab (by omega) (ab (by omega) ?_)) (fun h0 => ?_)
      · have := uP iri s hs i k hi hik (by omega) hv r go _ hp
        have f0 : (cu s i k).f0 = true := by show decide (0 ≤ i) = true; rw [decide_eq_true h0]
        rw [f0] at this
        rw [Int.toNat_natCast]
        exact this
      · have := uP iri s hs i k hi hik (by omega) hv r go _ hp
        have f0 : (cu s i k).f0 = false := by show decide (0 ≤ i) = false; rw [decide_eq_false h0]
        have f1 : (cu s i k).f1 = (⟨#[]⟩ : ByteArray) := by
          show s.extract 0 i.toNat = _
          have : i.toNat = 0 := by omega
          rw [this, kE]
        rw [f0, f1] at this
        rw [Int.toNat_natCast]
        exact this
    refine Ev.step (fun n => by rw [bj]) ?_
    refine ab (by omega) (Ev.ite (fun h => ab (by omega) ?_) (fun h => take_ (.inl (by omega))))
    by_cases h58 : bt s (k : Int) = 58
    · have : (bt s (k : Int) != 58) = false := by simp [h58]
      rw [this]
      exact take_ (.inr ⟨by omega, h58⟩)
    · have : (bt s (k : Int) != 58) = true := by simpa using h58
      rw [this]
      refine Ev.step (fun n => by rw [du]) ?_
      refine ab rfl ?_
      rw [w64 (x := (k : Int) + 1) (by omega) (by omega), wJ iri s i k (by
        rintro ⟨_, e⟩
        rcases zr s with h2 | h2
        · omega
        · rw [e] at h2; exact h58 h2.2)]
      exact go
theorem yw (iri : Bool) (s : ByteArray) (hs : s.size ≤ 1000000) : ∀ d n : Nat, n + d = s.size + 1 → Ev (fun q => bS q iri s (e8 iri s ((n : Int) - 1) n) ((n : Int) - 1)) (e8 iri s s.size (s.size + 1)) := by
  intro d
  induction d with
  | zero =>
    intro n hn
    have : n = s.size + 1 := by omega
    subst this
    refine Ev.step (fun q => by rw [bS]) ?_
    refine ae (by omega) (Ev.val ?_)
    congr 1; omega
  | succ d ih =>
    intro n hn
    have go := ih (n + 1) (by omega)
    have e1 : ((n + 1 : Nat) : Int) - 1 = (n : Int) - 1 + 1 := by omega
    rw [e1] at go
    have row : vi s ((n : Int) - 1) → Ev (fun q => dt q iri s (e8 iri s ((n : Int) - 1) n) ((n : Int) - 1) false) (e8 iri s s.size (s.size + 1)) := by
      intro hv
      refine Ev.step (fun q => by rw [dt]) ?_
      refine ae (by simp) ?_
      have hw : wrap64 ((n : Int) - 1 + 1) = (n : Int) := by rw [w64 (by omega) (by omega)]; omega
      simp only [hw]
      refine yx iri s hs _ hv _ ?_ (s.size + 1 - n) n (by omega) (by omega)
      rw [tu iri s ((n : Int) - 1) (s.size + 1) (n + 1) (fun _ => by have := (oY s).2; omega) (by omega)]
      exact go
    refine Ev.step (fun q => by rw [bS]) ?_
    refine ab (by omega) (Ev.ite (fun h => ab (by omega) ?_) (fun h => row (.inl (by omega))))
    by_cases h64 : bt s ((n : Int) - 1) = 64
    · have : (bt s ((n : Int) - 1) != 64) = false := by simp [h64]
      rw [this]
      exact row (.inr ⟨by omega, by omega, h64⟩)
    · have : (bt s ((n : Int) - 1) != 64) = true := by simpa using h64
      rw [this]
      refine Ev.step (fun q => by rw [dt]) ?_
      refine ab rfl ?_
      rw [w64 (x := (n : Int) - 1 + 1) (by omega) (by omega), tu iri s ((n : Int) - 1) n (n + 1) (fun e => by
        rcases zq s with h2 | h2
        · omega
        · rw [e] at h2; exact absurd h2.2.2 h64) (by omega)]
      exact go
theorem wl (iri : Bool) (s : ByteArray) (hs : s.size ≤ 1000000) : Ev (fun k => gD k iri s) (if gF iri (bL s) then [pr s] else []) := by
  unfold gD
  have h := yw iri s hs (s.size + 1) 0 (by omega)
  have hi := jA s
  have e0 : e8 iri s (((0 : Nat) : Int) - 1) 0 = [] := by
    unfold e8
    rw [if_neg (by omega)]
  have e1 : e8 iri s s.size (s.size + 1) = if gF iri (bL s) then [pr s] else [] := by
    have hg : fy iri s (iS s) (kS s) = gF iri (bL s) := by
      unfold fy gF
      rw [uT]; rfl
    unfold e8
    rw [hg]
    by_cases hr : gF iri (bL s) = true
    · rw [if_pos ⟨hr, .inl hi.2⟩, if_pos hr]
    · rw [if_neg (fun x => hr x.1), if_neg hr]
  rw [e0, e1] at h
  exact h
end Go.Proofs.YtpmflpeckoeooaaGreatDoor.Y
namespace Go.Proofs.YtpmflpeckoeooaaGreatDoor.M
open Go Go.RowKit Go.Proofs.YtpmflpeckoeooaaGreatDoorW.PrintWords
theorem uY (n : Nat) (lo hi c : Int) (t r : List Int) (hlo : n ≠ 0 → 128 ≤ lo) (hc : c < 128) : aU n lo hi (t ++ c :: r) = aU n lo hi t := by
  induction n generalizing lo hi t with
  | zero => simp [aU]
  | succ n ih =>
    have hlo := hlo (by omega)
    cases t with
    | nil => simp only [List.nil_append, aU]; rw [if_neg (by omega)]
    | cons d t =>
      simp only [List.cons_append, aU]
      rw [ih 128 191 t (fun _ => by omega)]
theorem yH {b : Int} : (shp b).1.toNat - 1 ≠ 0 → 128 ≤ (shp b).2.1 := fun h => (g0 (by omega)).1
theorem xI (b c : Int) (t r : List Int) (hc : c < 128) : ((dec (b :: t)).2.2 = true ∧ dec (b :: t ++ c :: r) = dec (b :: t)) ∨ ((dec (b :: t)).2.2 = false ∧ (dec (b :: t ++ c :: r)).2.2 = false) := by
  rw [List.cons_append, dj, dj, uY _ _ _ c t r yH hc]
  by_cases h0 : (shp b).1 = 0
  · right; simp [h0]
  · rw [if_neg h0, if_neg h0]
    by_cases h1 : (aU ((shp b).1.toNat - 1) (shp b).2.1 (shp b).2.2 t : Int) + 1 < (shp b).1
    · right; simp [h1]
    · left
      rw [if_neg h1, if_neg h1]
      refine ⟨rfl, ?_⟩
      have hl := (kg ((shp b).1.toNat - 1) (shp b).2.1 (shp b).2.2 t).2
      rw [List.take_append_of_le_length (by omega)]
theorem wy (c : Int) (r : List Int) (hc : hv c < 0) : ∀ a : List Int, a ≠ [] → (gv (a ++ c :: r) = gv a ∨ (gv (a ++ c :: r) < 0 ∧ gv a < 0))
  | [], h => absurd rfl h
  | [b], _ => by
    right
    cases r with
    | nil => exact ⟨show (-1 : Int) < 0 by decide, show (-1 : Int) < 0 by decide⟩
    | cons d r =>
      simp only [List.cons_append, List.nil_append, gv]
      refine ⟨?_, show (-1 : Int) < 0 by decide⟩
      split
      · rw [if_pos (.inl hc)]; decide
      · decide
  | [b, d], _ => by
    right
    simp only [List.cons_append, List.nil_append, gv]
    refine ⟨?_, show (-1 : Int) < 0 by decide⟩
    split
    · rw [if_pos (.inr hc)]; decide
    · decide
  | b :: d :: e :: a, _ => .inl rfl
theorem xh (p : Int) (iri : Bool) (c : Int) (a r : List Int) (ha : a ≠ []) (hc : c < 128) (hx : hv c < 0) : aT p iri (a ++ c :: r) = aT p iri a := by
  unfold aT
  by_cases hp : dN p = true
  · simp only [if_pos hp]
    have he : (0 ≤ gv (a ++ c :: r)) = (0 ≤ gv a) := by
      rcases wy c r hx a ha with h | ⟨h1, h2⟩
      · rw [h]
      · exact propext ⟨fun h => by omega, fun h => by omega⟩
    simp only [he]
    by_cases h0 : 0 ≤ gv a
    · rw [if_pos h0, if_pos h0]
    · rw [if_neg h0, if_neg h0]
      cases a with
      | nil => exact absurd rfl ha
      | cons b t =>
        rcases xI b c t r hc with ⟨h1, h2⟩ | ⟨h1, h2⟩
        · rw [h2]
        · rw [h1, h2]; simp
  · simp only [if_neg hp]
theorem og {p : Int} {iri : Bool} {c : Int} {r : List Int} (h0 : 0 ≤ c) (hc : c < 128) (h37 : c ≠ 37) (hm : cn p c = false) : aT p iri (c :: r) = 0 := by
  unfold aT
  split
  · have he : gv (c :: r) = -1 := by
      match r with
      | [] => rfl
      | [_] => rfl
      | a :: b :: t => show (if c = 37 then _ else _) = _; rw [if_neg h37]
    rw [if_neg (by omega), kn r hc]
    have : gr p iri c = false := by unfold gr; rw [if_pos ⟨h0, hc⟩]; exact hm
    simp [this]
  · rfl
theorem rB (p : Int) (iri : Bool) (c : Int) (r : List Int) (h0 : 0 ≤ c) (hc : c < 128) (h37 : c ≠ 37) (hx : hv c < 0) (hm : cn p c = false) : ∀ (n : Nat) (a : List Int), a.length = n → an p iri (a ++ c :: r) = an p iri a := by
  intro n
  induction n using Nat.strongRecOn with
  | _ n ih =>
    intro a hn
    by_cases ha : a = []
    · subst ha
      rw [List.nil_append, hM, og h0 hc h37 hm, if_pos rfl, nN]
    · rw [hM p iri (a ++ c :: r), hM p iri a, xh p iri c a r ha hc hx]
      by_cases hs : aT p iri a = 0
      · rw [if_pos hs, if_pos hs]
      · rw [if_neg hs, if_neg hs]
        have hl := kv p iri a
        rw [List.drop_append_of_le_length hl, ih (a.drop (aT p iri a)).length (by rw [List.length_drop]; omega) _ rfl]
def lu (p q : Int) (iri : Bool) : Prop := dN q = true ∧ ∀ r, gr p iri r = true → gr q iri r = true
theorem oS {p q : Int} {iri : Bool} (h : lu p q iri) {l : List Int} (hs : aT p iri l ≠ 0) : aT q iri l = aT p iri l := by
  unfold aT at hs ⊢
  by_cases hp : dN p = true
  · rw [if_pos hp] at hs ⊢
    rw [if_pos h.1]
    by_cases he : 0 ≤ gv l
    · rw [if_pos he, if_pos he]
    · rw [if_neg he] at hs ⊢
      rw [if_neg he]
      by_cases hm : ((dec l).2.2 && gr p iri (dec l).1) = true
      · rw [if_pos hm]
        rw [Bool.and_eq_true] at hm
        rw [if_pos (by rw [Bool.and_eq_true]; exact ⟨hm.1, h.2 _ hm.2⟩)]
      · rw [if_neg hm] at hs; exact absurd rfl hs
  · rw [if_neg hp] at hs; exact absurd rfl hs
theorem ka {p q : Int} {iri : Bool} (h : lu p q iri) : ∀ (n : Nat) (l : List Int), l.length = n → an q iri l = an p iri l + an q iri (l.drop (an p iri l)) := by
  intro n
  induction n using Nat.strongRecOn with
  | _ n ih =>
    intro l hn
    by_cases hs : aT p iri l = 0
    · have : an p iri l = 0 := by rw [hM, if_pos hs]
      rw [this, Nat.zero_add, List.drop_zero]
    · have hq := oS h hs
      have hl := kv p iri l
      have e : an p iri l = aT p iri l + an p iri (l.drop (aT p iri l)) := by rw [hM p iri l, if_neg hs]
      have hz : l.length ≠ 0 := by
        intro hz
        rw [List.length_eq_zero_iff.1 hz, rE] at hs
        exact hs rfl
      rw [hM q iri l, if_neg (by rw [hq]; exact hs), hq, ih (l.drop (aT p iri l)).length (by rw [List.length_drop]; omega) _ rfl, e, List.drop_drop]
      omega
theorem ol {p q : Int} {iri : Bool} (hp : dN p = true) (hq : dN q = true) (hp6 : p ≠ 6) (h : ∀ b, kp p b = true → kp q b = true) : lu p q iri := by
  refine ⟨hq, fun r hr => ?_⟩
  unfold gr at hr ⊢
  by_cases h1 : 0 ≤ r ∧ r < 128
  · rw [if_pos h1] at hr ⊢
    unfold cn at hr ⊢
    rw [hp] at hr
    rw [hq]
    simp only [Bool.true_and, Bool.or_eq_true] at hr ⊢
    exact hr.imp_right (h r)
  · rw [if_neg h1] at hr ⊢
    rw [hp] at hr
    rw [hq]
    have : decide (p = 6) = false := by simpa using hp6
    rw [this] at hr
    simp only [Bool.and_true, Bool.false_and, Bool.or_false, Bool.and_eq_true] at hr
    simp [hr.1, hr.2]
theorem o7 (iri : Bool) : lu 4 5 iri := ol (by decide) (by decide) (by decide) (fun b h => by
  simp only [kp] at h ⊢
  simp at h ⊢
  exact .inl (.inr h))
theorem xn (iri : Bool) : lu 3 5 iri := ol (by decide) (by decide) (by decide) (fun b h => by
  simp only [kp] at h ⊢
  simp at h ⊢
  exact .inl h)
theorem xX {b : Int} (h0 : 0 ≤ b) (h1 : b ≤ 255) : ((shp b).1 = 2 → 2 ≤ cG 2 b) ∧ ((shp b).1 = 3 → 2 ≤ cG 3 b * 64 + ((shp b).2.1 - 128) ∧ 0 ≤ cG 3 b) ∧ ((shp b).1 = 4 → 2 ≤ cG 4 b * 64 + ((shp b).2.1 - 128) ∧ 0 ≤ cG 4 b) :=
  b6 (p := fun b => ((shp b).1 = 2 → 2 ≤ cG 2 b) ∧ ((shp b).1 = 3 → 2 ≤ cG 3 b * 64 + ((shp b).2.1 - 128) ∧ 0 ≤ cG 3 b) ∧ ((shp b).1 = 4 → 2 ≤ cG 4 b * 64 + ((shp b).2.1 - 128) ∧ 0 ≤ cG 4 b)) (by decide +kernel) h0 h1
theorem sK {n : Nat} {lo hi : Int} {t : List Int} (h : n + 1 ≤ aU (n + 1) lo hi t) : ∃ c u, t = c :: u ∧ lo ≤ c ∧ c ≤ hi ∧ n ≤ aU n 128 191 u := by
  cases t with
  | nil => simp [aU] at h
  | cons c u =>
    simp only [aU] at h
    split at h
    · exact ⟨c, u, rfl, by omega, by omega, by omega⟩
    · omega
theorem tL {b : Int} {t : List Int} (h0 : 0 ≤ b) (h1 : b ≤ 255) (ok : (dec (b :: t)).2.2 = true) (hr : (dec (b :: t)).1 < 128) : b < 128 ∧ (dec (b :: t)).1 = b ∧ (dec (b :: t)).2.1 = 1 := by
  by_cases hb : b < 128
  · rw [kn t hb]; exact ⟨hb, rfl, rfl⟩
  · exfalso
    have hs := jH b
    have hl := xX h0 h1
    rw [dj] at ok hr
    by_cases hz : (shp b).1 = 0
    · rw [if_pos hz] at ok; cases ok
    · rw [if_neg hz] at ok hr
      by_cases hcn : (aU ((shp b).1.toNat - 1) (shp b).2.1 (shp b).2.2 t : Int) + 1 < (shp b).1
      · rw [if_pos hcn] at ok; cases ok
      · rw [if_neg hcn] at hr
        simp only at hr
        have h1' : (shp b).1 ≠ 1 := by
          have := b6 (p := fun b => ¬ b < 128 → (shp b).1 ≠ 1) (by decide +kernel) h0 h1
          exact this hb
        have hbd := g0 (b := b) (by omega)
        obtain ⟨m, hm⟩ : ∃ m : Nat, (shp b).1.toNat - 1 = m + 1 := ⟨(shp b).1.toNat - 2, by omega⟩
        rw [hm] at hr hcn
        obtain ⟨c, u, rfl, hc1, hc2, hu⟩ := sK (n := m) (lo := (shp b).2.1) (hi := (shp b).2.2) (t := t) (by omega)
        rw [List.take_succ_cons] at hr
        have hmem : ∀ d ∈ u.take m, 128 ≤ d := fun d hd => by
          have hle := (kg m 128 191 u).1
          have := lc m 128 191 (by omega) (by omega) u d (by
            have : aU m 128 191 u = m := by omega
            rw [this]; exact hd)
          exact this.1
        have hacc : gn (cG (shp b).1 b) (c :: u.take m) = gn (cG (shp b).1 b * 64 + (c - 128)) (u.take m) := rfl
        rw [hacc] at hr
        have h234 : (shp b).1 = 2 ∨ (shp b).1 = 3 ∨ (shp b).1 = 4 := by omega
        rcases h234 with h | h | h
        · have := hl.1 h
          rw [h] at hr
          have hm0 : m = 0 := by omega
          subst hm0
          simp only [List.take_zero, gn] at hr
          omega
        · have := hl.2.1 h
          rw [h] at hr
          have hm0 : m = 1 := by omega
          subst hm0
          cases u with
          | nil => simp [aU] at hu
          | cons d u =>
            have hd := hmem d (by simp)
            simp only [List.take_succ_cons, List.take_zero, gn] at hr
            omega
        · have := hl.2.2 h
          rw [h] at hr
          have hm0 : m = 2 := by omega
          subst hm0
          match u, hu, hmem, hr with
          | [], hu, _, _ => simp [aU] at hu
          | [d], hu, _, _ => simp only [aU] at hu; split at hu <;> simp at hu
          | d :: e :: u, _, hmem, hr =>
            have hd := hmem d (by simp)
            have he := hmem e (by simp)
            simp only [List.take_succ_cons, List.take_zero, gn] at hr
            omega
theorem kK {iri : Bool} {l : List Int} (hl : ∀ b ∈ l, 0 ≤ b ∧ b ≤ 255) (h4 : aT 4 iri l = 0) (h5 : aT 5 iri l ≠ 0) : ∃ t, l = 58 :: t ∨ l = 47 :: t := by
  unfold aT at h4 h5
  rw [if_pos (by decide)] at h4 h5
  by_cases he : 0 ≤ gv l
  · rw [if_pos he] at h4; omega
  · rw [if_neg he] at h4 h5
    cases l with
    | nil => simp [dec] at h5
    | cons b t =>
      by_cases hm : ((dec (b :: t)).2.2 && gr 5 iri (dec (b :: t)).1) = true
      · have hm' := hm
        rw [Bool.and_eq_true] at hm
        have hn := kW hm.1
        have h4' : gr 4 iri (dec (b :: t)).1 = false := by
          cases h : gr 4 iri (dec (b :: t)).1 with
          | false => rfl
          | true => rw [if_pos (by rw [hm.1, h]; rfl)] at h4; omega
        have hb := hl b (by simp)
        unfold gr at h4' hm
        by_cases hr : 0 ≤ (dec (b :: t)).1 ∧ (dec (b :: t)).1 < 128
        · rw [if_pos hr] at h4' hm
          have hd := tL hb.1 hb.2 hm.1 hr.2
          rw [hd.2.1] at h4' hm
          unfold cn kp at h4' hm
          have p4 : dN 4 = true := by decide
          have p5 : dN 5 = true := by decide
          rw [p4] at h4'
          rw [p5] at hm
          simp at h4' hm
          have hm2 := hm.2
          rw [h4'.1] at hm2
          have h64 := h4'.2
          refine ⟨t, ?_⟩
          simp only [Bool.false_eq_true, false_or] at hm2
          rcases hm2 with (h | h) | h
          · left; rw [h]
          · exact absurd h h64
          · right; rw [h]
        · rw [if_neg hr] at h4' hm
          have p4 : dN 4 = true := by decide
          have p5 : dN 5 = true := by decide
          rw [p4] at h4'
          rw [p5] at hm
          simp at h4' hm
          have := h4' hm.2.1
          rw [hm.2.2] at this
          cases this
      · rw [if_neg hm] at h5; exact absurd rfl h5
def aC (set : List Int) (l : List Int) : Nat := bf (fun b => !set.contains b) l
theorem iL (set l : List Int) : aC set l ≤ l.length := o5 _ _
theorem uO (set : List Int) : aC set [] = 0 := rfl
theorem lM (set : List Int) (b : Int) (t : List Int) : aC set (b :: t) = if set.contains b then 0 else aC set t + 1 := by
  unfold aC
  show (if (!set.contains b) = true then _ else _) = _
  cases set.contains b <;> rfl
theorem tF (set l : List Int) : ∀ b ∈ l.take (aC set l), b ∉ set := fun b hb => by
  have := pA (p := fun b => !set.contains b) l b hb
  simpa using this
theorem qT {set l : List Int} (h : aC set l < l.length) : ∃ b t, l.drop (aC set l) = b :: t ∧ b ∈ set := by
  cases e : l.drop (aC set l) with
  | nil => have := congrArg List.length e; rw [List.length_drop] at this; simp at this; omega
  | cons b t =>
    have := uC (p := fun b => !set.contains b) e
    exact ⟨b, t, rfl, by simpa using this⟩
theorem tR (set l : List Int) : i8 (fun b => set.contains b) l = if aC set l = l.length then -1 else (aC set l : Int) := by
  induction l with
  | nil => rfl
  | cons b t ih =>
    have := iL set t
    rw [mF, lM, ih, List.length_cons]
    cases set.contains b
    · simp only [Bool.false_eq_true, if_false]
      split <;> split <;> (try split) <;> omega
    · simp
def hH (l : List Int) : Bool := jJ (l.headD 0) && l.all fun b => nv b || [43, 45, 46].contains b
theorem mX : hH [] = false := by decide
def jG (iri : Bool) (l : List Int) : Bool := (l == [] || l.headD 0 == 47) && bn 5 iri l
def jM (iri ns ha : Bool) (l : List Int) : Bool :=
  bn 5 iri l && (if ha then l == [] || l.headD 0 == 47 else !(l.take 2 == [47, 47]) && (!ns || !(l.getD (an 4 iri l) 0 == 58)))
def ui (iri ns ha : Bool) (l : List Int) : Bool :=
  if ha then jG iri l else if l = [] ∨ l = [47] then true else
    if l.headD 0 = 47 then decide (0 < an 3 iri (l.drop 1)) && jG iri ((l.drop 1).drop (an 3 iri (l.drop 1)))
    else decide (0 < an (if ns then 4 else 3) iri l) && jG iri (l.drop (an (if ns then 4 else 3) iri l))
theorem pc {p q : Int} {iri : Bool} (h : lu p q iri) (l : List Int) : bn q iri l = bn q iri (l.drop (an p iri l)) := by
  unfold bn
  rw [ka h l.length l rfl, List.length_drop]
  have := hO p iri l
  have := hO q iri (l.drop (an p iri l))
  rw [List.length_drop] at this
  rw [Bool.eq_iff_iff, beq_iff_eq, beq_iff_eq]
  omega
theorem iJ (p : Int) (iri : Bool) (l : List Int) : an p iri l = 0 ↔ aT p iri l = 0 := by
  rw [hM]
  constructor
  · intro h
    by_cases hs : aT p iri l = 0
    · exact hs
    · rw [if_neg hs] at h; omega
  · intro h; rw [if_pos h]
theorem lN {p : Int} {iri : Bool} {l : List Int} (h : bn p iri l = true) (hl : l ≠ []) : aT p iri l ≠ 0 := by
  unfold bn at h
  rw [beq_iff_eq] at h
  intro hs
  have := (iJ p iri l).2 hs
  have hz : l.length ≠ 0 := fun hz => hl (List.length_eq_zero_iff.1 hz)
  omega
theorem tP (t : List Int) : gv (47 :: t) < 0 := by
  match t with
  | [] => exact show (-1 : Int) < 0 by decide
  | [_] => exact show (-1 : Int) < 0 by decide
  | a :: b :: u => show (if (47 : Int) = 37 then (if hv a < 0 ∨ hv b < 0 then -1 else 16 * hv a + hv b) else (-1 : Int)) < 0; rw [if_neg (by decide)]; decide
theorem s8 (iri : Bool) (t : List Int) : aT 5 iri (47 :: t) = 1 := by
  have := tP t
  unfold aT
  rw [if_pos (by decide), if_neg (by omega), kn t (by decide)]
  have : gr 5 iri 47 = true := by cases iri <;> decide
  simp [this]
theorem sY (iri : Bool) (t : List Int) : aT 3 iri (47 :: t) = 0 := og (by decide) (by decide) (by decide) (by decide)
theorem sZ (iri : Bool) (t : List Int) : aT 4 iri (47 :: t) = 0 := og (by decide) (by decide) (by decide) (by decide)
theorem oD (iri : Bool) (t : List Int) : bn 5 iri (47 :: t) = bn 5 iri t := by
  unfold bn
  rw [hM, s8, if_neg (by decide), List.length_cons, Bool.eq_iff_iff, beq_iff_eq, beq_iff_eq]
  simp only [List.drop_succ_cons, List.drop_zero]
  omega
theorem ly {iri : Bool} {l : List Int} (hl : ∀ b ∈ l, 0 ≤ b ∧ b ≤ 255) (h3 : aT 3 iri l = 0) (h5 : aT 5 iri l ≠ 0) : ∃ t, l = 47 :: t := by
  have h4 : aT 4 iri l = 0 := by
    by_cases h : aT 4 iri l = 0
    · exact h
    · have w : lu 4 3 iri := ol (by decide) (by decide) (by decide) (fun b h => by simp only [kp] at h ⊢; simp at h ⊢; exact .inr h)
      have := oS w h
      rw [h3] at this
      exact this.symm
  obtain ⟨t, rfl | rfl⟩ := kK hl h4 h5
  · exfalso
    have he : gv (58 :: t) < 0 := by
      match t with
      | [] => exact show (-1 : Int) < 0 by decide
      | [_] => exact show (-1 : Int) < 0 by decide
      | a :: b :: u => show (if (58 : Int) = 37 then (if hv a < 0 ∨ hv b < 0 then -1 else 16 * hv a + hv b) else (-1 : Int)) < 0; rw [if_neg (by decide)]; decide
    unfold aT at h3
    rw [if_pos (by decide), if_neg (by omega), kn t (by decide)] at h3
    have : gr 3 iri 58 = true := by cases iri <;> decide
    simp [this] at h3
  · exact ⟨t, rfl⟩
theorem tO {l : List Int} (hl : ∀ b ∈ l, 0 ≤ b ∧ b ≤ 255) (n : Nat) : ∀ b ∈ l.drop n, 0 ≤ b ∧ b ≤ 255 := fun b hb => hl b (List.mem_of_mem_drop hb)
theorem qA {p : Int} {iri : Bool} {l : List Int} (hp : dN p = true) (h : lu p 5 iri) (hbt : ∀ m : List Int, (∀ b ∈ m, 0 ≤ b ∧ b ≤ 255) → aT p iri m = 0 → aT 5 iri m ≠ 0 → m.headD 0 = 47 ∨ (p = 4 ∧ m.headD 0 = 58)) (hl : ∀ b ∈ l, 0 ≤ b ∧ b ≤ 255) :
    jG iri (l.drop (an p iri l)) = (bn 5 iri l && !(decide (p = 4) && l.getD (an p iri l) 0 == 58)) := by
  unfold jG
  rw [← pc h l]
  cases ha : bn 5 iri l
  · simp
  · rw [pc h l] at ha
    simp only [Bool.and_true, Bool.true_and]
    have e : l.getD (an p iri l) 0 = (l.drop (an p iri l)).headD 0 := by
      rw [List.getD_eq_getElem?_getD, List.headD_eq_head?_getD, List.head?_drop]
    rw [e]
    have hm := tO hl (an p iri l)
    have hz : aT p iri (l.drop (an p iri l)) = 0 := by
      have h1 := ka (p := p) (q := p) (iri := iri) ⟨hp, fun _ hr => hr⟩ l.length l rfl
      have h2 : an p iri (l.drop (an p iri l)) = 0 := by omega
      exact (iJ p iri _).1 h2
    generalize l.drop (an p iri l) = m at ha hm hz
    by_cases hn : m = []
    · subst hn; simp
    · have h5 := lN ha hn
      rcases hbt m hm hz h5 with hh | ⟨rfl, hh⟩
      · rw [hh]; simp
      · rw [hh]
        have : (m == []) = false := by simpa using hn
        rw [this]; simp
theorem tU {l : List Int} (hl : ∀ b ∈ l, 0 ≤ b ∧ b ≤ 255) : l = [] ∨ ∃ b t, l = b :: t ∧ 0 ≤ b ∧ b ≤ 255 := by
  cases l with
  | nil => exact .inl rfl
  | cons b t => exact .inr ⟨b, t, rfl, hl b (by simp)⟩
theorem wZ {iri : Bool} {l : List Int} (hl : ∀ b ∈ l, 0 ≤ b ∧ b ≤ 255) : jG iri (l.drop (an 3 iri l)) = bn 5 iri l := by
  rw [qA (by decide) (xn iri) (fun m hm h3 h5 => .inl (by obtain ⟨t, rfl⟩ := ly hm h3 h5; rfl)) hl]
  have : decide ((3 : Int) = 4) = false := by decide
  rw [this]; simp
theorem zl {iri : Bool} {l : List Int} (hl : ∀ b ∈ l, 0 ≤ b ∧ b ≤ 255) : jG iri (l.drop (an 4 iri l)) = (bn 5 iri l && !(l.getD (an 4 iri l) 0 == 58)) := by
  rw [qA (by decide) (o7 iri) (fun m hm h4 h5 => by
    obtain ⟨t, rfl | rfl⟩ := kK hm h4 h5
    · exact .inr ⟨rfl, rfl⟩
    · exact .inl rfl) hl]
  have : decide ((4 : Int) = 4) = true := by decide
  rw [this]; simp
theorem vE (iri ns ha : Bool) {l : List Int} (hl : ∀ b ∈ l, 0 ≤ b ∧ b ≤ 255) : ui iri ns ha l = jM iri ns ha l := by
  unfold ui jM
  cases ha
  · simp only [Bool.false_eq_true, if_false]
    rcases tU hl with rfl | ⟨b, t, rfl, hb⟩
    · rw [if_pos (.inl rfl), la]
      cases ns <;> simp [nN]
    · by_cases h47 : b = 47
      · subst h47
        have n4 : an 4 iri (47 :: t) = 0 := (iJ 4 iri _).2 (sZ iri t)
        rw [n4, oD]
        cases t with
        | nil => simp [la]
        | cons c u =>
          rw [if_neg (by simp), if_pos (show (47 :: c :: u).headD 0 = 47 from rfl)]
          simp only [List.drop_succ_cons, List.drop_zero]
          rw [wZ (fun x hx => hl x (by simp [hx]))]
          by_cases hc : c = 47
          · subst hc
            have : an 3 iri (47 :: u) = 0 := (iJ 3 iri _).2 (sY iri u)
            rw [this]; simp
          · have ht : ((47 :: c :: u).take 2 == [47, 47]) = false := by
              rw [beq_eq_false_iff_ne]; simp [hc]
            rw [ht]
            simp only [List.getD_cons_zero]
            cases h5 : bn 5 iri (c :: u)
            · simp
            · have hs : an 3 iri (c :: u) ≠ 0 := by
                intro hz
                obtain ⟨t', e⟩ := ly (l := c :: u) (fun x hx => hl x (by simp [hx])) ((iJ 3 iri _).1 hz) (lN h5 (by simp))
                injection e with e1 e2
                exact hc e1
              have : decide (0 < an 3 iri (c :: u)) = true := decide_eq_true (by omega)
              rw [this]; simp
      · have h1 : ¬ (b :: t = [] ∨ b :: t = [47]) := by simp [h47]
        have h2 : ¬ (b :: t).headD 0 = 47 := h47
        have ht : ((b :: t).take 2 == [47, 47]) = false := by
          rw [beq_eq_false_iff_ne]; cases t <;> simp [h47]
        rw [if_neg h1, if_neg h2, ht]
        cases ns
        · simp only [Bool.false_eq_true, if_false, Bool.not_false, Bool.true_or, Bool.and_true]
          rw [wZ hl]
          cases h5 : bn 5 iri (b :: t)
          · simp
          · have hs : an 3 iri (b :: t) ≠ 0 := by
              intro hz
              obtain ⟨t', e⟩ := ly hl ((iJ 3 iri _).1 hz) (lN h5 (by simp))
              injection e with e1 e2
              exact h47 e1
            have : decide (0 < an 3 iri (b :: t)) = true := decide_eq_true (by omega)
            rw [this]; simp
        · simp only [if_true, Bool.not_true, Bool.not_false, Bool.true_and, Bool.false_or]
          rw [zl hl]
          cases h5 : bn 5 iri (b :: t)
          · simp
          · by_cases hs : an 4 iri (b :: t) = 0
            · obtain ⟨t', e⟩ := kK hl ((iJ 4 iri _).1 hs) (lN h5 (by simp))
              rw [hs]
              rcases e with e | e
              · injection e with e1 e2
                subst e1; simp
              · injection e with e1 e2
                exact absurd e1 h47
            · have : decide (0 < an 4 iri (b :: t)) = true := decide_eq_true (by omega)
              rw [this]; simp
  · simp only [if_true]
    unfold jG
    rw [Bool.and_comm]
end Go.Proofs.YtpmflpeckoeooaaGreatDoor.M
namespace Go.Proofs.YtpmflpeckoeooaaGreatDoor.Y
open Go.RowKit Go.Proofs.YtpmflpeckoeooaaGreatDoor.X Go.Proofs.YtpmflpeckoeooaaGreatDoor.M Go.Proofs.YtpmflpeckoeooaaGreatDoorW.PrintWords Go.Proofs.YtpmflpeckoeooaaGreatDoorW.PrintLast Go.Proofs.YtpmflpeckoeooaaGreatDoorW.PrintMore
theorem fJ {s : ByteArray} {n : Nat} (h : n < s.size) : (aa s).drop n = bt s (n : Int) :: (aa s).drop (n + 1) := by
  rcases br s n (by omega) with ⟨h1, _⟩ | ⟨_, h1, _⟩
  · omega
  · exact h1
theorem sR (s t : ByteArray) (hs : s.size ≤ 140737488351232) (ht : t.size ≤ 140737488351232) : ∀ d n : Nat, n + d = s.size → Ev (fun k => cP k s t (n : Int)) ((n : Int) + aC (aa t) ((aa s).drop n)) := by
  intro d
  induction d with
  | zero =>
    intro n hn
    refine Ev.step (fun k => by rw [cP]) (ae (by omega) (Ev.val ?_))
    rw [List.drop_of_length_le (by rw [af]; omega), uO]; omega
  | succ d ih =>
    intro n hn
    refine Ev.step (fun k => by rw [cP]) (ab (by omega) (ab (by omega) (ah (wF _ t ht) ?_)))
    rw [fJ (by omega), lM, w64 (by omega) (by omega)]
    cases hc : (aa t).contains (bt s (n : Int))
    · refine ae (by simp) ?_
      have := ih (n + 1) (by omega)
      simp only [Bool.false_eq_true, if_false]
      have e1 : ((n + 1 : Nat) : Int) = (n : Int) + 1 := by omega
      rw [e1] at this
      have e2 : (n : Int) + ((aC (aa t) ((aa s).drop (n + 1)) + 1 : Nat) : Int) = (n : Int) + 1 + (aC (aa t) ((aa s).drop (n + 1)) : Int) := by omega
      rw [e2]
      exact this
    · exact ab rfl (Ev.val (by simp))
theorem lR (s t : ByteArray) (n : Nat) (hn : n ≤ s.size) (hs : s.size ≤ 140737488351232) (ht : t.size ≤ 140737488351232) : Ev (fun k => dV k s (n : Int) t) ((n : Int) + aC (aa t) ((aa s).drop n)) :=
  sR s t hs ht (s.size - n) n (by omega)
theorem tk (s t : ByteArray) (n : Nat) (hn : n ≤ s.size) (hs : s.size ≤ 140737488351232) (ht : t.size ≤ 140737488351232) :
    Ev (fun k => dg k s (n : Int) t) (if aC (aa t) ((aa s).drop n) = s.size - n then -1 else (n : Int) + aC (aa t) ((aa s).drop n)) := by
  have h := u2 s t n hn hs ht
  simp only at h
  rw [tR, List.length_drop, af] at h
  by_cases he : aC (aa t) ((aa s).drop n) = s.size - n
  · rw [if_pos he] at h ⊢
    simpa using h
  · rw [if_neg he] at h ⊢
    rw [if_neg (by omega)] at h
    exact h
def lx (b : Int) : Bool := nv b || [43, 45, 46].contains b
theorem rk {s : ByteArray} {n : Nat} (h : n < s.size) : aa (s.extract n (n + 1)) = [bt s (n : Int)] := by
  rw [ay, List.drop_take, fJ h, show n + 1 - n = 1 by omega]
  rfl
theorem yI {s : ByteArray} {n : Nat} (h : n < s.size) : ∃ z, Ev (fun k => dg k (⟨#[43, 45, 46]⟩ : ByteArray) 0 (s.extract n (n + 1))) z ∧ (z < 0 ↔ [43, 45, 46].contains (bt s (n : Int)) = false) := by
  have hsz : (s.extract n (n + 1)).size = 1 := by rw [← af, rk h]; rfl
  refine ⟨_, u2 (⟨#[43, 45, 46]⟩ : ByteArray) (s.extract n (n + 1)) 0 (by decide) (by decide) (by rw [hsz]; decide), ?_⟩
  rw [rk h]
  have e : (aa (⟨#[43, 45, 46]⟩ : ByteArray)).drop 0 = [43, 45, 46] := by decide +kernel
  rw [e]
  generalize bt s (n : Int) = c
  simp only [i8, List.contains_cons, List.contains_nil, Bool.or_false]
  by_cases h1 : (43 : Int) == c
  · simp only [h1, if_true]
    have : (c == (43 : Int)) = true := by rw [beq_iff_eq] at h1 ⊢; exact h1.symm
    rw [this]; simp
  · have h1' : ((43 : Int) == c) = false := by simpa using h1
    have h1'' : (c == (43 : Int)) = false := by rw [beq_eq_false_iff_ne] at h1' ⊢; exact fun h => h1' h.symm
    by_cases h2 : (45 : Int) == c
    · simp only [h1', h2, if_true]
      have : (c == (45 : Int)) = true := by rw [beq_iff_eq] at h2 ⊢; exact h2.symm
      rw [this]; simp
    · have h2' : ((45 : Int) == c) = false := by simpa using h2
      have h2'' : (c == (45 : Int)) = false := by rw [beq_eq_false_iff_ne] at h2' ⊢; exact fun h => h2' h.symm
      by_cases h3 : (46 : Int) == c
      · simp only [h1', h2', h3, if_true]
        have : (c == (46 : Int)) = true := by rw [beq_iff_eq] at h3 ⊢; exact h3.symm
        rw [this]; simp
      · have h3' : ((46 : Int) == c) = false := by simpa using h3
        have h3'' : (c == (46 : Int)) = false := by rw [beq_eq_false_iff_ne] at h3' ⊢; exact fun h => h3' h.symm
        simp only [h1', h2', h3', h1'', h2'', h3'']
        simp
theorem vS (s : ByteArray) (hs : s.size ≤ 140737488351232) : ∀ d n : Nat, n + d = s.size → Ev (fun k => ce k s (s.size : Int) (n : Int)) (((aa s).drop n).all lx) := by
  intro d
  induction d with
  | zero =>
    intro n hn
    refine Ev.step (fun k => by rw [ce]) (ae (by omega) (Ev.val ?_))
    rw [List.drop_of_length_le (by rw [af]; omega)]; rfl
  | succ d ih =>
    intro n hn
    have hr := jx s (n : Int)
    refine Ev.step (fun k => by rw [ce]) (ab (by omega) (ab (by omega) (ab (by omega) (ah (t6 3 hr.1 hr.2) ?_))))
    rw [n9 hr.1 hr.2, fJ (by omega), List.all_cons, w64 (by omega) (by omega)]
    have nx := ih (n + 1) (by omega)
    have e1 : ((n + 1 : Nat) : Int) = (n : Int) + 1 := by omega
    rw [e1] at nx
    cases ha : nv (bt s (n : Int))
    · refine ae (by simp) (ab (by omega) (ab (by omega) ?_))
      have e2 : ((n : Int) + 1).toNat = n + 1 := by omega
      rw [e2, Int.toNat_natCast]
      obtain ⟨z, hz, hz2⟩ := yI (s := s) (n := n) (by omega)
      refine ah hz (Ev.ite (fun h => ?_) (fun h => ?_))
      · refine Ev.val ?_
        unfold lx; rw [ha, hz2.1 h]; rfl
      · have hc : [43, 45, 46].contains (bt s (n : Int)) = true := by
          cases h' : [43, 45, 46].contains (bt s (n : Int)) with
          | true => rfl
          | false => exact absurd (hz2.2 h') h
        have : lx (bt s (n : Int)) = true := by unfold lx; rw [hc]; simp
        rw [this, Bool.true_and]
        exact nx
    · refine ab rfl ?_
      have : lx (bt s (n : Int)) = true := by unfold lx; rw [ha]; rfl
      rw [this, Bool.true_and]
      exact nx
theorem nD {s : ByteArray} (h : 0 < s.size) : (aa s).headD 0 = bt s 0 := by
  have := fJ (s := s) (n := 0) h
  rw [List.drop_zero] at this
  rw [this]; rfl
theorem dx (s : ByteArray) : s.toList = ([] : List UInt8) ↔ aa s = [] := by
  rw [toList_data]
  unfold aa
  simp
theorem wY (s : ByteArray) (hs : s.size ≤ 140737488351232) : Ev (fun k => fB k s) (hH (aa s)) := by
  unfold fB
  refine Ev.ite (fun h => ?_) (fun h => ?_)
  · rw [(dx s).1 h, mX]
    exact Ev.step (fun k => by rw [cZ]) (ab rfl (az _))
  · have hp : 0 < s.size := by
      rcases Nat.eq_zero_or_pos s.size with hz | hz
      · exact absurd ((dx s).2 (List.length_eq_zero_iff.1 (by rw [af]; exact hz))) h
      · exact hz
    have hr := jx s 0
    refine ab (by omega) (ah (t6 1 hr.1 hr.2) (Ev.step (fun k => by rw [cZ]) ?_))
    rw [vv hr.1 hr.2]
    unfold hH
    rw [nD hp]
    cases ha : jJ (bt s 0)
    · exact ab rfl (Ev.val rfl)
    · refine ae (by simp) ?_
      have := vS s hs s.size 0 (by omega)
      rw [List.drop_zero] at this
      rw [Bool.true_and]
      exact this
theorem vB {b : Int} (h0 : 0 ≤ b) (h1 : b ≤ 255) : (Int.tmod (cls b) 2 == 0) = !jJ b :=
  b6 (p := fun b => (Int.tmod (cls b) 2 == 0) = !jJ b) (by decide +kernel) h0 h1
theorem rx (s : ByteArray) (hs : s.size ≤ 140737488351232) : ∀ d n : Nat, n + d = s.size → Ev (fun k => bY k s (n : Int)) (decide (0 < s.size) && (!(decide (n = 0 ∧ 0 < s.size)) || jJ (bt s 0)) && ((aa s).drop n).all lx) := by
  intro d
  induction d with
  | zero =>
    intro n hn
    refine Ev.step (fun k => by rw [bY]) (ae (by omega) (Ev.val ?_))
    rw [List.drop_of_length_le (by rw [af]; omega)]
    rw [Bool.eq_iff_iff]
    simp
    omega
  | succ d ih =>
    intro n hn
    have hr := jx s (n : Int)
    refine Ev.step (fun k => by rw [bY]) (ab (by omega) (ab (by omega) (ah (nH hr.1 hr.2) ?_)))
    have nx := ih (n + 1) (by omega)
    have e1 : ((n + 1 : Nat) : Int) = (n : Int) + 1 := by omega
    have e3 : decide (n + 1 = 0 ∧ 0 < s.size) = false := by simp
    rw [e1, e3] at nx
    simp only [Bool.not_false, Bool.true_or, Bool.and_true] at nx
    have hsz : decide (0 < s.size) = true := decide_eq_true (by omega)
    rw [hsz, Bool.true_and] at nx
    rw [hsz, Bool.true_and, fJ (by omega), List.all_cons]
    have hj : ∀ x : Bool, Ev (fun k => dk k s (n : Int) (cls (bt s (n : Int))) x) (!x && (lx (bt s (n : Int)) && ((aa s).drop (n + 1)).all lx)) := by
      intro x
      refine Ev.step (fun k => by rw [dk]) ?_
      cases x
      · refine ae (by simp) ?_
        rw [w64 (by omega) (by omega), Bool.not_false, Bool.true_and]
        refine Ev.ite (fun h => ?_) (fun h => ?_)
        · have ha : nv (bt s (n : Int)) = false := by rw [← n9 hr.1 hr.2]; exact kY.1 h
          refine ab (by omega) (ab (by omega) (ah (wF _ (⟨#[43, 45, 46]⟩ : ByteArray) (by decide)) ?_))
          have e : aa (⟨#[43, 45, 46]⟩ : ByteArray) = [43, 45, 46] := by decide +kernel
          rw [e]
          unfold lx
          rw [ha]
          cases hc : [43, 45, 46].contains (bt s (n : Int))
          · exact ae (by simp) (Ev.val rfl)
          · exact ab rfl nx
        · have ha : nv (bt s (n : Int)) = true := by
            rw [← n9 hr.1 hr.2]
            cases h' : isc (bt s (n : Int)) 3 with
            | true => rfl
            | false => exact absurd (kY.2 h') h
          unfold lx
          rw [ha]
          exact nx
      · exact ab rfl (Ev.val rfl)
    refine Ev.ite (fun h => ?_) (fun h => ?_)
    · have h0 : n = 0 := by omega
      subst h0
      rw [vB hr.1 hr.2]
      have := hj (!jJ (bt s ((0 : Nat) : Int)))
      rw [Bool.not_not] at this
      have e4 : decide (0 = 0 ∧ 0 < s.size) = true := decide_eq_true ⟨rfl, by omega⟩
      rw [e4]
      exact this
    · have e4 : decide (n = 0 ∧ 0 < s.size) = false := decide_eq_false (by omega)
      rw [e4]
      exact hj false
theorem sU (s : ByteArray) (hs : s.size ≤ 140737488351232) : Ev (fun k => gN k s) (hH (aa s)) := by
  have h := rx s hs s.size 0 (by omega)
  have e : (decide (0 < s.size) && (!(decide (0 = 0 ∧ 0 < s.size)) || jJ (bt s 0)) && ((aa s).drop 0).all lx) = hH (aa s) := by
    rw [List.drop_zero]
    rcases Nat.eq_zero_or_pos s.size with hz | hz
    · have : aa s = [] := List.length_eq_zero_iff.1 (by rw [af]; exact hz)
      rw [this, mX]
      have : decide (0 < s.size) = false := decide_eq_false (by omega)
      rw [this]; rfl
    · have h1 : decide (0 < s.size) = true := decide_eq_true hz
      have h2 : decide (0 = 0 ∧ 0 < s.size) = true := decide_eq_true ⟨rfl, hz⟩
      rw [h1, h2]
      unfold hH
      rw [nD hz]
      rfl
  rw [e] at h
  exact h
theorem uq (iri : Bool) (s : ByteArray) (hs : s.size ≤ 140737488351232) : ∀ d n : Nat, n + d = s.size → Ev (fun k => cI k iri s (n : Int)) (jG iri ((aa s).drop n)) := by
  intro d
  induction d using Nat.strongRecOn with
  | _ d ih =>
    intro n hn
    refine Ev.step (fun k => by rw [cI]) ?_
    refine Ev.ite (fun h => ?_) (fun h => ?_)
    · have hd := fJ (s := s) (n := n) (by omega)
      refine ab (by omega) (Ev.ite (fun hb => ?_) (fun hb => ?_))
      · rw [w64 (by omega) (by omega)]
        refine ab (by omega) (ab (by omega) ?_)
        have e2 : ((n : Int) + 1).toNat = n + 1 := by omega
        rw [e2]
        have hsp := jk 3 iri (s.extract (n + 1) s.size) (by rw [← af, ba, List.length_drop, af]; omega)
        rw [ba] at hsp
        refine ah hsp ?_
        have hle := hO 3 iri ((aa s).drop (n + 1))
        rw [List.length_drop, af] at hle
        rw [w64 (by omega) (by omega)]
        have nx := ih (s.size - (n + 1 + an 3 iri ((aa s).drop (n + 1)))) (by omega) (n + 1 + an 3 iri ((aa s).drop (n + 1))) (by omega)
        have e3 : ((n + 1 + an 3 iri ((aa s).drop (n + 1)) : Nat) : Int) = (n : Int) + 1 + (an 3 iri ((aa s).drop (n + 1)) : Int) := by omega
        have hdd : (aa s).drop (n + 1 + an 3 iri ((aa s).drop (n + 1))) = ((aa s).drop (n + 1)).drop (an 3 iri ((aa s).drop (n + 1))) := by rw [List.drop_drop]
        rw [e3, hdd, wZ (fun b hb => lb s b (List.mem_of_mem_drop hb))] at nx
        have e4 : jG iri ((aa s).drop n) = bn 5 iri ((aa s).drop (n + 1)) := by
          rw [hd, hb]
          unfold jG
          rw [oD]
          simp
        rw [e4]
        exact nx
      · refine Ev.val ?_
        rw [hd]
        unfold jG
        have h1 : ((bt s (n : Int) :: (aa s).drop (n + 1)) == []) = false := by rw [beq_eq_false_iff_ne]; simp
        have h2 : ((bt s (n : Int) :: (aa s).drop (n + 1)).headD 0 == 47) = false := by rw [beq_eq_false_iff_ne]; exact hb
        rw [h1, h2]; rfl
    · rw [List.drop_of_length_le (by rw [af]; omega)]
      refine Ev.val ?_
      unfold jG
      rw [la]; rfl
theorem qz (iri : Bool) (s : ByteArray) (hs : s.size ≤ 140737488351232) : Ev (fun k => eT k iri s) (jG iri (aa s)) := by
  have := uq iri s hs s.size 0 (by omega)
  rw [List.drop_zero] at this
  exact this
theorem mo (p : Int) (iri : Bool) (s : ByteArray) (hs : s.size ≤ 140737488351232) : Ev (fun k => dW k p iri s) (decide (0 < an p iri (aa s)) && jG iri ((aa s).drop (an p iri (aa s)))) := by
  unfold dW
  have hle := hO p iri (aa s)
  rw [af] at hle
  refine ah (jk p iri s hs) (Ev.ite (fun h => ?_) (fun h => ?_))
  · refine ab (by omega) (ab (by omega) ?_)
    rw [Int.toNat_natCast]
    have h1 := qz iri (s.extract (an p iri (aa s)) s.size) (by rw [← af, ba, List.length_drop, af]; omega)
    rw [ba] at h1
    refine ah h1 (Ev.val ?_)
    have : decide (0 < an p iri (aa s)) = true := decide_eq_true (by omega)
    rw [this, Bool.true_and]
  · refine Ev.val ?_
    have : decide (0 < an p iri (aa s)) = false := decide_eq_false (by omega)
    rw [this, Bool.false_and]
theorem rF (s : ByteArray) : (s.toList == ([47] : List UInt8)) = decide (aa s = [47]) := by
  rw [Bool.eq_iff_iff, beq_iff_eq, decide_eq_true_iff]
  have : s.toList = ([47] : List UInt8) ↔ s.toList = (⟨#[47]⟩ : ByteArray).toList := by
    have e : (⟨#[47]⟩ : ByteArray).toList = ([47] : List UInt8) := by rw [toList_data]
    rw [e]
  rw [this, kL]
  have e : aa (⟨#[47]⟩ : ByteArray) = [47] := by decide +kernel
  rw [e]
theorem vJ (sch : ByteArray) (ha : Bool) (aut pth : ByteArray) (hq : Bool) (q : ByteArray) (hf : Bool) (f : ByteArray) (iri : Bool) (hs : pth.size ≤ 140737488351232) :
    Ev (fun k => gg k sch ha aut pth hq q hf f iri) (jM iri (aa sch == []) ha (aa pth)) := by
  rw [← vE iri _ ha (lb pth)]
  unfold gg ui
  cases ha
  · simp only [Bool.false_eq_true, if_false]
    have hj : ∀ x : Bool, (x = true ↔ (aa pth = [] ∨ aa pth = [47])) → Ev (fun k => dX k iri pth x sch false aut pth hq q hf f) (if aa pth = [] ∨ aa pth = [47] then true else
        if (aa pth).headD 0 = 47 then decide (0 < an 3 iri ((aa pth).drop 1)) && jG iri (((aa pth).drop 1).drop (an 3 iri ((aa pth).drop 1)))
        else decide (0 < an (if (aa sch == []) = true then 4 else 3) iri (aa pth)) && jG iri ((aa pth).drop (an (if (aa sch == []) = true then 4 else 3) iri (aa pth)))) := by
      intro x hx
      refine Ev.step (fun k => by rw [dX]) ?_
      refine Ev.ite (fun h => ?_) (fun h => ?_)
      · rw [if_pos (hx.1 h)]; exact az _
      · have hn : ¬ (aa pth = [] ∨ aa pth = [47]) := fun h' => h (hx.2 h')
        rw [if_neg hn]
        have hp : 0 < pth.size := by
          rcases Nat.eq_zero_or_pos pth.size with hz | hz
          · exact absurd (.inl (List.length_eq_zero_iff.1 (by rw [af]; exact hz))) hn
          · exact hz
        rw [nD hp]
        refine ab (by omega) (Ev.ite (fun hb => ?_) (fun hb => ?_))
        · rw [if_pos hb]
          refine ab (by omega) ?_
          have h1 := mo 3 iri (pth.extract 1 pth.size) (by rw [← af, ba, List.length_drop, af]; omega)
          rw [ba] at h1
          exact ah h1 (az _)
        · rw [if_neg hb]
          refine Ev.ite (fun h' => ?_) (fun h' => ?_)
          · have e : (aa sch == []) = true := by rw [beq_iff_eq]; exact (dx sch).1 h'
            rw [e]
            exact ah (mo 4 iri pth hs) (az _)
          · have e : (aa sch == []) = false := by rw [beq_eq_false_iff_ne]; exact fun h'' => h' ((dx sch).2 h'')
            rw [e]
            exact ah (mo 3 iri pth hs) (az _)
    refine Ev.ite (fun h => ?_) (fun h => ?_)
    · exact hj true ⟨fun _ => .inl ((dx pth).1 h), fun _ => rfl⟩
    · rw [rF]
      exact hj _ ⟨fun h' => .inr (of_decide_eq_true h'), fun h' => decide_eq_true (h'.resolve_left fun h'' => h ((dx pth).2 h''))⟩
  · simp only [if_true]
    exact ah (qz iri pth hs) (az _)
def pT (kind : Int) (sch : ByteArray) (ha : Bool) (aut pth q : ByteArray) (hf : Bool) (f : ByteArray) : Bool :=
  (if aa sch = [] then kind == 2 || kind == 5 else hH (aa sch)) && (!(hf && kind == 3) && ((!ha || gF (decide (kind ≥ 4)) (bL aut)) &&
    (jM (decide (kind ≥ 4)) (aa sch == []) ha (aa pth) && (bn 6 (decide (kind ≥ 4)) (aa q) && bn 7 (decide (kind ≥ 4)) (aa f)))))
theorem o4 (p : Int) (iri : Bool) (s : ByteArray) : ((an p iri (aa s) : Int) = (s.size : Int)) ↔ bn p iri (aa s) = true := by
  unfold bn
  rw [beq_iff_eq, af]
  omega
theorem un (kind : Int) (sch : ByteArray) (ha : Bool) (aut pth : ByteArray) (hq : Bool) (q : ByteArray) (hf : Bool) (f : ByteArray) (h1 : sch.size ≤ 1000000) (h2 : aut.size ≤ 1000000) (h3 : pth.size ≤ 1000000) (h4 : q.size ≤ 1000000) (h5 : f.size ≤ 1000000) :
    Ev (fun k => gE k kind sch ha aut pth hq q hf f) (pT kind sch ha aut pth q hf f) := by
  have hj2 : ∀ x : Bool, Ev (fun k => el k (decide (kind ≥ 4)) x sch ha aut pth hq q hf f) (!x && (jM (decide (kind ≥ 4)) (aa sch == []) ha (aa pth) && (bn 6 (decide (kind ≥ 4)) (aa q) && bn 7 (decide (kind ≥ 4)) (aa f)))) := by
    intro x
    refine Ev.step (fun k => by rw [el]) ?_
    cases x
    · refine ae (by simp) (ah (vJ sch ha aut pth hq q hf f _ (by omega)) ?_)
      rw [Bool.not_false, Bool.true_and]
      cases hp : jM (decide (kind ≥ 4)) (aa sch == []) ha (aa pth)
      · exact ae (by simp) (Ev.val rfl)
      · refine ab rfl (ah (jk 6 _ q (by omega)) ?_)
        rw [Bool.true_and]
        refine Ev.ite (fun h => ?_) (fun h => ?_)
        · rw [(o4 6 _ q).1 h, Bool.true_and]
          refine ah (jk 7 _ f (by omega)) (Ev.val ?_)
          rw [Bool.eq_iff_iff, beq_iff_eq]
          exact o4 7 _ f
        · refine Ev.val ?_
          have : bn 6 (decide (kind ≥ 4)) (aa q) = false := by
            cases h' : bn 6 (decide (kind ≥ 4)) (aa q) with
            | false => rfl
            | true => exact absurd ((o4 6 _ q).2 h') h
          rw [this]; rfl
    · exact ab rfl (Ev.val rfl)
  have hj1 : ∀ x : Bool, Ev (fun k => ek k (decide (kind ≥ 4)) x sch ha aut pth hq q hf f) (!x && ((!ha || gF (decide (kind ≥ 4)) (bL aut)) && (jM (decide (kind ≥ 4)) (aa sch == []) ha (aa pth) && (bn 6 (decide (kind ≥ 4)) (aa q) && bn 7 (decide (kind ≥ 4)) (aa f))))) := by
    intro x
    refine Ev.step (fun k => by rw [ek]) ?_
    cases x
    · refine ae (by simp) ?_
      rw [Bool.not_false, Bool.true_and]
      cases ha
      · exact ae (by simp) (hj2 false)
      · refine ab rfl (ah (wl _ aut h2) ?_)
        cases hr : gF (decide (kind ≥ 4)) (bL aut)
        · simp only [Bool.false_eq_true, if_false]
          exact hj2 true
        · simp only [if_true]
          exact hj2 false
    · exact ab rfl (Ev.val rfl)
  have hj0 : ∀ x : Bool, Ev (fun k => cL k kind (decide (kind ≥ 4)) x sch ha aut pth hq q hf f) (!x && (!(hf && kind == 3) && ((!ha || gF (decide (kind ≥ 4)) (bL aut)) && (jM (decide (kind ≥ 4)) (aa sch == []) ha (aa pth) && (bn 6 (decide (kind ≥ 4)) (aa q) && bn 7 (decide (kind ≥ 4)) (aa f)))))) := by
    intro x
    refine Ev.step (fun k => by rw [cL]) ?_
    cases x
    · refine ae (by simp) ?_
      rw [Bool.not_false, Bool.true_and]
      cases hf
      · exact ae (by simp) (hj1 false)
      · exact ab rfl (hj1 _)
    · exact ab rfl (Ev.val rfl)
  unfold gE pT
  refine Ev.ite (fun h => ?_) (fun h => ?_)
  · rw [if_pos ((dx sch).1 h)]
    refine Ev.ite (fun h2 => ?_) (fun h2 => Ev.ite (fun h5 => ?_) (fun h5 => ?_))
    · subst h2; exact hj0 false
    · subst h5; exact hj0 false
    · have e2 : (kind == 2) = false := by rw [beq_eq_false_iff_ne]; exact h2
      have e5 : (kind == 5) = false := by rw [beq_eq_false_iff_ne]; exact h5
      rw [e2, e5]
      exact hj0 true
  · rw [if_neg (fun h' => h ((dx sch).2 h'))]
    refine ah (sU sch (by omega)) ?_
    have := hj0 (!hH (aa sch))
    rw [Bool.not_not] at this
    exact this
end Go.Proofs.YtpmflpeckoeooaaGreatDoor.Y
namespace Go.Proofs.YtpmflpeckoeooaaGreatDoor.M
open Go Go.RowKit Go.Proofs.YtpmflpeckoeooaaGreatDoorW.PrintWords
def pI (l : List Int) : Nat := aC [58, 47, 63, 35] l
def cS (l : List Int) : Bool := decide (0 < pI l) && (l.getD (pI l) 0 == 58)
def pC (l : List Int) : Nat := if cS l then pI l + 1 else 0
def cA (l : List Int) : Bool := (l.drop (pC l)).take 2 == [47, 47]
def eF (l : List Int) (c : Nat) : Nat := c + 2 + aC [47, 63, 35] (l.drop (c + 2))
def pP (l : List Int) : Nat := if cA l then eF l (pC l) else pC l
def cT (l : List Int) (p : Nat) : Nat := p + aC [63, 35] (l.drop p)
def dP (l : List Int) (p : Nat) : Nat := p + 1 + aC [35] (l.drop (p + 1))
def cQ (l : List Int) : Bool := l.getD (cT l (pP l)) 0 == 63
def pF (l : List Int) : Nat := if cQ l then dP l (cT l (pP l)) else cT l (pP l)
def cF (l : List Int) : Bool := decide (pF l < l.length)
theorem lY {l : List Int} {i : Nat} {c : Int} (hc : c ≠ 0) (h : l.getD i 0 = c) : i < l.length := by
  rcases Nat.lt_or_ge i l.length with h' | h'
  · exact h'
  · rw [List.getD_eq_getElem?_getD, List.getElem?_eq_none h'] at h
    exact absurd h.symm hc
theorem ou (l : List Int) : pI l ≤ l.length := iL _ _
theorem pp (l : List Int) : pC l ≤ l.length := by
  unfold pC
  split
  · rename_i h
    unfold cS at h
    rw [Bool.and_eq_true, beq_iff_eq] at h
    have := lY (by decide) h.2
    omega
  · omega
theorem oh {l : List Int} {c : Nat} (h : (l.drop c).take 2 = [47, 47]) : c + 2 ≤ l.length := by
  have := congrArg List.length h
  rw [List.length_take, List.length_drop] at this
  simp at this
  omega
theorem lW {l : List Int} {c : Nat} (h : c + 2 ≤ l.length) : c + 2 ≤ eF l c ∧ eF l c ≤ l.length := by
  have := iL [47, 63, 35] (l.drop (c + 2))
  rw [List.length_drop] at this
  unfold eF
  omega
theorem zb (l : List Int) : pP l ≤ l.length := by
  unfold pP
  split
  · rename_i h
    unfold cA at h
    rw [beq_iff_eq] at h
    exact (lW (oh h)).2
  · exact pp l
theorem pU {l : List Int} {p : Nat} (h : p ≤ l.length) : p ≤ cT l p ∧ cT l p ≤ l.length := by
  have := iL [63, 35] (l.drop p)
  rw [List.length_drop] at this
  unfold cT
  omega
theorem ov {l : List Int} {p : Nat} (h : p < l.length) : p + 1 ≤ dP l p ∧ dP l p ≤ l.length := by
  have := iL [35] (l.drop (p + 1))
  rw [List.length_drop] at this
  unfold dP
  omega
theorem pb (set l : List Int) : l.drop (aC set l) = [] ∨ ∃ b t, l.drop (aC set l) = b :: t ∧ b ∈ set := by
  by_cases h : aC set l < l.length
  · exact .inr (qT h)
  · exact .inl (List.drop_of_length_le (by omega))
theorem l4 (set l : List Int) : l = l.take (aC set l) ++ l.drop (aC set l) := (List.take_append_drop _ _).symm
theorem nM (p : Int) (iri : Bool) (set : List Int) (hset : ∀ c ∈ set, 0 ≤ c ∧ c < 128 ∧ c ≠ 37 ∧ hv c < 0 ∧ cn p c = false) (l : List Int) : an p iri l = an p iri (l.take (aC set l)) := by
  rcases pb set l with h | ⟨b, t, h, hb⟩
  · have e := l4 set l
    rw [h, List.append_nil] at e
    rw [← e]
  · obtain ⟨h0, h1, h2, h3, h4⟩ := hset b hb
    conv => lhs; rw [l4 set l, h]
    exact rB p iri b t h0 h1 h2 h3 h4 _ _ rfl
end Go.Proofs.YtpmflpeckoeooaaGreatDoor.M
namespace Go.Proofs.YtpmflpeckoeooaaGreatDoor.Y
open Go.RowKit Go.Proofs.YtpmflpeckoeooaaGreatDoor.X Go.Proofs.YtpmflpeckoeooaaGreatDoor.M Go.Proofs.YtpmflpeckoeooaaGreatDoorW.PrintWords Go.Proofs.YtpmflpeckoeooaaGreatDoorW.PrintLast Go.Proofs.YtpmflpeckoeooaaGreatDoorW.PrintMore
abbrev kx := ByteArray × Bool × ByteArray × ByteArray × Bool × ByteArray × Bool × ByteArray
abbrev nil8 : ByteArray := (⟨#[]⟩ : ByteArray)
def bN (s : ByteArray) : kx :=
  (if cS (aa s) then s.extract 0 (pI (aa s)) else nil8, cA (aa s), if cA (aa s) then s.extract (pC (aa s) + 2) (eF (aa s) (pC (aa s))) else nil8,
    s.extract (pP (aa s)) (cT (aa s) (pP (aa s))), cQ (aa s), if cQ (aa s) then s.extract (cT (aa s) (pP (aa s)) + 1) (pF (aa s)) else nil8,
    cF (aa s), if cF (aa s) then s.extract (pF (aa s) + 1) s.size else nil8)
theorem xd : aa (⟨#[58, 47, 63, 35]⟩ : ByteArray) = [58, 47, 63, 35] := by decide +kernel
theorem xc : aa (⟨#[47, 63, 35]⟩ : ByteArray) = [47, 63, 35] := by decide +kernel
theorem yG : aa (⟨#[63, 35]⟩ : ByteArray) = [63, 35] := by decide +kernel
theorem xb : aa (⟨#[35]⟩ : ByteArray) = [35] := by decide +kernel
theorem iz (s : ByteArray) (i : Nat) : (aa s).getD i 0 = bt s (i : Int) := (km s i).symm
theorem jw (s : ByteArray) {i : Nat} (h : s.size ≤ i) : bt s (i : Int) = 0 := by
  rw [km, List.getD_eq_getElem?_getD, List.getElem?_eq_none (by rw [af]; exact h)]; rfl
theorem xg (s : ByteArray) (hs : s.size ≤ 140737488351232) (p : Nat) (hp : p ≤ s.size) (sch : ByteArray) (ha : Bool) (aut pth : ByteArray) :
    Ev (fun k => dK k s (p : Int) (bt s (p : Int) == 63) sch ha aut pth false nil8 false nil8)
      (sch, ha, aut, pth, bt s (p : Int) == 63, if (bt s (p : Int) == 63) = true then s.extract (p + 1) (dP (aa s) p) else nil8,
        decide ((if (bt s (p : Int) == 63) = true then dP (aa s) p else p) < s.size), if (if (bt s (p : Int) == 63) = true then dP (aa s) p else p) < s.size then s.extract ((if (bt s (p : Int) == 63) = true then dP (aa s) p else p) + 1) s.size else nil8) := by
  refine Ev.step (fun k => by rw [dK]) ?_
  cases hx : bt s (p : Int) == 63
  · simp only [Bool.false_eq_true, if_false]
    refine Ev.ite (fun h => ?_) (fun h => ?_)
    · rw [w64 (by omega) (by omega)]
      refine ab (by omega) (ab (by omega) (Ev.val ?_))
      have h1 : decide (p < s.size) = true := decide_eq_true (by omega)
      rw [h1, if_pos (by omega), show ((p : Int) + 1).toNat = p + 1 by omega]
    · refine Ev.val ?_
      have h1 : decide (p < s.size) = false := decide_eq_false (by omega)
      rw [h1, if_neg (by omega)]
  · simp only [if_true]
    rw [beq_iff_eq] at hx
    have hlt : p < s.size := by
      rcases Nat.lt_or_ge p s.size with h | h
      · exact h
      · rw [jw s h] at hx; omega
    have hq := ov (l := aa s) (p := p) (by rw [af]; exact hlt)
    rw [af] at hq
    rw [w64 (x := (p : Int) + 1) (by omega) (by omega)]
    have hf := lR s (⟨#[35]⟩ : ByteArray) (p + 1) (by omega) hs (by decide)
    rw [xb] at hf
    have e1 : ((p + 1 : Nat) : Int) = (p : Int) + 1 := by omega
    have e2 : ((p + 1 : Nat) : Int) + (aC [35] ((aa s).drop (p + 1)) : Int) = (dP (aa s) p : Int) := by unfold dP; omega
    rw [e2, e1] at hf
    refine ah hf (ab (by omega) (ab (by omega) (ab (by omega) ?_)))
    refine Ev.ite (fun h => ?_) (fun h => ?_)
    · rw [w64 (by omega) (by omega)]
      refine ab (by omega) (ab (by omega) (Ev.val ?_))
      have h1 : decide (dP (aa s) p < s.size) = true := decide_eq_true (by omega)
      rw [h1, if_pos (by omega), Int.toNat_natCast, show ((p : Int) + 1).toNat = p + 1 by omega, show ((dP (aa s) p : Int) + 1).toNat = dP (aa s) p + 1 by omega]
    · refine Ev.val ?_
      have h1 : decide (dP (aa s) p < s.size) = false := decide_eq_false (by omega)
      rw [h1, if_neg (by omega), Int.toNat_natCast, show ((p : Int) + 1).toNat = p + 1 by omega]
def jv (s : ByteArray) (sch : ByteArray) (ha : Bool) (aut : ByteArray) (p : Nat) : kx :=
  let e := cT (aa s) p
  let f := if (bt s (e : Int) == 63) = true then dP (aa s) e else e
  (sch, ha, aut, s.extract p e, bt s (e : Int) == 63, if (bt s (e : Int) == 63) = true then s.extract (e + 1) (dP (aa s) e) else nil8, decide (f < s.size), if f < s.size then s.extract (f + 1) s.size else nil8)
theorem rD (s : ByteArray) (hs : s.size ≤ 140737488351232) (p : Nat) (hp : p ≤ s.size) (sch : ByteArray) (ha : Bool) (aut : ByteArray) :
    Ev (fun k => dJ k s (p : Int) sch ha aut nil8 false nil8 false nil8) (jv s sch ha aut p) := by
  have he := pU (l := aa s) (p := p) (by rw [af]; exact hp)
  rw [af] at he
  refine Ev.step (fun k => by rw [dJ]) ?_
  have hf := lR s (⟨#[63, 35]⟩ : ByteArray) p hp hs (by decide)
  rw [yG] at hf
  have e2 : (p : Int) + (aC [63, 35] ((aa s).drop p) : Int) = (cT (aa s) p : Int) := by unfold cT; omega
  rw [e2] at hf
  refine ah hf (ab (by omega) (ab (by omega) (ab (by omega) ?_)))
  have h4 := xg s hs (cT (aa s) p) he.2 sch ha aut (s.extract p (cT (aa s) p))
  rw [Int.toNat_natCast, Int.toNat_natCast]
  refine Ev.ite (fun h => ?_) (fun h => ?_)
  · exact ab (by omega) h4
  · have hz : (bt s (cT (aa s) p : Int) == 63) = false := by rw [jw s (by omega)]; rfl
    have h5 := h4
    rw [hz] at h5
    unfold jv
    simp only [hz]
    exact h5
theorem o6 (s : ByteArray) (hs : s.size ≤ 140737488351232) (c : Nat) (hc : c ≤ s.size) (x : Bool) (hx : x = true → c + 2 ≤ s.size) (sch : ByteArray) :
    Ev (fun k => cO k s (c : Int) x sch false nil8 nil8 false nil8 false nil8) (if x then jv s sch true (s.extract (c + 2) (eF (aa s) c)) (eF (aa s) c) else jv s sch false nil8 c) := by
  refine Ev.step (fun k => by rw [cO]) ?_
  cases x
  · exact ae (by simp) (rD s hs c hc sch false nil8)
  · have hx := hx rfl
    have ha := lW (l := aa s) (c := c) (by rw [af]; exact hx)
    rw [af] at ha
    rw [w64 (by omega) (by omega)]
    have hf := lR s (⟨#[47, 63, 35]⟩ : ByteArray) (c + 2) hx hs (by decide)
    rw [xc] at hf
    have e1 : ((c + 2 : Nat) : Int) = (c : Int) + 2 := by omega
    have e2 : ((c + 2 : Nat) : Int) + (aC [47, 63, 35] ((aa s).drop (c + 2)) : Int) = (eF (aa s) c : Int) := by unfold eF; omega
    rw [e2, e1] at hf
    refine ab rfl (ah hf (ab (by omega) (ab (by omega) (ab (by omega) ?_))))
    rw [Int.toNat_natCast, show ((c : Int) + 2).toNat = c + 2 by omega]
    simp only [if_true]
    exact rD s hs (eF (aa s) c) ha.2 sch true _
theorem we (s : ByteArray) (c : Nat) : ((aa s).drop c).take 2 = [47, 47] ↔ (c + 2 ≤ s.size ∧ bt s (c : Int) = 47 ∧ bt s ((c + 1 : Nat) : Int) = 47) := by
  rcases Nat.lt_or_ge (c + 1) s.size with h | h
  · rw [fJ (s := s) (n := c) (by omega), fJ (s := s) (n := c + 1) h]
    simp
    omega
  · constructor
    · intro h'
      have := congrArg List.length h'
      rw [List.length_take, List.length_drop, af] at this
      simp at this
      omega
    · intro h'; omega
theorem rC (s : ByteArray) (hs : s.size ≤ 140737488351232) (c : Nat) (hc : c ≤ s.size) (sch : ByteArray) :
    Ev (fun k => dI k s (c : Int) sch false nil8 nil8 false nil8 false nil8) (if ((aa s).drop c).take 2 = [47, 47] then jv s sch true (s.extract (c + 2) (eF (aa s) c)) (eF (aa s) c) else jv s sch false nil8 c) := by
  refine Ev.step (fun k => by rw [dI]) ?_
  rw [w64 (x := (s.size : Int) - c) (by omega) (by omega)]
  have tb := we s c
  refine Ev.ite (fun h => ?_) (fun h => ?_)
  · refine ab (by omega) (ab (by omega) (Ev.ite (fun h1 => ?_) (fun h1 => ?_)))
    · rw [w64 (by omega) (by omega)]
      have e1 : ((c + 1 : Nat) : Int) = (c : Int) + 1 := by omega
      rw [e1] at tb
      refine ab (by omega) (ab (by omega) ?_)
      have h2 := o6 s hs c hc (bt s ((c : Int) + 1) == 47) (fun _ => by omega) sch
      by_cases hb : bt s ((c : Int) + 1) = 47
      · rw [if_pos (tb.2 ⟨by omega, h1, hb⟩)]
        have : (bt s ((c : Int) + 1) == 47) = true := beq_iff_eq.2 hb
        rw [this] at h2 ⊢
        exact h2
      · rw [if_neg (fun h' => hb (tb.1 h').2.2)]
        have : (bt s ((c : Int) + 1) == 47) = false := beq_eq_false_iff_ne.2 hb
        rw [this] at h2 ⊢
        exact h2
    · rw [if_neg (fun h' => h1 (tb.1 h').2.1)]
      exact o6 s hs c hc false (fun h => by cases h) sch
  · rw [if_neg (fun h' => by have := (tb.1 h').1; omega)]
    exact o6 s hs c hc false (fun h => by cases h) sch
theorem oR (s : ByteArray) : bN s = if ((aa s).drop (pC (aa s))).take 2 = [47, 47] then jv s (if cS (aa s) then s.extract 0 (pI (aa s)) else nil8) true (s.extract (pC (aa s) + 2) (eF (aa s) (pC (aa s)))) (eF (aa s) (pC (aa s)))
    else jv s (if cS (aa s) then s.extract 0 (pI (aa s)) else nil8) false nil8 (pC (aa s)) := by
  have hq : ∀ p, pP (aa s) = p → ∀ sch ha aut, jv s sch ha aut p = (sch, ha, aut, s.extract (pP (aa s)) (cT (aa s) (pP (aa s))), cQ (aa s), if cQ (aa s) then s.extract (cT (aa s) (pP (aa s)) + 1) (pF (aa s)) else nil8,
    cF (aa s), if cF (aa s) then s.extract (pF (aa s) + 1) s.size else nil8) := by
    intro p hp sch ha aut
    have e1 : (bt s (cT (aa s) p : Int) == 63) = cQ (aa s) := by unfold cQ; rw [hp, iz]
    unfold jv
    simp only [e1]
    have e2 : (if cQ (aa s) = true then dP (aa s) (cT (aa s) p) else cT (aa s) p) = pF (aa s) := by unfold pF; rw [hp]
    rw [e2, hp]
    have e3 : decide (pF (aa s) < s.size) = cF (aa s) := by unfold cF; rw [af]
    rw [e3]
    simp only [Prod.mk.injEq, true_and]
    refine ⟨?_, ?_⟩
    · cases hc : cQ (aa s)
      · rfl
      · simp only [if_true]
        congr 1
        unfold pF; rw [hc, hp]; rfl
    · cases hc : cF (aa s)
      · rw [if_neg (by rw [hc] at e3; exact of_decide_eq_false e3)]; rfl
      · rw [if_pos (by rw [hc] at e3; exact of_decide_eq_true e3)]; rfl
  unfold bN
  by_cases h : ((aa s).drop (pC (aa s))).take 2 = [47, 47]
  · have hA : cA (aa s) = true := by unfold cA; rw [beq_iff_eq]; exact h
    rw [if_pos h, hq _ (by unfold pP; rw [hA]; rfl), hA]; rfl
  · have hA : cA (aa s) = false := by unfold cA; rw [beq_eq_false_iff_ne]; exact h
    rw [if_neg h, hq _ (by unfold pP; rw [hA]; rfl), hA]; rfl
theorem us (s : ByteArray) (hs : s.size ≤ 140737488351232) : Ev (fun k => fM k s) (bN s) := by
  have hI := ou (aa s)
  rw [af] at hI
  have hC := pp (aa s)
  rw [af] at hC
  unfold fM
  have hf := lR s (⟨#[58, 47, 63, 35]⟩ : ByteArray) 0 (by omega) hs (by decide)
  rw [xd, List.drop_zero] at hf
  have e2 : ((0 : Nat) : Int) + (aC [58, 47, 63, 35] (aa s) : Int) = (pI (aa s) : Int) := by unfold pI; omega
  rw [e2] at hf
  have hj0 : Ev (fun k => cN k s 0 (pI (aa s) : Int) (cS (aa s)) nil8 false nil8 nil8 false nil8 false nil8) (bN s) := by
    refine Ev.step (fun k => by rw [cN]) ?_
    rw [oR]
    cases hc : cS (aa s)
    · have h0 : pC (aa s) = 0 := by unfold pC; rw [hc]; rfl
      rw [h0]
      exact ae (by simp) (rC s hs 0 (by omega) nil8)
    · have h0 : pC (aa s) = pI (aa s) + 1 := by unfold pC; rw [hc]; rfl
      rw [h0] at hC ⊢
      simp only [if_true]
      rw [w64 (by omega) (by omega)]
      refine ab (by omega) (ab (by omega) ?_)
      rw [Int.toNat_natCast]
      exact rC s hs (pI (aa s) + 1) hC (s.extract 0 (pI (aa s)))
  have hcs : cS (aa s) = (decide (0 < pI (aa s)) && (bt s (pI (aa s) : Int) == 58)) := by unfold cS; rw [iz]
  refine ah hf (Ev.ite (fun h => Ev.ite (fun h1 => ab (by omega) ?_) (fun h1 => ?_)) (fun h => ?_))
  · have : decide (0 < pI (aa s)) = true := decide_eq_true (by omega)
    rw [this, Bool.true_and] at hcs
    rw [← hcs]
    exact hj0
  · have : (bt s (pI (aa s) : Int) == 58) = false := by rw [jw s (by omega)]; rfl
    rw [this, Bool.and_false] at hcs
    rw [hcs] at hj0
    exact hj0
  · have : decide (0 < pI (aa s)) = false := decide_eq_false (by omega)
    rw [this, Bool.false_and] at hcs
    rw [hcs] at hj0
    exact hj0
theorem rj (s : ByteArray) (n : Nat) (hn : n ≤ s.size) (hs : s.size ≤ 1000000) (iri : Bool) (sch : ByteArray) (ha : Bool) (aut pth : ByteArray) (hq : Bool) (q : ByteArray) (hf : Bool) (f sign : ByteArray) (hg : sign.size ≤ 10) :
    ex s (n : Int) iri sch ha aut pth hq q hf f sign = some (if ((aa s).drop n).take sign.size = aa sign then (true, s, ((n + sign.size : Nat) : Int), iri, sch, ha, aut, pth, hq, q, hf, f) else (false, s, (n : Int), iri, sch, ha, aut, pth, hq, q, hf, f)) := by
  unfold ex
  rw [if_pos (by omega), if_pos (by omega), jY, Int.toNat_natCast, ba, Option.bind_some]
  by_cases h : ((aa s).drop n).take sign.size = aa sign
  · rw [if_pos (decide_eq_true h), if_pos h, w64 (by omega) (by omega)]
    simp
  · rw [if_neg (by simpa using h), if_neg h]
theorem nL (s : ByteArray) (n : Nat) (hn : n ≤ s.size) (hs : s.size ≤ 1000000) (iri : Bool) (sch : ByteArray) (ha : Bool) (aut pth : ByteArray) (hq : Bool) (q : ByteArray) (hf : Bool) (f : ByteArray) (p : Int) :
    Ev (fun k => b9 k s (n : Int) iri sch ha aut pth hq q hf f p) (s.extract n (n + an p iri ((aa s).drop n)), s, ((n + an p iri ((aa s).drop n) : Nat) : Int), iri, sch, ha, aut, pth, hq, q, hf, f) := by
  unfold b9
  have hsp := vU p iri (s.extract n s.size) (by rw [← af, ba, List.length_drop, af]; omega)
  rw [ba] at hsp
  have hle := hO p iri ((aa s).drop n)
  rw [List.length_drop, af] at hle
  rw [Int.toNat_natCast]
  refine ab (by omega) (ab (by omega) (ah hsp ?_))
  have e : (n : Int) + (an p iri ((aa s).drop n) : Int) = ((n + an p iri ((aa s).drop n) : Nat) : Int) := by omega
  rw [w64 (by omega) (by omega), e]
  refine ab (by omega) (ab (by omega) (Ev.val ?_))
  rw [Int.toNat_natCast]
def okS (l : List Int) : Bool := cS l && hH (l.take (pI l))
theorem nq (s : ByteArray) : aa (s.extract 0 (pI (aa s))) = (aa s).take (pI (aa s)) := by rw [ay, List.drop_zero]
theorem uA (s : ByteArray) (hs : s.size ≤ 1000000) (iri : Bool) :
    Ev (fun k => cy k s 0 iri nil8 false nil8 nil8 false nil8 false nil8)
      (if okS (aa s) = true then (true, s, ((pI (aa s) + 1 : Nat) : Int), iri, s.extract 0 (pI (aa s)), false, nil8, nil8, false, nil8, false, nil8) else (false, s, 0, iri, nil8, false, nil8, nil8, false, nil8, false, nil8)) := by
  unfold cy
  have hI := ou (aa s)
  rw [af] at hI
  have hf := tk s (⟨#[58, 47, 63, 35]⟩ : ByteArray) 0 (by omega) (by omega) (by decide)
  rw [xd, List.drop_zero] at hf
  have e : (aC [58, 47, 63, 35] (aa s)) = pI (aa s) := rfl
  rw [e] at hf
  have e0 : ((0 : Nat) : Int) = 0 := rfl
  rw [e0] at hf
  refine ah hf ?_
  by_cases he : pI (aa s) = s.size - 0
  · simp only [if_pos he]
    refine ab (by decide) (Ev.val ?_)
    have hc : cS (aa s) = false := by
      unfold cS; rw [iz, jw s (by omega)]; simp
    have : okS (aa s) = false := by unfold okS; rw [hc]; rfl
    rw [this]; rfl
  · simp only [if_neg he, Int.zero_add]
    refine ae (by omega) (ab (by omega) (ab (by omega) (Ev.ite (fun hb => ?_) (fun hb => ?_))))
    · refine ab (by omega) ?_
      rw [Int.toNat_natCast]
      have h1 := wY (s.extract 0 (pI (aa s))) (by rw [← af, nq, List.length_take, af]; omega)
      rw [nq] at h1
      refine ah h1 ?_
      have hc : cS (aa s) = true ∨ hH ((aa s).take (pI (aa s))) = false := by
        rcases Nat.eq_zero_or_pos (pI (aa s)) with hz | hz
        · right; rw [hz, List.take_zero, mX]
        · left
          unfold cS; rw [iz, hb, decide_eq_true hz]; rfl
      cases hsl : hH ((aa s).take (pI (aa s)))
      · have : okS (aa s) = false := by unfold okS; rw [hsl, Bool.and_false]
        rw [this]
        exact ae (by simp) (Ev.val rfl)
      · have : okS (aa s) = true := by
          unfold okS; rw [hsl, Bool.and_true]
          rcases hc with hc | hc
          · exact hc
          · rw [hsl] at hc; cases hc
        rw [this]
        refine ab rfl (Ev.val ?_)
        rw [w64 (by omega) (by omega)]
        simp
    · have hc : cS (aa s) = false := by
        unfold cS; rw [iz]
        have : (bt s (pI (aa s) : Int) == 58) = false := beq_eq_false_iff_ne.2 hb
        rw [this, Bool.and_false]
      have : okS (aa s) = false := by unfold okS; rw [hc]; rfl
      rw [this]
      exact Ev.val rfl
theorem yy (s : ByteArray) (c : Nat) (hc : c ≤ s.size) (hs : s.size ≤ 1000000) (iri : Bool) (sch : ByteArray) :
    Ev (fun k => bl k s (c : Int) iri sch false nil8 nil8 false nil8 false nil8)
      (if ((aa s).drop c).take 2 = [47, 47] then (gF iri (bL (s.extract (c + 2) (eF (aa s) c))), s, (eF (aa s) c : Int), iri, sch, true, s.extract (c + 2) (eF (aa s) c), nil8, false, nil8, false, nil8)
        else (true, s, (c : Int), iri, sch, false, nil8, nil8, false, nil8, false, nil8)) := by
  unfold bl
  have hb : aa (⟨#[47, 47]⟩ : ByteArray) = [47, 47] := by decide +kernel
  have hz : (⟨#[47, 47]⟩ : ByteArray).size = 2 := rfl
  have hn := rj s c hc hs iri sch false nil8 nil8 false nil8 false nil8 (⟨#[47, 47]⟩ : ByteArray) (by decide)
  rw [hb, hz] at hn
  refine aG hn ?_
  by_cases h2 : ((aa s).drop c).take 2 = [47, 47]
  · simp only [if_pos h2]
    have hc2 := oh h2
    rw [af] at hc2
    have ha := lW (l := aa s) (c := c) (by rw [af]; exact hc2)
    rw [af] at ha
    have hf := tk s (⟨#[47, 63, 35]⟩ : ByteArray) (c + 2) hc2 (by omega) (by decide)
    rw [xc] at hf
    have hpz : (s.extract (c + 2) (eF (aa s) c)).size ≤ 1000000 := by
      rw [← af, ay, List.length_drop, List.length_take, af]; omega
    have hp := yb iri (s.extract (c + 2) (eF (aa s) c)) hpz
    refine ah hf ?_
    by_cases he : aC [47, 63, 35] ((aa s).drop (c + 2)) = s.size - (c + 2)
    · simp only [if_pos he]
      have e : eF (aa s) c = s.size := by unfold eF; omega
      rw [e] at hp ⊢
      refine ab (by decide) (ab (by omega) (ab (by omega) (ab (by omega) ?_)))
      rw [Int.toNat_natCast, Int.toNat_natCast]
      refine ah hp (Ev.val ?_)
      cases gF iri (bL (s.extract (c + 2) s.size)) <;> rfl
    · simp only [if_neg he]
      have e : ((c + 2 : Nat) : Int) + (aC [47, 63, 35] ((aa s).drop (c + 2)) : Int) = (eF (aa s) c : Int) := by unfold eF; omega
      rw [e]
      refine ae (by omega) (ab (by omega) (ab (by omega) (ab (by omega) ?_)))
      rw [Int.toNat_natCast, Int.toNat_natCast]
      refine ah hp (Ev.val ?_)
      cases gF iri (bL (s.extract (c + 2) (eF (aa s) c))) <;> rfl
  · simp only [if_neg h2]
    exact ae (by simp) (Ev.val rfl)
def jI (ha : Bool) (l : List Int) : Bool := if ha then l == [] || l.headD 0 == 47 else !(l.take 2 == [47, 47])
def jy (ns ha iri : Bool) (l : List Int) : Bool := ns && !ha && (l.getD (an 4 iri l) 0 == 58)
theorem tw (s : ByteArray) (p m : Nat) (hpm : p ≤ m) (hm : m ≤ s.size) (hs : s.size ≤ 1000000) (iri : Bool) (sch : ByteArray) (ha : Bool) (aut : ByteArray) (e : Nat) (he : e = m + an 5 iri ((aa s).drop m)) :
    Ev (fun k => bC k (p : Int) s (m : Int) iri sch ha aut nil8 false nil8 false nil8)
      (jI ha (aa (s.extract p e)), s, (e : Int), iri, sch, ha, aut, s.extract p e, false, nil8, false, nil8) := by
  have hle := hO 5 iri ((aa s).drop m)
  rw [List.length_drop, af] at hle
  have hsp := nL s m hm hs iri sch ha aut nil8 false nil8 false nil8 5
  rw [← he] at hsp
  refine Ev.step (fun k => by rw [bC]) (ah hsp ?_)
  dsimp only
  refine ab (by omega) (ab (by omega) (ab (by omega) ?_))
  rw [Int.toNat_natCast, Int.toNat_natCast]
  cases ha
  · refine ae (by simp) (aG (jY _ _) (Ev.val ?_))
    have hb : aa (⟨#[47, 47]⟩ : ByteArray) = [47, 47] := by decide +kernel
    have hz : (⟨#[47, 47]⟩ : ByteArray).size = 2 := rfl
    rw [hb, hz]
    unfold jI
    have : decide ((aa (s.extract p e)).take 2 = [47, 47]) = ((aa (s.extract p e)).take 2 == [47, 47]) := by
      rw [Bool.eq_iff_iff, decide_eq_true_iff, beq_iff_eq]
    rw [this]; rfl
  · refine ab rfl (Ev.ite (fun h => ?_) (fun h => ?_))
    · refine Ev.val ?_
      rw [(dx _).1 h]; rfl
    · have hp : 0 < (s.extract p e).size := by
        rcases Nat.eq_zero_or_pos (s.extract p e).size with hz | hz
        · exact absurd ((dx _).2 (List.length_eq_zero_iff.1 (by rw [af]; exact hz))) h
        · exact hz
      refine ab (by omega) (Ev.val ?_)
      unfold jI
      have hne : (aa (s.extract p e) == []) = false := beq_eq_false_iff_ne.2 (fun h' => h ((dx _).2 h'))
      rw [nD hp, hne]; rfl
theorem wO (s : ByteArray) (p : Nat) (hp : p ≤ s.size) (hs : s.size ≤ 1000000) (iri : Bool) (sch : ByteArray) (ha : Bool) (aut : ByteArray) :
    ∃ z, Ev (fun k => bz k s (p : Int) iri sch ha aut nil8 false nil8 false nil8) z ∧
      (jy (aa sch == []) ha iri ((aa s).drop p) = true → z.1 = false) ∧
      (jy (aa sch == []) ha iri ((aa s).drop p) = false → z = (jI ha (aa (s.extract p (p + an 5 iri ((aa s).drop p)))), s, ((p + an 5 iri ((aa s).drop p) : Nat) : Int), iri, sch, ha, aut, s.extract p (p + an 5 iri ((aa s).drop p)), false, nil8, false, nil8)) := by
  have h4 := hO 4 iri ((aa s).drop p)
  rw [List.length_drop, af] at h4
  have hj0 : ∀ x : Bool, ∃ z, Ev (fun k => bk k (p : Int) x s (p : Int) iri sch ha aut nil8 false nil8 false nil8) z ∧
      ((x && (((aa s).drop p).getD (an 4 iri ((aa s).drop p)) 0 == 58)) = true → z.1 = false) ∧
      ((x && (((aa s).drop p).getD (an 4 iri ((aa s).drop p)) 0 == 58)) = false → z = (jI ha (aa (s.extract p (p + an 5 iri ((aa s).drop p)))), s, ((p + an 5 iri ((aa s).drop p) : Nat) : Int), iri, sch, ha, aut, s.extract p (p + an 5 iri ((aa s).drop p)), false, nil8, false, nil8)) := by
    intro x
    cases x
    · refine ⟨_, Ev.step (fun k => by rw [bk]) (ae (by simp) (tw s p p (Nat.le_refl _) hp hs iri sch ha aut _ rfl)), fun h => by simp at h, fun _ => rfl⟩
    · have e5 : p + an 5 iri ((aa s).drop p) = p + an 4 iri ((aa s).drop p) + an 5 iri ((aa s).drop (p + an 4 iri ((aa s).drop p))) := by
        rw [ka (o7 iri) _ ((aa s).drop p) rfl, List.drop_drop]; omega
      have hg : ((aa s).drop p).getD (an 4 iri ((aa s).drop p)) 0 = bt s ((p + an 4 iri ((aa s).drop p) : Nat) : Int) := by
        rw [List.getD_eq_getElem?_getD, List.getElem?_drop, ← List.getD_eq_getElem?_getD, iz]
      rw [hg, Bool.true_and]
      have hj := tw s p (p + an 4 iri ((aa s).drop p)) (by omega) (by omega) hs iri sch ha aut _ e5
      have hsp := nL s p hp hs iri sch ha aut nil8 false nil8 false nil8 4
      by_cases hb : bt s ((p + an 4 iri ((aa s).drop p) : Nat) : Int) = 58
      · have hlt : p + an 4 iri ((aa s).drop p) < s.size := by
          rcases Nat.lt_or_ge (p + an 4 iri ((aa s).drop p)) s.size with h | h
          · exact h
          · rw [jw s h] at hb; omega
        have hgo : Ev (fun k => bk k (p : Int) true s (p : Int) iri sch ha aut nil8 false nil8 false nil8) (false, s, ((p + an 4 iri ((aa s).drop p) : Nat) : Int), iri, sch, ha, aut, nil8, false, nil8, false, nil8) := by
          refine Ev.step (fun k => by rw [bk]) (ab rfl (ah hsp ?_))
          dsimp only
          exact ab (by omega) (ab (by omega) (ab hb (az _)))
        refine ⟨_, hgo, fun _ => rfl, fun h => ?_⟩
        rw [hb] at h; simp at h
      · have hgo : Ev (fun k => bk k (p : Int) true s (p : Int) iri sch ha aut nil8 false nil8 false nil8) (jI ha (aa (s.extract p (p + an 5 iri ((aa s).drop p)))), s, ((p + an 5 iri ((aa s).drop p) : Nat) : Int), iri, sch, ha, aut, s.extract p (p + an 5 iri ((aa s).drop p)), false, nil8, false, nil8) := by
          refine Ev.step (fun k => by rw [bk]) (ab rfl (ah hsp ?_))
          dsimp only
          refine Ev.ite (fun h => ?_) (fun h => hj)
          exact ab (Int.natCast_nonneg _) (ae hb hj)
        refine ⟨_, hgo, fun h => ?_, fun _ => rfl⟩
        rw [beq_iff_eq] at h
        exact absurd h hb
  unfold bz jy
  by_cases h : sch.toList = ([] : List UInt8)
  · have e : (aa sch == []) = true := by rw [beq_iff_eq]; exact (dx sch).1 h
    rw [e, Bool.true_and]
    obtain ⟨z, hz, h1, h2⟩ := hj0 (!ha)
    exact ⟨z, ab h hz, h1, h2⟩
  · have e : (aa sch == []) = false := beq_eq_false_iff_ne.2 fun h' => h ((dx sch).2 h')
    rw [e]
    obtain ⟨z, hz, h1, h2⟩ := hj0 false
    exact ⟨z, ae h hz, fun h => by simp at h, fun _ => h2 (by simp)⟩
def qP (s : ByteArray) (iri : Bool) (e : Nat) : Nat := if bt s (e : Int) = 63 then e + 1 + an 6 iri ((aa s).drop (e + 1)) else e
def fP (s : ByteArray) (iri fr : Bool) (e : Nat) : Nat := if fr = true ∧ bt s (e : Int) = 35 then e + 1 + an 7 iri ((aa s).drop (e + 1)) else e
theorem nG (s : ByteArray) (c : Int) (hc : c ≠ 0) (n : Nat) : ((aa s).drop n).take 1 = [c] ↔ bt s (n : Int) = c := by
  rcases Nat.lt_or_ge n s.size with h | h
  · rw [fJ h]; simp
  · rw [List.drop_of_length_le (by rw [af]; exact h), jw s h]
    simp
    exact fun h => hc h.symm
theorem ni {s : ByteArray} {c : Int} (hc : c ≠ 0) {n : Nat} (h : bt s (n : Int) = c) : n < s.size := by
  rcases Nat.lt_or_ge n s.size with h' | h'
  · exact h'
  · rw [jw s h'] at h; exact absurd h.symm hc
theorem zc (s : ByteArray) (iri : Bool) (e : Nat) (he : e ≤ s.size) : e ≤ qP s iri e ∧ qP s iri e ≤ s.size := by
  unfold qP
  split
  · rename_i h
    have := ni (by decide) h
    have hle := hO 6 iri ((aa s).drop (e + 1))
    rw [List.length_drop, af] at hle
    omega
  · omega
theorem tC (s : ByteArray) (e : Nat) (he : e ≤ s.size) (hs : s.size ≤ 1000000) (iri : Bool) (sch : ByteArray) (ha : Bool) (aut pth : ByteArray) (hq : Bool) (q : ByteArray) (fr : Bool) :
    Ev (fun k => bU k fr s (e : Int) iri sch ha aut pth hq q false nil8)
      (s, (fP s iri fr e : Int), iri, sch, ha, aut, pth, hq, q, decide (fr = true ∧ bt s (e : Int) = 35), if fr = true ∧ bt s (e : Int) = 35 then s.extract (e + 1) (fP s iri fr e) else nil8) := by
  refine Ev.step (fun k => by rw [bU]) ?_
  unfold fP
  cases fr
  · refine ae (by simp) (Ev.val ?_)
    simp
  · refine ab rfl ?_
    have hn := rj s e he hs iri sch ha aut pth hq q false nil8 (⟨#[35]⟩ : ByteArray) (by decide)
    rw [xb] at hn
    have hz : (⟨#[35]⟩ : ByteArray).size = 1 := rfl
    rw [hz] at hn
    refine aG hn ?_
    by_cases h : bt s (e : Int) = 35
    · have hlt := ni (by decide) h
      rw [if_pos ((nG s 35 (by decide) e).2 h)]
      refine ab rfl ?_
      dsimp only
      refine ah (nL s (e + 1) (by omega) hs iri sch ha aut pth hq q true nil8 7) (Ev.val ?_)
      simp [h]
    · rw [if_neg (fun h' => h ((nG s 35 (by decide) e).1 h'))]
      refine ae (by simp) (Ev.val ?_)
      simp [h]
theorem yL (s : ByteArray) (e : Nat) (he : e ≤ s.size) (hs : s.size ≤ 1000000) (iri : Bool) (sch : ByteArray) (ha : Bool) (aut pth : ByteArray) (fr : Bool) :
    Ev (fun k => bA k s (e : Int) iri sch ha aut pth false nil8 false nil8 fr)
      (s, (fP s iri fr (qP s iri e) : Int), iri, sch, ha, aut, pth, decide (bt s (e : Int) = 63), (if bt s (e : Int) = 63 then s.extract (e + 1) (qP s iri e) else nil8), decide (fr = true ∧ bt s (qP s iri e : Int) = 35), if fr = true ∧ bt s (qP s iri e : Int) = 35 then s.extract (qP s iri e + 1) (fP s iri fr (qP s iri e)) else nil8) := by
  unfold bA
  have hq := zc s iri e he
  have hn := rj s e he hs iri sch ha aut pth false nil8 false nil8 (⟨#[63]⟩ : ByteArray) (by decide)
  have hb : aa (⟨#[63]⟩ : ByteArray) = [63] := by decide +kernel
  rw [hb] at hn
  have hz : (⟨#[63]⟩ : ByteArray).size = 1 := rfl
  rw [hz] at hn
  refine aG hn ?_
  by_cases h : bt s (e : Int) = 63
  · have hlt := ni (by decide) h
    rw [if_pos ((nG s 63 (by decide) e).2 h)]
    refine ab rfl ?_
    dsimp only
    have hqe : qP s iri e = e + 1 + an 6 iri ((aa s).drop (e + 1)) := by unfold qP; rw [if_pos h]
    have hsp := nL s (e + 1) (by omega) hs iri sch ha aut pth true nil8 false nil8 6
    rw [← hqe] at hsp
    refine ah hsp ?_
    dsimp only
    rw [decide_eq_true h, if_pos h]
    exact tC s (qP s iri e) hq.2 hs iri sch ha aut pth true _ fr
  · rw [if_neg (fun h' => h ((nG s 63 (by decide) e).1 h'))]
    refine ae (by simp) ?_
    dsimp only
    have hqe : qP s iri e = e := by unfold qP; rw [if_neg h]
    rw [hqe, decide_eq_false h, if_neg h]
    exact tC s e he hs iri sch ha aut pth false nil8 fr
end Go.Proofs.YtpmflpeckoeooaaGreatDoor.Y
