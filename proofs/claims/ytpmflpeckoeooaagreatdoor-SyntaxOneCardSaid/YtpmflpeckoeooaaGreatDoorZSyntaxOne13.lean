/- Texts that the law's proof needs, joined by a program of this session. -/
import Derived.Test.YtpmflpeckoeooaaGreatDoorZSyntaxOne2
import Derived.Test.YtpmflpeckoeooaaGreatDoorZSyntaxOne3
import Derived.Test.YtpmflpeckoeooaaGreatDoorZSyntaxOne4
import Derived.Test.YtpmflpeckoeooaaGreatDoorZSyntaxOne5
import Derived.Test.YtpmflpeckoeooaaGreatDoorZSyntaxOne7
import Derived.Test.YtpmflpeckoeooaaGreatDoorZSyntaxOne8
import Derived.Test.YtpmflpeckoeooaaGreatDoorZSyntaxOne9
import Derived.Test.YtpmflpeckoeooaaGreatDoorZSyntaxOne12
import Derived.Lib.Split
import Derived.Lib.SplitLaws
namespace Go.Proofs.YtpmflpeckoeooaaGreatDoor.Y
open Go Go.RowKit Go.Proofs.YtpmflpeckoeooaaGreatDoor.X Go.Proofs.YtpmflpeckoeooaaGreatDoor.M Go.Proofs.YtpmflpeckoeooaaGreatDoorW.PrintWords Go.Proofs.YtpmflpeckoeooaaGreatDoorW.PrintLast Go.Proofs.YtpmflpeckoeooaaGreatDoorW.PrintMore
set_option linter.unusedVariables false
def dP (l : List Int) : Int :=
  if h : l ≠ [] ∧ (dec l).2.2 = true then (if dP (l.drop (dec l).2.1.toNat) = -1 then -1 else (dec l).2.1 + dP (l.drop (dec l).2.1.toNat)) else if l = [] then -1 else 0
termination_by l.length
decreasing_by
  all_goals
    have := lr h.2
    have hl : l.length ≠ 0 := fun hz => h.1 (List.length_eq_zero_iff.1 hz)
    rw [List.length_drop]; omega
theorem oJ : dP [] = -1 := by rw [dP]; simp
theorem pA {l : List Int} (h : l ≠ []) (ok : (dec l).2.2 = true) : dP l = if dP (l.drop (dec l).2.1.toNat) = -1 then -1 else (dec l).2.1 + dP (l.drop (dec l).2.1.toNat) := by
  rw [dP, dif_pos ⟨h, ok⟩]
theorem oI {l : List Int} (h : l ≠ []) (ok : (dec l).2.2 = false) : dP l = 0 := by
  rw [dP, dif_neg (by rw [ok]; simp), if_neg h]
theorem rV : ∀ (n : Nat) (l : List Int), l.length = n → -1 ≤ dP l := by
  intro n
  induction n using Nat.strongRecOn with
  | _ n ih =>
    intro l hn
    by_cases h : l = []
    · rw [h, oJ]; omega
    · cases ok : (dec l).2.2
      · rw [oI h ok]; omega
      · have hp := lr ok
        have hl : l.length ≠ 0 := fun hz => h (List.length_eq_zero_iff.1 hz)
        have := ih (l.drop (dec l).2.1.toNat).length (by rw [List.length_drop]; omega) _ rfl
        rw [pA h ok]
        split <;> omega
def at_ (i : Nat) (z : Int) : Int := if z = -1 then -1 else (i : Int) + z
theorem tG (s : ByteArray) (hs : s.size ≤ 140737488351232) : ∀ d i : Nat, i + d = s.size → Ev (fun k => aaA k s (i : Int)) (at_ i (dP ((aa s).drop i))) := by
  intro d
  induction d using Nat.strongRecOn with
  | _ d ih =>
    intro i hi
    refine Ev.step (fun k => by rw [aaA]) ?_
    refine Ev.ite (fun h => ?_) (fun h => ?_)
    · have hne : (aa s).drop i ≠ [] := fun hz => by have := rT hz; omega
      refine ab (by omega) (ab (by omega) ?_)
      rw [Int.toNat_natCast]
      have hd := pr (s.extract i s.size) (by rw [← af, aY, List.length_drop, af]; omega)
      rw [aY] at hd
      refine ai hd ?_
      have hn := pW ((aa s).drop i)
      rw [List.length_drop, af] at hn
      cases hok : (dec ((aa s).drop i)).2.2
      · refine ae (by simp) (Ev.val ?_)
        rw [oI hne hok]; unfold at_; rw [if_neg (by omega)]; omega
      · have hn1 := lr hok
        refine ab rfl ?_
        rw [w64 (by omega) (by omega)]
        have := ih (s.size - (i + (dec ((aa s).drop i)).2.1.toNat)) (by omega) (i + (dec ((aa s).drop i)).2.1.toNat) (by omega)
        have e1 : ((i + (dec ((aa s).drop i)).2.1.toNat : Nat) : Int) = (i : Int) + (dec ((aa s).drop i)).2.1 := by omega
        rw [e1] at this
        have e2 : at_ i (dP ((aa s).drop i)) = at_ (i + (dec ((aa s).drop i)).2.1.toNat) (dP ((aa s).drop (i + (dec ((aa s).drop i)).2.1.toNat))) := by
          rw [pA hne hok, List.drop_drop]
          have hge := rV _ ((aa s).drop (i + (dec ((aa s).drop i)).2.1.toNat)) rfl
          have e1 : ((i + (dec ((aa s).drop i)).2.1.toNat : Nat) : Int) = (i : Int) + (dec ((aa s).drop i)).2.1 := by omega
          unfold at_
          rw [e1]
          split <;> (try split) <;> (try split) <;> omega
        rw [e2]
        exact this
    · rw [List.drop_of_length_le (by rw [af]; omega), oJ]
      exact Ev.val rfl
theorem u2 (s : ByteArray) (hs : s.size ≤ 140737488351232) : Ev (fun k => fZ k s) (dP (aa s)) := by
  have h := tG s hs s.size 0 (by omega)
  have e : at_ 0 (dP ((aa s).drop 0)) = dP (aa s) := by rw [List.drop_zero]; unfold at_; split <;> omega
  rw [e] at h
  exact h
theorem xr (s : ByteArray) (hs : s.size ≤ 140737488351232) : ∀ d i : Nat, i + d = s.size → Ev (fun k => dJ k s i) (at_ i (dP ((aa s).drop i))) := by
  intro d
  induction d using Nat.strongRecOn with
  | _ d ih =>
    intro i hi
    refine Ev.step (fun k => by rw [dJ]) ?_
    refine Ev.ite (fun h => ?_) (fun h => ?_)
    · have hne : (aa s).drop i ≠ [] := fun hz => by have := rT hz; omega
      rw [yj s i h]
      have hd := rR (s.extract i s.size) (by rw [← af, aY, List.length_drop, af]; omega)
      rw [aY] at hd
      have hn := pW ((aa s).drop i)
      rw [List.length_drop, af] at hn
      unfold jp
      cases hok : (dec ((aa s).drop i)).2.2
      · simp only [Bool.false_eq_true, if_false]
        refine ab (by decide) (ai hd (ae (by rw [hok]; simp) (Ev.val ?_)))
        rw [oI hne hok]; unfold at_; rw [if_neg (by omega)]; omega
      · have hn1 := lr hok
        simp only [if_true]
        have := ih (s.size - (i + (dec ((aa s).drop i)).2.1.toNat)) (by omega) (i + (dec ((aa s).drop i)).2.1.toNat) (by omega)
        have e2 : at_ i (dP ((aa s).drop i)) = at_ (i + (dec ((aa s).drop i)).2.1.toNat) (dP ((aa s).drop (i + (dec ((aa s).drop i)).2.1.toNat))) := by
          rw [pA hne hok, List.drop_drop]
          have hge := rV _ ((aa s).drop (i + (dec ((aa s).drop i)).2.1.toNat)) rfl
          have e1 : ((i + (dec ((aa s).drop i)).2.1.toNat : Nat) : Int) = (i : Int) + (dec ((aa s).drop i)).2.1 := by omega
          unfold at_
          rw [e1]
          split <;> (try split) <;> (try split) <;> omega
        rw [e2]
        exact Ev.ite (fun _ => ai hd (ab hok this)) (fun _ => this)
    · rw [List.drop_of_length_le (by rw [af]; omega), oJ]
      exact Ev.val rfl
theorem yP (s : ByteArray) (hs : s.size ≤ 140737488351232) : Ev (fun k => kB k s) (dP (aa s)) := by
  have h := xr s hs s.size 0 (by omega)
  have e : at_ 0 (dP ((aa s).drop 0)) = dP (aa s) := by rw [List.drop_zero]; unfold at_; split <;> omega
  rw [e] at h
  exact h
def ms (l : List Int) : Bool := decide (dP l < 0)
theorem zq (s : ByteArray) (hs : s.size ≤ 140737488351232) : Ev (fun k => iX k s) (ms (aa s)) := ai (yP s hs) (ay _)
end Go.Proofs.YtpmflpeckoeooaaGreatDoor.Y
namespace Go.Proofs.YtpmflpeckoeooaaGreatDoor.M
open Go Go.RowKit Go.Proofs.YtpmflpeckoeooaaGreatDoorW.PrintWords
set_option linter.unusedVariables false
def cz (sub : List Int) : List Int → Int
  | [] => if sub = [] then 0 else -1
  | b :: t => if sub.isPrefixOf (b :: t) then 0 else if cz sub t = -1 then -1 else cz sub t + 1
theorem kW (sub : List Int) (b : Int) (t : List Int) : cz sub (b :: t) = if sub.isPrefixOf (b :: t) then 0 else if cz sub t = -1 then -1 else cz sub t + 1 := rfl
theorem qL (sub l : List Int) : -1 ≤ cz sub l := by
  induction l with
  | nil => unfold cz; split <;> omega
  | cons b t ih => rw [kW]; split <;> (try split) <;> omega
theorem uZ (a l : List UInt8) : (a.map fun b => (b.toNat : Int)).isPrefixOf (l.map fun b => (b.toNat : Int)) = a.isPrefixOf l := by
  induction a generalizing l with
  | nil => rfl
  | cons x t ih =>
    cases l with
    | nil => rfl
    | cons y r =>
      rw [List.map_cons, List.map_cons, List.isPrefixOf_cons_cons, List.isPrefixOf_cons_cons, ih]
      congr 1
      rw [Bool.eq_iff_iff, beq_iff_eq, beq_iff_eq]
      constructor
      · intro h; exact UInt8.toNat_inj.1 (by omega)
      · intro h; rw [h]
theorem qd (l sub : List UInt8) : Go.Lib.index l sub = cz (sub.map fun b => (b.toNat : Int)) (l.map fun b => (b.toNat : Int)) := by
  induction l with
  | nil =>
    unfold Go.Lib.index
    rw [List.map_nil]
    unfold cz
    cases sub <;> simp
  | cons b t ih =>
    unfold Go.Lib.index
    have hp := uZ sub (b :: t)
    rw [List.map_cons] at hp ⊢
    rw [kW, hp, ih]
    by_cases h : sub.isPrefixOf (b :: t) = true
    · rw [if_pos h, if_pos h]
    · rw [if_neg h, if_neg h]
      simp only [beq_iff_eq]
theorem pn (s sub : ByteArray) : Go.Lib.indexB s sub = cz (aa sub) (aa s) := qd _ _
theorem su (c : Int) (l : List Int) : cz [c] l = idx c l := by
  induction l with
  | nil => unfold cz idx; simp
  | cons b t ih =>
    rw [kW, ih]
    have : idx c (b :: t) = if b = c then 0 else if idx c t = -1 then -1 else idx c t + 1 := rfl
    rw [this]
    by_cases h : b = c
    · rw [if_pos h, if_pos (by simp [h])]
    · rw [if_neg h, if_neg (by simp; exact fun x => h x.symm)]
theorem mr {sub l : List Int} (h : 0 ≤ cz sub l) : (cz sub l).toNat + sub.length ≤ l.length ∧ (l.drop (cz sub l).toNat).take sub.length = sub := by
  induction l with
  | nil =>
    unfold cz at h ⊢
    by_cases hs : sub = []
    · subst hs; simp
    · rw [if_neg hs] at h; omega
  | cons b t ih =>
    rw [kW] at h ⊢
    by_cases hp : sub.isPrefixOf (b :: t) = true
    · rw [if_pos hp]
      have := List.isPrefixOf_iff_prefix.1 hp
      refine ⟨?_, ?_⟩
      · have := this.length_le; simpa using this
      · simpa using (List.prefix_iff_eq_take.1 this).symm
    · rw [if_neg hp] at h ⊢
      by_cases h1 : cz sub t = -1
      · rw [if_pos h1] at h; omega
      · have hg := qL sub t
        rw [if_neg h1]
        have := ih (by omega)
        have e : (cz sub t + 1).toNat = (cz sub t).toNat + 1 := by omega
        rw [e, List.drop_succ_cons, List.length_cons]
        exact ⟨by omega, this.2⟩
def b6 (c : Int) : List Int → List (List Int)
  | [] => [[]]
  | b :: t => if b = c then [] :: b6 c t else (b :: (b6 c t).headD []) :: (b6 c t).tail
theorem gJ (c b : Int) (t : List Int) : b6 c (b :: t) = if b = c then [] :: b6 c t else (b :: (b6 c t).headD []) :: (b6 c t).tail := rfl
theorem wT (c : Int) (l : List Int) : b6 c l ≠ [] := by
  cases l with
  | nil => simp [b6]
  | cons b t => rw [gJ]; split <;> simp
theorem kz (c : Int) (l : List Int) : b6 c l = (b6 c l).headD [] :: (b6 c l).tail := by
  cases h : b6 c l with
  | nil => exact absurd h (wT c l)
  | cons a r => rfl
theorem pw {c : Int} {l : List Int} (h : c ∉ l) : b6 c l = [l] := by
  induction l with
  | nil => rfl
  | cons b t ih =>
    rw [List.mem_cons, not_or] at h
    rw [gJ, if_neg (fun x => h.1 x.symm), ih h.2]; rfl
theorem wS {c : Int} {a : List Int} (h : c ∉ a) (r : List Int) : b6 c (a ++ c :: r) = a :: b6 c r := by
  induction a with
  | nil => rw [List.nil_append, gJ, if_pos rfl]
  | cons b t ih =>
    rw [List.mem_cons, not_or] at h
    rw [List.cons_append, gJ, if_neg (fun x => h.1 x.symm), ih h.2]; rfl
theorem lc (c : Int) (l : List Int) : (b6 c l).length ≤ l.length + 1 := by
  induction l with
  | nil => simp [b6]
  | cons b t ih =>
    rw [gJ]
    split
    · simp; omega
    · simp only [List.length_cons, List.length_tail]; omega
theorem qt {c : Int} {l : List Int} : ∀ p ∈ b6 c l, c ∉ p ∧ (∀ b ∈ p, b ∈ l) ∧ p.length ≤ l.length := by
  induction l with
  | nil => intro p hp; simp [b6] at hp; subst hp; simp
  | cons b t ih =>
    intro p hp
    rw [gJ] at hp
    by_cases h : b = c
    · rw [if_pos h] at hp
      rcases List.mem_cons.1 hp with rfl | hp
      · simp
      · obtain ⟨h1, h2, h3⟩ := ih p hp
        exact ⟨h1, fun x hx => List.mem_cons_of_mem _ (h2 x hx), by rw [List.length_cons]; omega⟩
    · rw [if_neg h] at hp
      rcases List.mem_cons.1 hp with rfl | hp
      · obtain ⟨h1, h2, h3⟩ := ih ((b6 c t).headD []) (by rw [kz c t]; simp)
        refine ⟨?_, ?_, by simp only [List.length_cons]; omega⟩
        · rw [List.mem_cons, not_or]; exact ⟨fun x => h x.symm, h1⟩
        · intro x hx
          rcases List.mem_cons.1 hx with rfl | hx
          · exact List.mem_cons_self ..
          · exact List.mem_cons_of_mem _ (h2 x hx)
      · obtain ⟨h1, h2, h3⟩ := ih p (List.mem_of_mem_tail hp)
        exact ⟨h1, fun x hx => List.mem_cons_of_mem _ (h2 x hx), by rw [List.length_cons]; omega⟩
theorem rD (c : Int) (sep : ByteArray) (hsep : aa sep = [c]) : ∀ (k : Nat) (s : ByteArray), Go.Lib.countB s sep = k → (Go.Lib.splitB sep 0 k s).map aa = b6 c (aa s) := by
  have h1 : sep.size = 1 := by rw [← af, hsep]; rfl
  intro k
  induction k with
  | zero =>
    intro s hk
    rcases Go.Lib.indexB_cases s sep with hix | ⟨i, hix, hr⟩
    · rw [Go.Lib.splitB_zero, List.map_cons, List.map_nil]
      rw [pn, hsep, su] at hix
      rw [pw (pD.1 hix)]
    · have := Go.Lib.countB_hit s sep i (by omega) hix; omega
  | succ k ih =>
    intro s hk
    rcases Go.Lib.indexB_cases s sep with hix | ⟨i, hix, hr⟩
    · rw [Go.Lib.countB_miss s sep hix] at hk; omega
    · have hc := Go.Lib.countB_hit s sep i (by omega) hix
      rw [Go.Lib.splitB_hit sep 0 k s i hix, List.map_cons, ih _ (by omega)]
      rw [pn, hsep, su] at hix
      obtain ⟨e1, e2⟩ := oM (c := c) (l := aa s) (by omega)
      rw [hix, Int.toNat_natCast] at e1 e2
      conv => rhs; rw [e1]
      rw [wS e2, au, au, h1, List.drop_zero, Nat.add_zero]
      rw [← af, List.take_length]
def k6 (l : List Int) : Int := l.foldl (fun n b => 10 * n + (b - 48)) 0
def d8 (l : List Int) : Int :=
  if l.length = 0 ∨ 3 < l.length ∨ (1 < l.length ∧ l.headD 0 = 48) then -1 else if l.all dM then (if k6 l ≤ 255 then k6 l else -1) else -1
def n5 (n : Int) : List Int := if n < 10 then [48 + n] else if n < 100 then [48 + n / 10, 48 + n % 10] else [48 + n / 100, 48 + n / 10 % 10, 48 + n % 10]
theorem yK {n : Int} (h0 : 0 ≤ n) (h1 : n ≤ 255) : d8 (n5 n) = n :=
  ci (p := fun n => d8 (n5 n) = n) (by decide +kernel) h0 h1
theorem jc {b : Int} : dM b = true ↔ 48 ≤ b ∧ b ≤ 57 := by unfold dM; rw [decide_eq_true_iff]
theorem tS {l : List Int} (h : 0 ≤ d8 l) : n5 (d8 l) = l ∧ d8 l ≤ 255 := by
  unfold d8 at h ⊢
  by_cases h1 : l.length = 0 ∨ 3 < l.length ∨ (1 < l.length ∧ l.headD 0 = 48)
  · rw [if_pos h1] at h; omega
  · rw [if_neg h1] at h ⊢
    by_cases h2 : l.all dM = true
    · rw [if_pos h2] at h ⊢
      by_cases h3 : k6 l ≤ 255
      · rw [if_pos h3] at h ⊢
        refine ⟨?_, h3⟩
        match l, h1, h2, h3 with
        | [], h1, _, _ => simp at h1
        | [a], h1, h2, h3 =>
          simp only [List.all_cons, List.all_nil, Bool.and_true, jc] at h2
          simp only [k6, List.foldl_cons, List.foldl_nil] at h3 ⊢
          unfold n5
          rw [if_pos (by omega)]
          congr 1; omega
        | [a, b], h1, h2, h3 =>
          simp only [List.all_cons, List.all_nil, Bool.and_true, Bool.and_eq_true, jc] at h2
          simp only [List.length_cons, List.length_nil, List.headD_cons] at h1
          simp only [k6, List.foldl_cons, List.foldl_nil] at h3 ⊢
          unfold n5
          rw [if_neg (by omega), if_pos (by omega)]
          congr 1
          · omega
          · congr 1; omega
        | [a, b, c], h1, h2, h3 =>
          simp only [List.all_cons, List.all_nil, Bool.and_true, Bool.and_eq_true, jc] at h2
          simp only [List.length_cons, List.length_nil, List.headD_cons] at h1
          simp only [k6, List.foldl_cons, List.foldl_nil] at h3 ⊢
          unfold n5
          rw [if_neg (by omega), if_neg (by omega)]
          congr 1
          · omega
          · congr 1
            · omega
            · congr 1; omega
        | _ :: _ :: _ :: _ :: _, h1, _, _ => simp only [List.length_cons] at h1; omega
      · rw [if_neg h3] at h; omega
    · rw [if_neg h2] at h; omega
theorem zC {n : Int} {l : List Int} (h0 : 0 ≤ n) (h1 : n ≤ 255) : n5 n = l ↔ d8 l = n := by
  constructor
  · intro h; rw [← h]; exact yK h0 h1
  · intro h
    have := (tS (l := l) (by omega)).1
    rw [h] at this; exact this
theorem pj {l : List Int} (h : l.all dM = true) : 0 ≤ k6 l := by
  have key : ∀ (l : List Int) (n : Int), 0 ≤ n → l.all dM = true → 0 ≤ l.foldl (fun n b => 10 * n + (b - 48)) n := by
    intro l
    induction l with
    | nil => intro n hn _; exact hn
    | cons b t ih =>
      intro n hn h
      rw [List.all_cons, Bool.and_eq_true, jc] at h
      exact ih _ (by show 0 ≤ 10 * n + (b - 48); omega) h.2
  exact key l 0 (by omega) h
theorem lq (l : List Int) : -1 ≤ d8 l ∧ d8 l ≤ 255 := by
  by_cases h : 0 ≤ d8 l
  · have := (tS h).2; omega
  · unfold d8 at h ⊢
    by_cases h1 : l.length = 0 ∨ 3 < l.length ∨ (1 < l.length ∧ l.headD 0 = 48)
    · rw [if_pos h1]; omega
    · rw [if_neg h1] at h ⊢
      by_cases h2 : l.all dM = true
      · rw [if_pos h2] at h ⊢
        by_cases h3 : k6 l ≤ 255
        · rw [if_pos h3] at h ⊢
          have key := pj h2
          omega
        · rw [if_neg h3]; omega
      · rw [if_neg h2]; omega
theorem xl {l : List Int} (h : 0 ≤ d8 l) : l.all dM = true := by
  unfold d8 at h
  by_cases h1 : l.length = 0 ∨ 3 < l.length ∨ (1 < l.length ∧ l.headD 0 = 48)
  · rw [if_pos h1] at h; omega
  · rw [if_neg h1] at h
    by_cases h2 : l.all dM = true
    · exact h2
    · rw [if_neg h2] at h; omega
def v4 (l : List Int) : Option (Int × Int × Int × Int) :=
  match b6 46 l with
  | [a, b, c, d] => if 0 ≤ d8 a ∧ 0 ≤ d8 b ∧ 0 ≤ d8 c ∧ 0 ≤ d8 d then some (d8 a, d8 b, d8 c, d8 d) else none
  | _ => none
theorem zU {l : List Int} (h : 46 ∉ l) : v4 l = none := by
  unfold v4
  rw [pw h]
theorem sC {l : List Int} {a b c d : Int} (h : v4 l = some (a, b, c, d)) : (0 ≤ a ∧ a ≤ 255) ∧ (0 ≤ b ∧ b ≤ 255) ∧ (0 ≤ c ∧ c ≤ 255) ∧ 0 ≤ d ∧ d ≤ 255 := by
  unfold v4 at h
  split at h
  · rename_i x y z w _
    split at h
    · simp only [Option.some.injEq, Prod.mk.injEq] at h
      obtain ⟨rfl, rfl, rfl, rfl⟩ := h
      have := lq x
      have := lq y
      have := lq z
      have := lq w
      omega
    · cases h
  · cases h
def jR (n : Int) : List Int → Int
  | [] => n
  | b :: t => jR (16 * n + hv b) t
def fy (l : List Int) : Int := if l.length = 0 ∨ 4 < l.length then -1 else if l.all bC then jR 0 l else -1
theorem uK : ∀ (l : List Int) (n m : Int), l.all bC = true → 0 ≤ n → n < m → 0 ≤ jR n l ∧ jR n l < m * 16 ^ l.length := by
  intro l
  induction l with
  | nil => intro n m _ h0 h1; simp [jR]; omega
  | cons b t ih =>
    intro n m h h0 h1
    rw [List.all_cons, Bool.and_eq_true, ← kO] at h
    have hr := kH b
    have := ih (16 * n + hv b) (16 * m) h.2 (by omega) (by omega)
    refine ⟨this.1, Int.lt_of_lt_of_le this.2 ?_⟩
    rw [List.length_cons, Int.pow_succ]
    have : 16 * m * 16 ^ t.length = m * (16 ^ t.length * 16) := by
      rw [Int.mul_comm 16 m, Int.mul_assoc, Int.mul_comm 16]
    omega
theorem sE {l : List Int} (h : 0 ≤ fy l) : l.all bC = true ∧ 1 ≤ l.length ∧ l.length ≤ 4 := by
  unfold fy at h
  by_cases h1 : l.length = 0 ∨ 4 < l.length
  · rw [if_pos h1] at h; omega
  · rw [if_neg h1] at h
    by_cases h2 : l.all bC = true
    · exact ⟨h2, by omega, by omega⟩
    · rw [if_neg h2] at h; omega
def gj (fin : Bool) : List (List Int) → Option (List Int)
  | [] => some []
  | p :: r => if r = [] ∧ fin = true ∧ (v4 p).isSome then (v4 p).map fun x => [256 * x.1 + x.2.1, 256 * x.2.2.1 + x.2.2.2]
    else if fy p < 0 then none else (gj fin r).map fun l => fy p :: l
theorem jo (fin : Bool) (p : List Int) (r : List (List Int)) : gj fin (p :: r) = if r = [] ∧ fin = true ∧ (v4 p).isSome then (v4 p).map fun x => [256 * x.1 + x.2.1, 256 * x.2.2.1 + x.2.2.2]
    else if fy p < 0 then none else (gj fin r).map fun l => fy p :: l := rfl
theorem o2 {fin : Bool} {r : List (List Int)} {l : List Int} (h : gj fin r = some l) : l.length ≤ r.length + 1 := by
  induction r generalizing l with
  | nil => simp [gj] at h; subst h; simp
  | cons p r ih =>
    rw [jo] at h
    split at h
    · obtain ⟨x, _, rfl⟩ := Option.map_eq_some_iff.1 h
      simp
    · split at h
      · cases h
      · obtain ⟨x, hx, rfl⟩ := Option.map_eq_some_iff.1 h
        have := ih hx
        simp only [List.length_cons]; omega
theorem tP {r : List (List Int)} (h : ∀ p ∈ r, (46 : Int) ∉ p) (fin : Bool) : gj fin r = gj false r := by
  induction r with
  | nil => rfl
  | cons p r ih =>
    have hp := zU (h p (List.mem_cons_self ..))
    rw [jo, jo, ih (fun q hq => h q (List.mem_cons_of_mem _ hq)), hp]
    simp
theorem wY {r : List (List Int)} {l : List Int} (h : gj false r = some l) : ∀ p ∈ r, (46 : Int) ∉ p ∧ p.all bC = true := by
  induction r generalizing l with
  | nil => simp
  | cons p r ih =>
    rw [jo, if_neg (by simp)] at h
    split at h
    · cases h
    · rename_i hw
      obtain ⟨x, hx, rfl⟩ := Option.map_eq_some_iff.1 h
      intro q hq
      rcases List.mem_cons.1 hq with rfl | hq
      · have := (sE (l := q) (by omega)).1
        refine ⟨fun hm => ?_, this⟩
        have := List.all_eq_true.1 this _ hm
        simp [bC] at this
      · exact ih hx q hq
def gC (fin : Bool) (l : List Int) : Option (List Int) := if l = [] then some [] else gj fin (b6 58 l)
def v6 (l : List Int) : Option (List Int) :=
  if cz [58, 58] l < 0 then (gC true l).bind fun w => if w.length = 8 then some w else none
  else (gC false (l.take (cz [58, 58] l).toNat)).bind fun a => (gC true (l.drop ((cz [58, 58] l).toNat + 2))).bind fun b =>
    if a.length + b.length ≤ 7 then some (a ++ List.replicate (8 - a.length - b.length) 0 ++ b) else none
def fut : List Int → Bool
  | [] => false
  | v :: t => (v == 118 || v == 86) && decide (0 < be bC t) && decide (2 ≤ (t.drop (be bC t)).length) && ((t.drop (be bC t)).headD 0 == 46) && ((t.drop (be bC t)).tail.all fun b => cf 1 b)
def mi (l : List Int) : Bool := decide (2 ≤ l.length) && (l.headD 0 == 91) && (l.getLastD 0 == 93)
def iM (iri : Bool) (l : List Int) : Int :=
  if mi l then (if (v6 ((l.take (l.length - 1)).drop 1)).isSome || fut ((l.take (l.length - 1)).drop 1) then 3 else 0)
  else if (v4 l).isSome then 1 else if bo 2 iri l then 2 else 0
end Go.Proofs.YtpmflpeckoeooaaGreatDoor.M
namespace Go.Proofs.YtpmflpeckoeooaaGreatDoor.Y
open Go.RowKit Go.Proofs.YtpmflpeckoeooaaGreatDoor.X Go.Proofs.YtpmflpeckoeooaaGreatDoor.M Go.Proofs.YtpmflpeckoeooaaGreatDoorW.PrintWords Go.Proofs.YtpmflpeckoeooaaGreatDoorW.PrintLast Go.Proofs.YtpmflpeckoeooaaGreatDoorW.PrintMore
set_option linter.unusedVariables false
theorem un (s sep : ByteArray) (c : Int) (hsep : aa sep = [c]) (hs : s.size < 4294967281) : ∃ R : List ByteArray, g5 s sep = some R ∧ R.map aa = b6 c (aa s) := by
  have h1 : sep.size = 1 := by rw [← af, hsep]; rfl
  refine ⟨_, ?_, rD c sep hsep _ s rfl⟩
  unfold g5
  rw [if_pos ⟨hs, by omega⟩]
theorem ye (s sep : ByteArray) (hs : s.size < 4294967281) (h1 : sep.size ≤ 1000) : dy s sep = some (if cz (aa sep) (aa s) < 0 then (s, (⟨#[]⟩ : ByteArray), false)
    else (s.extract 0 (cz (aa sep) (aa s)).toNat, s.extract ((cz (aa sep) (aa s)).toNat + sep.size) s.size, true)) := by
  unfold dy i1 iA
  rw [if_pos hs]
  have e : Go.Lib.index s.data.toList sep.data.toList = cz (aa sep) (aa s) := qd _ _
  rw [e]
  simp only [Option.bind_some]
  by_cases h : cz (aa sep) (aa s) < 0
  · rw [if_neg (by omega), if_pos h]; rfl
  · have hsp := mr (sub := aa sep) (l := aa s) (by omega)
    rw [af, af] at hsp
    rw [if_pos (by omega), if_pos (by omega), if_pos (by omega), w64 (by omega) (by omega), if_pos (by omega), if_pos (by omega), if_neg h]
    simp only [Option.bind_some]
    have : (cz (aa sep) (aa s) + (sep.size : Int)).toNat = (cz (aa sep) (aa s)).toNat + sep.size := by omega
    rw [this]
theorem rX (pre : List ByteArray) (x : ByteArray) : fd ByteArray.empty (pre ++ [x]) (((pre ++ [x]).length : Int) - 1) = x := by
  unfold fd
  rw [List.length_append, List.length_singleton]
  have : (((pre.length + 1 : Nat) : Int) - 1).toNat = pre.length := by omega
  rw [this]
  simp
theorem xN (s : ByteArray) (c : Int) (hs : s.size ≤ 1000000) : ∀ d i : Nat, i + d = s.size → ∀ (pre : List ByteArray) (x : ByteArray), pre.length ≤ i → x.size ≤ i →
    ∃ R, Ev (fun k => bp k s c (pre ++ [x]) (i : Int)) R ∧ R.map aa = pre.map aa ++ (aa x ++ (b6 c ((aa s).drop i)).headD []) :: (b6 c ((aa s).drop i)).tail := by
  intro d
  induction d with
  | zero =>
    intro i hi pre x hp hx
    refine ⟨pre ++ [x], ?_, ?_⟩
    · refine Ev.step (fun k => by rw [bp]) ?_
      exact ae (by omega) (ay _)
    · rw [List.drop_of_length_le (by rw [af]; omega)]
      simp [b6]
  | succ d ih =>
    intro i hi pre x hp hx
    rcases bB s i (by omega) with ⟨h, _⟩ | ⟨h, e, b0, b1⟩
    · omega
    rw [e, gJ]
    by_cases hb : bt s (i : Int) = c
    · obtain ⟨R, h1, h2⟩ := ih (i + 1) (by omega) (pre ++ [x]) (⟨#[]⟩ : ByteArray) (by rw [List.length_append]; simp; omega) (by show 0 ≤ _; omega)
      refine ⟨R, ?_, ?_⟩
      · refine Ev.step (fun k => by rw [bp]) ?_
        refine ab (by omega) (ab (by omega) (ab hb (ab (by rw [List.length_append]; simp; omega) ?_)))
        rw [w64 (by omega) (by omega)]
        exact h1
      · rw [h2, if_pos hb]
        have : aa (⟨#[]⟩ : ByteArray) = [] := rfl
        rw [this, List.map_append]
        simp only [List.map_cons, List.map_nil, List.nil_append, List.headD_cons, List.tail_cons, List.append_nil, List.append_assoc, List.singleton_append]
        rw [← kz]
    · have hx1 : (s.extract i (i + 1)).size = 1 := by rw [← af, au, List.length_drop, List.length_take, af]; omega
      have hsz : (x ++ s.extract i (i + 1)).size = x.size + 1 := by
        rw [ByteArray.size_append, hx1]
      obtain ⟨R, h1, h2⟩ := ih (i + 1) (by omega) pre (x ++ s.extract i (i + 1)) (by omega) (by omega)
      refine ⟨R, ?_, ?_⟩
      · refine Ev.step (fun k => by rw [bp]) ?_
        have hl : (pre ++ [x]).length = pre.length + 1 := by simp
        rw [w64 (x := ((pre ++ [x]).length : Int) - 1) (by omega) (by omega), w64 (x := (i : Int) + 1) (by omega) (by omega), rX]
        have e1 : ((i : Int) + 1).toNat = i + 1 := by omega
        have e2 : (((pre ++ [x]).length : Int) - 1).toNat = pre.length := by omega
        rw [e1, e2, Int.toNat_natCast, hx1]
        refine ab (by omega) (ab (by omega) (ae hb (ab (by omega) (ab (by omega) (ab (by omega) (ab (by omega) (ab (by omega) ?_)))))))
        have e3 : (pre ++ [x]).set pre.length (x ++ s.extract i (i + 1)) = pre ++ [x ++ s.extract i (i + 1)] := by simp
        rw [e3]
        exact h1
      · rw [h2, if_neg hb, bl, au]
        have : ((aa s).take (i + 1)).drop i = [bt s (i : Int)] := by
          rw [List.drop_take, e, show i + 1 - i = 1 by omega, List.take_succ_cons, List.take_zero]
        rw [this]
        simp
theorem uh (s : ByteArray) (c : Int) (hs : s.size ≤ 1000000) : ∃ R, Ev (fun k => eS k s c) R ∧ R.map aa = b6 c (aa s) := by
  obtain ⟨R, h1, h2⟩ := xN s c hs s.size 0 (by omega) [] (⟨#[]⟩ : ByteArray) (by simp) (by show 0 ≤ _; omega)
  refine ⟨R, h1, ?_⟩
  rw [h2, List.drop_zero]
  have : aa (⟨#[]⟩ : ByteArray) = [] := rfl
  rw [this]
  simp only [List.map_nil, List.nil_append]
  rw [← kz]
theorem sn {R : List ByteArray} {L : List (List Int)} (h : R.map aa = L) (i : Nat) : aa (fd ByteArray.empty R (i : Int)) = L.getD i [] := by
  subst h
  unfold fd
  rw [Int.toNat_natCast, List.getD_eq_getElem?_getD, List.getD_eq_getElem?_getD, List.getElem?_map]
  cases R[i]? with
  | none => rfl
  | some x => rfl
def p10 : Nat → Int
  | 0 => 1
  | 1 => 10
  | 2 => 100
  | _ => 1000
theorem xK {i : Nat} (hi : i < 3) {n b : Int} (h0 : 0 ≤ n) (h1 : n < p10 i) (b0 : 48 ≤ b) (b1 : b ≤ 57) : 0 ≤ 10 * n + (b - 48) ∧ 10 * n + (b - 48) < p10 (i + 1) ∧ n ≤ 1000 := by
  rcases i with _ | _ | _ | i
  · simp only [p10] at *; omega
  · simp only [p10] at *; omega
  · simp only [p10] at *; omega
  · omega
theorem uy (s : ByteArray) (h3 : s.size ≤ 3) : ∀ d i : Nat, ∀ n : Int, i + d = s.size → 0 ≤ n → n < p10 i → Ev (fun k => dx k s n (s.size : Int) (i : Int))
    (if ((aa s).drop i).all dM then (((aa s).drop i).foldl (fun n b => 10 * n + (b - 48)) n % 256, decide (((aa s).drop i).foldl (fun n b => 10 * n + (b - 48)) n ≤ 255)) else (0, false)) := by
  intro d
  induction d with
  | zero =>
    intro i n hi _ _
    rw [List.drop_of_length_le (by rw [af]; omega)]
    refine Ev.step (fun k => by rw [dx]) ?_
    exact ae (by omega) (ay _)
  | succ d ih =>
    intro i n hi h0 h1
    rcases bB s i (by omega) with ⟨h, _⟩ | ⟨h, e, b0, b1⟩
    · omega
    refine Ev.step (fun k => by rw [dx]) ?_
    refine ab (by omega) (ab (by omega) (ab (by omega) (ai (uP 2 b0 b1) ?_)))
    rw [e, rh b0 b1, List.all_cons, List.foldl_cons]
    cases hd : dM (bt s (i : Int))
    · refine ae (by simp) (Ev.val (by simp))
    · refine ab rfl ?_
      have hb := jc.1 hd
      have hst := xK (i := i) (by omega) h0 h1 hb.1 hb.2
      have e1 : wrap64 (wrap64 (10 * n) + (bt s (i : Int) - 48) % 256) = 10 * n + (bt s (i : Int) - 48) := by
        rw [w64 (x := 10 * n) (by omega) (by omega), w64 (by omega) (by omega)]; omega
      rw [e1, w64 (by omega) (by omega)]
      simp only [Bool.true_and]
      exact ih (i + 1) _ (by omega) hst.1 hst.2.1
theorem vR (s : ByteArray) (hs : s.size ≤ 140737488351232) : ∃ n : Int, Ev (fun k => fq k s) (n, decide (0 ≤ d8 (aa s))) ∧ (0 ≤ d8 (aa s) → n = d8 (aa s)) := by
  have bad : (aa s).length = 0 ∨ 3 < (aa s).length ∨ (1 < (aa s).length ∧ (aa s).headD 0 = 48) → Ev (fun k => cw k s true) (0, decide (0 ≤ d8 (aa s))) ∧ ¬ 0 ≤ d8 (aa s) := by
    intro h
    have hd : d8 (aa s) = -1 := by unfold d8; rw [if_pos h]
    rw [hd]
    refine ⟨?_, by omega⟩
    refine Ev.step (fun k => by rw [cw]) ?_
    exact ab rfl (ay _)
  have hh : 0 < s.size → (aa s).headD 0 = bt s 0 := by
    intro h
    rcases g8 s with ⟨h2, _⟩ | ⟨_, e, _⟩
    · omega
    · rw [e]; rfl
  by_cases hb : (aa s).length = 0 ∨ 3 < (aa s).length ∨ (1 < (aa s).length ∧ (aa s).headD 0 = 48)
  · obtain ⟨h1, h2⟩ := bad hb
    refine ⟨0, ?_, fun h => absurd h h2⟩
    unfold fq
    rw [af] at hb
    refine Ev.ite (fun _ => h1) (fun _ => Ev.ite (fun _ => h1) (fun _ => Ev.ite (fun _ => ab (by omega) ?_) (fun _ => by omega)))
    have : (bt s 0 == 48) = true := by
      rw [beq_iff_eq, ← hh (by omega)]
      omega
    rw [this]
    exact h1
  · have hb2 := hb
    rw [af] at hb
    have eM : Ev (fun k => cw k s false) (if (aa s).all dM then (k6 (aa s) % 256, decide (k6 (aa s) ≤ 255)) else (0, false)) := by
      refine Ev.step (fun k => by rw [cw]) ?_
      refine ae (by simp) ?_
      exact uy s (by omega) s.size 0 0 (by omega) (by omega) (by decide)
    have all : Ev (fun k => fq k s) (if (aa s).all dM then (k6 (aa s) % 256, decide (k6 (aa s) ≤ 255)) else (0, false)) := by
      unfold fq
      refine ae (by omega) (ae (by omega) (Ev.ite (fun _ => ab (by omega) ?_) (fun _ => eM)))
      have : (bt s 0 == 48) = false := by
        rw [beq_eq_false_iff_ne, ← hh (by omega)]
        intro h
        omega
      rw [this]
      exact eM
    have hr := lq (aa s)
    unfold d8 at hr ⊢
    rw [if_neg hb2] at hr ⊢
    cases ha : (aa s).all dM
    · rw [ha] at all
      exact ⟨0, all, by simp⟩
    · rw [ha] at all
      by_cases h255 : k6 (aa s) ≤ 255
      · rw [if_pos h255] at hr ⊢
        simp only [if_true] at hr all ⊢
        have h0 := pj ha
        rw [decide_eq_true h255] at all
        refine ⟨k6 (aa s) % 256, ?_, fun _ => by omega⟩
        rw [decide_eq_true h0]
        exact all
      · rw [decide_eq_false h255] at all
        rw [if_neg h255]
        exact ⟨_, all, by simp⟩
def v4T (l : List Int) : Int × Int × Int × Int × Bool := match v4 l with
  | some (a, b, c, d) => (a, b, c, d, true)
  | none => (0, 0, 0, 0, false)
theorem qy (l : List Int) : (v4T l).2.2.2.2 = (v4 l).isSome := by
  unfold v4T
  cases v4 l with
  | none => rfl
  | some x => obtain ⟨a, b, c, d⟩ := x; rfl
theorem ur (l a b c d : List Int) (h : b6 46 l = [a, b, c, d]) : v4 l = if 0 ≤ d8 a ∧ 0 ≤ d8 b ∧ 0 ≤ d8 c ∧ 0 ≤ d8 d then some (d8 a, d8 b, d8 c, d8 d) else none := by
  unfold v4; rw [h]
theorem sB (l : List Int) (h : (b6 46 l).length ≠ 4) : v4 l = none := by
  unfold v4
  split
  · rename_i e; rw [e] at h; simp at h
  · rfl
theorem pc (R : List ByteArray) (i : Nat) (hi : i < R.length) (p : ByteArray) (hp : fd ByteArray.empty R (i : Int) = p) (hsz : p.size ≤ 140737488351232) (h4 : i < 4) (a b c d : Int) (r : Int × Int × Int × Int × Bool)
    (bad : ¬ 0 ≤ d8 (aa p) → r = (0, 0, 0, 0, false))
    (eM : 0 ≤ d8 (aa p) → Ev (fun k => fc k R (R.length : Int) ((i : Int) + 1) (if i = 0 then d8 (aa p) else a) (if i = 1 then d8 (aa p) else b) (if i = 2 then d8 (aa p) else c) (if i = 3 then d8 (aa p) else d)) r) :
    Ev (fun k => fc k R (R.length : Int) (i : Int) a b c d) r := by
  obtain ⟨n, h1, h2⟩ := vR p hsz
  refine Ev.step (fun k => by rw [fc]) ?_
  rw [hp]
  refine ab (by omega) (ab (by omega) (ab (by omega) (ai h1 ?_)))
  simp only
  by_cases hd : 0 ≤ d8 (aa p)
  · rw [decide_eq_true hd]
    rw [h2 hd, w64 (by omega) (by omega)]
    have g := eM hd
    refine ab rfl ?_
    have : i = 0 ∨ i = 1 ∨ i = 2 ∨ i = 3 := by omega
    rcases this with rfl | rfl | rfl | rfl
    · exact ab (by omega) g
    · exact ae (by omega) (ab (by omega) g)
    · exact ae (by omega) (ae (by omega) (ab (by omega) g))
    · exact ae (by omega) (ae (by omega) (ae (by omega) (ab (by omega) g)))
  · rw [decide_eq_false hd]
    exact ae (by simp) (Ev.val (bad hd).symm)
theorem qE {α : Type} {R : List α} (h : R.length = 4) : ∃ a b c d, R = [a, b, c, d] := by
  match R, h with
  | [a, b, c, d], _ => exact ⟨a, b, c, d, rfl⟩
theorem oY {R : List ByteArray} {c : Int} {l : List Int} (h : R.map aa = b6 c l) {p : ByteArray} (hp : p ∈ R) : p.size ≤ l.length := by
  rw [← af]
  exact (qt (c := c) (l := l) _ (by rw [← h]; exact List.mem_map.2 ⟨p, hp, rfl⟩)).2.2
theorem zV (s : ByteArray) (hs : s.size ≤ 1000000) : Ev (fun k => ke k s) (v4T (aa s)) := by
  obtain ⟨R, hR, hL⟩ := un s (⟨#[46]⟩ : ByteArray) 46 rfl (by omega)
  unfold ke
  refine bD hR ?_
  have hlen : R.length = (b6 46 (aa s)).length := by rw [← hL, List.length_map]
  by_cases h4 : R.length = 4
  · refine ab (by omega) ?_
    obtain ⟨a, b, c, d, rfl⟩ := qE h4
    have hsz : ∀ p ∈ [a, b, c, d], p.size ≤ 140737488351232 := fun p hp => by have := oY hL hp; rw [af] at this; omega
    have hv := ur (aa s) _ _ _ _ (by rw [← hL]; rfl)
    have badv : ¬ (0 ≤ d8 (aa a) ∧ 0 ≤ d8 (aa b) ∧ 0 ≤ d8 (aa c) ∧ 0 ≤ d8 (aa d)) → v4T (aa s) = (0, 0, 0, 0, false) := by
      intro h
      unfold v4T
      rw [hv, if_neg h]
    refine pc [a, b, c, d] 0 (by simp) a rfl (hsz a (by simp)) (by omega) 0 0 0 0 _ (fun h => badv (fun x => h x.1)) (fun ha => ?_)
    refine pc [a, b, c, d] 1 (by simp) b rfl (hsz b (by simp)) (by omega) _ _ _ _ _ (fun h => badv (fun x => h x.2.1)) (fun hb => ?_)
    refine pc [a, b, c, d] 2 (by simp) c rfl (hsz c (by simp)) (by omega) _ _ _ _ _ (fun h => badv (fun x => h x.2.2.1)) (fun hc => ?_)
    refine pc [a, b, c, d] 3 (by simp) d rfl (hsz d (by simp)) (by omega) _ _ _ _ _ (fun h => badv (fun x => h x.2.2.2)) (fun hd => ?_)
    refine Ev.step (fun k => by rw [fc]) ?_
    refine ae (by simp) (Ev.val ?_)
    rw [if_pos ⟨ha, hb, hc, hd⟩] at hv
    unfold v4T
    rw [hv]
    simp
  · refine ae (by omega) (Ev.val ?_)
    unfold v4T
    rw [sB _ (by omega)]
theorem xn {n : Int} (h0 : 0 ≤ n) (h1 : n ≤ 255) : ∃ t : ByteArray, Ev (fun k => aav k n) t ∧ aa t = n5 n := by
  have := ci (p := fun n => ((aav 5 n).map aa) = some (n5 n)) (by decide +kernel) h0 h1
  obtain ⟨t, h2, h3⟩ := Option.map_eq_some_iff.1 this
  exact ⟨t, mg (fun k => mH n k) h2, h3⟩
theorem xS (R : List ByteArray) (i : Nat) (hi : i < R.length) (h4 : i < 4) (p : ByteArray) (hp : fd ByteArray.empty R (i : Int) = p) (a b c d : Int) (r : Int × Int × Int × Int × Bool)
    (bad : ¬ 0 ≤ d8 (aa p) → r = (0, 0, 0, 0, false))
    (eM : 0 ≤ d8 (aa p) → Ev (fun k => bF k R ((i : Int) + 1) (if i = 0 then d8 (aa p) else a) (if i = 1 then d8 (aa p) else b) (if i = 2 then d8 (aa p) else c) (if i = 3 then d8 (aa p) else d)) r) :
    ∀ m n : Nat, n + m = 256 → Ev (fun k => dc k R (i : Int) (if 0 ≤ d8 (aa p) ∧ d8 (aa p) < n then d8 (aa p) else -1) (n : Int) a b c d) r := by
  intro m
  induction m with
  | zero =>
    intro n hn
    refine Ev.step (fun k => by rw [dc]) ?_
    refine ae (by omega) ?_
    have hr := lq (aa p)
    by_cases hd : 0 ≤ d8 (aa p)
    · rw [if_pos ⟨hd, by omega⟩, w64 (by omega) (by omega)]
      have g := eM hd
      refine ae (by omega) (ab (by omega) ?_)
      have : i = 0 ∨ i = 1 ∨ i = 2 ∨ i = 3 := by omega
      rcases this with rfl | rfl | rfl | rfl
      · exact ab (by omega) g
      · exact ae (by omega) (ab (by omega) g)
      · exact ae (by omega) (ae (by omega) (ab (by omega) g))
      · exact ae (by omega) (ae (by omega) (ae (by omega) (ab (by omega) g)))
    · rw [if_neg (fun x => hd x.1)]
      exact ab (by omega) (Ev.val (bad hd).symm)
  | succ m ih =>
    intro n hn
    obtain ⟨t, h1, h2⟩ := xn (n := (n : Int)) (by omega) (by omega)
    refine Ev.step (fun k => by rw [dc]) ?_
    refine ab (by omega) (ai h1 (ab (by omega) (ab (by omega) ?_)))
    rw [hp, w64 (by omega) (by omega)]
    have key : t.toList = p.toList ↔ d8 (aa p) = (n : Int) := by
      rw [jn, h2]
      exact zC (by omega) (by omega)
    have nx := ih (n + 1) (by omega)
    refine Ev.ite (fun h => ?_) (fun h => ?_)
    · have e := key.1 h
      have e2 : (if 0 ≤ d8 (aa p) ∧ d8 (aa p) < ((n + 1 : Nat) : Int) then d8 (aa p) else -1) = (n : Int) := by rw [if_pos (by omega), e]
      rw [e2] at nx
      exact nx
    · have e := fun x => h (key.2 x)
      have e2 : (if 0 ≤ d8 (aa p) ∧ d8 (aa p) < ((n + 1 : Nat) : Int) then d8 (aa p) else -1) = (if 0 ≤ d8 (aa p) ∧ d8 (aa p) < (n : Int) then d8 (aa p) else -1) := by
        by_cases hc : 0 ≤ d8 (aa p) ∧ d8 (aa p) < (n : Int)
        · rw [if_pos hc, if_pos ⟨hc.1, by omega⟩]
        · rw [if_neg hc, if_neg (fun x => hc ⟨x.1, by have : d8 (aa p) ≠ (n : Int) := e; omega⟩)]
      rw [e2] at nx
      exact nx
theorem mo (R : List ByteArray) (i : Nat) (hi : i < R.length) (h4 : i < 4) (p : ByteArray) (hp : fd ByteArray.empty R (i : Int) = p) (a b c d : Int) (r : Int × Int × Int × Int × Bool)
    (bad : ¬ 0 ≤ d8 (aa p) → r = (0, 0, 0, 0, false))
    (eM : 0 ≤ d8 (aa p) → Ev (fun k => bF k R ((i : Int) + 1) (if i = 0 then d8 (aa p) else a) (if i = 1 then d8 (aa p) else b) (if i = 2 then d8 (aa p) else c) (if i = 3 then d8 (aa p) else d)) r) :
    Ev (fun k => bF k R (i : Int) a b c d) r := by
  refine Ev.step (fun k => by rw [bF]) ?_
  refine ab (by omega) ?_
  have := xS R i hi h4 p hp a b c d r bad eM 256 0 (by omega)
  rw [if_neg (by omega)] at this
  exact this
theorem ul (s : ByteArray) (hs : s.size ≤ 1000000) : Ev (fun k => gl k s) (v4T (aa s)) := by
  obtain ⟨R, hR, hL⟩ := uh s 46 hs
  unfold gl
  refine ai hR ?_
  have hlen : R.length = (b6 46 (aa s)).length := by rw [← hL, List.length_map]
  by_cases h4 : R.length = 4
  · refine ab (by omega) ?_
    obtain ⟨a, b, c, d, rfl⟩ := qE h4
    have hv := ur (aa s) _ _ _ _ (by rw [← hL]; rfl)
    have badv : ¬ (0 ≤ d8 (aa a) ∧ 0 ≤ d8 (aa b) ∧ 0 ≤ d8 (aa c) ∧ 0 ≤ d8 (aa d)) → v4T (aa s) = (0, 0, 0, 0, false) := by
      intro h
      unfold v4T
      rw [hv, if_neg h]
    refine mo [a, b, c, d] 0 (by simp) (by omega) a rfl 0 0 0 0 _ (fun h => badv (fun x => h x.1)) (fun ha => ?_)
    refine mo [a, b, c, d] 1 (by simp) (by omega) b rfl _ _ _ _ _ (fun h => badv (fun x => h x.2.1)) (fun hb => ?_)
    refine mo [a, b, c, d] 2 (by simp) (by omega) c rfl _ _ _ _ _ (fun h => badv (fun x => h x.2.2.1)) (fun hc => ?_)
    refine mo [a, b, c, d] 3 (by simp) (by omega) d rfl _ _ _ _ _ (fun h => badv (fun x => h x.2.2.2)) (fun hd => ?_)
    refine Ev.step (fun k => by rw [bF]) ?_
    refine ae (by simp) (Ev.val ?_)
    rw [if_pos ⟨ha, hb, hc, hd⟩] at hv
    unfold v4T
    rw [hv]
    simp
  · refine ae (by omega) (Ev.val ?_)
    unfold v4T
    rw [sB _ (by omega)]
theorem lV (n : Int) (h0 : 0 ≤ n) (h1 : n < 2 ^ 16) : IntKind.u16.wrap n = n := by
  simp [IntKind.wrap, IntKind.bits, IntKind.signed]
  omega
theorem wZ (n : Int) (h0 : 0 ≤ n) (h1 : n < 2 ^ 62) : IntKind.i64.wrap n = n := by
  rw [IntKind.wrap_i64]; omega
theorem sA {a b : Int} (a0 : 0 ≤ a) (a1 : a ≤ 255) (b0 : 0 ≤ b) (b1 : b ≤ 255) : Go.bits .or .u16 (IntKind.u16.wrap (IntKind.u16.wrap a * 256)) (IntKind.u16.wrap b) = 256 * a + b := by
  rw [lV a a0 (by omega), lV (a * 256) (by omega) (by omega), lV b b0 (by omega)]
  rw [bits_join .u16 16 (by decide) lV 8 (a * 256) b (by omega) (by omega) (by omega) (by omega) (by omega) (by omega)]
  omega
theorem yW {a b : Int} (a0 : 0 ≤ a) (a1 : a ≤ 1000000) (b0 : 0 ≤ b) (b1 : b ≤ 15) : Go.bits .or .i64 (wrap64 (a * 16)) b = 16 * a + b := by
  rw [w64 (by omega) (by omega), bits_join .i64 62 (by decide) wZ 4 (a * 16) b (by omega) (by omega) (by omega) (by omega) (by omega) (by omega)]
  omega
def p16 : Nat → Int
  | 0 => 1
  | 1 => 16
  | 2 => 256
  | 3 => 4096
  | _ => 65536
theorem sj {i : Nat} (hi : i < 4) {n b : Int} (h0 : 0 ≤ n) (h1 : n < p16 i) (b0 : 0 ≤ b) (b1 : b ≤ 15) : 0 ≤ 16 * n + b ∧ 16 * n + b < p16 (i + 1) ∧ n ≤ 65536 := by
  rcases i with _ | _ | _ | _ | i
  · simp only [p16] at *; omega
  · simp only [p16] at *; omega
  · simp only [p16] at *; omega
  · simp only [p16] at *; omega
  · omega
theorem zr (s : ByteArray) (h4 : s.size ≤ 4) : ∀ d i : Nat, ∀ n : Int, i + d = s.size → 0 ≤ n → n < p16 i → Ev (fun k => fD k s n (s.size : Int) (i : Int))
    (if ((aa s).drop i).all bC then (jR n ((aa s).drop i), true) else (0, false)) := by
  intro d
  induction d with
  | zero =>
    intro i n hi h0 h1
    rw [List.drop_of_length_le (by rw [af]; omega)]
    refine Ev.step (fun k => by rw [fD]) ?_
    refine ae (by omega) (Ev.val ?_)
    have : n < 65536 := by
      have h := h1
      have : i ≤ 4 := by omega
      rcases i with _ | _ | _ | _ | _ | i
      all_goals (first | omega | (simp only [p16] at h; omega))
    rw [lV n h0 (by omega)]
    rfl
  | succ d ih =>
    intro i n hi h0 h1
    rcases bB s i (by omega) with ⟨h, _⟩ | ⟨h, e, b0, b1⟩
    · omega
    refine Ev.step (fun k => by rw [fD]) ?_
    refine ab (by omega) (ab (by omega) (ab (by omega) (ai (qO b0 b1) ?_)))
    rw [e, List.all_cons]
    have hr := kH (bt s (i : Int))
    by_cases hv0 : hv (bt s (i : Int)) < 0
    · simp only [if_pos hv0]
      rw [(wa _).1 hv0]
      exact ae (by simp) (Ev.val (by simp))
    · simp only [if_neg hv0]
      rw [(kO _).1 (by omega)]
      refine ab (by simp) ?_
      have hst := sj (i := i) (by omega) h0 h1 (b := hv (bt s (i : Int))) (by omega) (by omega)
      rw [yW h0 (by omega) (by omega) (by omega), w64 (by omega) (by omega)]
      simp only [Bool.true_and, jR]
      exact ih (i + 1) _ (by omega) hst.1 hst.2.1
theorem zW (s : ByteArray) (hs : s.size ≤ 140737488351232) : Ev (fun k => jf k s) (if fy (aa s) < 0 then (0, false) else (fy (aa s), true)) := by
  have hb := uK (aa s) 0 1
  have bad : (aa s).length = 0 ∨ 4 < (aa s).length → Ev (fun k => fC k s true) (if fy (aa s) < 0 then (0, false) else (fy (aa s), true)) := by
    intro h
    have : fy (aa s) = -1 := by unfold fy; rw [if_pos h]
    rw [this]
    refine Ev.step (fun k => by rw [fC]) ?_
    exact ab rfl (ay _)
  unfold jf
  have hl := af s
  refine Ev.ite (fun h => bad (by omega)) (fun h => ?_)
  by_cases h4 : (s.size : Int) > 4
  · rw [decide_eq_true h4]
    exact bad (by omega)
  · rw [decide_eq_false h4]
    refine Ev.step (fun k => by rw [fC]) ?_
    refine ae (by simp) ?_
    have := zr s (by omega) s.size 0 0 (by omega) (by omega) (by decide)
    rw [List.drop_zero] at this
    have e : (if fy (aa s) < 0 then ((0 : Int), false) else (fy (aa s), true)) = (if (aa s).all bC then (jR 0 (aa s), true) else (0, false)) := by
      have hw : fy (aa s) = if (aa s).all bC then jR 0 (aa s) else -1 := by
        unfold fy
        rw [if_neg (by omega)]
      rw [hw]
      by_cases ha : (aa s).all bC = true
      · have := hb ha (by omega) (by omega)
        simp only [if_pos ha]
        rw [if_neg (by omega)]
      · simp only [if_neg ha]
        rw [if_pos (by omega)]
    rw [e]
    exact this
theorem vo (s : ByteArray) (h4 : s.size ≤ 4) : ∀ d i : Nat, ∀ n : Int, i + d = s.size → 0 ≤ n → n < p16 i → Ev (fun k => dg k s n (i : Int))
    (if ((aa s).drop i).all bC then jR n ((aa s).drop i) else -1) := by
  intro d
  induction d with
  | zero =>
    intro i n hi h0 h1
    rw [List.drop_of_length_le (by rw [af]; omega)]
    refine Ev.step (fun k => by rw [dg]) ?_
    exact ae (by omega) (ay _)
  | succ d ih =>
    intro i n hi h0 h1
    rcases bB s i (by omega) with ⟨h, _⟩ | ⟨h, e, b0, b1⟩
    · omega
    refine Ev.step (fun k => by rw [dg]) ?_
    refine ab (by omega) (ab (by omega) (ai (mq b0 b1) ?_))
    rw [e, List.all_cons]
    have hr := kH (bt s (i : Int))
    by_cases hv0 : hv (bt s (i : Int)) < 0
    · rw [(wa _).1 hv0]
      exact ab hv0 (Ev.val (by simp))
    · rw [(kO _).1 (by omega)]
      refine ae hv0 ?_
      have hst := sj (i := i) (by omega) h0 h1 (b := hv (bt s (i : Int))) (by omega) (by omega)
      rw [w64 (x := 16 * n) (by omega) (by omega), w64 (x := 16 * n + hv (bt s (i : Int))) (by omega) (by omega), w64 (by omega) (by omega)]
      simp only [Bool.true_and, jR]
      exact ih (i + 1) _ (by omega) hst.1 hst.2.1
theorem wJ (s : ByteArray) (hs : s.size ≤ 140737488351232) : Ev (fun k => gu k s) (fy (aa s)) := by
  have bad : (aa s).length = 0 ∨ 4 < (aa s).length → Ev (fun k => df k s true) (fy (aa s)) := by
    intro h
    have : fy (aa s) = -1 := by unfold fy; rw [if_pos h]
    rw [this]
    refine Ev.step (fun k => by rw [df]) ?_
    exact ab rfl (ay _)
  unfold gu
  have hl := af s
  refine Ev.ite (fun h => bad (by omega)) (fun h => ?_)
  by_cases h4 : (s.size : Int) > 4
  · rw [decide_eq_true h4]
    exact bad (by omega)
  · rw [decide_eq_false h4]
    refine Ev.step (fun k => by rw [df]) ?_
    refine ae (by simp) ?_
    have := vo s (by omega) s.size 0 0 (by omega) (by omega) (by decide)
    rw [List.drop_zero] at this
    unfold fy
    rw [if_neg (by omega)]
    exact this
def dn (out : List Int) : Option (List Int) → List Int × Bool
  | some w => (out ++ w, true)
  | none => ([], false)
theorem lH {α : Type} {L : List α} {i : Nat} (h : i < L.length) (z : α) : L.drop i = L.getD i z :: L.drop (i + 1) := by
  rw [List.drop_eq_getElem_cons h, List.getD_eq_getElem?_getD, List.getElem?_eq_getElem h]; rfl
theorem mZ {α : Type} {L : List α} {i : Nat} (h : i < L.length) : L.drop (i + 1) = [] ↔ i + 1 = L.length := by
  rw [List.drop_eq_nil_iff]; omega
theorem yl (fin : Bool) (R : List ByteArray) (L : List (List Int)) (hL : R.map aa = L) (hp : ∀ p ∈ R, p.size ≤ 1000000) (hR : R.length ≤ 1000001) : ∀ d i : Nat, i + d = R.length → ∀ out : List Int, out.length ≤ i →
    Ev (fun k => eh k fin out R R (R.length : Int) (i : Int)) (dn out (gj fin (L.drop i))) := by
  have hlen : L.length = R.length := by rw [← hL, List.length_map]
  intro d
  induction d with
  | zero =>
    intro i hi out ho
    rw [List.drop_of_length_le (by omega)]
    refine Ev.step (fun k => by rw [eh]) ?_
    exact ae (by omega) (Ev.val (by simp [gj, dn]))
  | succ d ih =>
    intro i hi out ho
    have hmem : fd ByteArray.empty R (i : Int) ∈ R := by
      unfold fd
      rw [Int.toNat_natCast, List.getD_eq_getElem?_getD, List.getElem?_eq_getElem (by omega)]
      exact List.getElem_mem _
    have hq := sn hL i
    refine Ev.step (fun k => by rw [eh]) ?_
    refine ab (by omega) (ab (by omega) (ab (by omega) (ai (zV _ (hp _ hmem)) ?_)))
    rw [hq, lH (L := L) (i := i) (by omega) [], jo, qy]
    have last : ∀ x : ByteArray, aa x = L.getD i [] → x.size ≤ 1000000 → ∀ a b c e : Int, ¬ (L.drop (i + 1) = [] ∧ fin = true ∧ (v4 (L.getD i [])).isSome = true) →
        Ev (fun k => ee k fin out R x R (R.length : Int) (i : Int) false a b c e) (dn out (if L.drop (i + 1) = [] ∧ fin = true ∧ (v4 (L.getD i [])).isSome = true then (v4 (L.getD i [])).map fun x => [256 * x.1 + x.2.1, 256 * x.2.2.1 + x.2.2.2] else if fy (L.getD i []) < 0 then none else (gj fin (L.drop (i + 1))).map fun l => fy (L.getD i []) :: l)) := by
      intro x hx hxs a b c e hno
      rw [if_neg hno]
      refine Ev.step (fun k => by rw [ee]) ?_
      refine ae (by simp) (ai (zW x (by omega)) ?_)
      rw [hx]
      by_cases hw : fy (L.getD i []) < 0
      · simp only [if_pos hw]
        exact ae (by simp) (ay _)
      · simp only [if_neg hw]
        refine ab (by simp) (ab (by omega) ?_)
        rw [w64 (by omega) (by omega)]
        have := ih (i + 1) (by omega) (out ++ [fy (L.getD i [])]) (by rw [List.length_append, List.length_singleton]; omega)
        have e2 : dn (out ++ [fy (L.getD i [])]) (gj fin (L.drop (i + 1))) = dn out ((gj fin (L.drop (i + 1))).map fun l => fy (L.getD i []) :: l) := by
          cases gj fin (L.drop (i + 1)) with
          | none => rfl
          | some w => simp [dn]
        rw [← e2]
        exact this
    refine Ev.ite (fun h4 => ?_) (fun h4 => last _ hq (hp _ hmem) _ _ _ _ (fun x => h4 x.2.2))
    refine Ev.ite (fun hf => ?_) (fun hf => last _ hq (hp _ hmem) _ _ _ _ (fun x => hf x.2.1))
    rw [w64 (by omega) (by omega)]
    by_cases hend : i + 1 = R.length
    · have : ((i : Int) == (R.length : Int) - 1) = true := by rw [beq_iff_eq]; omega
      rw [this, if_pos ⟨(mZ (by omega)).2 (by omega), hf, h4⟩]
      refine Ev.step (fun k => by rw [ee]) ?_
      refine ab rfl ?_
      obtain ⟨⟨a, b, c, e⟩, hx⟩ := Option.isSome_iff_exists.1 h4
      have hr := sC hx
      rw [hx]
      unfold v4T
      rw [hx]
      simp only
      rw [sA hr.1.1 hr.1.2 hr.2.1.1 hr.2.1.2, sA hr.2.2.1.1 hr.2.2.1.2 hr.2.2.2.1 hr.2.2.2.2]
      refine bD rfl (ab (by simp only [List.length_cons, List.length_nil]; omega) (Ev.val ?_))
      rfl
    · have : ((i : Int) == (R.length : Int) - 1) = false := by rw [beq_eq_false_iff_ne]; omega
      rw [this]
      exact last _ hq (hp _ hmem) _ _ _ _ (fun x => hend (by have := (mZ (L := L) (i := i) (by omega)).1 x.1; omega))
theorem kM (s : ByteArray) : s.toList = ([] : List UInt8) ↔ aa s = [] := by
  rw [jz]
  unfold aa
  exact List.map_eq_nil_iff.symm
theorem qR (s : ByteArray) (fin : Bool) (hs : s.size ≤ 1000000) : Ev (fun k => ck k s fin) (dn [] (gC fin (aa s))) := by
  unfold ck gC
  refine Ev.ite (fun h => ?_) (fun h => ?_)
  · rw [if_pos ((kM s).1 h)]
    exact Ev.val rfl
  · rw [if_neg (fun x => h ((kM s).2 x))]
    obtain ⟨R, hR, hL⟩ := un s (⟨#[58]⟩ : ByteArray) 58 rfl (by omega)
    refine bD hR ?_
    have hlen := lc 58 (aa s)
    rw [← hL, List.length_map, af] at hlen
    have := yl fin R _ hL (fun p hp => by have := oY hL hp; rw [af] at this; omega) (by omega) R.length 0 (by omega) [] (by simp)
    rw [List.drop_zero] at this
    exact this
theorem wG (R : List ByteArray) (L : List (List Int)) (hL : R.map aa = L) (hp : ∀ p ∈ R, p.size ≤ 1000000) (hR : R.length ≤ 1000001) : ∀ d i : Nat, i + d = R.length → ∀ out : List Int, out.length ≤ i →
    Ev (fun k => cv k out R (i : Int)) (dn out (gj true (L.drop i))) := by
  have hlen : L.length = R.length := by rw [← hL, List.length_map]
  intro d
  induction d with
  | zero =>
    intro i hi out ho
    rw [List.drop_of_length_le (by omega)]
    refine Ev.step (fun k => by rw [cv]) ?_
    exact ae (by omega) (Ev.val (by simp [gj, dn]))
  | succ d ih =>
    intro i hi out ho
    have hmem : fd ByteArray.empty R (i : Int) ∈ R := by
      unfold fd
      rw [Int.toNat_natCast, List.getD_eq_getElem?_getD, List.getElem?_eq_getElem (by omega)]
      exact List.getElem_mem _
    have hq := sn hL i
    refine Ev.step (fun k => by rw [cv]) ?_
    refine ab (by omega) (ab (by omega) (ai (ul _ (hp _ hmem)) ?_))
    rw [hq, lH (L := L) (i := i) (by omega) [], jo, qy]
    have last : ∀ a b c e : Int, ¬ (L.drop (i + 1) = [] ∧ true = true ∧ (v4 (L.getD i [])).isSome = true) →
        Ev (fun k => dp k out R (i : Int) false a b c e) (dn out (if L.drop (i + 1) = [] ∧ true = true ∧ (v4 (L.getD i [])).isSome = true then (v4 (L.getD i [])).map fun x => [256 * x.1 + x.2.1, 256 * x.2.2.1 + x.2.2.2] else if fy (L.getD i []) < 0 then none else (gj true (L.drop (i + 1))).map fun l => fy (L.getD i []) :: l)) := by
      intro a b c e hno
      rw [if_neg hno]
      refine Ev.step (fun k => by rw [dp]) ?_
      refine ae (by simp) (ab (by omega) (ab (by omega) (ai (wJ _ (by have := hp _ hmem; omega)) ?_)))
      rw [hq]
      refine Ev.ite (fun hw => ?_) (fun hw => ?_)
      · rw [if_pos hw]
        exact ay _
      · rw [if_neg hw]
        refine ab (by omega) ?_
        rw [w64 (by omega) (by omega)]
        have := ih (i + 1) (by omega) (out ++ [fy (L.getD i [])]) (by rw [List.length_append, List.length_singleton]; omega)
        have e2 : dn (out ++ [fy (L.getD i [])]) (gj true (L.drop (i + 1))) = dn out ((gj true (L.drop (i + 1))).map fun l => fy (L.getD i []) :: l) := by
          cases gj true (L.drop (i + 1)) with
          | none => rfl
          | some w => simp [dn]
        rw [← e2]
        exact this
    refine Ev.ite (fun h4 => ?_) (fun h4 => last _ _ _ _ (fun x => h4 x.2.2))
    rw [w64 (by omega) (by omega)]
    by_cases hend : i + 1 = R.length
    · have : ((i : Int) == (R.length : Int) - 1) = true := by rw [beq_iff_eq]; omega
      rw [this, if_pos ⟨(mZ (by omega)).2 (by omega), rfl, h4⟩]
      refine Ev.step (fun k => by rw [dp]) ?_
      refine ab rfl ?_
      obtain ⟨⟨a, b, c, e⟩, hx⟩ := Option.isSome_iff_exists.1 h4
      have hr := sC hx
      rw [hx]
      unfold v4T
      rw [hx]
      simp only
      rw [w64 (x := 256 * a) (by omega) (by omega), w64 (x := 256 * a + b) (by omega) (by omega), w64 (x := 256 * c) (by omega) (by omega), w64 (x := 256 * c + e) (by omega) (by omega)]
      refine bD rfl (ab (by simp only [List.length_cons, List.length_nil]; omega) (Ev.val ?_))
      rfl
    · have : ((i : Int) == (R.length : Int) - 1) = false := by rw [beq_eq_false_iff_ne]; omega
      rw [this]
      exact last _ _ _ _ (fun x => hend (by have := (mZ (L := L) (i := i) (by omega)).1 x.1; omega))
theorem pJ (s : ByteArray) (hs : s.size ≤ 1000000) : Ev (fun k => eD k s) (dn [] (gC true (aa s))) := by
  unfold eD gC
  refine bD rfl ?_
  refine Ev.ite (fun h => ?_) (fun h => ?_)
  · rw [if_pos ((kM s).1 h)]
    exact Ev.val rfl
  · rw [if_neg (fun x => h ((kM s).2 x))]
    obtain ⟨R, hR, hL⟩ := uh s 58 hs
    refine ai hR ?_
    have hlen := lc 58 (aa s)
    rw [← hL, List.length_map, af] at hlen
    have := wG R _ hL (fun p hp => by have := oY hL hp; rw [af] at this; omega) (by omega) R.length 0 (by omega) [] (by simp)
    rw [List.drop_zero] at this
    exact this
end Go.Proofs.YtpmflpeckoeooaaGreatDoor.Y
namespace Go.Proofs.YtpmflpeckoeooaaGreatDoor.Y
open Go.RowKit Go.Proofs.YtpmflpeckoeooaaGreatDoor.X Go.Proofs.YtpmflpeckoeooaaGreatDoor.M Go.Proofs.YtpmflpeckoeooaaGreatDoorW.PrintWords Go.Proofs.YtpmflpeckoeooaaGreatDoorW.PrintLast Go.Proofs.YtpmflpeckoeooaaGreatDoorW.PrintMore
set_option linter.unusedVariables false
set_option linter.unusedSimpArgs false
def oy (l : List Int) (b : Bool) : Int × Int × Int × Int × Int × Int × Int × Int × Bool := (l.getD 0 0, l.getD 1 0, l.getD 2 0, l.getD 3 0, l.getD 4 0, l.getD 5 0, l.getD 6 0, l.getD 7 0, b)
def ja : List Int := [0, 0, 0, 0, 0, 0, 0, 0]
def v6T (l : List Int) : Int × Int × Int × Int × Int × Int × Int × Int × Bool := match v6 l with
  | some w => oy w true
  | none => oy ja false
theorem wX (l : List Int) : (v6T l).2.2.2.2.2.2.2.2 = (v6 l).isSome := by
  unfold v6T
  cases v6 l <;> rfl
theorem zh (p : List Int) (h : p.length = 8) : aK ap 0 p 8 = p := by
  unfold aK ap
  rw [← h, List.take_length, h]
  simp
theorem xP (a b : List Int) (h : a.length + b.length ≤ 7) : aK (aK ap 0 a 8) (8 - b.length) b b.length = a ++ List.replicate (8 - a.length - b.length) 0 ++ b := by
  have hz : ap = List.replicate 8 0 := rfl
  unfold aK
  rw [hz]
  have e1 : a.take 8 = a := List.take_of_length_le (by omega)
  rw [e1, List.take_length]
  simp only [List.take_zero, List.nil_append, Nat.zero_add]
  rw [List.drop_replicate, List.take_append]
  have e2 : a.take (8 - b.length) = a := List.take_of_length_le (by omega)
  rw [e2, List.take_replicate]
  have e3 : (a ++ List.replicate (8 - a.length) 0).drop (8 - b.length + b.length) = ([] : List Int) := by
    apply List.drop_of_length_le
    rw [List.length_append, List.length_replicate]; omega
  rw [e3, List.append_nil, show min (8 - b.length - a.length) (8 - a.length) = 8 - a.length - b.length by omega]
theorem aaq (s : ByteArray) (hs : s.size ≤ 1000000) : Ev (fun k => kP k s) (v6T (aa s)) := by
  unfold kP
  have hc := ye s (⟨#[58, 58]⟩ : ByteArray) (by omega) (by decide)
  have hb : aa (⟨#[58, 58]⟩ : ByteArray) = [58, 58] := rfl
  have hz : (⟨#[58, 58]⟩ : ByteArray).size = 2 := rfl
  rw [hb, hz] at hc
  refine bD hc ?_
  by_cases hneg : cz [58, 58] (aa s) < 0
  · simp only [if_pos hneg]
    refine ai (qR s _ hs) ?_
    simp only [Bool.not_false]
    unfold v6T v6
    rw [if_pos hneg]
    cases hr : gC true (aa s) with
    | none => exact ab rfl (Ev.val rfl)
    | some w =>
      refine ae (by simp [dn]) (ab (by simp) ?_)
      simp only [dn, List.nil_append, Option.bind_some]
      refine Ev.ite (fun h => ?_) (fun h => ?_)
      · rw [if_pos h, zh w h]
        exact Ev.val rfl
      · rw [if_neg h]
        exact Ev.val rfl
  · simp only [if_neg hneg]
    have hsp := mr (sub := [58, 58]) (l := aa s) (by omega)
    simp only [List.length_cons, List.length_nil, af] at hsp
    unfold v6T v6
    rw [if_neg hneg]
    generalize (cz [58, 58] (aa s)).toNat = j at hsp ⊢
    have h1 := qR (s.extract 0 j) (!true) (by rw [← af, au, List.length_drop, List.length_take, af]; omega)
    have h2 := qR (s.extract (j + 2) s.size) true (by rw [← af, au, List.length_drop, List.length_take, af]; omega)
    rw [au, List.drop_zero] at h1
    rw [aY] at h2
    simp only [Bool.not_true] at h1 ⊢
    refine ai h1 ?_
    cases ha : gC false ((aa s).take j) with
    | none => exact ab rfl (Ev.val rfl)
    | some a =>
      refine ae (by simp [dn]) (ae (by simp) (ai h2 ?_))
      simp only [dn, List.nil_append, Option.bind_some]
      have hla : a.length ≤ 1000003 := by
        unfold gC at ha
        split at ha
        · cases ha; simp
        · have := o2 ha
          have := lc 58 ((aa s).take j)
          rw [List.length_take, af] at this; omega
      cases hbb : gC true ((aa s).drop (j + 2)) with
      | none => exact ab rfl (Ev.val rfl)
      | some b =>
        have hlb : b.length ≤ 1000003 := by
          unfold gC at hbb
          split at hbb
          · cases hbb; simp
          · have := o2 hbb
            have := lc 58 ((aa s).drop (j + 2))
            rw [List.length_drop, af] at this; omega
        refine ae (by simp [dn]) ?_
        simp only [dn, List.nil_append, Option.bind_some]
        have hw : wrap64 ((a.length : Int) + (b.length : Int)) = (a.length : Int) + (b.length : Int) := w64 (by omega) (by omega)
        simp only [hw]
        refine Ev.ite (fun h => ?_) (fun h => ab (by omega) ?_)
        · rw [if_neg (by omega)]
          exact Ev.val rfl
        · rw [if_pos (by omega), xP a b (by omega)]
          exact Ev.val rfl
theorem pz {S : List Int} (h : S.length = 8) : ∃ a b c d e f g i, S = [a, b, c, d, e, f, g, i] := by
  match S, h with
  | [a, b, c, d, e, f, g, i], _ => exact ⟨a, b, c, d, e, f, g, i, rfl⟩
def L1 (k : Nat) (x : List Int) (i : Int) (S : List Int) := bu k x i (S.getD 0 0) (S.getD 1 0) (S.getD 2 0) (S.getD 3 0) (S.getD 4 0) (S.getD 5 0) (S.getD 6 0) (S.getD 7 0)
def L2 (k : Nat) (x y : List Int) (i : Int) (S : List Int) := bv k x y i (S.getD 0 0) (S.getD 1 0) (S.getD 2 0) (S.getD 3 0) (S.getD 4 0) (S.getD 5 0) (S.getD 6 0) (S.getD 7 0)
def L3 (k : Nat) (y : List Int) (i : Int) (S : List Int) := al k y i (S.getD 0 0) (S.getD 1 0) (S.getD 2 0) (S.getD 3 0) (S.getD 4 0) (S.getD 5 0) (S.getD 6 0) (S.getD 7 0)
theorem rP {i : Nat} (h : i < 8) : i = 0 ∨ i = 1 ∨ i = 2 ∨ i = 3 ∨ i = 4 ∨ i = 5 ∨ i = 6 ∨ i = 7 := by omega
theorem qH (x : List Int) (i : Nat) : rd x (i : Int) = x.getD i 0 := by unfold rd; rw [Int.toNat_natCast]
theorem yA (x : List Int) (i : Nat) (hi : i < 8) (hx : i < x.length) (S : List Int) (hS : S.length = 8) (r : Int × Int × Int × Int × Int × Int × Int × Int × Bool)
    (h : Ev (fun k => L1 k x ((i + 1 : Nat) : Int) (S.set i (x.getD i 0))) r) : Ev (fun k => L1 k x (i : Int) S) r := by
  obtain ⟨a, b, c, d, e, f, g, j, rfl⟩ := pz hS
  refine Ev.step (fun k => by rw [L1, bu]) ?_
  rw [w64 (by omega) (by omega), qH]
  refine ab (by omega) (ab (by omega) (ab (by omega) ?_))
  rcases rP hi with rfl | rfl | rfl | rfl | rfl | rfl | rfl | rfl
  · exact ab (by omega) h
  · exact ae (by omega) (ab (by omega) h)
  · exact ae (by omega) (ae (by omega) (ab (by omega) h))
  · exact ae (by omega) (ae (by omega) (ae (by omega) (ab (by omega) h)))
  · exact ae (by omega) (ae (by omega) (ae (by omega) (ae (by omega) (ab (by omega) h))))
  · exact ae (by omega) (ae (by omega) (ae (by omega) (ae (by omega) (ae (by omega) (ab (by omega) h)))))
  · exact ae (by omega) (ae (by omega) (ae (by omega) (ae (by omega) (ae (by omega) (ae (by omega) (ab (by omega) h))))))
  · exact ae (by omega) (ae (by omega) (ae (by omega) (ae (by omega) (ae (by omega) (ae (by omega) (ae (by omega) (ab (by omega) h)))))))
theorem yB (x y : List Int) (i : Nat) (hi : i < 8) (hx : i < x.length) (hl : x.length ≤ 8) (S : List Int) (hS : S.length = 8) (r : Int × Int × Int × Int × Int × Int × Int × Int × Bool)
    (h : Ev (fun k => L2 k x y ((i + 1 : Nat) : Int) (S.set i (x.getD i 0))) r) : Ev (fun k => L2 k x y (i : Int) S) r := by
  obtain ⟨a, b, c, d, e, f, g, j, rfl⟩ := pz hS
  refine Ev.step (fun k => by rw [L2, bv]) ?_
  rw [w64 (by omega) (by omega), qH]
  refine ab (by omega) (ab (by omega) ?_)
  rcases rP hi with rfl | rfl | rfl | rfl | rfl | rfl | rfl | rfl
  · exact ab (by omega) h
  · exact ae (by omega) (ab (by omega) h)
  · exact ae (by omega) (ae (by omega) (ab (by omega) h))
  · exact ae (by omega) (ae (by omega) (ae (by omega) (ab (by omega) h)))
  · exact ae (by omega) (ae (by omega) (ae (by omega) (ae (by omega) (ab (by omega) h))))
  · exact ae (by omega) (ae (by omega) (ae (by omega) (ae (by omega) (ae (by omega) (ab (by omega) h)))))
  · exact ae (by omega) (ae (by omega) (ae (by omega) (ae (by omega) (ae (by omega) (ae (by omega) (ab (by omega) h))))))
  · exact ae (by omega) (ae (by omega) (ae (by omega) (ae (by omega) (ae (by omega) (ae (by omega) (ae (by omega) (ab (by omega) h)))))))
theorem yC (y : List Int) (i q : Nat) (hq : q < 8) (hx : i < y.length) (hy : y.length ≤ 8) (hl : q + y.length = 8 + i) (S : List Int) (hS : S.length = 8) (r : Int × Int × Int × Int × Int × Int × Int × Int × Bool)
    (h : Ev (fun k => L3 k y ((i + 1 : Nat) : Int) (S.set q (y.getD i 0))) r) : Ev (fun k => L3 k y (i : Int) S) r := by
  obtain ⟨a, b, c, d, e, f, g, j, rfl⟩ := pz hS
  refine Ev.step (fun k => by rw [L3, al]) ?_
  have hw : wrap64 (wrap64 (8 - (y.length : Int)) + (i : Int)) = (q : Int) := by
    rw [w64 (x := 8 - (y.length : Int)) (by omega) (by omega), w64 (by omega) (by omega)]; omega
  rw [w64 (x := (i : Int) + 1) (by omega) (by omega), qH, hw]
  refine ab (by omega) (ab (by omega) (ab (by omega) ?_))
  rcases rP hq with rfl | rfl | rfl | rfl | rfl | rfl | rfl | rfl
  · exact ab (by omega) h
  · exact ae (by omega) (ab (by omega) h)
  · exact ae (by omega) (ae (by omega) (ab (by omega) h))
  · exact ae (by omega) (ae (by omega) (ae (by omega) (ab (by omega) h)))
  · exact ae (by omega) (ae (by omega) (ae (by omega) (ae (by omega) (ab (by omega) h))))
  · exact ae (by omega) (ae (by omega) (ae (by omega) (ae (by omega) (ae (by omega) (ab (by omega) h)))))
  · exact ae (by omega) (ae (by omega) (ae (by omega) (ae (by omega) (ae (by omega) (ae (by omega) (ab (by omega) h))))))
  · exact ae (by omega) (ae (by omega) (ae (by omega) (ae (by omega) (ae (by omega) (ae (by omega) (ae (by omega) (ab (by omega) h)))))))
def lay (S : List Int) (q : Nat) (x : List Int) : List Int := S.take q ++ x ++ S.drop (q + x.length)
theorem qG (S : List Int) (q : Nat) : lay S q [] = S := by simp [lay]
theorem pG (S : List Int) (q : Nat) (v : Int) (x : List Int) (hq : q < S.length) : lay (S.set q v) (q + 1) x = lay S q (v :: x) := by
  unfold lay
  have e1 : (S.set q v).take (q + 1) = S.take q ++ [v] := by
    rw [List.take_succ_eq_append_getElem (by rw [List.length_set]; exact hq), List.take_set_of_le (Nat.le_refl _)]
    simp
  have e2 : (S.set q v).drop (q + 1 + x.length) = S.drop (q + (v :: x).length) := by
    rw [List.drop_set_of_lt (by omega), List.length_cons]
    congr 1; omega
  rw [e1, e2]
  simp
theorem zs (x : List Int) (hx : x.length = 8) : ∀ d i : Nat, i + d = 8 → ∀ S : List Int, S.length = 8 → Ev (fun k => L1 k x (i : Int) S) (oy (lay S i (x.drop i)) true) := by
  intro d
  induction d with
  | zero =>
    intro i hi S hS
    rw [List.drop_of_length_le (by omega), qG]
    refine Ev.step (fun k => by rw [L1, bu]) ?_
    exact ae (by omega) (Ev.val rfl)
  | succ d ih =>
    intro i hi S hS
    refine yA x i (by omega) (by omega) S hS _ ?_
    rw [lH (L := x) (i := i) (by omega) 0, ← pG S i _ _ (by omega)]
    exact ih (i + 1) (by omega) _ (by rw [List.length_set]; exact hS)
theorem zu (y : List Int) (hy : y.length ≤ 8) : ∀ d i : Nat, i + d = y.length → ∀ S : List Int, S.length = 8 → Ev (fun k => L3 k y (i : Int) S) (oy (lay S (8 - y.length + i) (y.drop i)) true) := by
  intro d
  induction d with
  | zero =>
    intro i hi S hS
    rw [List.drop_of_length_le (by omega), qG]
    refine Ev.step (fun k => by rw [L3, al]) ?_
    exact ae (by omega) (Ev.val rfl)
  | succ d ih =>
    intro i hi S hS
    refine yC y i (8 - y.length + i) (by omega) (by omega) hy (by omega) S hS _ ?_
    rw [lH (L := y) (i := i) (by omega) 0, ← pG S _ _ _ (by omega)]
    exact ih (i + 1) (by omega) _ (by rw [List.length_set]; exact hS)
theorem zt (x y : List Int) (hx : x.length ≤ 8) (r : Int × Int × Int × Int × Int × Int × Int × Int × Bool) : ∀ d i : Nat, i + d = x.length → ∀ S : List Int, S.length = 8 →
    Ev (fun k => L3 k y 0 (lay S i (x.drop i))) r → Ev (fun k => L2 k x y (i : Int) S) r := by
  intro d
  induction d with
  | zero =>
    intro i hi S hS h
    rw [List.drop_of_length_le (by omega), qG] at h
    refine Ev.step (fun k => by rw [L2, bv]) ?_
    exact ae (by omega) h
  | succ d ih =>
    intro i hi S hS h
    refine yB x y i (by omega) (by omega) hx S hS _ ?_
    rw [lH (L := x) (i := i) (by omega) 0, ← pG S i _ _ (by omega)] at h
    exact ih (i + 1) (by omega) _ (by rw [List.length_set]; exact hS) h
theorem xB (a b : List Int) (h : a.length + b.length ≤ 7) : lay (lay ja 0 a) (8 - b.length) b = a ++ List.replicate (8 - a.length - b.length) 0 ++ b := by
  have hz : ja = List.replicate 8 0 := rfl
  unfold lay
  rw [hz]
  simp only [List.take_zero, List.nil_append, Nat.zero_add]
  rw [List.drop_replicate, List.take_append]
  have e2 : a.take (8 - b.length) = a := List.take_of_length_le (by omega)
  rw [e2, List.take_replicate]
  have e3 : (a ++ List.replicate (8 - a.length) 0).drop (8 - b.length + b.length) = ([] : List Int) := by
    apply List.drop_of_length_le
    rw [List.length_append, List.length_replicate]; omega
  rw [e3, List.append_nil, show min (8 - b.length - a.length) (8 - a.length) = 8 - a.length - b.length by omega]
theorem rA (a : List Int) (h : a.length ≤ 8) : (lay ja 0 a).length = 8 := by
  unfold lay ja
  simp; omega
theorem st {fin : Bool} {l w : List Int} (h : gC fin l = some w) (hl : l.length ≤ 1000000) : w.length ≤ 1000003 := by
  unfold gC at h
  split at h
  · cases h; simp
  · have := o2 h
    have := lc 58 l
    omega
theorem vt (l : List Int) : (l.contains 46 = false → gC true l = gC false l) ∧ (l.contains 46 = true → gC false l = none) := by
  constructor
  · intro h
    unfold gC
    rw [tP (fun p hp hm => by
      have := (qt p hp).2.1 46 hm
      rw [← List.contains_iff_mem, h] at this
      cases this) true]
  · intro h
    unfold gC
    rw [if_neg (by rintro rfl; cases h)]
    cases hw : gj false (b6 58 l) with
    | none => rfl
    | some w =>
      exfalso
      have key := wY hw
      have hm := List.contains_iff_mem.1 h
      have inpart : ∀ l : List Int, (46 : Int) ∈ l → ∃ p ∈ b6 58 l, (46 : Int) ∈ p := by
        intro l
        induction l with
        | nil => intro h; cases h
        | cons b t ih =>
          intro h
          rw [gJ]
          by_cases hb : b = 58
          · rw [if_pos hb]
            rcases List.mem_cons.1 h with h | h
            · rw [hb] at h; cases h
            · obtain ⟨p, hp, h2⟩ := ih h
              exact ⟨p, List.mem_cons_of_mem _ hp, h2⟩
          · rw [if_neg hb]
            rcases List.mem_cons.1 h with h | h
            · exact ⟨_, List.mem_cons_self .., by rw [h]; exact List.mem_cons_self ..⟩
            · obtain ⟨p, hp, h2⟩ := ih h
              rw [kz 58 t] at hp
              rcases List.mem_cons.1 hp with rfl | hp
              · exact ⟨_, List.mem_cons_self .., List.mem_cons_of_mem _ h2⟩
              · exact ⟨p, List.mem_cons_of_mem _ hp, h2⟩
      obtain ⟨p, hp, h2⟩ := inpart l hm
      exact (key p hp).1 h2
def V0 (k : Nat) (s : ByteArray) (at_ i : Int) := bW k s at_ i 0 0 0 0 0 0 0 0
theorem qn (s : ByteArray) (hs : s.size ≤ 1000000) (hneg : cz [58, 58] (aa s) < 0) (i : Nat) (hi : s.size ≤ i + 1) (hi2 : i ≤ s.size) : Ev (fun k => V0 k s (-1) (i : Int)) (v6T (aa s)) := by
  refine Ev.step (fun k => by rw [V0, bW]) ?_
  rw [w64 (x := (i : Int) + 1) (by omega) (by omega)]
  refine ae (by omega) (ab (by omega) (ai (pJ s hs) ?_))
  have bad : ∀ x : List Int, Ev (fun k => dQ k x true 0 0 0 0 0 0 0 0) (oy ja false) := by
    intro x
    refine Ev.step (fun k => by rw [dQ]) ?_
    exact ab rfl (Ev.val rfl)
  unfold v6T v6
  rw [if_pos hneg]
  cases hr : gC true (aa s) with
  | none => exact ae (by simp [dn]) (bad _)
  | some w =>
    refine ab (by simp [dn]) ?_
    simp only [dn, List.nil_append, Option.bind_some]
    by_cases h8 : w.length = 8
    · have e : (((w.length : Nat) : Int) != 8) = false := by simp; omega
      rw [e, if_pos h8]
      refine Ev.step (fun k => by rw [dQ]) ?_
      refine ae (by simp) ?_
      have := zs w h8 8 0 (by omega) ja rfl
      rw [List.drop_zero] at this
      have e2 : lay ja 0 w = w := by
        unfold lay
        rw [List.drop_of_length_le (by rw [h8]; decide)]
        simp
      rw [e2] at this
      exact this
    · have e : (((w.length : Nat) : Int) != 8) = true := by simp; omega
      rw [e, if_neg h8]
      exact bad _
theorem vn (s : ByteArray) (hs : s.size ≤ 1000000) (j : Nat) (hj : cz [58, 58] (aa s) = (j : Int)) : ∀ d i : Nat, i + d = s.size → Ev (fun k => V0 k s (j : Int) (i : Int)) (v6T (aa s)) := by
  have hsp := mr (sub := [58, 58]) (l := aa s) (by omega)
  rw [hj, Int.toNat_natCast] at hsp
  simp only [List.length_cons, List.length_nil, af] at hsp
  have fin : ∀ i : Nat, s.size ≤ i + 1 → i ≤ s.size → Ev (fun k => V0 k s (j : Int) (i : Int)) (v6T (aa s)) := by
    intro i hi hi2
    refine Ev.step (fun k => by rw [V0, bW]) ?_
    rw [w64 (x := (i : Int) + 1) (by omega) (by omega), w64 (x := (j : Int) + 2) (by omega) (by omega), Int.toNat_natCast]
    refine ae (by omega) (ae (by omega) (ab (by omega) (ab (by omega) ?_)))
    have h1 := pJ (s.extract 0 j) (by rw [← af, au, List.length_drop, List.length_take, af]; omega)
    have h2 := pJ (s.extract (j + 2) s.size) (by rw [← af, au, List.length_drop, List.length_take, af]; omega)
    rw [au, List.drop_zero] at h1
    rw [aY] at h2
    refine ai h1 (ab (by omega) (ab (by omega) ?_))
    have e2 : ((j : Int) + 2).toNat = j + 2 := by omega
    rw [e2]
    refine ai h2 ?_
    have bad : ∀ x y : List Int, Ev (fun k => dd k s (j : Int) x y true 0 0 0 0 0 0 0 0) (oy ja false) := by
      intro x y
      refine Ev.step (fun k => by rw [dd]) ?_
      exact ab rfl (Ev.val rfl)
    have hal := vt ((aa s).take j)
    have bad4 : ∀ x y : List Int, Ev (fun k => de k x y true 0 0 0 0 0 0 0 0) (oy ja false) := by
      intro x y
      refine Ev.step (fun k => by rw [de]) ?_
      exact ab rfl (Ev.val rfl)
    unfold v6T v6
    rw [if_neg (by omega), hj, Int.toNat_natCast]
    cases ha : gC true ((aa s).take j) with
    | none =>
      have hn : gC false ((aa s).take j) = none := by
        cases hc : ((aa s).take j).contains 46
        · rw [← hal.1 hc]; exact ha
        · exact hal.2 hc
      rw [hn]
      exact ae (by simp [dn]) (bad _ _)
    | some a =>
      refine ab (by simp [dn]) ?_
      simp only [dn, List.nil_append]
      have hla := st ha (by rw [List.length_take, af]; omega)
      cases hbb : gC true ((aa s).drop (j + 2)) with
      | none =>
        refine ae (by simp) ?_
        cases gC false ((aa s).take j) with
        | none => exact bad _ _
        | some x => exact bad _ _
      | some b =>
        have hlb := st hbb (by rw [List.length_drop, af]; omega)
        refine ab (by simp [dn]) ?_
        simp only [dn, List.nil_append]
        have hw : wrap64 ((a.length : Int) + (b.length : Int)) = (a.length : Int) + (b.length : Int) := w64 (by omega) (by omega)
        simp only [hw]
        by_cases hlen : a.length + b.length ≤ 7
        · rw [decide_eq_false (by omega)]
          refine Ev.step (fun k => by rw [dd]) ?_
          refine ae (by simp) ?_
          have go : ∀ t : Bool, t = ((aa s).take j).contains 46 → Ev (fun k => de k a b t 0 0 0 0 0 0 0 0) (match ((gC false ((aa s).take j)).bind fun a => (some b).bind fun b => if a.length + b.length ≤ 7 then some (a ++ List.replicate (8 - a.length - b.length) 0 ++ b) else none) with
              | some w => oy w true
              | none => oy ja false) := by
            intro t ht
            cases hc : ((aa s).take j).contains 46
            · rw [hc] at ht
              subst ht
              rw [← hal.1 hc, ha]
              simp only [Option.bind_some]
              rw [if_pos hlen]
              refine Ev.step (fun k => by rw [de]) ?_
              refine ae (by simp) ?_
              refine zt a b (by omega) _ a.length 0 (by omega) ja rfl ?_
              rw [List.drop_zero]
              have := zu b (by omega) b.length 0 (by omega) (lay ja 0 a) (rA a (by omega))
              rw [List.drop_zero, Nat.add_zero, xB a b hlen] at this
              exact this
            · rw [hc] at ht
              subst ht
              rw [hal.2 hc]
              exact bad4 _ _
          refine Ev.ite (fun hj0 => ab (by omega) (ab (by omega) ?_)) (fun hj0 => go false ?_)
          · have hin := zI 46 (s.extract 0 j) (by rw [← af, au, List.length_drop, List.length_take, af]; omega)
            rw [au, List.drop_zero] at hin
            rw [Int.toNat_natCast]
            exact ai hin (go _ rfl)
          · have : j = 0 := by omega
            subst this
            simp
        · rw [decide_eq_true (by omega)]
          cases hc : ((aa s).take j).contains 46
          · rw [← hal.1 hc, ha]
            simp only [Option.bind_some]
            rw [if_neg hlen]
            exact bad _ _
          · rw [hal.2 hc]
            exact bad _ _
  intro d
  induction d with
  | zero => intro i hi; exact fin i (by omega) (by omega)
  | succ d ih =>
    intro i hi
    by_cases he : s.size ≤ i + 1
    · exact fin i he (by omega)
    · refine Ev.step (fun k => by rw [V0, bW]) ?_
      rw [w64 (x := (i : Int) + 1) (by omega) (by omega)]
      refine ab (by omega) (ae (by omega) ?_)
      exact ih (i + 1) (by omega)
theorem vm (s : ByteArray) (hs : s.size ≤ 1000000) : ∀ d i : Nat, i + d = s.size → (cz [58, 58] (aa s) = if cz [58, 58] ((aa s).drop i) = -1 then -1 else (i : Int) + cz [58, 58] ((aa s).drop i)) →
    Ev (fun k => V0 k s (-1) (i : Int)) (v6T (aa s)) := by
  intro d
  induction d with
  | zero =>
    intro i hi h
    rw [List.drop_of_length_le (by rw [af]; omega)] at h
    have hz : cz [58, 58] [] = -1 := rfl
    rw [hz, if_pos rfl] at h
    exact qn s hs (by omega) i (by omega) (by omega)
  | succ d ih =>
    intro i hi h
    by_cases he : s.size ≤ i + 1
    · refine qn s hs ?_ i he (by omega)
      rcases bB s i (by omega) with ⟨h2, _⟩ | ⟨_, e, _⟩
      · omega
      · rw [e, List.drop_of_length_le (by rw [af]; omega)] at h
        rw [h]
        have : cz [58, 58] [bt s (i : Int)] = -1 := by
          have hz : cz [58, 58] [] = -1 := rfl
          rw [kW, if_neg (by simp [List.isPrefixOf]), hz, if_pos rfl]
        rw [if_pos this]
        decide
    · rcases bB s i (by omega) with ⟨h2, _⟩ | ⟨_, e, b0, b1⟩
      · omega
      rcases bB s (i + 1) (by omega) with ⟨h2, _⟩ | ⟨_, e2, c0, c1⟩
      · omega
      refine Ev.step (fun k => by rw [V0, bW]) ?_
      rw [w64 (x := (i : Int) + 1) (by omega) (by omega), w64 (x := (i : Int) + 2) (by omega) (by omega)]
      refine ab (by omega) (ab (by omega) (ab (by omega) (ab (by omega) (ab (by omega) ?_))))
      have e3 : ((i : Int) + 2).toNat = i + 2 := by omega
      rw [e3, Int.toNat_natCast]
      have hcond : (s.extract i (i + 2)).toList = ([58, 58] : List UInt8) ↔ (aa s).drop i = 58 :: 58 :: (aa s).drop (i + 2) := by
        have h58 : ([58, 58] : List UInt8) = (⟨#[58, 58]⟩ : ByteArray).toList := by rw [ByteArray.toList_eq]
        have hb : aa (⟨#[58, 58]⟩ : ByteArray) = [58, 58] := rfl
        rw [h58, jn, au, hb, List.drop_take, show i + 2 - i = 2 by omega, e, e2]
        simp
      have hpre : ([58, 58] : List Int).isPrefixOf ((aa s).drop i) = true ↔ (aa s).drop i = 58 :: 58 :: (aa s).drop (i + 2) := by
        rw [e, e2]
        simp [List.isPrefixOf]
        constructor
        · rintro ⟨h1, h2⟩; exact ⟨h1.symm, h2.symm⟩
        · rintro ⟨h1, h2⟩; exact ⟨h1.symm, h2.symm⟩
      have hd : cz [58, 58] ((aa s).drop i) = if ([58, 58] : List Int).isPrefixOf ((aa s).drop i) then 0 else if cz [58, 58] ((aa s).drop (i + 1)) = -1 then -1 else cz [58, 58] ((aa s).drop (i + 1)) + 1 := by
        rw [e, kW]
      refine Ev.ite (fun hp => ?_) (fun hp => ?_)
      · have h0 : cz [58, 58] ((aa s).drop i) = 0 := by rw [hd, if_pos (hpre.2 (hcond.1 hp))]
        rw [h0, if_neg (by omega)] at h
        exact vn s hs i (by omega) d (i + 1) (by omega)
      · rw [if_neg (fun x => hp (hcond.2 (hpre.1 x)))] at hd
        refine ih (i + 1) (by omega) ?_
        have hg := qL [58, 58] ((aa s).drop (i + 1))
        rw [h, hd]
        generalize cz [58, 58] ((aa s).drop (i + 1)) = z at hg ⊢
        by_cases hz : z = -1
        · rw [if_pos hz, if_pos hz, if_pos rfl]
        · rw [if_neg hz, if_neg hz, if_neg (by omega)]
          omega
theorem zj (s : ByteArray) (hs : s.size ≤ 1000000) : Ev (fun k => iZ k s) (v6T (aa s)) := by
  have hg := qL [58, 58] (aa s)
  refine vm s hs s.size 0 (by omega) ?_
  rw [List.drop_zero]
  split <;> omega
end Go.Proofs.YtpmflpeckoeooaaGreatDoor.Y
namespace Go.Proofs.YtpmflpeckoeooaaGreatDoor.Y
open Go.RowKit Go.Proofs.YtpmflpeckoeooaaGreatDoor.X Go.Proofs.YtpmflpeckoeooaaGreatDoor.M Go.Proofs.YtpmflpeckoeooaaGreatDoorW.PrintWords Go.Proofs.YtpmflpeckoeooaaGreatDoorW.PrintLast Go.Proofs.YtpmflpeckoeooaaGreatDoorW.PrintMore
set_option linter.unusedVariables false
theorem sk {b : Int} (h0 : 0 ≤ b) (h1 : b ≤ 255) : cf 1 b = (lO b || b == 58) :=
  ci (p := fun b => cf 1 b = (lO b || b == 58)) (by decide +kernel) h0 h1
theorem zH (s : ByteArray) (hs : s.size ≤ 140737488351232) : ∀ d i : Nat, i + d = s.size → Ev (fun k => d6 k s (i : Int)) (((aa s).drop i).all fun b => cf 1 b) := by
  intro d
  induction d with
  | zero =>
    intro i hi
    rw [List.drop_of_length_le (by rw [af]; omega)]
    refine Ev.step (fun k => by rw [d6]) ?_
    exact ae (by omega) (ay _)
  | succ d ih =>
    intro i hi
    rcases bB s i (by omega) with ⟨h2, _⟩ | ⟨_, e, b0, b1⟩
    · omega
    rw [e, List.all_cons]
    refine Ev.step (fun k => by rw [d6]) ?_
    refine ab (by omega) (ab (by omega) (ai (uj b0 b1) ?_))
    cases hp : cf 1 (bt s (i : Int))
    · exact ae (by simp) (Ev.val (by simp))
    · refine ab rfl ?_
      rw [w64 (by omega) (by omega)]
      simp only [Bool.true_and]
      exact ih (i + 1) (by omega)
theorem pv {p q : Int → Bool} {l : List Int} (h : ∀ b ∈ l, p b = q b) : be p l = be q l := by
  induction l with
  | nil => rfl
  | cons b t ih =>
    unfold be
    rw [h b (List.mem_cons_self ..), ih (fun c hc => h c (List.mem_cons_of_mem _ hc))]
theorem aak {b : Int} (h0 : 0 ≤ b) (h1 : b ≤ 255) : ((Go.bits .or .u8 b 32) != 118) = !(b == 118 || b == 86) :=
  ci (p := fun b => ((Go.bits .or .u8 b 32) != 118) = !(b == 118 || b == 86)) (by decide +kernel) h0 h1
theorem pB (v : Int) (t : List Int) : fut (v :: t) = ((v == 118 || v == 86) && decide (0 < be bC t) && decide (2 ≤ (t.drop (be bC t)).length) && ((t.drop (be bC t)).headD 0 == 46) && ((t.drop (be bC t)).tail.all fun b => cf 1 b)) := rfl
theorem xx (s : ByteArray) (hs : s.size ≤ 140737488351232) : Ev (fun k => fw k s 32) (be bC (aa s) : Int) := by
  have := rm s 32 hs
  rwa [pv (q := bC) (fun b hb => yX (ed hb).1 (ed hb).2)] at this
theorem xu (s : ByteArray) (hs : s.size ≤ 1000000) : Ev (fun k => ic k s) (fut (aa s)) := by
  unfold ic
  have bad : ∀ r, r = false → Ev (fun k => d5 k s true) r := by
    intro r e
    subst e
    refine Ev.step (fun k => by rw [d5]) ?_
    exact ab rfl (ay _)
  refine Ev.ite (fun h => bad _ ?_) (fun h => ?_)
  · rw [(kM s).1 h]; rfl
  · rcases g8 s with ⟨_, e⟩ | ⟨hp, e, b0, b1⟩
    · exact absurd ((kM s).2 e) h
    refine ab (by omega) ?_
    have hf : fut (aa s) = fut (bt s 0 :: (aa s).drop 1) := by rw [← e]
    rw [hf, pB, aak b0 b1]
    cases hv : (bt s 0 == 118 || bt s 0 == 86)
    · exact bad _ (by simp)
    · refine Ev.step (fun k => by rw [d5]) ?_
      refine ae (by simp) (ab (by omega) ?_)
      have hsp := xx (s.extract 1 s.size) (by rw [← af, aY, List.length_drop, af]; omega)
      rw [aY] at hsp
      refine ai hsp ?_
      have hle := pO bC ((aa s).drop 1)
      rw [List.length_drop, af] at hle
      generalize be bC ((aa s).drop 1) = n at hle ⊢
      have hw : wrap64 (1 + (n : Int)) = ((n + 1 : Nat) : Int) := by rw [w64 (by omega) (by omega)]; omega
      simp only [hw]
      refine ab (by omega) (ab (by omega) ?_)
      rw [Int.toNat_natCast, List.drop_drop]
      have hsz : (s.extract (n + 1) s.size).size = s.size - (n + 1) := by rw [← af, aY, List.length_drop, af]
      have bad1 : ∀ r, r = false → Ev (fun k => dB k (s.extract (n + 1) s.size) true) r := by
        intro r e
        subst e
        refine Ev.step (fun k => by rw [dB]) ?_
        exact ab rfl (ay _)
      rw [show 1 + n = n + 1 by omega]
      have hld : ((aa s).drop (n + 1)).length = s.size - (n + 1) := by rw [List.length_drop, af]
      refine Ev.ite (fun h0 => bad1 _ ?_) (fun h0 => Ev.ite (fun h2 => bad1 _ ?_) (fun h2 => ab (by omega) ?_))
      · have : n = 0 := by omega
        simp [this]
      · rw [hsz] at h2
        rw [hld, decide_eq_false (p := 2 ≤ s.size - (n + 1)) (by omega)]
        simp
      · rcases g8 (s.extract (n + 1) s.size) with ⟨h3, _⟩ | ⟨_, e3, _⟩
        · omega
        rw [aY] at e3
        rw [hsz] at h2
        rw [hld, decide_eq_true (p := 0 < n) (by omega), decide_eq_true (p := 2 ≤ s.size - (n + 1)) (by omega)]
        have hh : ((aa s).drop (n + 1)).headD 0 = bt (s.extract (n + 1) s.size) 0 := by rw [e3]; rfl
        have ht : ((aa s).drop (n + 1)).tail = ((aa s).drop (n + 1)).drop 1 := by rw [List.drop_one]
        rw [hh, ht]
        cases h46 : (bt (s.extract (n + 1) s.size) 0 == 46)
        · have : (bt (s.extract (n + 1) s.size) 0 != 46) = true := by rw [bne, h46]; rfl
          rw [this]
          exact bad1 _ (by simp)
        · have : (bt (s.extract (n + 1) s.size) 0 != 46) = false := by rw [bne, h46]; rfl
          rw [this]
          refine Ev.step (fun k => by rw [dB]) ?_
          refine ae (by simp) ?_
          have := zH (s.extract (n + 1) s.size) (by omega) ((s.extract (n + 1) s.size).size - 1) 1 (by omega)
          rw [aY] at this
          simpa using this
theorem wD (s : ByteArray) (hs : s.size ≤ 140737488351232) : ∀ d i : Nat, i + d = s.size → Ev (fun k => cd k s (i : Int)) (((aa s).drop i).all fun b => cf 1 b) := by
  intro d
  induction d with
  | zero =>
    intro i hi
    rw [List.drop_of_length_le (by rw [af]; omega)]
    refine Ev.step (fun k => by rw [cd]) ?_
    exact ae (by omega) (ay _)
  | succ d ih =>
    intro i hi
    rcases bB s i (by omega) with ⟨h2, _⟩ | ⟨_, e, b0, b1⟩
    · omega
    rw [e, List.all_cons, sk b0 b1]
    refine Ev.step (fun k => by rw [cd]) ?_
    refine ab (by omega) (ab (by omega) (ai (ol b0 b1) ?_))
    rw [w64 (by omega) (by omega)]
    have nx := ih (i + 1) (by omega)
    refine Ev.ite (fun h => Ev.ite (fun h58 => ?_) (fun h58 => Ev.val ?_)) (fun h => ?_)
    · rw [h58]
      simp only [beq_self_eq_true, Bool.or_true, Bool.true_and]
      exact nx
    · rw [lu, ri b0 b1] at h
      have : (bt s (i : Int) == 58) = false := by simpa using h58
      rw [h, this]; rfl
    · rw [lu, ri b0 b1, Bool.not_eq_false] at h
      rw [h]
      simp only [Bool.true_or, Bool.true_and]
      exact nx
theorem rq (s : ByteArray) (hs : s.size ≤ 1000000) (h4 : 4 ≤ s.size) (i : Nat) (h1 : 1 ≤ i) (hi : i ≤ s.size) : Ev (fun k => dm k s (i : Int))
    (decide (1 < i) && decide (2 ≤ ((aa s).drop i).length) && (((aa s).drop i).headD 0 == 46) && (((aa s).drop i).tail.all fun b => cf 1 b)) := by
  have bad : ∀ r, r = false → Ev (fun k => cb k s (i : Int) true) r := by
    intro r e
    subst e
    refine Ev.step (fun k => by rw [cb]) ?_
    exact ab rfl (ay _)
  have hld : ((aa s).drop i).length = s.size - i := by rw [List.length_drop, af]
  refine Ev.step (fun k => by rw [dm]) ?_
  have hw : wrap64 ((s.size : Int) - 1) = (s.size : Int) - 1 := w64 (by omega) (by omega)
  simp only [hw]
  refine Ev.ite (fun h => bad _ ?_) (fun h => Ev.ite (fun h2 => bad _ ?_) (fun h2 => ab (by omega) (ab (by omega) ?_)))
  · rw [decide_eq_false (by omega)]; rfl
  · rw [hld, decide_eq_false (p := 2 ≤ s.size - i) (by omega)]; simp
  · rcases bB s i (by omega) with ⟨h3, _⟩ | ⟨_, e, b0, b1⟩
    · omega
    rw [hld, decide_eq_true (by omega), decide_eq_true (by omega), e]
    simp only [List.headD_cons, List.tail_cons]
    cases h46 : (bt s (i : Int) == 46)
    · have : (bt s (i : Int) != 46) = true := by rw [bne, h46]; rfl
      rw [this]
      exact bad _ (by simp)
    · have : (bt s (i : Int) != 46) = false := by rw [bne, h46]; rfl
      rw [this]
      refine Ev.step (fun k => by rw [cb]) ?_
      refine ae (by simp) ?_
      rw [w64 (by omega) (by omega)]
      simp only [Bool.true_and, Bool.and_self]
      exact wD s (by omega) (s.size - (i + 1)) (i + 1) (by omega)
theorem wC (s : ByteArray) (hs : s.size ≤ 1000000) (h4 : 4 ≤ s.size) : ∀ d i : Nat, i + d = s.size → 1 ≤ i → Ev (fun k => cD k s (i : Int))
    (decide (1 < i + be bC ((aa s).drop i)) && decide (2 ≤ ((aa s).drop (i + be bC ((aa s).drop i))).length) && (((aa s).drop (i + be bC ((aa s).drop i))).headD 0 == 46) && (((aa s).drop (i + be bC ((aa s).drop i))).tail.all fun b => cf 1 b)) := by
  intro d
  induction d with
  | zero =>
    intro i hi h1
    have hz : be bC ((aa s).drop i) = 0 := by rw [List.drop_of_length_le (by rw [af]; omega)]; rfl
    rw [hz, Nat.add_zero]
    refine Ev.step (fun k => by rw [cD]) ?_
    exact ae (by omega) (rq s hs h4 i h1 (by omega))
  | succ d ih =>
    intro i hi h1
    rcases bB s i (by omega) with ⟨h2, _⟩ | ⟨_, e, b0, b1⟩
    · omega
    refine Ev.step (fun k => by rw [cD]) ?_
    refine ab (by omega) (ab (by omega) (ai (mq b0 b1) ?_))
    refine Ev.ite (fun h => ?_) (fun h => ?_)
    · have hz : be bC ((aa s).drop i) = be bC ((aa s).drop (i + 1)) + 1 := by
        rw [e]
        have : be bC (bt s (i : Int) :: (aa s).drop (i + 1)) = if bC (bt s (i : Int)) then be bC ((aa s).drop (i + 1)) + 1 else 0 := rfl
        rw [this, if_pos ((kO _).1 (by omega))]
      rw [hz, w64 (by omega) (by omega), show i + (be bC ((aa s).drop (i + 1)) + 1) = i + 1 + be bC ((aa s).drop (i + 1)) by omega]
      exact ih (i + 1) (by omega) (by omega)
    · have hz : be bC ((aa s).drop i) = 0 := by
        rw [e]
        have : be bC (bt s (i : Int) :: (aa s).drop (i + 1)) = if bC (bt s (i : Int)) then be bC ((aa s).drop (i + 1)) + 1 else 0 := rfl
        rw [this, if_neg (by rw [← kO]; omega)]
      rw [hz, Nat.add_zero]
      exact rq s hs h4 i h1 (by omega)
theorem tH (s : ByteArray) (hs : s.size ≤ 1000000) : Ev (fun k => fQ k s) (fut (aa s)) := by
  have bad : ∀ r, r = false → Ev (fun k => bQ k s true) r := by
    intro r e
    subst e
    refine Ev.step (fun k => by rw [bQ]) ?_
    exact ab rfl (ay _)
  unfold fQ
  rcases g8 s with ⟨h, e⟩ | ⟨hp, e, b0, b1⟩
  · rw [e]
    exact ab (by omega) (bad _ rfl)
  have hf : fut (aa s) = fut (bt s 0 :: (aa s).drop 1) := by rw [← e]
  rw [hf, pB]
  have hle := pO bC ((aa s).drop 1)
  rw [List.length_drop, af] at hle
  refine Ev.ite (fun h => bad _ ?_) (fun h => ab (by omega) ?_)
  · by_cases h0 : 0 < be bC ((aa s).drop 1)
    · rw [List.drop_drop, List.length_drop, af]
      by_cases h2 : 2 ≤ s.size - (1 + be bC ((aa s).drop 1))
      · omega
      · rw [decide_eq_false h2]; simp
    · rw [decide_eq_false h0]; simp
  · have eM : Ev (fun k => bQ k s false) (decide (0 < be bC ((aa s).drop 1)) && decide (2 ≤ (((aa s).drop 1).drop (be bC ((aa s).drop 1))).length) && ((((aa s).drop 1).drop (be bC ((aa s).drop 1))).headD 0 == 46) && ((((aa s).drop 1).drop (be bC ((aa s).drop 1))).tail.all fun b => cf 1 b)) := by
      refine Ev.step (fun k => by rw [bQ]) ?_
      refine ae (by simp) ?_
      have := wC s hs (by omega) (s.size - 1) 1 (by omega) (by omega)
      rw [List.drop_drop]
      have e2 : decide (1 < 1 + be bC ((aa s).drop 1)) = decide (0 < be bC ((aa s).drop 1)) := by
        rw [decide_eq_decide]; omega
      rw [e2] at this
      exact this
    refine Ev.ite (fun hv => ?_) (fun hv => ?_)
    · rw [hv]
      simp only [beq_self_eq_true, Bool.true_or, Bool.true_and]
      exact eM
    · by_cases h86 : bt s 0 = 86
      · rw [h86]
        have e1 : ((86 : Int) != 86) = false := by decide
        have e2 : (((86 : Int) == 118) || ((86 : Int) == 86)) = true := by decide
        rw [e1, e2]
        simp only [Bool.true_and]
        exact eM
      · have e1 : (bt s 0 != 86) = true := by simpa using h86
        have e2 : ((bt s 0 == 118) || (bt s 0 == 86)) = false := by simp [hv, h86]
        rw [e1, e2]
        exact bad _ (by simp)
theorem uE (s : ByteArray) (h : 0 < s.size) : (aa s).getLastD 0 = bt s ((s.size : Int) - 1) := by
  have e : ((s.size : Int) - 1) = ((s.size - 1 : Nat) : Int) := by omega
  have hne : aa s ≠ [] := by intro x; have := af s; rw [x] at this; simp at this; omega
  rw [e, kK, List.getLastD_eq_getLast?, List.getLast?_eq_getElem?, List.getD_eq_getElem?_getD, af]
theorem mY (s : ByteArray) : mi (aa s) = true ↔ 2 ≤ s.size ∧ bt s 0 = 91 ∧ bt s ((s.size : Int) - 1) = 93 := by
  unfold mi
  rw [af]
  by_cases h : 2 ≤ s.size
  · rcases g8 s with ⟨h2, _⟩ | ⟨_, e, _⟩
    · omega
    have hh : (aa s).headD 0 = bt s 0 := by rw [e]; rfl
    rw [hh, uE s (by omega)]
    simp [and_assoc]
  · simp [h]
theorem nk (s : ByteArray) (h : 2 ≤ s.size) : aa (s.extract 1 (s.size - 1)) = ((aa s).take ((aa s).length - 1)).drop 1 := by
  rw [au, af]
theorem rg (iri : Bool) (s : ByteArray) (hs : s.size ≤ 1000000) (b : Bool) (hb : b = mi (aa s)) : Ev (fun k => eN k iri s (s.size : Int) b) (iM iri (aa s)) := by
  refine Ev.step (fun k => by rw [eN]) ?_
  unfold iM
  have hw : wrap64 ((s.size : Int) - 1) = (s.size : Int) - 1 := w64 (by omega) (by omega)
  simp only [hw]
  rw [← hb]
  refine Ev.ite (fun h => ?_) (fun h => ?_)
  · rw [if_pos h]
    have hb2 := (mY s).1 (by rw [← hb]; exact h)
    refine ab (by omega) (ab (by omega) ?_)
    have e : ((s.size : Int) - 1).toNat = s.size - 1 := by omega
    rw [e]
    have hsz : (s.extract 1 (s.size - 1)).size ≤ 1000000 := by rw [← af, nk s hb2.1, List.length_drop, List.length_take, af]; omega
    have h6 := aaq (s.extract 1 (s.size - 1)) hsz
    have h7 := xu (s.extract 1 (s.size - 1)) hsz
    rw [nk s hb2.1] at h6 h7
    refine ai h6 ?_
    rw [wX]
    refine Ev.ite (fun h8 => ?_) (fun h8 => ?_)
    · rw [h8]
      exact Ev.val (by simp)
    · rw [Bool.not_eq_true] at h8
      rw [h8]
      refine ai h7 (Ev.ite (fun h9 => ?_) (fun h9 => ?_))
      · exact Ev.val (by rw [Bool.false_or, if_pos h9])
      · exact Ev.val (by rw [Bool.false_or, if_neg h9])
  · rw [if_neg h]
    refine ai (zV s hs) ?_
    rw [qy]
    refine Ev.ite (fun h4 => ?_) (fun h4 => ai (ym 2 iri s (by omega)) (Ev.ite (fun h5 => ?_) (fun h5 => ?_)))
    · exact Ev.val (by rw [if_pos h4])
    · exact Ev.val (by rw [if_neg h4, if_pos h5])
    · exact Ev.val (by rw [if_neg h4, if_neg h5])
theorem xy (iri : Bool) (s : ByteArray) (hs : s.size ≤ 1000000) : Ev (fun k => jd k iri s) (iM iri (aa s)) := by
  unfold jd
  have hbi := mY s
  have hw : wrap64 ((s.size : Int) - 1) = (s.size : Int) - 1 := w64 (by omega) (by omega)
  simp only [hw]
  have no : ¬ (2 ≤ s.size ∧ bt s 0 = 91 ∧ bt s ((s.size : Int) - 1) = 93) → Ev (fun k => eN k iri s (s.size : Int) false) (iM iri (aa s)) := by
    intro h
    refine rg iri s hs false ?_
    symm
    rw [← Bool.not_eq_true, hbi]
    exact h
  refine Ev.ite (fun h => ab (by omega) (Ev.ite (fun h2 => ab (by omega) (ab (by omega) ?_)) (fun h2 => no (fun x => h2 x.2.1)))) (fun h => no (fun x => h (by omega)))
  refine rg iri s hs _ ?_
  rw [Bool.eq_iff_iff, hbi, beq_iff_eq]
  constructor
  · intro h3; exact ⟨by omega, h2, h3⟩
  · intro h3; exact h3.2.2
theorem ql (iri : Bool) (s : ByteArray) (hs : s.size ≤ 1000000) (b : Bool) (hb : b = mi (aa s)) : Ev (fun k => cy k iri s (s.size : Int) b) (iM iri (aa s)) := by
  refine Ev.step (fun k => by rw [cy]) ?_
  unfold iM
  have hw : wrap64 ((s.size : Int) - 1) = (s.size : Int) - 1 := w64 (by omega) (by omega)
  simp only [hw]
  rw [← hb]
  refine Ev.ite (fun h => ?_) (fun h => ?_)
  · rw [if_pos h]
    have hb2 := (mY s).1 (by rw [← hb]; exact h)
    refine ab (by omega) (ab (by omega) ?_)
    have e : ((s.size : Int) - 1).toNat = s.size - 1 := by omega
    rw [e]
    have hsz : (s.extract 1 (s.size - 1)).size ≤ 1000000 := by rw [← af, nk s hb2.1, List.length_drop, List.length_take, af]; omega
    have h6 := zj (s.extract 1 (s.size - 1)) hsz
    have h7 := tH (s.extract 1 (s.size - 1)) hsz
    rw [nk s hb2.1] at h6 h7
    refine ai h6 ?_
    rw [wX]
    refine Ev.ite (fun h8 => ?_) (fun h8 => ?_)
    · rw [h8]
      exact Ev.val (by simp)
    · rw [Bool.not_eq_true] at h8
      rw [h8]
      refine ai h7 (Ev.ite (fun h9 => ?_) (fun h9 => ?_))
      · exact Ev.val (by rw [Bool.false_or, if_pos h9])
      · exact Ev.val (by rw [Bool.false_or, if_neg h9])
  · rw [if_neg h]
    refine ai (ul s hs) ?_
    rw [qy]
    refine Ev.ite (fun h4 => ?_) (fun h4 => ai (jx 2 iri s (by omega)) (Ev.ite (fun h5 => ?_) (fun h5 => ?_)))
    · exact Ev.val (by rw [if_pos h4])
    · refine Ev.val ?_
      rw [if_neg h4, if_pos]
      unfold bo
      rw [beq_iff_eq, af]; omega
    · refine Ev.val ?_
      rw [if_neg h4, if_neg]
      unfold bo
      rw [beq_iff_eq, af]; omega
theorem rr (iri : Bool) (s : ByteArray) (hs : s.size ≤ 1000000) : Ev (fun k => fl k iri s) (iM iri (aa s)) := by
  unfold fl
  have hbi := mY s
  have hw : wrap64 ((s.size : Int) - 1) = (s.size : Int) - 1 := w64 (by omega) (by omega)
  simp only [hw]
  have no : ¬ (2 ≤ s.size ∧ bt s 0 = 91 ∧ bt s ((s.size : Int) - 1) = 93) → Ev (fun k => cy k iri s (s.size : Int) false) (iM iri (aa s)) := by
    intro h
    refine ql iri s hs false ?_
    symm
    rw [← Bool.not_eq_true, hbi]
    exact h
  refine Ev.ite (fun h => ab (by omega) (Ev.ite (fun h2 => ab (by omega) (ab (by omega) ?_)) (fun h2 => no (fun x => h2 x.2.1)))) (fun h => no (fun x => h (by omega)))
  refine ql iri s hs _ ?_
  rw [Bool.eq_iff_iff, hbi, beq_iff_eq]
  constructor
  · intro h3; exact ⟨by omega, h2, h3⟩
  · intro h3; exact h3.2.2
end Go.Proofs.YtpmflpeckoeooaaGreatDoor.Y
