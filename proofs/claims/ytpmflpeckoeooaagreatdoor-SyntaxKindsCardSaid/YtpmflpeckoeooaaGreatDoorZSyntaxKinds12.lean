/- Texts that the law's proof needs, joined by a program of this session. -/
import Derived.Test.YtpmflpeckoeooaaGreatDoorZSyntaxKinds2
import Derived.Test.YtpmflpeckoeooaaGreatDoorZSyntaxKinds3
import Derived.Test.YtpmflpeckoeooaaGreatDoorZSyntaxKinds4
import Derived.Test.YtpmflpeckoeooaaGreatDoorZSyntaxKinds5
import Derived.Test.YtpmflpeckoeooaaGreatDoorZSyntaxKinds7
import Derived.Test.YtpmflpeckoeooaaGreatDoorZSyntaxKinds8
import Derived.Test.YtpmflpeckoeooaaGreatDoorZSyntaxKinds9
import Derived.Test.YtpmflpeckoeooaaGreatDoorZSyntaxKinds11
import Derived.Lib.Split
import Derived.Lib.SplitLaws
set_option linter.unusedSimpArgs false
set_option linter.unusedVariables false
namespace Go.Proofs.YtpmflpeckoeooaaGreatDoor.Y
open Go Go.RowKit Go.Proofs.YtpmflpeckoeooaaGreatDoor.X Go.Proofs.YtpmflpeckoeooaaGreatDoor.M Go.Proofs.YtpmflpeckoeooaaGreatDoorW.PrintWords Go.Proofs.YtpmflpeckoeooaaGreatDoorW.PrintLast Go.Proofs.YtpmflpeckoeooaaGreatDoorW.PrintMore
def dk (l : List Int) : Int :=
  if h : l ≠ [] ∧ (dec l).2.2 = true then (if dk (l.drop (dec l).2.1.toNat) = -1 then -1 else (dec l).2.1 + dk (l.drop (dec l).2.1.toNat)) else if l = [] then -1 else 0
termination_by l.length
decreasing_by
  all_goals
    have := kD h.2
    have hl : l.length ≠ 0 := fun hz => h.1 (List.length_eq_zero_iff.1 hz)
    rw [List.length_drop]; omega
theorem mi : dk [] = -1 := by rw [dk]; simp
theorem nj {l : List Int} (h : l ≠ []) (ok : (dec l).2.2 = true) : dk l = if dk (l.drop (dec l).2.1.toNat) = -1 then -1 else (dec l).2.1 + dk (l.drop (dec l).2.1.toNat) := by
  rw [dk, dif_pos ⟨h, ok⟩]
theorem nI {l : List Int} (h : l ≠ []) (ok : (dec l).2.2 = false) : dk l = 0 := by
  rw [dk, dif_neg (by rw [ok]; simp), if_neg h]
theorem qT : ∀ (n : Nat) (l : List Int), l.length = n → -1 ≤ dk l := by
  intro n
  induction n using Nat.strongRecOn with
  | _ n ih =>
    intro l hn
    by_cases h : l = []
    · rw [h, mi]; omega
    · cases ok : (dec l).2.2
      · rw [nI h ok]; omega
      · have hp := kD ok
        have hl : l.length ≠ 0 := fun hz => h (List.length_eq_zero_iff.1 hz)
        have := ih (l.drop (dec l).2.1.toNat).length (by rw [List.length_drop]; omega) _ rfl
        rw [nj h ok]
        split <;> omega
def at_ (i : Nat) (z : Int) : Int := if z = -1 then -1 else (i : Int) + z
theorem sJ (s : ByteArray) (hs : s.size ≤ 140737488351232) : ∀ d i : Nat, i + d = s.size → Ev (fun k => dB k s (i : Int)) (at_ i (dk ((aa s).drop i))) := by
  intro d
  induction d using Nat.strongRecOn with
  | _ d ih =>
    intro i hi
    refine Ev.step (fun k => by rw [dB]) ?_
    refine Ev.ite (fun h => ?_) (fun h => ?_)
    · have hne : (aa s).drop i ≠ [] := fun hz => by have := qS hz; omega
      refine ab (by omega) (ab (by omega) ?_)
      rw [Int.toNat_natCast]
      have hd := oB (s.extract i s.size) (by rw [← af, bh, List.length_drop, af]; omega)
      rw [bh] at hd
      refine ah hd ?_
      have hn := o5 ((aa s).drop i)
      rw [List.length_drop, af] at hn
      cases hok : (dec ((aa s).drop i)).2.2
      · refine ae (by simp) (Ev.val ?_)
        rw [nI hne hok]; unfold at_; rw [if_neg (by omega)]; omega
      · have hn1 := kD hok
        refine ab rfl ?_
        rw [w64 (by omega) (by omega)]
        have := ih (s.size - (i + (dec ((aa s).drop i)).2.1.toNat)) (by omega) (i + (dec ((aa s).drop i)).2.1.toNat) (by omega)
        have e1 : ((i + (dec ((aa s).drop i)).2.1.toNat : Nat) : Int) = (i : Int) + (dec ((aa s).drop i)).2.1 := by omega
        rw [e1] at this
        have e2 : at_ i (dk ((aa s).drop i)) = at_ (i + (dec ((aa s).drop i)).2.1.toNat) (dk ((aa s).drop (i + (dec ((aa s).drop i)).2.1.toNat))) := by
          rw [nj hne hok, List.drop_drop]
          have hge := qT _ ((aa s).drop (i + (dec ((aa s).drop i)).2.1.toNat)) rfl
          have e1 : ((i + (dec ((aa s).drop i)).2.1.toNat : Nat) : Int) = (i : Int) + (dec ((aa s).drop i)).2.1 := by omega
          unfold at_
          rw [e1]
          split <;> (try split) <;> (try split) <;> omega
        rw [e2]
        exact this
    · rw [List.drop_of_length_le (by rw [af]; omega), mi]
      exact Ev.val rfl
theorem uf (s : ByteArray) (hs : s.size ≤ 140737488351232) : Ev (fun k => gI k s) (dk (aa s)) := by
  have h := sJ s hs s.size 0 (by omega)
  have e : at_ 0 (dk ((aa s).drop 0)) = dk (aa s) := by rw [List.drop_zero]; unfold at_; split <;> omega
  rw [e] at h
  exact h
theorem wk (s : ByteArray) (hs : s.size ≤ 140737488351232) : ∀ d i : Nat, i + d = s.size → Ev (fun k => dI k s i) (at_ i (dk ((aa s).drop i))) := by
  intro d
  induction d using Nat.strongRecOn with
  | _ d ih =>
    intro i hi
    refine Ev.step (fun k => by rw [dI]) ?_
    refine Ev.ite (fun h => ?_) (fun h => ?_)
    · have hne : (aa s).drop i ≠ [] := fun hz => by have := qS hz; omega
      rw [wX s i h]
      have hd := qQ (s.extract i s.size) (by rw [← af, bh, List.length_drop, af]; omega)
      rw [bh] at hd
      have hn := o5 ((aa s).drop i)
      rw [List.length_drop, af] at hn
      unfold iW
      cases hok : (dec ((aa s).drop i)).2.2
      · simp only [Bool.false_eq_true, if_false]
        refine ab (by decide) (ah hd (ae (by rw [hok]; simp) (Ev.val ?_)))
        rw [nI hne hok]; unfold at_; rw [if_neg (by omega)]; omega
      · have hn1 := kD hok
        simp only [if_true]
        have := ih (s.size - (i + (dec ((aa s).drop i)).2.1.toNat)) (by omega) (i + (dec ((aa s).drop i)).2.1.toNat) (by omega)
        have e2 : at_ i (dk ((aa s).drop i)) = at_ (i + (dec ((aa s).drop i)).2.1.toNat) (dk ((aa s).drop (i + (dec ((aa s).drop i)).2.1.toNat))) := by
          rw [nj hne hok, List.drop_drop]
          have hge := qT _ ((aa s).drop (i + (dec ((aa s).drop i)).2.1.toNat)) rfl
          have e1 : ((i + (dec ((aa s).drop i)).2.1.toNat : Nat) : Int) = (i : Int) + (dec ((aa s).drop i)).2.1 := by omega
          unfold at_
          rw [e1]
          split <;> (try split) <;> (try split) <;> omega
        rw [e2]
        exact Ev.ite (fun _ => ah hd (ab hok this)) (fun _ => this)
    · rw [List.drop_of_length_le (by rw [af]; omega), mi]
      exact Ev.val rfl
theorem xB (s : ByteArray) (hs : s.size ≤ 140737488351232) : Ev (fun k => jV k s) (dk (aa s)) := by
  have h := wk s hs s.size 0 (by omega)
  have e : at_ 0 (dk ((aa s).drop 0)) = dk (aa s) := by rw [List.drop_zero]; unfold at_; split <;> omega
  rw [e] at h
  exact h
def kM (l : List Int) : Bool := decide (dk l < 0)
theorem yd (s : ByteArray) (hs : s.size ≤ 140737488351232) : Ev (fun k => iv k s) (kM (aa s)) := ah (xB s hs) (az _)
end Go.Proofs.YtpmflpeckoeooaaGreatDoor.Y
namespace Go.Proofs.YtpmflpeckoeooaaGreatDoor.M
open Go Go.RowKit Go.Proofs.YtpmflpeckoeooaaGreatDoorW.PrintWords
def cv (sub : List Int) : List Int → Int
  | [] => if sub = [] then 0 else -1
  | b :: t => if sub.isPrefixOf (b :: t) then 0 else if cv sub t = -1 then -1 else cv sub t + 1
theorem ke (sub : List Int) (b : Int) (t : List Int) : cv sub (b :: t) = if sub.isPrefixOf (b :: t) then 0 else if cv sub t = -1 then -1 else cv sub t + 1 := rfl
theorem pQ (sub l : List Int) : -1 ≤ cv sub l := by
  induction l with
  | nil => unfold cv; split <;> omega
  | cons b t ih => rw [ke]; split <;> (try split) <;> omega
theorem uc (a l : List UInt8) : (a.map fun b => (b.toNat : Int)).isPrefixOf (l.map fun b => (b.toNat : Int)) = a.isPrefixOf l := by
  induction a generalizing l with
  | nil => rfl
  | cons x t ih =>
    cases l with
    | nil => rfl
    | cons y r =>
      rw [List.map_cons, List.map_cons, List.isPrefixOf_cons_cons, List.isPrefixOf_cons_cons, ih]
      congr 1
      rw [Bool.eq_iff_iff, beq_iff_eq, beq_iff_eq]
      constructor
      · intro h; exact UInt8.toNat_inj.1 (by omega)
      · intro h; rw [h]
theorem pc (l sub : List UInt8) : Go.Lib.index l sub = cv (sub.map fun b => (b.toNat : Int)) (l.map fun b => (b.toNat : Int)) := by
  induction l with
  | nil =>
    unfold Go.Lib.index
    rw [List.map_nil]
    unfold cv
    cases sub <;> simp
  | cons b t ih =>
    unfold Go.Lib.index
    have hp := uc sub (b :: t)
    rw [List.map_cons] at hp ⊢
    rw [ke, hp, ih]
    by_cases h : sub.isPrefixOf (b :: t) = true
    · rw [if_pos h, if_pos h]
    · rw [if_neg h, if_neg h]
      simp only [beq_iff_eq]
theorem ox (s sub : ByteArray) : Go.Lib.indexB s sub = cv (aa sub) (aa s) := pc _ _
theorem rr (c : Int) (l : List Int) : cv [c] l = idx c l := by
  induction l with
  | nil => unfold cv idx; simp
  | cons b t ih =>
    rw [ke, ih]
    have : idx c (b :: t) = if b = c then 0 else if idx c t = -1 then -1 else idx c t + 1 := rfl
    rw [this]
    by_cases h : b = c
    · rw [if_pos h, if_pos (by simp [h])]
    · rw [if_neg h, if_neg (by simp; exact fun x => h x.symm)]
theorem lF {sub l : List Int} (h : 0 ≤ cv sub l) : (cv sub l).toNat + sub.length ≤ l.length ∧ (l.drop (cv sub l).toNat).take sub.length = sub := by
  induction l with
  | nil =>
    unfold cv at h ⊢
    by_cases hs : sub = []
    · subst hs; simp
    · rw [if_neg hs] at h; omega
  | cons b t ih =>
    rw [ke] at h ⊢
    by_cases hp : sub.isPrefixOf (b :: t) = true
    · rw [if_pos hp]
      have := List.isPrefixOf_iff_prefix.1 hp
      refine ⟨?_, ?_⟩
      · have := this.length_le; simpa using this
      · simpa using (List.prefix_iff_eq_take.1 this).symm
    · rw [if_neg hp] at h ⊢
      by_cases h1 : cv sub t = -1
      · rw [if_pos h1] at h; omega
      · have hg := pQ sub t
        rw [if_neg h1]
        have := ih (by omega)
        have e : (cv sub t + 1).toNat = (cv sub t).toNat + 1 := by omega
        rw [e, List.drop_succ_cons, List.length_cons]
        exact ⟨by omega, this.2⟩
def bT (c : Int) : List Int → List (List Int)
  | [] => [[]]
  | b :: t => if b = c then [] :: bT c t else (b :: (bT c t).headD []) :: (bT c t).tail
theorem gi (c b : Int) (t : List Int) : bT c (b :: t) = if b = c then [] :: bT c t else (b :: (bT c t).headD []) :: (bT c t).tail := rfl
theorem vQ (c : Int) (l : List Int) : bT c l ≠ [] := by
  cases l with
  | nil => simp [bT]
  | cons b t => rw [gi]; split <;> simp
theorem jU (c : Int) (l : List Int) : bT c l = (bT c l).headD [] :: (bT c l).tail := by
  cases h : bT c l with
  | nil => exact absurd h (vQ c l)
  | cons a r => rfl
theorem oE {c : Int} {l : List Int} (h : c ∉ l) : bT c l = [l] := by
  induction l with
  | nil => rfl
  | cons b t ih =>
    rw [List.mem_cons, not_or] at h
    rw [gi, if_neg (fun x => h.1 x.symm), ih h.2]; rfl
theorem vP {c : Int} {a : List Int} (h : c ∉ a) (r : List Int) : bT c (a ++ c :: r) = a :: bT c r := by
  induction a with
  | nil => rw [List.nil_append, gi, if_pos rfl]
  | cons b t ih =>
    rw [List.mem_cons, not_or] at h
    rw [List.cons_append, gi, if_neg (fun x => h.1 x.symm), ih h.2]; rfl
theorem ks (c : Int) (l : List Int) : (bT c l).length ≤ l.length + 1 := by
  induction l with
  | nil => simp [bT]
  | cons b t ih =>
    rw [gi]
    split
    · simp; omega
    · simp only [List.length_cons, List.length_tail]; omega
theorem pt {c : Int} {l : List Int} : ∀ p ∈ bT c l, c ∉ p ∧ (∀ b ∈ p, b ∈ l) ∧ p.length ≤ l.length := by
  induction l with
  | nil => intro p hp; simp [bT] at hp; subst hp; simp
  | cons b t ih =>
    intro p hp
    rw [gi] at hp
    by_cases h : b = c
    · rw [if_pos h] at hp
      rcases List.mem_cons.1 hp with rfl | hp
      · simp
      · obtain ⟨h1, h2, h3⟩ := ih p hp
        exact ⟨h1, fun x hx => List.mem_cons_of_mem _ (h2 x hx), by rw [List.length_cons]; omega⟩
    · rw [if_neg h] at hp
      rcases List.mem_cons.1 hp with rfl | hp
      · obtain ⟨h1, h2, h3⟩ := ih ((bT c t).headD []) (by rw [jU c t]; simp)
        refine ⟨?_, ?_, by simp only [List.length_cons]; omega⟩
        · rw [List.mem_cons, not_or]; exact ⟨fun x => h x.symm, h1⟩
        · intro x hx
          rcases List.mem_cons.1 hx with rfl | hx
          · exact List.mem_cons_self ..
          · exact List.mem_cons_of_mem _ (h2 x hx)
      · obtain ⟨h1, h2, h3⟩ := ih p (List.mem_of_mem_tail hp)
        exact ⟨h1, fun x hx => List.mem_cons_of_mem _ (h2 x hx), by rw [List.length_cons]; omega⟩
theorem qz (c : Int) (sep : ByteArray) (hsep : aa sep = [c]) : ∀ (k : Nat) (s : ByteArray), Go.Lib.countB s sep = k → (Go.Lib.splitB sep 0 k s).map aa = bT c (aa s) := by
  have h1 : sep.size = 1 := by rw [← af, hsep]; rfl
  intro k
  induction k with
  | zero =>
    intro s hk
    rcases Go.Lib.indexB_cases s sep with hix | ⟨i, hix, hr⟩
    · rw [Go.Lib.splitB_zero, List.map_cons, List.map_nil]
      rw [ox, hsep, rr] at hix
      rw [oE (oK.1 hix)]
    · have := Go.Lib.countB_hit s sep i (by omega) hix; omega
  | succ k ih =>
    intro s hk
    rcases Go.Lib.indexB_cases s sep with hix | ⟨i, hix, hr⟩
    · rw [Go.Lib.countB_miss s sep hix] at hk; omega
    · have hc := Go.Lib.countB_hit s sep i (by omega) hix
      rw [Go.Lib.splitB_hit sep 0 k s i hix, List.map_cons, ih _ (by omega)]
      rw [ox, hsep, rr] at hix
      obtain ⟨e1, e2⟩ := nK (c := c) (l := aa s) (by omega)
      rw [hix, Int.toNat_natCast] at e1 e2
      conv => rhs; rw [e1]
      rw [vP e2, ap, ap, h1, List.drop_zero, Nat.add_zero]
      rw [← af, List.take_length]
def ki (l : List Int) : Int := l.foldl (fun n b => 10 * n + (b - 48)) 0
def d8 (l : List Int) : Int :=
  if l.length = 0 ∨ 3 < l.length ∨ (1 < l.length ∧ l.headD 0 = 48) then -1 else if l.all dr then (if ki l ≤ 255 then ki l else -1) else -1
def ng (n : Int) : List Int := if n < 10 then [48 + n] else if n < 100 then [48 + n / 10, 48 + n % 10] else [48 + n / 100, 48 + n / 10 % 10, 48 + n % 10]
theorem xw {n : Int} (h0 : 0 ≤ n) (h1 : n ≤ 255) : d8 (ng n) = n :=
  b6 (p := fun n => d8 (ng n) = n) (by decide +kernel) h0 h1
theorem iK {b : Int} : dr b = true ↔ 48 ≤ b ∧ b ≤ 57 := by unfold dr; rw [decide_eq_true_iff]
theorem s6 {l : List Int} (h : 0 ≤ d8 l) : ng (d8 l) = l ∧ d8 l ≤ 255 := by
  unfold d8 at h ⊢
  by_cases h1 : l.length = 0 ∨ 3 < l.length ∨ (1 < l.length ∧ l.headD 0 = 48)
  · rw [if_pos h1] at h; omega
  · rw [if_neg h1] at h ⊢
    by_cases h2 : l.all dr = true
    · rw [if_pos h2] at h ⊢
      by_cases h3 : ki l ≤ 255
      · rw [if_pos h3] at h ⊢
        refine ⟨?_, h3⟩
        match l, h1, h2, h3 with
        | [], h1, _, _ => simp at h1
        | [a], h1, h2, h3 =>
          simp only [List.all_cons, List.all_nil, Bool.and_true, iK] at h2
          simp only [ki, List.foldl_cons, List.foldl_nil] at h3 ⊢
          unfold ng
          rw [if_pos (by omega)]
          congr 1; omega
        | [a, b], h1, h2, h3 =>
          simp only [List.all_cons, List.all_nil, Bool.and_true, Bool.and_eq_true, iK] at h2
          simp only [List.length_cons, List.length_nil, List.headD_cons] at h1
          simp only [ki, List.foldl_cons, List.foldl_nil] at h3 ⊢
          unfold ng
          rw [if_neg (by omega), if_pos (by omega)]
          congr 1
          · omega
          · congr 1; omega
        | [a, b, c], h1, h2, h3 =>
          simp only [List.all_cons, List.all_nil, Bool.and_true, Bool.and_eq_true, iK] at h2
          simp only [List.length_cons, List.length_nil, List.headD_cons] at h1
          simp only [ki, List.foldl_cons, List.foldl_nil] at h3 ⊢
          unfold ng
          rw [if_neg (by omega), if_neg (by omega)]
          congr 1
          · omega
          · congr 1
            · omega
            · congr 1; omega
        | _ :: _ :: _ :: _ :: _, h1, _, _ => simp only [List.length_cons] at h1; omega
      · rw [if_neg h3] at h; omega
    · rw [if_neg h2] at h; omega
theorem yo {n : Int} {l : List Int} (h0 : 0 ≤ n) (h1 : n ≤ 255) : ng n = l ↔ d8 l = n := by
  constructor
  · intro h; rw [← h]; exact xw h0 h1
  · intro h
    have := (s6 (l := l) (by omega)).1
    rw [h] at this; exact this
theorem ot {l : List Int} (h : l.all dr = true) : 0 ≤ ki l := by
  have key : ∀ (l : List Int) (n : Int), 0 ≤ n → l.all dr = true → 0 ≤ l.foldl (fun n b => 10 * n + (b - 48)) n := by
    intro l
    induction l with
    | nil => intro n hn _; exact hn
    | cons b t ih =>
      intro n hn h
      rw [List.all_cons, Bool.and_eq_true, iK] at h
      exact ih _ (by show 0 ≤ 10 * n + (b - 48); omega) h.2
  exact key l 0 (by omega) h
theorem kC (l : List Int) : -1 ≤ d8 l ∧ d8 l ≤ 255 := by
  by_cases h : 0 ≤ d8 l
  · have := (s6 h).2; omega
  · unfold d8 at h ⊢
    by_cases h1 : l.length = 0 ∨ 3 < l.length ∨ (1 < l.length ∧ l.headD 0 = 48)
    · rw [if_pos h1]; omega
    · rw [if_neg h1] at h ⊢
      by_cases h2 : l.all dr = true
      · rw [if_pos h2] at h ⊢
        by_cases h3 : ki l ≤ 255
        · rw [if_pos h3] at h ⊢
          have key := ot h2
          omega
        · rw [if_neg h3]; omega
      · rw [if_neg h2]; omega
theorem wf {l : List Int} (h : 0 ≤ d8 l) : l.all dr = true := by
  unfold d8 at h
  by_cases h1 : l.length = 0 ∨ 3 < l.length ∨ (1 < l.length ∧ l.headD 0 = 48)
  · rw [if_pos h1] at h; omega
  · rw [if_neg h1] at h
    by_cases h2 : l.all dr = true
    · exact h2
    · rw [if_neg h2] at h; omega
def v4 (l : List Int) : Option (Int × Int × Int × Int) :=
  match bT 46 l with
  | [a, b, c, d] => if 0 ≤ d8 a ∧ 0 ≤ d8 b ∧ 0 ≤ d8 c ∧ 0 ≤ d8 d then some (d8 a, d8 b, d8 c, d8 d) else none
  | _ => none
theorem yD {l : List Int} (h : 46 ∉ l) : v4 l = none := by
  unfold v4
  rw [oE h]
theorem rB {l : List Int} {a b c d : Int} (h : v4 l = some (a, b, c, d)) : (0 ≤ a ∧ a ≤ 255) ∧ (0 ≤ b ∧ b ≤ 255) ∧ (0 ≤ c ∧ c ≤ 255) ∧ 0 ≤ d ∧ d ≤ 255 := by
  unfold v4 at h
  split at h
  · rename_i x y z w _
    split at h
    · simp only [Option.some.injEq, Prod.mk.injEq] at h
      obtain ⟨rfl, rfl, rfl, rfl⟩ := h
      have := kC x
      have := kC y
      have := kC z
      have := kC w
      omega
    · cases h
  · cases h
def jL (n : Int) : List Int → Int
  | [] => n
  | b :: t => jL (16 * n + hv b) t
def fc (l : List Int) : Int := if l.length = 0 ∨ 4 < l.length then -1 else if l.all bv then jL 0 l else -1
theorem tM : ∀ (l : List Int) (n m : Int), l.all bv = true → 0 ≤ n → n < m → 0 ≤ jL n l ∧ jL n l < m * 16 ^ l.length := by
  intro l
  induction l with
  | nil => intro n m _ h0 h1; simp [jL]; omega
  | cons b t ih =>
    intro n m h h0 h1
    rw [List.all_cons, Bool.and_eq_true, ← ka] at h
    have hr := jZ b
    have := ih (16 * n + hv b) (16 * m) h.2 (by omega) (by omega)
    refine ⟨this.1, Int.lt_of_lt_of_le this.2 ?_⟩
    rw [List.length_cons, Int.pow_succ]
    have : 16 * m * 16 ^ t.length = m * (16 ^ t.length * 16) := by
      rw [Int.mul_comm 16 m, Int.mul_assoc, Int.mul_comm 16]
    omega
theorem rD {l : List Int} (h : 0 ≤ fc l) : l.all bv = true ∧ 1 ≤ l.length ∧ l.length ≤ 4 := by
  unfold fc at h
  by_cases h1 : l.length = 0 ∨ 4 < l.length
  · rw [if_pos h1] at h; omega
  · rw [if_neg h1] at h
    by_cases h2 : l.all bv = true
    · exact ⟨h2, by omega, by omega⟩
    · rw [if_neg h2] at h; omega
def fJ (fin : Bool) : List (List Int) → Option (List Int)
  | [] => some []
  | p :: r => if r = [] ∧ fin = true ∧ (v4 p).isSome then (v4 p).map fun x => [256 * x.1 + x.2.1, 256 * x.2.2.1 + x.2.2.2]
    else if fc p < 0 then none else (fJ fin r).map fun l => fc p :: l
theorem iV (fin : Bool) (p : List Int) (r : List (List Int)) : fJ fin (p :: r) = if r = [] ∧ fin = true ∧ (v4 p).isSome then (v4 p).map fun x => [256 * x.1 + x.2.1, 256 * x.2.2.1 + x.2.2.2]
    else if fc p < 0 then none else (fJ fin r).map fun l => fc p :: l := rfl
theorem n0 {fin : Bool} {r : List (List Int)} {l : List Int} (h : fJ fin r = some l) : l.length ≤ r.length + 1 := by
  induction r generalizing l with
  | nil => simp [fJ] at h; subst h; simp
  | cons p r ih =>
    rw [iV] at h
    split at h
    · obtain ⟨x, _, rfl⟩ := Option.map_eq_some_iff.1 h
      simp
    · split at h
      · cases h
      · obtain ⟨x, hx, rfl⟩ := Option.map_eq_some_iff.1 h
        have := ih hx
        simp only [List.length_cons]; omega
theorem sX {r : List (List Int)} (h : ∀ p ∈ r, (46 : Int) ∉ p) (fin : Bool) : fJ fin r = fJ false r := by
  induction r with
  | nil => rfl
  | cons p r ih =>
    have hp := yD (h p (List.mem_cons_self ..))
    rw [iV, iV, ih (fun q hq => h q (List.mem_cons_of_mem _ hq)), hp]
    simp
theorem vX {r : List (List Int)} {l : List Int} (h : fJ false r = some l) : ∀ p ∈ r, (46 : Int) ∉ p ∧ p.all bv = true := by
  induction r generalizing l with
  | nil => simp
  | cons p r ih =>
    rw [iV, if_neg (by simp)] at h
    split at h
    · cases h
    · rename_i hw
      obtain ⟨x, hx, rfl⟩ := Option.map_eq_some_iff.1 h
      intro q hq
      rcases List.mem_cons.1 hq with rfl | hq
      · have := (rD (l := q) (by omega)).1
        refine ⟨fun hm => ?_, this⟩
        have := List.all_eq_true.1 this _ hm
        simp [bv] at this
      · exact ih hx q hq
def fY (fin : Bool) (l : List Int) : Option (List Int) := if l = [] then some [] else fJ fin (bT 58 l)
def v6 (l : List Int) : Option (List Int) :=
  if cv [58, 58] l < 0 then (fY true l).bind fun w => if w.length = 8 then some w else none
  else (fY false (l.take (cv [58, 58] l).toNat)).bind fun a => (fY true (l.drop ((cv [58, 58] l).toNat + 2))).bind fun b =>
    if a.length + b.length ≤ 7 then some (a ++ List.replicate (8 - a.length - b.length) 0 ++ b) else none
def fut : List Int → Bool
  | [] => false
  | v :: t => (v == 118 || v == 86) && decide (0 < bd bv t) && decide (2 ≤ (t.drop (bd bv t)).length) && ((t.drop (bd bv t)).headD 0 == 46) && ((t.drop (bd bv t)).tail.all fun b => bV 1 b)
def ly (l : List Int) : Bool := decide (2 ≤ l.length) && (l.headD 0 == 91) && (l.getLastD 0 == 93)
def gu (iri : Bool) (l : List Int) : Int :=
  if ly l then (if (v6 ((l.take (l.length - 1)).drop 1)).isSome || fut ((l.take (l.length - 1)).drop 1) then 3 else 0)
  else if (v4 l).isSome then 1 else if be 2 iri l then 2 else 0
end Go.Proofs.YtpmflpeckoeooaaGreatDoor.M
namespace Go.Proofs.YtpmflpeckoeooaaGreatDoor.Y
open Go.RowKit Go.Proofs.YtpmflpeckoeooaaGreatDoor.X Go.Proofs.YtpmflpeckoeooaaGreatDoor.M Go.Proofs.YtpmflpeckoeooaaGreatDoorW.PrintWords Go.Proofs.YtpmflpeckoeooaaGreatDoorW.PrintLast Go.Proofs.YtpmflpeckoeooaaGreatDoorW.PrintMore
theorem tq (s sep : ByteArray) (c : Int) (hsep : aa sep = [c]) (hs : s.size < 4294967281) : ∃ R : List ByteArray, gB s sep = some R ∧ R.map aa = bT c (aa s) := by
  have h1 : sep.size = 1 := by rw [← af, hsep]; rfl
  refine ⟨_, ?_, qz c sep hsep _ s rfl⟩
  unfold gB
  rw [if_pos ⟨hs, by omega⟩]
theorem wV (s sep : ByteArray) (hs : s.size < 4294967281) (h1 : sep.size ≤ 1000) : dw s sep = some (if cv (aa sep) (aa s) < 0 then (s, (⟨#[]⟩ : ByteArray), false)
    else (s.extract 0 (cv (aa sep) (aa s)).toNat, s.extract ((cv (aa sep) (aa s)).toNat + sep.size) s.size, true)) := by
  unfold dw iz hM
  rw [if_pos hs]
  have e : Go.Lib.index s.data.toList sep.data.toList = cv (aa sep) (aa s) := pc _ _
  rw [e]
  simp only [Option.bind_some]
  by_cases h : cv (aa sep) (aa s) < 0
  · rw [if_neg (by omega), if_pos h]; rfl
  · have hsp := lF (sub := aa sep) (l := aa s) (by omega)
    rw [af, af] at hsp
    rw [if_pos (by omega), if_pos (by omega), if_pos (by omega), w64 (by omega) (by omega), if_pos (by omega), if_pos (by omega), if_neg h]
    simp only [Option.bind_some]
    have : (cv (aa sep) (aa s) + (sep.size : Int)).toNat = (cv (aa sep) (aa s)).toNat + sep.size := by omega
    rw [this]
theorem qV (pre : List ByteArray) (x : ByteArray) : eL ByteArray.empty (pre ++ [x]) (((pre ++ [x]).length : Int) - 1) = x := by
  unfold eL
  rw [List.length_append, List.length_singleton]
  have : (((pre.length + 1 : Nat) : Int) - 1).toNat = pre.length := by omega
  rw [this]
  simp
theorem wE (s : ByteArray) (c : Int) (hs : s.size ≤ 1000000) : ∀ d i : Nat, i + d = s.size → ∀ (pre : List ByteArray) (x : ByteArray), pre.length ≤ i → x.size ≤ i →
    ∃ R, Ev (fun k => bm k s c (pre ++ [x]) (i : Int)) R ∧ R.map aa = pre.map aa ++ (aa x ++ (bT c ((aa s).drop i)).headD []) :: (bT c ((aa s).drop i)).tail := by
  intro d
  induction d with
  | zero =>
    intro i hi pre x hp hx
    refine ⟨pre ++ [x], ?_, ?_⟩
    · refine Ev.step (fun k => by rw [bm]) ?_
      exact ae (by omega) (az _)
    · rw [List.drop_of_length_le (by rw [af]; omega)]
      simp [bT]
  | succ d ih =>
    intro i hi pre x hp hx
    rcases bu s i (by omega) with ⟨h, _⟩ | ⟨h, e, b0, b1⟩
    · omega
    rw [e, gi]
    by_cases hb : bt s (i : Int) = c
    · obtain ⟨R, h1, h2⟩ := ih (i + 1) (by omega) (pre ++ [x]) (⟨#[]⟩ : ByteArray) (by rw [List.length_append]; simp; omega) (by show 0 ≤ _; omega)
      refine ⟨R, ?_, ?_⟩
      · refine Ev.step (fun k => by rw [bm]) ?_
        refine ab (by omega) (ab (by omega) (ab hb (ab (by rw [List.length_append]; simp; omega) ?_)))
        rw [w64 (by omega) (by omega)]
        exact h1
      · rw [h2, if_pos hb]
        have : aa (⟨#[]⟩ : ByteArray) = [] := rfl
        rw [this, List.map_append]
        simp only [List.map_cons, List.map_nil, List.nil_append, List.headD_cons, List.tail_cons, List.append_nil, List.append_assoc, List.singleton_append]
        rw [← jU]
    · have hx1 : (s.extract i (i + 1)).size = 1 := by rw [← af, ap, List.length_drop, List.length_take, af]; omega
      have hsz : (x ++ s.extract i (i + 1)).size = x.size + 1 := by
        rw [ByteArray.size_append, hx1]
      obtain ⟨R, h1, h2⟩ := ih (i + 1) (by omega) pre (x ++ s.extract i (i + 1)) (by omega) (by omega)
      refine ⟨R, ?_, ?_⟩
      · refine Ev.step (fun k => by rw [bm]) ?_
        have hl : (pre ++ [x]).length = pre.length + 1 := by simp
        rw [w64 (x := ((pre ++ [x]).length : Int) - 1) (by omega) (by omega), w64 (x := (i : Int) + 1) (by omega) (by omega), qV]
        have e1 : ((i : Int) + 1).toNat = i + 1 := by omega
        have e2 : (((pre ++ [x]).length : Int) - 1).toNat = pre.length := by omega
        rw [e1, e2, Int.toNat_natCast, hx1]
        refine ab (by omega) (ab (by omega) (ae hb (ab (by omega) (ab (by omega) (ab (by omega) (ab (by omega) (ab (by omega) ?_)))))))
        have e3 : (pre ++ [x]).set pre.length (x ++ s.extract i (i + 1)) = pre ++ [x ++ s.extract i (i + 1)] := by simp
        rw [e3]
        exact h1
      · rw [h2, if_neg hb, eX, ap]
        have : ((aa s).take (i + 1)).drop i = [bt s (i : Int)] := by
          rw [List.drop_take, e, show i + 1 - i = 1 by omega, List.take_succ_cons, List.take_zero]
        rw [this]
        simp
theorem tj (s : ByteArray) (c : Int) (hs : s.size ≤ 1000000) : ∃ R, Ev (fun k => ez k s c) R ∧ R.map aa = bT c (aa s) := by
  obtain ⟨R, h1, h2⟩ := wE s c hs s.size 0 (by omega) [] (⟨#[]⟩ : ByteArray) (by simp) (by show 0 ≤ _; omega)
  refine ⟨R, h1, ?_⟩
  rw [h2, List.drop_zero]
  have : aa (⟨#[]⟩ : ByteArray) = [] := rfl
  rw [this]
  simp only [List.map_nil, List.nil_append]
  rw [← jU]
theorem ri {R : List ByteArray} {L : List (List Int)} (h : R.map aa = L) (i : Nat) : aa (eL ByteArray.empty R (i : Int)) = L.getD i [] := by
  subst h
  unfold eL
  rw [Int.toNat_natCast, List.getD_eq_getElem?_getD, List.getD_eq_getElem?_getD, List.getElem?_map]
  cases R[i]? with
  | none => rfl
  | some x => rfl
def p10 : Nat → Int
  | 0 => 1
  | 1 => 10
  | 2 => 100
  | _ => 1000
theorem wB {i : Nat} (hi : i < 3) {n b : Int} (h0 : 0 ≤ n) (h1 : n < p10 i) (b0 : 48 ≤ b) (b1 : b ≤ 57) : 0 ≤ 10 * n + (b - 48) ∧ 10 * n + (b - 48) < p10 (i + 1) ∧ n ≤ 1000 := by
  rcases i with _ | _ | _ | i
  · simp only [p10] at *; omega
  · simp only [p10] at *; omega
  · simp only [p10] at *; omega
  · omega
theorem tC (s : ByteArray) (h3 : s.size ≤ 3) : ∀ d i : Nat, ∀ n : Int, i + d = s.size → 0 ≤ n → n < p10 i → Ev (fun k => dv k s n (s.size : Int) (i : Int))
    (if ((aa s).drop i).all dr then (((aa s).drop i).foldl (fun n b => 10 * n + (b - 48)) n % 256, decide (((aa s).drop i).foldl (fun n b => 10 * n + (b - 48)) n ≤ 255)) else (0, false)) := by
  intro d
  induction d with
  | zero =>
    intro i n hi _ _
    rw [List.drop_of_length_le (by rw [af]; omega)]
    refine Ev.step (fun k => by rw [dv]) ?_
    exact ae (by omega) (az _)
  | succ d ih =>
    intro i n hi h0 h1
    rcases bu s i (by omega) with ⟨h, _⟩ | ⟨h, e, b0, b1⟩
    · omega
    refine Ev.step (fun k => by rw [dv]) ?_
    refine ab (by omega) (ab (by omega) (ab (by omega) (ah (tR 2 b0 b1) ?_)))
    rw [e, qh b0 b1, List.all_cons, List.foldl_cons]
    cases hd : dr (bt s (i : Int))
    · refine ae (by simp) (Ev.val (by simp))
    · refine ab rfl ?_
      have hb := iK.1 hd
      have hst := wB (i := i) (by omega) h0 h1 hb.1 hb.2
      have e1 : wrap64 (wrap64 (10 * n) + (bt s (i : Int) - 48) % 256) = 10 * n + (bt s (i : Int) - 48) := by
        rw [w64 (x := 10 * n) (by omega) (by omega), w64 (by omega) (by omega)]; omega
      rw [e1, w64 (by omega) (by omega)]
      simp only [Bool.true_and]
      exact ih (i + 1) _ (by omega) hst.1 hst.2.1
theorem uS (s : ByteArray) (hs : s.size ≤ 140737488351232) : ∃ n : Int, Ev (fun k => eZ k s) (n, decide (0 ≤ d8 (aa s))) ∧ (0 ≤ d8 (aa s) → n = d8 (aa s)) := by
  have bad : (aa s).length = 0 ∨ 3 < (aa s).length ∨ (1 < (aa s).length ∧ (aa s).headD 0 = 48) → Ev (fun k => cr k s true) (0, decide (0 ≤ d8 (aa s))) ∧ ¬ 0 ≤ d8 (aa s) := by
    intro h
    have hd : d8 (aa s) = -1 := by unfold d8; rw [if_pos h]
    rw [hd]
    refine ⟨?_, by omega⟩
    refine Ev.step (fun k => by rw [cr]) ?_
    exact ab rfl (az _)
  have hh : 0 < s.size → (aa s).headD 0 = bt s 0 := by
    intro h
    rcases gD s with ⟨h2, _⟩ | ⟨_, e, _⟩
    · omega
    · rw [e]; rfl
  by_cases hb : (aa s).length = 0 ∨ 3 < (aa s).length ∨ (1 < (aa s).length ∧ (aa s).headD 0 = 48)
  · obtain ⟨h1, h2⟩ := bad hb
    refine ⟨0, ?_, fun h => absurd h h2⟩
    unfold eZ
    rw [af] at hb
    refine Ev.ite (fun _ => h1) (fun _ => Ev.ite (fun _ => h1) (fun _ => Ev.ite (fun _ => ab (by omega) ?_) (fun _ => by omega)))
    have : (bt s 0 == 48) = true := by
      rw [beq_iff_eq, ← hh (by omega)]
      omega
    rw [this]
    exact h1
  · have hb2 := hb
    rw [af] at hb
    have fo : Ev (fun k => cr k s false) (if (aa s).all dr then (ki (aa s) % 256, decide (ki (aa s) ≤ 255)) else (0, false)) := by
      refine Ev.step (fun k => by rw [cr]) ?_
      refine ae (by simp) ?_
      exact tC s (by omega) s.size 0 0 (by omega) (by omega) (by decide)
    have all : Ev (fun k => eZ k s) (if (aa s).all dr then (ki (aa s) % 256, decide (ki (aa s) ≤ 255)) else (0, false)) := by
      unfold eZ
      refine ae (by omega) (ae (by omega) (Ev.ite (fun _ => ab (by omega) ?_) (fun _ => fo)))
      have : (bt s 0 == 48) = false := by
        rw [beq_eq_false_iff_ne, ← hh (by omega)]
        intro h
        omega
      rw [this]
      exact fo
    have hr := kC (aa s)
    unfold d8 at hr ⊢
    rw [if_neg hb2] at hr ⊢
    cases ha : (aa s).all dr
    · rw [ha] at all
      exact ⟨0, all, by simp⟩
    · rw [ha] at all
      by_cases h255 : ki (aa s) ≤ 255
      · rw [if_pos h255] at hr ⊢
        simp only [if_true] at hr all ⊢
        have h0 := ot ha
        rw [decide_eq_true h255] at all
        refine ⟨ki (aa s) % 256, ?_, fun _ => by omega⟩
        rw [decide_eq_true h0]
        exact all
      · rw [decide_eq_false h255] at all
        rw [if_neg h255]
        exact ⟨_, all, by simp⟩
def v4T (l : List Int) : Int × Int × Int × Int × Bool := match v4 l with
  | some (a, b, c, d) => (a, b, c, d, true)
  | none => (0, 0, 0, 0, false)
theorem py (l : List Int) : (v4T l).2.2.2.2 = (v4 l).isSome := by
  unfold v4T
  cases v4 l with
  | none => rfl
  | some x => obtain ⟨a, b, c, d⟩ := x; rfl
theorem tu (l a b c d : List Int) (h : bT 46 l = [a, b, c, d]) : v4 l = if 0 ≤ d8 a ∧ 0 ≤ d8 b ∧ 0 ≤ d8 c ∧ 0 ≤ d8 d then some (d8 a, d8 b, d8 c, d8 d) else none := by
  unfold v4; rw [h]
theorem rA (l : List Int) (h : (bT 46 l).length ≠ 4) : v4 l = none := by
  unfold v4
  split
  · rename_i e; rw [e] at h; simp at h
  · rfl
theorem oe (R : List ByteArray) (i : Nat) (hi : i < R.length) (p : ByteArray) (hp : eL ByteArray.empty R (i : Int) = p) (hsz : p.size ≤ 140737488351232) (h4 : i < 4) (a b c d : Int) (r : Int × Int × Int × Int × Bool)
    (bad : ¬ 0 ≤ d8 (aa p) → r = (0, 0, 0, 0, false))
    (fo : 0 ≤ d8 (aa p) → Ev (fun k => eK k R (R.length : Int) ((i : Int) + 1) (if i = 0 then d8 (aa p) else a) (if i = 1 then d8 (aa p) else b) (if i = 2 then d8 (aa p) else c) (if i = 3 then d8 (aa p) else d)) r) :
    Ev (fun k => eK k R (R.length : Int) (i : Int) a b c d) r := by
  obtain ⟨n, h1, h2⟩ := uS p hsz
  refine Ev.step (fun k => by rw [eK]) ?_
  rw [hp]
  refine ab (by omega) (ab (by omega) (ab (by omega) (ah h1 ?_)))
  simp only
  by_cases hd : 0 ≤ d8 (aa p)
  · rw [decide_eq_true hd]
    rw [h2 hd, w64 (by omega) (by omega)]
    have g := fo hd
    refine ab rfl ?_
    have : i = 0 ∨ i = 1 ∨ i = 2 ∨ i = 3 := by omega
    rcases this with rfl | rfl | rfl | rfl
    · exact ab (by omega) g
    · exact ae (by omega) (ab (by omega) g)
    · exact ae (by omega) (ae (by omega) (ab (by omega) g))
    · exact ae (by omega) (ae (by omega) (ae (by omega) (ab (by omega) g)))
  · rw [decide_eq_false hd]
    exact ae (by simp) (Ev.val (bad hd).symm)
theorem pH {α : Type} {R : List α} (h : R.length = 4) : ∃ a b c d, R = [a, b, c, d] := by
  match R, h with
  | [a, b, c, d], _ => exact ⟨a, b, c, d, rfl⟩
theorem nU {R : List ByteArray} {c : Int} {l : List Int} (h : R.map aa = bT c l) {p : ByteArray} (hp : p ∈ R) : p.size ≤ l.length := by
  rw [← af]
  exact (pt (c := c) (l := l) _ (by rw [← h]; exact List.mem_map.2 ⟨p, hp, rfl⟩)).2.2
theorem yE (s : ByteArray) (hs : s.size ≤ 1000000) : Ev (fun k => jB k s) (v4T (aa s)) := by
  obtain ⟨R, hR, hL⟩ := tq s (⟨#[46]⟩ : ByteArray) 46 rfl (by omega)
  unfold jB
  refine bw hR ?_
  have hlen : R.length = (bT 46 (aa s)).length := by rw [← hL, List.length_map]
  by_cases h4 : R.length = 4
  · refine ab (by omega) ?_
    obtain ⟨a, b, c, d, rfl⟩ := pH h4
    have hsz : ∀ p ∈ [a, b, c, d], p.size ≤ 140737488351232 := fun p hp => by have := nU hL hp; rw [af] at this; omega
    have hv := tu (aa s) _ _ _ _ (by rw [← hL]; rfl)
    have badv : ¬ (0 ≤ d8 (aa a) ∧ 0 ≤ d8 (aa b) ∧ 0 ≤ d8 (aa c) ∧ 0 ≤ d8 (aa d)) → v4T (aa s) = (0, 0, 0, 0, false) := by
      intro h
      unfold v4T
      rw [hv, if_neg h]
    refine oe [a, b, c, d] 0 (by simp) a rfl (hsz a (by simp)) (by omega) 0 0 0 0 _ (fun h => badv (fun x => h x.1)) (fun ha => ?_)
    refine oe [a, b, c, d] 1 (by simp) b rfl (hsz b (by simp)) (by omega) _ _ _ _ _ (fun h => badv (fun x => h x.2.1)) (fun hb => ?_)
    refine oe [a, b, c, d] 2 (by simp) c rfl (hsz c (by simp)) (by omega) _ _ _ _ _ (fun h => badv (fun x => h x.2.2.1)) (fun hc => ?_)
    refine oe [a, b, c, d] 3 (by simp) d rfl (hsz d (by simp)) (by omega) _ _ _ _ _ (fun h => badv (fun x => h x.2.2.2)) (fun hd => ?_)
    refine Ev.step (fun k => by rw [eK]) ?_
    refine ae (by simp) (Ev.val ?_)
    rw [if_pos ⟨ha, hb, hc, hd⟩] at hv
    unfold v4T
    rw [hv]
    simp
  · refine ae (by omega) (Ev.val ?_)
    unfold v4T
    rw [rA _ (by omega)]
theorem wh {n : Int} (h0 : 0 ≤ n) (h1 : n ≤ 255) : ∃ t : ByteArray, Ev (fun k => bi k n) t ∧ aa t = ng n := by
  have := b6 (p := fun n => ((bi 5 n).map aa) = some (ng n)) (by decide +kernel) h0 h1
  obtain ⟨t, h2, h3⟩ := Option.map_eq_some_iff.1 this
  exact ⟨t, lx (fun k => lU n k) h2, h3⟩
theorem wJ (R : List ByteArray) (i : Nat) (hi : i < R.length) (h4 : i < 4) (p : ByteArray) (hp : eL ByteArray.empty R (i : Int) = p) (a b c d : Int) (r : Int × Int × Int × Int × Bool)
    (bad : ¬ 0 ≤ d8 (aa p) → r = (0, 0, 0, 0, false))
    (fo : 0 ≤ d8 (aa p) → Ev (fun k => bz k R ((i : Int) + 1) (if i = 0 then d8 (aa p) else a) (if i = 1 then d8 (aa p) else b) (if i = 2 then d8 (aa p) else c) (if i = 3 then d8 (aa p) else d)) r) :
    ∀ m n : Nat, n + m = 256 → Ev (fun k => da k R (i : Int) (if 0 ≤ d8 (aa p) ∧ d8 (aa p) < n then d8 (aa p) else -1) (n : Int) a b c d) r := by
  intro m
  induction m with
  | zero =>
    intro n hn
    refine Ev.step (fun k => by rw [da]) ?_
    refine ae (by omega) ?_
    have hr := kC (aa p)
    by_cases hd : 0 ≤ d8 (aa p)
    · rw [if_pos ⟨hd, by omega⟩, w64 (by omega) (by omega)]
      have g := fo hd
      refine ae (by omega) (ab (by omega) ?_)
      have : i = 0 ∨ i = 1 ∨ i = 2 ∨ i = 3 := by omega
      rcases this with rfl | rfl | rfl | rfl
      · exact ab (by omega) g
      · exact ae (by omega) (ab (by omega) g)
      · exact ae (by omega) (ae (by omega) (ab (by omega) g))
      · exact ae (by omega) (ae (by omega) (ae (by omega) (ab (by omega) g)))
    · rw [if_neg (fun x => hd x.1)]
      exact ab (by omega) (Ev.val (bad hd).symm)
  | succ m ih =>
    intro n hn
    obtain ⟨t, h1, h2⟩ := wh (n := (n : Int)) (by omega) (by omega)
    refine Ev.step (fun k => by rw [da]) ?_
    refine ab (by omega) (ah h1 (ab (by omega) (ab (by omega) ?_)))
    rw [hp, w64 (by omega) (by omega)]
    have key : t.toList = p.toList ↔ d8 (aa p) = (n : Int) := by
      rw [ku, h2]
      exact yo (by omega) (by omega)
    have nx := ih (n + 1) (by omega)
    refine Ev.ite (fun h => ?_) (fun h => ?_)
    · have e := key.1 h
      have e2 : (if 0 ≤ d8 (aa p) ∧ d8 (aa p) < ((n + 1 : Nat) : Int) then d8 (aa p) else -1) = (n : Int) := by rw [if_pos (by omega), e]
      rw [e2] at nx
      exact nx
    · have e := fun x => h (key.2 x)
      have e2 : (if 0 ≤ d8 (aa p) ∧ d8 (aa p) < ((n + 1 : Nat) : Int) then d8 (aa p) else -1) = (if 0 ≤ d8 (aa p) ∧ d8 (aa p) < (n : Int) then d8 (aa p) else -1) := by
        by_cases hc : 0 ≤ d8 (aa p) ∧ d8 (aa p) < (n : Int)
        · rw [if_pos hc, if_pos ⟨hc.1, by omega⟩]
        · rw [if_neg hc, if_neg (fun x => hc ⟨x.1, by have : d8 (aa p) ≠ (n : Int) := e; omega⟩)]
      rw [e2] at nx
      exact nx
theorem lD (R : List ByteArray) (i : Nat) (hi : i < R.length) (h4 : i < 4) (p : ByteArray) (hp : eL ByteArray.empty R (i : Int) = p) (a b c d : Int) (r : Int × Int × Int × Int × Bool)
    (bad : ¬ 0 ≤ d8 (aa p) → r = (0, 0, 0, 0, false))
    (fo : 0 ≤ d8 (aa p) → Ev (fun k => bz k R ((i : Int) + 1) (if i = 0 then d8 (aa p) else a) (if i = 1 then d8 (aa p) else b) (if i = 2 then d8 (aa p) else c) (if i = 3 then d8 (aa p) else d)) r) :
    Ev (fun k => bz k R (i : Int) a b c d) r := by
  refine Ev.step (fun k => by rw [bz]) ?_
  refine ab (by omega) ?_
  have := wJ R i hi h4 p hp a b c d r bad fo 256 0 (by omega)
  rw [if_neg (by omega)] at this
  exact this
theorem tn (s : ByteArray) (hs : s.size ≤ 1000000) : Ev (fun k => fK k s) (v4T (aa s)) := by
  obtain ⟨R, hR, hL⟩ := tj s 46 hs
  unfold fK
  refine ah hR ?_
  have hlen : R.length = (bT 46 (aa s)).length := by rw [← hL, List.length_map]
  by_cases h4 : R.length = 4
  · refine ab (by omega) ?_
    obtain ⟨a, b, c, d, rfl⟩ := pH h4
    have hv := tu (aa s) _ _ _ _ (by rw [← hL]; rfl)
    have badv : ¬ (0 ≤ d8 (aa a) ∧ 0 ≤ d8 (aa b) ∧ 0 ≤ d8 (aa c) ∧ 0 ≤ d8 (aa d)) → v4T (aa s) = (0, 0, 0, 0, false) := by
      intro h
      unfold v4T
      rw [hv, if_neg h]
    refine lD [a, b, c, d] 0 (by simp) (by omega) a rfl 0 0 0 0 _ (fun h => badv (fun x => h x.1)) (fun ha => ?_)
    refine lD [a, b, c, d] 1 (by simp) (by omega) b rfl _ _ _ _ _ (fun h => badv (fun x => h x.2.1)) (fun hb => ?_)
    refine lD [a, b, c, d] 2 (by simp) (by omega) c rfl _ _ _ _ _ (fun h => badv (fun x => h x.2.2.1)) (fun hc => ?_)
    refine lD [a, b, c, d] 3 (by simp) (by omega) d rfl _ _ _ _ _ (fun h => badv (fun x => h x.2.2.2)) (fun hd => ?_)
    refine Ev.step (fun k => by rw [bz]) ?_
    refine ae (by simp) (Ev.val ?_)
    rw [if_pos ⟨ha, hb, hc, hd⟩] at hv
    unfold v4T
    rw [hv]
    simp
  · refine ae (by omega) (Ev.val ?_)
    unfold v4T
    rw [rA _ (by omega)]
theorem lb (n : Int) (h0 : 0 ≤ n) (h1 : n < 2 ^ 16) : IntKind.u16.wrap n = n := by
  simp [IntKind.wrap, IntKind.bits, IntKind.signed]
  omega
theorem vY (n : Int) (h0 : 0 ≤ n) (h1 : n < 2 ^ 62) : IntKind.i64.wrap n = n := by
  rw [IntKind.wrap_i64]; omega
theorem rz {a b : Int} (a0 : 0 ≤ a) (a1 : a ≤ 255) (b0 : 0 ≤ b) (b1 : b ≤ 255) : Go.bits .or .u16 (IntKind.u16.wrap (IntKind.u16.wrap a * 256)) (IntKind.u16.wrap b) = 256 * a + b := by
  rw [lb a a0 (by omega), lb (a * 256) (by omega) (by omega), lb b b0 (by omega)]
  rw [bits_join .u16 16 (by decide) lb 8 (a * 256) b (by omega) (by omega) (by omega) (by omega) (by omega) (by omega)]
  omega
theorem xJ {a b : Int} (a0 : 0 ≤ a) (a1 : a ≤ 1000000) (b0 : 0 ≤ b) (b1 : b ≤ 15) : Go.bits .or .i64 (wrap64 (a * 16)) b = 16 * a + b := by
  rw [w64 (by omega) (by omega), bits_join .i64 62 (by decide) vY 4 (a * 16) b (by omega) (by omega) (by omega) (by omega) (by omega) (by omega)]
  omega
def p16 : Nat → Int
  | 0 => 1
  | 1 => 16
  | 2 => 256
  | 3 => 4096
  | _ => 65536
theorem re {i : Nat} (hi : i < 4) {n b : Int} (h0 : 0 ≤ n) (h1 : n < p16 i) (b0 : 0 ≤ b) (b1 : b ≤ 15) : 0 ≤ 16 * n + b ∧ 16 * n + b < p16 (i + 1) ∧ n ≤ 65536 := by
  rcases i with _ | _ | _ | _ | i
  · simp only [p16] at *; omega
  · simp only [p16] at *; omega
  · simp only [p16] at *; omega
  · simp only [p16] at *; omega
  · omega
theorem ye (s : ByteArray) (h4 : s.size ≤ 4) : ∀ d i : Nat, ∀ n : Int, i + d = s.size → 0 ≤ n → n < p16 i → Ev (fun k => fg k s n (s.size : Int) (i : Int))
    (if ((aa s).drop i).all bv then (jL n ((aa s).drop i), true) else (0, false)) := by
  intro d
  induction d with
  | zero =>
    intro i n hi h0 h1
    rw [List.drop_of_length_le (by rw [af]; omega)]
    refine Ev.step (fun k => by rw [fg]) ?_
    refine ae (by omega) (Ev.val ?_)
    have : n < 65536 := by
      have h := h1
      have : i ≤ 4 := by omega
      rcases i with _ | _ | _ | _ | _ | i
      all_goals (first | omega | (simp only [p16] at h; omega))
    rw [lb n h0 (by omega)]
    rfl
  | succ d ih =>
    intro i n hi h0 h1
    rcases bu s i (by omega) with ⟨h, _⟩ | ⟨h, e, b0, b1⟩
    · omega
    refine Ev.step (fun k => by rw [fg]) ?_
    refine ab (by omega) (ab (by omega) (ab (by omega) (ah (pT b0 b1) ?_)))
    rw [e, List.all_cons]
    have hr := jZ (bt s (i : Int))
    by_cases hv0 : hv (bt s (i : Int)) < 0
    · simp only [if_pos hv0]
      rw [(u0 _).1 hv0]
      exact ae (by simp) (Ev.val (by simp))
    · simp only [if_neg hv0]
      rw [(ka _).1 (by omega)]
      refine ab (by simp) ?_
      have hst := re (i := i) (by omega) h0 h1 (b := hv (bt s (i : Int))) (by omega) (by omega)
      rw [xJ h0 (by omega) (by omega) (by omega), w64 (by omega) (by omega)]
      simp only [Bool.true_and, jL]
      exact ih (i + 1) _ (by omega) hst.1 hst.2.1
theorem yG (s : ByteArray) (hs : s.size ≤ 140737488351232) : Ev (fun k => iN k s) (if fc (aa s) < 0 then (0, false) else (fc (aa s), true)) := by
  have hb := tM (aa s) 0 1
  have bad : (aa s).length = 0 ∨ 4 < (aa s).length → Ev (fun k => ff k s true) (if fc (aa s) < 0 then (0, false) else (fc (aa s), true)) := by
    intro h
    have : fc (aa s) = -1 := by unfold fc; rw [if_pos h]
    rw [this]
    refine Ev.step (fun k => by rw [ff]) ?_
    exact ab rfl (az _)
  unfold iN
  have hl := af s
  refine Ev.ite (fun h => bad (by omega)) (fun h => ?_)
  by_cases h4 : (s.size : Int) > 4
  · rw [decide_eq_true h4]
    exact bad (by omega)
  · rw [decide_eq_false h4]
    refine Ev.step (fun k => by rw [ff]) ?_
    refine ae (by simp) ?_
    have := ye s (by omega) s.size 0 0 (by omega) (by omega) (by decide)
    rw [List.drop_zero] at this
    have e : (if fc (aa s) < 0 then ((0 : Int), false) else (fc (aa s), true)) = (if (aa s).all bv then (jL 0 (aa s), true) else (0, false)) := by
      have hw : fc (aa s) = if (aa s).all bv then jL 0 (aa s) else -1 := by
        unfold fc
        rw [if_neg (by omega)]
      rw [hw]
      by_cases ha : (aa s).all bv = true
      · have := hb ha (by omega) (by omega)
        simp only [if_pos ha]
        rw [if_neg (by omega)]
      · simp only [if_neg ha]
        rw [if_pos (by omega)]
    rw [e]
    exact this
theorem uo (s : ByteArray) (h4 : s.size ≤ 4) : ∀ d i : Nat, ∀ n : Int, i + d = s.size → 0 ≤ n → n < p16 i → Ev (fun k => de k s n (i : Int))
    (if ((aa s).drop i).all bv then jL n ((aa s).drop i) else -1) := by
  intro d
  induction d with
  | zero =>
    intro i n hi h0 h1
    rw [List.drop_of_length_le (by rw [af]; omega)]
    refine Ev.step (fun k => by rw [de]) ?_
    exact ae (by omega) (az _)
  | succ d ih =>
    intro i n hi h0 h1
    rcases bu s i (by omega) with ⟨h, _⟩ | ⟨h, e, b0, b1⟩
    · omega
    refine Ev.step (fun k => by rw [de]) ?_
    refine ab (by omega) (ab (by omega) (ah (lE b0 b1) ?_))
    rw [e, List.all_cons]
    have hr := jZ (bt s (i : Int))
    by_cases hv0 : hv (bt s (i : Int)) < 0
    · rw [(u0 _).1 hv0]
      exact ab hv0 (Ev.val (by simp))
    · rw [(ka _).1 (by omega)]
      refine ae hv0 ?_
      have hst := re (i := i) (by omega) h0 h1 (b := hv (bt s (i : Int))) (by omega) (by omega)
      rw [w64 (x := 16 * n) (by omega) (by omega), w64 (x := 16 * n + hv (bt s (i : Int))) (by omega) (by omega), w64 (by omega) (by omega)]
      simp only [Bool.true_and, jL]
      exact ih (i + 1) _ (by omega) hst.1 hst.2.1
theorem vH (s : ByteArray) (hs : s.size ≤ 140737488351232) : Ev (fun k => fU k s) (fc (aa s)) := by
  have bad : (aa s).length = 0 ∨ 4 < (aa s).length → Ev (fun k => dd k s true) (fc (aa s)) := by
    intro h
    have : fc (aa s) = -1 := by unfold fc; rw [if_pos h]
    rw [this]
    refine Ev.step (fun k => by rw [dd]) ?_
    exact ab rfl (az _)
  unfold fU
  have hl := af s
  refine Ev.ite (fun h => bad (by omega)) (fun h => ?_)
  by_cases h4 : (s.size : Int) > 4
  · rw [decide_eq_true h4]
    exact bad (by omega)
  · rw [decide_eq_false h4]
    refine Ev.step (fun k => by rw [dd]) ?_
    refine ae (by simp) ?_
    have := uo s (by omega) s.size 0 0 (by omega) (by omega) (by decide)
    rw [List.drop_zero] at this
    unfold fc
    rw [if_neg (by omega)]
    exact this
def dl (out : List Int) : Option (List Int) → List Int × Bool
  | some w => (out ++ w, true)
  | none => ([], false)
theorem kT {α : Type} {L : List α} {i : Nat} (h : i < L.length) (z : α) : L.drop i = L.getD i z :: L.drop (i + 1) := by
  rw [List.drop_eq_getElem_cons h, List.getD_eq_getElem?_getD, List.getElem?_eq_getElem h]; rfl
theorem mh {α : Type} {L : List α} {i : Nat} (h : i < L.length) : L.drop (i + 1) = [] ↔ i + 1 = L.length := by
  rw [List.drop_eq_nil_iff]; omega
theorem xb (fin : Bool) (R : List ByteArray) (L : List (List Int)) (hL : R.map aa = L) (hp : ∀ p ∈ R, p.size ≤ 1000000) (hR : R.length ≤ 1000001) : ∀ d i : Nat, i + d = R.length → ∀ out : List Int, out.length ≤ i →
    Ev (fun k => d9 k fin out R R (R.length : Int) (i : Int)) (dl out (fJ fin (L.drop i))) := by
  have hlen : L.length = R.length := by rw [← hL, List.length_map]
  intro d
  induction d with
  | zero =>
    intro i hi out ho
    rw [List.drop_of_length_le (by omega)]
    refine Ev.step (fun k => by rw [d9]) ?_
    exact ae (by omega) (Ev.val (by simp [fJ, dl]))
  | succ d ih =>
    intro i hi out ho
    have hmem : eL ByteArray.empty R (i : Int) ∈ R := by
      unfold eL
      rw [Int.toNat_natCast, List.getD_eq_getElem?_getD, List.getElem?_eq_getElem (by omega)]
      exact List.getElem_mem _
    have hq := ri hL i
    refine Ev.step (fun k => by rw [d9]) ?_
    refine ab (by omega) (ab (by omega) (ab (by omega) (ah (yE _ (hp _ hmem)) ?_)))
    rw [hq, kT (L := L) (i := i) (by omega) [], iV, py]
    have last : ∀ x : ByteArray, aa x = L.getD i [] → x.size ≤ 1000000 → ∀ a b c e : Int, ¬ (L.drop (i + 1) = [] ∧ fin = true ∧ (v4 (L.getD i [])).isSome = true) →
        Ev (fun k => d7 k fin out R x R (R.length : Int) (i : Int) false a b c e) (dl out (if L.drop (i + 1) = [] ∧ fin = true ∧ (v4 (L.getD i [])).isSome = true then (v4 (L.getD i [])).map fun x => [256 * x.1 + x.2.1, 256 * x.2.2.1 + x.2.2.2] else if fc (L.getD i []) < 0 then none else (fJ fin (L.drop (i + 1))).map fun l => fc (L.getD i []) :: l)) := by
      intro x hx hxs a b c e hno
      rw [if_neg hno]
      refine Ev.step (fun k => by rw [d7]) ?_
      refine ae (by simp) (ah (yG x (by omega)) ?_)
      rw [hx]
      by_cases hw : fc (L.getD i []) < 0
      · simp only [if_pos hw]
        exact ae (by simp) (az _)
      · simp only [if_neg hw]
        refine ab (by simp) (ab (by omega) ?_)
        rw [w64 (by omega) (by omega)]
        have := ih (i + 1) (by omega) (out ++ [fc (L.getD i [])]) (by rw [List.length_append, List.length_singleton]; omega)
        have e2 : dl (out ++ [fc (L.getD i [])]) (fJ fin (L.drop (i + 1))) = dl out ((fJ fin (L.drop (i + 1))).map fun l => fc (L.getD i []) :: l) := by
          cases fJ fin (L.drop (i + 1)) with
          | none => rfl
          | some w => simp [dl]
        rw [← e2]
        exact this
    refine Ev.ite (fun h4 => ?_) (fun h4 => last _ hq (hp _ hmem) _ _ _ _ (fun x => h4 x.2.2))
    refine Ev.ite (fun hf => ?_) (fun hf => last _ hq (hp _ hmem) _ _ _ _ (fun x => hf x.2.1))
    rw [w64 (by omega) (by omega)]
    by_cases hend : i + 1 = R.length
    · have : ((i : Int) == (R.length : Int) - 1) = true := by rw [beq_iff_eq]; omega
      rw [this, if_pos ⟨(mh (by omega)).2 (by omega), hf, h4⟩]
      refine Ev.step (fun k => by rw [d7]) ?_
      refine ab rfl ?_
      obtain ⟨⟨a, b, c, e⟩, hx⟩ := Option.isSome_iff_exists.1 h4
      have hr := rB hx
      rw [hx]
      unfold v4T
      rw [hx]
      simp only
      rw [rz hr.1.1 hr.1.2 hr.2.1.1 hr.2.1.2, rz hr.2.2.1.1 hr.2.2.1.2 hr.2.2.2.1 hr.2.2.2.2]
      refine bw rfl (ab (by simp only [List.length_cons, List.length_nil]; omega) (Ev.val ?_))
      rfl
    · have : ((i : Int) == (R.length : Int) - 1) = false := by rw [beq_eq_false_iff_ne]; omega
      rw [this]
      exact last _ hq (hp _ hmem) _ _ _ _ (fun x => hend (by have := (mh (L := L) (i := i) (by omega)).1 x.1; omega))
theorem j8 (s : ByteArray) : s.toList = ([] : List UInt8) ↔ aa s = [] := by
  rw [i8]
  unfold aa
  exact List.map_eq_nil_iff.symm
theorem pV (s : ByteArray) (fin : Bool) (hs : s.size ≤ 1000000) : Ev (fun k => cd k s fin) (dl [] (fY fin (aa s))) := by
  unfold cd fY
  refine Ev.ite (fun h => ?_) (fun h => ?_)
  · rw [if_pos ((j8 s).1 h)]
    exact Ev.val rfl
  · rw [if_neg (fun x => h ((j8 s).2 x))]
    obtain ⟨R, hR, hL⟩ := tq s (⟨#[58]⟩ : ByteArray) 58 rfl (by omega)
    refine bw hR ?_
    have hlen := ks 58 (aa s)
    rw [← hL, List.length_map, af] at hlen
    have := xb fin R _ hL (fun p hp => by have := nU hL hp; rw [af] at this; omega) (by omega) R.length 0 (by omega) [] (by simp)
    rw [List.drop_zero] at this
    exact this
theorem vE (R : List ByteArray) (L : List (List Int)) (hL : R.map aa = L) (hp : ∀ p ∈ R, p.size ≤ 1000000) (hR : R.length ≤ 1000001) : ∀ d i : Nat, i + d = R.length → ∀ out : List Int, out.length ≤ i →
    Ev (fun k => cq k out R (i : Int)) (dl out (fJ true (L.drop i))) := by
  have hlen : L.length = R.length := by rw [← hL, List.length_map]
  intro d
  induction d with
  | zero =>
    intro i hi out ho
    rw [List.drop_of_length_le (by omega)]
    refine Ev.step (fun k => by rw [cq]) ?_
    exact ae (by omega) (Ev.val (by simp [fJ, dl]))
  | succ d ih =>
    intro i hi out ho
    have hmem : eL ByteArray.empty R (i : Int) ∈ R := by
      unfold eL
      rw [Int.toNat_natCast, List.getD_eq_getElem?_getD, List.getElem?_eq_getElem (by omega)]
      exact List.getElem_mem _
    have hq := ri hL i
    refine Ev.step (fun k => by rw [cq]) ?_
    refine ab (by omega) (ab (by omega) (ah (tn _ (hp _ hmem)) ?_))
    rw [hq, kT (L := L) (i := i) (by omega) [], iV, py]
    have last : ∀ a b c e : Int, ¬ (L.drop (i + 1) = [] ∧ true = true ∧ (v4 (L.getD i [])).isSome = true) →
        Ev (fun k => dm k out R (i : Int) false a b c e) (dl out (if L.drop (i + 1) = [] ∧ true = true ∧ (v4 (L.getD i [])).isSome = true then (v4 (L.getD i [])).map fun x => [256 * x.1 + x.2.1, 256 * x.2.2.1 + x.2.2.2] else if fc (L.getD i []) < 0 then none else (fJ true (L.drop (i + 1))).map fun l => fc (L.getD i []) :: l)) := by
      intro a b c e hno
      rw [if_neg hno]
      refine Ev.step (fun k => by rw [dm]) ?_
      refine ae (by simp) (ab (by omega) (ab (by omega) (ah (vH _ (by have := hp _ hmem; omega)) ?_)))
      rw [hq]
      refine Ev.ite (fun hw => ?_) (fun hw => ?_)
      · rw [if_pos hw]
        exact az _
      · rw [if_neg hw]
        refine ab (by omega) ?_
        rw [w64 (by omega) (by omega)]
        have := ih (i + 1) (by omega) (out ++ [fc (L.getD i [])]) (by rw [List.length_append, List.length_singleton]; omega)
        have e2 : dl (out ++ [fc (L.getD i [])]) (fJ true (L.drop (i + 1))) = dl out ((fJ true (L.drop (i + 1))).map fun l => fc (L.getD i []) :: l) := by
          cases fJ true (L.drop (i + 1)) with
          | none => rfl
          | some w => simp [dl]
        rw [← e2]
        exact this
    refine Ev.ite (fun h4 => ?_) (fun h4 => last _ _ _ _ (fun x => h4 x.2.2))
    rw [w64 (by omega) (by omega)]
    by_cases hend : i + 1 = R.length
    · have : ((i : Int) == (R.length : Int) - 1) = true := by rw [beq_iff_eq]; omega
      rw [this, if_pos ⟨(mh (by omega)).2 (by omega), rfl, h4⟩]
      refine Ev.step (fun k => by rw [dm]) ?_
      refine ab rfl ?_
      obtain ⟨⟨a, b, c, e⟩, hx⟩ := Option.isSome_iff_exists.1 h4
      have hr := rB hx
      rw [hx]
      unfold v4T
      rw [hx]
      simp only
      rw [w64 (x := 256 * a) (by omega) (by omega), w64 (x := 256 * a + b) (by omega) (by omega), w64 (x := 256 * c) (by omega) (by omega), w64 (x := 256 * c + e) (by omega) (by omega)]
      refine bw rfl (ab (by simp only [List.length_cons, List.length_nil]; omega) (Ev.val ?_))
      rfl
    · have : ((i : Int) == (R.length : Int) - 1) = false := by rw [beq_eq_false_iff_ne]; omega
      rw [this]
      exact last _ _ _ _ (fun x => hend (by have := (mh (L := L) (i := i) (by omega)).1 x.1; omega))
theorem oP (s : ByteArray) (hs : s.size ≤ 1000000) : Ev (fun k => em k s) (dl [] (fY true (aa s))) := by
  unfold em fY
  refine bw rfl ?_
  refine Ev.ite (fun h => ?_) (fun h => ?_)
  · rw [if_pos ((j8 s).1 h)]
    exact Ev.val rfl
  · rw [if_neg (fun x => h ((j8 s).2 x))]
    obtain ⟨R, hR, hL⟩ := tj s 58 hs
    refine ah hR ?_
    have hlen := ks 58 (aa s)
    rw [← hL, List.length_map, af] at hlen
    have := vE R _ hL (fun p hp => by have := nU hL hp; rw [af] at this; omega) (by omega) R.length 0 (by omega) [] (by simp)
    rw [List.drop_zero] at this
    exact this
end Go.Proofs.YtpmflpeckoeooaaGreatDoor.Y
namespace Go.Proofs.YtpmflpeckoeooaaGreatDoor.Y
open Go.RowKit Go.Proofs.YtpmflpeckoeooaaGreatDoor.X Go.Proofs.YtpmflpeckoeooaaGreatDoor.M Go.Proofs.YtpmflpeckoeooaaGreatDoorW.PrintWords Go.Proofs.YtpmflpeckoeooaaGreatDoorW.PrintLast Go.Proofs.YtpmflpeckoeooaaGreatDoorW.PrintMore
def nB (l : List Int) (b : Bool) : Int × Int × Int × Int × Int × Int × Int × Int × Bool := (l.getD 0 0, l.getD 1 0, l.getD 2 0, l.getD 3 0, l.getD 4 0, l.getD 5 0, l.getD 6 0, l.getD 7 0, b)
def iG : List Int := [0, 0, 0, 0, 0, 0, 0, 0]
def v6T (l : List Int) : Int × Int × Int × Int × Int × Int × Int × Int × Bool := match v6 l with
  | some w => nB w true
  | none => nB iG false
theorem vW (l : List Int) : (v6T l).2.2.2.2.2.2.2.2 = (v6 l).isSome := by
  unfold v6T
  cases v6 l <;> rfl
theorem xT (p : List Int) (h : p.length = 8) : aI an 0 p 8 = p := by
  unfold aI an
  rw [← h, List.take_length, h]
  simp
theorem wG (a b : List Int) (h : a.length + b.length ≤ 7) : aI (aI an 0 a 8) (8 - b.length) b b.length = a ++ List.replicate (8 - a.length - b.length) 0 ++ b := by
  have hz : an = List.replicate 8 0 := rfl
  unfold aI
  rw [hz]
  have e1 : a.take 8 = a := List.take_of_length_le (by omega)
  rw [e1, List.take_length]
  simp only [List.take_zero, List.nil_append, Nat.zero_add]
  rw [List.drop_replicate, List.take_append]
  have e2 : a.take (8 - b.length) = a := List.take_of_length_le (by omega)
  rw [e2, List.take_replicate]
  have e3 : (a ++ List.replicate (8 - a.length) 0).drop (8 - b.length + b.length) = ([] : List Int) := by
    apply List.drop_of_length_le
    rw [List.length_append, List.length_replicate]; omega
  rw [e3, List.append_nil, show min (8 - b.length - a.length) (8 - a.length) = 8 - a.length - b.length by omega]
theorem zh (s : ByteArray) (hs : s.size ≤ 1000000) : Ev (fun k => kb k s) (v6T (aa s)) := by
  unfold kb
  have hc := wV s (⟨#[58, 58]⟩ : ByteArray) (by omega) (by decide)
  have hb : aa (⟨#[58, 58]⟩ : ByteArray) = [58, 58] := rfl
  have hz : (⟨#[58, 58]⟩ : ByteArray).size = 2 := rfl
  rw [hb, hz] at hc
  refine bw hc ?_
  by_cases hneg : cv [58, 58] (aa s) < 0
  · simp only [if_pos hneg]
    refine ah (pV s _ hs) ?_
    simp only [Bool.not_false]
    unfold v6T v6
    rw [if_pos hneg]
    cases hr : fY true (aa s) with
    | none => exact ab rfl (Ev.val rfl)
    | some w =>
      refine ae (by simp [dl]) (ab (by simp) ?_)
      simp only [dl, List.nil_append, Option.bind_some]
      refine Ev.ite (fun h => ?_) (fun h => ?_)
      · rw [if_pos h, xT w h]
        exact Ev.val rfl
      · rw [if_neg h]
        exact Ev.val rfl
  · simp only [if_neg hneg]
    have hsp := lF (sub := [58, 58]) (l := aa s) (by omega)
    simp only [List.length_cons, List.length_nil, af] at hsp
    unfold v6T v6
    rw [if_neg hneg]
    generalize (cv [58, 58] (aa s)).toNat = j at hsp ⊢
    have h1 := pV (s.extract 0 j) (!true) (by rw [← af, ap, List.length_drop, List.length_take, af]; omega)
    have h2 := pV (s.extract (j + 2) s.size) true (by rw [← af, ap, List.length_drop, List.length_take, af]; omega)
    rw [ap, List.drop_zero] at h1
    rw [bh] at h2
    simp only [Bool.not_true] at h1 ⊢
    refine ah h1 ?_
    cases ha : fY false ((aa s).take j) with
    | none => exact ab rfl (Ev.val rfl)
    | some a =>
      refine ae (by simp [dl]) (ae (by simp) (ah h2 ?_))
      simp only [dl, List.nil_append, Option.bind_some]
      have hla : a.length ≤ 1000003 := by
        unfold fY at ha
        split at ha
        · cases ha; simp
        · have := n0 ha
          have := ks 58 ((aa s).take j)
          rw [List.length_take, af] at this; omega
      cases hbb : fY true ((aa s).drop (j + 2)) with
      | none => exact ab rfl (Ev.val rfl)
      | some b =>
        have hlb : b.length ≤ 1000003 := by
          unfold fY at hbb
          split at hbb
          · cases hbb; simp
          · have := n0 hbb
            have := ks 58 ((aa s).drop (j + 2))
            rw [List.length_drop, af] at this; omega
        refine ae (by simp [dl]) ?_
        simp only [dl, List.nil_append, Option.bind_some]
        have hw : wrap64 ((a.length : Int) + (b.length : Int)) = (a.length : Int) + (b.length : Int) := w64 (by omega) (by omega)
        simp only [hw]
        refine Ev.ite (fun h => ?_) (fun h => ab (by omega) ?_)
        · rw [if_neg (by omega)]
          exact Ev.val rfl
        · rw [if_pos (by omega), wG a b (by omega)]
          exact Ev.val rfl
theorem oH {S : List Int} (h : S.length = 8) : ∃ a b c d e f g i, S = [a, b, c, d, e, f, g, i] := by
  match S, h with
  | [a, b, c, d, e, f, g, i], _ => exact ⟨a, b, c, d, e, f, g, i, rfl⟩
def L1 (k : Nat) (x : List Int) (i : Int) (S : List Int) := bn k x i (S.getD 0 0) (S.getD 1 0) (S.getD 2 0) (S.getD 3 0) (S.getD 4 0) (S.getD 5 0) (S.getD 6 0) (S.getD 7 0)
def L2 (k : Nat) (x y : List Int) (i : Int) (S : List Int) := bo k x y i (S.getD 0 0) (S.getD 1 0) (S.getD 2 0) (S.getD 3 0) (S.getD 4 0) (S.getD 5 0) (S.getD 6 0) (S.getD 7 0)
def L3 (k : Nat) (y : List Int) (i : Int) (S : List Int) := aj k y i (S.getD 0 0) (S.getD 1 0) (S.getD 2 0) (S.getD 3 0) (S.getD 4 0) (S.getD 5 0) (S.getD 6 0) (S.getD 7 0)
theorem qO {i : Nat} (h : i < 8) : i = 0 ∨ i = 1 ∨ i = 2 ∨ i = 3 ∨ i = 4 ∨ i = 5 ∨ i = 6 ∨ i = 7 := by omega
theorem pL (x : List Int) (i : Nat) : rd x (i : Int) = x.getD i 0 := by unfold rd; rw [Int.toNat_natCast]
theorem xp (x : List Int) (i : Nat) (hi : i < 8) (hx : i < x.length) (S : List Int) (hS : S.length = 8) (r : Int × Int × Int × Int × Int × Int × Int × Int × Bool)
    (h : Ev (fun k => L1 k x ((i + 1 : Nat) : Int) (S.set i (x.getD i 0))) r) : Ev (fun k => L1 k x (i : Int) S) r := by
  obtain ⟨a, b, c, d, e, f, g, j, rfl⟩ := oH hS
  refine Ev.step (fun k => by rw [L1, bn]) ?_
  rw [w64 (by omega) (by omega), pL]
  refine ab (by omega) (ab (by omega) (ab (by omega) ?_))
  rcases qO hi with rfl | rfl | rfl | rfl | rfl | rfl | rfl | rfl
  · exact ab (by omega) h
  · exact ae (by omega) (ab (by omega) h)
  · exact ae (by omega) (ae (by omega) (ab (by omega) h))
  · exact ae (by omega) (ae (by omega) (ae (by omega) (ab (by omega) h)))
  · exact ae (by omega) (ae (by omega) (ae (by omega) (ae (by omega) (ab (by omega) h))))
  · exact ae (by omega) (ae (by omega) (ae (by omega) (ae (by omega) (ae (by omega) (ab (by omega) h)))))
  · exact ae (by omega) (ae (by omega) (ae (by omega) (ae (by omega) (ae (by omega) (ae (by omega) (ab (by omega) h))))))
  · exact ae (by omega) (ae (by omega) (ae (by omega) (ae (by omega) (ae (by omega) (ae (by omega) (ae (by omega) (ab (by omega) h)))))))
theorem xq (x y : List Int) (i : Nat) (hi : i < 8) (hx : i < x.length) (hl : x.length ≤ 8) (S : List Int) (hS : S.length = 8) (r : Int × Int × Int × Int × Int × Int × Int × Int × Bool)
    (h : Ev (fun k => L2 k x y ((i + 1 : Nat) : Int) (S.set i (x.getD i 0))) r) : Ev (fun k => L2 k x y (i : Int) S) r := by
  obtain ⟨a, b, c, d, e, f, g, j, rfl⟩ := oH hS
  refine Ev.step (fun k => by rw [L2, bo]) ?_
  rw [w64 (by omega) (by omega), pL]
  refine ab (by omega) (ab (by omega) ?_)
  rcases qO hi with rfl | rfl | rfl | rfl | rfl | rfl | rfl | rfl
  · exact ab (by omega) h
  · exact ae (by omega) (ab (by omega) h)
  · exact ae (by omega) (ae (by omega) (ab (by omega) h))
  · exact ae (by omega) (ae (by omega) (ae (by omega) (ab (by omega) h)))
  · exact ae (by omega) (ae (by omega) (ae (by omega) (ae (by omega) (ab (by omega) h))))
  · exact ae (by omega) (ae (by omega) (ae (by omega) (ae (by omega) (ae (by omega) (ab (by omega) h)))))
  · exact ae (by omega) (ae (by omega) (ae (by omega) (ae (by omega) (ae (by omega) (ae (by omega) (ab (by omega) h))))))
  · exact ae (by omega) (ae (by omega) (ae (by omega) (ae (by omega) (ae (by omega) (ae (by omega) (ae (by omega) (ab (by omega) h)))))))
theorem xr (y : List Int) (i q : Nat) (hq : q < 8) (hx : i < y.length) (hy : y.length ≤ 8) (hl : q + y.length = 8 + i) (S : List Int) (hS : S.length = 8) (r : Int × Int × Int × Int × Int × Int × Int × Int × Bool)
    (h : Ev (fun k => L3 k y ((i + 1 : Nat) : Int) (S.set q (y.getD i 0))) r) : Ev (fun k => L3 k y (i : Int) S) r := by
  obtain ⟨a, b, c, d, e, f, g, j, rfl⟩ := oH hS
  refine Ev.step (fun k => by rw [L3, aj]) ?_
  have hw : wrap64 (wrap64 (8 - (y.length : Int)) + (i : Int)) = (q : Int) := by
    rw [w64 (x := 8 - (y.length : Int)) (by omega) (by omega), w64 (by omega) (by omega)]; omega
  rw [w64 (x := (i : Int) + 1) (by omega) (by omega), pL, hw]
  refine ab (by omega) (ab (by omega) (ab (by omega) ?_))
  rcases qO hq with rfl | rfl | rfl | rfl | rfl | rfl | rfl | rfl
  · exact ab (by omega) h
  · exact ae (by omega) (ab (by omega) h)
  · exact ae (by omega) (ae (by omega) (ab (by omega) h))
  · exact ae (by omega) (ae (by omega) (ae (by omega) (ab (by omega) h)))
  · exact ae (by omega) (ae (by omega) (ae (by omega) (ae (by omega) (ab (by omega) h))))
  · exact ae (by omega) (ae (by omega) (ae (by omega) (ae (by omega) (ae (by omega) (ab (by omega) h)))))
  · exact ae (by omega) (ae (by omega) (ae (by omega) (ae (by omega) (ae (by omega) (ae (by omega) (ab (by omega) h))))))
  · exact ae (by omega) (ae (by omega) (ae (by omega) (ae (by omega) (ae (by omega) (ae (by omega) (ae (by omega) (ab (by omega) h)))))))
def lay (S : List Int) (q : Nat) (x : List Int) : List Int := S.take q ++ x ++ S.drop (q + x.length)
theorem pJ (S : List Int) (q : Nat) : lay S q [] = S := by simp [lay]
theorem oM (S : List Int) (q : Nat) (v : Int) (x : List Int) (hq : q < S.length) : lay (S.set q v) (q + 1) x = lay S q (v :: x) := by
  unfold lay
  have e1 : (S.set q v).take (q + 1) = S.take q ++ [v] := by
    rw [List.take_succ_eq_append_getElem (by rw [List.length_set]; exact hq), List.take_set_of_le (Nat.le_refl _)]
    simp
  have e2 : (S.set q v).drop (q + 1 + x.length) = S.drop (q + (v :: x).length) := by
    rw [List.drop_set_of_lt (by omega), List.length_cons]
    congr 1; omega
  rw [e1, e2]
  simp
theorem yf (x : List Int) (hx : x.length = 8) : ∀ d i : Nat, i + d = 8 → ∀ S : List Int, S.length = 8 → Ev (fun k => L1 k x (i : Int) S) (nB (lay S i (x.drop i)) true) := by
  intro d
  induction d with
  | zero =>
    intro i hi S hS
    rw [List.drop_of_length_le (by omega), pJ]
    refine Ev.step (fun k => by rw [L1, bn]) ?_
    exact ae (by omega) (Ev.val rfl)
  | succ d ih =>
    intro i hi S hS
    refine xp x i (by omega) (by omega) S hS _ ?_
    rw [kT (L := x) (i := i) (by omega) 0, ← oM S i _ _ (by omega)]
    exact ih (i + 1) (by omega) _ (by rw [List.length_set]; exact hS)
theorem yh (y : List Int) (hy : y.length ≤ 8) : ∀ d i : Nat, i + d = y.length → ∀ S : List Int, S.length = 8 → Ev (fun k => L3 k y (i : Int) S) (nB (lay S (8 - y.length + i) (y.drop i)) true) := by
  intro d
  induction d with
  | zero =>
    intro i hi S hS
    rw [List.drop_of_length_le (by omega), pJ]
    refine Ev.step (fun k => by rw [L3, aj]) ?_
    exact ae (by omega) (Ev.val rfl)
  | succ d ih =>
    intro i hi S hS
    refine xr y i (8 - y.length + i) (by omega) (by omega) hy (by omega) S hS _ ?_
    rw [kT (L := y) (i := i) (by omega) 0, ← oM S _ _ _ (by omega)]
    exact ih (i + 1) (by omega) _ (by rw [List.length_set]; exact hS)
theorem yg (x y : List Int) (hx : x.length ≤ 8) (r : Int × Int × Int × Int × Int × Int × Int × Int × Bool) : ∀ d i : Nat, i + d = x.length → ∀ S : List Int, S.length = 8 →
    Ev (fun k => L3 k y 0 (lay S i (x.drop i))) r → Ev (fun k => L2 k x y (i : Int) S) r := by
  intro d
  induction d with
  | zero =>
    intro i hi S hS h
    rw [List.drop_of_length_le (by omega), pJ] at h
    refine Ev.step (fun k => by rw [L2, bo]) ?_
    exact ae (by omega) h
  | succ d ih =>
    intro i hi S hS h
    refine xq x y i (by omega) (by omega) hx S hS _ ?_
    rw [kT (L := x) (i := i) (by omega) 0, ← oM S i _ _ (by omega)] at h
    exact ih (i + 1) (by omega) _ (by rw [List.length_set]; exact hS) h
theorem wu (a b : List Int) (h : a.length + b.length ≤ 7) : lay (lay iG 0 a) (8 - b.length) b = a ++ List.replicate (8 - a.length - b.length) 0 ++ b := by
  have hz : iG = List.replicate 8 0 := rfl
  unfold lay
  rw [hz]
  simp only [List.take_zero, List.nil_append, Nat.zero_add]
  rw [List.drop_replicate, List.take_append]
  have e2 : a.take (8 - b.length) = a := List.take_of_length_le (by omega)
  rw [e2, List.take_replicate]
  have e3 : (a ++ List.replicate (8 - a.length) 0).drop (8 - b.length + b.length) = ([] : List Int) := by
    apply List.drop_of_length_le
    rw [List.length_append, List.length_replicate]; omega
  rw [e3, List.append_nil, show min (8 - b.length - a.length) (8 - a.length) = 8 - a.length - b.length by omega]
theorem qx (a : List Int) (h : a.length ≤ 8) : (lay iG 0 a).length = 8 := by
  unfold lay iG
  simp; omega
theorem rp {fin : Bool} {l w : List Int} (h : fY fin l = some w) (hl : l.length ≤ 1000000) : w.length ≤ 1000003 := by
  unfold fY at h
  split at h
  · cases h; simp
  · have := n0 h
    have := ks 58 l
    omega
theorem us (l : List Int) : (l.contains 46 = false → fY true l = fY false l) ∧ (l.contains 46 = true → fY false l = none) := by
  constructor
  · intro h
    unfold fY
    rw [sX (fun p hp hm => by
      have := (pt p hp).2.1 46 hm
      rw [← List.contains_iff_mem, h] at this
      cases this) true]
  · intro h
    unfold fY
    rw [if_neg (by rintro rfl; cases h)]
    cases hw : fJ false (bT 58 l) with
    | none => rfl
    | some w =>
      exfalso
      have key := vX hw
      have hm := List.contains_iff_mem.1 h
      have inpart : ∀ l : List Int, (46 : Int) ∈ l → ∃ p ∈ bT 58 l, (46 : Int) ∈ p := by
        intro l
        induction l with
        | nil => intro h; cases h
        | cons b t ih =>
          intro h
          rw [gi]
          by_cases hb : b = 58
          · rw [if_pos hb]
            rcases List.mem_cons.1 h with h | h
            · rw [hb] at h; cases h
            · obtain ⟨p, hp, h2⟩ := ih h
              exact ⟨p, List.mem_cons_of_mem _ hp, h2⟩
          · rw [if_neg hb]
            rcases List.mem_cons.1 h with h | h
            · exact ⟨_, List.mem_cons_self .., by rw [h]; exact List.mem_cons_self ..⟩
            · obtain ⟨p, hp, h2⟩ := ih h
              rw [jU 58 t] at hp
              rcases List.mem_cons.1 hp with rfl | hp
              · exact ⟨_, List.mem_cons_self .., List.mem_cons_of_mem _ h2⟩
              · exact ⟨p, List.mem_cons_of_mem _ hp, h2⟩
      obtain ⟨p, hp, h2⟩ := inpart l hm
      exact (key p hp).1 h2
def V0 (k : Nat) (s : ByteArray) (at_ i : Int) := bN k s at_ i 0 0 0 0 0 0 0 0
theorem pn (s : ByteArray) (hs : s.size ≤ 1000000) (hneg : cv [58, 58] (aa s) < 0) (i : Nat) (hi : s.size ≤ i + 1) (hi2 : i ≤ s.size) : Ev (fun k => V0 k s (-1) (i : Int)) (v6T (aa s)) := by
  refine Ev.step (fun k => by rw [V0, bN]) ?_
  rw [w64 (x := (i : Int) + 1) (by omega) (by omega)]
  refine ae (by omega) (ab (by omega) (ah (oP s hs) ?_))
  have bad : ∀ x : List Int, Ev (fun k => dL k x true 0 0 0 0 0 0 0 0) (nB iG false) := by
    intro x
    refine Ev.step (fun k => by rw [dL]) ?_
    exact ab rfl (Ev.val rfl)
  unfold v6T v6
  rw [if_pos hneg]
  cases hr : fY true (aa s) with
  | none => exact ae (by simp [dl]) (bad _)
  | some w =>
    refine ab (by simp [dl]) ?_
    simp only [dl, List.nil_append, Option.bind_some]
    by_cases h8 : w.length = 8
    · have e : (((w.length : Nat) : Int) != 8) = false := by simp; omega
      rw [e, if_pos h8]
      refine Ev.step (fun k => by rw [dL]) ?_
      refine ae (by simp) ?_
      have := yf w h8 8 0 (by omega) iG rfl
      rw [List.drop_zero] at this
      have e2 : lay iG 0 w = w := by
        unfold lay
        rw [List.drop_of_length_le (by rw [h8]; decide)]
        simp
      rw [e2] at this
      exact this
    · have e : (((w.length : Nat) : Int) != 8) = true := by simp; omega
      rw [e, if_neg h8]
      exact bad _
theorem un (s : ByteArray) (hs : s.size ≤ 1000000) (j : Nat) (hj : cv [58, 58] (aa s) = (j : Int)) : ∀ d i : Nat, i + d = s.size → Ev (fun k => V0 k s (j : Int) (i : Int)) (v6T (aa s)) := by
  have hsp := lF (sub := [58, 58]) (l := aa s) (by omega)
  rw [hj, Int.toNat_natCast] at hsp
  simp only [List.length_cons, List.length_nil, af] at hsp
  have fin : ∀ i : Nat, s.size ≤ i + 1 → i ≤ s.size → Ev (fun k => V0 k s (j : Int) (i : Int)) (v6T (aa s)) := by
    intro i hi hi2
    refine Ev.step (fun k => by rw [V0, bN]) ?_
    rw [w64 (x := (i : Int) + 1) (by omega) (by omega), w64 (x := (j : Int) + 2) (by omega) (by omega), Int.toNat_natCast]
    refine ae (by omega) (ae (by omega) (ab (by omega) (ab (by omega) ?_)))
    have h1 := oP (s.extract 0 j) (by rw [← af, ap, List.length_drop, List.length_take, af]; omega)
    have h2 := oP (s.extract (j + 2) s.size) (by rw [← af, ap, List.length_drop, List.length_take, af]; omega)
    rw [ap, List.drop_zero] at h1
    rw [bh] at h2
    refine ah h1 (ab (by omega) (ab (by omega) ?_))
    have e2 : ((j : Int) + 2).toNat = j + 2 := by omega
    rw [e2]
    refine ah h2 ?_
    have bad : ∀ x y : List Int, Ev (fun k => db k s (j : Int) x y true 0 0 0 0 0 0 0 0) (nB iG false) := by
      intro x y
      refine Ev.step (fun k => by rw [db]) ?_
      exact ab rfl (Ev.val rfl)
    have hal := us ((aa s).take j)
    have bad4 : ∀ x y : List Int, Ev (fun k => dc k x y true 0 0 0 0 0 0 0 0) (nB iG false) := by
      intro x y
      refine Ev.step (fun k => by rw [dc]) ?_
      exact ab rfl (Ev.val rfl)
    unfold v6T v6
    rw [if_neg (by omega), hj, Int.toNat_natCast]
    cases ha : fY true ((aa s).take j) with
    | none =>
      have hn : fY false ((aa s).take j) = none := by
        cases hc : ((aa s).take j).contains 46
        · rw [← hal.1 hc]; exact ha
        · exact hal.2 hc
      rw [hn]
      exact ae (by simp [dl]) (bad _ _)
    | some a =>
      refine ab (by simp [dl]) ?_
      simp only [dl, List.nil_append]
      have hla := rp ha (by rw [List.length_take, af]; omega)
      cases hbb : fY true ((aa s).drop (j + 2)) with
      | none =>
        refine ae (by simp) ?_
        cases fY false ((aa s).take j) with
        | none => exact bad _ _
        | some x => exact bad _ _
      | some b =>
        have hlb := rp hbb (by rw [List.length_drop, af]; omega)
        refine ab (by simp [dl]) ?_
        simp only [dl, List.nil_append]
        have hw : wrap64 ((a.length : Int) + (b.length : Int)) = (a.length : Int) + (b.length : Int) := w64 (by omega) (by omega)
        simp only [hw]
        by_cases hlen : a.length + b.length ≤ 7
        · rw [decide_eq_false (by omega)]
          refine Ev.step (fun k => by rw [db]) ?_
          refine ae (by simp) ?_
          have go : ∀ t : Bool, t = ((aa s).take j).contains 46 → Ev (fun k => dc k a b t 0 0 0 0 0 0 0 0) (match ((fY false ((aa s).take j)).bind fun a => (some b).bind fun b => if a.length + b.length ≤ 7 then some (a ++ List.replicate (8 - a.length - b.length) 0 ++ b) else none) with
              | some w => nB w true
              | none => nB iG false) := by
            intro t ht
            cases hc : ((aa s).take j).contains 46
            · rw [hc] at ht
              subst ht
              rw [← hal.1 hc, ha]
              simp only [Option.bind_some]
              rw [if_pos hlen]
              refine Ev.step (fun k => by rw [dc]) ?_
              refine ae (by simp) ?_
              refine yg a b (by omega) _ a.length 0 (by omega) iG rfl ?_
              rw [List.drop_zero]
              have := yh b (by omega) b.length 0 (by omega) (lay iG 0 a) (qx a (by omega))
              rw [List.drop_zero, Nat.add_zero, wu a b hlen] at this
              exact this
            · rw [hc] at ht
              subst ht
              rw [hal.2 hc]
              exact bad4 _ _
          refine Ev.ite (fun hj0 => ab (by omega) (ab (by omega) ?_)) (fun hj0 => go false ?_)
          · have hin := ws 46 (s.extract 0 j) (by rw [← af, ap, List.length_drop, List.length_take, af]; omega)
            rw [ap, List.drop_zero] at hin
            rw [Int.toNat_natCast]
            exact ah hin (go _ rfl)
          · have : j = 0 := by omega
            subst this
            simp
        · rw [decide_eq_true (by omega)]
          cases hc : ((aa s).take j).contains 46
          · rw [← hal.1 hc, ha]
            simp only [Option.bind_some]
            rw [if_neg hlen]
            exact bad _ _
          · rw [hal.2 hc]
            exact bad _ _
  intro d
  induction d with
  | zero => intro i hi; exact fin i (by omega) (by omega)
  | succ d ih =>
    intro i hi
    by_cases he : s.size ≤ i + 1
    · exact fin i he (by omega)
    · refine Ev.step (fun k => by rw [V0, bN]) ?_
      rw [w64 (x := (i : Int) + 1) (by omega) (by omega)]
      refine ab (by omega) (ae (by omega) ?_)
      exact ih (i + 1) (by omega)
theorem um (s : ByteArray) (hs : s.size ≤ 1000000) : ∀ d i : Nat, i + d = s.size → (cv [58, 58] (aa s) = if cv [58, 58] ((aa s).drop i) = -1 then -1 else (i : Int) + cv [58, 58] ((aa s).drop i)) →
    Ev (fun k => V0 k s (-1) (i : Int)) (v6T (aa s)) := by
  intro d
  induction d with
  | zero =>
    intro i hi h
    rw [List.drop_of_length_le (by rw [af]; omega)] at h
    have hz : cv [58, 58] [] = -1 := rfl
    rw [hz, if_pos rfl] at h
    exact pn s hs (by omega) i (by omega) (by omega)
  | succ d ih =>
    intro i hi h
    by_cases he : s.size ≤ i + 1
    · refine pn s hs ?_ i he (by omega)
      rcases bu s i (by omega) with ⟨h2, _⟩ | ⟨_, e, _⟩
      · omega
      · rw [e, List.drop_of_length_le (by rw [af]; omega)] at h
        rw [h]
        have : cv [58, 58] [bt s (i : Int)] = -1 := by
          have hz : cv [58, 58] [] = -1 := rfl
          rw [ke, if_neg (by simp [List.isPrefixOf]), hz, if_pos rfl]
        rw [if_pos this]
        decide
    · rcases bu s i (by omega) with ⟨h2, _⟩ | ⟨_, e, b0, b1⟩
      · omega
      rcases bu s (i + 1) (by omega) with ⟨h2, _⟩ | ⟨_, e2, c0, c1⟩
      · omega
      refine Ev.step (fun k => by rw [V0, bN]) ?_
      rw [w64 (x := (i : Int) + 1) (by omega) (by omega), w64 (x := (i : Int) + 2) (by omega) (by omega)]
      refine ab (by omega) (ab (by omega) (ab (by omega) (ab (by omega) (ab (by omega) ?_))))
      have e3 : ((i : Int) + 2).toNat = i + 2 := by omega
      rw [e3, Int.toNat_natCast]
      have hcond : (s.extract i (i + 2)).toList = ([58, 58] : List UInt8) ↔ (aa s).drop i = 58 :: 58 :: (aa s).drop (i + 2) := by
        have h58 : ([58, 58] : List UInt8) = (⟨#[58, 58]⟩ : ByteArray).toList := by rw [ByteArray.toList_eq]
        have hb : aa (⟨#[58, 58]⟩ : ByteArray) = [58, 58] := rfl
        rw [h58, ku, ap, hb, List.drop_take, show i + 2 - i = 2 by omega, e, e2]
        simp
      have hpre : ([58, 58] : List Int).isPrefixOf ((aa s).drop i) = true ↔ (aa s).drop i = 58 :: 58 :: (aa s).drop (i + 2) := by
        rw [e, e2]
        simp [List.isPrefixOf]
        constructor
        · rintro ⟨h1, h2⟩; exact ⟨h1.symm, h2.symm⟩
        · rintro ⟨h1, h2⟩; exact ⟨h1.symm, h2.symm⟩
      have hd : cv [58, 58] ((aa s).drop i) = if ([58, 58] : List Int).isPrefixOf ((aa s).drop i) then 0 else if cv [58, 58] ((aa s).drop (i + 1)) = -1 then -1 else cv [58, 58] ((aa s).drop (i + 1)) + 1 := by
        rw [e, ke]
      refine Ev.ite (fun hp => ?_) (fun hp => ?_)
      · have h0 : cv [58, 58] ((aa s).drop i) = 0 := by rw [hd, if_pos (hpre.2 (hcond.1 hp))]
        rw [h0, if_neg (by omega)] at h
        exact un s hs i (by omega) d (i + 1) (by omega)
      · rw [if_neg (fun x => hp (hcond.2 (hpre.1 x)))] at hd
        refine ih (i + 1) (by omega) ?_
        have hg := pQ [58, 58] ((aa s).drop (i + 1))
        rw [h, hd]
        generalize cv [58, 58] ((aa s).drop (i + 1)) = z at hg ⊢
        by_cases hz : z = -1
        · rw [if_pos hz, if_pos hz, if_pos rfl]
        · rw [if_neg hz, if_neg hz, if_neg (by omega)]
          omega
theorem xV (s : ByteArray) (hs : s.size ≤ 1000000) : Ev (fun k => iy k s) (v6T (aa s)) := by
  have hg := pQ [58, 58] (aa s)
  refine um s hs s.size 0 (by omega) ?_
  rw [List.drop_zero]
  split <;> omega
end Go.Proofs.YtpmflpeckoeooaaGreatDoor.Y
namespace Go.Proofs.YtpmflpeckoeooaaGreatDoor.Y
open Go.RowKit Go.Proofs.YtpmflpeckoeooaaGreatDoor.X Go.Proofs.YtpmflpeckoeooaaGreatDoor.M Go.Proofs.YtpmflpeckoeooaaGreatDoorW.PrintWords Go.Proofs.YtpmflpeckoeooaaGreatDoorW.PrintLast Go.Proofs.YtpmflpeckoeooaaGreatDoorW.PrintMore
theorem rf {b : Int} (h0 : 0 ≤ b) (h1 : b ≤ 255) : bV 1 b = (kZ b || b == 58) :=
  b6 (p := fun b => bV 1 b = (kZ b || b == 58)) (by decide +kernel) h0 h1
theorem yq (s : ByteArray) (hs : s.size ≤ 140737488351232) : ∀ d i : Nat, i + d = s.size → Ev (fun k => dX k s (i : Int)) (((aa s).drop i).all fun b => bV 1 b) := by
  intro d
  induction d with
  | zero =>
    intro i hi
    rw [List.drop_of_length_le (by rw [af]; omega)]
    refine Ev.step (fun k => by rw [dX]) ?_
    exact ae (by omega) (az _)
  | succ d ih =>
    intro i hi
    rcases bu s i (by omega) with ⟨h2, _⟩ | ⟨_, e, b0, b1⟩
    · omega
    rw [e, List.all_cons]
    refine Ev.step (fun k => by rw [dX]) ?_
    refine ab (by omega) (ab (by omega) (ah (tm b0 b1) ?_))
    cases hp : bV 1 (bt s (i : Int))
    · exact ae (by simp) (Ev.val (by simp))
    · refine ab rfl ?_
      rw [w64 (by omega) (by omega)]
      simp only [Bool.true_and]
      exact ih (i + 1) (by omega)
theorem oD {p q : Int → Bool} {l : List Int} (h : ∀ b ∈ l, p b = q b) : bd p l = bd q l := by
  induction l with
  | nil => rfl
  | cons b t ih =>
    unfold bd
    rw [h b (List.mem_cons_self ..), ih (fun c hc => h c (List.mem_cons_of_mem _ hc))]
theorem zd {b : Int} (h0 : 0 ≤ b) (h1 : b ≤ 255) : ((Go.bits .or .u8 b 32) != 118) = !(b == 118 || b == 86) :=
  b6 (p := fun b => ((Go.bits .or .u8 b 32) != 118) = !(b == 118 || b == 86)) (by decide +kernel) h0 h1
theorem oJ (v : Int) (t : List Int) : fut (v :: t) = ((v == 118 || v == 86) && decide (0 < bd bv t) && decide (2 ≤ (t.drop (bd bv t)).length) && ((t.drop (bd bv t)).headD 0 == 46) && ((t.drop (bd bv t)).tail.all fun b => bV 1 b)) := rfl
theorem wo (s : ByteArray) (hs : s.size ≤ 140737488351232) : Ev (fun k => fa k s 32) (bd bv (aa s) : Int) := by
  have := qk s 32 hs
  rwa [oD (q := bv) (fun b hb => xK (d6 hb).1 (d6 hb).2)] at this
theorem wm (s : ByteArray) (hs : s.size ≤ 1000000) : Ev (fun k => gN k s) (fut (aa s)) := by
  unfold gN
  have bad : ∀ r, r = false → Ev (fun k => dW k s true) r := by
    intro r e
    subst e
    refine Ev.step (fun k => by rw [dW]) ?_
    exact ab rfl (az _)
  refine Ev.ite (fun h => bad _ ?_) (fun h => ?_)
  · rw [(j8 s).1 h]; rfl
  · rcases gD s with ⟨_, e⟩ | ⟨hp, e, b0, b1⟩
    · exact absurd ((j8 s).2 e) h
    refine ab (by omega) ?_
    have hf : fut (aa s) = fut (bt s 0 :: (aa s).drop 1) := by rw [← e]
    rw [hf, oJ, zd b0 b1]
    cases hv : (bt s 0 == 118 || bt s 0 == 86)
    · exact bad _ (by simp)
    · refine Ev.step (fun k => by rw [dW]) ?_
      refine ae (by simp) (ab (by omega) ?_)
      have hsp := wo (s.extract 1 s.size) (by rw [← af, bh, List.length_drop, af]; omega)
      rw [bh] at hsp
      refine ah hsp ?_
      have hle := oT bv ((aa s).drop 1)
      rw [List.length_drop, af] at hle
      generalize bd bv ((aa s).drop 1) = n at hle ⊢
      have hw : wrap64 (1 + (n : Int)) = ((n + 1 : Nat) : Int) := by rw [w64 (by omega) (by omega)]; omega
      simp only [hw]
      refine ab (by omega) (ab (by omega) ?_)
      rw [Int.toNat_natCast, List.drop_drop]
      have hsz : (s.extract (n + 1) s.size).size = s.size - (n + 1) := by rw [← af, bh, List.length_drop, af]
      have bad1 : ∀ r, r = false → Ev (fun k => dz k (s.extract (n + 1) s.size) true) r := by
        intro r e
        subst e
        refine Ev.step (fun k => by rw [dz]) ?_
        exact ab rfl (az _)
      rw [show 1 + n = n + 1 by omega]
      have hld : ((aa s).drop (n + 1)).length = s.size - (n + 1) := by rw [List.length_drop, af]
      refine Ev.ite (fun h0 => bad1 _ ?_) (fun h0 => Ev.ite (fun h2 => bad1 _ ?_) (fun h2 => ab (by omega) ?_))
      · have : n = 0 := by omega
        simp [this]
      · rw [hsz] at h2
        rw [hld, decide_eq_false (p := 2 ≤ s.size - (n + 1)) (by omega)]
        simp
      · rcases gD (s.extract (n + 1) s.size) with ⟨h3, _⟩ | ⟨_, e3, _⟩
        · omega
        rw [bh] at e3
        rw [hsz] at h2
        rw [hld, decide_eq_true (p := 0 < n) (by omega), decide_eq_true (p := 2 ≤ s.size - (n + 1)) (by omega)]
        have hh : ((aa s).drop (n + 1)).headD 0 = bt (s.extract (n + 1) s.size) 0 := by rw [e3]; rfl
        have ht : ((aa s).drop (n + 1)).tail = ((aa s).drop (n + 1)).drop 1 := by rw [List.drop_one]
        rw [hh, ht]
        cases h46 : (bt (s.extract (n + 1) s.size) 0 == 46)
        · have : (bt (s.extract (n + 1) s.size) 0 != 46) = true := by rw [bne, h46]; rfl
          rw [this]
          exact bad1 _ (by simp)
        · have : (bt (s.extract (n + 1) s.size) 0 != 46) = false := by rw [bne, h46]; rfl
          rw [this]
          refine Ev.step (fun k => by rw [dz]) ?_
          refine ae (by simp) ?_
          have := yq (s.extract (n + 1) s.size) (by omega) ((s.extract (n + 1) s.size).size - 1) 1 (by omega)
          rw [bh] at this
          simpa using this
theorem vC (s : ByteArray) (hs : s.size ≤ 140737488351232) : ∀ d i : Nat, i + d = s.size → Ev (fun k => bZ k s (i : Int)) (((aa s).drop i).all fun b => bV 1 b) := by
  intro d
  induction d with
  | zero =>
    intro i hi
    rw [List.drop_of_length_le (by rw [af]; omega)]
    refine Ev.step (fun k => by rw [bZ]) ?_
    exact ae (by omega) (az _)
  | succ d ih =>
    intro i hi
    rcases bu s i (by omega) with ⟨h2, _⟩ | ⟨_, e, b0, b1⟩
    · omega
    rw [e, List.all_cons, rf b0 b1]
    refine Ev.step (fun k => by rw [bZ]) ?_
    refine ab (by omega) (ab (by omega) (ah (nr b0 b1) ?_))
    rw [w64 (by omega) (by omega)]
    have nx := ih (i + 1) (by omega)
    refine Ev.ite (fun h => Ev.ite (fun h58 => ?_) (fun h58 => Ev.val ?_)) (fun h => ?_)
    · rw [h58]
      simp only [beq_self_eq_true, Bool.or_true, Bool.true_and]
      exact nx
    · rw [kF, qi b0 b1] at h
      have : (bt s (i : Int) == 58) = false := by simpa using h58
      rw [h, this]; rfl
    · rw [kF, qi b0 b1, Bool.not_eq_false] at h
      rw [h]
      simp only [Bool.true_or, Bool.true_and]
      exact nx
theorem qo (s : ByteArray) (hs : s.size ≤ 1000000) (h4 : 4 ≤ s.size) (i : Nat) (h1 : 1 ≤ i) (hi : i ≤ s.size) : Ev (fun k => dj k s (i : Int))
    (decide (1 < i) && decide (2 ≤ ((aa s).drop i).length) && (((aa s).drop i).headD 0 == 46) && (((aa s).drop i).tail.all fun b => bV 1 b)) := by
  have bad : ∀ r, r = false → Ev (fun k => bY k s (i : Int) true) r := by
    intro r e
    subst e
    refine Ev.step (fun k => by rw [bY]) ?_
    exact ab rfl (az _)
  have hld : ((aa s).drop i).length = s.size - i := by rw [List.length_drop, af]
  refine Ev.step (fun k => by rw [dj]) ?_
  have hw : wrap64 ((s.size : Int) - 1) = (s.size : Int) - 1 := w64 (by omega) (by omega)
  simp only [hw]
  refine Ev.ite (fun h => bad _ ?_) (fun h => Ev.ite (fun h2 => bad _ ?_) (fun h2 => ab (by omega) (ab (by omega) ?_)))
  · rw [decide_eq_false (by omega)]; rfl
  · rw [hld, decide_eq_false (p := 2 ≤ s.size - i) (by omega)]; simp
  · rcases bu s i (by omega) with ⟨h3, _⟩ | ⟨_, e, b0, b1⟩
    · omega
    rw [hld, decide_eq_true (by omega), decide_eq_true (by omega), e]
    simp only [List.headD_cons, List.tail_cons]
    cases h46 : (bt s (i : Int) == 46)
    · have : (bt s (i : Int) != 46) = true := by rw [bne, h46]; rfl
      rw [this]
      exact bad _ (by simp)
    · have : (bt s (i : Int) != 46) = false := by rw [bne, h46]; rfl
      rw [this]
      refine Ev.step (fun k => by rw [bY]) ?_
      refine ae (by simp) ?_
      rw [w64 (by omega) (by omega)]
      simp only [Bool.true_and, Bool.and_self]
      exact vC s (by omega) (s.size - (i + 1)) (i + 1) (by omega)
theorem vB (s : ByteArray) (hs : s.size ≤ 1000000) (h4 : 4 ≤ s.size) : ∀ d i : Nat, i + d = s.size → 1 ≤ i → Ev (fun k => cz k s (i : Int))
    (decide (1 < i + bd bv ((aa s).drop i)) && decide (2 ≤ ((aa s).drop (i + bd bv ((aa s).drop i))).length) && (((aa s).drop (i + bd bv ((aa s).drop i))).headD 0 == 46) && (((aa s).drop (i + bd bv ((aa s).drop i))).tail.all fun b => bV 1 b)) := by
  intro d
  induction d with
  | zero =>
    intro i hi h1
    have hz : bd bv ((aa s).drop i) = 0 := by rw [List.drop_of_length_le (by rw [af]; omega)]; rfl
    rw [hz, Nat.add_zero]
    refine Ev.step (fun k => by rw [cz]) ?_
    exact ae (by omega) (qo s hs h4 i h1 (by omega))
  | succ d ih =>
    intro i hi h1
    rcases bu s i (by omega) with ⟨h2, _⟩ | ⟨_, e, b0, b1⟩
    · omega
    refine Ev.step (fun k => by rw [cz]) ?_
    refine ab (by omega) (ab (by omega) (ah (lE b0 b1) ?_))
    refine Ev.ite (fun h => ?_) (fun h => ?_)
    · have hz : bd bv ((aa s).drop i) = bd bv ((aa s).drop (i + 1)) + 1 := by
        rw [e]
        have : bd bv (bt s (i : Int) :: (aa s).drop (i + 1)) = if bv (bt s (i : Int)) then bd bv ((aa s).drop (i + 1)) + 1 else 0 := rfl
        rw [this, if_pos ((ka _).1 (by omega))]
      rw [hz, w64 (by omega) (by omega), show i + (bd bv ((aa s).drop (i + 1)) + 1) = i + 1 + bd bv ((aa s).drop (i + 1)) by omega]
      exact ih (i + 1) (by omega) (by omega)
    · have hz : bd bv ((aa s).drop i) = 0 := by
        rw [e]
        have : bd bv (bt s (i : Int) :: (aa s).drop (i + 1)) = if bv (bt s (i : Int)) then bd bv ((aa s).drop (i + 1)) + 1 else 0 := rfl
        rw [this, if_neg (by rw [← ka]; omega)]
      rw [hz, Nat.add_zero]
      exact qo s hs h4 i h1 (by omega)
theorem sL (s : ByteArray) (hs : s.size ≤ 1000000) : Ev (fun k => fu k s) (fut (aa s)) := by
  have bad : ∀ r, r = false → Ev (fun k => bG k s true) r := by
    intro r e
    subst e
    refine Ev.step (fun k => by rw [bG]) ?_
    exact ab rfl (az _)
  unfold fu
  rcases gD s with ⟨h, e⟩ | ⟨hp, e, b0, b1⟩
  · rw [e]
    exact ab (by omega) (bad _ rfl)
  have hf : fut (aa s) = fut (bt s 0 :: (aa s).drop 1) := by rw [← e]
  rw [hf, oJ]
  have hle := oT bv ((aa s).drop 1)
  rw [List.length_drop, af] at hle
  refine Ev.ite (fun h => bad _ ?_) (fun h => ab (by omega) ?_)
  · by_cases h0 : 0 < bd bv ((aa s).drop 1)
    · rw [List.drop_drop, List.length_drop, af]
      by_cases h2 : 2 ≤ s.size - (1 + bd bv ((aa s).drop 1))
      · omega
      · rw [decide_eq_false h2]; simp
    · rw [decide_eq_false h0]; simp
  · have fo : Ev (fun k => bG k s false) (decide (0 < bd bv ((aa s).drop 1)) && decide (2 ≤ (((aa s).drop 1).drop (bd bv ((aa s).drop 1))).length) && ((((aa s).drop 1).drop (bd bv ((aa s).drop 1))).headD 0 == 46) && ((((aa s).drop 1).drop (bd bv ((aa s).drop 1))).tail.all fun b => bV 1 b)) := by
      refine Ev.step (fun k => by rw [bG]) ?_
      refine ae (by simp) ?_
      have := vB s hs (by omega) (s.size - 1) 1 (by omega) (by omega)
      rw [List.drop_drop]
      have e2 : decide (1 < 1 + bd bv ((aa s).drop 1)) = decide (0 < bd bv ((aa s).drop 1)) := by
        rw [decide_eq_decide]; omega
      rw [e2] at this
      exact this
    refine Ev.ite (fun hv => ?_) (fun hv => ?_)
    · rw [hv]
      simp only [beq_self_eq_true, Bool.true_or, Bool.true_and]
      exact fo
    · by_cases h86 : bt s 0 = 86
      · rw [h86]
        have e1 : ((86 : Int) != 86) = false := by decide
        have e2 : (((86 : Int) == 118) || ((86 : Int) == 86)) = true := by decide
        rw [e1, e2]
        simp only [Bool.true_and]
        exact fo
      · have e1 : (bt s 0 != 86) = true := by simpa using h86
        have e2 : ((bt s 0 == 118) || (bt s 0 == 86)) = false := by simp [hv, h86]
        rw [e1, e2]
        exact bad _ (by simp)
theorem tI (s : ByteArray) (h : 0 < s.size) : (aa s).getLastD 0 = bt s ((s.size : Int) - 1) := by
  have e : ((s.size : Int) - 1) = ((s.size - 1 : Nat) : Int) := by omega
  have hne : aa s ≠ [] := by intro x; have := af s; rw [x] at this; simp at this; omega
  rw [e, j7, List.getLastD_eq_getLast?, List.getLast?_eq_getElem?, List.getD_eq_getElem?_getD, af]
theorem mg (s : ByteArray) : ly (aa s) = true ↔ 2 ≤ s.size ∧ bt s 0 = 91 ∧ bt s ((s.size : Int) - 1) = 93 := by
  unfold ly
  rw [af]
  by_cases h : 2 ≤ s.size
  · rcases gD s with ⟨h2, _⟩ | ⟨_, e, _⟩
    · omega
    have hh : (aa s).headD 0 = bt s 0 := by rw [e]; rfl
    rw [hh, tI s (by omega)]
    simp [and_assoc]
  · simp [h]
theorem mr (s : ByteArray) (h : 2 ≤ s.size) : aa (s.extract 1 (s.size - 1)) = ((aa s).take ((aa s).length - 1)).drop 1 := by
  rw [ap, af]
theorem qg (iri : Bool) (s : ByteArray) (hs : s.size ≤ 1000000) (b : Bool) (hb : b = ly (aa s)) : Ev (fun k => ew k iri s (s.size : Int) b) (gu iri (aa s)) := by
  refine Ev.step (fun k => by rw [ew]) ?_
  unfold gu
  have hw : wrap64 ((s.size : Int) - 1) = (s.size : Int) - 1 := w64 (by omega) (by omega)
  simp only [hw]
  rw [← hb]
  refine Ev.ite (fun h => ?_) (fun h => ?_)
  · rw [if_pos h]
    have hb2 := (mg s).1 (by rw [← hb]; exact h)
    refine ab (by omega) (ab (by omega) ?_)
    have e : ((s.size : Int) - 1).toNat = s.size - 1 := by omega
    rw [e]
    have hsz : (s.extract 1 (s.size - 1)).size ≤ 1000000 := by rw [← af, mr s hb2.1, List.length_drop, List.length_take, af]; omega
    have h6 := zh (s.extract 1 (s.size - 1)) hsz
    have h7 := wm (s.extract 1 (s.size - 1)) hsz
    rw [mr s hb2.1] at h6 h7
    refine ah h6 ?_
    rw [vW]
    refine Ev.ite (fun h8 => ?_) (fun h8 => ?_)
    · rw [h8]
      exact Ev.val (by simp)
    · rw [Bool.not_eq_true] at h8
      rw [h8]
      refine ah h7 (Ev.ite (fun h9 => ?_) (fun h9 => ?_))
      · exact Ev.val (by rw [Bool.false_or, if_pos h9])
      · exact Ev.val (by rw [Bool.false_or, if_neg h9])
  · rw [if_neg h]
    refine ah (yE s hs) ?_
    rw [py]
    refine Ev.ite (fun h4 => ?_) (fun h4 => ah (xc 2 iri s (by omega)) (Ev.ite (fun h5 => ?_) (fun h5 => ?_)))
    · exact Ev.val (by rw [if_pos h4])
    · exact Ev.val (by rw [if_neg h4, if_pos h5])
    · exact Ev.val (by rw [if_neg h4, if_neg h5])
theorem wq (iri : Bool) (s : ByteArray) (hs : s.size ≤ 1000000) : Ev (fun k => iL k iri s) (gu iri (aa s)) := by
  unfold iL
  have hbi := mg s
  have hw : wrap64 ((s.size : Int) - 1) = (s.size : Int) - 1 := w64 (by omega) (by omega)
  simp only [hw]
  have no : ¬ (2 ≤ s.size ∧ bt s 0 = 91 ∧ bt s ((s.size : Int) - 1) = 93) → Ev (fun k => ew k iri s (s.size : Int) false) (gu iri (aa s)) := by
    intro h
    refine qg iri s hs false ?_
    symm
    rw [← Bool.not_eq_true, hbi]
    exact h
  refine Ev.ite (fun h => ab (by omega) (Ev.ite (fun h2 => ab (by omega) (ab (by omega) ?_)) (fun h2 => no (fun x => h2 x.2.1)))) (fun h => no (fun x => h (by omega)))
  refine qg iri s hs _ ?_
  rw [Bool.eq_iff_iff, hbi, beq_iff_eq]
  constructor
  · intro h3; exact ⟨by omega, h2, h3⟩
  · intro h3; exact h3.2.2
theorem pl (iri : Bool) (s : ByteArray) (hs : s.size ≤ 1000000) (b : Bool) (hb : b = ly (aa s)) : Ev (fun k => cu k iri s (s.size : Int) b) (gu iri (aa s)) := by
  refine Ev.step (fun k => by rw [cu]) ?_
  unfold gu
  have hw : wrap64 ((s.size : Int) - 1) = (s.size : Int) - 1 := w64 (by omega) (by omega)
  simp only [hw]
  rw [← hb]
  refine Ev.ite (fun h => ?_) (fun h => ?_)
  · rw [if_pos h]
    have hb2 := (mg s).1 (by rw [← hb]; exact h)
    refine ab (by omega) (ab (by omega) ?_)
    have e : ((s.size : Int) - 1).toNat = s.size - 1 := by omega
    rw [e]
    have hsz : (s.extract 1 (s.size - 1)).size ≤ 1000000 := by rw [← af, mr s hb2.1, List.length_drop, List.length_take, af]; omega
    have h6 := xV (s.extract 1 (s.size - 1)) hsz
    have h7 := sL (s.extract 1 (s.size - 1)) hsz
    rw [mr s hb2.1] at h6 h7
    refine ah h6 ?_
    rw [vW]
    refine Ev.ite (fun h8 => ?_) (fun h8 => ?_)
    · rw [h8]
      exact Ev.val (by simp)
    · rw [Bool.not_eq_true] at h8
      rw [h8]
      refine ah h7 (Ev.ite (fun h9 => ?_) (fun h9 => ?_))
      · exact Ev.val (by rw [Bool.false_or, if_pos h9])
      · exact Ev.val (by rw [Bool.false_or, if_neg h9])
  · rw [if_neg h]
    refine ah (tn s hs) ?_
    rw [py]
    refine Ev.ite (fun h4 => ?_) (fun h4 => ah (i6 2 iri s (by omega)) (Ev.ite (fun h5 => ?_) (fun h5 => ?_)))
    · exact Ev.val (by rw [if_pos h4])
    · refine Ev.val ?_
      rw [if_neg h4, if_pos]
      unfold be
      rw [beq_iff_eq, af]; omega
    · refine Ev.val ?_
      rw [if_neg h4, if_neg]
      unfold be
      rw [beq_iff_eq, af]; omega
theorem qp (iri : Bool) (s : ByteArray) (hs : s.size ≤ 1000000) : Ev (fun k => eW k iri s) (gu iri (aa s)) := by
  unfold eW
  have hbi := mg s
  have hw : wrap64 ((s.size : Int) - 1) = (s.size : Int) - 1 := w64 (by omega) (by omega)
  simp only [hw]
  have no : ¬ (2 ≤ s.size ∧ bt s 0 = 91 ∧ bt s ((s.size : Int) - 1) = 93) → Ev (fun k => cu k iri s (s.size : Int) false) (gu iri (aa s)) := by
    intro h
    refine pl iri s hs false ?_
    symm
    rw [← Bool.not_eq_true, hbi]
    exact h
  refine Ev.ite (fun h => ab (by omega) (Ev.ite (fun h2 => ab (by omega) (ab (by omega) ?_)) (fun h2 => no (fun x => h2 x.2.1)))) (fun h => no (fun x => h (by omega)))
  refine pl iri s hs _ ?_
  rw [Bool.eq_iff_iff, hbi, beq_iff_eq]
  constructor
  · intro h3; exact ⟨by omega, h2, h3⟩
  · intro h3; exact h3.2.2
end Go.Proofs.YtpmflpeckoeooaaGreatDoor.Y
