/- Texts that the law's proof needs, joined by a program of this session. -/
import Derived.Test.YtpmflpeckoeooaaGreatDoorZSyntaxKinds0
import Derived.Test.YtpmflpeckoeooaaGreatDoorZSyntaxKinds1
import Derived.Test.YtpmflpeckoeooaaGreatDoorZSyntaxKinds2
import Derived.Test.YtpmflpeckoeooaaGreatDoorZSyntaxKinds3
import Derived.Test.YtpmflpeckoeooaaGreatDoorZSyntaxKinds5
import Derived.Test.YtpmflpeckoeooaaGreatDoorZSyntaxKinds7
import Derived.Test.YtpmflpeckoeooaaGreatDoorZSyntaxKinds8
import Derived.Lib.Bytealg
import Derived.Laws.Strings
import Derived.Laws.BitsLemmas
import Derived.Laws.RangeAny
set_option linter.unusedVariables false
namespace Go.Proofs.YtpmflpeckoeooaaGreatDoor.M
open Go Go.RowKit Go.Proofs.YtpmflpeckoeooaaGreatDoorW.PrintWords
theorem w64 {x : Int} (h1 : -9223372036854775808 ≤ x) (h2 : x ≤ 9223372036854775807) : wrap64 x = x := by unfold wrap64; omega
theorem i8 (s : ByteArray) : s.toList = s.data.toList := ByteArray.toList_eq s
theorem iI {a b : ByteArray} (h : aa a = aa b) : a = b := by
  unfold aa at h
  have : a.data.toList = b.data.toList := by
    apply List.map_inj_right (f := fun b : UInt8 => (b.toNat : Int)) _ |>.1 h
    intro x y hxy
    exact UInt8.toNat_inj.1 (by omega)
  cases a; cases b
  simp only [ByteArray.mk.injEq]
  exact Array.toList_inj.1 this
theorem ku {a b : ByteArray} : a.toList = b.toList ↔ aa a = aa b := by
  rw [i8, i8]
  exact ⟨fun h => by unfold aa; rw [h], fun h => by rw [iI h]⟩
theorem eX (a b : ByteArray) : aa (a ++ b) = aa a ++ aa b := by
  unfold aa
  rw [ByteArray.data_append, Array.toList_append, List.map_append]
theorem ap (a : ByteArray) (i j : Nat) : aa (a.extract i j) = ((aa a).take j).drop i := by
  unfold aa
  rw [ByteArray.data_extract, Array.toList_extract, List.extract_eq_take_drop, List.map_take, List.map_drop, List.drop_take]
theorem d6 {s : ByteArray} {x : Int} (h : x ∈ aa s) : 0 ≤ x ∧ x ≤ 255 := by
  unfold aa at h
  obtain ⟨b, _, rfl⟩ := List.mem_map.1 h
  have := b.toNat_lt
  omega
theorem af (s : ByteArray) : (aa s).length = s.size := pE s
theorem j7 (s : ByteArray) (i : Nat) : bt s (i : Int) = (aa s).getD i 0 := by
  rw [← ud]; unfold rd; simp
theorem pD {s : ByteArray} {i : Nat} {b : Int} {t : List Int} (h : (aa s).drop i = b :: t) : bt s (i : Int) = b ∧ i < s.size ∧ (aa s).drop (i + 1) = t ∧ 0 ≤ b ∧ b ≤ 255 := by
  have hl : i < (aa s).length := by
    have := congrArg List.length h
    rw [List.length_drop, List.length_cons] at this
    omega
  have e := List.drop_eq_getElem_cons hl
  rw [h] at e
  injection e with e1 e2
  have hr := d6 (s := s) (x := b) (by rw [e1]; exact List.getElem_mem hl)
  refine ⟨?_, by rw [← af]; exact hl, e2.symm, hr.1, hr.2⟩
  rw [j7, List.getD_eq_getElem?_getD, List.getElem?_eq_getElem hl, e1]
  rfl
theorem qS {s : ByteArray} {i : Nat} (h : (aa s).drop i = []) : s.size ≤ i := by
  have := congrArg List.length h
  rw [List.length_drop, af] at this
  simp at this
  omega
theorem vT {s : ByteArray} {n : Nat} (h : n < s.size) : (aa s).take (n + 1) = (aa s).take n ++ [bt s (n : Int)] := by
  have hl : n < (aa s).length := by rw [af]; exact h
  rw [List.take_succ_eq_append_getElem hl, j7, List.getD_eq_getElem?_getD, List.getElem?_eq_getElem hl]
  rfl
theorem jn (s : ByteArray) (i : Int) : 0 ≤ bt s i ∧ bt s i ≤ 255 := wd s i
theorem oY {α : Type} {g : Nat → Option α} {r : α} (h : ∀ k, g k = some r) : Ev g r := ⟨0, fun k _ => h k⟩
theorem ah {α β : Type} {g : Nat → Option α} {f : Nat → α → Option β} {a : α} {r : β} (h : Ev g a) (k : Ev (fun n => f n a) r) : Ev (fun n => (g n).bind fun t => f n t) r := Ev.bind h k
theorem bw {α β : Type} {o : Option α} {f : Nat → α → Option β} {a : α} {r : β} (h : o = some a) (k : Ev (fun n => f n a) r) : Ev (fun n => o.bind fun t => f n t) r := by
  subst h; exact k
theorem ab {α : Type} {c : Prop} [Decidable c] {g f : Nat → Option α} {r : α} (h : c) (k : Ev g r) : Ev (fun n => if c then g n else f n) r := by
  simp only [if_pos h]; exact k
theorem ae {α : Type} {c : Prop} [Decidable c] {g f : Nat → Option α} {r : α} (h : ¬ c) (k : Ev f r) : Ev (fun n => if c then g n else f n) r := by
  simp only [if_neg h]; exact k
theorem Ev.ite {α : Type} {c : Prop} [Decidable c] {g f : Nat → Option α} {r : α} (h : c → Ev g r) (k : ¬ c → Ev f r) : Ev (fun n => if c then g n else f n) r := by
  by_cases hc : c
  · exact ab hc (h hc)
  · exact ae hc (k hc)
theorem Ev.val {α : Type} {a r : α} (h : a = r) : Ev (fun _ => some a) r := by subst h; exact az _
def idx (c : Int) : List Int → Int
  | [] => -1
  | b :: t => if b = c then 0 else if idx c t = -1 then -1 else idx c t + 1
theorem kU (c : Int) (l : List Int) : -1 ≤ idx c l := by
  induction l with
  | nil => simp [idx]
  | cons b t ih => unfold idx; split <;> (try split) <;> omega
theorem nJ (c : Int) (l : List Int) : idx c l < l.length := by
  induction l with
  | nil => simp [idx]
  | cons b t ih => unfold idx; rw [List.length_cons]; split <;> (try split) <;> omega
theorem tN (c : Int) (l m : List Int) : idx c (l ++ m) = if idx c l = -1 then (if idx c m = -1 then -1 else idx c m + l.length) else idx c l := by
  induction l with
  | nil => simp only [List.nil_append, idx, if_true, List.length_nil]; split <;> omega
  | cons b t ih =>
    have := kU c t
    have := kU c m
    rw [List.cons_append]
    by_cases hb : b = c
    · simp [idx, hb]
    · simp only [idx, if_neg hb, ih, List.length_cons]
      by_cases h1 : idx c t = -1
      · by_cases h2 : idx c m = -1
        · simp [h1, h2]
        · simp only [h1, h2, if_true, if_false]
          rw [if_neg (by omega)]; omega
      · simp only [h1, if_false]
        rw [if_neg (by omega)]
theorem oK {c : Int} {l : List Int} : idx c l = -1 ↔ c ∉ l := by
  induction l with
  | nil => simp [idx]
  | cons b t ih =>
    have := kU c t
    unfold idx
    by_cases hb : b = c
    · simp [hb]
    · simp only [if_neg hb, List.mem_cons, not_or]
      by_cases h1 : idx c t = -1
      · simp [h1, ih.1 h1, Ne.symm hb]
      · rw [if_neg h1]
        constructor
        · intro h; omega
        · intro h; exact absurd (ih.2 h.2) h1
theorem nK {c : Int} {l : List Int} (h : 0 ≤ idx c l) : l = l.take (idx c l).toNat ++ c :: l.drop ((idx c l).toNat + 1) ∧ c ∉ l.take (idx c l).toNat := by
  induction l with
  | nil => simp [idx] at h
  | cons b t ih =>
    unfold idx at h ⊢
    by_cases hb : b = c
    · simp [hb]
    · rw [if_neg hb] at h ⊢
      by_cases h1 : idx c t = -1
      · rw [if_pos h1] at h; omega
      · have hg := kU c t
        rw [if_neg h1]
        obtain ⟨e1, e2⟩ := ih (by omega)
        have e : (idx c t + 1).toNat = (idx c t).toNat + 1 := by omega
        rw [e, List.take_succ_cons, List.drop_succ_cons, List.cons_append]
        refine ⟨by rw [← e1], ?_⟩
        rw [List.mem_cons, not_or]
        exact ⟨Ne.symm hb, e2⟩
def bC (c : Int) : List Int → Int
  | [] => -1
  | b :: t => if bC c t = -1 then (if b = c then 0 else -1) else bC c t + 1
theorem lH (c : Int) (l : List Int) : -1 ≤ bC c l := by
  induction l with
  | nil => simp [bC]
  | cons b t ih => unfold bC; split <;> (try split) <;> omega
theorem tf (c : Int) (l : List Int) : bC c l < l.length := by
  induction l with
  | nil => simp [bC]
  | cons b t ih => unfold bC; rw [List.length_cons]; split <;> (try split) <;> omega
theorem vp (c : Int) (l : List Int) (b : Int) : bC c (l ++ [b]) = if b = c then (l.length : Int) else bC c l := by
  induction l with
  | nil => simp [bC]
  | cons a t ih =>
    have := lH c t
    rw [List.cons_append]
    simp only [bC, ih, List.length_cons]
    by_cases hb : b = c
    · rw [if_pos hb, if_pos hb, if_neg (by omega)]; omega
    · simp only [if_neg hb]
theorem nS {c : Int} {l : List Int} : bC c l = -1 ↔ c ∉ l := by
  induction l with
  | nil => simp [bC]
  | cons b t ih =>
    have := lH c t
    unfold bC
    rw [List.mem_cons, not_or]
    by_cases h1 : bC c t = -1
    · rw [if_pos h1]
      by_cases hb : b = c
      · simp [hb]
      · rw [if_neg hb]; simp [ih.1 h1, Ne.symm hb]
    · rw [if_neg h1]
      constructor
      · intro h; omega
      · intro h; exact absurd (ih.2 h.2) h1
theorem pf {c : Int} {l : List Int} (h : 0 ≤ bC c l) : l = l.take (bC c l).toNat ++ c :: l.drop ((bC c l).toNat + 1) ∧ c ∉ l.drop ((bC c l).toNat + 1) := by
  induction l with
  | nil => simp [bC] at h
  | cons b t ih =>
    have hg := lH c t
    unfold bC at h ⊢
    by_cases h1 : bC c t = -1
    · rw [if_pos h1] at h ⊢
      by_cases hb : b = c
      · rw [if_pos hb]; simp [hb, nS.1 h1]
      · rw [if_neg hb] at h; omega
    · rw [if_neg h1] at h ⊢
      obtain ⟨e1, e2⟩ := ih (by omega)
      have e : (bC c t + 1).toNat = (bC c t).toNat + 1 := by omega
      rw [e, List.take_succ_cons, List.drop_succ_cons, List.cons_append]
      exact ⟨by rw [← e1], e2⟩
theorem qw (l : List UInt8) (c : UInt8) : Go.Lib.indexByte l c = idx (c.toNat : Int) (l.map fun b => (b.toNat : Int)) := by
  induction l with
  | nil => rfl
  | cons b t ih =>
    rw [List.map_cons]
    unfold Go.Lib.indexByte idx
    rw [ih]
    by_cases hb : b = c
    · simp [hb]
    · have h1 : (b == c) = false := by simpa using hb
      have h2 : ¬ ((b.toNat : Int) = (c.toNat : Int)) := fun h => hb (UInt8.toNat_inj.1 (by omega))
      rw [h1, if_neg h2]
      simp only [Bool.false_eq_true, if_false, beq_iff_eq]
theorem pb (s : ByteArray) (c : Int) (h0 : 0 ≤ c) (h1 : c ≤ 255) : Go.Lib.indexByte s.data.toList c.toNat.toUInt8 = idx c (aa s) := by
  rw [qw]
  have : ((c.toNat.toUInt8.toNat : Nat) : Int) = c := by
    rw [Nat.toUInt8, UInt8.toNat_ofNat']
    omega
  rw [this]; rfl
theorem b6 {p : Int → Prop} (h : ∀ n : Fin 256, p ((n.val : Nat) : Int)) {b : Int} (h0 : 0 ≤ b) (h1 : b ≤ 255) : p b := by
  have := h ⟨b.toNat, by omega⟩
  simp only at this
  rwa [Int.toNat_of_nonneg h0] at this
def jA (b : Int) : Bool := decide (65 ≤ b ∧ b ≤ 90 ∨ 97 ≤ b ∧ b ≤ 122)
def dr (b : Int) : Bool := decide (48 ≤ b ∧ b ≤ 57)
def bv (b : Int) : Bool := decide (48 ≤ b ∧ b ≤ 57 ∨ 65 ≤ b ∧ b ≤ 70 ∨ 97 ≤ b ∧ b ≤ 102)
def xj (b : Int) : Bool := decide (b = 45 ∨ b = 46 ∨ b = 95 ∨ b = 126)
def yA (b : Int) : Bool := decide (b = 33 ∨ b = 36 ∨ 38 ≤ b ∧ b ≤ 44 ∨ b = 59 ∨ b = 61)
def zc (b : Int) : Bool := decide (b = 58 ∨ b = 47 ∨ b = 63 ∨ b = 35 ∨ b = 91 ∨ b = 93 ∨ b = 64)
def cls (b : Int) : Int := (if jA b then 1 else 0) + (if dr b then 2 else 0) + (if xj b then 4 else 0) + (if yA b then 8 else 0) + (if zc b then 16 else 0) + (if bv b then 32 else 0)
def mf (b : Int) : Bool := jA b || dr b
def kZ (b : Int) : Bool := jA b || dr b || xj b || yA b
def isc (b c : Int) : Bool := Go.bits .and .i64 (cls b) c != 0
theorem vl {b : Int} (h0 : 0 ≤ b) (h1 : b ≤ 255) : isc b 1 = jA b :=
  b6 (p := fun b => isc b 1 = jA b) (by decide +kernel) h0 h1
theorem qh {b : Int} (h0 : 0 ≤ b) (h1 : b ≤ 255) : isc b 2 = dr b :=
  b6 (p := fun b => isc b 2 = dr b) (by decide +kernel) h0 h1
theorem nQ {b : Int} (h0 : 0 ≤ b) (h1 : b ≤ 255) : isc b 3 = mf b :=
  b6 (p := fun b => isc b 3 = mf b) (by decide +kernel) h0 h1
theorem qi {b : Int} (h0 : 0 ≤ b) (h1 : b ≤ 255) : isc b 15 = kZ b :=
  b6 (p := fun b => isc b 15 = kZ b) (by decide +kernel) h0 h1
theorem xK {b : Int} (h0 : 0 ≤ b) (h1 : b ≤ 255) : isc b 32 = bv b :=
  b6 (p := fun b => isc b 32 = bv b) (by decide +kernel) h0 h1
theorem kF {b c : Int} : Go.bits .and .i64 (cls b) c = 0 ↔ isc b c = false := by unfold isc; simp
def hv (b : Int) : Int := if 48 ≤ b ∧ b ≤ 57 then b - 48 else if 65 ≤ b ∧ b ≤ 70 then b - 55 else if 97 ≤ b ∧ b ≤ 102 then b - 87 else -1
theorem jZ (b : Int) : -1 ≤ hv b ∧ hv b ≤ 15 := by unfold hv; (repeat' split) <;> omega
theorem ka (b : Int) : (0 ≤ hv b) ↔ bv b = true := by
  unfold hv bv
  rw [decide_eq_true_iff]
  (repeat' split) <;> omega
theorem u0 (b : Int) : (hv b < 0) ↔ bv b = false := by
  have h1 := ka b
  rw [← Bool.not_eq_true, ← h1]
  omega
theorem tL {b : Int} (h : bv b = true) : kZ b = true := by
  unfold bv at h
  unfold kZ jA dr
  rw [decide_eq_true_iff] at h
  simp only [Bool.or_eq_true, decide_eq_true_iff]
  omega
def iR (p : Int → Bool) : List Int → Int
  | [] => -1
  | b :: t => if p b then 0 else if iR p t = -1 then -1 else iR p t + 1
theorem mj (p : Int → Bool) (b : Int) (t : List Int) : iR p (b :: t) = if p b then 0 else if iR p t = -1 then -1 else iR p t + 1 := rfl
theorem xC (p : Int → Bool) (l : List Int) : -1 ≤ iR p l := by
  induction l with
  | nil => simp [iR]
  | cons b t ih => unfold iR; split <;> (try split) <;> omega
def bd (p : Int → Bool) : List Int → Nat
  | [] => 0
  | b :: t => if p b then bd p t + 1 else 0
theorem oT (p : Int → Bool) (l : List Int) : bd p l ≤ l.length := by
  induction l with
  | nil => simp [bd]
  | cons b t ih => unfold bd; rw [List.length_cons]; split <;> omega
theorem vO {p : Int → Bool} {l : List Int} : bd p l = l.length ↔ ∀ b ∈ l, p b = true := by
  induction l with
  | nil => simp [bd]
  | cons b t ih =>
    unfold bd
    cases hb : p b
    · simp [hb]
    · simp [hb, ← ih]
theorem pr {p : Int → Bool} (l : List Int) : ∀ b ∈ l.take (bd p l), p b = true := by
  induction l with
  | nil => simp [bd]
  | cons b t ih =>
    unfold bd
    cases hb : p b
    · simp
    · simp only [if_true, List.take_succ_cons]
      intro c hc
      rcases List.mem_cons.1 hc with rfl | hc
      · exact hb
      · exact ih c hc
theorem uv {p : Int → Bool} {l : List Int} {b : Int} {t : List Int} (h : l.drop (bd p l) = b :: t) : p b = false := by
  induction l with
  | nil => simp [bd] at h
  | cons c r ih =>
    unfold bd at h
    cases hc : p c
    · rw [hc] at h
      simp at h
      rw [← h.1]; exact hc
    · rw [hc] at h
      simp only [if_true, List.drop_succ_cons] at h
      exact ih h
def shp (b : Int) : Int × Int × Int :=
  if b < 128 then (1, 0, 0) else if 194 ≤ b ∧ b ≤ 223 then (2, 128, 191) else if b = 224 then (3, 160, 191) else if b = 237 then (3, 128, 159)
  else if 225 ≤ b ∧ b ≤ 239 then (3, 128, 191) else if b = 240 then (4, 144, 191) else if b = 244 then (4, 128, 143) else if 241 ≤ b ∧ b ≤ 243 then (4, 128, 191) else (0, 0, 0)
def aN : Nat → Int → Int → List Int → Nat
  | 0, _, _, _ => 0
  | _ + 1, _, _, [] => 0
  | n + 1, lo, hi, c :: t => if lo ≤ c ∧ c ≤ hi then aN n 128 191 t + 1 else 0
def ga (r : Int) : List Int → Int
  | [] => r
  | c :: t => ga (r * 64 + (c - 128)) t
def cD (n b : Int) : Int := if n = 1 then b else if n = 2 then b - 192 else if n = 3 then b - 224 else b - 240
def dec : List Int → Int × Int × Bool
  | [] => (0, 0, false)
  | b :: t => if (shp b).1 = 0 then (0, 1, false)
    else if (aN ((shp b).1.toNat - 1) (shp b).2.1 (shp b).2.2 t : Int) + 1 < (shp b).1 then (0, (aN ((shp b).1.toNat - 1) (shp b).2.1 (shp b).2.2 t : Int) + 1, false)
    else (ga (cD (shp b).1 b) (t.take ((shp b).1.toNat - 1)), (shp b).1, true)
theorem dh (b : Int) (t : List Int) : dec (b :: t) = if (shp b).1 = 0 then (0, 1, false)
    else if (aN ((shp b).1.toNat - 1) (shp b).2.1 (shp b).2.2 t : Int) + 1 < (shp b).1 then (0, (aN ((shp b).1.toNat - 1) (shp b).2.1 (shp b).2.2 t : Int) + 1, false)
    else (ga (cD (shp b).1 b) (t.take ((shp b).1.toNat - 1)), (shp b).1, true) := rfl
theorem jy (b : Int) : 0 ≤ (shp b).1 ∧ (shp b).1 ≤ 4 := by
  unfold shp
  (repeat' split) <;> simp
theorem gK {b : Int} (h : 2 ≤ (shp b).1) : 128 ≤ (shp b).2.1 ∧ (shp b).2.2 ≤ 191 := by
  revert h
  unfold shp
  (repeat' split) <;> simp
theorem oR {b : Int} (h0 : 0 ≤ b) (h1 : b ≤ 255) (h : 1 ≤ (shp b).1) : 0 ≤ cD (shp b).1 b ∧ cD (shp b).1 b < 128 := by
  have := b6 (p := fun b => 1 ≤ (shp b).1 → 0 ≤ cD (shp b).1 b ∧ cD (shp b).1 b < 128) (by decide +kernel) h0 h1
  exact this h
theorem jY (n : Nat) (lo hi : Int) (l : List Int) : aN n lo hi l ≤ n ∧ aN n lo hi l ≤ l.length := by
  induction n generalizing lo hi l with
  | zero => simp [aN]
  | succ n ih =>
    cases l with
    | nil => simp [aN]
    | cons c t =>
      unfold aN
      have := ih 128 191 t
      rw [List.length_cons]
      split <;> omega
theorem kR (n : Nat) (lo hi : Int) (h0 : 128 ≤ lo) (h1 : hi ≤ 191) (l : List Int) : ∀ c ∈ l.take (aN n lo hi l), 128 ≤ c ∧ c ≤ 191 := by
  induction n generalizing lo hi l with
  | zero => simp [aN]
  | succ n ih =>
    cases l with
    | nil => simp [aN]
    | cons c t =>
      unfold aN
      split
      · rename_i h
        simp only [List.take_succ_cons]
        intro d hd
        rcases List.mem_cons.1 hd with rfl | hd
        · omega
        · exact ih 128 191 (by omega) (by omega) t d hd
      · simp
theorem qb (lo hi : Int) (l : List Int) : aN 0 lo hi l = 0 := by unfold aN; rfl
theorem o5 (l : List Int) : 0 ≤ (dec l).2.1 ∧ (dec l).2.1 ≤ 4 ∧ (dec l).2.1 ≤ l.length := by
  cases l with
  | nil => simp [dec]
  | cons b t =>
    have h1 := jy b
    have h2 := jY ((shp b).1.toNat - 1) (shp b).2.1 (shp b).2.2 t
    rw [List.length_cons, dh]
    split
    · simp only; omega
    · split
      · simp only
        omega
      · simp only
        omega
theorem xy {b : Int} {t : List Int} : 1 ≤ (dec (b :: t)).2.1 := by
  have h1 := jy b
  rw [dh]
  split
  · simp
  · split <;> simp only <;> omega
theorem iJ {b : Int} (t : List Int) (h : b < 128) : dec (b :: t) = (b, 1, true) := by
  have : shp b = (1, 0, 0) := by unfold shp; rw [if_pos h]
  rw [dh, this]
  simp [aN, cD, ga]
theorem wg {b : Int} {t : List Int} (h : 128 ≤ b) (hb : b ≤ 255) (ok : (dec (b :: t)).2.2 = true) : 2 ≤ (dec (b :: t)).2.1 ∧ ∀ c ∈ (b :: t).take (dec (b :: t)).2.1.toNat, 128 ≤ c := by
  have h1 := jy b
  have h2 : (shp b).1 ≠ 1 := b6 (p := fun b => 128 ≤ b → (shp b).1 ≠ 1) (by decide +kernel) (by omega) hb h
  rw [dh] at ok ⊢
  by_cases e : (shp b).1 = 0
  · rw [if_pos e] at ok; cases ok
  · rw [if_neg e] at ok ⊢
    by_cases e2 : (aN ((shp b).1.toNat - 1) (shp b).2.1 (shp b).2.2 t : Int) + 1 < (shp b).1
    · rw [if_pos e2] at ok; cases ok
    · rw [if_neg e2]
      have h3 := jY ((shp b).1.toNat - 1) (shp b).2.1 (shp b).2.2 t
      have h4 := gK (b := b) (by omega)
      have h5 := kR ((shp b).1.toNat - 1) (shp b).2.1 (shp b).2.2 h4.1 h4.2 t
      have e3 : (shp b).1.toNat = aN ((shp b).1.toNat - 1) (shp b).2.1 (shp b).2.2 t + 1 := by omega
      refine ⟨by simp only; omega, ?_⟩
      simp only
      rw [e3, List.take_succ_cons]
      intro c hc
      rcases List.mem_cons.1 hc with rfl | hc
      · exact h
      · exact (h5 c hc).1
theorem kD {l : List Int} (ok : (dec l).2.2 = true) : 1 ≤ (dec l).2.1 := by
  cases l with
  | nil => cases ok
  | cons b t => exact xy
end Go.Proofs.YtpmflpeckoeooaaGreatDoor.M
namespace Go.Proofs.YtpmflpeckoeooaaGreatDoor.Y
open Go.RowKit Go.Proofs.YtpmflpeckoeooaaGreatDoor.X Go.Proofs.YtpmflpeckoeooaaGreatDoor.M Go.Proofs.YtpmflpeckoeooaaGreatDoorW.PrintWords Go.Proofs.YtpmflpeckoeooaaGreatDoorW.PrintLast Go.Proofs.YtpmflpeckoeooaaGreatDoorW.PrintMore
theorem xv {b : Int} (h0 : 0 ≤ b) (h1 : b ≤ 255) : Ev (fun k => fN k b) (cls b) :=
  lx (fun k => lV b k) (k := 12) (b6 (p := fun b => fN 12 b = some (cls b)) (by decide +kernel) h0 h1)
theorem tR {b : Int} (c : Int) (h0 : 0 ≤ b) (h1 : b ≤ 255) : Ev (fun k => fi k b c) (isc b c) := ah (xv h0 h1) (az _)
theorem pT {b : Int} (h0 : 0 ≤ b) (h1 : b ≤ 255) : Ev (fun k => et k b) (if hv b < 0 then (0, false) else (hv b, true)) :=
  lx (fun k => g8 b k) (k := 14) (b6 (p := fun b => et 14 b = some (if hv b < 0 then (0, false) else (hv b, true))) (by decide +kernel) h0 h1)
theorem nr {b : Int} (h0 : 0 ≤ b) (h1 : b ≤ 255) : Ev (fun k => bI k b) (cls b) :=
  lx (fun k => hY b k) (k := 60) (b6 (p := fun b => bI 60 b = some (cls b)) (by decide +kernel) h0 h1)
theorem lE {b : Int} (h0 : 0 ≤ b) (h1 : b ≤ 255) : Ev (fun k => bJ k b) (hv b) :=
  lx (fun k => mb b k) (k := 20) (b6 (p := fun b => bJ 20 b = some (hv b)) (by decide +kernel) h0 h1)
theorem bu (s : ByteArray) (n : Nat) (h : n ≤ s.size) : (n = s.size ∧ (aa s).drop n = []) ∨ (n < s.size ∧ (aa s).drop n = bt s (n : Int) :: (aa s).drop (n + 1) ∧ 0 ≤ bt s (n : Int) ∧ bt s (n : Int) ≤ 255) := by
  rcases Nat.lt_or_ge n s.size with h1 | h1
  · right
    have hl : n < (aa s).length := by rw [af]; exact h1
    refine ⟨h1, ?_, (jn s n).1, (jn s n).2⟩
    rw [List.drop_eq_getElem_cons hl, j7, List.getD_eq_getElem?_getD, List.getElem?_eq_getElem hl]
    rfl
  · left
    exact ⟨by omega, List.drop_of_length_le (by rw [af]; exact h1)⟩
theorem gD (s : ByteArray) : (s.size = 0 ∧ aa s = []) ∨ (0 < s.size ∧ aa s = bt s 0 :: (aa s).drop 1 ∧ 0 ≤ bt s 0 ∧ bt s 0 ≤ 255) := by
  have := bu s 0 (by omega)
  rw [List.drop_zero] at this
  rcases this with ⟨h, e⟩ | h
  · exact .inl ⟨h.symm, e⟩
  · exact .inr h
theorem tX (s : ByteArray) (c : Int) (hs : s.size ≤ 140737488351232) : ∀ d n : Nat, n + d = s.size → Ev (fun k => es k s c (s.size : Int) (n : Int)) ((n : Int) + bd (fun b => isc b c) ((aa s).drop n)) := by
  intro d
  induction d with
  | zero =>
    intro n hn
    refine Ev.step (fun k => rfl) ?_
    refine ae (by omega) ?_
    rw [List.drop_of_length_le (by rw [af]; omega)]
    have : ((n : Int) + ((bd (fun b => isc b c) [] : Nat) : Int)) = (s.size : Int) := by simp [bd]; omega
    rw [this]
    exact az _
  | succ d ih =>
    intro n hn
    rcases bu s n (by omega) with ⟨h, _⟩ | ⟨h, e, b0, b1⟩
    · omega
    refine Ev.step (fun k => rfl) ?_
    refine ab (by omega) (ab (by omega) (ab (by omega) (ah (tR c b0 b1) ?_)))
    rw [e]
    cases hb : isc (bt s n) c
    · refine ae (by simp) ?_
      simp only [bd, hb, Bool.false_eq_true, if_false]
      exact az _
    · refine ab rfl ?_
      rw [w64 (by omega) (by omega)]
      have := ih (n + 1) (by omega)
      simp only [bd, hb, if_true]
      have e2 : ((n : Int) + ((bd (fun b => isc b c) ((aa s).drop (n + 1)) + 1 : Nat) : Int)) = ((n + 1 : Nat) : Int) + (bd (fun b => isc b c) ((aa s).drop (n + 1)) : Int) := by omega
      rw [e2]
      exact this
theorem qk (s : ByteArray) (c : Int) (hs : s.size ≤ 140737488351232) : Ev (fun k => fa k s c) (bd (fun b => isc b c) (aa s) : Int) := by
  have := tX s c hs s.size 0 (by omega)
  unfold fa
  simpa using this
theorem uk (s : ByteArray) (c : Int) (hs : s.size ≤ 140737488351232) : ∀ d n : Nat, n + d = s.size → Ev (fun k => ex k s c (n : Int)) ((n : Int) + bd (fun b => isc b c) ((aa s).drop n)) := by
  intro d
  induction d with
  | zero =>
    intro n hn
    refine Ev.step (fun k => rfl) ?_
    refine ae (by omega) ?_
    rw [List.drop_of_length_le (by rw [af]; omega)]
    have : ((n : Int) + ((bd (fun b => isc b c) [] : Nat) : Int)) = (n : Int) := by simp [bd]
    rw [this]
    exact az _
  | succ d ih =>
    intro n hn
    rcases bu s n (by omega) with ⟨h, _⟩ | ⟨h, e, b0, b1⟩
    · omega
    refine Ev.step (fun k => rfl) ?_
    refine ab (by omega) (ab (by omega) (ah (nr b0 b1) ?_))
    rw [e]
    cases hb : isc (bt s n) c
    · refine ab (kF.2 hb) ?_
      simp only [bd, hb, Bool.false_eq_true, if_false]
      exact az _
    · refine ae (fun h => by rw [kF.1 h] at hb; cases hb) ?_
      rw [w64 (by omega) (by omega)]
      have := ih (n + 1) (by omega)
      simp only [bd, hb, if_true]
      have e2 : ((n : Int) + ((bd (fun b => isc b c) ((aa s).drop (n + 1)) + 1 : Nat) : Int)) = ((n + 1 : Nat) : Int) + (bd (fun b => isc b c) ((aa s).drop (n + 1)) : Int) := by omega
      rw [e2]
      exact this
theorem vF (s : ByteArray) (c : Int) (hs : s.size ≤ 140737488351232) : Ev (fun k => fS k s c) (bd (fun b => isc b c) (aa s) : Int) := by
  have := uk s c hs s.size 0 (by omega)
  unfold fS
  simpa using this
theorem yS (c : Int) (s : ByteArray) (hs : s.size ≤ 140737488351232) : ∀ d n : Nat, n + d = s.size → Ev (fun k => cx k c s (n : Int)) (((aa s).drop n).contains c) := by
  intro d
  induction d with
  | zero =>
    intro n hn
    refine Ev.step (fun k => rfl) (ae (by omega) ?_)
    rw [List.drop_of_length_le (by rw [af]; omega)]
    exact az _
  | succ d ih =>
    intro n hn
    rcases bu s n (by omega) with ⟨h, _⟩ | ⟨h, e, b0, b1⟩
    · omega
    refine Ev.step (fun k => rfl) (ab (by omega) (ab (by omega) ?_))
    rw [e, List.contains_cons]
    by_cases hb : bt s n = c
    · refine ab hb ?_
      rw [hb]
      simp only [beq_self_eq_true, Bool.true_or]
      exact az _
    · refine ae hb ?_
      rw [w64 (by omega) (by omega)]
      have : (c == bt s n) = false := by simpa using fun h => hb h.symm
      rw [this, Bool.false_or]
      exact ih (n + 1) (by omega)
theorem ws (c : Int) (s : ByteArray) (hs : s.size ≤ 140737488351232) : Ev (fun k => aK k c s) ((aa s).contains c) := yS c s hs s.size 0 (by omega)
theorem xE (s t : ByteArray) (hs : s.size ≤ 140737488351232) (ht : t.size ≤ 140737488351232) (i : Nat) (hi : i < s.size) (r : Int) (next : Ev (fun k => dZ k s t ((i + 1 : Nat) : Int)) r) : ∀ d n : Nat, n + d = t.size →
    Ev (fun k => er k s t (i : Int) (t.size : Int) (n : Int)) (if ((aa t).drop n).contains (bt s i) then (i : Int) else r) := by
  intro d
  induction d with
  | zero =>
    intro n hn
    refine Ev.step (fun k => rfl) (ae (by omega) ?_)
    rw [List.drop_of_length_le (by rw [af]; omega), w64 (by omega) (by omega)]
    exact next
  | succ d ih =>
    intro n hn
    rcases bu t n (by omega) with ⟨h, _⟩ | ⟨h, e, b0, b1⟩
    · omega
    refine Ev.step (fun k => rfl) (ab (by omega) (ab (by omega) (ab (by omega) (ab (by omega) (ab (by omega) ?_)))))
    rw [e, List.contains_cons]
    by_cases hb : bt s i = bt t n
    · refine ab hb ?_
      have : (bt s (i : Int) == bt t (n : Int)) = true := by simpa using hb
      rw [this]
      exact az _
    · refine ae hb ?_
      rw [w64 (by omega) (by omega)]
      have : (bt s (i : Int) == bt t (n : Int)) = false := by simpa using hb
      rw [this, Bool.false_or]
      exact ih (n + 1) (by omega)
theorem xD (s t : ByteArray) (hs : s.size ≤ 140737488351232) (ht : t.size ≤ 140737488351232) : ∀ d n : Nat, n + d = s.size →
    Ev (fun k => dZ k s t (n : Int)) (let j := iR (fun b => (aa t).contains b) ((aa s).drop n); if j = -1 then -1 else (n : Int) + j) := by
  intro d
  induction d with
  | zero =>
    intro n hn
    refine Ev.step (fun k => rfl) (ae (by omega) ?_)
    rw [List.drop_of_length_le (by rw [af]; omega)]
    exact az _
  | succ d ih =>
    intro n hn
    rcases bu s n (by omega) with ⟨h, _⟩ | ⟨h, e, b0, b1⟩
    · omega
    refine Ev.step (fun k => rfl) (ab (by omega) ?_)
    have h1 := xE s t hs ht n h _ (ih (n + 1) (by omega)) t.size 0 (by omega)
    simp only [List.drop_zero] at h1
    rw [e]
    have hg := xC (fun b => (aa t).contains b) ((aa s).drop (n + 1))
    have key : (if (aa t).contains (bt s (n : Int)) = true then (n : Int) else (let j := iR (fun b => (aa t).contains b) ((aa s).drop (n + 1)); if j = -1 then -1 else ((n + 1 : Nat) : Int) + j)) = (let j := iR (fun b => (aa t).contains b) (bt s (n : Int) :: (aa s).drop (n + 1)); if j = -1 then -1 else (n : Int) + j) := by
      generalize hq : (fun b => (aa t).contains b) = q at *
      have hq2 : (aa t).contains (bt s (n : Int)) = q (bt s (n : Int)) := by rw [← hq]
      rw [hq2]
      by_cases hc : q (bt s (n : Int)) = true
      · have hz : iR q (bt s (n : Int) :: (aa s).drop (n + 1)) = 0 := by rw [mj, if_pos hc]
        simp only [hz, if_pos hc]
        simp
      · by_cases hj : iR q ((aa s).drop (n + 1)) = -1
        · have hz : iR q (bt s (n : Int) :: (aa s).drop (n + 1)) = -1 := by rw [mj, if_neg hc, if_pos hj]
          simp only [hz, hj, if_neg hc, if_true]
        · have hz : iR q (bt s (n : Int) :: (aa s).drop (n + 1)) = iR q ((aa s).drop (n + 1)) + 1 := by
            rw [mj, if_neg hc, if_neg hj]
          simp only [hz, if_neg hc, if_neg hj]
          rw [if_neg (by omega)]
          omega
    rw [← key]
    exact h1
theorem uU (s t : ByteArray) (n : Nat) (hn : n ≤ s.size) (hs : s.size ≤ 140737488351232) (ht : t.size ≤ 140737488351232) :
    Ev (fun k => df k s (n : Int) t) (let j := iR (fun b => (aa t).contains b) ((aa s).drop n); if j = -1 then -1 else (n : Int) + j) := by
  unfold df
  have : mx (n : Int) 0 = (n : Int) := by unfold mx; rw [if_neg (by omega)]
  rw [this]
  exact xD s t hs ht (s.size - n) n (by omega)
end Go.Proofs.YtpmflpeckoeooaaGreatDoor.Y
namespace Go.Proofs.YtpmflpeckoeooaaGreatDoor.Y
open Go.RowKit Go.Proofs.YtpmflpeckoeooaaGreatDoor.X Go.Proofs.YtpmflpeckoeooaaGreatDoor.M Go.Proofs.YtpmflpeckoeooaaGreatDoorW.PrintWords Go.Proofs.YtpmflpeckoeooaaGreatDoorW.PrintLast Go.Proofs.YtpmflpeckoeooaaGreatDoorW.PrintMore
theorem ya {b : Int} (h0 : 0 ≤ b) (h1 : b ≤ 255) : Ev (fun k => gT k b) (shp b) :=
  lx (fun k => kG b k) (k := 6) (b6 (p := fun b => gT 6 b = some (shp b)) (by decide +kernel) h0 h1)
theorem wl (s : ByteArray) (hs : s.size ≤ 140737488351232) (n : Nat) (_ : n ≤ 4) : ∀ d i : Nat, ∀ lo hi : Int, i + d = n → Ev (fun k => fb k s (n : Int) lo hi (i : Int)) ((i : Int) + aN (n - i) lo hi ((aa s).drop i), (n : Int)) := by
  intro d
  induction d with
  | zero =>
    intro i lo hi hi2
    refine Ev.step (fun k => rfl) (ae (by omega) ?_)
    rw [show n - i = 0 by omega, qb]
    simp only [Int.natCast_zero, Int.add_zero]
    exact az _
  | succ d ih =>
    intro i lo hi hi2
    refine Ev.step (fun k => rfl) (ab (by omega) ?_)
    rw [show n - i = (n - (i + 1)) + 1 by omega]
    rcases Nat.lt_or_ge i s.size with h | h
    · rcases bu s i (by omega) with ⟨h2, _⟩ | ⟨_, e, b0, b1⟩
      · omega
      refine ab (by omega) (ab (by omega) ?_)
      rw [e]
      by_cases h1 : lo ≤ bt s i
      · refine ab h1 ?_
        by_cases h2 : bt s i ≤ hi
        · refine ab h2 ?_
          rw [w64 (by omega) (by omega)]
          unfold aN
          rw [if_pos ⟨h1, h2⟩]
          have := ih (i + 1) 128 191 (by omega)
          have e3 : ((i : Int) + ((aN (n - (i + 1)) 128 191 ((aa s).drop (i + 1)) + 1 : Nat) : Int), (n : Int)) = (((i + 1 : Nat) : Int) + (aN (n - (i + 1)) 128 191 ((aa s).drop (i + 1)) : Int), (n : Int)) := by
            congr 1; omega
          rw [e3]
          exact this
        · refine ae h2 ?_
          unfold aN
          rw [if_neg (fun x => h2 x.2)]
          simp only [Int.natCast_zero, Int.add_zero]
          exact az _
      · refine ae h1 ?_
        unfold aN
        rw [if_neg (fun x => h1 x.1)]
        simp only [Int.natCast_zero, Int.add_zero]
        exact az _
    · refine ae (by omega) ?_
      rw [List.drop_of_length_le (by rw [af]; exact h)]
      unfold aN
      simp only [Int.natCast_zero, Int.add_zero]
      exact az _
def qU : List Int → Int × Int
  | [] => (0, 0)
  | b :: t => if (shp b).1 = 0 then (1, 0) else ((aN ((shp b).1.toNat - 1) (shp b).2.1 (shp b).2.2 t : Int) + 1, (shp b).1)
theorem ov (b : Int) (t : List Int) : qU (b :: t) = if (shp b).1 = 0 then (1, 0) else ((aN ((shp b).1.toNat - 1) (shp b).2.1 (shp b).2.2 t : Int) + 1, (shp b).1) := rfl
theorem xH (s : ByteArray) (hs : s.size ≤ 140737488351232) : Ev (fun k => gS k s) (qU (aa s)) := by
  unfold gS
  rcases gD s with ⟨h, e⟩ | ⟨h, e, b0, b1⟩
  · rw [e]
    exact ab (by omega) (az _)
  · rw [e, ov]
    refine ae (by omega) (ab (by omega) (ah (ya b0 b1) ?_))
    by_cases hz : (shp (bt s 0)).1 = 0
    · rw [if_pos hz]
      exact ab hz (az _)
    · rw [if_neg hz]
      refine ae hz ?_
      have hr := jy (bt s 0)
      have := wl s hs (shp (bt s 0)).1.toNat (by omega) ((shp (bt s 0)).1.toNat - 1) 1 (shp (bt s 0)).2.1 (shp (bt s 0)).2.2 (by omega)
      rw [Int.toNat_of_nonneg hr.1] at this
      have e3 : ((aN ((shp (bt s 0)).1.toNat - 1) (shp (bt s 0)).2.1 (shp (bt s 0)).2.2 ((aa s).drop 1) : Int) + 1, (shp (bt s 0)).1) = ((((1 : Nat) : Int) + (aN ((shp (bt s 0)).1.toNat - 1) (shp (bt s 0)).2.1 (shp (bt s 0)).2.2 ((aa s).drop 1) : Int)), (shp (bt s 0)).1) := by
        congr 1; omega
      rw [e3]
      exact this
def bnd : Nat → Int
  | 0 => 33554432
  | 1 => 524288
  | 2 => 8192
  | _ => 128
theorem oG {d : Nat} (hd : d < 3) {r c : Int} (h0 : 0 ≤ r) (h : r < bnd (d + 1)) (c0 : 128 ≤ c) (c1 : c ≤ 191) : 0 ≤ r * 64 + (c - 128) ∧ r * 64 + (c - 128) < bnd d ∧ r * 64 < 2147483648 := by
  rcases d with _ | _ | _ | d
  · simp only [bnd] at *; omega
  · simp only [bnd] at *; omega
  · simp only [bnd] at *; omega
  · omega
theorem pR {s : ByteArray} {i n : Nat} (h : i < s.size) (hn : i < n) : ((aa s).take n).drop i = bt s (i : Int) :: ((aa s).take n).drop (i + 1) := by
  rcases bu s i (by omega) with ⟨h2, _⟩ | ⟨_, e, b0, b1⟩
  · omega
  · rw [List.drop_take, List.drop_take, e, show n - i = (n - (i + 1)) + 1 by omega, List.take_succ_cons]
theorem uT (s : ByteArray) (hs : s.size ≤ 140737488351232) (n : Nat) (hn : n ≤ s.size) : ∀ d i : Nat, ∀ r : Int, i + d = n → d ≤ 3 → 0 ≤ r → r < bnd d → (∀ c ∈ ((aa s).take n).drop i, 128 ≤ c ∧ c ≤ 191) →
    Ev (fun k => aX k s r (n : Int) (i : Int)) (ga r (((aa s).take n).drop i), (n : Int), true) := by
  intro d
  induction d with
  | zero =>
    intro i r hi _ _ _ _
    refine Ev.step (fun k => rfl) (ae (by omega) ?_)
    rw [List.drop_of_length_le (by rw [List.length_take, af]; omega)]
    exact az _
  | succ d ih =>
    intro i r hi hd r0 r1 hc
    have e := pR (s := s) (i := i) (n := n) (by omega) (by omega)
    rw [e] at hc ⊢
    obtain ⟨c0, c1⟩ := hc _ (List.mem_cons_self ..)
    have hb := oG (by omega) r0 r1 c0 c1
    refine Ev.step (fun k => rfl) (ab (by omega) (ab (by omega) (ab (by omega) ?_)))
    rw [w64 (by omega) (by omega), u8_and63 _ (by omega) (by omega)]
    have e1 : wrap32 (bt s (i : Int) % 64) = bt s (i : Int) % 64 := by unfold wrap32; omega
    have e2 : wrap32 (r * 64) = r * 64 := by unfold wrap32; omega
    rw [e1, e2, i32_or6 _ _ (by omega) (by omega) (by omega) (by omega) (by omega)]
    have e3 : r * 64 + bt s (i : Int) % 64 = r * 64 + (bt s (i : Int) - 128) := by omega
    rw [e3]
    exact ih (i + 1) _ (by omega) (by omega) hb.1 hb.2.1 (fun c h => hc c (List.mem_cons_of_mem _ h))
theorem wa {b : Int} (h0 : 0 ≤ b) (h1 : b ≤ 255) : (b < 128 → Go.bits .and .u8 b 127 = b) ∧ Go.bits .and .u8 b 31 = b % 32 ∧ Go.bits .and .u8 b 15 = b % 16 ∧ Go.bits .and .u8 b 7 = b % 8 :=
  ⟨b6 (p := fun b => b < 128 → Go.bits .and .u8 b 127 = b) (by decide +kernel) h0 h1, u8_and31 _ (by omega) (by omega), u8_and15 _ (by omega) (by omega), u8_and7 _ (by omega) (by omega)⟩
theorem vo {b : Int} (h0 : 0 ≤ b) (h1 : b ≤ 255) : ((shp b).1 = 1 → b < 128 ∧ cD (shp b).1 b = b) ∧ ((shp b).1 = 2 → b % 32 = cD (shp b).1 b) ∧ ((shp b).1 = 3 → b % 16 = cD (shp b).1 b) ∧ ((shp b).1 = 4 → b % 8 = cD (shp b).1 b) :=
  b6 (p := fun b => ((shp b).1 = 1 → b < 128 ∧ cD (shp b).1 b = b) ∧ ((shp b).1 = 2 → b % 32 = cD (shp b).1 b) ∧ ((shp b).1 = 3 → b % 16 = cD (shp b).1 b) ∧ ((shp b).1 = 4 → b % 8 = cD (shp b).1 b)) (by decide +kernel) h0 h1
theorem qQ (s : ByteArray) (hs : s.size ≤ 140737488351232) : Ev (fun k => fG k s) (dec (aa s)) := by
  unfold fG
  refine ah (xH s hs) ?_
  rcases gD s with ⟨h, e⟩ | ⟨h, e, b0, b1⟩
  · rw [e]
    refine ab (by simp [qU]) ?_
    refine Ev.step (fun k => by rw [dx]) ?_
    exact ab rfl (az _)
  · have hr := jy (bt s 0)
    rw [e, ov, dh]
    by_cases hz : (shp (bt s 0)).1 = 0
    · simp only [if_pos hz]
      refine ab (by simp) ?_
      refine Ev.step (fun k => by rw [dx]) ?_
      exact ab rfl (az _)
    · simp only [if_neg hz]
      have hcl := jY ((shp (bt s 0)).1.toNat - 1) (shp (bt s 0)).2.1 (shp (bt s 0)).2.2 ((aa s).drop 1)
      have hcm : 2 ≤ (shp (bt s 0)).1 → ∀ c ∈ ((aa s).drop 1).take (aN ((shp (bt s 0)).1.toNat - 1) (shp (bt s 0)).2.1 (shp (bt s 0)).2.2 ((aa s).drop 1)), 128 ≤ c ∧ c ≤ 191 :=
        fun h2 => kR _ _ _ (gK h2).1 (gK h2).2 _
      rw [List.length_drop, af] at hcl
      revert hcl hcm
      generalize aN ((shp (bt s 0)).1.toNat - 1) (shp (bt s 0)).2.1 (shp (bt s 0)).2.2 ((aa s).drop 1) = m
      intro hcl hcm
      refine Ev.step (fun k => by rw [dx]) ?_
      by_cases hlt : (m : Int) + 1 < (shp (bt s 0)).1
      · rw [if_pos hlt]
        exact ab (by simpa using hlt) (az _)
      · rw [if_neg hlt]
        refine ae (by simpa using hlt) (ab (by omega) (ab (by omega) ?_))
        have hm : m = (shp (bt s 0)).1.toNat - 1 := by omega
        have hl := oR b0 b1 (by omega)
        have hmk := vo b0 b1
        have ham := wa b0 b1
        have key : ∀ n : Nat, (n : Int) = (shp (bt s 0)).1 → 1 ≤ n → ∀ r : Int, r = cD (shp (bt s 0)).1 (bt s 0) → Ev (fun k => aX k s r (shp (bt s 0)).1 1) (ga (cD (shp (bt s 0)).1 (bt s 0)) (((aa s).drop 1).take ((shp (bt s 0)).1.toNat - 1)), (shp (bt s 0)).1, true) := by
          intro n hn h1n r hrl
          have hbn : r < bnd (n - 1) := by
            rw [hrl]
            rcases n with _ | _ | _ | _ | _ | n
            · omega
            · exact Int.lt_of_lt_of_le hl.2 (by decide)
            · exact Int.lt_of_lt_of_le hl.2 (by decide)
            · exact Int.lt_of_lt_of_le hl.2 (by decide)
            · exact Int.lt_of_lt_of_le hl.2 (by decide)
            · omega
          have := uT s hs n (by omega) (n - 1) 1 r (by omega) (by omega) (by omega) hbn (by
            intro c hc
            rw [List.drop_take] at hc
            by_cases h2 : 2 ≤ (shp (bt s 0)).1
            · exact hcm h2 c (by rw [hm, ← hn, Int.toNat_natCast]; exact hc)
            · rw [show n - 1 = 0 by omega] at hc
              simp at hc)
          rw [hn, List.drop_take] at this
          rw [← hrl, show (shp (bt s 0)).1.toNat - 1 = n - 1 by omega]
          exact this
        refine ae hz ?_
        by_cases h1 : (shp (bt s 0)).1 = 1
        · refine ab h1 ?_
          refine key 1 (by omega) (by omega) _ ?_
          rw [ham.1 (hmk.1 h1).1, (hmk.1 h1).2]
          have := (hmk.1 h1).1
          unfold wrap32; omega
        refine ae h1 ?_
        by_cases h2 : (shp (bt s 0)).1 = 2
        · refine ab h2 ?_
          refine key 2 (by omega) (by omega) _ ?_
          rw [ham.2.1, hmk.2.1 h2]
          unfold wrap32; omega
        refine ae h2 ?_
        by_cases h3 : (shp (bt s 0)).1 = 3
        · refine ab h3 ?_
          refine key 3 (by omega) (by omega) _ ?_
          rw [ham.2.2.1, hmk.2.2.1 h3]
          unfold wrap32; omega
        have h4 : (shp (bt s 0)).1 = 4 := by omega
        refine ae h3 (ab h4 ?_)
        refine key 4 (by omega) (by omega) _ ?_
        rw [ham.2.2.2, hmk.2.2.2 h4]
        unfold wrap32; omega
def qE (f0 f1 s0 s1 : Int) (n : Nat) : List Int → Nat
  | [] => 0
  | b :: t => if f0 ≤ b ∧ b ≤ f1 then aN (n - 1) s0 s1 t + 1 else 0
theorem nk (f0 f1 s0 s1 : Int) (n : Nat) (b : Int) (t : List Int) : qE f0 f1 s0 s1 n (b :: t) = if f0 ≤ b ∧ b ≤ f1 then aN (n - 1) s0 s1 t + 1 else 0 := rfl
theorem xF (s : ByteArray) (hs : s.size ≤ 140737488351232) (f0 f1 s0 s1 : Int) (n : Nat) (hn : n ≤ 4) : ∀ d i : Nat, ∀ lo hi : Int, i + d = n → 1 ≤ i → (i = 1 → lo = s0 ∧ hi = s1) → (i ≠ 1 → lo = 128 ∧ hi = 191) →
    Ev (fun k => bL k s (i : Int) f0 f1 s0 s1 (n : Int)) ((i : Int) + aN (n - i) lo hi ((aa s).drop i)) := by
  intro d
  induction d with
  | zero =>
    intro i lo hi hi2 h1i hlo hhi
    rw [show n - i = 0 by omega, qb]
    simp only [Int.natCast_zero, Int.add_zero]
    refine Ev.step (fun k => by rw [bL]) ?_
    have hd : decide ((i : Int) < (n : Int)) = false := by simp; omega
    rw [hd]
    have fin : Ev (fun k => bK k s (i : Int) false f0 f1 s0 s1 (n : Int)) (i : Int) := by
      refine Ev.step (fun k => by rw [bK]) ?_
      exact ae (by simp) (az _)
    by_cases h : (i : Int) < (s.size : Int)
    · exact ab h fin
    · exact ae h fin
  | succ d ih =>
    intro i lo hi hi2 h1i hlo hhi
    refine Ev.step (fun k => by rw [bL]) ?_
    rw [show n - i = (n - (i + 1)) + 1 by omega]
    rcases Nat.lt_or_ge i s.size with h | h
    · rcases bu s i (by omega) with ⟨h2, _⟩ | ⟨_, e, b0, b1⟩
      · omega
      have hd : decide ((i : Int) < (n : Int)) = true := by simp; omega
      rw [hd, e]
      refine ab (by omega) ?_
      refine Ev.step (fun k => by rw [bK]) ?_
      refine ab rfl (ae (by omega) ?_)
      refine Ev.step (fun k => by rw [dN]) ?_
      have hw : wrap64 (bt s (i : Int)) = bt s (i : Int) := w64 (by omega) (by omega)
      have hw2 : wrap64 ((i : Int) + 1) = (i : Int) + 1 := w64 (by omega) (by omega)
      rw [hw, hw2]
      have both : ∀ lo' hi' : Int, lo' = lo → hi' = hi → Ev (fun k => if 0 ≤ (i : Int) then if (i : Int) < (s.size : Int) then if bt s (i : Int) < lo' then some (i : Int) else if bt s (i : Int) > hi' then some (i : Int) else bL k s ((i : Int) + 1) f0 f1 s0 s1 (n : Int) else none else none)
          ((i : Int) + (aN (n - (i + 1) + 1) lo hi (bt s (i : Int) :: (aa s).drop (i + 1)) : Int)) := by
        intro lo' hi' e1 e2
        subst e1; subst e2
        refine ab (by omega) (ab (by omega) ?_)
        unfold aN
        by_cases h1 : bt s (i : Int) < lo'
        · refine ab h1 ?_
          rw [if_neg (by omega)]
          simp only [Int.natCast_zero, Int.add_zero]
          exact az _
        · refine ae h1 ?_
          by_cases h2 : bt s (i : Int) > hi'
          · refine ab h2 ?_
            rw [if_neg (by omega)]
            simp only [Int.natCast_zero, Int.add_zero]
            exact az _
          · refine ae h2 ?_
            rw [if_pos (by omega)]
            have := ih (i + 1) 128 191 (by omega) (by omega) (by omega) (by omega)
            have e3 : ((i : Int) + ((aN (n - (i + 1)) 128 191 ((aa s).drop (i + 1)) + 1 : Nat) : Int)) = (((i + 1 : Nat) : Int) + (aN (n - (i + 1)) 128 191 ((aa s).drop (i + 1)) : Int)) := by omega
            rw [e3]
            exact this
      by_cases hi1 : i = 1
      · refine ab (by omega) ?_
        exact both s0 s1 (hlo hi1).1.symm (hlo hi1).2.symm
      · refine ae (by omega) ?_
        exact both 128 191 (hhi hi1).1.symm (hhi hi1).2.symm
    · refine ae (by omega) ?_
      rw [List.drop_of_length_le (by rw [af]; exact h)]
      refine Ev.step (fun k => by rw [bK]) ?_
      unfold aN
      simp only [Int.natCast_zero, Int.add_zero]
      exact ae (by simp) (az _)
theorem uV (s : ByteArray) (hs : s.size ≤ 140737488351232) (f0 f1 s0 s1 : Int) (n : Nat) (h1 : 1 ≤ n) (hn : n ≤ 4) : Ev (fun k => fT k s f0 f1 s0 s1 (n : Int)) (qE f0 f1 s0 s1 n (aa s) : Int) := by
  unfold fT
  refine Ev.step (fun k => by rw [bL]) ?_
  rcases gD s with ⟨h, e⟩ | ⟨h, e, b0, b1⟩
  · rw [e]
    refine ae (by omega) ?_
    refine Ev.step (fun k => by rw [bK]) ?_
    exact ae (by simp) (az _)
  · rw [e, nk]
    have hd : decide ((0 : Int) < (n : Int)) = true := by simp; omega
    rw [hd]
    refine ab (by omega) ?_
    refine Ev.step (fun k => by rw [bK]) ?_
    refine ab rfl (ab rfl ?_)
    refine Ev.step (fun k => by rw [dN]) ?_
    have hw : wrap64 (bt s 0) = bt s 0 := w64 (by omega) (by omega)
    have hw2 : wrap64 ((0 : Int) + 1) = ((1 : Nat) : Int) := w64 (by omega) (by omega)
    rw [hw, hw2]
    refine ae (by omega) (ab (by omega) (ab (by omega) ?_))
    by_cases h2 : bt s 0 < f0
    · rw [if_neg (by omega)]
      exact ab h2 (az _)
    · refine ae h2 ?_
      by_cases h3 : bt s 0 > f1
      · rw [if_neg (by omega)]
        exact ab h3 (az _)
      · rw [if_pos (by omega)]
        refine ae h3 ?_
        have := xF s hs f0 f1 s0 s1 n hn (n - 1) 1 s0 s1 (by omega) (by omega) (by simp) (by simp)
        have e3 : ((aN (n - 1) s0 s1 ((aa s).drop 1) + 1 : Nat) : Int) = ((1 : Nat) : Int) + (aN (n - 1) s0 s1 ((aa s).drop 1) : Int) := by omega
        rw [e3]
        exact this
theorem vI (s : ByteArray) (hs : s.size ≤ 4) : ∀ d i : Nat, ∀ r : Int, i + d = s.size → d ≤ 3 → 0 ≤ r → r < bnd d → (∀ c ∈ (aa s).drop i, 128 ≤ c ∧ c ≤ 191) →
    Ev (fun k => cm k s r (i : Int)) (ga r ((aa s).drop i)) := by
  intro d
  induction d with
  | zero =>
    intro i r hi _ _ _ _
    refine Ev.step (fun k => by rw [cm]) ?_
    refine ae (by omega) ?_
    rw [List.drop_of_length_le (by rw [af]; omega)]
    exact az _
  | succ d ih =>
    intro i r hi hd r0 r1 hc
    rcases bu s i (by omega) with ⟨h2, _⟩ | ⟨_, e, b0, b1⟩
    · omega
    rw [e] at hc ⊢
    obtain ⟨c0, c1⟩ := hc _ (List.mem_cons_self ..)
    have hb := oG (by omega) r0 r1 c0 c1
    refine Ev.step (fun k => by rw [cm]) ?_
    refine ab (by omega) (ab (by omega) ?_)
    have e1 : wrap64 (wrap64 (wrap64 (r * 64) + wrap64 (bt s (i : Int))) - 128) = r * 64 + (bt s (i : Int) - 128) := by
      rw [w64 (x := r * 64) (by omega) (by omega), w64 (x := bt s (i : Int)) (by omega) (by omega), w64 (x := r * 64 + bt s (i : Int)) (by omega) (by omega), w64 (by omega) (by omega)]
      omega
    rw [e1, w64 (by omega) (by omega)]
    exact ih (i + 1) _ (by omega) (by omega) hb.1 hb.2.1 (fun c h => hc c (List.mem_cons_of_mem _ h))
theorem wK (s : ByteArray) (n : Nat) (hn : s.size = n) (h1 : 1 ≤ n) (h4 : n ≤ 4) (l0 : 0 ≤ cD (n : Int) (bt s 0)) (l1 : cD (n : Int) (bt s 0) < 128) (hc : ∀ c ∈ (aa s).drop 1, 128 ≤ c ∧ c ≤ 191) :
    Ev (fun k => ey k s) (ga (cD (n : Int) (bt s 0)) ((aa s).drop 1)) := by
  have hr := jn s 0
  have loop : 2 ≤ n → ∀ r, r = cD (n : Int) (bt s 0) → Ev (fun k => cm k s r 1) (ga (cD (n : Int) (bt s 0)) ((aa s).drop 1)) := by
    intro h2 r e
    subst e
    have hbn : cD (n : Int) (bt s 0) < bnd (n - 1) := by
      rcases n with _ | _ | _ | _ | _ | n
      · omega
      · omega
      · exact Int.lt_of_lt_of_le l1 (by decide)
      · exact Int.lt_of_lt_of_le l1 (by decide)
      · exact Int.lt_of_lt_of_le l1 (by decide)
      · omega
    exact vI s (by omega) (n - 1) 1 _ (by omega) (by omega) l0 hbn hc
  have tail : 2 ≤ n → ∀ r, r = cD (n : Int) (bt s 0) → Ev (fun k => dD k s r) (ga (cD (n : Int) (bt s 0)) ((aa s).drop 1)) := by
    intro h2 r e
    refine Ev.step (fun k => by rw [dD]) ?_
    exact loop h2 r e
  unfold ey
  by_cases e1 : n = 1
  · refine ab (by omega) (ab (by omega) ?_)
    rw [List.drop_of_length_le (by rw [af]; omega), w64 (by omega) (by omega), e1]
    have : cD ((1 : Nat) : Int) (bt s 0) = bt s 0 := by unfold cD; simp
    rw [this]
    exact az _
  refine ae (by omega) (ab (by omega) ?_)
  have w0 : wrap64 (bt s 0) = bt s 0 := w64 (by omega) (by omega)
  rw [w0]
  by_cases e3 : n = 3
  · refine ab (by omega) ?_
    refine Ev.step (fun k => by rw [dC]) ?_
    refine ae (by omega) ?_
    refine tail (by omega) _ ?_
    rw [w64 (by omega) (by omega)]
    subst e3
    unfold cD
    simp
  · refine ae (by omega) ?_
    refine Ev.step (fun k => by rw [dC]) ?_
    by_cases e4 : n = 4
    · refine ab (by omega) (ab (by omega) ?_)
      rw [w0]
      refine tail (by omega) _ ?_
      rw [w64 (by omega) (by omega)]
      subst e4
      unfold cD
      simp
    · refine ae (by omega) ?_
      refine tail (by omega) _ ?_
      rw [w64 (by omega) (by omega)]
      have e2 : n = 2 := by omega
      subst e2
      unfold cD
      simp
theorem up (s : ByteArray) (n : Nat) (hn : n ≤ s.size) (h1 : 1 ≤ n) (h4 : n ≤ 4) (l0 : 0 ≤ cD (n : Int) (bt s 0)) (l1 : cD (n : Int) (bt s 0) < 128) (hc : 2 ≤ n → ∀ c ∈ ((aa s).drop 1).take (n - 1), 128 ≤ c ∧ c ≤ 191) :
    Ev (fun k => ey k (s.extract 0 n)) (ga (cD (n : Int) (bt s 0)) (((aa s).drop 1).take (n - 1))) := by
  have hb : aa (s.extract 0 n) = bt s 0 :: ((aa s).drop 1).take (n - 1) := by
    rcases gD s with ⟨h, _⟩ | ⟨_, e, _⟩
    · omega
    · rw [ap, List.drop_zero]
      conv => lhs; rw [e, show n = (n - 1) + 1 by omega, List.take_succ_cons]
  have hsz : (s.extract 0 n).size = n := by
    rw [← af, hb, List.length_cons, List.length_take, List.length_drop, af]; omega
  have hb0 : bt (s.extract 0 n) 0 = bt s 0 := by
    rcases gD (s.extract 0 n) with ⟨h, _⟩ | ⟨_, e2, _⟩
    · omega
    · rw [hb] at e2
      injection e2 with e2 _
      exact e2.symm
  have := wK (s.extract 0 n) n hsz h1 h4 (by rw [hb0]; exact l0) (by rw [hb0]; exact l1) (by
    intro c hcc
    rw [hb, List.drop_succ_cons, List.drop_zero] at hcc
    by_cases h2 : 2 ≤ n
    · exact hc h2 c hcc
    · rw [show n - 1 = 0 by omega] at hcc
      simp at hcc)
  rw [hb0, hb, List.drop_succ_cons, List.drop_zero] at this
  exact this
def fx (b : Int) : Nat :=
  if b < 128 then 0 else if b < 194 then 9 else if b ≤ 223 then 1 else if b = 224 then 2 else if b ≤ 236 then 3 else if b = 237 then 4 else if b ≤ 239 then 5
  else if b = 240 then 6 else if b ≤ 243 then 7 else if b = 244 then 8 else 9
theorem vK {b : Int} (h0 : 0 ≤ b) (h1 : b ≤ 255) : ∀ j : Nat, j < 9 → ((ag j 0 ≤ b ∧ b ≤ ag j 1) ↔ fx b = j) := by
  intro j hj
  have := b6 (p := fun b => ∀ j : Fin 9, (ag j.val 0 ≤ b ∧ b ≤ ag j.val 1) ↔ fx b = j.val) (by decide +kernel) h0 h1
  exact this ⟨j, hj⟩
theorem xZ {b : Int} (h0 : 0 ≤ b) (h1 : b ≤ 255) : (fx b < 9 → shp b = (ag (fx b) 4, ag (fx b) 2, ag (fx b) 3)) ∧ (9 ≤ fx b → shp b = (0, 0, 0)) :=
  b6 (p := fun b => (fx b < 9 → shp b = (ag (fx b) 4, ag (fx b) 2, ag (fx b) 3)) ∧ (9 ≤ fx b → shp b = (0, 0, 0))) (by decide +kernel) h0 h1
theorem xm (j : Nat) (hj : j < 9) : ∃ n : Nat, ag j 4 = (n : Int) ∧ 1 ≤ n ∧ n ≤ 4 := by
  have : ∀ j : Fin 9, 1 ≤ ag j.val 4 ∧ ag j.val 4 ≤ 4 := by decide +kernel
  obtain ⟨h1, h2⟩ := this ⟨j, hj⟩
  simp only at h1 h2
  exact ⟨(ag j 4).toNat, by omega, by omega, by omega⟩
theorem xl (i : Nat) (hi : i < 9) : gl (i : Int) = some (ag i 0, ag i 1, ag i 2, ag i 3, ag i 4) := by
  unfold gl
  rw [if_pos (by omega), Int.toNat_natCast]
theorem wN (s : ByteArray) (hs : s.size ≤ 140737488351232) (hp : 0 < s.size) (best : Int) (hb : 1 ≤ best) (i : Nat) (hi : i < 9) (hne : fx (bt s 0) ≠ i) (r : Int × Int × Bool)
    (h : Ev (fun k => ba k s best ((i + 1 : Nat) : Int)) r) : Ev (fun k => ba k s best (i : Int)) r := by
  obtain ⟨n, en, n1, n4⟩ := xm i hi
  have hr := jn s 0
  rcases gD s with ⟨h0, _⟩ | ⟨_, e, b0, b1⟩
  · omega
  refine Ev.step (fun k => by rw [ba]) ?_
  refine ab (by omega) (bw (xl i hi) ?_)
  simp only
  rw [en]
  refine ah (uV s hs _ _ _ _ n n1 n4) ?_
  have hz : qE (ag i 0) (ag i 1) (ag i 2) (ag i 3) n (aa s) = 0 := by
    rw [e, nk, if_neg (fun x => hne ((vK b0 b1 i hi).1 x))]
  rw [hz]
  refine ae (by omega) ?_
  have hm : mx best ((0 : Nat) : Int) = best := by unfold mx; rw [if_neg (by omega)]
  rw [hm, w64 (by omega) (by omega)]
  exact h
theorem nV (s : ByteArray) (hs : s.size ≤ 140737488351232) (hp : 0 < s.size) (best : Int) (hb : 1 ≤ best) (r : Int × Int × Bool) (j : Nat) (hj : j ≤ 9) (h : Ev (fun k => ba k s best (j : Int)) r) :
    ∀ d i : Nat, i + d = j → (∀ m, i ≤ m → m < j → fx (bt s 0) ≠ m) → Ev (fun k => ba k s best (i : Int)) r := by
  intro d
  induction d with
  | zero => intro i hi _; rw [show i = j by omega]; exact h
  | succ d ih =>
    intro i hi hm
    exact wN s hs hp best hb i (by omega) (hm i (by omega) (by omega)) r (ih (i + 1) (by omega) (fun m h1 h2 => hm m (by omega) h2))
theorem tp (s : ByteArray) (best : Int) : Ev (fun k => ba k s best ((9 : Nat) : Int)) (0, best, false) := by
  refine Ev.step (fun k => by rw [ba]) ?_
  exact ae (by decide) (az _)
set_option maxHeartbeats 1000000 in
theorem oB (s : ByteArray) (hs : s.size ≤ 140737488351232) : Ev (fun k => ej k s) (dec (aa s)) := by
  unfold ej
  have hnil : s.toList = ([] : List UInt8) ↔ aa s = [] := by
    rw [i8]
    unfold aa
    exact List.map_eq_nil_iff.symm
  rcases gD s with ⟨h0, e⟩ | ⟨hp, e, b0, b1⟩
  · rw [e]
    exact ab (hnil.2 e) (az _)
  · refine ae (fun h => by rw [hnil.1 h] at e; cases e) ?_
    obtain ⟨hsh1, hsh2⟩ := xZ b0 b1
    rcases Nat.lt_or_ge (fx (bt s 0)) 9 with hlt | hge
    · obtain ⟨n, en, n1, n4⟩ := xm _ hlt
      have hshp := hsh1 hlt
      have skipTo : ∀ r, Ev (fun k => ba k s 1 ((fx (bt s 0) : Nat) : Int)) r → Ev (fun k => ba k s 1 0) r := by
        intro r h
        exact nV s hs hp 1 (by omega) r (fx (bt s 0)) (by omega) h (fx (bt s 0)) 0 (by omega) (fun m _ h2 => by omega)
      refine skipTo _ ?_
      refine Ev.step (fun k => by rw [ba]) ?_
      refine ab (by omega) (bw (xl _ hlt) ?_)
      simp only
      rw [en]
      refine ah (uV s hs _ _ _ _ n n1 n4) ?_
      have hfit : qE (ag (fx (bt s 0)) 0) (ag (fx (bt s 0)) 1) (ag (fx (bt s 0)) 2) (ag (fx (bt s 0)) 3) n (aa s)
          = aN (n - 1) (shp (bt s 0)).2.1 (shp (bt s 0)).2.2 ((aa s).drop 1) + 1 := by
        have hin := (vK b0 b1 _ hlt).2 rfl
        rw [hshp]
        conv => lhs; rw [e]
        rw [nk, if_pos hin]
      rw [hfit]
      have h1 : (shp (bt s 0)).1 = (n : Int) := by rw [hshp]; exact en
      have hdec := dh (bt s 0) ((aa s).drop 1)
      rw [← e, h1, if_neg (by omega), Int.toNat_natCast] at hdec
      rw [hdec]
      have hcl := jY (n - 1) (shp (bt s 0)).2.1 (shp (bt s 0)).2.2 ((aa s).drop 1)
      have hcm : 2 ≤ (shp (bt s 0)).1 → ∀ c ∈ ((aa s).drop 1).take (aN (n - 1) (shp (bt s 0)).2.1 (shp (bt s 0)).2.2 ((aa s).drop 1)), 128 ≤ c ∧ c ≤ 191 :=
        fun h2 => kR _ _ _ (gK h2).1 (gK h2).2 _
      rw [List.length_drop, af] at hcl
      have hlead := oR b0 b1 (by omega)
      rw [h1] at hcm hlead
      revert hcl hcm
      generalize aN (n - 1) (shp (bt s 0)).2.1 (shp (bt s 0)).2.2 ((aa s).drop 1) = m
      intro hcl hcm
      by_cases hm : (m : Int) + 1 < (n : Int)
      · rw [if_pos hm]
        refine ae (by omega) ?_
        have hmx : mx 1 ((m + 1 : Nat) : Int) = (m : Int) + 1 := by unfold mx; split <;> omega
        rw [hmx, w64 (by omega) (by omega)]
        exact nV s hs hp ((m : Int) + 1) (by omega) _ 9 (by omega) (tp s _) (9 - (fx (bt s 0) + 1)) (fx (bt s 0) + 1) (by omega) (fun k h1 h2 => by omega)
      · rw [if_neg hm]
        have hmn : m + 1 = n := by omega
        rw [hmn, Int.toNat_natCast]
        refine ab rfl (ab (by omega) (ab (by omega) ?_))
        refine ah (up s n (by omega) n1 n4 hlead.1 hlead.2 (fun h2 c hc => hcm (by omega) c (by rw [show m = n - 1 by omega]; exact hc))) ?_
        exact az _
    · have hshp := hsh2 hge
      have hdec := dh (bt s 0) ((aa s).drop 1)
      rw [← e, hshp, if_pos rfl] at hdec
      rw [hdec]
      exact nV s hs hp 1 (by omega) _ 9 (by omega) (tp s 1) 9 0 (by omega) (fun m _ h2 => by omega)
end Go.Proofs.YtpmflpeckoeooaaGreatDoor.Y
namespace Go.Proofs.YtpmflpeckoeooaaGreatDoor.M
open Go Go.RowKit Go.Proofs.YtpmflpeckoeooaaGreatDoorW.PrintWords
def fX : List Int → Int
  | p :: a :: b :: _ => if p = 37 then (if hv a < 0 ∨ hv b < 0 then -1 else 16 * hv a + hv b) else -1
  | _ => -1
theorem oI {l : List Int} (h : 0 ≤ fX l) : ∃ a b t, l = 37 :: a :: b :: t ∧ bv a = true ∧ bv b = true ∧ fX l = 16 * hv a + hv b := by
  unfold fX at h ⊢
  split at h
  · rename_i p a b t
    by_cases hp : p = 37
    · rw [if_pos hp] at h ⊢
      by_cases h2 : hv a < 0 ∨ hv b < 0
      · rw [if_pos h2] at h; omega
      · rw [if_neg h2]
        subst hp
        exact ⟨a, b, t, rfl, (ka a).1 (by omega), (ka b).1 (by omega), rfl⟩
    · rw [if_neg hp] at h; omega
  · omega
def du (p : Int) : Bool := decide (1 ≤ p ∧ p ≤ 7)
def j9 (p b : Int) : Bool :=
  if p = 1 then b == 58 else if p = 3 then b == 58 || b == 64 else if p = 4 then b == 64 else if p = 5 then b == 58 || b == 64 || b == 47
  else if p = 6 ∨ p = 7 then b == 58 || b == 64 || b == 47 || b == 63 else false
def bV (p b : Int) : Bool := du p && (kZ b || j9 p b)
def ii (r : Int) : Bool := decide (160 ≤ r ∧ r ≤ 55295 ∨ 63744 ≤ r ∧ r ≤ 64975 ∨ 65008 ≤ r ∧ r ≤ 65519 ∨ 65536 ≤ r ∧ r ≤ 983037 ∧ r % 65536 ≤ 65533 ∧ (r < 917504 ∨ 921600 ≤ r))
def rg (r : Int) : Bool := decide (57344 ≤ r ∧ r ≤ 63743 ∨ 983040 ≤ r ∧ r ≤ 1048573 ∨ 1048576 ≤ r ∧ r ≤ 1114109)
def eQ (p : Int) (iri : Bool) (r : Int) : Bool := if 0 ≤ r ∧ r < 128 then bV p r else (iri && du p && (ii r || (decide (p = 6) && rg r)))
def aE (p : Int) (iri : Bool) (l : List Int) : Nat :=
  if du p then (if 0 ≤ fX l then 3 else if (dec l).2.2 && eQ p iri (dec l).1 then (dec l).2.1.toNat else 0) else 0
theorem i7 (p : Int) (iri : Bool) (l : List Int) : aE p iri l ≤ l.length := by
  unfold aE
  split
  · split
    · rename_i h
      obtain ⟨a, b, t, rfl, _⟩ := oI h
      simp
    · split
      · have := o5 l; omega
      · omega
  · omega
theorem nA (p : Int) (iri : Bool) : aE p iri [] = 0 := by
  have := i7 p iri []
  simpa using this
def al (p : Int) (iri : Bool) (l : List Int) : Nat :=
  if h : aE p iri l = 0 then 0 else aE p iri l + al p iri (l.drop (aE p iri l))
termination_by l.length
decreasing_by
  have := i7 p iri l
  rw [List.length_drop]
  omega
theorem fL (p : Int) (iri : Bool) (l : List Int) : al p iri l = if aE p iri l = 0 then 0 else aE p iri l + al p iri (l.drop (aE p iri l)) := by
  rw [al]
  split <;> simp_all
theorem gV (p : Int) (iri : Bool) (l : List Int) : al p iri l ≤ l.length := by
  induction hn : l.length using Nat.strongRecOn generalizing l with
  | _ n ih =>
    rw [fL]
    split
    · omega
    · have h1 := i7 p iri l
      have := ih (l.drop (aE p iri l)).length (by rw [List.length_drop]; omega) (l.drop (aE p iri l)) rfl
      rw [List.length_drop] at this
      omega
theorem nz (p : Int) (iri : Bool) : al p iri [] = 0 := by
  have := gV p iri []
  simpa using this
def be (p : Int) (iri : Bool) (l : List Int) : Bool := al p iri l == l.length
theorem kO (p : Int) (iri : Bool) : be p iri [] = true := by simp [be, nz]
def kh (p b : Int) : Bool := decide (128 ≤ b) || (b == 37) || kZ b || j9 p b
theorem ow {p b : Int} (h : bv b = true) : kh p b = true := by
  unfold kh
  rw [tL h]
  simp
theorem ux {p : Int} {iri : Bool} {l : List Int} (hl : ∀ b ∈ l, 0 ≤ b ∧ b ≤ 255) : ∀ b ∈ l.take (aE p iri l), kh p b = true := by
  unfold aE
  split
  · split
    · rename_i h
      obtain ⟨a, b, t, rfl, ha, hb, _⟩ := oI h
      intro c hc
      simp only [List.take_succ_cons, List.take_zero, List.mem_cons, List.mem_nil_iff, or_false] at hc
      rcases hc with rfl | rfl | rfl
      · simp [kh]
      · exact ow ha
      · exact ow hb
    · split
      · rename_i h
        rw [Bool.and_eq_true] at h
        cases l with
        | nil => simp
        | cons b t =>
          have hb := hl b (List.mem_cons_self ..)
          by_cases h128 : b < 128
          · rw [iJ t h128] at h ⊢
            simp only [Int.toNat_one, List.take_succ_cons, List.take_zero]
            intro c hc
            rw [List.mem_singleton] at hc
            subst hc
            have h2 := h.2
            unfold eQ at h2
            rw [if_pos ⟨hb.1, h128⟩] at h2
            unfold bV at h2
            unfold kh
            simp only [Bool.and_eq_true, Bool.or_eq_true] at h2 ⊢
            rcases h2.2 with h3 | h3
            · exact .inl (.inr h3)
            · exact .inr h3
          · intro c hc
            have := (wg (t := t) (by omega) hb.2 h.1).2 c hc
            unfold kh
            simp [this]
      · simp
  · simp
theorem uu {p : Int} {iri : Bool} {l : List Int} (hl : ∀ b ∈ l, 0 ≤ b ∧ b ≤ 255) : ∀ b ∈ l.take (al p iri l), kh p b = true := by
  induction hn : l.length using Nat.strongRecOn generalizing l with
  | _ n ih =>
    rw [fL]
    split
    · simp
    · have h1 := i7 p iri l
      have h2 := ih (l.drop (aE p iri l)).length (by rw [List.length_drop]; omega) (fun b hb => hl b (List.mem_of_mem_drop hb)) rfl
      intro b hb
      rw [List.take_add] at hb
      rcases List.mem_append.1 hb with h | h
      · exact ux hl b h
      · exact h2 b h
theorem sB {p : Int} {iri : Bool} {l : List Int} (hl : ∀ b ∈ l, 0 ≤ b ∧ b ≤ 255) (h : be p iri l = true) : ∀ b ∈ l, kh p b = true := by
  have h2 : al p iri l = l.length := by simpa [be] using h
  have := uu (p := p) (iri := iri) hl
  rw [h2, List.take_length] at this
  exact this
end Go.Proofs.YtpmflpeckoeooaaGreatDoor.M
namespace Go.Proofs.YtpmflpeckoeooaaGreatDoor.Y
open Go.RowKit Go.Proofs.YtpmflpeckoeooaaGreatDoor.X Go.Proofs.YtpmflpeckoeooaaGreatDoor.M Go.Proofs.YtpmflpeckoeooaaGreatDoorW.PrintWords Go.Proofs.YtpmflpeckoeooaaGreatDoorW.PrintLast Go.Proofs.YtpmflpeckoeooaaGreatDoorW.PrintMore
theorem xd {s : ByteArray} {i : Nat} (h : i + 3 ≤ s.size) : (aa s).drop i = bt s (i : Int) :: bt s ((i : Int) + 1) :: bt s ((i : Int) + 2) :: (aa s).drop (i + 3) := by
  rcases bu s i (by omega) with ⟨h2, _⟩ | ⟨_, e, _⟩
  · omega
  rcases bu s (i + 1) (by omega) with ⟨h2, _⟩ | ⟨_, e2, _⟩
  · omega
  rcases bu s (i + 2) (by omega) with ⟨h2, _⟩ | ⟨_, e3, _⟩
  · omega
  rw [e, e2, e3]
  rfl
theorem nh {l : List Int} (h : l.length < 3) : fX l = -1 := by
  match l, h with
  | [], _ => rfl
  | [_], _ => rfl
  | [_, _], _ => rfl
  | _ :: _ :: _ :: _, h => simp only [List.length_cons] at h; omega
theorem o7 (p a b : Int) (t : List Int) : fX (p :: a :: b :: t) = if p = 37 then (if hv a < 0 ∨ hv b < 0 then -1 else 16 * hv a + hv b) else -1 := rfl
theorem wn {a b : Int} (ha : 0 ≤ a) (ha1 : a ≤ 15) (hb : 0 ≤ b) (hb1 : b ≤ 15) : (Go.bits .or .i64 (wrap64 (a * 16)) b) % 256 = 16 * a + b := by
  have : ∀ x : Fin 16, ∀ y : Fin 16, (Go.bits .or .i64 (wrap64 (((x.val : Nat) : Int) * 16)) ((y.val : Nat) : Int)) % 256 = 16 * ((x.val : Nat) : Int) + ((y.val : Nat) : Int) := by decide +kernel
  have := this ⟨a.toNat, by omega⟩ ⟨b.toNat, by omega⟩
  simp only at this
  rwa [Int.toNat_of_nonneg ha, Int.toNat_of_nonneg hb] at this
theorem xA (s : ByteArray) (i : Nat) (hi : i ≤ s.size) (hs : s.size ≤ 140737488351232) : Ev (fun k => gM k s (i : Int)) (if fX ((aa s).drop i) < 0 then (0, false) else (fX ((aa s).drop i), true)) := by
  unfold gM
  refine ae (by omega) ?_
  have bad : ∀ r, r = (0, false) → Ev (fun k => dy k s (i : Int) true) r := by
    intro r e
    subst e
    refine Ev.step (fun k => by rw [dy]) ?_
    exact ab rfl (az _)
  rw [w64 (by omega) (by omega)]
  by_cases h3 : i + 3 ≤ s.size
  · refine ae (by omega) (ab (by omega) (ab (by omega) ?_))
    rw [xd h3, o7]
    by_cases hp : bt s (i : Int) = 37
    · rw [if_pos hp, hp]
      refine Ev.step (fun k => by rw [dy]) ?_
      refine ae (by decide) ?_
      have r1 := jn s ((i : Int) + 1)
      have r2 := jn s ((i : Int) + 2)
      have v1 := jZ (bt s ((i : Int) + 1))
      have v2 := jZ (bt s ((i : Int) + 2))
      rw [w64 (x := (i : Int) + 1) (by omega) (by omega), w64 (x := (i : Int) + 2) (by omega) (by omega)]
      refine ab (by omega) (ab (by omega) (ah (pT r1.1 r1.2) (ab (by omega) (ab (by omega) (ah (pT r2.1 r2.2) ?_)))))
      generalize hv (bt s ((i : Int) + 1)) = x at v1 ⊢
      generalize hv (bt s ((i : Int) + 2)) = y at v2 ⊢
      by_cases h1 : x < 0
      · have h3 : x < 0 ∨ y < 0 := .inl h1
        simp only [if_pos h1, if_pos h3]
        exact ae (by simp) (az _)
      · simp only [if_neg h1]
        refine ab (by simp) ?_
        by_cases h2 : y < 0
        · have h3 : x < 0 ∨ y < 0 := .inr h2
          simp only [if_pos h2, if_pos h3]
          exact ae (by simp) (az _)
        · have h3 : ¬ (x < 0 ∨ y < 0) := by omega
          simp only [if_neg h2, if_neg h3]
          refine ab (by simp) ?_
          rw [if_neg (by omega), wn (by omega) (by omega) (by omega) (by omega)]
          exact az _
    · rw [if_neg hp, if_pos (by omega)]
      have : (bt s (i : Int) != 37) = true := by simpa using hp
      rw [this]
      exact bad _ rfl
  · refine ab (by omega) ?_
    rw [nh (by rw [List.length_drop, af]; omega), if_pos (by omega)]
    exact bad _ rfl
theorem xU (s : ByteArray) (i : Nat) (hi : i ≤ s.size) (hs : s.size ≤ 140737488351232) : Ev (fun k => gG k s (i : Int)) (fX ((aa s).drop i)) := by
  unfold gG
  refine ae (by omega) ?_
  have bad : ∀ r, r = -1 → Ev (fun k => cy k s (i : Int) true) r := by
    intro r e
    subst e
    refine Ev.step (fun k => by rw [cy]) ?_
    exact ab rfl (az _)
  by_cases h0 : i < s.size
  · refine ae (by omega) ?_
    rw [w64 (by omega) (by omega)]
    by_cases h3 : i + 3 ≤ s.size
    · refine ae (by omega) (ab (by omega) (ab (by omega) ?_))
      rw [xd h3, o7]
      by_cases hp : bt s (i : Int) = 37
      · rw [if_pos hp, hp]
        refine Ev.step (fun k => by rw [cy]) ?_
        refine ae (by decide) ?_
        have r1 := jn s ((i : Int) + 1)
        have r2 := jn s ((i : Int) + 2)
        have v1 := jZ (bt s ((i : Int) + 1))
        have v2 := jZ (bt s ((i : Int) + 2))
        rw [w64 (x := (i : Int) + 1) (by omega) (by omega), w64 (x := (i : Int) + 2) (by omega) (by omega)]
        refine ab (by omega) (ab (by omega) (ah (lE r1.1 r1.2) (ab (by omega) (ab (by omega) (ah (lE r2.1 r2.2) ?_)))))
        generalize hv (bt s ((i : Int) + 1)) = x at v1 ⊢
        generalize hv (bt s ((i : Int) + 2)) = y at v2 ⊢
        by_cases h1 : x < 0
        · have h3 : x < 0 ∨ y < 0 := .inl h1
          rw [if_pos h3]
          exact ab h1 (az _)
        · refine ae h1 ?_
          by_cases h2 : y < 0
          · have h3 : x < 0 ∨ y < 0 := .inr h2
            rw [if_pos h3]
            exact ab h2 (az _)
          · have h3 : ¬ (x < 0 ∨ y < 0) := by omega
            refine ae h2 ?_
            rw [if_neg h3, w64 (x := 16 * x) (by omega) (by omega), w64 (by omega) (by omega)]
            exact az _
      · rw [if_neg hp]
        have : (bt s (i : Int) != 37) = true := by simpa using hp
        rw [this]
        exact bad _ rfl
    · refine ab (by omega) ?_
      rw [nh (by rw [List.length_drop, af]; omega)]
      exact bad _ rfl
  · refine ab (by omega) ?_
    rw [nh (by rw [List.length_drop, af]; omega)]
    exact bad _ rfl
theorem ob (p : Int) : ∃ t, gE p = some (t, du p) := by
  unfold gE du
  by_cases h1 : p = 1
  · subst h1; exact ⟨_, rfl⟩
  by_cases h2 : p = 2
  · subst h2; exact ⟨_, rfl⟩
  by_cases h3 : p = 3
  · subst h3; exact ⟨_, rfl⟩
  by_cases h4 : p = 4
  · subst h4; exact ⟨_, rfl⟩
  by_cases h5 : p = 5
  · subst h5; exact ⟨_, rfl⟩
  by_cases h6 : p = 6
  · subst h6; exact ⟨_, rfl⟩
  by_cases h7 : p = 7
  · subst h7; exact ⟨_, rfl⟩
  · rw [if_neg h1, if_neg h2, if_neg h3, if_neg h4, if_neg h5, if_neg h6, if_neg h7]
    exact ⟨_, by rw [decide_eq_false (by omega)]⟩
theorem ql {q : Int → Prop} (h : ∀ n : Fin 7, q ((n.val : Nat) + 1 : Int)) {p : Int} (hp : du p = true) : q p := by
  have hp : 1 ≤ p ∧ p ≤ 7 := by simpa [du] using hp
  have := h ⟨(p - 1).toNat, by omega⟩
  simp only at this
  rwa [Int.toNat_of_nonneg (by omega), show p - 1 + 1 = p by omega] at this
theorem tm {p b : Int} (h0 : 0 ≤ b) (h1 : b ≤ 255) : Ev (fun k => dY k p b) (bV p b) := by
  by_cases hp : du p = true
  · refine lx (fun k => g5 p b k) (k := 20) ?_
    refine ql (q := fun p => dY 20 p b = some (bV p b)) ?_ hp
    intro n
    exact b6 (p := fun b => dY 20 ((n.val : Nat) + 1 : Int) b = some (bV ((n.val : Nat) + 1 : Int) b)) (by revert n; decide +kernel) h0 h1
  · unfold dY bV
    obtain ⟨t, e⟩ := ob p
    refine bw e ?_
    rw [Bool.not_eq_true] at hp
    rw [hp]
    exact ae (by simp) (az _)
theorem ui {p b : Int} (h0 : 0 ≤ b) (h1 : b ≤ 255) : Ev (fun k => bW k p b) (bV p b) := by
  by_cases hp : du p = true
  · refine lx (fun k => mc p b k) (k := 70) ?_
    refine ql (q := fun p => bW 70 p b = some (bV p b)) ?_ hp
    intro n
    exact b6 (p := fun b => bW 70 ((n.val : Nat) + 1 : Int) b = some (bV ((n.val : Nat) + 1 : Int) b)) (by revert n; decide +kernel) h0 h1
  · unfold bW bV
    have hp2 : ¬ (1 ≤ p ∧ p ≤ 7) := by simpa [du] using hp
    rw [Bool.not_eq_true] at hp
    rw [hp, Bool.false_and]
    by_cases hlt : p < 1
    · refine ab hlt ?_
      refine Ev.step (fun k => by rw [bx]) ?_
      exact ab rfl (az _)
    · refine ae hlt ?_
      rw [decide_eq_true (by omega)]
      refine Ev.step (fun k => by rw [bx]) ?_
      exact ab rfl (az _)
theorem uQ (r : Int) (h0 : 160 ≤ r) (h1 : r < 2147483648) (b : Bool) (hb : b = true ↔ (r ≤ 55295 ∨ 63744 ≤ r ∧ r ≤ 64975 ∨ 65008 ≤ r ∧ r ≤ 65519)) : Ev (fun k => bH k r b) (ii r) := by
  refine Ev.step (fun k => by rw [bH]) ?_
  have hm : Go.bits .and .i32 r 65535 = r % 65536 := bits_mask .i32 31 (by decide) wraps_i32 16 (by decide) r (by omega) (by omega)
  unfold ii
  refine Ev.ite (fun h => Ev.val ?_) (fun h => Ev.ite (fun h2 => Ev.val ?_) (fun h2 => Ev.ite (fun h3 => Ev.val ?_) (fun h3 => ?_)))
  · have := hb.1 h
    symm
    rw [decide_eq_true_iff]
    omega
  · have hnb : ¬ (r ≤ 55295 ∨ 63744 ≤ r ∧ r ≤ 64975 ∨ 65008 ≤ r ∧ r ≤ 65519) := fun x => h (hb.2 x)
    symm
    rw [decide_eq_false_iff_not]
    omega
  · have hnb : ¬ (r ≤ 55295 ∨ 63744 ≤ r ∧ r ≤ 64975 ∨ 65008 ≤ r ∧ r ≤ 65519) := fun x => h (hb.2 x)
    symm
    rw [decide_eq_false_iff_not]
    omega
  · have hnb : ¬ (r ≤ 55295 ∨ 63744 ≤ r ∧ r ≤ 64975 ∨ 65008 ≤ r ∧ r ≤ 65519) := fun x => h (hb.2 x)
    rw [hm]
    refine Ev.ite (fun h4 => Ev.ite (fun h5 => Ev.val ?_) (fun h5 => Ev.val ?_)) (fun h4 => Ev.val ?_)
    · symm
      rw [decide_eq_true_iff]
      omega
    · rw [decide_eq_decide]
      omega
    · symm
      rw [decide_eq_false_iff_not]
      omega
theorem we (r : Int) (h1 : r < 2147483648) : Ev (fun k => fp k r) (ii r) := by
  unfold fp
  refine Ev.ite (fun h => Ev.val ?_) (fun h => ?_)
  · unfold ii
    symm
    rw [decide_eq_false_iff_not]
    omega
  · have key := uQ r (by omega) h1
    refine Ev.ite (fun h2 => key _ ?_) (fun h2 => Ev.ite (fun h3 => Ev.ite (fun h4 => key _ ?_) (fun h4 => Ev.ite (fun h5 => key _ ?_) (fun h5 => key _ ?_))) (fun h3 => Ev.ite (fun h5 => key _ ?_) (fun h5 => key _ ?_))) <;> simp <;> omega
theorem vz (r : Int) : ik r = some (rg r) := by
  unfold ik rg
  (repeat' split) <;> congr 1 <;> first | (symm; rw [decide_eq_true_iff]; omega) | (symm; rw [decide_eq_false_iff_not]; omega) | (rw [decide_eq_decide]; omega)
theorem rl (r : Int) : e9 r = some (rg r) := by
  unfold e9 rg
  (repeat' split) <;> congr 1 <;> first | (symm; rw [decide_eq_true_iff]; omega) | (symm; rw [decide_eq_false_iff_not]; omega) | (rw [decide_eq_decide]; omega)
theorem rk (r : Int) (h0 : 0 ≤ r) (h1 : r < 2147483648) (hn : ¬ (160 ≤ r ∧ r ≤ 55295 ∨ 63744 ≤ r ∧ r ≤ 64975 ∨ 65008 ≤ r ∧ r ≤ 65519)) : ∀ d p : Nat, p + d = 14 → 1 ≤ p → (∀ q : Int, 1 ≤ q → q < p → ¬ (q * 65536 ≤ r ∧ r ≤ q * 65536 + 65533)) →
    Ev (fun k => bF k r (p : Int)) (ii r) := by
  intro d
  induction d with
  | zero =>
    intro p hp h1p hq
    refine Ev.step (fun k => by rw [bF]) ?_
    refine ae (by omega) ?_
    have h13 : ¬ (65536 ≤ r ∧ r ≤ 917501 ∧ r % 65536 ≤ 65533) := by
      intro h
      have := hq (r / 65536) (by omega) (by omega)
      omega
    unfold ii
    refine Ev.ite (fun h => Ev.val ?_) (fun h => Ev.val ?_)
    · rw [decide_eq_decide]
      omega
    · symm
      rw [decide_eq_false_iff_not]
      omega
  | succ d ih =>
    intro p hp h1p hq
    refine Ev.step (fun k => by rw [bF]) ?_
    rw [w64 (x := (p : Int) * 65536) (by omega) (by omega), w64 (x := (p : Int) * 65536 + 65533) (by omega) (by omega), w64 (x := (p : Int) + 1) (by omega) (by omega)]
    have next : ¬ ((p : Int) * 65536 ≤ r ∧ r ≤ (p : Int) * 65536 + 65533) → Ev (fun k => bF k r ((p : Int) + 1)) (ii r) := by
      intro h
      refine ih (p + 1) (by omega) (by omega) (fun q q1 q2 => ?_)
      by_cases e : q = p
      · subst e; exact h
      · exact hq q q1 (by omega)
    refine ab (by omega) (Ev.ite (fun h => Ev.ite (fun h2 => Ev.val ?_) (fun h2 => next (fun x => h2 x.2))) (fun h => next (fun x => h x.1)))
    unfold ii
    symm
    rw [decide_eq_true_iff]
    omega
theorem sI (r : Int) (h0 : 0 ≤ r) (h1 : r < 2147483648) : Ev (fun k => ft k r) (ii r) := by
  have key : ∀ b : Bool, (b = true ↔ (160 ≤ r ∧ r ≤ 55295 ∨ 63744 ≤ r ∧ r ≤ 64975 ∨ 65008 ≤ r ∧ r ≤ 65519)) → Ev (fun k => aW k r b) (ii r) := by
    intro b hb
    refine Ev.step (fun k => by rw [aW]) ?_
    refine Ev.ite (fun h => Ev.val ?_) (fun h => ?_)
    · have := hb.1 h
      unfold ii
      symm
      rw [decide_eq_true_iff]
      omega
    · exact rk r h0 h1 (fun x => h (hb.2 x)) 13 1 (by omega) (by omega) (fun q q1 q2 => by omega)
  unfold ft
  refine Ev.ite (fun h2 => Ev.ite (fun h3 => key _ ?_) (fun h3 => Ev.ite (fun h4 => Ev.ite (fun h5 => key _ ?_) (fun h5 => Ev.ite (fun h6 => key _ ?_) (fun h6 => key _ ?_))) (fun h4 => Ev.ite (fun h6 => key _ ?_) (fun h6 => key _ ?_))))
    (fun h2 => Ev.ite (fun h4 => Ev.ite (fun h5 => key _ ?_) (fun h5 => Ev.ite (fun h6 => key _ ?_) (fun h6 => key _ ?_))) (fun h4 => Ev.ite (fun h6 => key _ ?_) (fun h6 => key _ ?_))) <;> simp <;> omega
theorem vq {r : Int} (h0 : 0 ≤ r) (h1 : r < 128) : r % 256 = r := by omega
theorem yW (p : Int) (iri : Bool) (r : Int) (h0 : 0 ≤ r) (h1 : r < 2147483648) : Ev (fun k => gO k p iri r) (eQ p iri r) := by
  unfold gO eQ
  refine ab (by omega) ?_
  refine Ev.step (fun k => by rw [e6]) ?_
  by_cases h : r < 128
  · rw [if_pos ⟨h0, h⟩, vq h0 h]
    refine ab (by simpa using h) ?_
    exact ah (tm h0 (by omega)) (az _)
  · rw [if_neg (fun x => h x.2)]
    refine ae (by simpa using h) ?_
    obtain ⟨t, e⟩ := ob p
    refine bw e ?_
    simp only
    cases hp : du p
    · refine ae (by simp) ?_
      refine Ev.step (fun k => by rw [el]) ?_
      refine ab rfl (Ev.val ?_)
      simp
    · refine ab rfl ?_
      refine Ev.step (fun k => by rw [el]) ?_
      cases iri
      · exact ab rfl (az _)
      · refine ae (by simp) (ah (we r h1) ?_)
        cases hc : ii r
        · refine ae (by simp) (Ev.ite (fun h6 => ?_) (fun h6 => ?_))
          · refine bw (vz r) (Ev.val ?_)
            simp [h6]
          · exact Ev.val (by simp [h6])
        · exact ab rfl (Ev.val (by simp))
theorem wI (p : Int) (iri : Bool) (r : Int) (h0 : 0 ≤ r) (h1 : r < 2147483648) : Ev (fun k => gm k p iri r) (eQ p iri r) := by
  unfold gm eQ
  refine ab (by omega) ?_
  refine Ev.step (fun k => by rw [eT]) ?_
  by_cases h : r < 128
  · rw [if_pos ⟨h0, h⟩, vq h0 h]
    refine ab (by simpa using h) ?_
    exact ah (ui h0 (by omega)) (az _)
  · rw [if_neg (fun x => h x.2)]
    refine ae (by simpa using h) ?_
    have bad : ∀ v : Bool, v = false → Ev (fun k => cK k p r true) v := by
      intro v e
      subst e
      refine Ev.step (fun k => by rw [cK]) ?_
      exact ab rfl (az _)
    cases iri
    · exact ae (by simp) (bad _ (by simp))
    · refine ab rfl ?_
      by_cases hp : du p = true
      · have hp2 : 1 ≤ p ∧ p ≤ 7 := by simpa [du] using hp
        rw [hp]
        refine ae (by omega) ?_
        rw [decide_eq_false (by omega)]
        refine Ev.step (fun k => by rw [cK]) ?_
        refine ae (by simp) (ah (sI r h0 h1) ?_)
        cases hc : ii r
        · refine ae (by simp) (Ev.ite (fun h6 => ?_) (fun h6 => ?_))
          · refine bw (rl r) (Ev.val ?_)
            simp [h6]
          · exact Ev.val (by simp [h6])
        · exact ab rfl (Ev.val (by simp))
      · have hp2 : ¬ (1 ≤ p ∧ p ≤ 7) := by simpa [du] using hp
        rw [Bool.not_eq_true] at hp
        rw [hp]
        refine Ev.ite (fun h6 => bad _ (by simp)) (fun h6 => ?_)
        rw [decide_eq_true (by omega)]
        exact bad _ (by simp)
theorem sy (t : List Int) (h : ∀ c ∈ t, 128 ≤ c ∧ c ≤ 191) : ∀ r, 0 ≤ r → t.length ≤ 3 → r < bnd t.length → 0 ≤ ga r t ∧ ga r t < 33554432 := by
  induction t with
  | nil => intro r h0 _ h1; exact ⟨h0, h1⟩
  | cons c t ih =>
    intro r h0 hl h1
    obtain ⟨c0, c1⟩ := h c (List.mem_cons_self ..)
    rw [List.length_cons] at hl h1
    have hb := oG (by omega) h0 h1 c0 c1
    exact ih (fun d hd => h d (List.mem_cons_of_mem _ hd)) _ hb.1 (by omega) hb.2.1
theorem qc (l : List Int) (hl : ∀ b ∈ l, 0 ≤ b ∧ b ≤ 255) : 0 ≤ (dec l).1 ∧ (dec l).1 < 33554432 := by
  cases l with
  | nil => simp [dec]
  | cons b t =>
    obtain ⟨b0, b1⟩ := hl b (List.mem_cons_self ..)
    rw [dh]
    have hr := jy b
    by_cases hz : (shp b).1 = 0
    · rw [if_pos hz]; simp
    · rw [if_neg hz]
      have hm : 2 ≤ (shp b).1 → ∀ c ∈ t.take (aN ((shp b).1.toNat - 1) (shp b).2.1 (shp b).2.2 t), 128 ≤ c ∧ c ≤ 191 := fun h2 => kR _ _ _ (gK h2).1 (gK h2).2 _
      have hc := jY ((shp b).1.toNat - 1) (shp b).2.1 (shp b).2.2 t
      revert hm hc
      generalize aN ((shp b).1.toNat - 1) (shp b).2.1 (shp b).2.2 t = m
      intro hm hc
      by_cases h2 : (m : Int) + 1 < (shp b).1
      · rw [if_pos h2]; simp
      · rw [if_neg h2]
        have hld := oR b0 b1 (by omega)
        simp only
        refine sy _ ?_ _ hld.1 (by rw [List.length_take]; omega) ?_
        · intro c hcc
          by_cases h2 : 2 ≤ (shp b).1
          · exact hm h2 c (by rw [show m = (shp b).1.toNat - 1 by omega]; exact hcc)
          · rw [show (shp b).1.toNat - 1 = 0 by omega] at hcc
            simp at hcc
        · refine Int.lt_of_lt_of_le hld.2 ?_
          generalize (t.take ((shp b).1.toNat - 1)).length = n
          rcases n with _ | _ | _ | n <;> simp [bnd]
theorem kQ (s : ByteArray) : ∀ b ∈ aa s, 0 ≤ b ∧ b ≤ 255 := fun _ h => d6 h
theorem bh (s : ByteArray) (i : Nat) : aa (s.extract i s.size) = (aa s).drop i := by
  rw [ap, ← af, List.take_length]
theorem mT {p : Int} {iri : Bool} {l : List Int} (hp : du p = true) (h : fX l < 0) : aE p iri l = if (dec l).2.2 && eQ p iri (dec l).1 then (dec l).2.1.toNat else 0 := by
  unfold aE
  rw [if_pos hp, if_neg (by omega)]
theorem yb (p : Int) (iri : Bool) (s : ByteArray) (hs : s.size ≤ 140737488351232) (hp : du p = true) : ∀ d i : Nat, i + d = s.size → Ev (fun k => cT k p iri s (i : Int)) ((i : Int) + al p iri ((aa s).drop i)) := by
  intro d
  induction d using Nat.strongRecOn with
  | _ d ih =>
    intro i hi
    refine Ev.step (fun k => by rw [cT]) ?_
    refine Ev.ite (fun h => ?_) (fun h => ?_)
    · obtain ⟨t, e⟩ := ob p
      refine bw e ?_
      simp only
      refine ab hp (ah (xA s i (by omega) hs) ?_)
      rw [fL]
      by_cases he : fX ((aa s).drop i) < 0
      · simp only [if_pos he]
        refine ae (by simp) (ab (by omega) (ab (by omega) ?_))
        rw [Int.toNat_natCast]
        have hd := qQ (s.extract i s.size) (by rw [← af, bh, List.length_drop, af]; omega)
        rw [bh] at hd
        refine ah hd ?_
        rw [mT hp he]
        have hr := qc ((aa s).drop i) (fun b hb => kQ s b (List.mem_of_mem_drop hb))
        have hn := o5 ((aa s).drop i)
        rw [List.length_drop, af] at hn
        cases hok : (dec ((aa s).drop i)).2.2
        · refine ae (by simp) (Ev.val (by simp))
        · refine ab rfl (ah (yW p iri _ hr.1 (by omega)) ?_)
          have hn1 := kD hok
          cases hm : eQ p iri (dec ((aa s).drop i)).1
          · refine ae (by simp) (Ev.val (by simp))
          · refine ab rfl ?_
            rw [w64 (by omega) (by omega)]
            simp only [Bool.and_self, if_true]
            rw [if_neg (by omega), List.drop_drop]
            have := ih (s.size - (i + (dec ((aa s).drop i)).2.1.toNat)) (by omega) (i + (dec ((aa s).drop i)).2.1.toNat) (by omega)
            have e1 : ((i + (dec ((aa s).drop i)).2.1.toNat : Nat) : Int) = (i : Int) + (dec ((aa s).drop i)).2.1 := by omega
            rw [e1] at this
            have e2 : (i : Int) + (((dec ((aa s).drop i)).2.1.toNat + al p iri ((aa s).drop (i + (dec ((aa s).drop i)).2.1.toNat)) : Nat) : Int) = (i : Int) + (dec ((aa s).drop i)).2.1 + (al p iri ((aa s).drop (i + (dec ((aa s).drop i)).2.1.toNat)) : Int) := by omega
            rw [e2]
            exact this
      · simp only [if_neg he]
        refine ab (by simp) ?_
        have h3 : aE p iri ((aa s).drop i) = 3 := by unfold aE; rw [if_pos hp, if_pos (by omega)]
        have hl := i7 p iri ((aa s).drop i)
        rw [h3, List.length_drop, af] at hl
        rw [h3, w64 (by omega) (by omega), if_neg (by omega), List.drop_drop]
        have := ih (s.size - (i + 3)) (by omega) (i + 3) (by omega)
        have e2 : (i : Int) + ((3 + al p iri ((aa s).drop (i + 3)) : Nat) : Int) = ((i + 3 : Nat) : Int) + (al p iri ((aa s).drop (i + 3)) : Int) := by omega
        rw [e2]
        exact this
    · rw [List.drop_of_length_le (by rw [af]; omega), nz]
      exact Ev.val (by simp)
theorem vN (p : Int) (iri : Bool) (s : ByteArray) (hs : s.size ≤ 140737488351232) : Ev (fun k => fA k p iri s) (al p iri (aa s) : Int) := by
  unfold fA
  by_cases hp : du p = true
  · have := yb p iri s hs hp s.size 0 (by omega)
    simpa using this
  · have hz : aE p iri (aa s) = 0 := by unfold aE; rw [if_neg hp]
    rw [fL, if_pos hz]
    refine Ev.step (fun k => by rw [cT]) ?_
    obtain ⟨t, e⟩ := ob p
    refine Ev.ite (fun h => bw e ?_) (fun h => az _)
    exact ae hp (az _)
theorem xc (p : Int) (iri : Bool) (s : ByteArray) (hs : s.size ≤ 140737488351232) : Ev (fun k => gg k p iri s) (be p iri (aa s)) := by
  unfold gg
  refine ah (vN p iri s hs) (Ev.val ?_)
  unfold be
  rw [af, Bool.eq_iff_iff, beq_iff_eq, beq_iff_eq]
  omega
theorem vG (p : Int) (iri : Bool) (s : ByteArray) (i : Nat) (hi : i ≤ s.size) (hs : s.size ≤ 140737488351232) : Ev (fun k => eV k p iri s (i : Int)) (aE p iri ((aa s).drop i) : Int) := by
  unfold eV
  have bad : du p = false → Ev (fun k => cZ k p iri s (i : Int) true) (aE p iri ((aa s).drop i) : Int) := by
    intro hp
    refine Ev.step (fun k => by rw [cZ]) ?_
    unfold aE
    rw [if_neg (by rw [hp]; simp)]
    exact ab rfl (az _)
  refine Ev.ite (fun h => bad (by simp [du]; omega)) (fun h => ?_)
  by_cases h7 : p > 7
  · rw [decide_eq_true h7]
    exact bad (by simp [du]; omega)
  · rw [decide_eq_false h7]
    have hp : du p = true := by simp [du]; omega
    refine Ev.step (fun k => by rw [cZ]) ?_
    refine ae (by simp) (ah (xU s i hi hs) ?_)
    by_cases he : fX ((aa s).drop i) < 0
    · refine ae (by omega) (ab (by omega) (ab (by omega) ?_))
      rw [Int.toNat_natCast]
      have hd := oB (s.extract i s.size) (by rw [← af, bh, List.length_drop, af]; omega)
      rw [bh] at hd
      refine ah hd ?_
      rw [mT hp he]
      have hr := qc ((aa s).drop i) (fun b hb => kQ s b (List.mem_of_mem_drop hb))
      have hn := o5 ((aa s).drop i)
      cases hok : (dec ((aa s).drop i)).2.2
      · exact ae (by simp) (Ev.val (by simp))
      · refine ab rfl (ah (wI p iri _ hr.1 (by omega)) ?_)
        cases hm : eQ p iri (dec ((aa s).drop i)).1
        · exact ae (by simp) (Ev.val (by simp))
        · refine ab rfl (Ev.val ?_)
          simp only [Bool.and_self, if_true]
          omega
    · refine ab (by omega) (Ev.val ?_)
      unfold aE
      rw [if_pos hp, if_pos (by omega)]
      rfl
theorem rn (p : Int) (iri : Bool) (s : ByteArray) (hs : s.size ≤ 140737488351232) : ∀ d i : Nat, i + d = s.size → Ev (fun k => dO k p iri s (i : Int)) ((i : Int) + al p iri ((aa s).drop i)) := by
  intro d
  induction d using Nat.strongRecOn with
  | _ d ih =>
    intro i hi
    refine Ev.step (fun k => by rw [dO]) ?_
    rw [fL]
    refine Ev.ite (fun h => ?_) (fun h => ?_)
    · have hst := vG p iri s i (by omega) hs
      refine ah hst ?_
      refine Ev.ite (fun h1 => ?_) (fun h1 => ?_)
      · refine ah hst ?_
        have hl := i7 p iri ((aa s).drop i)
        rw [List.length_drop, af] at hl
        rw [if_neg (by omega), List.drop_drop, w64 (by omega) (by omega)]
        have := ih (s.size - (i + aE p iri ((aa s).drop i))) (by omega) (i + aE p iri ((aa s).drop i)) (by omega)
        have e2 : (i : Int) + ((aE p iri ((aa s).drop i) + al p iri ((aa s).drop (i + aE p iri ((aa s).drop i))) : Nat) : Int) = ((i + aE p iri ((aa s).drop i) : Nat) : Int) + (al p iri ((aa s).drop (i + aE p iri ((aa s).drop i))) : Int) := by omega
        rw [e2]
        exact this
      · rw [if_pos (by omega)]
        exact Ev.val (by simp)
    · rw [List.drop_of_length_le (by rw [af]; omega), if_pos (nA p iri)]
      exact Ev.val (by simp)
theorem i6 (p : Int) (iri : Bool) (s : ByteArray) (hs : s.size ≤ 140737488351232) : Ev (fun k => cp k p iri s) (al p iri (aa s) : Int) := by
  unfold cp
  have := rn p iri s hs s.size 0 (by omega)
  simpa using this
end Go.Proofs.YtpmflpeckoeooaaGreatDoor.Y
namespace Go.Proofs.YtpmflpeckoeooaaGreatDoor.M
open Go Go.RowKit Go.Proofs.YtpmflpeckoeooaaGreatDoorW.PrintWords
theorem tc (s : ByteArray) (i : Nat) (h : i < s.size) : ((s.get! i).toNat : Int) = bt s (i : Int) := by
  rw [j7, List.getD_eq_getElem?_getD]
  unfold aa
  rw [List.getElem?_map, Array.getElem?_toList]
  have h' : i < s.data.size := h
  have e : s.get! i = s.data[i]'h' := by
    show s.data[i]! = _
    rw [getElem!_pos s.data i h']
  rw [Array.getElem?_eq_getElem h', e]
  rfl
def od (n : Nat) (b0 b1 b2 b3 : Nat) : Nat × Nat :=
  if b0 < 0x80 then (b0, 1)
  else if b0 / 32 == 6 && (decide (1 < n) && b1 / 64 == 2) then (if b0 % 32 * 64 + b1 % 64 ≥ 0x80 then (b0 % 32 * 64 + b1 % 64, 2) else (65533, 1))
  else if b0 / 16 == 14 && (decide (1 < n) && b1 / 64 == 2) && (decide (2 < n) && b2 / 64 == 2) then (if b0 % 16 * 4096 + b1 % 64 * 64 + b2 % 64 ≥ 0x800 && Utf8.valid (b0 % 16 * 4096 + b1 % 64 * 64 + b2 % 64) then (b0 % 16 * 4096 + b1 % 64 * 64 + b2 % 64, 3) else (65533, 1))
  else if b0 / 8 == 30 && (decide (1 < n) && b1 / 64 == 2) && (decide (2 < n) && b2 / 64 == 2) && (decide (3 < n) && b3 / 64 == 2) then (if b0 % 8 * 262144 + b1 % 64 * 4096 + b2 % 64 * 64 + b3 % 64 ≥ 0x10000 && Utf8.valid (b0 % 8 * 262144 + b1 % 64 * 4096 + b2 % 64 * 64 + b3 % 64) then (b0 % 8 * 262144 + b1 % 64 * 4096 + b2 % 64 * 64 + b3 % 64, 4) else (65533, 1))
  else (65533, 1)
theorem qR (s : ByteArray) (pos : Nat) (h : pos < s.size) : Utf8.decode s pos = od (s.size - pos) (s.get! pos).toNat (s.get! (pos + 1)).toNat (s.get! (pos + 2)).toNat (s.get! (pos + 3)).toNat := by
  have e1 : decide (pos + 1 < s.size) = decide (1 < s.size - pos) := decide_eq_decide.2 (by omega)
  have e2 : decide (pos + 2 < s.size) = decide (2 < s.size - pos) := decide_eq_decide.2 (by omega)
  have e3 : decide (pos + 3 < s.size) = decide (3 < s.size - pos) := decide_eq_decide.2 (by omega)
  unfold Utf8.decode od
  simp only [Nat.add_zero, e1, e2, e3]
  rfl
def iW (l : List Int) : Nat × Nat := if (dec l).2.2 = true then ((dec l).1.toNat, (dec l).2.1.toNat) else (65533, 1)
theorem k8 (c : Int) : Utf8.valid c = decide (0 ≤ c ∧ c < 55296 ∨ 57344 ≤ c ∧ c ≤ 1114111) := by
  unfold Utf8.valid
  rw [Bool.eq_iff_iff]
  simp
theorem wR {b : Int} (h0 : 0 ≤ b) (h1 : b ≤ 255) : b < 128 ∨ (128 ≤ b ∧ shp b = (0, 0, 0) ∧ (b ≤ 193 ∨ 245 ≤ b)) ∨ (194 ≤ b ∧ b ≤ 223 ∧ shp b = (2, 128, 191)) ∨ (b = 224 ∧ shp b = (3, 160, 191)) ∨ (225 ≤ b ∧ b ≤ 239 ∧ b ≠ 237 ∧ shp b = (3, 128, 191)) ∨ (b = 237 ∧ shp b = (3, 128, 159)) ∨ (b = 240 ∧ shp b = (4, 144, 191)) ∨ (241 ≤ b ∧ b ≤ 243 ∧ shp b = (4, 128, 191)) ∨ (b = 244 ∧ shp b = (4, 128, 143)) :=
  b6 (p := fun b => b < 128 ∨ (128 ≤ b ∧ shp b = (0, 0, 0) ∧ (b ≤ 193 ∨ 245 ≤ b)) ∨ (194 ≤ b ∧ b ≤ 223 ∧ shp b = (2, 128, 191)) ∨ (b = 224 ∧ shp b = (3, 160, 191)) ∨ (225 ≤ b ∧ b ≤ 239 ∧ b ≠ 237 ∧ shp b = (3, 128, 191)) ∨ (b = 237 ∧ shp b = (3, 128, 159)) ∨ (b = 240 ∧ shp b = (4, 144, 191)) ∨ (241 ≤ b ∧ b ≤ 243 ∧ shp b = (4, 128, 191)) ∨ (b = 244 ∧ shp b = (4, 128, 143))) (by decide +kernel) h0 h1
theorem jw {b : Int} {t : List Int} (h : (dec (b :: t)).2.2 = false) : iW (b :: t) = (65533, 1) := by unfold iW; rw [h]; rfl
theorem wO {b : Int} {t : List Int} {lo hi : Int} (hs : shp b = (2, lo, hi)) : iW (b :: t) = match t with | [] => (65533, 1) | c :: _ => if lo ≤ c ∧ c ≤ hi then (((b - 192) * 64 + (c - 128)).toNat, 2) else (65533, 1) := by
  cases t with
  | nil => apply jw; rw [dh, hs]; simp [aN]
  | cons c u =>
    unfold iW
    rw [dh, hs]
    by_cases hc : lo ≤ c ∧ c ≤ hi
    · simp [aN, hc, ga, cD]
    · simp [aN, hc]
theorem nv {b : Int} {t : List Int} {lo hi : Int} (hs : shp b = (3, lo, hi)) : iW (b :: t) = match t with | c :: d :: _ => if (lo ≤ c ∧ c ≤ hi) ∧ 128 ≤ d ∧ d ≤ 191 then ((((b - 224) * 64 + (c - 128)) * 64 + (d - 128)).toNat, 3) else (65533, 1) | _ => (65533, 1) := by
  match t with
  | [] => apply jw; rw [dh, hs]; simp [aN]
  | [c] =>
    apply jw; rw [dh, hs]
    by_cases hc : lo ≤ c ∧ c ≤ hi <;> simp [aN, hc]
  | c :: d :: u =>
    unfold iW
    rw [dh, hs]
    by_cases hc : lo ≤ c ∧ c ≤ hi
    · by_cases hd : 128 ≤ d ∧ d ≤ 191
      · simp [aN, hc, hd, ga, cD]
      · simp [aN, hc, hd]
    · simp [aN, hc]
theorem vL {b : Int} {t : List Int} {lo hi : Int} (hs : shp b = (4, lo, hi)) : iW (b :: t) = match t with | c :: d :: e :: _ => if (lo ≤ c ∧ c ≤ hi) ∧ (128 ≤ d ∧ d ≤ 191) ∧ 128 ≤ e ∧ e ≤ 191 then (((((b - 240) * 64 + (c - 128)) * 64 + (d - 128)) * 64 + (e - 128)).toNat, 4) else (65533, 1) | _ => (65533, 1) := by
  match t with
  | [] => apply jw; rw [dh, hs]; simp [aN]
  | [c] =>
    apply jw; rw [dh, hs]
    by_cases hc : lo ≤ c ∧ c ≤ hi <;> simp [aN, hc]
  | [c, d] =>
    apply jw; rw [dh, hs]
    by_cases hc : lo ≤ c ∧ c ≤ hi
    · by_cases hd : 128 ≤ d ∧ d ≤ 191 <;> simp [aN, hc, hd]
    · simp [aN, hc]
  | c :: d :: e :: u =>
    unfold iW
    rw [dh, hs]
    by_cases hc : lo ≤ c ∧ c ≤ hi
    · by_cases hd : 128 ≤ d ∧ d ≤ 191
      · by_cases he : 128 ≤ e ∧ e ≤ 191
        · simp [aN, hc, hd, he, ga, cD]
        · simp [aN, hc, hd, he]
      · simp [aN, hc, hd]
    · simp [aN, hc]
theorem lO {c d : Prop} [Decidable c] [Decidable d] {x y z w : Nat × Nat} (h : c ↔ d) (h1 : d → x = y) (h2 : z = w) : (if c then x else z) = if d then y else w := by
  by_cases hd : d
  · rw [if_pos (h.2 hd), if_pos hd, h1 hd]
  · rw [if_neg (fun hc => hd (h.1 hc)), if_neg hd, h2]
theorem uy (b : Int) (t : List Int) (hb : 0 ≤ b ∧ b ≤ 255) (ht : ∀ x ∈ t, 0 ≤ x ∧ x ≤ 255) (b0 b1 b2 b3 : Nat) (e0 : (b0 : Int) = b) (e1 : ∀ x, t[0]? = some x → (b1 : Int) = x) (e2 : ∀ x, t[1]? = some x → (b2 : Int) = x) (e3 : ∀ x, t[2]? = some x → (b3 : Int) = x) :
    od (t.length + 1) b0 b1 b2 b3 = iW (b :: t) := by
  rcases wR hb.1 hb.2 with h | ⟨h, hs, hr⟩ | ⟨h, h', hs⟩ | ⟨rfl, hs⟩ | ⟨h, h', hn, hs⟩ | ⟨rfl, hs⟩ | ⟨rfl, hs⟩ | ⟨h, h', hs⟩ | ⟨rfl, hs⟩
  · unfold od iW
    rw [if_pos (by omega), iJ t h]
    simp
    omega
  · rw [jw (by rw [dh, hs]; rfl)]
    unfold od
    rw [if_neg (by omega)]
    have a1 : ∀ c : Bool, (if (b0 / 32 == 6 && c) = true then (if b0 % 32 * 64 + b1 % 64 ≥ 0x80 then (b0 % 32 * 64 + b1 % 64, 2) else ((65533 : Nat), 1)) else (65533, 1)) = (65533, 1) := fun c => by
      split
      · rename_i hc
        rw [Bool.and_eq_true, beq_iff_eq] at hc
        rw [if_neg (by omega)]
      · rfl
    have n14 : (b0 / 16 == 14) = false := by rw [beq_eq_false_iff_ne]; omega
    by_cases h30 : b0 / 8 = 30
    · have c30 : b0 / 32 ≠ 6 := by omega
      have n6 : (b0 / 32 == 6) = false := by rw [beq_eq_false_iff_ne]; exact c30
      simp only [n6, n14, Bool.false_and, Bool.false_eq_true, if_false]
      split
      · rename_i hc
        rw [if_neg]
        simp only [Bool.and_eq_true, k8, decide_eq_true_iff]
        intro hv
        have := hv.2
        omega
      · rfl
    · have n30 : (b0 / 8 == 30) = false := by rw [beq_eq_false_iff_ne]; exact h30
      simp only [n14, n30, Bool.false_and, Bool.false_eq_true, if_false]
      exact a1 _
  all_goals have hb0 : ¬ b0 < 0x80 := by omega
  all_goals unfold od
  all_goals rw [if_neg hb0]
  · have c6 : (b0 / 32 == 6) = true := by rw [beq_iff_eq]; omega
    have n14 : (b0 / 16 == 14) = false := by rw [beq_eq_false_iff_ne]; omega
    have n30 : (b0 / 8 == 30) = false := by rw [beq_eq_false_iff_ne]; omega
    simp only [c6, n14, n30, Bool.true_and, Bool.false_and, Bool.false_eq_true, if_false]
    rw [wO hs]
    cases t with
    | nil => simp
    | cons c u =>
      have hc := e1 c rfl
      have hcr := ht c (by simp)
      simp only [List.length_cons]
      refine lO ?_ ?_ rfl
      · rw [Bool.and_eq_true, beq_iff_eq, decide_eq_true_iff]; omega
      · intro hd
        rw [if_pos (by omega)]
        simp; omega
  all_goals have n6 : (b0 / 32 == 6) = false := by rw [beq_eq_false_iff_ne]; omega
  · have c14 : (b0 / 16 == 14) = true := by rw [beq_iff_eq]; omega
    have n30 : (b0 / 8 == 30) = false := by rw [beq_eq_false_iff_ne]; omega
    simp only [c14, n6, n30, Bool.true_and, Bool.false_and, Bool.false_eq_true, if_false]
    rw [nv hs]
    match t, ht, e1, e2 with
    | [], _, _, _ => simp
    | [c], _, _, _ => simp
    | c :: d :: u, ht, e1, e2 =>
      have hc := e1 c rfl
      have hcr := ht c (by simp)
      have hd := e2 d rfl
      have hdr := ht d (by simp)
      simp only [List.length_cons, k8]
      simp only [show decide (1 < u.length + 1 + 1 + 1) = true from decide_eq_true (by omega), show decide (2 < u.length + 1 + 1 + 1) = true from decide_eq_true (by omega)]
      simp only [Bool.true_and]
      by_cases hk : 128 ≤ c ∧ c ≤ 191 ∧ 128 ≤ d ∧ d ≤ 191
      · rw [if_pos (by rw [Bool.and_eq_true, beq_iff_eq, beq_iff_eq]; omega)]
        refine lO ?_ ?_ rfl
        · rw [Bool.and_eq_true, decide_eq_true_iff, decide_eq_true_iff]; omega
        · intro _; simp; omega
      · rw [if_neg (by rw [Bool.and_eq_true, beq_iff_eq, beq_iff_eq]; omega), if_neg (by omega)]
  · have c14 : (b0 / 16 == 14) = true := by rw [beq_iff_eq]; omega
    have n30 : (b0 / 8 == 30) = false := by rw [beq_eq_false_iff_ne]; omega
    simp only [c14, n6, n30, Bool.true_and, Bool.false_and, Bool.false_eq_true, if_false]
    rw [nv hs]
    match t, ht, e1, e2 with
    | [], _, _, _ => simp
    | [c], _, _, _ => simp
    | c :: d :: u, ht, e1, e2 =>
      have hc := e1 c rfl
      have hcr := ht c (by simp)
      have hd := e2 d rfl
      have hdr := ht d (by simp)
      simp only [List.length_cons, k8]
      simp only [show decide (1 < u.length + 1 + 1 + 1) = true from decide_eq_true (by omega), show decide (2 < u.length + 1 + 1 + 1) = true from decide_eq_true (by omega)]
      simp only [Bool.true_and]
      by_cases hk : 128 ≤ c ∧ c ≤ 191 ∧ 128 ≤ d ∧ d ≤ 191
      · rw [if_pos (by rw [Bool.and_eq_true, beq_iff_eq, beq_iff_eq]; omega)]
        refine lO ?_ ?_ rfl
        · rw [Bool.and_eq_true, decide_eq_true_iff, decide_eq_true_iff]; omega
        · intro _; simp; omega
      · rw [if_neg (by rw [Bool.and_eq_true, beq_iff_eq, beq_iff_eq]; omega), if_neg (by omega)]
  · have c14 : (b0 / 16 == 14) = true := by rw [beq_iff_eq]; omega
    have n30 : (b0 / 8 == 30) = false := by rw [beq_eq_false_iff_ne]; omega
    simp only [c14, n6, n30, Bool.true_and, Bool.false_and, Bool.false_eq_true, if_false]
    rw [nv hs]
    match t, ht, e1, e2 with
    | [], _, _, _ => simp
    | [c], _, _, _ => simp
    | c :: d :: u, ht, e1, e2 =>
      have hc := e1 c rfl
      have hcr := ht c (by simp)
      have hd := e2 d rfl
      have hdr := ht d (by simp)
      simp only [List.length_cons, k8]
      simp only [show decide (1 < u.length + 1 + 1 + 1) = true from decide_eq_true (by omega), show decide (2 < u.length + 1 + 1 + 1) = true from decide_eq_true (by omega)]
      simp only [Bool.true_and]
      by_cases hk : 128 ≤ c ∧ c ≤ 191 ∧ 128 ≤ d ∧ d ≤ 191
      · rw [if_pos (by rw [Bool.and_eq_true, beq_iff_eq, beq_iff_eq]; omega)]
        refine lO ?_ ?_ rfl
        · rw [Bool.and_eq_true, decide_eq_true_iff, decide_eq_true_iff]; omega
        · intro _; simp; omega
      · rw [if_neg (by rw [Bool.and_eq_true, beq_iff_eq, beq_iff_eq]; omega), if_neg (by omega)]
  all_goals have n14 : (b0 / 16 == 14) = false := by rw [beq_eq_false_iff_ne]; omega
  all_goals have c30 : (b0 / 8 == 30) = true := by rw [beq_iff_eq]; omega
  all_goals simp only [c30, n6, n14, Bool.true_and, Bool.false_and, Bool.false_eq_true, if_false]
  all_goals rw [vL hs]
  all_goals
    match t, ht, e1, e2, e3 with
    | [], _, _, _, _ => simp
    | [c], _, _, _, _ => simp
    | [c, d], _, _, _, _ => simp
    | c :: d :: e :: u, ht, e1, e2, e3 =>
      have hc := e1 c rfl
      have hcr := ht c (by simp)
      have hd := e2 d rfl
      have hdr := ht d (by simp)
      have he := e3 e rfl
      have her := ht e (by simp)
      simp only [List.length_cons, k8]
      simp only [show decide (1 < u.length + 1 + 1 + 1 + 1) = true from decide_eq_true (by omega), show decide (2 < u.length + 1 + 1 + 1 + 1) = true from decide_eq_true (by omega), show decide (3 < u.length + 1 + 1 + 1 + 1) = true from decide_eq_true (by omega)]
      simp only [Bool.true_and]
      by_cases hk : 128 ≤ c ∧ c ≤ 191 ∧ 128 ≤ d ∧ d ≤ 191 ∧ 128 ≤ e ∧ e ≤ 191
      · rw [if_pos (by simp only [Bool.and_eq_true, beq_iff_eq]; omega)]
        refine lO ?_ ?_ rfl
        · rw [Bool.and_eq_true, decide_eq_true_iff, decide_eq_true_iff]; omega
        · intro _; simp; omega
      · rw [if_neg (by simp only [Bool.and_eq_true, beq_iff_eq]; omega), if_neg (by omega)]
theorem wX (s : ByteArray) (pos : Nat) (h : pos < s.size) : Utf8.decode s pos = iW ((aa s).drop pos) := by
  have hl : pos < (aa s).length := by rw [af]; exact h
  have e := List.drop_eq_getElem_cons hl
  have hbt : ∀ i : Nat, i < s.size → (aa s)[i]? = some (bt s (i : Int)) := fun i hi => by
    have hi' : i < (aa s).length := by rw [af]; exact hi
    rw [j7, List.getD_eq_getElem?_getD, List.getElem?_eq_getElem hi']
    rfl
  have hg : ∀ k : Nat, ∀ x, ((aa s).drop (pos + 1))[k]? = some x → ((s.get! (pos + (k + 1))).toNat : Int) = x := fun k x hx => by
    rw [List.getElem?_drop] at hx
    have hk : pos + 1 + k < s.size := by
      have := (List.getElem?_eq_some_iff.1 hx).1
      rw [af] at this
      exact this
    rw [hbt _ hk] at hx
    rw [show pos + (k + 1) = pos + 1 + k by omega, tc s _ hk]
    exact Option.some.inj hx
  rw [qR s pos h, e]
  have hlen : s.size - pos = ((aa s).drop (pos + 1)).length + 1 := by rw [List.length_drop, af]; omega
  rw [hlen]
  refine uy _ _ ?_ ?_ _ _ _ _ ?_ (hg 0) (hg 1) (hg 2)
  · exact d6 (List.getElem_mem hl)
  · intro x hx; exact d6 (List.mem_of_mem_drop hx)
  · rw [tc s pos h]
    have := hbt pos h
    rw [List.getElem?_eq_getElem hl] at this
    exact (Option.some.inj this).symm
end Go.Proofs.YtpmflpeckoeooaaGreatDoor.M
