/- Texts that the law's proof needs, joined by a program of this session. -/
import Derived.Test.YtpmflpeckoeooaaGreatDoorZSyntaxOne0
import Derived.Test.YtpmflpeckoeooaaGreatDoorZSyntaxOne1
import Derived.Test.YtpmflpeckoeooaaGreatDoorZSyntaxOne2
import Derived.Test.YtpmflpeckoeooaaGreatDoorZSyntaxOne3
import Derived.Test.YtpmflpeckoeooaaGreatDoorZSyntaxOne5
import Derived.Test.YtpmflpeckoeooaaGreatDoorZSyntaxOne7
import Derived.Test.YtpmflpeckoeooaaGreatDoorZSyntaxOne8
import Derived.Lib.Bytealg
import Derived.Laws.Strings
import Derived.Laws.BitsLemmas
import Derived.Laws.RangeAny
namespace Go.Proofs.YtpmflpeckoeooaaGreatDoor.M
open Go Go.RowKit Go.Proofs.YtpmflpeckoeooaaGreatDoorW.PrintWords
theorem w64 {x : Int} (h1 : -9223372036854775808 ≤ x) (h2 : x ≤ 9223372036854775807) : wrap64 x = x := by unfold wrap64; omega
theorem jz (s : ByteArray) : s.toList = s.data.toList := ByteArray.toList_eq s
theorem gK {a b : ByteArray} (h : aa a = aa b) : a = b := by
  unfold aa at h
  have : a.data.toList = b.data.toList := by
    apply List.map_inj_right (f := fun b : UInt8 => (b.toNat : Int)) _ |>.1 h
    intro x y hxy
    exact UInt8.toNat_inj.1 (by omega)
  cases a; cases b
  simp only [ByteArray.mk.injEq]
  exact Array.toList_inj.1 this
theorem jn {a b : ByteArray} : a.toList = b.toList ↔ aa a = aa b := by
  rw [jz, jz]
  exact ⟨fun h => by unfold aa; rw [h], fun h => by rw [gK h]⟩
theorem bl (a b : ByteArray) : aa (a ++ b) = aa a ++ aa b := by
  unfold aa
  rw [ByteArray.data_append, Array.toList_append, List.map_append]
theorem au (a : ByteArray) (i j : Nat) : aa (a.extract i j) = ((aa a).take j).drop i := by
  unfold aa
  rw [ByteArray.data_extract, Array.toList_extract, List.extract_eq_take_drop, List.map_take, List.map_drop, List.drop_take]
theorem ed {s : ByteArray} {x : Int} (h : x ∈ aa s) : 0 ≤ x ∧ x ≤ 255 := by
  unfold aa at h
  obtain ⟨b, _, rfl⟩ := List.mem_map.1 h
  have := b.toNat_lt
  omega
theorem af (s : ByteArray) : (aa s).length = s.size := qC s
theorem kK (s : ByteArray) (i : Nat) : bt s (i : Int) = (aa s).getD i 0 := by
  rw [← u0]; unfold rd; simp
theorem qB {s : ByteArray} {i : Nat} {b : Int} {t : List Int} (h : (aa s).drop i = b :: t) : bt s (i : Int) = b ∧ i < s.size ∧ (aa s).drop (i + 1) = t ∧ 0 ≤ b ∧ b ≤ 255 := by
  have hl : i < (aa s).length := by
    have := congrArg List.length h
    rw [List.length_drop, List.length_cons] at this
    omega
  have e := List.drop_eq_getElem_cons hl
  rw [h] at e
  injection e with e1 e2
  have hr := ed (s := s) (x := b) (by rw [e1]; exact List.getElem_mem hl)
  refine ⟨?_, by rw [← af]; exact hl, e2.symm, hr.1, hr.2⟩
  rw [kK, List.getD_eq_getElem?_getD, List.getElem?_eq_getElem hl, e1]
  rfl
theorem rT {s : ByteArray} {i : Nat} (h : (aa s).drop i = []) : s.size ≤ i := by
  have := congrArg List.length h
  rw [List.length_drop, af] at this
  simp at this
  omega
theorem wV {s : ByteArray} {n : Nat} (h : n < s.size) : (aa s).take (n + 1) = (aa s).take n ++ [bt s (n : Int)] := by
  have hl : n < (aa s).length := by rw [af]; exact h
  rw [List.take_succ_eq_append_getElem hl, kK, List.getD_eq_getElem?_getD, List.getElem?_eq_getElem hl]
  rfl
theorem jN (s : ByteArray) (i : Int) : 0 ≤ bt s i ∧ bt s i ≤ 255 := xg s i
theorem pS {α : Type} {g : Nat → Option α} {r : α} (h : ∀ k, g k = some r) : Ev g r := ⟨0, fun k _ => h k⟩
theorem ai {α β : Type} {g : Nat → Option α} {f : Nat → α → Option β} {a : α} {r : β} (h : Ev g a) (k : Ev (fun n => f n a) r) : Ev (fun n => (g n).bind fun t => f n t) r := Ev.bind h k
theorem bD {α β : Type} {o : Option α} {f : Nat → α → Option β} {a : α} {r : β} (h : o = some a) (k : Ev (fun n => f n a) r) : Ev (fun n => o.bind fun t => f n t) r := by
  subst h; exact k
theorem ab {α : Type} {c : Prop} [Decidable c] {g f : Nat → Option α} {r : α} (h : c) (k : Ev g r) : Ev (fun n => if c then g n else f n) r := by
  simp only [if_pos h]; exact k
theorem ae {α : Type} {c : Prop} [Decidable c] {g f : Nat → Option α} {r : α} (h : ¬ c) (k : Ev f r) : Ev (fun n => if c then g n else f n) r := by
  simp only [if_neg h]; exact k
theorem Ev.ite {α : Type} {c : Prop} [Decidable c] {g f : Nat → Option α} {r : α} (h : c → Ev g r) (k : ¬ c → Ev f r) : Ev (fun n => if c then g n else f n) r := by
  by_cases hc : c
  · exact ab hc (h hc)
  · exact ae hc (k hc)
theorem Ev.val {α : Type} {a r : α} (h : a = r) : Ev (fun _ => some a) r := by subst h; exact ay _
def idx (c : Int) : List Int → Int
  | [] => -1
  | b :: t => if b = c then 0 else if idx c t = -1 then -1 else idx c t + 1
theorem lI (c : Int) (l : List Int) : -1 ≤ idx c l := by
  induction l with
  | nil => simp [idx]
  | cons b t ih => unfold idx; split <;> (try split) <;> omega
theorem oL (c : Int) (l : List Int) : idx c l < l.length := by
  induction l with
  | nil => simp [idx]
  | cons b t ih => unfold idx; rw [List.length_cons]; split <;> (try split) <;> omega
theorem uL (c : Int) (l m : List Int) : idx c (l ++ m) = if idx c l = -1 then (if idx c m = -1 then -1 else idx c m + l.length) else idx c l := by
  induction l with
  | nil => simp only [List.nil_append, idx, if_true, List.length_nil]; split <;> omega
  | cons b t ih =>
    have := lI c t
    have := lI c m
    rw [List.cons_append]
    by_cases hb : b = c
    · simp [idx, hb]
    · simp only [idx, if_neg hb, ih, List.length_cons]
      by_cases h1 : idx c t = -1
      · by_cases h2 : idx c m = -1
        · simp [h1, h2]
        · simp only [h1, h2, if_true, if_false]
          rw [if_neg (by omega)]; omega
      · simp only [h1, if_false]
        rw [if_neg (by omega)]
theorem pD {c : Int} {l : List Int} : idx c l = -1 ↔ c ∉ l := by
  induction l with
  | nil => simp [idx]
  | cons b t ih =>
    have := lI c t
    unfold idx
    by_cases hb : b = c
    · simp [hb]
    · simp only [if_neg hb, List.mem_cons, not_or]
      by_cases h1 : idx c t = -1
      · simp [h1, ih.1 h1, Ne.symm hb]
      · rw [if_neg h1]
        constructor
        · intro h; omega
        · intro h; exact absurd (ih.2 h.2) h1
theorem oM {c : Int} {l : List Int} (h : 0 ≤ idx c l) : l = l.take (idx c l).toNat ++ c :: l.drop ((idx c l).toNat + 1) ∧ c ∉ l.take (idx c l).toNat := by
  induction l with
  | nil => simp [idx] at h
  | cons b t ih =>
    unfold idx at h ⊢
    by_cases hb : b = c
    · simp [hb]
    · rw [if_neg hb] at h ⊢
      by_cases h1 : idx c t = -1
      · rw [if_pos h1] at h; omega
      · have hg := lI c t
        rw [if_neg h1]
        obtain ⟨e1, e2⟩ := ih (by omega)
        have e : (idx c t + 1).toNat = (idx c t).toNat + 1 := by omega
        rw [e, List.take_succ_cons, List.drop_succ_cons, List.cons_append]
        refine ⟨by rw [← e1], ?_⟩
        rw [List.mem_cons, not_or]
        exact ⟨Ne.symm hb, e2⟩
def bM (c : Int) : List Int → Int
  | [] => -1
  | b :: t => if bM c t = -1 then (if b = c then 0 else -1) else bM c t + 1
theorem mt (c : Int) (l : List Int) : -1 ≤ bM c l := by
  induction l with
  | nil => simp [bM]
  | cons b t ih => unfold bM; split <;> (try split) <;> omega
theorem ud (c : Int) (l : List Int) : bM c l < l.length := by
  induction l with
  | nil => simp [bM]
  | cons b t ih => unfold bM; rw [List.length_cons]; split <;> (try split) <;> omega
theorem wq (c : Int) (l : List Int) (b : Int) : bM c (l ++ [b]) = if b = c then (l.length : Int) else bM c l := by
  induction l with
  | nil => simp [bM]
  | cons a t ih =>
    have := mt c t
    rw [List.cons_append]
    simp only [bM, ih, List.length_cons]
    by_cases hb : b = c
    · rw [if_pos hb, if_pos hb, if_neg (by omega)]; omega
    · simp only [if_neg hb]
theorem oV {c : Int} {l : List Int} : bM c l = -1 ↔ c ∉ l := by
  induction l with
  | nil => simp [bM]
  | cons b t ih =>
    have := mt c t
    unfold bM
    rw [List.mem_cons, not_or]
    by_cases h1 : bM c t = -1
    · rw [if_pos h1]
      by_cases hb : b = c
      · simp [hb]
      · rw [if_neg hb]; simp [ih.1 h1, Ne.symm hb]
    · rw [if_neg h1]
      constructor
      · intro h; omega
      · intro h; exact absurd (ih.2 h.2) h1
theorem qh {c : Int} {l : List Int} (h : 0 ≤ bM c l) : l = l.take (bM c l).toNat ++ c :: l.drop ((bM c l).toNat + 1) ∧ c ∉ l.drop ((bM c l).toNat + 1) := by
  induction l with
  | nil => simp [bM] at h
  | cons b t ih =>
    have hg := mt c t
    unfold bM at h ⊢
    by_cases h1 : bM c t = -1
    · rw [if_pos h1] at h ⊢
      by_cases hb : b = c
      · rw [if_pos hb]; simp [hb, oV.1 h1]
      · rw [if_neg hb] at h; omega
    · rw [if_neg h1] at h ⊢
      obtain ⟨e1, e2⟩ := ih (by omega)
      have e : (bM c t + 1).toNat = (bM c t).toNat + 1 := by omega
      rw [e, List.take_succ_cons, List.drop_succ_cons, List.cons_append]
      exact ⟨by rw [← e1], e2⟩
theorem rz (l : List UInt8) (c : UInt8) : Go.Lib.indexByte l c = idx (c.toNat : Int) (l.map fun b => (b.toNat : Int)) := by
  induction l with
  | nil => rfl
  | cons b t ih =>
    rw [List.map_cons]
    unfold Go.Lib.indexByte idx
    rw [ih]
    by_cases hb : b = c
    · simp [hb]
    · have h1 : (b == c) = false := by simpa using hb
      have h2 : ¬ ((b.toNat : Int) = (c.toNat : Int)) := fun h => hb (UInt8.toNat_inj.1 (by omega))
      rw [h1, if_neg h2]
      simp only [Bool.false_eq_true, if_false, beq_iff_eq]
theorem qc (s : ByteArray) (c : Int) (h0 : 0 ≤ c) (h1 : c ≤ 255) : Go.Lib.indexByte s.data.toList c.toNat.toUInt8 = idx c (aa s) := by
  rw [rz]
  have : ((c.toNat.toUInt8.toNat : Nat) : Int) = c := by
    rw [Nat.toUInt8, UInt8.toNat_ofNat']
    omega
  rw [this]; rfl
theorem ci {p : Int → Prop} (h : ∀ n : Fin 256, p ((n.val : Nat) : Int)) {b : Int} (h0 : 0 ≤ b) (h1 : b ≤ 255) : p b := by
  have := h ⟨b.toNat, by omega⟩
  simp only at this
  rwa [Int.toNat_of_nonneg h0] at this
def kb (b : Int) : Bool := decide (65 ≤ b ∧ b ≤ 90 ∨ 97 ≤ b ∧ b ≤ 122)
def dM (b : Int) : Bool := decide (48 ≤ b ∧ b ≤ 57)
def bC (b : Int) : Bool := decide (48 ≤ b ∧ b ≤ 57 ∨ 65 ≤ b ∧ b ≤ 70 ∨ 97 ≤ b ∧ b ≤ 102)
def yu (b : Int) : Bool := decide (b = 45 ∨ b = 46 ∨ b = 95 ∨ b = 126)
def zQ (b : Int) : Bool := decide (b = 33 ∨ b = 36 ∨ 38 ≤ b ∧ b ≤ 44 ∨ b = 59 ∨ b = 61)
def aaj (b : Int) : Bool := decide (b = 58 ∨ b = 47 ∨ b = 63 ∨ b = 35 ∨ b = 91 ∨ b = 93 ∨ b = 64)
def cls (b : Int) : Int := (if kb b then 1 else 0) + (if dM b then 2 else 0) + (if yu b then 4 else 0) + (if zQ b then 8 else 0) + (if aaj b then 16 else 0) + (if bC b then 32 else 0)
def nZ (b : Int) : Bool := kb b || dM b
def lO (b : Int) : Bool := kb b || dM b || yu b || zQ b
def isc (b c : Int) : Bool := Go.bits .and .i64 (cls b) c != 0
theorem wi {b : Int} (h0 : 0 ≤ b) (h1 : b ≤ 255) : isc b 1 = kb b :=
  ci (p := fun b => isc b 1 = kb b) (by decide +kernel) h0 h1
theorem rh {b : Int} (h0 : 0 ≤ b) (h1 : b ≤ 255) : isc b 2 = dM b :=
  ci (p := fun b => isc b 2 = dM b) (by decide +kernel) h0 h1
theorem oS {b : Int} (h0 : 0 ≤ b) (h1 : b ≤ 255) : isc b 3 = nZ b :=
  ci (p := fun b => isc b 3 = nZ b) (by decide +kernel) h0 h1
theorem ri {b : Int} (h0 : 0 ≤ b) (h1 : b ≤ 255) : isc b 15 = lO b :=
  ci (p := fun b => isc b 15 = lO b) (by decide +kernel) h0 h1
theorem yX {b : Int} (h0 : 0 ≤ b) (h1 : b ≤ 255) : isc b 32 = bC b :=
  ci (p := fun b => isc b 32 = bC b) (by decide +kernel) h0 h1
theorem lu {b c : Int} : Go.bits .and .i64 (cls b) c = 0 ↔ isc b c = false := by unfold isc; simp
def hv (b : Int) : Int := if 48 ≤ b ∧ b ≤ 57 then b - 48 else if 65 ≤ b ∧ b ≤ 70 then b - 55 else if 97 ≤ b ∧ b ≤ 102 then b - 87 else -1
theorem kH (b : Int) : -1 ≤ hv b ∧ hv b ≤ 15 := by unfold hv; (repeat' split) <;> omega
theorem kO (b : Int) : (0 ≤ hv b) ↔ bC b = true := by
  unfold hv bC
  rw [decide_eq_true_iff]
  (repeat' split) <;> omega
theorem wa (b : Int) : (hv b < 0) ↔ bC b = false := by
  have h1 := kO b
  rw [← Bool.not_eq_true, ← h1]
  omega
theorem uI {b : Int} (h : bC b = true) : lO b = true := by
  unfold bC at h
  unfold lO kb dM
  rw [decide_eq_true_iff] at h
  simp only [Bool.or_eq_true, decide_eq_true_iff]
  omega
def jj (p : Int → Bool) : List Int → Int
  | [] => -1
  | b :: t => if p b then 0 else if jj p t = -1 then -1 else jj p t + 1
theorem nb (p : Int → Bool) (b : Int) (t : List Int) : jj p (b :: t) = if p b then 0 else if jj p t = -1 then -1 else jj p t + 1 := rfl
theorem yQ (p : Int → Bool) (l : List Int) : -1 ≤ jj p l := by
  induction l with
  | nil => simp [jj]
  | cons b t ih => unfold jj; split <;> (try split) <;> omega
def be (p : Int → Bool) : List Int → Nat
  | [] => 0
  | b :: t => if p b then be p t + 1 else 0
theorem pO (p : Int → Bool) (l : List Int) : be p l ≤ l.length := by
  induction l with
  | nil => simp [be]
  | cons b t ih => unfold be; rw [List.length_cons]; split <;> omega
theorem wR {p : Int → Bool} {l : List Int} : be p l = l.length ↔ ∀ b ∈ l, p b = true := by
  induction l with
  | nil => simp [be]
  | cons b t ih =>
    unfold be
    cases hb : p b
    · simp [hb]
    · simp [hb, ← ih]
theorem qr {p : Int → Bool} (l : List Int) : ∀ b ∈ l.take (be p l), p b = true := by
  induction l with
  | nil => simp [be]
  | cons b t ih =>
    unfold be
    cases hb : p b
    · simp
    · simp only [if_true, List.take_succ_cons]
      intro c hc
      rcases List.mem_cons.1 hc with rfl | hc
      · exact hb
      · exact ih c hc
theorem vw {p : Int → Bool} {l : List Int} {b : Int} {t : List Int} (h : l.drop (be p l) = b :: t) : p b = false := by
  induction l with
  | nil => simp [be] at h
  | cons c r ih =>
    unfold be at h
    cases hc : p c
    · rw [hc] at h
      simp at h
      rw [← h.1]; exact hc
    · rw [hc] at h
      simp only [if_true, List.drop_succ_cons] at h
      exact ih h
def shp (b : Int) : Int × Int × Int :=
  if b < 128 then (1, 0, 0) else if 194 ≤ b ∧ b ≤ 223 then (2, 128, 191) else if b = 224 then (3, 160, 191) else if b = 237 then (3, 128, 159)
  else if 225 ≤ b ∧ b ≤ 239 then (3, 128, 191) else if b = 240 then (4, 144, 191) else if b = 244 then (4, 128, 143) else if 241 ≤ b ∧ b ≤ 243 then (4, 128, 191) else (0, 0, 0)
def aU : Nat → Int → Int → List Int → Nat
  | 0, _, _, _ => 0
  | _ + 1, _, _, [] => 0
  | n + 1, lo, hi, c :: t => if lo ≤ c ∧ c ≤ hi then aU n 128 191 t + 1 else 0
def gE (r : Int) : List Int → Int
  | [] => r
  | c :: t => gE (r * 64 + (c - 128)) t
def cI (n b : Int) : Int := if n = 1 then b else if n = 2 then b - 192 else if n = 3 then b - 224 else b - 240
def dec : List Int → Int × Int × Bool
  | [] => (0, 0, false)
  | b :: t => if (shp b).1 = 0 then (0, 1, false)
    else if (aU ((shp b).1.toNat - 1) (shp b).2.1 (shp b).2.2 t : Int) + 1 < (shp b).1 then (0, (aU ((shp b).1.toNat - 1) (shp b).2.1 (shp b).2.2 t : Int) + 1, false)
    else (gE (cI (shp b).1 b) (t.take ((shp b).1.toNat - 1)), (shp b).1, true)
theorem dk (b : Int) (t : List Int) : dec (b :: t) = if (shp b).1 = 0 then (0, 1, false)
    else if (aU ((shp b).1.toNat - 1) (shp b).2.1 (shp b).2.2 t : Int) + 1 < (shp b).1 then (0, (aU ((shp b).1.toNat - 1) (shp b).2.1 (shp b).2.2 t : Int) + 1, false)
    else (gE (cI (shp b).1 b) (t.take ((shp b).1.toNat - 1)), (shp b).1, true) := rfl
theorem j6 (b : Int) : 0 ≤ (shp b).1 ∧ (shp b).1 ≤ 4 := by
  unfold shp
  (repeat' split) <;> simp
theorem hZ {b : Int} (h : 2 ≤ (shp b).1) : 128 ≤ (shp b).2.1 ∧ (shp b).2.2 ≤ 191 := by
  revert h
  unfold shp
  (repeat' split) <;> simp
theorem pL {b : Int} (h0 : 0 ≤ b) (h1 : b ≤ 255) (h : 1 ≤ (shp b).1) : 0 ≤ cI (shp b).1 b ∧ cI (shp b).1 b < 128 := by
  have := ci (p := fun b => 1 ≤ (shp b).1 → 0 ≤ cI (shp b).1 b ∧ cI (shp b).1 b < 128) (by decide +kernel) h0 h1
  exact this h
theorem kF (n : Nat) (lo hi : Int) (l : List Int) : aU n lo hi l ≤ n ∧ aU n lo hi l ≤ l.length := by
  induction n generalizing lo hi l with
  | zero => simp [aU]
  | succ n ih =>
    cases l with
    | nil => simp [aU]
    | cons c t =>
      unfold aU
      have := ih 128 191 t
      rw [List.length_cons]
      split <;> omega
theorem lG (n : Nat) (lo hi : Int) (h0 : 128 ≤ lo) (h1 : hi ≤ 191) (l : List Int) : ∀ c ∈ l.take (aU n lo hi l), 128 ≤ c ∧ c ≤ 191 := by
  induction n generalizing lo hi l with
  | zero => simp [aU]
  | succ n ih =>
    cases l with
    | nil => simp [aU]
    | cons c t =>
      unfold aU
      split
      · rename_i h
        simp only [List.take_succ_cons]
        intro d hd
        rcases List.mem_cons.1 hd with rfl | hd
        · omega
        · exact ih 128 191 (by omega) (by omega) t d hd
      · simp
theorem qX (lo hi : Int) (l : List Int) : aU 0 lo hi l = 0 := by unfold aU; rfl
theorem pW (l : List Int) : 0 ≤ (dec l).2.1 ∧ (dec l).2.1 ≤ 4 ∧ (dec l).2.1 ≤ l.length := by
  cases l with
  | nil => simp [dec]
  | cons b t =>
    have h1 := j6 b
    have h2 := kF ((shp b).1.toNat - 1) (shp b).2.1 (shp b).2.2 t
    rw [List.length_cons, dk]
    split
    · simp only; omega
    · split
      · simp only
        omega
      · simp only
        omega
theorem yM {b : Int} {t : List Int} : 1 ≤ (dec (b :: t)).2.1 := by
  have h1 := j6 b
  rw [dk]
  split
  · simp
  · split <;> simp only <;> omega
theorem kL {b : Int} (t : List Int) (h : b < 128) : dec (b :: t) = (b, 1, true) := by
  have : shp b = (1, 0, 0) := by unfold shp; rw [if_pos h]
  rw [dk, this]
  simp [aU, cI, gE]
theorem xm {b : Int} {t : List Int} (h : 128 ≤ b) (hb : b ≤ 255) (ok : (dec (b :: t)).2.2 = true) : 2 ≤ (dec (b :: t)).2.1 ∧ ∀ c ∈ (b :: t).take (dec (b :: t)).2.1.toNat, 128 ≤ c := by
  have h1 := j6 b
  have h2 : (shp b).1 ≠ 1 := ci (p := fun b => 128 ≤ b → (shp b).1 ≠ 1) (by decide +kernel) (by omega) hb h
  rw [dk] at ok ⊢
  by_cases e : (shp b).1 = 0
  · rw [if_pos e] at ok; cases ok
  · rw [if_neg e] at ok ⊢
    by_cases e2 : (aU ((shp b).1.toNat - 1) (shp b).2.1 (shp b).2.2 t : Int) + 1 < (shp b).1
    · rw [if_pos e2] at ok; cases ok
    · rw [if_neg e2]
      have h3 := kF ((shp b).1.toNat - 1) (shp b).2.1 (shp b).2.2 t
      have h4 := hZ (b := b) (by omega)
      have h5 := lG ((shp b).1.toNat - 1) (shp b).2.1 (shp b).2.2 h4.1 h4.2 t
      have e3 : (shp b).1.toNat = aU ((shp b).1.toNat - 1) (shp b).2.1 (shp b).2.2 t + 1 := by omega
      refine ⟨by simp only; omega, ?_⟩
      simp only
      rw [e3, List.take_succ_cons]
      intro c hc
      rcases List.mem_cons.1 hc with rfl | hc
      · exact h
      · exact (h5 c hc).1
theorem lr {l : List Int} (ok : (dec l).2.2 = true) : 1 ≤ (dec l).2.1 := by
  cases l with
  | nil => cases ok
  | cons b t => exact yM
end Go.Proofs.YtpmflpeckoeooaaGreatDoor.M
namespace Go.Proofs.YtpmflpeckoeooaaGreatDoor.Y
open Go.RowKit Go.Proofs.YtpmflpeckoeooaaGreatDoor.X Go.Proofs.YtpmflpeckoeooaaGreatDoor.M Go.Proofs.YtpmflpeckoeooaaGreatDoorW.PrintWords Go.Proofs.YtpmflpeckoeooaaGreatDoorW.PrintLast Go.Proofs.YtpmflpeckoeooaaGreatDoorW.PrintMore
theorem yJ {b : Int} (h0 : 0 ≤ b) (h1 : b ≤ 255) : Ev (fun k => gn k b) (cls b) :=
  mg (fun k => mI b k) (k := 12) (ci (p := fun b => gn 12 b = some (cls b)) (by decide +kernel) h0 h1)
theorem uP {b : Int} (c : Int) (h0 : 0 ≤ b) (h1 : b ≤ 255) : Ev (fun k => fE k b c) (isc b c) := ai (yJ h0 h1) (ay _)
theorem qO {b : Int} (h0 : 0 ≤ b) (h1 : b ≤ 255) : Ev (fun k => eL k b) (if hv b < 0 then (0, false) else (hv b, true)) :=
  mg (fun k => iw b k) (k := 14) (ci (p := fun b => eL 14 b = some (if hv b < 0 then (0, false) else (hv b, true))) (by decide +kernel) h0 h1)
theorem ol {b : Int} (h0 : 0 ≤ b) (h1 : b ≤ 255) : Ev (fun k => bS k b) (cls b) :=
  mg (fun k => iD b k) (k := 60) (ci (p := fun b => bS 60 b = some (cls b)) (by decide +kernel) h0 h1)
theorem mq {b : Int} (h0 : 0 ≤ b) (h1 : b ≤ 255) : Ev (fun k => bT k b) (hv b) :=
  mg (fun k => mU b k) (k := 20) (ci (p := fun b => bT 20 b = some (hv b)) (by decide +kernel) h0 h1)
theorem bB (s : ByteArray) (n : Nat) (h : n ≤ s.size) : (n = s.size ∧ (aa s).drop n = []) ∨ (n < s.size ∧ (aa s).drop n = bt s (n : Int) :: (aa s).drop (n + 1) ∧ 0 ≤ bt s (n : Int) ∧ bt s (n : Int) ≤ 255) := by
  rcases Nat.lt_or_ge n s.size with h1 | h1
  · right
    have hl : n < (aa s).length := by rw [af]; exact h1
    refine ⟨h1, ?_, (jN s n).1, (jN s n).2⟩
    rw [List.drop_eq_getElem_cons hl, kK, List.getD_eq_getElem?_getD, List.getElem?_eq_getElem hl]
    rfl
  · left
    exact ⟨by omega, List.drop_of_length_le (by rw [af]; exact h1)⟩
theorem g8 (s : ByteArray) : (s.size = 0 ∧ aa s = []) ∨ (0 < s.size ∧ aa s = bt s 0 :: (aa s).drop 1 ∧ 0 ≤ bt s 0 ∧ bt s 0 ≤ 255) := by
  have := bB s 0 (by omega)
  rw [List.drop_zero] at this
  rcases this with ⟨h, e⟩ | h
  · exact .inl ⟨h.symm, e⟩
  · exact .inr h
theorem uT (s : ByteArray) (c : Int) (hs : s.size ≤ 140737488351232) : ∀ d n : Nat, n + d = s.size → Ev (fun k => eK k s c (s.size : Int) (n : Int)) ((n : Int) + be (fun b => isc b c) ((aa s).drop n)) := by
  intro d
  induction d with
  | zero =>
    intro n hn
    refine Ev.step (fun k => rfl) ?_
    refine ae (by omega) ?_
    rw [List.drop_of_length_le (by rw [af]; omega)]
    have : ((n : Int) + ((be (fun b => isc b c) [] : Nat) : Int)) = (s.size : Int) := by simp [be]; omega
    rw [this]
    exact ay _
  | succ d ih =>
    intro n hn
    rcases bB s n (by omega) with ⟨h, _⟩ | ⟨h, e, b0, b1⟩
    · omega
    refine Ev.step (fun k => rfl) ?_
    refine ab (by omega) (ab (by omega) (ab (by omega) (ai (uP c b0 b1) ?_)))
    rw [e]
    cases hb : isc (bt s n) c
    · refine ae (by simp) ?_
      simp only [be, hb, Bool.false_eq_true, if_false]
      exact ay _
    · refine ab rfl ?_
      rw [w64 (by omega) (by omega)]
      have := ih (n + 1) (by omega)
      simp only [be, hb, if_true]
      have e2 : ((n : Int) + ((be (fun b => isc b c) ((aa s).drop (n + 1)) + 1 : Nat) : Int)) = ((n + 1 : Nat) : Int) + (be (fun b => isc b c) ((aa s).drop (n + 1)) : Int) := by omega
      rw [e2]
      exact this
theorem rm (s : ByteArray) (c : Int) (hs : s.size ≤ 140737488351232) : Ev (fun k => fw k s c) (be (fun b => isc b c) (aa s) : Int) := by
  have := uT s c hs s.size 0 (by omega)
  unfold fw
  simpa using this
theorem vl (s : ByteArray) (c : Int) (hs : s.size ≤ 140737488351232) : ∀ d n : Nat, n + d = s.size → Ev (fun k => eO k s c (n : Int)) ((n : Int) + be (fun b => isc b c) ((aa s).drop n)) := by
  intro d
  induction d with
  | zero =>
    intro n hn
    refine Ev.step (fun k => rfl) ?_
    refine ae (by omega) ?_
    rw [List.drop_of_length_le (by rw [af]; omega)]
    have : ((n : Int) + ((be (fun b => isc b c) [] : Nat) : Int)) = (n : Int) := by simp [be]
    rw [this]
    exact ay _
  | succ d ih =>
    intro n hn
    rcases bB s n (by omega) with ⟨h, _⟩ | ⟨h, e, b0, b1⟩
    · omega
    refine Ev.step (fun k => rfl) ?_
    refine ab (by omega) (ab (by omega) (ai (ol b0 b1) ?_))
    rw [e]
    cases hb : isc (bt s n) c
    · refine ab (lu.2 hb) ?_
      simp only [be, hb, Bool.false_eq_true, if_false]
      exact ay _
    · refine ae (fun h => by rw [lu.1 h] at hb; cases hb) ?_
      rw [w64 (by omega) (by omega)]
      have := ih (n + 1) (by omega)
      simp only [be, hb, if_true]
      have e2 : ((n : Int) + ((be (fun b => isc b c) ((aa s).drop (n + 1)) + 1 : Nat) : Int)) = ((n + 1 : Nat) : Int) + (be (fun b => isc b c) ((aa s).drop (n + 1)) : Int) := by omega
      rw [e2]
      exact this
theorem wH (s : ByteArray) (c : Int) (hs : s.size ≤ 140737488351232) : Ev (fun k => gr k s c) (be (fun b => isc b c) (aa s) : Int) := by
  have := vl s c hs s.size 0 (by omega)
  unfold gr
  simpa using this
theorem aaa (c : Int) (s : ByteArray) (hs : s.size ≤ 140737488351232) : ∀ d n : Nat, n + d = s.size → Ev (fun k => cC k c s (n : Int)) (((aa s).drop n).contains c) := by
  intro d
  induction d with
  | zero =>
    intro n hn
    refine Ev.step (fun k => rfl) (ae (by omega) ?_)
    rw [List.drop_of_length_le (by rw [af]; omega)]
    exact ay _
  | succ d ih =>
    intro n hn
    rcases bB s n (by omega) with ⟨h, _⟩ | ⟨h, e, b0, b1⟩
    · omega
    refine Ev.step (fun k => rfl) (ab (by omega) (ab (by omega) ?_))
    rw [e, List.contains_cons]
    by_cases hb : bt s n = c
    · refine ab hb ?_
      rw [hb]
      simp only [beq_self_eq_true, Bool.true_or]
      exact ay _
    · refine ae hb ?_
      rw [w64 (by omega) (by omega)]
      have : (c == bt s n) = false := by simpa using fun h => hb h.symm
      rw [this, Bool.false_or]
      exact ih (n + 1) (by omega)
theorem zI (c : Int) (s : ByteArray) (hs : s.size ≤ 140737488351232) : Ev (fun k => aQ k c s) ((aa s).contains c) := aaa c s hs s.size 0 (by omega)
theorem yS (s t : ByteArray) (hs : s.size ≤ 140737488351232) (ht : t.size ≤ 140737488351232) (i : Nat) (hi : i < s.size) (r : Int) (next : Ev (fun k => d9 k s t ((i + 1 : Nat) : Int)) r) : ∀ d n : Nat, n + d = t.size →
    Ev (fun k => eJ k s t (i : Int) (t.size : Int) (n : Int)) (if ((aa t).drop n).contains (bt s i) then (i : Int) else r) := by
  intro d
  induction d with
  | zero =>
    intro n hn
    refine Ev.step (fun k => rfl) (ae (by omega) ?_)
    rw [List.drop_of_length_le (by rw [af]; omega), w64 (by omega) (by omega)]
    exact next
  | succ d ih =>
    intro n hn
    rcases bB t n (by omega) with ⟨h, _⟩ | ⟨h, e, b0, b1⟩
    · omega
    refine Ev.step (fun k => rfl) (ab (by omega) (ab (by omega) (ab (by omega) (ab (by omega) (ab (by omega) ?_)))))
    rw [e, List.contains_cons]
    by_cases hb : bt s i = bt t n
    · refine ab hb ?_
      have : (bt s (i : Int) == bt t (n : Int)) = true := by simpa using hb
      rw [this]
      exact ay _
    · refine ae hb ?_
      rw [w64 (by omega) (by omega)]
      have : (bt s (i : Int) == bt t (n : Int)) = false := by simpa using hb
      rw [this, Bool.false_or]
      exact ih (n + 1) (by omega)
theorem yR (s t : ByteArray) (hs : s.size ≤ 140737488351232) (ht : t.size ≤ 140737488351232) : ∀ d n : Nat, n + d = s.size →
    Ev (fun k => d9 k s t (n : Int)) (let j := jj (fun b => (aa t).contains b) ((aa s).drop n); if j = -1 then -1 else (n : Int) + j) := by
  intro d
  induction d with
  | zero =>
    intro n hn
    refine Ev.step (fun k => rfl) (ae (by omega) ?_)
    rw [List.drop_of_length_le (by rw [af]; omega)]
    exact ay _
  | succ d ih =>
    intro n hn
    rcases bB s n (by omega) with ⟨h, _⟩ | ⟨h, e, b0, b1⟩
    · omega
    refine Ev.step (fun k => rfl) (ab (by omega) ?_)
    have h1 := yS s t hs ht n h _ (ih (n + 1) (by omega)) t.size 0 (by omega)
    simp only [List.drop_zero] at h1
    rw [e]
    have hg := yQ (fun b => (aa t).contains b) ((aa s).drop (n + 1))
    have key : (if (aa t).contains (bt s (n : Int)) = true then (n : Int) else (let j := jj (fun b => (aa t).contains b) ((aa s).drop (n + 1)); if j = -1 then -1 else ((n + 1 : Nat) : Int) + j)) = (let j := jj (fun b => (aa t).contains b) (bt s (n : Int) :: (aa s).drop (n + 1)); if j = -1 then -1 else (n : Int) + j) := by
      generalize hq : (fun b => (aa t).contains b) = q at *
      have hq2 : (aa t).contains (bt s (n : Int)) = q (bt s (n : Int)) := by rw [← hq]
      rw [hq2]
      by_cases hc : q (bt s (n : Int)) = true
      · have hz : jj q (bt s (n : Int) :: (aa s).drop (n + 1)) = 0 := by rw [nb, if_pos hc]
        simp only [hz, if_pos hc]
        simp
      · by_cases hj : jj q ((aa s).drop (n + 1)) = -1
        · have hz : jj q (bt s (n : Int) :: (aa s).drop (n + 1)) = -1 := by rw [nb, if_neg hc, if_pos hj]
          simp only [hz, hj, if_neg hc, if_true]
        · have hz : jj q (bt s (n : Int) :: (aa s).drop (n + 1)) = jj q ((aa s).drop (n + 1)) + 1 := by
            rw [nb, if_neg hc, if_neg hj]
          simp only [hz, if_neg hc, if_neg hj]
          rw [if_neg (by omega)]
          omega
    rw [← key]
    exact h1
theorem vU (s t : ByteArray) (n : Nat) (hn : n ≤ s.size) (hs : s.size ≤ 140737488351232) (ht : t.size ≤ 140737488351232) :
    Ev (fun k => di k s (n : Int) t) (let j := jj (fun b => (aa t).contains b) ((aa s).drop n); if j = -1 then -1 else (n : Int) + j) := by
  unfold di
  have : mx (n : Int) 0 = (n : Int) := by unfold mx; rw [if_neg (by omega)]
  rw [this]
  exact yR s t hs ht (s.size - n) n (by omega)
end Go.Proofs.YtpmflpeckoeooaaGreatDoor.Y
namespace Go.Proofs.YtpmflpeckoeooaaGreatDoor.Y
open Go.RowKit Go.Proofs.YtpmflpeckoeooaaGreatDoor.X Go.Proofs.YtpmflpeckoeooaaGreatDoor.M Go.Proofs.YtpmflpeckoeooaaGreatDoorW.PrintWords Go.Proofs.YtpmflpeckoeooaaGreatDoorW.PrintLast Go.Proofs.YtpmflpeckoeooaaGreatDoorW.PrintMore
set_option linter.unusedVariables false
theorem zn {b : Int} (h0 : 0 ≤ b) (h1 : b ≤ 255) : Ev (fun k => ij k b) (shp b) :=
  mg (fun k => lx b k) (k := 6) (ci (p := fun b => ij 6 b = some (shp b)) (by decide +kernel) h0 h1)
theorem xt (s : ByteArray) (hs : s.size ≤ 140737488351232) (n : Nat) (_ : n ≤ 4) : ∀ d i : Nat, ∀ lo hi : Int, i + d = n → Ev (fun k => fx k s (n : Int) lo hi (i : Int)) ((i : Int) + aU (n - i) lo hi ((aa s).drop i), (n : Int)) := by
  intro d
  induction d with
  | zero =>
    intro i lo hi hi2
    refine Ev.step (fun k => rfl) (ae (by omega) ?_)
    rw [show n - i = 0 by omega, qX]
    simp only [Int.natCast_zero, Int.add_zero]
    exact ay _
  | succ d ih =>
    intro i lo hi hi2
    refine Ev.step (fun k => rfl) (ab (by omega) ?_)
    rw [show n - i = (n - (i + 1)) + 1 by omega]
    rcases Nat.lt_or_ge i s.size with h | h
    · rcases bB s i (by omega) with ⟨h2, _⟩ | ⟨_, e, b0, b1⟩
      · omega
      refine ab (by omega) (ab (by omega) ?_)
      rw [e]
      by_cases h1 : lo ≤ bt s i
      · refine ab h1 ?_
        by_cases h2 : bt s i ≤ hi
        · refine ab h2 ?_
          rw [w64 (by omega) (by omega)]
          unfold aU
          rw [if_pos ⟨h1, h2⟩]
          have := ih (i + 1) 128 191 (by omega)
          have e3 : ((i : Int) + ((aU (n - (i + 1)) 128 191 ((aa s).drop (i + 1)) + 1 : Nat) : Int), (n : Int)) = (((i + 1 : Nat) : Int) + (aU (n - (i + 1)) 128 191 ((aa s).drop (i + 1)) : Int), (n : Int)) := by
            congr 1; omega
          rw [e3]
          exact this
        · refine ae h2 ?_
          unfold aU
          rw [if_neg (fun x => h2 x.2)]
          simp only [Int.natCast_zero, Int.add_zero]
          exact ay _
      · refine ae h1 ?_
        unfold aU
        rw [if_neg (fun x => h1 x.1)]
        simp only [Int.natCast_zero, Int.add_zero]
        exact ay _
    · refine ae (by omega) ?_
      rw [List.drop_of_length_le (by rw [af]; exact h)]
      unfold aU
      simp only [Int.natCast_zero, Int.add_zero]
      exact ay _
def rW : List Int → Int × Int
  | [] => (0, 0)
  | b :: t => if (shp b).1 = 0 then (1, 0) else ((aU ((shp b).1.toNat - 1) (shp b).2.1 (shp b).2.2 t : Int) + 1, (shp b).1)
theorem pl (b : Int) (t : List Int) : rW (b :: t) = if (shp b).1 = 0 then (1, 0) else ((aU ((shp b).1.toNat - 1) (shp b).2.1 (shp b).2.2 t : Int) + 1, (shp b).1) := rfl
theorem yU (s : ByteArray) (hs : s.size ≤ 140737488351232) : Ev (fun k => ii k s) (rW (aa s)) := by
  unfold ii
  rcases g8 s with ⟨h, e⟩ | ⟨h, e, b0, b1⟩
  · rw [e]
    exact ab (by omega) (ay _)
  · rw [e, pl]
    refine ae (by omega) (ab (by omega) (ai (zn b0 b1) ?_))
    by_cases hz : (shp (bt s 0)).1 = 0
    · rw [if_pos hz]
      exact ab hz (ay _)
    · rw [if_neg hz]
      refine ae hz ?_
      have hr := j6 (bt s 0)
      have := xt s hs (shp (bt s 0)).1.toNat (by omega) ((shp (bt s 0)).1.toNat - 1) 1 (shp (bt s 0)).2.1 (shp (bt s 0)).2.2 (by omega)
      rw [Int.toNat_of_nonneg hr.1] at this
      have e3 : ((aU ((shp (bt s 0)).1.toNat - 1) (shp (bt s 0)).2.1 (shp (bt s 0)).2.2 ((aa s).drop 1) : Int) + 1, (shp (bt s 0)).1) = ((((1 : Nat) : Int) + (aU ((shp (bt s 0)).1.toNat - 1) (shp (bt s 0)).2.1 (shp (bt s 0)).2.2 ((aa s).drop 1) : Int)), (shp (bt s 0)).1) := by
        congr 1; omega
      rw [e3]
      exact this
def bnd : Nat → Int
  | 0 => 33554432
  | 1 => 524288
  | 2 => 8192
  | _ => 128
theorem py {d : Nat} (hd : d < 3) {r c : Int} (h0 : 0 ≤ r) (h : r < bnd (d + 1)) (c0 : 128 ≤ c) (c1 : c ≤ 191) : 0 ≤ r * 64 + (c - 128) ∧ r * 64 + (c - 128) < bnd d ∧ r * 64 < 2147483648 := by
  rcases d with _ | _ | _ | d
  · simp only [bnd] at *; omega
  · simp only [bnd] at *; omega
  · simp only [bnd] at *; omega
  · omega
theorem qM {s : ByteArray} {i n : Nat} (h : i < s.size) (hn : i < n) : ((aa s).take n).drop i = bt s (i : Int) :: ((aa s).take n).drop (i + 1) := by
  rcases bB s i (by omega) with ⟨h2, _⟩ | ⟨_, e, b0, b1⟩
  · omega
  · rw [List.drop_take, List.drop_take, e, show n - i = (n - (i + 1)) + 1 by omega, List.take_succ_cons]
theorem vS (s : ByteArray) (hs : s.size ≤ 140737488351232) (n : Nat) (hn : n ≤ s.size) : ∀ d i : Nat, ∀ r : Int, i + d = n → d ≤ 3 → 0 ≤ r → r < bnd d → (∀ c ∈ ((aa s).take n).drop i, 128 ≤ c ∧ c ≤ 191) →
    Ev (fun k => aZ k s r (n : Int) (i : Int)) (gE r (((aa s).take n).drop i), (n : Int), true) := by
  intro d
  induction d with
  | zero =>
    intro i r hi _ _ _ _
    refine Ev.step (fun k => rfl) (ae (by omega) ?_)
    rw [List.drop_of_length_le (by rw [List.length_take, af]; omega)]
    exact ay _
  | succ d ih =>
    intro i r hi hd r0 r1 hc
    have e := qM (s := s) (i := i) (n := n) (by omega) (by omega)
    rw [e] at hc ⊢
    obtain ⟨c0, c1⟩ := hc _ (List.mem_cons_self ..)
    have hb := py (by omega) r0 r1 c0 c1
    refine Ev.step (fun k => rfl) (ab (by omega) (ab (by omega) (ab (by omega) ?_)))
    rw [w64 (by omega) (by omega), u8_and63 _ (by omega) (by omega)]
    have e1 : wrap32 (bt s (i : Int) % 64) = bt s (i : Int) % 64 := by unfold wrap32; omega
    have e2 : wrap32 (r * 64) = r * 64 := by unfold wrap32; omega
    rw [e1, e2, i32_or6 _ _ (by omega) (by omega) (by omega) (by omega) (by omega)]
    have e3 : r * 64 + bt s (i : Int) % 64 = r * 64 + (bt s (i : Int) - 128) := by omega
    rw [e3]
    exact ih (i + 1) _ (by omega) (by omega) hb.1 hb.2.1 (fun c h => hc c (List.mem_cons_of_mem _ h))
theorem xd {b : Int} (h0 : 0 ≤ b) (h1 : b ≤ 255) : (b < 128 → Go.bits .and .u8 b 127 = b) ∧ Go.bits .and .u8 b 31 = b % 32 ∧ Go.bits .and .u8 b 15 = b % 16 ∧ Go.bits .and .u8 b 7 = b % 8 :=
  ⟨ci (p := fun b => b < 128 → Go.bits .and .u8 b 127 = b) (by decide +kernel) h0 h1, u8_and31 _ (by omega) (by omega), u8_and15 _ (by omega) (by omega), u8_and7 _ (by omega) (by omega)⟩
theorem wo {b : Int} (h0 : 0 ≤ b) (h1 : b ≤ 255) : ((shp b).1 = 1 → b < 128 ∧ cI (shp b).1 b = b) ∧ ((shp b).1 = 2 → b % 32 = cI (shp b).1 b) ∧ ((shp b).1 = 3 → b % 16 = cI (shp b).1 b) ∧ ((shp b).1 = 4 → b % 8 = cI (shp b).1 b) :=
  ci (p := fun b => ((shp b).1 = 1 → b < 128 ∧ cI (shp b).1 b = b) ∧ ((shp b).1 = 2 → b % 32 = cI (shp b).1 b) ∧ ((shp b).1 = 3 → b % 16 = cI (shp b).1 b) ∧ ((shp b).1 = 4 → b % 8 = cI (shp b).1 b)) (by decide +kernel) h0 h1
theorem rR (s : ByteArray) (hs : s.size ≤ 140737488351232) : Ev (fun k => gg k s) (dec (aa s)) := by
  unfold gg
  refine ai (yU s hs) ?_
  rcases g8 s with ⟨h, e⟩ | ⟨h, e, b0, b1⟩
  · rw [e]
    refine ab (by simp [rW]) ?_
    refine Ev.step (fun k => by rw [dz]) ?_
    exact ab rfl (ay _)
  · have hr := j6 (bt s 0)
    rw [e, pl, dk]
    by_cases hz : (shp (bt s 0)).1 = 0
    · simp only [if_pos hz]
      refine ab (by simp) ?_
      refine Ev.step (fun k => by rw [dz]) ?_
      exact ab rfl (ay _)
    · simp only [if_neg hz]
      have hcl := kF ((shp (bt s 0)).1.toNat - 1) (shp (bt s 0)).2.1 (shp (bt s 0)).2.2 ((aa s).drop 1)
      have hcm : 2 ≤ (shp (bt s 0)).1 → ∀ c ∈ ((aa s).drop 1).take (aU ((shp (bt s 0)).1.toNat - 1) (shp (bt s 0)).2.1 (shp (bt s 0)).2.2 ((aa s).drop 1)), 128 ≤ c ∧ c ≤ 191 :=
        fun h2 => lG _ _ _ (hZ h2).1 (hZ h2).2 _
      rw [List.length_drop, af] at hcl
      revert hcl hcm
      generalize aU ((shp (bt s 0)).1.toNat - 1) (shp (bt s 0)).2.1 (shp (bt s 0)).2.2 ((aa s).drop 1) = m
      intro hcl hcm
      refine Ev.step (fun k => by rw [dz]) ?_
      by_cases hlt : (m : Int) + 1 < (shp (bt s 0)).1
      · rw [if_pos hlt]
        exact ab (by simpa using hlt) (ay _)
      · rw [if_neg hlt]
        refine ae (by simpa using hlt) (ab (by omega) (ab (by omega) ?_))
        have hm : m = (shp (bt s 0)).1.toNat - 1 := by omega
        have hl := pL b0 b1 (by omega)
        have hmk := wo b0 b1
        have ham := xd b0 b1
        have key : ∀ n : Nat, (n : Int) = (shp (bt s 0)).1 → 1 ≤ n → ∀ r : Int, r = cI (shp (bt s 0)).1 (bt s 0) → Ev (fun k => aZ k s r (shp (bt s 0)).1 1) (gE (cI (shp (bt s 0)).1 (bt s 0)) (((aa s).drop 1).take ((shp (bt s 0)).1.toNat - 1)), (shp (bt s 0)).1, true) := by
          intro n hn h1n r hrl
          have hbn : r < bnd (n - 1) := by
            rw [hrl]
            rcases n with _ | _ | _ | _ | _ | n
            · omega
            · exact Int.lt_of_lt_of_le hl.2 (by decide)
            · exact Int.lt_of_lt_of_le hl.2 (by decide)
            · exact Int.lt_of_lt_of_le hl.2 (by decide)
            · exact Int.lt_of_lt_of_le hl.2 (by decide)
            · omega
          have := vS s hs n (by omega) (n - 1) 1 r (by omega) (by omega) (by omega) hbn (by
            intro c hc
            rw [List.drop_take] at hc
            by_cases h2 : 2 ≤ (shp (bt s 0)).1
            · exact hcm h2 c (by rw [hm, ← hn, Int.toNat_natCast]; exact hc)
            · rw [show n - 1 = 0 by omega] at hc
              simp at hc)
          rw [hn, List.drop_take] at this
          rw [← hrl, show (shp (bt s 0)).1.toNat - 1 = n - 1 by omega]
          exact this
        refine ae hz ?_
        by_cases h1 : (shp (bt s 0)).1 = 1
        · refine ab h1 ?_
          refine key 1 (by omega) (by omega) _ ?_
          rw [ham.1 (hmk.1 h1).1, (hmk.1 h1).2]
          have := (hmk.1 h1).1
          unfold wrap32; omega
        refine ae h1 ?_
        by_cases h2 : (shp (bt s 0)).1 = 2
        · refine ab h2 ?_
          refine key 2 (by omega) (by omega) _ ?_
          rw [ham.2.1, hmk.2.1 h2]
          unfold wrap32; omega
        refine ae h2 ?_
        by_cases h3 : (shp (bt s 0)).1 = 3
        · refine ab h3 ?_
          refine key 3 (by omega) (by omega) _ ?_
          rw [ham.2.2.1, hmk.2.2.1 h3]
          unfold wrap32; omega
        have h4 : (shp (bt s 0)).1 = 4 := by omega
        refine ae h3 (ab h4 ?_)
        refine key 4 (by omega) (by omega) _ ?_
        rw [ham.2.2.2, hmk.2.2.2 h4]
        unfold wrap32; omega
def rH (f0 f1 s0 s1 : Int) (n : Nat) : List Int → Nat
  | [] => 0
  | b :: t => if f0 ≤ b ∧ b ≤ f1 then aU (n - 1) s0 s1 t + 1 else 0
theorem oa (f0 f1 s0 s1 : Int) (n : Nat) (b : Int) (t : List Int) : rH f0 f1 s0 s1 n (b :: t) = if f0 ≤ b ∧ b ≤ f1 then aU (n - 1) s0 s1 t + 1 else 0 := rfl
theorem yT (s : ByteArray) (hs : s.size ≤ 140737488351232) (f0 f1 s0 s1 : Int) (n : Nat) (hn : n ≤ 4) : ∀ d i : Nat, ∀ lo hi : Int, i + d = n → 1 ≤ i → (i = 1 → lo = s0 ∧ hi = s1) → (i ≠ 1 → lo = 128 ∧ hi = 191) →
    Ev (fun k => bV k s (i : Int) f0 f1 s0 s1 (n : Int)) ((i : Int) + aU (n - i) lo hi ((aa s).drop i)) := by
  intro d
  induction d with
  | zero =>
    intro i lo hi hi2 h1i hlo hhi
    rw [show n - i = 0 by omega, qX]
    simp only [Int.natCast_zero, Int.add_zero]
    refine Ev.step (fun k => by rw [bV]) ?_
    have hd : decide ((i : Int) < (n : Int)) = false := by simp; omega
    rw [hd]
    have fin : Ev (fun k => bU k s (i : Int) false f0 f1 s0 s1 (n : Int)) (i : Int) := by
      refine Ev.step (fun k => by rw [bU]) ?_
      exact ae (by simp) (ay _)
    by_cases h : (i : Int) < (s.size : Int)
    · exact ab h fin
    · exact ae h fin
  | succ d ih =>
    intro i lo hi hi2 h1i hlo hhi
    refine Ev.step (fun k => by rw [bV]) ?_
    rw [show n - i = (n - (i + 1)) + 1 by omega]
    rcases Nat.lt_or_ge i s.size with h | h
    · rcases bB s i (by omega) with ⟨h2, _⟩ | ⟨_, e, b0, b1⟩
      · omega
      have hd : decide ((i : Int) < (n : Int)) = true := by simp; omega
      rw [hd, e]
      refine ab (by omega) ?_
      refine Ev.step (fun k => by rw [bU]) ?_
      refine ab rfl (ae (by omega) ?_)
      refine Ev.step (fun k => by rw [dV]) ?_
      have hw : wrap64 (bt s (i : Int)) = bt s (i : Int) := w64 (by omega) (by omega)
      have hw2 : wrap64 ((i : Int) + 1) = (i : Int) + 1 := w64 (by omega) (by omega)
      rw [hw, hw2]
      have both : ∀ lo' hi' : Int, lo' = lo → hi' = hi → Ev (fun k => if 0 ≤ (i : Int) then if (i : Int) < (s.size : Int) then if bt s (i : Int) < lo' then some (i : Int) else if bt s (i : Int) > hi' then some (i : Int) else bV k s ((i : Int) + 1) f0 f1 s0 s1 (n : Int) else none else none)
          ((i : Int) + (aU (n - (i + 1) + 1) lo hi (bt s (i : Int) :: (aa s).drop (i + 1)) : Int)) := by
        intro lo' hi' e1 e2
        subst e1; subst e2
        refine ab (by omega) (ab (by omega) ?_)
        unfold aU
        by_cases h1 : bt s (i : Int) < lo'
        · refine ab h1 ?_
          rw [if_neg (by omega)]
          simp only [Int.natCast_zero, Int.add_zero]
          exact ay _
        · refine ae h1 ?_
          by_cases h2 : bt s (i : Int) > hi'
          · refine ab h2 ?_
            rw [if_neg (by omega)]
            simp only [Int.natCast_zero, Int.add_zero]
            exact ay _
          · refine ae h2 ?_
            rw [if_pos (by omega)]
            have := ih (i + 1) 128 191 (by omega) (by omega) (by omega) (by omega)
            have e3 : ((i : Int) + ((aU (n - (i + 1)) 128 191 ((aa s).drop (i + 1)) + 1 : Nat) : Int)) = (((i + 1 : Nat) : Int) + (aU (n - (i + 1)) 128 191 ((aa s).drop (i + 1)) : Int)) := by omega
            rw [e3]
            exact this
      by_cases hi1 : i = 1
      · refine ab (by omega) ?_
        exact both s0 s1 (hlo hi1).1.symm (hlo hi1).2.symm
      · refine ae (by omega) ?_
        exact both 128 191 (hhi hi1).1.symm (hhi hi1).2.symm
    · refine ae (by omega) ?_
      rw [List.drop_of_length_le (by rw [af]; exact h)]
      refine Ev.step (fun k => by rw [bU]) ?_
      unfold aU
      simp only [Int.natCast_zero, Int.add_zero]
      exact ae (by simp) (ay _)
theorem vV (s : ByteArray) (hs : s.size ≤ 140737488351232) (f0 f1 s0 s1 : Int) (n : Nat) (h1 : 1 ≤ n) (hn : n ≤ 4) : Ev (fun k => gt k s f0 f1 s0 s1 (n : Int)) (rH f0 f1 s0 s1 n (aa s) : Int) := by
  unfold gt
  refine Ev.step (fun k => by rw [bV]) ?_
  rcases g8 s with ⟨h, e⟩ | ⟨h, e, b0, b1⟩
  · rw [e]
    refine ae (by omega) ?_
    refine Ev.step (fun k => by rw [bU]) ?_
    exact ae (by simp) (ay _)
  · rw [e, oa]
    have hd : decide ((0 : Int) < (n : Int)) = true := by simp; omega
    rw [hd]
    refine ab (by omega) ?_
    refine Ev.step (fun k => by rw [bU]) ?_
    refine ab rfl (ab rfl ?_)
    refine Ev.step (fun k => by rw [dV]) ?_
    have hw : wrap64 (bt s 0) = bt s 0 := w64 (by omega) (by omega)
    have hw2 : wrap64 ((0 : Int) + 1) = ((1 : Nat) : Int) := w64 (by omega) (by omega)
    rw [hw, hw2]
    refine ae (by omega) (ab (by omega) (ab (by omega) ?_))
    by_cases h2 : bt s 0 < f0
    · rw [if_neg (by omega)]
      exact ab h2 (ay _)
    · refine ae h2 ?_
      by_cases h3 : bt s 0 > f1
      · rw [if_neg (by omega)]
        exact ab h3 (ay _)
      · rw [if_pos (by omega)]
        refine ae h3 ?_
        have := yT s hs f0 f1 s0 s1 n hn (n - 1) 1 s0 s1 (by omega) (by omega) (by simp) (by simp)
        have e3 : ((aU (n - 1) s0 s1 ((aa s).drop 1) + 1 : Nat) : Int) = ((1 : Nat) : Int) + (aU (n - 1) s0 s1 ((aa s).drop 1) : Int) := by omega
        rw [e3]
        exact this
theorem wK (s : ByteArray) (hs : s.size ≤ 4) : ∀ d i : Nat, ∀ r : Int, i + d = s.size → d ≤ 3 → 0 ≤ r → r < bnd d → (∀ c ∈ (aa s).drop i, 128 ≤ c ∧ c ≤ 191) →
    Ev (fun k => cr k s r (i : Int)) (gE r ((aa s).drop i)) := by
  intro d
  induction d with
  | zero =>
    intro i r hi _ _ _ _
    refine Ev.step (fun k => by rw [cr]) ?_
    refine ae (by omega) ?_
    rw [List.drop_of_length_le (by rw [af]; omega)]
    exact ay _
  | succ d ih =>
    intro i r hi hd r0 r1 hc
    rcases bB s i (by omega) with ⟨h2, _⟩ | ⟨_, e, b0, b1⟩
    · omega
    rw [e] at hc ⊢
    obtain ⟨c0, c1⟩ := hc _ (List.mem_cons_self ..)
    have hb := py (by omega) r0 r1 c0 c1
    refine Ev.step (fun k => by rw [cr]) ?_
    refine ab (by omega) (ab (by omega) ?_)
    have e1 : wrap64 (wrap64 (wrap64 (r * 64) + wrap64 (bt s (i : Int))) - 128) = r * 64 + (bt s (i : Int) - 128) := by
      rw [w64 (x := r * 64) (by omega) (by omega), w64 (x := bt s (i : Int)) (by omega) (by omega), w64 (x := r * 64 + bt s (i : Int)) (by omega) (by omega), w64 (by omega) (by omega)]
      omega
    rw [e1, w64 (by omega) (by omega)]
    exact ih (i + 1) _ (by omega) (by omega) hb.1 hb.2.1 (fun c h => hc c (List.mem_cons_of_mem _ h))
theorem xT (s : ByteArray) (n : Nat) (hn : s.size = n) (h1 : 1 ≤ n) (h4 : n ≤ 4) (l0 : 0 ≤ cI (n : Int) (bt s 0)) (l1 : cI (n : Int) (bt s 0) < 128) (hc : ∀ c ∈ (aa s).drop 1, 128 ≤ c ∧ c ≤ 191) :
    Ev (fun k => eR k s) (gE (cI (n : Int) (bt s 0)) ((aa s).drop 1)) := by
  have hr := jN s 0
  have loop : 2 ≤ n → ∀ r, r = cI (n : Int) (bt s 0) → Ev (fun k => cr k s r 1) (gE (cI (n : Int) (bt s 0)) ((aa s).drop 1)) := by
    intro h2 r e
    subst e
    have hbn : cI (n : Int) (bt s 0) < bnd (n - 1) := by
      rcases n with _ | _ | _ | _ | _ | n
      · omega
      · omega
      · exact Int.lt_of_lt_of_le l1 (by decide)
      · exact Int.lt_of_lt_of_le l1 (by decide)
      · exact Int.lt_of_lt_of_le l1 (by decide)
      · omega
    exact wK s (by omega) (n - 1) 1 _ (by omega) (by omega) l0 hbn hc
  have tail : 2 ≤ n → ∀ r, r = cI (n : Int) (bt s 0) → Ev (fun k => dE k s r) (gE (cI (n : Int) (bt s 0)) ((aa s).drop 1)) := by
    intro h2 r e
    refine Ev.step (fun k => by rw [dE]) ?_
    exact loop h2 r e
  unfold eR
  by_cases e1 : n = 1
  · refine ab (by omega) (ab (by omega) ?_)
    rw [List.drop_of_length_le (by rw [af]; omega), w64 (by omega) (by omega), e1]
    have : cI ((1 : Nat) : Int) (bt s 0) = bt s 0 := by unfold cI; simp
    rw [this]
    exact ay _
  refine ae (by omega) (ab (by omega) ?_)
  have w0 : wrap64 (bt s 0) = bt s 0 := w64 (by omega) (by omega)
  rw [w0]
  by_cases e3 : n = 3
  · refine ab (by omega) ?_
    refine Ev.step (fun k => by rw [dD]) ?_
    refine ae (by omega) ?_
    refine tail (by omega) _ ?_
    rw [w64 (by omega) (by omega)]
    subst e3
    unfold cI
    simp
  · refine ae (by omega) ?_
    refine Ev.step (fun k => by rw [dD]) ?_
    by_cases e4 : n = 4
    · refine ab (by omega) (ab (by omega) ?_)
      rw [w0]
      refine tail (by omega) _ ?_
      rw [w64 (by omega) (by omega)]
      subst e4
      unfold cI
      simp
    · refine ae (by omega) ?_
      refine tail (by omega) _ ?_
      rw [w64 (by omega) (by omega)]
      have e2 : n = 2 := by omega
      subst e2
      unfold cI
      simp
theorem vp (s : ByteArray) (n : Nat) (hn : n ≤ s.size) (h1 : 1 ≤ n) (h4 : n ≤ 4) (l0 : 0 ≤ cI (n : Int) (bt s 0)) (l1 : cI (n : Int) (bt s 0) < 128) (hc : 2 ≤ n → ∀ c ∈ ((aa s).drop 1).take (n - 1), 128 ≤ c ∧ c ≤ 191) :
    Ev (fun k => eR k (s.extract 0 n)) (gE (cI (n : Int) (bt s 0)) (((aa s).drop 1).take (n - 1))) := by
  have hb : aa (s.extract 0 n) = bt s 0 :: ((aa s).drop 1).take (n - 1) := by
    rcases g8 s with ⟨h, _⟩ | ⟨_, e, _⟩
    · omega
    · rw [au, List.drop_zero]
      conv => lhs; rw [e, show n = (n - 1) + 1 by omega, List.take_succ_cons]
  have hsz : (s.extract 0 n).size = n := by
    rw [← af, hb, List.length_cons, List.length_take, List.length_drop, af]; omega
  have hb0 : bt (s.extract 0 n) 0 = bt s 0 := by
    rcases g8 (s.extract 0 n) with ⟨h, _⟩ | ⟨_, e2, _⟩
    · omega
    · rw [hb] at e2
      injection e2 with e2 _
      exact e2.symm
  have := xT (s.extract 0 n) n hsz h1 h4 (by rw [hb0]; exact l0) (by rw [hb0]; exact l1) (by
    intro c hcc
    rw [hb, List.drop_succ_cons, List.drop_zero] at hcc
    by_cases h2 : 2 ≤ n
    · exact hc h2 c hcc
    · rw [show n - 1 = 0 by omega] at hcc
      simp at hcc)
  rw [hb0, hb, List.drop_succ_cons, List.drop_zero] at this
  exact this
def fT (b : Int) : Nat :=
  if b < 128 then 0 else if b < 194 then 9 else if b ≤ 223 then 1 else if b = 224 then 2 else if b ≤ 236 then 3 else if b = 237 then 4 else if b ≤ 239 then 5
  else if b = 240 then 6 else if b ≤ 243 then 7 else if b = 244 then 8 else 9
theorem wM {b : Int} (h0 : 0 ≤ b) (h1 : b ≤ 255) : ∀ j : Nat, j < 9 → ((ah j 0 ≤ b ∧ b ≤ ah j 1) ↔ fT b = j) := by
  intro j hj
  have := ci (p := fun b => ∀ j : Fin 9, (ah j.val 0 ≤ b ∧ b ≤ ah j.val 1) ↔ fT b = j.val) (by decide +kernel) h0 h1
  exact this ⟨j, hj⟩
theorem zm {b : Int} (h0 : 0 ≤ b) (h1 : b ≤ 255) : (fT b < 9 → shp b = (ah (fT b) 4, ah (fT b) 2, ah (fT b) 3)) ∧ (9 ≤ fT b → shp b = (0, 0, 0)) :=
  ci (p := fun b => (fT b < 9 → shp b = (ah (fT b) 4, ah (fT b) 2, ah (fT b) 3)) ∧ (9 ≤ fT b → shp b = (0, 0, 0))) (by decide +kernel) h0 h1
theorem yx (j : Nat) (hj : j < 9) : ∃ n : Nat, ah j 4 = (n : Int) ∧ 1 ≤ n ∧ n ≤ 4 := by
  have : ∀ j : Fin 9, 1 ≤ ah j.val 4 ∧ ah j.val 4 ≤ 4 := by decide +kernel
  obtain ⟨h1, h2⟩ := this ⟨j, hj⟩
  simp only at h1 h2
  exact ⟨(ah j 4).toNat, by omega, by omega, by omega⟩
theorem yw (i : Nat) (hi : i < 9) : gN (i : Int) = some (ah i 0, ah i 1, ah i 2, ah i 3, ah i 4) := by
  unfold gN
  rw [if_pos (by omega), Int.toNat_natCast]
theorem xX (s : ByteArray) (hs : s.size ≤ 140737488351232) (hp : 0 < s.size) (best : Int) (hb : 1 ≤ best) (i : Nat) (hi : i < 9) (hne : fT (bt s 0) ≠ i) (r : Int × Int × Bool)
    (h : Ev (fun k => bc k s best ((i + 1 : Nat) : Int)) r) : Ev (fun k => bc k s best (i : Int)) r := by
  obtain ⟨n, en, n1, n4⟩ := yx i hi
  have hr := jN s 0
  rcases g8 s with ⟨h0, _⟩ | ⟨_, e, b0, b1⟩
  · omega
  refine Ev.step (fun k => by rw [bc]) ?_
  refine ab (by omega) (bD (yw i hi) ?_)
  simp only
  rw [en]
  refine ai (vV s hs _ _ _ _ n n1 n4) ?_
  have hz : rH (ah i 0) (ah i 1) (ah i 2) (ah i 3) n (aa s) = 0 := by
    rw [e, oa, if_neg (fun x => hne ((wM b0 b1 i hi).1 x))]
  rw [hz]
  refine ae (by omega) ?_
  have hm : mx best ((0 : Nat) : Int) = best := by unfold mx; rw [if_neg (by omega)]
  rw [hm, w64 (by omega) (by omega)]
  exact h
theorem oZ (s : ByteArray) (hs : s.size ≤ 140737488351232) (hp : 0 < s.size) (best : Int) (hb : 1 ≤ best) (r : Int × Int × Bool) (j : Nat) (hj : j ≤ 9) (h : Ev (fun k => bc k s best (j : Int)) r) :
    ∀ d i : Nat, i + d = j → (∀ m, i ≤ m → m < j → fT (bt s 0) ≠ m) → Ev (fun k => bc k s best (i : Int)) r := by
  intro d
  induction d with
  | zero => intro i hi _; rw [show i = j by omega]; exact h
  | succ d ih =>
    intro i hi hm
    exact xX s hs hp best hb i (by omega) (hm i (by omega) (by omega)) r (ih (i + 1) (by omega) (fun m h1 h2 => hm m (by omega) h2))
theorem um (s : ByteArray) (best : Int) : Ev (fun k => bc k s best ((9 : Nat) : Int)) (0, best, false) := by
  refine Ev.step (fun k => by rw [bc]) ?_
  exact ae (by decide) (ay _)
set_option maxHeartbeats 1000000 in
theorem pr (s : ByteArray) (hs : s.size ≤ 140737488351232) : Ev (fun k => ex k s) (dec (aa s)) := by
  unfold ex
  have hnil : s.toList = ([] : List UInt8) ↔ aa s = [] := by
    rw [jz]
    unfold aa
    exact List.map_eq_nil_iff.symm
  rcases g8 s with ⟨h0, e⟩ | ⟨hp, e, b0, b1⟩
  · rw [e]
    exact ab (hnil.2 e) (ay _)
  · refine ae (fun h => by rw [hnil.1 h] at e; cases e) ?_
    obtain ⟨hsh1, hsh2⟩ := zm b0 b1
    rcases Nat.lt_or_ge (fT (bt s 0)) 9 with hlt | hge
    · obtain ⟨n, en, n1, n4⟩ := yx _ hlt
      have hshp := hsh1 hlt
      have skipTo : ∀ r, Ev (fun k => bc k s 1 ((fT (bt s 0) : Nat) : Int)) r → Ev (fun k => bc k s 1 0) r := by
        intro r h
        exact oZ s hs hp 1 (by omega) r (fT (bt s 0)) (by omega) h (fT (bt s 0)) 0 (by omega) (fun m _ h2 => by omega)
      refine skipTo _ ?_
      refine Ev.step (fun k => by rw [bc]) ?_
      refine ab (by omega) (bD (yw _ hlt) ?_)
      simp only
      rw [en]
      refine ai (vV s hs _ _ _ _ n n1 n4) ?_
      have hfit : rH (ah (fT (bt s 0)) 0) (ah (fT (bt s 0)) 1) (ah (fT (bt s 0)) 2) (ah (fT (bt s 0)) 3) n (aa s)
          = aU (n - 1) (shp (bt s 0)).2.1 (shp (bt s 0)).2.2 ((aa s).drop 1) + 1 := by
        have hin := (wM b0 b1 _ hlt).2 rfl
        rw [hshp]
        conv => lhs; rw [e]
        rw [oa, if_pos hin]
      rw [hfit]
      have h1 : (shp (bt s 0)).1 = (n : Int) := by rw [hshp]; exact en
      have hdec := dk (bt s 0) ((aa s).drop 1)
      rw [← e, h1, if_neg (by omega), Int.toNat_natCast] at hdec
      rw [hdec]
      have hcl := kF (n - 1) (shp (bt s 0)).2.1 (shp (bt s 0)).2.2 ((aa s).drop 1)
      have hcm : 2 ≤ (shp (bt s 0)).1 → ∀ c ∈ ((aa s).drop 1).take (aU (n - 1) (shp (bt s 0)).2.1 (shp (bt s 0)).2.2 ((aa s).drop 1)), 128 ≤ c ∧ c ≤ 191 :=
        fun h2 => lG _ _ _ (hZ h2).1 (hZ h2).2 _
      rw [List.length_drop, af] at hcl
      have hlead := pL b0 b1 (by omega)
      rw [h1] at hcm hlead
      revert hcl hcm
      generalize aU (n - 1) (shp (bt s 0)).2.1 (shp (bt s 0)).2.2 ((aa s).drop 1) = m
      intro hcl hcm
      by_cases hm : (m : Int) + 1 < (n : Int)
      · rw [if_pos hm]
        refine ae (by omega) ?_
        have hmx : mx 1 ((m + 1 : Nat) : Int) = (m : Int) + 1 := by unfold mx; split <;> omega
        rw [hmx, w64 (by omega) (by omega)]
        exact oZ s hs hp ((m : Int) + 1) (by omega) _ 9 (by omega) (um s _) (9 - (fT (bt s 0) + 1)) (fT (bt s 0) + 1) (by omega) (fun k h1 h2 => by omega)
      · rw [if_neg hm]
        have hmn : m + 1 = n := by omega
        rw [hmn, Int.toNat_natCast]
        refine ab rfl (ab (by omega) (ab (by omega) ?_))
        refine ai (vp s n (by omega) n1 n4 hlead.1 hlead.2 (fun h2 c hc => hcm (by omega) c (by rw [show m = n - 1 by omega]; exact hc))) ?_
        exact ay _
    · have hshp := hsh2 hge
      have hdec := dk (bt s 0) ((aa s).drop 1)
      rw [← e, hshp, if_pos rfl] at hdec
      rw [hdec]
      exact oZ s hs hp 1 (by omega) _ 9 (by omega) (um s 1) 9 0 (by omega) (fun m _ h2 => by omega)
end Go.Proofs.YtpmflpeckoeooaaGreatDoor.Y
namespace Go.Proofs.YtpmflpeckoeooaaGreatDoor.M
open Go Go.RowKit Go.Proofs.YtpmflpeckoeooaaGreatDoorW.PrintWords
set_option linter.unusedVariables false
def gL : List Int → Int
  | p :: a :: b :: _ => if p = 37 then (if hv a < 0 ∨ hv b < 0 then -1 else 16 * hv a + hv b) else -1
  | _ => -1
theorem rU {l : List Int} (h : 0 ≤ gL l) : ∃ a b t, l = 37 :: a :: b :: t ∧ bC a = true ∧ bC b = true ∧ gL l = 16 * hv a + hv b := by
  unfold gL at h ⊢
  split at h
  · rename_i p a b t
    by_cases hp : p = 37
    · rw [if_pos hp] at h ⊢
      by_cases h2 : hv a < 0 ∨ hv b < 0
      · rw [if_pos h2] at h; omega
      · rw [if_neg h2]
        subst hp
        exact ⟨a, b, t, rfl, (kO a).1 (by omega), (kO b).1 (by omega), rfl⟩
    · rw [if_neg hp] at h; omega
  · omega
def dN (p : Int) : Bool := decide (1 ≤ p ∧ p ≤ 7)
def kN (p b : Int) : Bool :=
  if p = 1 then b == 58 else if p = 3 then b == 58 || b == 64 else if p = 4 then b == 64 else if p = 5 then b == 58 || b == 64 || b == 47
  else if p = 6 ∨ p = 7 then b == 58 || b == 64 || b == 47 || b == 63 else false
def cf (p b : Int) : Bool := dN p && (lO b || kN p b)
def iL (r : Int) : Bool := decide (160 ≤ r ∧ r ≤ 55295 ∨ 63744 ≤ r ∧ r ≤ 64975 ∨ 65008 ≤ r ∧ r ≤ 65519 ∨ 65536 ≤ r ∧ r ≤ 983037 ∧ r % 65536 ≤ 65533 ∧ (r < 917504 ∨ 921600 ≤ r))
def sl (r : Int) : Bool := decide (57344 ≤ r ∧ r ≤ 63743 ∨ 983040 ≤ r ∧ r ≤ 1048573 ∨ 1048576 ≤ r ∧ r ≤ 1114109)
def gG (p : Int) (iri : Bool) (r : Int) : Bool := if 0 ≤ r ∧ r < 128 then cf p r else (iri && dN p && (iL r || (decide (p = 6) && sl r)))
def aT (p : Int) (iri : Bool) (l : List Int) : Nat :=
  if dN p then (if 0 ≤ gL l then 3 else if (dec l).2.2 && gG p iri (dec l).1 then (dec l).2.1.toNat else 0) else 0
theorem kY (p : Int) (iri : Bool) (l : List Int) : aT p iri l ≤ l.length := by
  unfold aT
  split
  · split
    · rename_i h
      obtain ⟨a, b, t, rfl, _⟩ := rU h
      simp
    · split
      · have := pW l; omega
      · omega
  · omega
theorem sv (p : Int) (iri : Bool) : aT p iri [] = 0 := by
  have := kY p iri []
  simpa using this
def an (p : Int) (iri : Bool) (l : List Int) : Nat :=
  if h : aT p iri l = 0 then 0 else aT p iri l + an p iri (l.drop (aT p iri l))
termination_by l.length
decreasing_by
  have := kY p iri l
  rw [List.length_drop]
  omega
theorem im (p : Int) (iri : Bool) (l : List Int) : an p iri l = if aT p iri l = 0 then 0 else aT p iri l + an p iri (l.drop (aT p iri l)) := by
  rw [an]
  split <;> simp_all
theorem g0 (p : Int) (iri : Bool) (l : List Int) : an p iri l ≤ l.length := by
  induction hn : l.length using Nat.strongRecOn generalizing l with
  | _ n ih =>
    rw [im]
    split
    · omega
    · have h1 := kY p iri l
      have := ih (l.drop (aT p iri l)).length (by rw [List.length_drop]; omega) (l.drop (aT p iri l)) rfl
      rw [List.length_drop] at this
      omega
theorem ow (p : Int) (iri : Bool) : an p iri [] = 0 := by
  have := g0 p iri []
  simpa using this
def bo (p : Int) (iri : Bool) (l : List Int) : Bool := an p iri l == l.length
theorem lD (p : Int) (iri : Bool) : bo p iri [] = true := by simp [bo, ow]
def jq (p b : Int) : Bool := decide (128 ≤ b) || (b == 37) || lO b || kN p b
theorem pm {p b : Int} (h : bC b = true) : jq p b = true := by
  unfold jq
  rw [uI h]
  simp
theorem vy {p : Int} {iri : Bool} {l : List Int} (hl : ∀ b ∈ l, 0 ≤ b ∧ b ≤ 255) : ∀ b ∈ l.take (aT p iri l), jq p b = true := by
  unfold aT
  split
  · split
    · rename_i h
      obtain ⟨a, b, t, rfl, ha, hb, _⟩ := rU h
      intro c hc
      simp only [List.take_succ_cons, List.take_zero, List.mem_cons, List.mem_nil_iff, or_false] at hc
      rcases hc with rfl | rfl | rfl
      · simp [jq]
      · exact pm ha
      · exact pm hb
    · split
      · rename_i h
        rw [Bool.and_eq_true] at h
        cases l with
        | nil => simp
        | cons b t =>
          have hb := hl b (List.mem_cons_self ..)
          by_cases h128 : b < 128
          · rw [kL t h128] at h ⊢
            simp only [Int.toNat_one, List.take_succ_cons, List.take_zero]
            intro c hc
            rw [List.mem_singleton] at hc
            subst hc
            have h2 := h.2
            unfold gG at h2
            rw [if_pos ⟨hb.1, h128⟩] at h2
            unfold cf at h2
            unfold jq
            simp only [Bool.and_eq_true, Bool.or_eq_true] at h2 ⊢
            rcases h2.2 with h3 | h3
            · exact .inl (.inr h3)
            · exact .inr h3
          · intro c hc
            have := (xm (t := t) (by omega) hb.2 h.1).2 c hc
            unfold jq
            simp [this]
      · simp
  · simp
theorem vv {p : Int} {iri : Bool} {l : List Int} (hl : ∀ b ∈ l, 0 ≤ b ∧ b ≤ 255) : ∀ b ∈ l.take (an p iri l), jq p b = true := by
  induction hn : l.length using Nat.strongRecOn generalizing l with
  | _ n ih =>
    rw [im]
    split
    · simp
    · have h1 := kY p iri l
      have h2 := ih (l.drop (aT p iri l)).length (by rw [List.length_drop]; omega) (fun b hb => hl b (List.mem_of_mem_drop hb)) rfl
      intro b hb
      rw [List.take_add] at hb
      rcases List.mem_append.1 hb with h | h
      · exact vy hl b h
      · exact h2 b h
theorem ks {p : Int} {iri : Bool} {l : List Int} (hl : ∀ b ∈ l, 0 ≤ b ∧ b ≤ 255) (h : bo p iri l = true) : ∀ b ∈ l, jq p b = true := by
  have h2 : an p iri l = l.length := by simpa [bo] using h
  have := vv (p := p) (iri := iri) hl
  rw [h2, List.take_length] at this
  exact this
end Go.Proofs.YtpmflpeckoeooaaGreatDoor.M
namespace Go.Proofs.YtpmflpeckoeooaaGreatDoor.Y
open Go.RowKit Go.Proofs.YtpmflpeckoeooaaGreatDoor.X Go.Proofs.YtpmflpeckoeooaaGreatDoor.M Go.Proofs.YtpmflpeckoeooaaGreatDoorW.PrintWords Go.Proofs.YtpmflpeckoeooaaGreatDoorW.PrintLast Go.Proofs.YtpmflpeckoeooaaGreatDoorW.PrintMore
set_option linter.unusedVariables false
theorem yn {s : ByteArray} {i : Nat} (h : i + 3 ≤ s.size) : (aa s).drop i = bt s (i : Int) :: bt s ((i : Int) + 1) :: bt s ((i : Int) + 2) :: (aa s).drop (i + 3) := by
  rcases bB s i (by omega) with ⟨h2, _⟩ | ⟨_, e, _⟩
  · omega
  rcases bB s (i + 1) (by omega) with ⟨h2, _⟩ | ⟨_, e2, _⟩
  · omega
  rcases bB s (i + 2) (by omega) with ⟨h2, _⟩ | ⟨_, e3, _⟩
  · omega
  rw [e, e2, e3]
  rfl
theorem n8 {l : List Int} (h : l.length < 3) : gL l = -1 := by
  match l, h with
  | [], _ => rfl
  | [_], _ => rfl
  | [_, _], _ => rfl
  | _ :: _ :: _ :: _, h => simp only [List.length_cons] at h; omega
theorem pY (p a b : Int) (t : List Int) : gL (p :: a :: b :: t) = if p = 37 then (if hv a < 0 ∨ hv b < 0 then -1 else 16 * hv a + hv b) else -1 := rfl
theorem xw {a b : Int} (ha : 0 ≤ a) (ha1 : a ≤ 15) (hb : 0 ≤ b) (hb1 : b ≤ 15) : (Go.bits .or .i64 (wrap64 (a * 16)) b) % 256 = 16 * a + b := by
  have : ∀ x : Fin 16, ∀ y : Fin 16, (Go.bits .or .i64 (wrap64 (((x.val : Nat) : Int) * 16)) ((y.val : Nat) : Int)) % 256 = 16 * ((x.val : Nat) : Int) + ((y.val : Nat) : Int) := by decide +kernel
  have := this ⟨a.toNat, by omega⟩ ⟨b.toNat, by omega⟩
  simp only at this
  rwa [Int.toNat_of_nonneg ha, Int.toNat_of_nonneg hb] at this
theorem yO (s : ByteArray) (i : Nat) (hi : i ≤ s.size) (hs : s.size ≤ 140737488351232) : Ev (fun k => ib k s (i : Int)) (if gL ((aa s).drop i) < 0 then (0, false) else (gL ((aa s).drop i), true)) := by
  unfold ib
  refine ae (by omega) ?_
  have bad : ∀ r, r = (0, false) → Ev (fun k => dA k s (i : Int) true) r := by
    intro r e
    subst e
    refine Ev.step (fun k => by rw [dA]) ?_
    exact ab rfl (ay _)
  rw [w64 (by omega) (by omega)]
  by_cases h3 : i + 3 ≤ s.size
  · refine ae (by omega) (ab (by omega) (ab (by omega) ?_))
    rw [yn h3, pY]
    by_cases hp : bt s (i : Int) = 37
    · rw [if_pos hp, hp]
      refine Ev.step (fun k => by rw [dA]) ?_
      refine ae (by decide) ?_
      have r1 := jN s ((i : Int) + 1)
      have r2 := jN s ((i : Int) + 2)
      have v1 := kH (bt s ((i : Int) + 1))
      have v2 := kH (bt s ((i : Int) + 2))
      rw [w64 (x := (i : Int) + 1) (by omega) (by omega), w64 (x := (i : Int) + 2) (by omega) (by omega)]
      refine ab (by omega) (ab (by omega) (ai (qO r1.1 r1.2) (ab (by omega) (ab (by omega) (ai (qO r2.1 r2.2) ?_)))))
      generalize hv (bt s ((i : Int) + 1)) = x at v1 ⊢
      generalize hv (bt s ((i : Int) + 2)) = y at v2 ⊢
      by_cases h1 : x < 0
      · have h3 : x < 0 ∨ y < 0 := .inl h1
        simp only [if_pos h1, if_pos h3]
        exact ae (by simp) (ay _)
      · simp only [if_neg h1]
        refine ab (by simp) ?_
        by_cases h2 : y < 0
        · have h3 : x < 0 ∨ y < 0 := .inr h2
          simp only [if_pos h2, if_pos h3]
          exact ae (by simp) (ay _)
        · have h3 : ¬ (x < 0 ∨ y < 0) := by omega
          simp only [if_neg h2, if_neg h3]
          refine ab (by simp) ?_
          rw [if_neg (by omega), xw (by omega) (by omega) (by omega) (by omega)]
          exact ay _
    · rw [if_neg hp, if_pos (by omega)]
      have : (bt s (i : Int) != 37) = true := by simpa using hp
      rw [this]
      exact bad _ rfl
  · refine ab (by omega) ?_
    rw [n8 (by rw [List.length_drop, af]; omega), if_pos (by omega)]
    exact bad _ rfl
theorem zi (s : ByteArray) (i : Nat) (hi : i ≤ s.size) (hs : s.size ≤ 140737488351232) : Ev (fun k => hM k s (i : Int)) (gL ((aa s).drop i)) := by
  unfold hM
  refine ae (by omega) ?_
  have bad : ∀ r, r = -1 → Ev (fun k => aaz k s (i : Int) true) r := by
    intro r e
    subst e
    refine Ev.step (fun k => by rw [aaz]) ?_
    exact ab rfl (ay _)
  by_cases h0 : i < s.size
  · refine ae (by omega) ?_
    rw [w64 (by omega) (by omega)]
    by_cases h3 : i + 3 ≤ s.size
    · refine ae (by omega) (ab (by omega) (ab (by omega) ?_))
      rw [yn h3, pY]
      by_cases hp : bt s (i : Int) = 37
      · rw [if_pos hp, hp]
        refine Ev.step (fun k => by rw [aaz]) ?_
        refine ae (by decide) ?_
        have r1 := jN s ((i : Int) + 1)
        have r2 := jN s ((i : Int) + 2)
        have v1 := kH (bt s ((i : Int) + 1))
        have v2 := kH (bt s ((i : Int) + 2))
        rw [w64 (x := (i : Int) + 1) (by omega) (by omega), w64 (x := (i : Int) + 2) (by omega) (by omega)]
        refine ab (by omega) (ab (by omega) (ai (mq r1.1 r1.2) (ab (by omega) (ab (by omega) (ai (mq r2.1 r2.2) ?_)))))
        generalize hv (bt s ((i : Int) + 1)) = x at v1 ⊢
        generalize hv (bt s ((i : Int) + 2)) = y at v2 ⊢
        by_cases h1 : x < 0
        · have h3 : x < 0 ∨ y < 0 := .inl h1
          rw [if_pos h3]
          exact ab h1 (ay _)
        · refine ae h1 ?_
          by_cases h2 : y < 0
          · have h3 : x < 0 ∨ y < 0 := .inr h2
            rw [if_pos h3]
            exact ab h2 (ay _)
          · have h3 : ¬ (x < 0 ∨ y < 0) := by omega
            refine ae h2 ?_
            rw [if_neg h3, w64 (x := 16 * x) (by omega) (by omega), w64 (by omega) (by omega)]
            exact ay _
      · rw [if_neg hp]
        have : (bt s (i : Int) != 37) = true := by simpa using hp
        rw [this]
        exact bad _ rfl
    · refine ab (by omega) ?_
      rw [n8 (by rw [List.length_drop, af]; omega)]
      exact bad _ rfl
  · refine ab (by omega) ?_
    rw [n8 (by rw [List.length_drop, af]; omega)]
    exact bad _ rfl
theorem o7 (p : Int) : ∃ t, g9 p = some (t, dN p) := by
  unfold g9 dN
  by_cases h1 : p = 1
  · subst h1; exact ⟨_, rfl⟩
  by_cases h2 : p = 2
  · subst h2; exact ⟨_, rfl⟩
  by_cases h3 : p = 3
  · subst h3; exact ⟨_, rfl⟩
  by_cases h4 : p = 4
  · subst h4; exact ⟨_, rfl⟩
  by_cases h5 : p = 5
  · subst h5; exact ⟨_, rfl⟩
  by_cases h6 : p = 6
  · subst h6; exact ⟨_, rfl⟩
  by_cases h7 : p = 7
  · subst h7; exact ⟨_, rfl⟩
  · rw [if_neg h1, if_neg h2, if_neg h3, if_neg h4, if_neg h5, if_neg h6, if_neg h7]
    exact ⟨_, by rw [decide_eq_false (by omega)]⟩
theorem rn {q : Int → Prop} (h : ∀ n : Fin 7, q ((n.val : Nat) + 1 : Int)) {p : Int} (hp : dN p = true) : q p := by
  have hp : 1 ≤ p ∧ p ≤ 7 := by simpa [dN] using hp
  have := h ⟨(p - 1).toNat, by omega⟩
  simp only at this
  rwa [Int.toNat_of_nonneg (by omega), show p - 1 + 1 = p by omega] at this
theorem uj {p b : Int} (h0 : 0 ≤ b) (h1 : b ≤ 255) : Ev (fun k => d7 k p b) (cf p b) := by
  by_cases hp : dN p = true
  · refine mg (fun k => it p b k) (k := 20) ?_
    refine rn (q := fun p => d7 20 p b = some (cf p b)) ?_ hp
    intro n
    exact ci (p := fun b => d7 20 ((n.val : Nat) + 1 : Int) b = some (cf ((n.val : Nat) + 1 : Int) b)) (by revert n; decide +kernel) h0 h1
  · unfold d7 cf
    obtain ⟨t, e⟩ := o7 p
    refine bD e ?_
    rw [Bool.not_eq_true] at hp
    rw [hp]
    exact ae (by simp) (ay _)
theorem u3 {p b : Int} (h0 : 0 ≤ b) (h1 : b ≤ 255) : Ev (fun k => b9 k p b) (cf p b) := by
  by_cases hp : dN p = true
  · refine mg (fun k => mV p b k) (k := 70) ?_
    refine rn (q := fun p => b9 70 p b = some (cf p b)) ?_ hp
    intro n
    exact ci (p := fun b => b9 70 ((n.val : Nat) + 1 : Int) b = some (cf ((n.val : Nat) + 1 : Int) b)) (by revert n; decide +kernel) h0 h1
  · unfold b9 cf
    have hp2 : ¬ (1 ≤ p ∧ p ≤ 7) := by simpa [dN] using hp
    rw [Bool.not_eq_true] at hp
    rw [hp, Bool.false_and]
    by_cases hlt : p < 1
    · refine ab hlt ?_
      refine Ev.step (fun k => by rw [bE]) ?_
      exact ab rfl (ay _)
    · refine ae hlt ?_
      rw [decide_eq_true (by omega)]
      refine Ev.step (fun k => by rw [bE]) ?_
      exact ab rfl (ay _)
theorem vP (r : Int) (h0 : 160 ≤ r) (h1 : r < 2147483648) (b : Bool) (hb : b = true ↔ (r ≤ 55295 ∨ 63744 ≤ r ∧ r ≤ 64975 ∨ 65008 ≤ r ∧ r ≤ 65519)) : Ev (fun k => bR k r b) (iL r) := by
  refine Ev.step (fun k => by rw [bR]) ?_
  have hm : Go.bits .and .i32 r 65535 = r % 65536 := bits_mask .i32 31 (by decide) wraps_i32 16 (by decide) r (by omega) (by omega)
  unfold iL
  refine Ev.ite (fun h => Ev.val ?_) (fun h => Ev.ite (fun h2 => Ev.val ?_) (fun h2 => Ev.ite (fun h3 => Ev.val ?_) (fun h3 => ?_)))
  · have := hb.1 h
    symm
    rw [decide_eq_true_iff]
    omega
  · have hnb : ¬ (r ≤ 55295 ∨ 63744 ≤ r ∧ r ≤ 64975 ∨ 65008 ≤ r ∧ r ≤ 65519) := fun x => h (hb.2 x)
    symm
    rw [decide_eq_false_iff_not]
    omega
  · have hnb : ¬ (r ≤ 55295 ∨ 63744 ≤ r ∧ r ≤ 64975 ∨ 65008 ≤ r ∧ r ≤ 65519) := fun x => h (hb.2 x)
    symm
    rw [decide_eq_false_iff_not]
    omega
  · have hnb : ¬ (r ≤ 55295 ∨ 63744 ≤ r ∧ r ≤ 64975 ∨ 65008 ≤ r ∧ r ≤ 65519) := fun x => h (hb.2 x)
    rw [hm]
    refine Ev.ite (fun h4 => Ev.ite (fun h5 => Ev.val ?_) (fun h5 => Ev.val ?_)) (fun h4 => Ev.val ?_)
    · symm
      rw [decide_eq_true_iff]
      omega
    · rw [decide_eq_decide]
      omega
    · symm
      rw [decide_eq_false_iff_not]
      omega
theorem xj (r : Int) (h1 : r < 2147483648) : Ev (fun k => fJ k r) (iL r) := by
  unfold fJ
  refine Ev.ite (fun h => Ev.val ?_) (fun h => ?_)
  · unfold iL
    symm
    rw [decide_eq_false_iff_not]
    omega
  · have key := vP r (by omega) h1
    refine Ev.ite (fun h2 => key _ ?_) (fun h2 => Ev.ite (fun h3 => Ev.ite (fun h4 => key _ ?_) (fun h4 => Ev.ite (fun h5 => key _ ?_) (fun h5 => key _ ?_))) (fun h3 => Ev.ite (fun h5 => key _ ?_) (fun h5 => key _ ?_))) <;> simp <;> omega
theorem wz (r : Int) : iO r = some (sl r) := by
  unfold iO sl
  (repeat' split) <;> congr 1 <;> first | (symm; rw [decide_eq_true_iff]; omega) | (symm; rw [decide_eq_false_iff_not]; omega) | (rw [decide_eq_decide]; omega)
theorem sq (r : Int) : fv r = some (sl r) := by
  unfold fv sl
  (repeat' split) <;> congr 1 <;> first | (symm; rw [decide_eq_true_iff]; omega) | (symm; rw [decide_eq_false_iff_not]; omega) | (rw [decide_eq_decide]; omega)
theorem sp (r : Int) (h0 : 0 ≤ r) (h1 : r < 2147483648) (hn : ¬ (160 ≤ r ∧ r ≤ 55295 ∨ 63744 ≤ r ∧ r ≤ 64975 ∨ 65008 ≤ r ∧ r ≤ 65519)) : ∀ d p : Nat, p + d = 14 → 1 ≤ p → (∀ q : Int, 1 ≤ q → q < p → ¬ (q * 65536 ≤ r ∧ r ≤ q * 65536 + 65533)) →
    Ev (fun k => bP k r (p : Int)) (iL r) := by
  intro d
  induction d with
  | zero =>
    intro p hp h1p hq
    refine Ev.step (fun k => by rw [bP]) ?_
    refine ae (by omega) ?_
    have h13 : ¬ (65536 ≤ r ∧ r ≤ 917501 ∧ r % 65536 ≤ 65533) := by
      intro h
      have := hq (r / 65536) (by omega) (by omega)
      omega
    unfold iL
    refine Ev.ite (fun h => Ev.val ?_) (fun h => Ev.val ?_)
    · rw [decide_eq_decide]
      omega
    · symm
      rw [decide_eq_false_iff_not]
      omega
  | succ d ih =>
    intro p hp h1p hq
    refine Ev.step (fun k => by rw [bP]) ?_
    rw [w64 (x := (p : Int) * 65536) (by omega) (by omega), w64 (x := (p : Int) * 65536 + 65533) (by omega) (by omega), w64 (x := (p : Int) + 1) (by omega) (by omega)]
    have next : ¬ ((p : Int) * 65536 ≤ r ∧ r ≤ (p : Int) * 65536 + 65533) → Ev (fun k => bP k r ((p : Int) + 1)) (iL r) := by
      intro h
      refine ih (p + 1) (by omega) (by omega) (fun q q1 q2 => ?_)
      by_cases e : q = p
      · subst e; exact h
      · exact hq q q1 (by omega)
    refine ab (by omega) (Ev.ite (fun h => Ev.ite (fun h2 => Ev.val ?_) (fun h2 => next (fun x => h2 x.2))) (fun h => next (fun x => h x.1)))
    unfold iL
    symm
    rw [decide_eq_true_iff]
    omega
theorem tF (r : Int) (h0 : 0 ≤ r) (h1 : r < 2147483648) : Ev (fun k => fO k r) (iL r) := by
  have key : ∀ b : Bool, (b = true ↔ (160 ≤ r ∧ r ≤ 55295 ∨ 63744 ≤ r ∧ r ≤ 64975 ∨ 65008 ≤ r ∧ r ≤ 65519)) → Ev (fun k => aX k r b) (iL r) := by
    intro b hb
    refine Ev.step (fun k => by rw [aX]) ?_
    refine Ev.ite (fun h => Ev.val ?_) (fun h => ?_)
    · have := hb.1 h
      unfold iL
      symm
      rw [decide_eq_true_iff]
      omega
    · exact sp r h0 h1 (fun x => h (hb.2 x)) 13 1 (by omega) (by omega) (fun q q1 q2 => by omega)
  unfold fO
  refine Ev.ite (fun h2 => Ev.ite (fun h3 => key _ ?_) (fun h3 => Ev.ite (fun h4 => Ev.ite (fun h5 => key _ ?_) (fun h5 => Ev.ite (fun h6 => key _ ?_) (fun h6 => key _ ?_))) (fun h4 => Ev.ite (fun h6 => key _ ?_) (fun h6 => key _ ?_))))
    (fun h2 => Ev.ite (fun h4 => Ev.ite (fun h5 => key _ ?_) (fun h5 => Ev.ite (fun h6 => key _ ?_) (fun h6 => key _ ?_))) (fun h4 => Ev.ite (fun h6 => key _ ?_) (fun h6 => key _ ?_))) <;> simp <;> omega
theorem ws {r : Int} (h0 : 0 ≤ r) (h1 : r < 128) : r % 256 = r := by omega
theorem aad (p : Int) (iri : Bool) (r : Int) (h0 : 0 ≤ r) (h1 : r < 2147483648) : Ev (fun k => ie k p iri r) (gG p iri r) := by
  unfold ie gG
  refine ab (by omega) ?_
  refine Ev.step (fun k => by rw [ft]) ?_
  by_cases h : r < 128
  · rw [if_pos ⟨h0, h⟩, ws h0 h]
    refine ab (by simpa using h) ?_
    exact ai (uj h0 (by omega)) (ay _)
  · rw [if_neg (fun x => h x.2)]
    refine ae (by simpa using h) ?_
    obtain ⟨t, e⟩ := o7 p
    refine bD e ?_
    simp only
    cases hp : dN p
    · refine ae (by simp) ?_
      refine Ev.step (fun k => by rw [eC]) ?_
      refine ab rfl (Ev.val ?_)
      simp
    · refine ab rfl ?_
      refine Ev.step (fun k => by rw [eC]) ?_
      cases iri
      · exact ab rfl (ay _)
      · refine ae (by simp) (ai (xj r h1) ?_)
        cases hc : iL r
        · refine ae (by simp) (Ev.ite (fun h6 => ?_) (fun h6 => ?_))
          · refine bD (wz r) (Ev.val ?_)
            simp [h6]
          · exact Ev.val (by simp [h6])
        · exact ab rfl (Ev.val (by simp))
theorem xR (p : Int) (iri : Bool) (r : Int) (h0 : 0 ≤ r) (h1 : r < 2147483648) : Ev (fun k => gO k p iri r) (gG p iri r) := by
  unfold gO gG
  refine ab (by omega) ?_
  refine Ev.step (fun k => by rw [fj]) ?_
  by_cases h : r < 128
  · rw [if_pos ⟨h0, h⟩, ws h0 h]
    refine ab (by simpa using h) ?_
    exact ai (u3 h0 (by omega)) (ay _)
  · rw [if_neg (fun x => h x.2)]
    refine ae (by simpa using h) ?_
    have bad : ∀ v : Bool, v = false → Ev (fun k => cN k p r true) v := by
      intro v e
      subst e
      refine Ev.step (fun k => by rw [cN]) ?_
      exact ab rfl (ay _)
    cases iri
    · exact ae (by simp) (bad _ (by simp))
    · refine ab rfl ?_
      by_cases hp : dN p = true
      · have hp2 : 1 ≤ p ∧ p ≤ 7 := by simpa [dN] using hp
        rw [hp]
        refine ae (by omega) ?_
        rw [decide_eq_false (by omega)]
        refine Ev.step (fun k => by rw [cN]) ?_
        refine ae (by simp) (ai (tF r h0 h1) ?_)
        cases hc : iL r
        · refine ae (by simp) (Ev.ite (fun h6 => ?_) (fun h6 => ?_))
          · refine bD (sq r) (Ev.val ?_)
            simp [h6]
          · exact Ev.val (by simp [h6])
        · exact ab rfl (Ev.val (by simp))
      · have hp2 : ¬ (1 ≤ p ∧ p ≤ 7) := by simpa [dN] using hp
        rw [Bool.not_eq_true] at hp
        rw [hp]
        refine Ev.ite (fun h6 => bad _ (by simp)) (fun h6 => ?_)
        rw [decide_eq_true (by omega)]
        exact bad _ (by simp)
theorem tx (t : List Int) (h : ∀ c ∈ t, 128 ≤ c ∧ c ≤ 191) : ∀ r, 0 ≤ r → t.length ≤ 3 → r < bnd t.length → 0 ≤ gE r t ∧ gE r t < 33554432 := by
  induction t with
  | nil => intro r h0 _ h1; exact ⟨h0, h1⟩
  | cons c t ih =>
    intro r h0 hl h1
    obtain ⟨c0, c1⟩ := h c (List.mem_cons_self ..)
    rw [List.length_cons] at hl h1
    have hb := py (by omega) h0 h1 c0 c1
    exact ih (fun d hd => h d (List.mem_cons_of_mem _ hd)) _ hb.1 (by omega) hb.2.1
theorem qY (l : List Int) (hl : ∀ b ∈ l, 0 ≤ b ∧ b ≤ 255) : 0 ≤ (dec l).1 ∧ (dec l).1 < 33554432 := by
  cases l with
  | nil => simp [dec]
  | cons b t =>
    obtain ⟨b0, b1⟩ := hl b (List.mem_cons_self ..)
    rw [dk]
    have hr := j6 b
    by_cases hz : (shp b).1 = 0
    · rw [if_pos hz]; simp
    · rw [if_neg hz]
      have hm : 2 ≤ (shp b).1 → ∀ c ∈ t.take (aU ((shp b).1.toNat - 1) (shp b).2.1 (shp b).2.2 t), 128 ≤ c ∧ c ≤ 191 := fun h2 => lG _ _ _ (hZ h2).1 (hZ h2).2 _
      have hc := kF ((shp b).1.toNat - 1) (shp b).2.1 (shp b).2.2 t
      revert hm hc
      generalize aU ((shp b).1.toNat - 1) (shp b).2.1 (shp b).2.2 t = m
      intro hm hc
      by_cases h2 : (m : Int) + 1 < (shp b).1
      · rw [if_pos h2]; simp
      · rw [if_neg h2]
        have hld := pL b0 b1 (by omega)
        simp only
        refine tx _ ?_ _ hld.1 (by rw [List.length_take]; omega) ?_
        · intro c hcc
          by_cases h2 : 2 ≤ (shp b).1
          · exact hm h2 c (by rw [show m = (shp b).1.toNat - 1 by omega]; exact hcc)
          · rw [show (shp b).1.toNat - 1 = 0 by omega] at hcc
            simp at hcc
        · refine Int.lt_of_lt_of_le hld.2 ?_
          generalize (t.take ((shp b).1.toNat - 1)).length = n
          rcases n with _ | _ | _ | n <;> simp [bnd]
theorem lF (s : ByteArray) : ∀ b ∈ aa s, 0 ≤ b ∧ b ≤ 255 := fun _ h => ed h
theorem aY (s : ByteArray) (i : Nat) : aa (s.extract i s.size) = (aa s).drop i := by
  rw [au, ← af, List.take_length]
theorem nP {p : Int} {iri : Bool} {l : List Int} (hp : dN p = true) (h : gL l < 0) : aT p iri l = if (dec l).2.2 && gG p iri (dec l).1 then (dec l).2.1.toNat else 0 := by
  unfold aT
  rw [if_pos hp, if_neg (by omega)]
theorem zo (p : Int) (iri : Bool) (s : ByteArray) (hs : s.size ≤ 140737488351232) (hp : dN p = true) : ∀ d i : Nat, i + d = s.size → Ev (fun k => cV k p iri s (i : Int)) ((i : Int) + an p iri ((aa s).drop i)) := by
  intro d
  induction d using Nat.strongRecOn with
  | _ d ih =>
    intro i hi
    refine Ev.step (fun k => by rw [cV]) ?_
    refine Ev.ite (fun h => ?_) (fun h => ?_)
    · obtain ⟨t, e⟩ := o7 p
      refine bD e ?_
      simp only
      refine ab hp (ai (yO s i (by omega) hs) ?_)
      rw [im]
      by_cases he : gL ((aa s).drop i) < 0
      · simp only [if_pos he]
        refine ae (by simp) (ab (by omega) (ab (by omega) ?_))
        rw [Int.toNat_natCast]
        have hd := rR (s.extract i s.size) (by rw [← af, aY, List.length_drop, af]; omega)
        rw [aY] at hd
        refine ai hd ?_
        rw [nP hp he]
        have hr := qY ((aa s).drop i) (fun b hb => lF s b (List.mem_of_mem_drop hb))
        have hn := pW ((aa s).drop i)
        rw [List.length_drop, af] at hn
        cases hok : (dec ((aa s).drop i)).2.2
        · refine ae (by simp) (Ev.val (by simp))
        · refine ab rfl (ai (aad p iri _ hr.1 (by omega)) ?_)
          have hn1 := lr hok
          cases hm : gG p iri (dec ((aa s).drop i)).1
          · refine ae (by simp) (Ev.val (by simp))
          · refine ab rfl ?_
            rw [w64 (by omega) (by omega)]
            simp only [Bool.and_self, if_true]
            rw [if_neg (by omega), List.drop_drop]
            have := ih (s.size - (i + (dec ((aa s).drop i)).2.1.toNat)) (by omega) (i + (dec ((aa s).drop i)).2.1.toNat) (by omega)
            have e1 : ((i + (dec ((aa s).drop i)).2.1.toNat : Nat) : Int) = (i : Int) + (dec ((aa s).drop i)).2.1 := by omega
            rw [e1] at this
            have e2 : (i : Int) + (((dec ((aa s).drop i)).2.1.toNat + an p iri ((aa s).drop (i + (dec ((aa s).drop i)).2.1.toNat)) : Nat) : Int) = (i : Int) + (dec ((aa s).drop i)).2.1 + (an p iri ((aa s).drop (i + (dec ((aa s).drop i)).2.1.toNat)) : Int) := by omega
            rw [e2]
            exact this
      · simp only [if_neg he]
        refine ab (by simp) ?_
        have h3 : aT p iri ((aa s).drop i) = 3 := by unfold aT; rw [if_pos hp, if_pos (by omega)]
        have hl := kY p iri ((aa s).drop i)
        rw [h3, List.length_drop, af] at hl
        rw [h3, w64 (by omega) (by omega), if_neg (by omega), List.drop_drop]
        have := ih (s.size - (i + 3)) (by omega) (i + 3) (by omega)
        have e2 : (i : Int) + ((3 + an p iri ((aa s).drop (i + 3)) : Nat) : Int) = ((i + 3 : Nat) : Int) + (an p iri ((aa s).drop (i + 3)) : Int) := by omega
        rw [e2]
        exact this
    · rw [List.drop_of_length_le (by rw [af]; omega), ow]
      exact Ev.val (by simp)
theorem wQ (p : Int) (iri : Bool) (s : ByteArray) (hs : s.size ≤ 140737488351232) : Ev (fun k => fW k p iri s) (an p iri (aa s) : Int) := by
  unfold fW
  by_cases hp : dN p = true
  · have := zo p iri s hs hp s.size 0 (by omega)
    simpa using this
  · have hz : aT p iri (aa s) = 0 := by unfold aT; rw [if_neg hp]
    rw [im, if_pos hz]
    refine Ev.step (fun k => by rw [cV]) ?_
    obtain ⟨t, e⟩ := o7 p
    refine Ev.ite (fun h => bD e ?_) (fun h => ay _)
    exact ae hp (ay _)
theorem ym (p : Int) (iri : Bool) (s : ByteArray) (hs : s.size ≤ 140737488351232) : Ev (fun k => gF k p iri s) (bo p iri (aa s)) := by
  unfold gF
  refine ai (wQ p iri s hs) (Ev.val ?_)
  unfold bo
  rw [af, Bool.eq_iff_iff, beq_iff_eq, beq_iff_eq]
  omega
theorem wI (p : Int) (iri : Bool) (s : ByteArray) (i : Nat) (hi : i ≤ s.size) (hs : s.size ≤ 140737488351232) : Ev (fun k => fk k p iri s (i : Int)) (aT p iri ((aa s).drop i) : Int) := by
  unfold fk
  have bad : dN p = false → Ev (fun k => db k p iri s (i : Int) true) (aT p iri ((aa s).drop i) : Int) := by
    intro hp
    refine Ev.step (fun k => by rw [db]) ?_
    unfold aT
    rw [if_neg (by rw [hp]; simp)]
    exact ab rfl (ay _)
  refine Ev.ite (fun h => bad (by simp [dN]; omega)) (fun h => ?_)
  by_cases h7 : p > 7
  · rw [decide_eq_true h7]
    exact bad (by simp [dN]; omega)
  · rw [decide_eq_false h7]
    have hp : dN p = true := by simp [dN]; omega
    refine Ev.step (fun k => by rw [db]) ?_
    refine ae (by simp) (ai (zi s i hi hs) ?_)
    by_cases he : gL ((aa s).drop i) < 0
    · refine ae (by omega) (ab (by omega) (ab (by omega) ?_))
      rw [Int.toNat_natCast]
      have hd := pr (s.extract i s.size) (by rw [← af, aY, List.length_drop, af]; omega)
      rw [aY] at hd
      refine ai hd ?_
      rw [nP hp he]
      have hr := qY ((aa s).drop i) (fun b hb => lF s b (List.mem_of_mem_drop hb))
      have hn := pW ((aa s).drop i)
      cases hok : (dec ((aa s).drop i)).2.2
      · exact ae (by simp) (Ev.val (by simp))
      · refine ab rfl (ai (xR p iri _ hr.1 (by omega)) ?_)
        cases hm : gG p iri (dec ((aa s).drop i)).1
        · exact ae (by simp) (Ev.val (by simp))
        · refine ab rfl (Ev.val ?_)
          simp only [Bool.and_self, if_true]
          omega
    · refine ab (by omega) (Ev.val ?_)
      unfold aT
      rw [if_pos hp, if_pos (by omega)]
      rfl
theorem ss (p : Int) (iri : Bool) (s : ByteArray) (hs : s.size ≤ 140737488351232) : ∀ d i : Nat, i + d = s.size → Ev (fun k => dW k p iri s (i : Int)) ((i : Int) + an p iri ((aa s).drop i)) := by
  intro d
  induction d using Nat.strongRecOn with
  | _ d ih =>
    intro i hi
    refine Ev.step (fun k => by rw [dW]) ?_
    rw [im]
    refine Ev.ite (fun h => ?_) (fun h => ?_)
    · have hst := wI p iri s i (by omega) hs
      refine ai hst ?_
      refine Ev.ite (fun h1 => ?_) (fun h1 => ?_)
      · refine ai hst ?_
        have hl := kY p iri ((aa s).drop i)
        rw [List.length_drop, af] at hl
        rw [if_neg (by omega), List.drop_drop, w64 (by omega) (by omega)]
        have := ih (s.size - (i + aT p iri ((aa s).drop i))) (by omega) (i + aT p iri ((aa s).drop i)) (by omega)
        have e2 : (i : Int) + ((aT p iri ((aa s).drop i) + an p iri ((aa s).drop (i + aT p iri ((aa s).drop i))) : Nat) : Int) = ((i + aT p iri ((aa s).drop i) : Nat) : Int) + (an p iri ((aa s).drop (i + aT p iri ((aa s).drop i))) : Int) := by omega
        rw [e2]
        exact this
      · rw [if_pos (by omega)]
        exact Ev.val (by simp)
    · rw [List.drop_of_length_le (by rw [af]; omega), if_pos (sv p iri)]
      exact Ev.val (by simp)
theorem jx (p : Int) (iri : Bool) (s : ByteArray) (hs : s.size ≤ 140737488351232) : Ev (fun k => cu k p iri s) (an p iri (aa s) : Int) := by
  unfold cu
  have := ss p iri s hs s.size 0 (by omega)
  simpa using this
end Go.Proofs.YtpmflpeckoeooaaGreatDoor.Y
namespace Go.Proofs.YtpmflpeckoeooaaGreatDoor.M
open Go Go.RowKit Go.Proofs.YtpmflpeckoeooaaGreatDoorW.PrintWords
theorem tX (s : ByteArray) (i : Nat) (h : i < s.size) : ((s.get! i).toNat : Int) = bt s (i : Int) := by
  rw [kK, List.getD_eq_getElem?_getD]
  unfold aa
  rw [List.getElem?_map, Array.getElem?_toList]
  have h' : i < s.data.size := h
  have e : s.get! i = s.data[i]'h' := by
    show s.data[i]! = _
    rw [getElem!_pos s.data i h']
  rw [Array.getElem?_eq_getElem h', e]
  rfl
def pb (n : Nat) (b0 b1 b2 b3 : Nat) : Nat × Nat :=
  if b0 < 0x80 then (b0, 1)
  else if b0 / 32 == 6 && (decide (1 < n) && b1 / 64 == 2) then (if b0 % 32 * 64 + b1 % 64 ≥ 0x80 then (b0 % 32 * 64 + b1 % 64, 2) else (65533, 1))
  else if b0 / 16 == 14 && (decide (1 < n) && b1 / 64 == 2) && (decide (2 < n) && b2 / 64 == 2) then (if b0 % 16 * 4096 + b1 % 64 * 64 + b2 % 64 ≥ 0x800 && Utf8.valid (b0 % 16 * 4096 + b1 % 64 * 64 + b2 % 64) then (b0 % 16 * 4096 + b1 % 64 * 64 + b2 % 64, 3) else (65533, 1))
  else if b0 / 8 == 30 && (decide (1 < n) && b1 / 64 == 2) && (decide (2 < n) && b2 / 64 == 2) && (decide (3 < n) && b3 / 64 == 2) then (if b0 % 8 * 262144 + b1 % 64 * 4096 + b2 % 64 * 64 + b3 % 64 ≥ 0x10000 && Utf8.valid (b0 % 8 * 262144 + b1 % 64 * 4096 + b2 % 64 * 64 + b3 % 64) then (b0 % 8 * 262144 + b1 % 64 * 4096 + b2 % 64 * 64 + b3 % 64, 4) else (65533, 1))
  else (65533, 1)
theorem rS (s : ByteArray) (pos : Nat) (h : pos < s.size) : Utf8.decode s pos = pb (s.size - pos) (s.get! pos).toNat (s.get! (pos + 1)).toNat (s.get! (pos + 2)).toNat (s.get! (pos + 3)).toNat := by
  have e1 : decide (pos + 1 < s.size) = decide (1 < s.size - pos) := decide_eq_decide.2 (by omega)
  have e2 : decide (pos + 2 < s.size) = decide (2 < s.size - pos) := decide_eq_decide.2 (by omega)
  have e3 : decide (pos + 3 < s.size) = decide (3 < s.size - pos) := decide_eq_decide.2 (by omega)
  unfold Utf8.decode pb
  simp only [Nat.add_zero, e1, e2, e3]
  rfl
def jp (l : List Int) : Nat × Nat := if (dec l).2.2 = true then ((dec l).1.toNat, (dec l).2.1.toNat) else (65533, 1)
theorem lT (c : Int) : Utf8.valid c = decide (0 ≤ c ∧ c < 55296 ∨ 57344 ≤ c ∧ c ≤ 1114111) := by
  unfold Utf8.valid
  rw [Bool.eq_iff_iff]
  simp
theorem yc {b : Int} (h0 : 0 ≤ b) (h1 : b ≤ 255) : b < 128 ∨ (128 ≤ b ∧ shp b = (0, 0, 0) ∧ (b ≤ 193 ∨ 245 ≤ b)) ∨ (194 ≤ b ∧ b ≤ 223 ∧ shp b = (2, 128, 191)) ∨ (b = 224 ∧ shp b = (3, 160, 191)) ∨ (225 ≤ b ∧ b ≤ 239 ∧ b ≠ 237 ∧ shp b = (3, 128, 191)) ∨ (b = 237 ∧ shp b = (3, 128, 159)) ∨ (b = 240 ∧ shp b = (4, 144, 191)) ∨ (241 ≤ b ∧ b ≤ 243 ∧ shp b = (4, 128, 191)) ∨ (b = 244 ∧ shp b = (4, 128, 143)) :=
  ci (p := fun b => b < 128 ∨ (128 ≤ b ∧ shp b = (0, 0, 0) ∧ (b ≤ 193 ∨ 245 ≤ b)) ∨ (194 ≤ b ∧ b ≤ 223 ∧ shp b = (2, 128, 191)) ∨ (b = 224 ∧ shp b = (3, 160, 191)) ∨ (225 ≤ b ∧ b ≤ 239 ∧ b ≠ 237 ∧ shp b = (3, 128, 191)) ∨ (b = 237 ∧ shp b = (3, 128, 159)) ∨ (b = 240 ∧ shp b = (4, 144, 191)) ∨ (241 ≤ b ∧ b ≤ 243 ∧ shp b = (4, 128, 191)) ∨ (b = 244 ∧ shp b = (4, 128, 143))) (by decide +kernel) h0 h1
theorem jZ {b : Int} {t : List Int} (h : (dec (b :: t)).2.2 = false) : jp (b :: t) = (65533, 1) := by unfold jp; rw [h]; rfl
theorem xY {b : Int} {t : List Int} {lo hi : Int} (hs : shp b = (2, lo, hi)) : jp (b :: t) = match t with | [] => (65533, 1) | c :: _ => if lo ≤ c ∧ c ≤ hi then (((b - 192) * 64 + (c - 128)).toNat, 2) else (65533, 1) := by
  cases t with
  | nil => apply jZ; rw [dk, hs]; simp [aU]
  | cons c u =>
    unfold jp
    rw [dk, hs]
    by_cases hc : lo ≤ c ∧ c ≤ hi
    · simp [aU, hc, gE, cI]
    · simp [aU, hc]
theorem ot {b : Int} {t : List Int} {lo hi : Int} (hs : shp b = (3, lo, hi)) : jp (b :: t) = match t with | c :: d :: _ => if (lo ≤ c ∧ c ≤ hi) ∧ 128 ≤ d ∧ d ≤ 191 then ((((b - 224) * 64 + (c - 128)) * 64 + (d - 128)).toNat, 3) else (65533, 1) | _ => (65533, 1) := by
  match t with
  | [] => apply jZ; rw [dk, hs]; simp [aU]
  | [c] =>
    apply jZ; rw [dk, hs]
    by_cases hc : lo ≤ c ∧ c ≤ hi <;> simp [aU, hc]
  | c :: d :: u =>
    unfold jp
    rw [dk, hs]
    by_cases hc : lo ≤ c ∧ c ≤ hi
    · by_cases hd : 128 ≤ d ∧ d ≤ 191
      · simp [aU, hc, hd, gE, cI]
      · simp [aU, hc, hd]
    · simp [aU, hc]
theorem wN {b : Int} {t : List Int} {lo hi : Int} (hs : shp b = (4, lo, hi)) : jp (b :: t) = match t with | c :: d :: e :: _ => if (lo ≤ c ∧ c ≤ hi) ∧ (128 ≤ d ∧ d ≤ 191) ∧ 128 ≤ e ∧ e ≤ 191 then (((((b - 240) * 64 + (c - 128)) * 64 + (d - 128)) * 64 + (e - 128)).toNat, 4) else (65533, 1) | _ => (65533, 1) := by
  match t with
  | [] => apply jZ; rw [dk, hs]; simp [aU]
  | [c] =>
    apply jZ; rw [dk, hs]
    by_cases hc : lo ≤ c ∧ c ≤ hi <;> simp [aU, hc]
  | [c, d] =>
    apply jZ; rw [dk, hs]
    by_cases hc : lo ≤ c ∧ c ≤ hi
    · by_cases hd : 128 ≤ d ∧ d ≤ 191 <;> simp [aU, hc, hd]
    · simp [aU, hc]
  | c :: d :: e :: u =>
    unfold jp
    rw [dk, hs]
    by_cases hc : lo ≤ c ∧ c ≤ hi
    · by_cases hd : 128 ≤ d ∧ d ≤ 191
      · by_cases he : 128 ≤ e ∧ e ≤ 191
        · simp [aU, hc, hd, he, gE, cI]
        · simp [aU, hc, hd, he]
      · simp [aU, hc, hd]
    · simp [aU, hc]
theorem mB {c d : Prop} [Decidable c] [Decidable d] {x y z w : Nat × Nat} (h : c ↔ d) (h1 : d → x = y) (h2 : z = w) : (if c then x else z) = if d then y else w := by
  by_cases hd : d
  · rw [if_pos (h.2 hd), if_pos hd, h1 hd]
  · rw [if_neg (fun hc => hd (h.1 hc)), if_neg hd, h2]
theorem vz (b : Int) (t : List Int) (hb : 0 ≤ b ∧ b ≤ 255) (ht : ∀ x ∈ t, 0 ≤ x ∧ x ≤ 255) (b0 b1 b2 b3 : Nat) (e0 : (b0 : Int) = b) (e1 : ∀ x, t[0]? = some x → (b1 : Int) = x) (e2 : ∀ x, t[1]? = some x → (b2 : Int) = x) (e3 : ∀ x, t[2]? = some x → (b3 : Int) = x) :
    pb (t.length + 1) b0 b1 b2 b3 = jp (b :: t) := by
  rcases yc hb.1 hb.2 with h | ⟨h, hs, hr⟩ | ⟨h, h', hs⟩ | ⟨rfl, hs⟩ | ⟨h, h', hn, hs⟩ | ⟨rfl, hs⟩ | ⟨rfl, hs⟩ | ⟨h, h', hs⟩ | ⟨rfl, hs⟩
  · unfold pb jp
    rw [if_pos (by omega), kL t h]
    simp
    omega
  · rw [jZ (by rw [dk, hs]; rfl)]
    unfold pb
    rw [if_neg (by omega)]
    have a1 : ∀ c : Bool, (if (b0 / 32 == 6 && c) = true then (if b0 % 32 * 64 + b1 % 64 ≥ 0x80 then (b0 % 32 * 64 + b1 % 64, 2) else ((65533 : Nat), 1)) else (65533, 1)) = (65533, 1) := fun c => by
      split
      · rename_i hc
        rw [Bool.and_eq_true, beq_iff_eq] at hc
        rw [if_neg (by omega)]
      · rfl
    have n14 : (b0 / 16 == 14) = false := by rw [beq_eq_false_iff_ne]; omega
    by_cases h30 : b0 / 8 = 30
    · have c30 : b0 / 32 ≠ 6 := by omega
      have n6 : (b0 / 32 == 6) = false := by rw [beq_eq_false_iff_ne]; exact c30
      simp only [n6, n14, Bool.false_and, Bool.false_eq_true, if_false]
      split
      · rename_i hc
        rw [if_neg]
        simp only [Bool.and_eq_true, lT, decide_eq_true_iff]
        intro hv
        have := hv.2
        omega
      · rfl
    · have n30 : (b0 / 8 == 30) = false := by rw [beq_eq_false_iff_ne]; exact h30
      simp only [n14, n30, Bool.false_and, Bool.false_eq_true, if_false]
      exact a1 _
  all_goals have hb0 : ¬ b0 < 0x80 := by omega
  all_goals unfold pb
  all_goals rw [if_neg hb0]
  · have c6 : (b0 / 32 == 6) = true := by rw [beq_iff_eq]; omega
    have n14 : (b0 / 16 == 14) = false := by rw [beq_eq_false_iff_ne]; omega
    have n30 : (b0 / 8 == 30) = false := by rw [beq_eq_false_iff_ne]; omega
    simp only [c6, n14, n30, Bool.true_and, Bool.false_and, Bool.false_eq_true, if_false]
    rw [xY hs]
    cases t with
    | nil => simp
    | cons c u =>
      have hc := e1 c rfl
      have hcr := ht c (by simp)
      simp only [List.length_cons]
      refine mB ?_ ?_ rfl
      · rw [Bool.and_eq_true, beq_iff_eq, decide_eq_true_iff]; omega
      · intro hd
        rw [if_pos (by omega)]
        simp; omega
  all_goals have n6 : (b0 / 32 == 6) = false := by rw [beq_eq_false_iff_ne]; omega
  · have c14 : (b0 / 16 == 14) = true := by rw [beq_iff_eq]; omega
    have n30 : (b0 / 8 == 30) = false := by rw [beq_eq_false_iff_ne]; omega
    simp only [c14, n6, n30, Bool.true_and, Bool.false_and, Bool.false_eq_true, if_false]
    rw [ot hs]
    match t, ht, e1, e2 with
    | [], _, _, _ => simp
    | [c], _, _, _ => simp
    | c :: d :: u, ht, e1, e2 =>
      have hc := e1 c rfl
      have hcr := ht c (by simp)
      have hd := e2 d rfl
      have hdr := ht d (by simp)
      simp only [List.length_cons, lT]
      simp only [show decide (1 < u.length + 1 + 1 + 1) = true from decide_eq_true (by omega), show decide (2 < u.length + 1 + 1 + 1) = true from decide_eq_true (by omega)]
      simp only [Bool.true_and]
      by_cases hk : 128 ≤ c ∧ c ≤ 191 ∧ 128 ≤ d ∧ d ≤ 191
      · rw [if_pos (by rw [Bool.and_eq_true, beq_iff_eq, beq_iff_eq]; omega)]
        refine mB ?_ ?_ rfl
        · rw [Bool.and_eq_true, decide_eq_true_iff, decide_eq_true_iff]; omega
        · intro _; simp; omega
      · rw [if_neg (by rw [Bool.and_eq_true, beq_iff_eq, beq_iff_eq]; omega), if_neg (by omega)]
  · have c14 : (b0 / 16 == 14) = true := by rw [beq_iff_eq]; omega
    have n30 : (b0 / 8 == 30) = false := by rw [beq_eq_false_iff_ne]; omega
    simp only [c14, n6, n30, Bool.true_and, Bool.false_and, Bool.false_eq_true, if_false]
    rw [ot hs]
    match t, ht, e1, e2 with
    | [], _, _, _ => simp
    | [c], _, _, _ => simp
    | c :: d :: u, ht, e1, e2 =>
      have hc := e1 c rfl
      have hcr := ht c (by simp)
      have hd := e2 d rfl
      have hdr := ht d (by simp)
      simp only [List.length_cons, lT]
      simp only [show decide (1 < u.length + 1 + 1 + 1) = true from decide_eq_true (by omega), show decide (2 < u.length + 1 + 1 + 1) = true from decide_eq_true (by omega)]
      simp only [Bool.true_and]
      by_cases hk : 128 ≤ c ∧ c ≤ 191 ∧ 128 ≤ d ∧ d ≤ 191
      · rw [if_pos (by rw [Bool.and_eq_true, beq_iff_eq, beq_iff_eq]; omega)]
        refine mB ?_ ?_ rfl
        · rw [Bool.and_eq_true, decide_eq_true_iff, decide_eq_true_iff]; omega
        · intro _; simp; omega
      · rw [if_neg (by rw [Bool.and_eq_true, beq_iff_eq, beq_iff_eq]; omega), if_neg (by omega)]
  · have c14 : (b0 / 16 == 14) = true := by rw [beq_iff_eq]; omega
    have n30 : (b0 / 8 == 30) = false := by rw [beq_eq_false_iff_ne]; omega
    simp only [c14, n6, n30, Bool.true_and, Bool.false_and, Bool.false_eq_true, if_false]
    rw [ot hs]
    match t, ht, e1, e2 with
    | [], _, _, _ => simp
    | [c], _, _, _ => simp
    | c :: d :: u, ht, e1, e2 =>
      have hc := e1 c rfl
      have hcr := ht c (by simp)
      have hd := e2 d rfl
      have hdr := ht d (by simp)
      simp only [List.length_cons, lT]
      simp only [show decide (1 < u.length + 1 + 1 + 1) = true from decide_eq_true (by omega), show decide (2 < u.length + 1 + 1 + 1) = true from decide_eq_true (by omega)]
      simp only [Bool.true_and]
      by_cases hk : 128 ≤ c ∧ c ≤ 191 ∧ 128 ≤ d ∧ d ≤ 191
      · rw [if_pos (by rw [Bool.and_eq_true, beq_iff_eq, beq_iff_eq]; omega)]
        refine mB ?_ ?_ rfl
        · rw [Bool.and_eq_true, decide_eq_true_iff, decide_eq_true_iff]; omega
        · intro _; simp; omega
      · rw [if_neg (by rw [Bool.and_eq_true, beq_iff_eq, beq_iff_eq]; omega), if_neg (by omega)]
  all_goals have n14 : (b0 / 16 == 14) = false := by rw [beq_eq_false_iff_ne]; omega
  all_goals have c30 : (b0 / 8 == 30) = true := by rw [beq_iff_eq]; omega
  all_goals simp only [c30, n6, n14, Bool.true_and, Bool.false_and, Bool.false_eq_true, if_false]
  all_goals rw [wN hs]
  all_goals
    match t, ht, e1, e2, e3 with
    | [], _, _, _, _ => simp
    | [c], _, _, _, _ => simp
    | [c, d], _, _, _, _ => simp
    | c :: d :: e :: u, ht, e1, e2, e3 =>
      have hc := e1 c rfl
      have hcr := ht c (by simp)
      have hd := e2 d rfl
      have hdr := ht d (by simp)
      have he := e3 e rfl
      have her := ht e (by simp)
      simp only [List.length_cons, lT]
      simp only [show decide (1 < u.length + 1 + 1 + 1 + 1) = true from decide_eq_true (by omega), show decide (2 < u.length + 1 + 1 + 1 + 1) = true from decide_eq_true (by omega), show decide (3 < u.length + 1 + 1 + 1 + 1) = true from decide_eq_true (by omega)]
      simp only [Bool.true_and]
      by_cases hk : 128 ≤ c ∧ c ≤ 191 ∧ 128 ≤ d ∧ d ≤ 191 ∧ 128 ≤ e ∧ e ≤ 191
      · rw [if_pos (by simp only [Bool.and_eq_true, beq_iff_eq]; omega)]
        refine mB ?_ ?_ rfl
        · rw [Bool.and_eq_true, decide_eq_true_iff, decide_eq_true_iff]; omega
        · intro _; simp; omega
      · rw [if_neg (by simp only [Bool.and_eq_true, beq_iff_eq]; omega), if_neg (by omega)]
theorem yj (s : ByteArray) (pos : Nat) (h : pos < s.size) : Utf8.decode s pos = jp ((aa s).drop pos) := by
  have hl : pos < (aa s).length := by rw [af]; exact h
  have e := List.drop_eq_getElem_cons hl
  have hbt : ∀ i : Nat, i < s.size → (aa s)[i]? = some (bt s (i : Int)) := fun i hi => by
    have hi' : i < (aa s).length := by rw [af]; exact hi
    rw [kK, List.getD_eq_getElem?_getD, List.getElem?_eq_getElem hi']
    rfl
  have hg : ∀ k : Nat, ∀ x, ((aa s).drop (pos + 1))[k]? = some x → ((s.get! (pos + (k + 1))).toNat : Int) = x := fun k x hx => by
    rw [List.getElem?_drop] at hx
    have hk : pos + 1 + k < s.size := by
      have := (List.getElem?_eq_some_iff.1 hx).1
      rw [af] at this
      exact this
    rw [hbt _ hk] at hx
    rw [show pos + (k + 1) = pos + 1 + k by omega, tX s _ hk]
    exact Option.some.inj hx
  rw [rS s pos h, e]
  have hlen : s.size - pos = ((aa s).drop (pos + 1)).length + 1 := by rw [List.length_drop, af]; omega
  rw [hlen]
  refine vz _ _ ?_ ?_ _ _ _ _ ?_ (hg 0) (hg 1) (hg 2)
  · exact ed (List.getElem_mem hl)
  · intro x hx; exact ed (List.mem_of_mem_drop hx)
  · rw [tX s pos h]
    have := hbt pos h
    rw [List.getElem?_eq_getElem hl] at this
    exact (Option.some.inj this).symm
end Go.Proofs.YtpmflpeckoeooaaGreatDoor.M
