/- Texts that the law's proof needs, joined by a program of this session. -/
import Derived.Test.YtpmflpeckoeooaaGreatDoorZSyntaxParses2
import Derived.Test.YtpmflpeckoeooaaGreatDoorZSyntaxParses3
import Derived.Test.YtpmflpeckoeooaaGreatDoorZSyntaxParses7
import Derived.Test.YtpmflpeckoeooaaGreatDoorZSyntaxParses8
import Derived.Test.YtpmflpeckoeooaaGreatDoorZSyntaxParses12
import Derived.Laws.BitsLemmas
import Derived.Laws.RangeAny
import Derived.Lib.Split
import Derived.Lib.SplitLaws
set_option linter.unusedVariables false
namespace Go.Proofs.YtpmflpeckoeooaaGreatDoor.Y
open Go.RowKit Go.Proofs.YtpmflpeckoeooaaGreatDoor.X Go.Proofs.YtpmflpeckoeooaaGreatDoor.M Go.Proofs.YtpmflpeckoeooaaGreatDoorW.PrintWords Go.Proofs.YtpmflpeckoeooaaGreatDoorW.PrintLast Go.Proofs.YtpmflpeckoeooaaGreatDoorW.PrintMore
theorem yj {b : Int} (h0 : 0 ≤ b) (h1 : b ≤ 255) : Ev (fun k => hD k b) (shp b) :=
  lL (fun k => kZ b k) (k := 6) (b6 (p := fun b => hD 6 b = some (shp b)) (by decide +kernel) h0 h1)
theorem wA (s : ByteArray) (hs : s.size ≤ 140737488351232) (n : Nat) (_ : n ≤ 4) : ∀ d i : Nat, ∀ lo hi : Int, i + d = n → Ev (fun k => fj k s (n : Int) lo hi (i : Int)) ((i : Int) + aU (n - i) lo hi ((aa s).drop i), (n : Int)) := by
  intro d
  induction d with
  | zero =>
    intro i lo hi hi2
    refine Ev.step (fun k => rfl) (ae (by omega) ?_)
    rw [show n - i = 0 by omega, ql]
    simp only [Int.natCast_zero, Int.add_zero]
    exact az _
  | succ d ih =>
    intro i lo hi hi2
    refine Ev.step (fun k => rfl) (ab (by omega) ?_)
    rw [show n - i = (n - (i + 1)) + 1 by omega]
    rcases Nat.lt_or_ge i s.size with h | h
    · rcases br s i (by omega) with ⟨h2, _⟩ | ⟨_, e, b0, b1⟩
      · omega
      refine ab (by omega) (ab (by omega) ?_)
      rw [e]
      by_cases h1 : lo ≤ bt s i
      · refine ab h1 ?_
        by_cases h2 : bt s i ≤ hi
        · refine ab h2 ?_
          rw [w64 (by omega) (by omega)]
          unfold aU
          rw [if_pos ⟨h1, h2⟩]
          have := ih (i + 1) 128 191 (by omega)
          have e3 : ((i : Int) + ((aU (n - (i + 1)) 128 191 ((aa s).drop (i + 1)) + 1 : Nat) : Int), (n : Int)) = (((i + 1 : Nat) : Int) + (aU (n - (i + 1)) 128 191 ((aa s).drop (i + 1)) : Int), (n : Int)) := by
            congr 1; omega
          rw [e3]
          exact this
        · refine ae h2 ?_
          unfold aU
          rw [if_neg (fun x => h2 x.2)]
          simp only [Int.natCast_zero, Int.add_zero]
          exact az _
      · refine ae h1 ?_
        unfold aU
        rw [if_neg (fun x => h1 x.1)]
        simp only [Int.natCast_zero, Int.add_zero]
        exact az _
    · refine ae (by omega) ?_
      rw [List.drop_of_length_le (by rw [af]; exact h)]
      unfold aU
      simp only [Int.natCast_zero, Int.add_zero]
      exact az _
def rc : List Int → Int × Int
  | [] => (0, 0)
  | b :: t => if (shp b).1 = 0 then (1, 0) else ((aU ((shp b).1.toNat - 1) (shp b).2.1 (shp b).2.2 t : Int) + 1, (shp b).1)
theorem oG (b : Int) (t : List Int) : rc (b :: t) = if (shp b).1 = 0 then (1, 0) else ((aU ((shp b).1.toNat - 1) (shp b).2.1 (shp b).2.2 t : Int) + 1, (shp b).1) := rfl
theorem xR (s : ByteArray) (hs : s.size ≤ 140737488351232) : Ev (fun k => g9 k s) (rc (aa s)) := by
  unfold g9
  rcases gS s with ⟨h, e⟩ | ⟨h, e, b0, b1⟩
  · rw [e]
    exact ab (by omega) (az _)
  · rw [e, oG]
    refine ae (by omega) (ab (by omega) (ah (yj b0 b1) ?_))
    by_cases hz : (shp (bt s 0)).1 = 0
    · rw [if_pos hz]
      exact ab hz (az _)
    · rw [if_neg hz]
      refine ae hz ?_
      have hr := jH (bt s 0)
      have := wA s hs (shp (bt s 0)).1.toNat (by omega) ((shp (bt s 0)).1.toNat - 1) 1 (shp (bt s 0)).2.1 (shp (bt s 0)).2.2 (by omega)
      rw [Int.toNat_of_nonneg hr.1] at this
      have e3 : ((aU ((shp (bt s 0)).1.toNat - 1) (shp (bt s 0)).2.1 (shp (bt s 0)).2.2 ((aa s).drop 1) : Int) + 1, (shp (bt s 0)).1) = ((((1 : Nat) : Int) + (aU ((shp (bt s 0)).1.toNat - 1) (shp (bt s 0)).2.1 (shp (bt s 0)).2.2 ((aa s).drop 1) : Int)), (shp (bt s 0)).1) := by
        congr 1; omega
      rw [e3]
      exact this
def bnd : Nat → Int
  | 0 => 33554432
  | 1 => 524288
  | 2 => 8192
  | _ => 128
theorem oT {d : Nat} (hd : d < 3) {r c : Int} (h0 : 0 ≤ r) (h : r < bnd (d + 1)) (c0 : 128 ≤ c) (c1 : c ≤ 191) : 0 ≤ r * 64 + (c - 128) ∧ r * 64 + (c - 128) < bnd d ∧ r * 64 < 2147483648 := by
  rcases d with _ | _ | _ | d
  · simp only [bnd] at *; omega
  · simp only [bnd] at *; omega
  · simp only [bnd] at *; omega
  · omega
theorem qa {s : ByteArray} {i n : Nat} (h : i < s.size) (hn : i < n) : ((aa s).take n).drop i = bt s (i : Int) :: ((aa s).take n).drop (i + 1) := by
  rcases br s i (by omega) with ⟨h2, _⟩ | ⟨_, e, b0, b1⟩
  · omega
  · rw [List.drop_take, List.drop_take, e, show n - i = (n - (i + 1)) + 1 by omega, List.take_succ_cons]
theorem u1 (s : ByteArray) (hs : s.size ≤ 140737488351232) (n : Nat) (hn : n ≤ s.size) : ∀ d i : Nat, ∀ r : Int, i + d = n → d ≤ 3 → 0 ≤ r → r < bnd d → (∀ c ∈ ((aa s).take n).drop i, 128 ≤ c ∧ c ≤ 191) →
    Ev (fun k => aZ k s r (n : Int) (i : Int)) (gn r (((aa s).take n).drop i), (n : Int), true) := by
  intro d
  induction d with
  | zero =>
    intro i r hi _ _ _ _
    refine Ev.step (fun k => rfl) (ae (by omega) ?_)
    rw [List.drop_of_length_le (by rw [List.length_take, af]; omega)]
    exact az _
  | succ d ih =>
    intro i r hi hd r0 r1 hc
    have e := qa (s := s) (i := i) (n := n) (by omega) (by omega)
    rw [e] at hc ⊢
    obtain ⟨c0, c1⟩ := hc _ (List.mem_cons_self ..)
    have hb := oT (by omega) r0 r1 c0 c1
    refine Ev.step (fun k => rfl) (ab (by omega) (ab (by omega) (ab (by omega) ?_)))
    rw [w64 (by omega) (by omega), u8_and63 _ (by omega) (by omega)]
    have e1 : wrap32 (bt s (i : Int) % 64) = bt s (i : Int) % 64 := by unfold wrap32; omega
    have e2 : wrap32 (r * 64) = r * 64 := by unfold wrap32; omega
    rw [e1, e2, i32_or6 _ _ (by omega) (by omega) (by omega) (by omega) (by omega)]
    have e3 : r * 64 + bt s (i : Int) % 64 = r * 64 + (bt s (i : Int) - 128) := by omega
    rw [e3]
    exact ih (i + 1) _ (by omega) (by omega) hb.1 hb.2.1 (fun c h => hc c (List.mem_cons_of_mem _ h))
theorem wm {b : Int} (h0 : 0 ≤ b) (h1 : b ≤ 255) : (b < 128 → Go.bits .and .u8 b 127 = b) ∧ Go.bits .and .u8 b 31 = b % 32 ∧ Go.bits .and .u8 b 15 = b % 16 ∧ Go.bits .and .u8 b 7 = b % 8 :=
  ⟨b6 (p := fun b => b < 128 → Go.bits .and .u8 b 127 = b) (by decide +kernel) h0 h1, u8_and31 _ (by omega) (by omega), u8_and15 _ (by omega) (by omega), u8_and7 _ (by omega) (by omega)⟩
theorem vw {b : Int} (h0 : 0 ≤ b) (h1 : b ≤ 255) : ((shp b).1 = 1 → b < 128 ∧ cG (shp b).1 b = b) ∧ ((shp b).1 = 2 → b % 32 = cG (shp b).1 b) ∧ ((shp b).1 = 3 → b % 16 = cG (shp b).1 b) ∧ ((shp b).1 = 4 → b % 8 = cG (shp b).1 b) :=
  b6 (p := fun b => ((shp b).1 = 1 → b < 128 ∧ cG (shp b).1 b = b) ∧ ((shp b).1 = 2 → b % 32 = cG (shp b).1 b) ∧ ((shp b).1 = 3 → b % 16 = cG (shp b).1 b) ∧ ((shp b).1 = 4 → b % 8 = cG (shp b).1 b)) (by decide +kernel) h0 h1
theorem qW (s : ByteArray) (hs : s.size ≤ 140737488351232) : Ev (fun k => fT k s) (dec (aa s)) := by
  unfold fT
  refine ah (xR s hs) ?_
  rcases gS s with ⟨h, e⟩ | ⟨h, e, b0, b1⟩
  · rw [e]
    refine ab (by simp [rc]) ?_
    refine Ev.step (fun k => by rw [dA]) ?_
    exact ab rfl (az _)
  · have hr := jH (bt s 0)
    rw [e, oG, dj]
    by_cases hz : (shp (bt s 0)).1 = 0
    · simp only [if_pos hz]
      refine ab (by simp) ?_
      refine Ev.step (fun k => by rw [dA]) ?_
      exact ab rfl (az _)
    · simp only [if_neg hz]
      have hcl := kg ((shp (bt s 0)).1.toNat - 1) (shp (bt s 0)).2.1 (shp (bt s 0)).2.2 ((aa s).drop 1)
      have hcm : 2 ≤ (shp (bt s 0)).1 → ∀ c ∈ ((aa s).drop 1).take (aU ((shp (bt s 0)).1.toNat - 1) (shp (bt s 0)).2.1 (shp (bt s 0)).2.2 ((aa s).drop 1)), 128 ≤ c ∧ c ≤ 191 :=
        fun h2 => lc _ _ _ (g0 h2).1 (g0 h2).2 _
      rw [List.length_drop, af] at hcl
      revert hcl hcm
      generalize aU ((shp (bt s 0)).1.toNat - 1) (shp (bt s 0)).2.1 (shp (bt s 0)).2.2 ((aa s).drop 1) = m
      intro hcl hcm
      refine Ev.step (fun k => by rw [dA]) ?_
      by_cases hlt : (m : Int) + 1 < (shp (bt s 0)).1
      · rw [if_pos hlt]
        exact ab (by simpa using hlt) (az _)
      · rw [if_neg hlt]
        refine ae (by simpa using hlt) (ab (by omega) (ab (by omega) ?_))
        have hm : m = (shp (bt s 0)).1.toNat - 1 := by omega
        have hl := o3 b0 b1 (by omega)
        have hmk := vw b0 b1
        have ham := wm b0 b1
        have key : ∀ n : Nat, (n : Int) = (shp (bt s 0)).1 → 1 ≤ n → ∀ r : Int, r = cG (shp (bt s 0)).1 (bt s 0) → Ev (fun k => aZ k s r (shp (bt s 0)).1 1) (gn (cG (shp (bt s 0)).1 (bt s 0)) (((aa s).drop 1).take ((shp (bt s 0)).1.toNat - 1)), (shp (bt s 0)).1, true) := by
          intro n hn h1n r hrl
          have hbn : r < bnd (n - 1) := by
            rw [hrl]
            rcases n with _ | _ | _ | _ | _ | n
            · omega
            · exact Int.lt_of_lt_of_le hl.2 (by decide)
            · exact Int.lt_of_lt_of_le hl.2 (by decide)
            · exact Int.lt_of_lt_of_le hl.2 (by decide)
            · exact Int.lt_of_lt_of_le hl.2 (by decide)
            · omega
          have := u1 s hs n (by omega) (n - 1) 1 r (by omega) (by omega) (by omega) hbn (by
            intro c hc
            rw [List.drop_take] at hc
            by_cases h2 : 2 ≤ (shp (bt s 0)).1
            · exact hcm h2 c (by rw [hm, ← hn, Int.toNat_natCast]; exact hc)
            · rw [show n - 1 = 0 by omega] at hc
              simp at hc)
          rw [hn, List.drop_take] at this
          rw [← hrl, show (shp (bt s 0)).1.toNat - 1 = n - 1 by omega]
          exact this
        refine ae hz ?_
        by_cases h1 : (shp (bt s 0)).1 = 1
        · refine ab h1 ?_
          refine key 1 (by omega) (by omega) _ ?_
          rw [ham.1 (hmk.1 h1).1, (hmk.1 h1).2]
          have := (hmk.1 h1).1
          unfold wrap32; omega
        refine ae h1 ?_
        by_cases h2 : (shp (bt s 0)).1 = 2
        · refine ab h2 ?_
          refine key 2 (by omega) (by omega) _ ?_
          rw [ham.2.1, hmk.2.1 h2]
          unfold wrap32; omega
        refine ae h2 ?_
        by_cases h3 : (shp (bt s 0)).1 = 3
        · refine ab h3 ?_
          refine key 3 (by omega) (by omega) _ ?_
          rw [ham.2.2.1, hmk.2.2.1 h3]
          unfold wrap32; omega
        have h4 : (shp (bt s 0)).1 = 4 := by omega
        refine ae h3 (ab h4 ?_)
        refine key 4 (by omega) (by omega) _ ?_
        rw [ham.2.2.2, hmk.2.2.2 h4]
        unfold wrap32; omega
def qL (f0 f1 s0 s1 : Int) (n : Nat) : List Int → Nat
  | [] => 0
  | b :: t => if f0 ≤ b ∧ b ≤ f1 then aU (n - 1) s0 s1 t + 1 else 0
theorem nB (f0 f1 s0 s1 : Int) (n : Nat) (b : Int) (t : List Int) : qL f0 f1 s0 s1 n (b :: t) = if f0 ≤ b ∧ b ≤ f1 then aU (n - 1) s0 s1 t + 1 else 0 := rfl
theorem xQ (s : ByteArray) (hs : s.size ≤ 140737488351232) (f0 f1 s0 s1 : Int) (n : Nat) (hn : n ≤ 4) : ∀ d i : Nat, ∀ lo hi : Int, i + d = n → 1 ≤ i → (i = 1 → lo = s0 ∧ hi = s1) → (i ≠ 1 → lo = 128 ∧ hi = 191) →
    Ev (fun k => bK k s (i : Int) f0 f1 s0 s1 (n : Int)) ((i : Int) + aU (n - i) lo hi ((aa s).drop i)) := by
  intro d
  induction d with
  | zero =>
    intro i lo hi hi2 h1i hlo hhi
    rw [show n - i = 0 by omega, ql]
    simp only [Int.natCast_zero, Int.add_zero]
    refine Ev.step (fun k => by rw [bK]) ?_
    have hd : decide ((i : Int) < (n : Int)) = false := by simp; omega
    rw [hd]
    have fin : Ev (fun k => bJ k s (i : Int) false f0 f1 s0 s1 (n : Int)) (i : Int) := by
      refine Ev.step (fun k => by rw [bJ]) ?_
      exact ae (by simp) (az _)
    by_cases h : (i : Int) < (s.size : Int)
    · exact ab h fin
    · exact ae h fin
  | succ d ih =>
    intro i lo hi hi2 h1i hlo hhi
    refine Ev.step (fun k => by rw [bK]) ?_
    rw [show n - i = (n - (i + 1)) + 1 by omega]
    rcases Nat.lt_or_ge i s.size with h | h
    · rcases br s i (by omega) with ⟨h2, _⟩ | ⟨_, e, b0, b1⟩
      · omega
      have hd : decide ((i : Int) < (n : Int)) = true := by simp; omega
      rw [hd, e]
      refine ab (by omega) ?_
      refine Ev.step (fun k => by rw [bJ]) ?_
      refine ab rfl (ae (by omega) ?_)
      refine Ev.step (fun k => by rw [dS]) ?_
      have hw : wrap64 (bt s (i : Int)) = bt s (i : Int) := w64 (by omega) (by omega)
      have hw2 : wrap64 ((i : Int) + 1) = (i : Int) + 1 := w64 (by omega) (by omega)
      rw [hw, hw2]
      have both : ∀ lo' hi' : Int, lo' = lo → hi' = hi → Ev (fun k => if 0 ≤ (i : Int) then if (i : Int) < (s.size : Int) then if bt s (i : Int) < lo' then some (i : Int) else if bt s (i : Int) > hi' then some (i : Int) else bK k s ((i : Int) + 1) f0 f1 s0 s1 (n : Int) else none else none)
          ((i : Int) + (aU (n - (i + 1) + 1) lo hi (bt s (i : Int) :: (aa s).drop (i + 1)) : Int)) := by
        intro lo' hi' e1 e2
        subst e1; subst e2
        refine ab (by omega) (ab (by omega) ?_)
        unfold aU
        by_cases h1 : bt s (i : Int) < lo'
        · refine ab h1 ?_
          rw [if_neg (by omega)]
          simp only [Int.natCast_zero, Int.add_zero]
          exact az _
        · refine ae h1 ?_
          by_cases h2 : bt s (i : Int) > hi'
          · refine ab h2 ?_
            rw [if_neg (by omega)]
            simp only [Int.natCast_zero, Int.add_zero]
            exact az _
          · refine ae h2 ?_
            rw [if_pos (by omega)]
            have := ih (i + 1) 128 191 (by omega) (by omega) (by omega) (by omega)
            have e3 : ((i : Int) + ((aU (n - (i + 1)) 128 191 ((aa s).drop (i + 1)) + 1 : Nat) : Int)) = (((i + 1 : Nat) : Int) + (aU (n - (i + 1)) 128 191 ((aa s).drop (i + 1)) : Int)) := by omega
            rw [e3]
            exact this
      by_cases hi1 : i = 1
      · refine ab (by omega) ?_
        exact both s0 s1 (hlo hi1).1.symm (hlo hi1).2.symm
      · refine ae (by omega) ?_
        exact both 128 191 (hhi hi1).1.symm (hhi hi1).2.symm
    · refine ae (by omega) ?_
      rw [List.drop_of_length_le (by rw [af]; exact h)]
      refine Ev.step (fun k => by rw [bJ]) ?_
      unfold aU
      simp only [Int.natCast_zero, Int.add_zero]
      exact ae (by simp) (az _)
theorem u7 (s : ByteArray) (hs : s.size ≤ 140737488351232) (f0 f1 s0 s1 : Int) (n : Nat) (h1 : 1 ≤ n) (hn : n ≤ 4) : Ev (fun k => gc k s f0 f1 s0 s1 (n : Int)) (qL f0 f1 s0 s1 n (aa s) : Int) := by
  unfold gc
  refine Ev.step (fun k => by rw [bK]) ?_
  rcases gS s with ⟨h, e⟩ | ⟨h, e, b0, b1⟩
  · rw [e]
    refine ae (by omega) ?_
    refine Ev.step (fun k => by rw [bJ]) ?_
    exact ae (by simp) (az _)
  · rw [e, nB]
    have hd : decide ((0 : Int) < (n : Int)) = true := by simp; omega
    rw [hd]
    refine ab (by omega) ?_
    refine Ev.step (fun k => by rw [bJ]) ?_
    refine ab rfl (ab rfl ?_)
    refine Ev.step (fun k => by rw [dS]) ?_
    have hw : wrap64 (bt s 0) = bt s 0 := w64 (by omega) (by omega)
    have hw2 : wrap64 ((0 : Int) + 1) = ((1 : Nat) : Int) := w64 (by omega) (by omega)
    rw [hw, hw2]
    refine ae (by omega) (ab (by omega) (ab (by omega) ?_))
    by_cases h2 : bt s 0 < f0
    · rw [if_neg (by omega)]
      exact ab h2 (az _)
    · refine ae h2 ?_
      by_cases h3 : bt s 0 > f1
      · rw [if_neg (by omega)]
        exact ab h3 (az _)
      · rw [if_pos (by omega)]
        refine ae h3 ?_
        have := xQ s hs f0 f1 s0 s1 n hn (n - 1) 1 s0 s1 (by omega) (by omega) (by simp) (by simp)
        have e3 : ((aU (n - 1) s0 s1 ((aa s).drop 1) + 1 : Nat) : Int) = ((1 : Nat) : Int) + (aU (n - 1) s0 s1 ((aa s).drop 1) : Int) := by omega
        rw [e3]
        exact this
theorem vO (s : ByteArray) (hs : s.size ≤ 4) : ∀ d i : Nat, ∀ r : Int, i + d = s.size → d ≤ 3 → 0 ≤ r → r < bnd d → (∀ c ∈ (aa s).drop i, 128 ≤ c ∧ c ≤ 191) →
    Ev (fun k => cl k s r (i : Int)) (gn r ((aa s).drop i)) := by
  intro d
  induction d with
  | zero =>
    intro i r hi _ _ _ _
    refine Ev.step (fun k => by rw [cl]) ?_
    refine ae (by omega) ?_
    rw [List.drop_of_length_le (by rw [af]; omega)]
    exact az _
  | succ d ih =>
    intro i r hi hd r0 r1 hc
    rcases br s i (by omega) with ⟨h2, _⟩ | ⟨_, e, b0, b1⟩
    · omega
    rw [e] at hc ⊢
    obtain ⟨c0, c1⟩ := hc _ (List.mem_cons_self ..)
    have hb := oT (by omega) r0 r1 c0 c1
    refine Ev.step (fun k => by rw [cl]) ?_
    refine ab (by omega) (ab (by omega) ?_)
    have e1 : wrap64 (wrap64 (wrap64 (r * 64) + wrap64 (bt s (i : Int))) - 128) = r * 64 + (bt s (i : Int) - 128) := by
      rw [w64 (x := r * 64) (by omega) (by omega), w64 (x := bt s (i : Int)) (by omega) (by omega), w64 (x := r * 64 + bt s (i : Int)) (by omega) (by omega), w64 (by omega) (by omega)]
      omega
    rw [e1, w64 (by omega) (by omega)]
    exact ih (i + 1) _ (by omega) (by omega) hb.1 hb.2.1 (fun c h => hc c (List.mem_cons_of_mem _ h))
theorem wT (s : ByteArray) (n : Nat) (hn : s.size = n) (h1 : 1 ≤ n) (h4 : n ≤ 4) (l0 : 0 ≤ cG (n : Int) (bt s 0)) (l1 : cG (n : Int) (bt s 0) < 128) (hc : ∀ c ∈ (aa s).drop 1, 128 ≤ c ∧ c ≤ 191) :
    Ev (fun k => eI k s) (gn (cG (n : Int) (bt s 0)) ((aa s).drop 1)) := by
  have hr := jx s 0
  have loop : 2 ≤ n → ∀ r, r = cG (n : Int) (bt s 0) → Ev (fun k => cl k s r 1) (gn (cG (n : Int) (bt s 0)) ((aa s).drop 1)) := by
    intro h2 r e
    subst e
    have hbn : cG (n : Int) (bt s 0) < bnd (n - 1) := by
      rcases n with _ | _ | _ | _ | _ | n
      · omega
      · omega
      · exact Int.lt_of_lt_of_le l1 (by decide)
      · exact Int.lt_of_lt_of_le l1 (by decide)
      · exact Int.lt_of_lt_of_le l1 (by decide)
      · omega
    exact vO s (by omega) (n - 1) 1 _ (by omega) (by omega) l0 hbn hc
  have tail : 2 ≤ n → ∀ r, r = cG (n : Int) (bt s 0) → Ev (fun k => dH k s r) (gn (cG (n : Int) (bt s 0)) ((aa s).drop 1)) := by
    intro h2 r e
    refine Ev.step (fun k => by rw [dH]) ?_
    exact loop h2 r e
  unfold eI
  by_cases e1 : n = 1
  · refine ab (by omega) (ab (by omega) ?_)
    rw [List.drop_of_length_le (by rw [af]; omega), w64 (by omega) (by omega), e1]
    have : cG ((1 : Nat) : Int) (bt s 0) = bt s 0 := by unfold cG; simp
    rw [this]
    exact az _
  refine ae (by omega) (ab (by omega) ?_)
  have w0 : wrap64 (bt s 0) = bt s 0 := w64 (by omega) (by omega)
  rw [w0]
  by_cases e3 : n = 3
  · refine ab (by omega) ?_
    refine Ev.step (fun k => by rw [dG]) ?_
    refine ae (by omega) ?_
    refine tail (by omega) _ ?_
    rw [w64 (by omega) (by omega)]
    subst e3
    unfold cG
    simp
  · refine ae (by omega) ?_
    refine Ev.step (fun k => by rw [dG]) ?_
    by_cases e4 : n = 4
    · refine ab (by omega) (ab (by omega) ?_)
      rw [w0]
      refine tail (by omega) _ ?_
      rw [w64 (by omega) (by omega)]
      subst e4
      unfold cG
      simp
    · refine ae (by omega) ?_
      refine tail (by omega) _ ?_
      rw [w64 (by omega) (by omega)]
      have e2 : n = 2 := by omega
      subst e2
      unfold cG
      simp
theorem uw (s : ByteArray) (n : Nat) (hn : n ≤ s.size) (h1 : 1 ≤ n) (h4 : n ≤ 4) (l0 : 0 ≤ cG (n : Int) (bt s 0)) (l1 : cG (n : Int) (bt s 0) < 128) (hc : 2 ≤ n → ∀ c ∈ ((aa s).drop 1).take (n - 1), 128 ≤ c ∧ c ≤ 191) :
    Ev (fun k => eI k (s.extract 0 n)) (gn (cG (n : Int) (bt s 0)) (((aa s).drop 1).take (n - 1))) := by
  have hb : aa (s.extract 0 n) = bt s 0 :: ((aa s).drop 1).take (n - 1) := by
    rcases gS s with ⟨h, _⟩ | ⟨_, e, _⟩
    · omega
    · rw [ay, List.drop_zero]
      conv => lhs; rw [e, show n = (n - 1) + 1 by omega, List.take_succ_cons]
  have hsz : (s.extract 0 n).size = n := by
    rw [← af, hb, List.length_cons, List.length_take, List.length_drop, af]; omega
  have hb0 : bt (s.extract 0 n) 0 = bt s 0 := by
    rcases gS (s.extract 0 n) with ⟨h, _⟩ | ⟨_, e2, _⟩
    · omega
    · rw [hb] at e2
      injection e2 with e2 _
      exact e2.symm
  have := wT (s.extract 0 n) n hsz h1 h4 (by rw [hb0]; exact l0) (by rw [hb0]; exact l1) (by
    intro c hcc
    rw [hb, List.drop_succ_cons, List.drop_zero] at hcc
    by_cases h2 : 2 ≤ n
    · exact hc h2 c hcc
    · rw [show n - 1 = 0 by omega] at hcc
      simp at hcc)
  rw [hb0, hb, List.drop_succ_cons, List.drop_zero] at this
  exact this
def fG (b : Int) : Nat :=
  if b < 128 then 0 else if b < 194 then 9 else if b ≤ 223 then 1 else if b = 224 then 2 else if b ≤ 236 then 3 else if b = 237 then 4 else if b ≤ 239 then 5
  else if b = 240 then 6 else if b ≤ 243 then 7 else if b = 244 then 8 else 9
theorem vQ {b : Int} (h0 : 0 ≤ b) (h1 : b ≤ 255) : ∀ j : Nat, j < 9 → ((ai j 0 ≤ b ∧ b ≤ ai j 1) ↔ fG b = j) := by
  intro j hj
  have := b6 (p := fun b => ∀ j : Fin 9, (ai j.val 0 ≤ b ∧ b ≤ ai j.val 1) ↔ fG b = j.val) (by decide +kernel) h0 h1
  exact this ⟨j, hj⟩
theorem yi {b : Int} (h0 : 0 ≤ b) (h1 : b ≤ 255) : (fG b < 9 → shp b = (ai (fG b) 4, ai (fG b) 2, ai (fG b) 3)) ∧ (9 ≤ fG b → shp b = (0, 0, 0)) :=
  b6 (p := fun b => (fG b < 9 → shp b = (ai (fG b) 4, ai (fG b) 2, ai (fG b) 3)) ∧ (9 ≤ fG b → shp b = (0, 0, 0))) (by decide +kernel) h0 h1
theorem xx (j : Nat) (hj : j < 9) : ∃ n : Nat, ai j 4 = (n : Int) ∧ 1 ≤ n ∧ n ≤ 4 := by
  have : ∀ j : Fin 9, 1 ≤ ai j.val 4 ∧ ai j.val 4 ≤ 4 := by decide +kernel
  obtain ⟨h1, h2⟩ := this ⟨j, hj⟩
  simp only at h1 h2
  exact ⟨(ai j 4).toNat, by omega, by omega, by omega⟩
theorem xw (i : Nat) (hi : i < 9) : gB (i : Int) = some (ai i 0, ai i 1, ai i 2, ai i 3, ai i 4) := by
  unfold gB
  rw [if_pos (by omega), Int.toNat_natCast]
theorem wW (s : ByteArray) (hs : s.size ≤ 140737488351232) (hp : 0 < s.size) (best : Int) (hb : 1 ≤ best) (i : Nat) (hi : i < 9) (hne : fG (bt s 0) ≠ i) (r : Int × Int × Bool)
    (h : Ev (fun k => bd k s best ((i + 1 : Nat) : Int)) r) : Ev (fun k => bd k s best (i : Int)) r := by
  obtain ⟨n, en, n1, n4⟩ := xx i hi
  have hr := jx s 0
  rcases gS s with ⟨h0, _⟩ | ⟨_, e, b0, b1⟩
  · omega
  refine Ev.step (fun k => by rw [bd]) ?_
  refine ab (by omega) (aG (xw i hi) ?_)
  simp only
  rw [en]
  refine ah (u7 s hs _ _ _ _ n n1 n4) ?_
  have hz : qL (ai i 0) (ai i 1) (ai i 2) (ai i 3) n (aa s) = 0 := by
    rw [e, nB, if_neg (fun x => hne ((vQ b0 b1 i hi).1 x))]
  rw [hz]
  refine ae (by omega) ?_
  have hm : mx best ((0 : Nat) : Int) = best := by unfold mx; rw [if_neg (by omega)]
  rw [hm, w64 (by omega) (by omega)]
  exact h
theorem oe (s : ByteArray) (hs : s.size ≤ 140737488351232) (hp : 0 < s.size) (best : Int) (hb : 1 ≤ best) (r : Int × Int × Bool) (j : Nat) (hj : j ≤ 9) (h : Ev (fun k => bd k s best (j : Int)) r) :
    ∀ d i : Nat, i + d = j → (∀ m, i ≤ m → m < j → fG (bt s 0) ≠ m) → Ev (fun k => bd k s best (i : Int)) r := by
  intro d
  induction d with
  | zero => intro i hi _; rw [show i = j by omega]; exact h
  | succ d ih =>
    intro i hi hm
    exact wW s hs hp best hb i (by omega) (hm i (by omega) (by omega)) r (ih (i + 1) (by omega) (fun m h1 h2 => hm m (by omega) h2))
theorem tA (s : ByteArray) (best : Int) : Ev (fun k => bd k s best ((9 : Nat) : Int)) (0, best, false) := by
  refine Ev.step (fun k => by rw [bd]) ?_
  exact ae (by decide) (az _)
set_option maxHeartbeats 1000000 in
theorem oN (s : ByteArray) (hs : s.size ≤ 140737488351232) : Ev (fun k => ep k s) (dec (aa s)) := by
  unfold ep
  have hnil : s.toList = ([] : List UInt8) ↔ aa s = [] := by
    rw [toList_data]
    unfold aa
    exact List.map_eq_nil_iff.symm
  rcases gS s with ⟨h0, e⟩ | ⟨hp, e, b0, b1⟩
  · rw [e]
    exact ab (hnil.2 e) (az _)
  · refine ae (fun h => by rw [hnil.1 h] at e; cases e) ?_
    obtain ⟨hsh1, hsh2⟩ := yi b0 b1
    rcases Nat.lt_or_ge (fG (bt s 0)) 9 with hlt | hge
    · obtain ⟨n, en, n1, n4⟩ := xx _ hlt
      have hshp := hsh1 hlt
      have skipTo : ∀ r, Ev (fun k => bd k s 1 ((fG (bt s 0) : Nat) : Int)) r → Ev (fun k => bd k s 1 0) r := by
        intro r h
        exact oe s hs hp 1 (by omega) r (fG (bt s 0)) (by omega) h (fG (bt s 0)) 0 (by omega) (fun m _ h2 => by omega)
      refine skipTo _ ?_
      refine Ev.step (fun k => by rw [bd]) ?_
      refine ab (by omega) (aG (xw _ hlt) ?_)
      simp only
      rw [en]
      refine ah (u7 s hs _ _ _ _ n n1 n4) ?_
      have hfit : qL (ai (fG (bt s 0)) 0) (ai (fG (bt s 0)) 1) (ai (fG (bt s 0)) 2) (ai (fG (bt s 0)) 3) n (aa s)
          = aU (n - 1) (shp (bt s 0)).2.1 (shp (bt s 0)).2.2 ((aa s).drop 1) + 1 := by
        have hin := (vQ b0 b1 _ hlt).2 rfl
        rw [hshp]
        conv => lhs; rw [e]
        rw [nB, if_pos hin]
      rw [hfit]
      have h1 : (shp (bt s 0)).1 = (n : Int) := by rw [hshp]; exact en
      have hdec := dj (bt s 0) ((aa s).drop 1)
      rw [← e, h1, if_neg (by omega), Int.toNat_natCast] at hdec
      rw [hdec]
      have hcl := kg (n - 1) (shp (bt s 0)).2.1 (shp (bt s 0)).2.2 ((aa s).drop 1)
      have hcm : 2 ≤ (shp (bt s 0)).1 → ∀ c ∈ ((aa s).drop 1).take (aU (n - 1) (shp (bt s 0)).2.1 (shp (bt s 0)).2.2 ((aa s).drop 1)), 128 ≤ c ∧ c ≤ 191 :=
        fun h2 => lc _ _ _ (g0 h2).1 (g0 h2).2 _
      rw [List.length_drop, af] at hcl
      have hlead := o3 b0 b1 (by omega)
      rw [h1] at hcm hlead
      revert hcl hcm
      generalize aU (n - 1) (shp (bt s 0)).2.1 (shp (bt s 0)).2.2 ((aa s).drop 1) = m
      intro hcl hcm
      by_cases hm : (m : Int) + 1 < (n : Int)
      · rw [if_pos hm]
        refine ae (by omega) ?_
        have hmx : mx 1 ((m + 1 : Nat) : Int) = (m : Int) + 1 := by unfold mx; split <;> omega
        rw [hmx, w64 (by omega) (by omega)]
        exact oe s hs hp ((m : Int) + 1) (by omega) _ 9 (by omega) (tA s _) (9 - (fG (bt s 0) + 1)) (fG (bt s 0) + 1) (by omega) (fun k h1 h2 => by omega)
      · rw [if_neg hm]
        have hmn : m + 1 = n := by omega
        rw [hmn, Int.toNat_natCast]
        refine ab rfl (ab (by omega) (ab (by omega) ?_))
        refine ah (uw s n (by omega) n1 n4 hlead.1 hlead.2 (fun h2 c hc => hcm (by omega) c (by rw [show m = n - 1 by omega]; exact hc))) ?_
        exact az _
    · have hshp := hsh2 hge
      have hdec := dj (bt s 0) ((aa s).drop 1)
      rw [← e, hshp, if_pos rfl] at hdec
      rw [hdec]
      exact oe s hs hp 1 (by omega) _ 9 (by omega) (tA s 1) 9 0 (by omega) (fun m _ h2 => by omega)
end Go.Proofs.YtpmflpeckoeooaaGreatDoor.Y
namespace Go.Proofs.YtpmflpeckoeooaaGreatDoor.M
open Go Go.RowKit Go.Proofs.YtpmflpeckoeooaaGreatDoorW.PrintWords
def gv : List Int → Int
  | p :: a :: b :: _ => if p = 37 then (if hv a < 0 ∨ hv b < 0 then -1 else 16 * hv a + hv b) else -1
  | _ => -1
theorem qZ {l : List Int} (h : 0 ≤ gv l) : ∃ a b t, l = 37 :: a :: b :: t ∧ bu a = true ∧ bu b = true ∧ gv l = 16 * hv a + hv b := by
  unfold gv at h ⊢
  split at h
  · rename_i p a b t
    by_cases hp : p = 37
    · rw [if_pos hp] at h ⊢
      by_cases h2 : hv a < 0 ∨ hv b < 0
      · rw [if_pos h2] at h; omega
      · rw [if_neg h2]
        subst hp
        exact ⟨a, b, t, rfl, (kr a).1 (by omega), (kr b).1 (by omega), rfl⟩
    · rw [if_neg hp] at h; omega
  · omega
def dN (p : Int) : Bool := decide (1 ≤ p ∧ p ≤ 7)
def kp (p b : Int) : Bool :=
  if p = 1 then b == 58 else if p = 3 then b == 58 || b == 64 else if p = 4 then b == 64 else if p = 5 then b == 58 || b == 64 || b == 47
  else if p = 6 ∨ p = 7 then b == 58 || b == 64 || b == 47 || b == 63 else false
def cn (p b : Int) : Bool := dN p && (ln b || kp p b)
def iF (r : Int) : Bool := decide (160 ≤ r ∧ r ≤ 55295 ∨ 63744 ≤ r ∧ r ≤ 64975 ∨ 65008 ≤ r ∧ r ≤ 65519 ∨ 65536 ≤ r ∧ r ≤ 983037 ∧ r % 65536 ≤ 65533 ∧ (r < 917504 ∨ 921600 ≤ r))
def rp (r : Int) : Bool := decide (57344 ≤ r ∧ r ≤ 63743 ∨ 983040 ≤ r ∧ r ≤ 1048573 ∨ 1048576 ≤ r ∧ r ≤ 1114109)
def gr (p : Int) (iri : Bool) (r : Int) : Bool := if 0 ≤ r ∧ r < 128 then cn p r else (iri && dN p && (iF r || (decide (p = 6) && rp r)))
def aT (p : Int) (iri : Bool) (l : List Int) : Nat :=
  if dN p then (if 0 ≤ gv l then 3 else if (dec l).2.2 && gr p iri (dec l).1 then (dec l).2.1.toNat else 0) else 0
theorem kv (p : Int) (iri : Bool) (l : List Int) : aT p iri l ≤ l.length := by
  unfold aT
  split
  · split
    · rename_i h
      obtain ⟨a, b, t, rfl, _⟩ := qZ h
      simp
    · split
      · have := pf l; omega
      · omega
  · omega
theorem rE (p : Int) (iri : Bool) : aT p iri [] = 0 := by
  have := kv p iri []
  simpa using this
def an (p : Int) (iri : Bool) (l : List Int) : Nat :=
  if h : aT p iri l = 0 then 0 else aT p iri l + an p iri (l.drop (aT p iri l))
termination_by l.length
decreasing_by
  have := kv p iri l
  rw [List.length_drop]
  omega
theorem hM (p : Int) (iri : Bool) (l : List Int) : an p iri l = if aT p iri l = 0 then 0 else aT p iri l + an p iri (l.drop (aT p iri l)) := by
  rw [an]
  split <;> simp_all
theorem hO (p : Int) (iri : Bool) (l : List Int) : an p iri l ≤ l.length := by
  induction hn : l.length using Nat.strongRecOn generalizing l with
  | _ n ih =>
    rw [hM]
    split
    · omega
    · have h1 := kv p iri l
      have := ih (l.drop (aT p iri l)).length (by rw [List.length_drop]; omega) (l.drop (aT p iri l)) rfl
      rw [List.length_drop] at this
      omega
theorem nN (p : Int) (iri : Bool) : an p iri [] = 0 := by
  have := hO p iri []
  simpa using this
def bn (p : Int) (iri : Bool) (l : List Int) : Bool := an p iri l == l.length
theorem la (p : Int) (iri : Bool) : bn p iri [] = true := by simp [bn, nN]
def kz (p b : Int) : Bool := decide (128 ≤ b) || (b == 37) || ln b || kp p b
theorem oH {p b : Int} (h : bu b = true) : kz p b = true := by
  unfold kz
  rw [tV h]
  simp
theorem uD {p : Int} {iri : Bool} {l : List Int} (hl : ∀ b ∈ l, 0 ≤ b ∧ b ≤ 255) : ∀ b ∈ l.take (aT p iri l), kz p b = true := by
  unfold aT
  split
  · split
    · rename_i h
      obtain ⟨a, b, t, rfl, ha, hb, _⟩ := qZ h
      intro c hc
      simp only [List.take_succ_cons, List.take_zero, List.mem_cons, List.mem_nil_iff, or_false] at hc
      rcases hc with rfl | rfl | rfl
      · simp [kz]
      · exact oH ha
      · exact oH hb
    · split
      · rename_i h
        rw [Bool.and_eq_true] at h
        cases l with
        | nil => simp
        | cons b t =>
          have hb := hl b (List.mem_cons_self ..)
          by_cases h128 : b < 128
          · rw [kn t h128] at h ⊢
            simp only [Int.toNat_one, List.take_succ_cons, List.take_zero]
            intro c hc
            rw [List.mem_singleton] at hc
            subst hc
            have h2 := h.2
            unfold gr at h2
            rw [if_pos ⟨hb.1, h128⟩] at h2
            unfold cn at h2
            unfold kz
            simp only [Bool.and_eq_true, Bool.or_eq_true] at h2 ⊢
            rcases h2.2 with h3 | h3
            · exact .inl (.inr h3)
            · exact .inr h3
          · intro c hc
            have := (wt (t := t) (by omega) hb.2 h.1).2 c hc
            unfold kz
            simp [this]
      · simp
  · simp
theorem uB {p : Int} {iri : Bool} {l : List Int} (hl : ∀ b ∈ l, 0 ≤ b ∧ b ≤ 255) : ∀ b ∈ l.take (an p iri l), kz p b = true := by
  induction hn : l.length using Nat.strongRecOn generalizing l with
  | _ n ih =>
    rw [hM]
    split
    · simp
    · have h1 := kv p iri l
      have h2 := ih (l.drop (aT p iri l)).length (by rw [List.length_drop]; omega) (fun b hb => hl b (List.mem_of_mem_drop hb)) rfl
      intro b hb
      rw [List.take_add] at hb
      rcases List.mem_append.1 hb with h | h
      · exact uD hl b h
      · exact h2 b h
theorem sI {p : Int} {iri : Bool} {l : List Int} (hl : ∀ b ∈ l, 0 ≤ b ∧ b ≤ 255) (h : bn p iri l = true) : ∀ b ∈ l, kz p b = true := by
  have h2 : an p iri l = l.length := by simpa [bn] using h
  have := uB (p := p) (iri := iri) hl
  rw [h2, List.take_length] at this
  exact this
end Go.Proofs.YtpmflpeckoeooaaGreatDoor.M
namespace Go.Proofs.YtpmflpeckoeooaaGreatDoor.Y
open Go.RowKit Go.Proofs.YtpmflpeckoeooaaGreatDoor.X Go.Proofs.YtpmflpeckoeooaaGreatDoor.M Go.Proofs.YtpmflpeckoeooaaGreatDoorW.PrintWords Go.Proofs.YtpmflpeckoeooaaGreatDoorW.PrintLast Go.Proofs.YtpmflpeckoeooaaGreatDoorW.PrintMore
theorem xq {s : ByteArray} {i : Nat} (h : i + 3 ≤ s.size) : (aa s).drop i = bt s (i : Int) :: bt s ((i : Int) + 1) :: bt s ((i : Int) + 2) :: (aa s).drop (i + 3) := by
  rcases br s i (by omega) with ⟨h2, _⟩ | ⟨_, e, _⟩
  · omega
  rcases br s (i + 1) (by omega) with ⟨h2, _⟩ | ⟨_, e2, _⟩
  · omega
  rcases br s (i + 2) (by omega) with ⟨h2, _⟩ | ⟨_, e3, _⟩
  · omega
  rw [e, e2, e3]
  rfl
theorem nz {l : List Int} (h : l.length < 3) : gv l = -1 := by
  match l, h with
  | [], _ => rfl
  | [_], _ => rfl
  | [_, _], _ => rfl
  | _ :: _ :: _ :: _, h => simp only [List.length_cons] at h; omega
theorem pg (p a b : Int) (t : List Int) : gv (p :: a :: b :: t) = if p = 37 then (if hv a < 0 ∨ hv b < 0 then -1 else 16 * hv a + hv b) else -1 := rfl
theorem wC {a b : Int} (ha : 0 ≤ a) (ha1 : a ≤ 15) (hb : 0 ≤ b) (hb1 : b ≤ 15) : (Go.bits .or .i64 (wrap64 (a * 16)) b) % 256 = 16 * a + b := by
  have : ∀ x : Fin 16, ∀ y : Fin 16, (Go.bits .or .i64 (wrap64 (((x.val : Nat) : Int) * 16)) ((y.val : Nat) : Int)) % 256 = 16 * ((x.val : Nat) : Int) + ((y.val : Nat) : Int) := by decide +kernel
  have := this ⟨a.toNat, by omega⟩ ⟨b.toNat, by omega⟩
  simp only at this
  rwa [Int.toNat_of_nonneg ha, Int.toNat_of_nonneg hb] at this
theorem xL (s : ByteArray) (i : Nat) (hi : i ≤ s.size) (hs : s.size ≤ 140737488351232) : Ev (fun k => g5 k s (i : Int)) (if gv ((aa s).drop i) < 0 then (0, false) else (gv ((aa s).drop i), true)) := by
  unfold g5
  refine ae (by omega) ?_
  have bad : ∀ r, r = (0, false) → Ev (fun k => dB k s (i : Int) true) r := by
    intro r e
    subst e
    refine Ev.step (fun k => by rw [dB]) ?_
    exact ab rfl (az _)
  rw [w64 (by omega) (by omega)]
  by_cases h3 : i + 3 ≤ s.size
  · refine ae (by omega) (ab (by omega) (ab (by omega) ?_))
    rw [xq h3, pg]
    by_cases hp : bt s (i : Int) = 37
    · rw [if_pos hp, hp]
      refine Ev.step (fun k => by rw [dB]) ?_
      refine ae (by decide) ?_
      have r1 := jx s ((i : Int) + 1)
      have r2 := jx s ((i : Int) + 2)
      have v1 := ki (bt s ((i : Int) + 1))
      have v2 := ki (bt s ((i : Int) + 2))
      rw [w64 (x := (i : Int) + 1) (by omega) (by omega), w64 (x := (i : Int) + 2) (by omega) (by omega)]
      refine ab (by omega) (ab (by omega) (ah (qd r1.1 r1.2) (ab (by omega) (ab (by omega) (ah (qd r2.1 r2.2) ?_)))))
      generalize hv (bt s ((i : Int) + 1)) = x at v1 ⊢
      generalize hv (bt s ((i : Int) + 2)) = y at v2 ⊢
      by_cases h1 : x < 0
      · have h3 : x < 0 ∨ y < 0 := .inl h1
        simp only [if_pos h1, if_pos h3]
        exact ae (by simp) (az _)
      · simp only [if_neg h1]
        refine ab (by simp) ?_
        by_cases h2 : y < 0
        · have h3 : x < 0 ∨ y < 0 := .inr h2
          simp only [if_pos h2, if_pos h3]
          exact ae (by simp) (az _)
        · have h3 : ¬ (x < 0 ∨ y < 0) := by omega
          simp only [if_neg h2, if_neg h3]
          refine ab (by simp) ?_
          rw [if_neg (by omega), wC (by omega) (by omega) (by omega) (by omega)]
          exact az _
    · rw [if_neg hp, if_pos (by omega)]
      have : (bt s (i : Int) != 37) = true := by simpa using hp
      rw [this]
      exact bad _ rfl
  · refine ab (by omega) ?_
    rw [nz (by rw [List.length_drop, af]; omega), if_pos (by omega)]
    exact bad _ rfl
theorem ye (s : ByteArray) (i : Nat) (hi : i ≤ s.size) (hs : s.size ≤ 140737488351232) : Ev (fun k => gW k s (i : Int)) (gv ((aa s).drop i)) := by
  unfold gW
  refine ae (by omega) ?_
  have bad : ∀ r, r = -1 → Ev (fun k => cB k s (i : Int) true) r := by
    intro r e
    subst e
    refine Ev.step (fun k => by rw [cB]) ?_
    exact ab rfl (az _)
  by_cases h0 : i < s.size
  · refine ae (by omega) ?_
    rw [w64 (by omega) (by omega)]
    by_cases h3 : i + 3 ≤ s.size
    · refine ae (by omega) (ab (by omega) (ab (by omega) ?_))
      rw [xq h3, pg]
      by_cases hp : bt s (i : Int) = 37
      · rw [if_pos hp, hp]
        refine Ev.step (fun k => by rw [cB]) ?_
        refine ae (by decide) ?_
        have r1 := jx s ((i : Int) + 1)
        have r2 := jx s ((i : Int) + 2)
        have v1 := ki (bt s ((i : Int) + 1))
        have v2 := ki (bt s ((i : Int) + 2))
        rw [w64 (x := (i : Int) + 1) (by omega) (by omega), w64 (x := (i : Int) + 2) (by omega) (by omega)]
        refine ab (by omega) (ab (by omega) (ah (lT r1.1 r1.2) (ab (by omega) (ab (by omega) (ah (lT r2.1 r2.2) ?_)))))
        generalize hv (bt s ((i : Int) + 1)) = x at v1 ⊢
        generalize hv (bt s ((i : Int) + 2)) = y at v2 ⊢
        by_cases h1 : x < 0
        · have h3 : x < 0 ∨ y < 0 := .inl h1
          rw [if_pos h3]
          exact ab h1 (az _)
        · refine ae h1 ?_
          by_cases h2 : y < 0
          · have h3 : x < 0 ∨ y < 0 := .inr h2
            rw [if_pos h3]
            exact ab h2 (az _)
          · have h3 : ¬ (x < 0 ∨ y < 0) := by omega
            refine ae h2 ?_
            rw [if_neg h3, w64 (x := 16 * x) (by omega) (by omega), w64 (by omega) (by omega)]
            exact az _
      · rw [if_neg hp]
        have : (bt s (i : Int) != 37) = true := by simpa using hp
        rw [this]
        exact bad _ rfl
    · refine ab (by omega) ?_
      rw [nz (by rw [List.length_drop, af]; omega)]
      exact bad _ rfl
  · refine ab (by omega) ?_
    rw [nz (by rw [List.length_drop, af]; omega)]
    exact bad _ rfl
theorem ot (p : Int) : ∃ t, gU p = some (t, dN p) := by
  unfold gU dN
  by_cases h1 : p = 1
  · subst h1; exact ⟨_, rfl⟩
  by_cases h2 : p = 2
  · subst h2; exact ⟨_, rfl⟩
  by_cases h3 : p = 3
  · subst h3; exact ⟨_, rfl⟩
  by_cases h4 : p = 4
  · subst h4; exact ⟨_, rfl⟩
  by_cases h5 : p = 5
  · subst h5; exact ⟨_, rfl⟩
  by_cases h6 : p = 6
  · subst h6; exact ⟨_, rfl⟩
  by_cases h7 : p = 7
  · subst h7; exact ⟨_, rfl⟩
  · rw [if_neg h1, if_neg h2, if_neg h3, if_neg h4, if_neg h5, if_neg h6, if_neg h7]
    exact ⟨_, by rw [decide_eq_false (by omega)]⟩
theorem qu {q : Int → Prop} (h : ∀ n : Fin 7, q ((n.val : Nat) + 1 : Int)) {p : Int} (hp : dN p = true) : q p := by
  have hp : 1 ≤ p ∧ p ≤ 7 := by simpa [dN] using hp
  have := h ⟨(p - 1).toNat, by omega⟩
  simp only at this
  rwa [Int.toNat_of_nonneg (by omega), show p - 1 + 1 = p by omega] at this
theorem tx {p b : Int} (h0 : 0 ≤ b) (h1 : b ≤ 255) : Ev (fun k => d6 k p b) (cn p b) := by
  by_cases hp : dN p = true
  · refine lL (fun k => hZ p b k) (k := 20) ?_
    refine qu (q := fun p => d6 20 p b = some (cn p b)) ?_ hp
    intro n
    exact b6 (p := fun b => d6 20 ((n.val : Nat) + 1 : Int) b = some (cn ((n.val : Nat) + 1 : Int) b)) (by revert n; decide +kernel) h0 h1
  · unfold d6 cn
    obtain ⟨t, e⟩ := ot p
    refine aG e ?_
    rw [Bool.not_eq_true] at hp
    rw [hp]
    exact ae (by simp) (az _)
theorem up {p b : Int} (h0 : 0 ≤ b) (h1 : b ≤ 255) : Ev (fun k => bX k p b) (cn p b) := by
  by_cases hp : dN p = true
  · refine lL (fun k => mA p b k) (k := 70) ?_
    refine qu (q := fun p => bX 70 p b = some (cn p b)) ?_ hp
    intro n
    exact b6 (p := fun b => bX 70 ((n.val : Nat) + 1 : Int) b = some (cn ((n.val : Nat) + 1 : Int) b)) (by revert n; decide +kernel) h0 h1
  · unfold bX cn
    have hp2 : ¬ (1 ≤ p ∧ p ≤ 7) := by simpa [dN] using hp
    rw [Bool.not_eq_true] at hp
    rw [hp, Bool.false_and]
    by_cases hlt : p < 1
    · refine ab hlt ?_
      refine Ev.step (fun k => by rw [bv]) ?_
      exact ab rfl (az _)
    · refine ae hlt ?_
      rw [decide_eq_true (by omega)]
      refine Ev.step (fun k => by rw [bv]) ?_
      exact ab rfl (az _)
theorem uX (r : Int) (h0 : 160 ≤ r) (h1 : r < 2147483648) (b : Bool) (hb : b = true ↔ (r ≤ 55295 ∨ 63744 ≤ r ∧ r ≤ 64975 ∨ 65008 ≤ r ∧ r ≤ 65519)) : Ev (fun k => bF k r b) (iF r) := by
  refine Ev.step (fun k => by rw [bF]) ?_
  have hm : Go.bits .and .i32 r 65535 = r % 65536 := bits_mask .i32 31 (by decide) wraps_i32 16 (by decide) r (by omega) (by omega)
  unfold iF
  refine Ev.ite (fun h => Ev.val ?_) (fun h => Ev.ite (fun h2 => Ev.val ?_) (fun h2 => Ev.ite (fun h3 => Ev.val ?_) (fun h3 => ?_)))
  · have := hb.1 h
    symm
    rw [decide_eq_true_iff]
    omega
  · have hnb : ¬ (r ≤ 55295 ∨ 63744 ≤ r ∧ r ≤ 64975 ∨ 65008 ≤ r ∧ r ≤ 65519) := fun x => h (hb.2 x)
    symm
    rw [decide_eq_false_iff_not]
    omega
  · have hnb : ¬ (r ≤ 55295 ∨ 63744 ≤ r ∧ r ≤ 64975 ∨ 65008 ≤ r ∧ r ≤ 65519) := fun x => h (hb.2 x)
    symm
    rw [decide_eq_false_iff_not]
    omega
  · have hnb : ¬ (r ≤ 55295 ∨ 63744 ≤ r ∧ r ≤ 64975 ∨ 65008 ≤ r ∧ r ≤ 65519) := fun x => h (hb.2 x)
    rw [hm]
    refine Ev.ite (fun h4 => Ev.ite (fun h5 => Ev.val ?_) (fun h5 => Ev.val ?_)) (fun h4 => Ev.val ?_)
    · symm
      rw [decide_eq_true_iff]
      omega
    · rw [decide_eq_decide]
      omega
    · symm
      rw [decide_eq_false_iff_not]
      omega
theorem wo (r : Int) (h1 : r < 2147483648) : Ev (fun k => fA k r) (iF r) := by
  unfold fA
  refine Ev.ite (fun h => Ev.val ?_) (fun h => ?_)
  · unfold iF
    symm
    rw [decide_eq_false_iff_not]
    omega
  · have key := uX r (by omega) h1
    refine Ev.ite (fun h2 => key _ ?_) (fun h2 => Ev.ite (fun h3 => Ev.ite (fun h4 => key _ ?_) (fun h4 => Ev.ite (fun h5 => key _ ?_) (fun h5 => key _ ?_))) (fun h3 => Ev.ite (fun h5 => key _ ?_) (fun h5 => key _ ?_))) <;> simp <;> omega
theorem vF (r : Int) : iH r = some (rp r) := by
  unfold iH rp
  (repeat' split) <;> congr 1 <;> first | (symm; rw [decide_eq_true_iff]; omega) | (symm; rw [decide_eq_false_iff_not]; omega) | (rw [decide_eq_decide]; omega)
theorem rv (r : Int) : fh r = some (rp r) := by
  unfold fh rp
  (repeat' split) <;> congr 1 <;> first | (symm; rw [decide_eq_true_iff]; omega) | (symm; rw [decide_eq_false_iff_not]; omega) | (rw [decide_eq_decide]; omega)
theorem ru (r : Int) (h0 : 0 ≤ r) (h1 : r < 2147483648) (hn : ¬ (160 ≤ r ∧ r ≤ 55295 ∨ 63744 ≤ r ∧ r ≤ 64975 ∨ 65008 ≤ r ∧ r ≤ 65519)) : ∀ d p : Nat, p + d = 14 → 1 ≤ p → (∀ q : Int, 1 ≤ q → q < p → ¬ (q * 65536 ≤ r ∧ r ≤ q * 65536 + 65533)) →
    Ev (fun k => bD k r (p : Int)) (iF r) := by
  intro d
  induction d with
  | zero =>
    intro p hp h1p hq
    refine Ev.step (fun k => by rw [bD]) ?_
    refine ae (by omega) ?_
    have h13 : ¬ (65536 ≤ r ∧ r ≤ 917501 ∧ r % 65536 ≤ 65533) := by
      intro h
      have := hq (r / 65536) (by omega) (by omega)
      omega
    unfold iF
    refine Ev.ite (fun h => Ev.val ?_) (fun h => Ev.val ?_)
    · rw [decide_eq_decide]
      omega
    · symm
      rw [decide_eq_false_iff_not]
      omega
  | succ d ih =>
    intro p hp h1p hq
    refine Ev.step (fun k => by rw [bD]) ?_
    rw [w64 (x := (p : Int) * 65536) (by omega) (by omega), w64 (x := (p : Int) * 65536 + 65533) (by omega) (by omega), w64 (x := (p : Int) + 1) (by omega) (by omega)]
    have next : ¬ ((p : Int) * 65536 ≤ r ∧ r ≤ (p : Int) * 65536 + 65533) → Ev (fun k => bD k r ((p : Int) + 1)) (iF r) := by
      intro h
      refine ih (p + 1) (by omega) (by omega) (fun q q1 q2 => ?_)
      by_cases e : q = p
      · subst e; exact h
      · exact hq q q1 (by omega)
    refine ab (by omega) (Ev.ite (fun h => Ev.ite (fun h2 => Ev.val ?_) (fun h2 => next (fun x => h2 x.2))) (fun h => next (fun x => h x.1)))
    unfold iF
    symm
    rw [decide_eq_true_iff]
    omega
theorem sP (r : Int) (h0 : 0 ≤ r) (h1 : r < 2147483648) : Ev (fun k => fD k r) (iF r) := by
  have key : ∀ b : Bool, (b = true ↔ (160 ≤ r ∧ r ≤ 55295 ∨ 63744 ≤ r ∧ r ≤ 64975 ∨ 65008 ≤ r ∧ r ≤ 65519)) → Ev (fun k => aX k r b) (iF r) := by
    intro b hb
    refine Ev.step (fun k => by rw [aX]) ?_
    refine Ev.ite (fun h => Ev.val ?_) (fun h => ?_)
    · have := hb.1 h
      unfold iF
      symm
      rw [decide_eq_true_iff]
      omega
    · exact ru r h0 h1 (fun x => h (hb.2 x)) 13 1 (by omega) (by omega) (fun q q1 q2 => by omega)
  unfold fD
  refine Ev.ite (fun h2 => Ev.ite (fun h3 => key _ ?_) (fun h3 => Ev.ite (fun h4 => Ev.ite (fun h5 => key _ ?_) (fun h5 => Ev.ite (fun h6 => key _ ?_) (fun h6 => key _ ?_))) (fun h4 => Ev.ite (fun h6 => key _ ?_) (fun h6 => key _ ?_))))
    (fun h2 => Ev.ite (fun h4 => Ev.ite (fun h5 => key _ ?_) (fun h5 => Ev.ite (fun h6 => key _ ?_) (fun h6 => key _ ?_))) (fun h4 => Ev.ite (fun h6 => key _ ?_) (fun h6 => key _ ?_))) <;> simp <;> omega
theorem vy {r : Int} (h0 : 0 ≤ r) (h1 : r < 128) : r % 256 = r := by omega
theorem za (p : Int) (iri : Bool) (r : Int) (h0 : 0 ≤ r) (h1 : r < 2147483648) : Ev (fun k => g7 k p iri r) (gr p iri r) := by
  unfold g7 gr
  refine ab (by omega) ?_
  refine Ev.step (fun k => by rw [ff]) ?_
  by_cases h : r < 128
  · rw [if_pos ⟨h0, h⟩, vy h0 h]
    refine ab (by simpa using h) ?_
    exact ah (tx h0 (by omega)) (az _)
  · rw [if_neg (fun x => h x.2)]
    refine ae (by simpa using h) ?_
    obtain ⟨t, e⟩ := ot p
    refine aG e ?_
    simp only
    cases hp : dN p
    · refine ae (by simp) ?_
      refine Ev.step (fun k => by rw [er]) ?_
      refine ab rfl (Ev.val ?_)
      simp
    · refine ab rfl ?_
      refine Ev.step (fun k => by rw [er]) ?_
      cases iri
      · exact ab rfl (az _)
      · refine ae (by simp) (ah (wo r h1) ?_)
        cases hc : iF r
        · refine ae (by simp) (Ev.ite (fun h6 => ?_) (fun h6 => ?_))
          · refine aG (vF r) (Ev.val ?_)
            simp [h6]
          · exact Ev.val (by simp [h6])
        · exact ab rfl (Ev.val (by simp))
theorem wR (p : Int) (iri : Bool) (r : Int) (h0 : 0 ≤ r) (h1 : r < 2147483648) : Ev (fun k => gC k p iri r) (gr p iri r) := by
  unfold gC gr
  refine ab (by omega) ?_
  refine Ev.step (fun k => by rw [fa]) ?_
  by_cases h : r < 128
  · rw [if_pos ⟨h0, h⟩, vy h0 h]
    refine ab (by simpa using h) ?_
    exact ah (up h0 (by omega)) (az _)
  · rw [if_neg (fun x => h x.2)]
    refine ae (by simpa using h) ?_
    have bad : ∀ v : Bool, v = false → Ev (fun k => cK k p r true) v := by
      intro v e
      subst e
      refine Ev.step (fun k => by rw [cK]) ?_
      exact ab rfl (az _)
    cases iri
    · exact ae (by simp) (bad _ (by simp))
    · refine ab rfl ?_
      by_cases hp : dN p = true
      · have hp2 : 1 ≤ p ∧ p ≤ 7 := by simpa [dN] using hp
        rw [hp]
        refine ae (by omega) ?_
        rw [decide_eq_false (by omega)]
        refine Ev.step (fun k => by rw [cK]) ?_
        refine ae (by simp) (ah (sP r h0 h1) ?_)
        cases hc : iF r
        · refine ae (by simp) (Ev.ite (fun h6 => ?_) (fun h6 => ?_))
          · refine aG (rv r) (Ev.val ?_)
            simp [h6]
          · exact Ev.val (by simp [h6])
        · exact ab rfl (Ev.val (by simp))
      · have hp2 : ¬ (1 ≤ p ∧ p ≤ 7) := by simpa [dN] using hp
        rw [Bool.not_eq_true] at hp
        rw [hp]
        refine Ev.ite (fun h6 => bad _ (by simp)) (fun h6 => ?_)
        rw [decide_eq_true (by omega)]
        exact bad _ (by simp)
theorem sG (t : List Int) (h : ∀ c ∈ t, 128 ≤ c ∧ c ≤ 191) : ∀ r, 0 ≤ r → t.length ≤ 3 → r < bnd t.length → 0 ≤ gn r t ∧ gn r t < 33554432 := by
  induction t with
  | nil => intro r h0 _ h1; exact ⟨h0, h1⟩
  | cons c t ih =>
    intro r h0 hl h1
    obtain ⟨c0, c1⟩ := h c (List.mem_cons_self ..)
    rw [List.length_cons] at hl h1
    have hb := oT (by omega) h0 h1 c0 c1
    exact ih (fun d hd => h d (List.mem_cons_of_mem _ hd)) _ hb.1 (by omega) hb.2.1
theorem qm (l : List Int) (hl : ∀ b ∈ l, 0 ≤ b ∧ b ≤ 255) : 0 ≤ (dec l).1 ∧ (dec l).1 < 33554432 := by
  cases l with
  | nil => simp [dec]
  | cons b t =>
    obtain ⟨b0, b1⟩ := hl b (List.mem_cons_self ..)
    rw [dj]
    have hr := jH b
    by_cases hz : (shp b).1 = 0
    · rw [if_pos hz]; simp
    · rw [if_neg hz]
      have hm : 2 ≤ (shp b).1 → ∀ c ∈ t.take (aU ((shp b).1.toNat - 1) (shp b).2.1 (shp b).2.2 t), 128 ≤ c ∧ c ≤ 191 := fun h2 => lc _ _ _ (g0 h2).1 (g0 h2).2 _
      have hc := kg ((shp b).1.toNat - 1) (shp b).2.1 (shp b).2.2 t
      revert hm hc
      generalize aU ((shp b).1.toNat - 1) (shp b).2.1 (shp b).2.2 t = m
      intro hm hc
      by_cases h2 : (m : Int) + 1 < (shp b).1
      · rw [if_pos h2]; simp
      · rw [if_neg h2]
        have hld := o3 b0 b1 (by omega)
        simp only
        refine sG _ ?_ _ hld.1 (by rw [List.length_take]; omega) ?_
        · intro c hcc
          by_cases h2 : 2 ≤ (shp b).1
          · exact hm h2 c (by rw [show m = (shp b).1.toNat - 1 by omega]; exact hcc)
          · rw [show (shp b).1.toNat - 1 = 0 by omega] at hcc
            simp at hcc
        · refine Int.lt_of_lt_of_le hld.2 ?_
          generalize (t.take ((shp b).1.toNat - 1)).length = n
          rcases n with _ | _ | _ | n <;> simp [bnd]
theorem lb (s : ByteArray) : ∀ b ∈ aa s, 0 ≤ b ∧ b ≤ 255 := fun _ h => fI h
theorem ba (s : ByteArray) (i : Nat) : aa (s.extract i s.size) = (aa s).drop i := by
  rw [ay, ← af, List.take_length]
theorem nl {p : Int} {iri : Bool} {l : List Int} (hp : dN p = true) (h : gv l < 0) : aT p iri l = if (dec l).2.2 && gr p iri (dec l).1 then (dec l).2.1.toNat else 0 := by
  unfold aT
  rw [if_pos hp, if_neg (by omega)]
theorem yk (p : Int) (iri : Bool) (s : ByteArray) (hs : s.size ≤ 140737488351232) (hp : dN p = true) : ∀ d i : Nat, i + d = s.size → Ev (fun k => cW k p iri s (i : Int)) ((i : Int) + an p iri ((aa s).drop i)) := by
  intro d
  induction d using Nat.strongRecOn with
  | _ d ih =>
    intro i hi
    refine Ev.step (fun k => by rw [cW]) ?_
    refine Ev.ite (fun h => ?_) (fun h => ?_)
    · obtain ⟨t, e⟩ := ot p
      refine aG e ?_
      simp only
      refine ab hp (ah (xL s i (by omega) hs) ?_)
      rw [hM]
      by_cases he : gv ((aa s).drop i) < 0
      · simp only [if_pos he]
        refine ae (by simp) (ab (by omega) (ab (by omega) ?_))
        rw [Int.toNat_natCast]
        have hd := qW (s.extract i s.size) (by rw [← af, ba, List.length_drop, af]; omega)
        rw [ba] at hd
        refine ah hd ?_
        rw [nl hp he]
        have hr := qm ((aa s).drop i) (fun b hb => lb s b (List.mem_of_mem_drop hb))
        have hn := pf ((aa s).drop i)
        rw [List.length_drop, af] at hn
        cases hok : (dec ((aa s).drop i)).2.2
        · refine ae (by simp) (Ev.val (by simp))
        · refine ab rfl (ah (za p iri _ hr.1 (by omega)) ?_)
          have hn1 := kW hok
          cases hm : gr p iri (dec ((aa s).drop i)).1
          · refine ae (by simp) (Ev.val (by simp))
          · refine ab rfl ?_
            rw [w64 (by omega) (by omega)]
            simp only [Bool.and_self, if_true]
            rw [if_neg (by omega), List.drop_drop]
            have := ih (s.size - (i + (dec ((aa s).drop i)).2.1.toNat)) (by omega) (i + (dec ((aa s).drop i)).2.1.toNat) (by omega)
            have e1 : ((i + (dec ((aa s).drop i)).2.1.toNat : Nat) : Int) = (i : Int) + (dec ((aa s).drop i)).2.1 := by omega
            rw [e1] at this
            have e2 : (i : Int) + (((dec ((aa s).drop i)).2.1.toNat + an p iri ((aa s).drop (i + (dec ((aa s).drop i)).2.1.toNat)) : Nat) : Int) = (i : Int) + (dec ((aa s).drop i)).2.1 + (an p iri ((aa s).drop (i + (dec ((aa s).drop i)).2.1.toNat)) : Int) := by omega
            rw [e2]
            exact this
      · simp only [if_neg he]
        refine ab (by simp) ?_
        have h3 : aT p iri ((aa s).drop i) = 3 := by unfold aT; rw [if_pos hp, if_pos (by omega)]
        have hl := kv p iri ((aa s).drop i)
        rw [h3, List.length_drop, af] at hl
        rw [h3, w64 (by omega) (by omega), if_neg (by omega), List.drop_drop]
        have := ih (s.size - (i + 3)) (by omega) (i + 3) (by omega)
        have e2 : (i : Int) + ((3 + an p iri ((aa s).drop (i + 3)) : Nat) : Int) = ((i + 3 : Nat) : Int) + (an p iri ((aa s).drop (i + 3)) : Int) := by omega
        rw [e2]
        exact this
    · rw [List.drop_of_length_le (by rw [af]; omega), nN]
      exact Ev.val (by simp)
theorem vU (p : Int) (iri : Bool) (s : ByteArray) (hs : s.size ≤ 140737488351232) : Ev (fun k => fL k p iri s) (an p iri (aa s) : Int) := by
  unfold fL
  by_cases hp : dN p = true
  · have := yk p iri s hs hp s.size 0 (by omega)
    simpa using this
  · have hz : aT p iri (aa s) = 0 := by unfold aT; rw [if_neg hp]
    rw [hM, if_pos hz]
    refine Ev.step (fun k => by rw [cW]) ?_
    obtain ⟨t, e⟩ := ot p
    refine Ev.ite (fun h => aG e ?_) (fun h => az _)
    exact ae hp (az _)
theorem xp (p : Int) (iri : Bool) (s : ByteArray) (hs : s.size ≤ 140737488351232) : Ev (fun k => gq k p iri s) (bn p iri (aa s)) := by
  unfold gq
  refine ah (vU p iri s hs) (Ev.val ?_)
  unfold bn
  rw [af, Bool.eq_iff_iff, beq_iff_eq, beq_iff_eq]
  omega
theorem vM (p : Int) (iri : Bool) (s : ByteArray) (i : Nat) (hi : i ≤ s.size) (hs : s.size ≤ 140737488351232) : Ev (fun k => fb k p iri s (i : Int)) (aT p iri ((aa s).drop i) : Int) := by
  unfold fb
  have bad : dN p = false → Ev (fun k => da k p iri s (i : Int) true) (aT p iri ((aa s).drop i) : Int) := by
    intro hp
    refine Ev.step (fun k => by rw [da]) ?_
    unfold aT
    rw [if_neg (by rw [hp]; simp)]
    exact ab rfl (az _)
  refine Ev.ite (fun h => bad (by simp [dN]; omega)) (fun h => ?_)
  by_cases h7 : p > 7
  · rw [decide_eq_true h7]
    exact bad (by simp [dN]; omega)
  · rw [decide_eq_false h7]
    have hp : dN p = true := by simp [dN]; omega
    refine Ev.step (fun k => by rw [da]) ?_
    refine ae (by simp) (ah (ye s i hi hs) ?_)
    by_cases he : gv ((aa s).drop i) < 0
    · refine ae (by omega) (ab (by omega) (ab (by omega) ?_))
      rw [Int.toNat_natCast]
      have hd := oN (s.extract i s.size) (by rw [← af, ba, List.length_drop, af]; omega)
      rw [ba] at hd
      refine ah hd ?_
      rw [nl hp he]
      have hr := qm ((aa s).drop i) (fun b hb => lb s b (List.mem_of_mem_drop hb))
      have hn := pf ((aa s).drop i)
      cases hok : (dec ((aa s).drop i)).2.2
      · exact ae (by simp) (Ev.val (by simp))
      · refine ab rfl (ah (wR p iri _ hr.1 (by omega)) ?_)
        cases hm : gr p iri (dec ((aa s).drop i)).1
        · exact ae (by simp) (Ev.val (by simp))
        · refine ab rfl (Ev.val ?_)
          simp only [Bool.and_self, if_true]
          omega
    · refine ab (by omega) (Ev.val ?_)
      unfold aT
      rw [if_pos hp, if_pos (by omega)]
      rfl
theorem ry (p : Int) (iri : Bool) (s : ByteArray) (hs : s.size ≤ 140737488351232) : ∀ d i : Nat, i + d = s.size → Ev (fun k => dU k p iri s (i : Int)) ((i : Int) + an p iri ((aa s).drop i)) := by
  intro d
  induction d using Nat.strongRecOn with
  | _ d ih =>
    intro i hi
    refine Ev.step (fun k => by rw [dU]) ?_
    rw [hM]
    refine Ev.ite (fun h => ?_) (fun h => ?_)
    · have hst := vM p iri s i (by omega) hs
      refine ah hst ?_
      refine Ev.ite (fun h1 => ?_) (fun h1 => ?_)
      · refine ah hst ?_
        have hl := kv p iri ((aa s).drop i)
        rw [List.length_drop, af] at hl
        rw [if_neg (by omega), List.drop_drop, w64 (by omega) (by omega)]
        have := ih (s.size - (i + aT p iri ((aa s).drop i))) (by omega) (i + aT p iri ((aa s).drop i)) (by omega)
        have e2 : (i : Int) + ((aT p iri ((aa s).drop i) + an p iri ((aa s).drop (i + aT p iri ((aa s).drop i))) : Nat) : Int) = ((i + aT p iri ((aa s).drop i) : Nat) : Int) + (an p iri ((aa s).drop (i + aT p iri ((aa s).drop i))) : Int) := by omega
        rw [e2]
        exact this
      · rw [if_pos (by omega)]
        exact Ev.val (by simp)
    · rw [List.drop_of_length_le (by rw [af]; omega), if_pos (rE p iri)]
      exact Ev.val (by simp)
theorem jk (p : Int) (iri : Bool) (s : ByteArray) (hs : s.size ≤ 140737488351232) : Ev (fun k => co k p iri s) (an p iri (aa s) : Int) := by
  unfold co
  have := ry p iri s hs s.size 0 (by omega)
  simpa using this
end Go.Proofs.YtpmflpeckoeooaaGreatDoor.Y
namespace Go.Proofs.YtpmflpeckoeooaaGreatDoor.M
open Go Go.RowKit Go.Proofs.YtpmflpeckoeooaaGreatDoorW.PrintWords
theorem tn (s : ByteArray) (i : Nat) (h : i < s.size) : ((s.get! i).toNat : Int) = bt s (i : Int) := by
  rw [km, List.getD_eq_getElem?_getD]
  unfold aa
  rw [List.getElem?_map, Array.getElem?_toList]
  have h' : i < s.data.size := h
  have e : s.get! i = s.data[i]'h' := by
    show s.data[i]! = _
    rw [getElem!_pos s.data i h']
  rw [Array.getElem?_eq_getElem h', e]
  rfl
def ow (n : Nat) (b0 b1 b2 b3 : Nat) : Nat × Nat :=
  if b0 < 0x80 then (b0, 1)
  else if b0 / 32 == 6 && (decide (1 < n) && b1 / 64 == 2) then (if b0 % 32 * 64 + b1 % 64 ≥ 0x80 then (b0 % 32 * 64 + b1 % 64, 2) else (65533, 1))
  else if b0 / 16 == 14 && (decide (1 < n) && b1 / 64 == 2) && (decide (2 < n) && b2 / 64 == 2) then (if b0 % 16 * 4096 + b1 % 64 * 64 + b2 % 64 ≥ 0x800 && Utf8.valid (b0 % 16 * 4096 + b1 % 64 * 64 + b2 % 64) then (b0 % 16 * 4096 + b1 % 64 * 64 + b2 % 64, 3) else (65533, 1))
  else if b0 / 8 == 30 && (decide (1 < n) && b1 / 64 == 2) && (decide (2 < n) && b2 / 64 == 2) && (decide (3 < n) && b3 / 64 == 2) then (if b0 % 8 * 262144 + b1 % 64 * 4096 + b2 % 64 * 64 + b3 % 64 ≥ 0x10000 && Utf8.valid (b0 % 8 * 262144 + b1 % 64 * 4096 + b2 % 64 * 64 + b3 % 64) then (b0 % 8 * 262144 + b1 % 64 * 4096 + b2 % 64 * 64 + b3 % 64, 4) else (65533, 1))
  else (65533, 1)
theorem qX (s : ByteArray) (pos : Nat) (h : pos < s.size) : Utf8.decode s pos = ow (s.size - pos) (s.get! pos).toNat (s.get! (pos + 1)).toNat (s.get! (pos + 2)).toNat (s.get! (pos + 3)).toNat := by
  have e1 : decide (pos + 1 < s.size) = decide (1 < s.size - pos) := decide_eq_decide.2 (by omega)
  have e2 : decide (pos + 2 < s.size) = decide (2 < s.size - pos) := decide_eq_decide.2 (by omega)
  have e3 : decide (pos + 3 < s.size) = decide (3 < s.size - pos) := decide_eq_decide.2 (by omega)
  unfold Utf8.decode ow
  simp only [Nat.add_zero, e1, e2, e3]
  rfl
def je (l : List Int) : Nat × Nat := if (dec l).2.2 = true then ((dec l).1.toNat, (dec l).2.1.toNat) else (65533, 1)
theorem ls (c : Int) : Utf8.valid c = decide (0 ≤ c ∧ c < 55296 ∨ 57344 ≤ c ∧ c ≤ 1114111) := by
  unfold Utf8.valid
  rw [Bool.eq_iff_iff]
  simp
theorem xe {b : Int} (h0 : 0 ≤ b) (h1 : b ≤ 255) : b < 128 ∨ (128 ≤ b ∧ shp b = (0, 0, 0) ∧ (b ≤ 193 ∨ 245 ≤ b)) ∨ (194 ≤ b ∧ b ≤ 223 ∧ shp b = (2, 128, 191)) ∨ (b = 224 ∧ shp b = (3, 160, 191)) ∨ (225 ≤ b ∧ b ≤ 239 ∧ b ≠ 237 ∧ shp b = (3, 128, 191)) ∨ (b = 237 ∧ shp b = (3, 128, 159)) ∨ (b = 240 ∧ shp b = (4, 144, 191)) ∨ (241 ≤ b ∧ b ≤ 243 ∧ shp b = (4, 128, 191)) ∨ (b = 244 ∧ shp b = (4, 128, 143)) :=
  b6 (p := fun b => b < 128 ∨ (128 ≤ b ∧ shp b = (0, 0, 0) ∧ (b ≤ 193 ∨ 245 ≤ b)) ∨ (194 ≤ b ∧ b ≤ 223 ∧ shp b = (2, 128, 191)) ∨ (b = 224 ∧ shp b = (3, 160, 191)) ∨ (225 ≤ b ∧ b ≤ 239 ∧ b ≠ 237 ∧ shp b = (3, 128, 191)) ∨ (b = 237 ∧ shp b = (3, 128, 159)) ∨ (b = 240 ∧ shp b = (4, 144, 191)) ∨ (241 ≤ b ∧ b ≤ 243 ∧ shp b = (4, 128, 191)) ∨ (b = 244 ∧ shp b = (4, 128, 143))) (by decide +kernel) h0 h1
theorem jF {b : Int} {t : List Int} (h : (dec (b :: t)).2.2 = false) : je (b :: t) = (65533, 1) := by unfold je; rw [h]; rfl
theorem wX {b : Int} {t : List Int} {lo hi : Int} (hs : shp b = (2, lo, hi)) : je (b :: t) = match t with | [] => (65533, 1) | c :: _ => if lo ≤ c ∧ c ≤ hi then (((b - 192) * 64 + (c - 128)).toNat, 2) else (65533, 1) := by
  cases t with
  | nil => apply jF; rw [dj, hs]; simp [aU]
  | cons c u =>
    unfold je
    rw [dj, hs]
    by_cases hc : lo ≤ c ∧ c ≤ hi
    · simp [aU, hc, gn, cG]
    · simp [aU, hc]
theorem nK {b : Int} {t : List Int} {lo hi : Int} (hs : shp b = (3, lo, hi)) : je (b :: t) = match t with | c :: d :: _ => if (lo ≤ c ∧ c ≤ hi) ∧ 128 ≤ d ∧ d ≤ 191 then ((((b - 224) * 64 + (c - 128)) * 64 + (d - 128)).toNat, 3) else (65533, 1) | _ => (65533, 1) := by
  match t with
  | [] => apply jF; rw [dj, hs]; simp [aU]
  | [c] =>
    apply jF; rw [dj, hs]
    by_cases hc : lo ≤ c ∧ c ≤ hi <;> simp [aU, hc]
  | c :: d :: u =>
    unfold je
    rw [dj, hs]
    by_cases hc : lo ≤ c ∧ c ≤ hi
    · by_cases hd : 128 ≤ d ∧ d ≤ 191
      · simp [aU, hc, hd, gn, cG]
      · simp [aU, hc, hd]
    · simp [aU, hc]
theorem vR {b : Int} {t : List Int} {lo hi : Int} (hs : shp b = (4, lo, hi)) : je (b :: t) = match t with | c :: d :: e :: _ => if (lo ≤ c ∧ c ≤ hi) ∧ (128 ≤ d ∧ d ≤ 191) ∧ 128 ≤ e ∧ e ≤ 191 then (((((b - 240) * 64 + (c - 128)) * 64 + (d - 128)) * 64 + (e - 128)).toNat, 4) else (65533, 1) | _ => (65533, 1) := by
  match t with
  | [] => apply jF; rw [dj, hs]; simp [aU]
  | [c] =>
    apply jF; rw [dj, hs]
    by_cases hc : lo ≤ c ∧ c ≤ hi <;> simp [aU, hc]
  | [c, d] =>
    apply jF; rw [dj, hs]
    by_cases hc : lo ≤ c ∧ c ≤ hi
    · by_cases hd : 128 ≤ d ∧ d ≤ 191 <;> simp [aU, hc, hd]
    · simp [aU, hc]
  | c :: d :: e :: u =>
    unfold je
    rw [dj, hs]
    by_cases hc : lo ≤ c ∧ c ≤ hi
    · by_cases hd : 128 ≤ d ∧ d ≤ 191
      · by_cases he : 128 ≤ e ∧ e ≤ 191
        · simp [aU, hc, hd, he, gn, cG]
        · simp [aU, hc, hd, he]
      · simp [aU, hc, hd]
    · simp [aU, hc]
theorem mb {c d : Prop} [Decidable c] [Decidable d] {x y z w : Nat × Nat} (h : c ↔ d) (h1 : d → x = y) (h2 : z = w) : (if c then x else z) = if d then y else w := by
  by_cases hd : d
  · rw [if_pos (h.2 hd), if_pos hd, h1 hd]
  · rw [if_neg (fun hc => hd (h.1 hc)), if_neg hd, h2]
theorem uG (b : Int) (t : List Int) (hb : 0 ≤ b ∧ b ≤ 255) (ht : ∀ x ∈ t, 0 ≤ x ∧ x ≤ 255) (b0 b1 b2 b3 : Nat) (e0 : (b0 : Int) = b) (e1 : ∀ x, t[0]? = some x → (b1 : Int) = x) (e2 : ∀ x, t[1]? = some x → (b2 : Int) = x) (e3 : ∀ x, t[2]? = some x → (b3 : Int) = x) :
    ow (t.length + 1) b0 b1 b2 b3 = je (b :: t) := by
  rcases xe hb.1 hb.2 with h | ⟨h, hs, hr⟩ | ⟨h, h', hs⟩ | ⟨rfl, hs⟩ | ⟨h, h', hn, hs⟩ | ⟨rfl, hs⟩ | ⟨rfl, hs⟩ | ⟨h, h', hs⟩ | ⟨rfl, hs⟩
  · unfold ow je
    rw [if_pos (by omega), kn t h]
    simp
    omega
  · rw [jF (by rw [dj, hs]; rfl)]
    unfold ow
    rw [if_neg (by omega)]
    have a1 : ∀ c : Bool, (if (b0 / 32 == 6 && c) = true then (if b0 % 32 * 64 + b1 % 64 ≥ 0x80 then (b0 % 32 * 64 + b1 % 64, 2) else ((65533 : Nat), 1)) else (65533, 1)) = (65533, 1) := fun c => by
      split
      · rename_i hc
        rw [Bool.and_eq_true, beq_iff_eq] at hc
        rw [if_neg (by omega)]
      · rfl
    have n14 : (b0 / 16 == 14) = false := by rw [beq_eq_false_iff_ne]; omega
    by_cases h30 : b0 / 8 = 30
    · have c30 : b0 / 32 ≠ 6 := by omega
      have n6 : (b0 / 32 == 6) = false := by rw [beq_eq_false_iff_ne]; exact c30
      simp only [n6, n14, Bool.false_and, Bool.false_eq_true, if_false]
      split
      · rename_i hc
        rw [if_neg]
        simp only [Bool.and_eq_true, ls, decide_eq_true_iff]
        intro hv
        have := hv.2
        omega
      · rfl
    · have n30 : (b0 / 8 == 30) = false := by rw [beq_eq_false_iff_ne]; exact h30
      simp only [n14, n30, Bool.false_and, Bool.false_eq_true, if_false]
      exact a1 _
  all_goals have hb0 : ¬ b0 < 0x80 := by omega
  all_goals unfold ow
  all_goals rw [if_neg hb0]
  · have c6 : (b0 / 32 == 6) = true := by rw [beq_iff_eq]; omega
    have n14 : (b0 / 16 == 14) = false := by rw [beq_eq_false_iff_ne]; omega
    have n30 : (b0 / 8 == 30) = false := by rw [beq_eq_false_iff_ne]; omega
    simp only [c6, n14, n30, Bool.true_and, Bool.false_and, Bool.false_eq_true, if_false]
    rw [wX hs]
    cases t with
    | nil => simp
    | cons c u =>
      have hc := e1 c rfl
      have hcr := ht c (by simp)
      simp only [List.length_cons]
      refine mb ?_ ?_ rfl
      · rw [Bool.and_eq_true, beq_iff_eq, decide_eq_true_iff]; omega
      · intro hd
        rw [if_pos (by omega)]
        simp; omega
  all_goals have n6 : (b0 / 32 == 6) = false := by rw [beq_eq_false_iff_ne]; omega
  · have c14 : (b0 / 16 == 14) = true := by rw [beq_iff_eq]; omega
    have n30 : (b0 / 8 == 30) = false := by rw [beq_eq_false_iff_ne]; omega
    simp only [c14, n6, n30, Bool.true_and, Bool.false_and, Bool.false_eq_true, if_false]
    rw [nK hs]
    match t, ht, e1, e2 with
    | [], _, _, _ => simp
    | [c], _, _, _ => simp
    | c :: d :: u, ht, e1, e2 =>
      have hc := e1 c rfl
      have hcr := ht c (by simp)
      have hd := e2 d rfl
      have hdr := ht d (by simp)
      simp only [List.length_cons, ls]
      simp only [show decide (1 < u.length + 1 + 1 + 1) = true from decide_eq_true (by omega), show decide (2 < u.length + 1 + 1 + 1) = true from decide_eq_true (by omega)]
      simp only [Bool.true_and]
      by_cases hk : 128 ≤ c ∧ c ≤ 191 ∧ 128 ≤ d ∧ d ≤ 191
      · rw [if_pos (by rw [Bool.and_eq_true, beq_iff_eq, beq_iff_eq]; omega)]
        refine mb ?_ ?_ rfl
        · rw [Bool.and_eq_true, decide_eq_true_iff, decide_eq_true_iff]; omega
        · intro _; simp; omega
      · rw [if_neg (by rw [Bool.and_eq_true, beq_iff_eq, beq_iff_eq]; omega), if_neg (by omega)]
  · have c14 : (b0 / 16 == 14) = true := by rw [beq_iff_eq]; omega
    have n30 : (b0 / 8 == 30) = false := by rw [beq_eq_false_iff_ne]; omega
    simp only [c14, n6, n30, Bool.true_and, Bool.false_and, Bool.false_eq_true, if_false]
    rw [nK hs]
    match t, ht, e1, e2 with
    | [], _, _, _ => simp
    | [c], _, _, _ => simp
    | c :: d :: u, ht, e1, e2 =>
      have hc := e1 c rfl
      have hcr := ht c (by simp)
      have hd := e2 d rfl
      have hdr := ht d (by simp)
      simp only [List.length_cons, ls]
      simp only [show decide (1 < u.length + 1 + 1 + 1) = true from decide_eq_true (by omega), show decide (2 < u.length + 1 + 1 + 1) = true from decide_eq_true (by omega)]
      simp only [Bool.true_and]
      by_cases hk : 128 ≤ c ∧ c ≤ 191 ∧ 128 ≤ d ∧ d ≤ 191
      · rw [if_pos (by rw [Bool.and_eq_true, beq_iff_eq, beq_iff_eq]; omega)]
        refine mb ?_ ?_ rfl
        · rw [Bool.and_eq_true, decide_eq_true_iff, decide_eq_true_iff]; omega
        · intro _; simp; omega
      · rw [if_neg (by rw [Bool.and_eq_true, beq_iff_eq, beq_iff_eq]; omega), if_neg (by omega)]
  · have c14 : (b0 / 16 == 14) = true := by rw [beq_iff_eq]; omega
    have n30 : (b0 / 8 == 30) = false := by rw [beq_eq_false_iff_ne]; omega
    simp only [c14, n6, n30, Bool.true_and, Bool.false_and, Bool.false_eq_true, if_false]
    rw [nK hs]
    match t, ht, e1, e2 with
    | [], _, _, _ => simp
    | [c], _, _, _ => simp
    | c :: d :: u, ht, e1, e2 =>
      have hc := e1 c rfl
      have hcr := ht c (by simp)
      have hd := e2 d rfl
      have hdr := ht d (by simp)
      simp only [List.length_cons, ls]
      simp only [show decide (1 < u.length + 1 + 1 + 1) = true from decide_eq_true (by omega), show decide (2 < u.length + 1 + 1 + 1) = true from decide_eq_true (by omega)]
      simp only [Bool.true_and]
      by_cases hk : 128 ≤ c ∧ c ≤ 191 ∧ 128 ≤ d ∧ d ≤ 191
      · rw [if_pos (by rw [Bool.and_eq_true, beq_iff_eq, beq_iff_eq]; omega)]
        refine mb ?_ ?_ rfl
        · rw [Bool.and_eq_true, decide_eq_true_iff, decide_eq_true_iff]; omega
        · intro _; simp; omega
      · rw [if_neg (by rw [Bool.and_eq_true, beq_iff_eq, beq_iff_eq]; omega), if_neg (by omega)]
  all_goals have n14 : (b0 / 16 == 14) = false := by rw [beq_eq_false_iff_ne]; omega
  all_goals have c30 : (b0 / 8 == 30) = true := by rw [beq_iff_eq]; omega
  all_goals simp only [c30, n6, n14, Bool.true_and, Bool.false_and, Bool.false_eq_true, if_false]
  all_goals rw [vR hs]
  all_goals
    match t, ht, e1, e2, e3 with
    | [], _, _, _, _ => simp
    | [c], _, _, _, _ => simp
    | [c, d], _, _, _, _ => simp
    | c :: d :: e :: u, ht, e1, e2, e3 =>
      have hc := e1 c rfl
      have hcr := ht c (by simp)
      have hd := e2 d rfl
      have hdr := ht d (by simp)
      have he := e3 e rfl
      have her := ht e (by simp)
      simp only [List.length_cons, ls]
      simp only [show decide (1 < u.length + 1 + 1 + 1 + 1) = true from decide_eq_true (by omega), show decide (2 < u.length + 1 + 1 + 1 + 1) = true from decide_eq_true (by omega), show decide (3 < u.length + 1 + 1 + 1 + 1) = true from decide_eq_true (by omega)]
      simp only [Bool.true_and]
      by_cases hk : 128 ≤ c ∧ c ≤ 191 ∧ 128 ≤ d ∧ d ≤ 191 ∧ 128 ≤ e ∧ e ≤ 191
      · rw [if_pos (by simp only [Bool.and_eq_true, beq_iff_eq]; omega)]
        refine mb ?_ ?_ rfl
        · rw [Bool.and_eq_true, decide_eq_true_iff, decide_eq_true_iff]; omega
        · intro _; simp; omega
      · rw [if_neg (by simp only [Bool.and_eq_true, beq_iff_eq]; omega), if_neg (by omega)]
theorem xl (s : ByteArray) (pos : Nat) (h : pos < s.size) : Utf8.decode s pos = je ((aa s).drop pos) := by
  have hl : pos < (aa s).length := by rw [af]; exact h
  have e := List.drop_eq_getElem_cons hl
  have hbt : ∀ i : Nat, i < s.size → (aa s)[i]? = some (bt s (i : Int)) := fun i hi => by
    have hi' : i < (aa s).length := by rw [af]; exact hi
    rw [km, List.getD_eq_getElem?_getD, List.getElem?_eq_getElem hi']
    rfl
  have hg : ∀ k : Nat, ∀ x, ((aa s).drop (pos + 1))[k]? = some x → ((s.get! (pos + (k + 1))).toNat : Int) = x := fun k x hx => by
    rw [List.getElem?_drop] at hx
    have hk : pos + 1 + k < s.size := by
      have := (List.getElem?_eq_some_iff.1 hx).1
      rw [af] at this
      exact this
    rw [hbt _ hk] at hx
    rw [show pos + (k + 1) = pos + 1 + k by omega, tn s _ hk]
    exact Option.some.inj hx
  rw [qX s pos h, e]
  have hlen : s.size - pos = ((aa s).drop (pos + 1)).length + 1 := by rw [List.length_drop, af]; omega
  rw [hlen]
  refine uG _ _ ?_ ?_ _ _ _ _ ?_ (hg 0) (hg 1) (hg 2)
  · exact fI (List.getElem_mem hl)
  · intro x hx; exact fI (List.mem_of_mem_drop hx)
  · rw [tn s pos h]
    have := hbt pos h
    rw [List.getElem?_eq_getElem hl] at this
    exact (Option.some.inj this).symm
end Go.Proofs.YtpmflpeckoeooaaGreatDoor.M
namespace Go.Proofs.YtpmflpeckoeooaaGreatDoor.Y
open Go Go.RowKit Go.Proofs.YtpmflpeckoeooaaGreatDoor.X Go.Proofs.YtpmflpeckoeooaaGreatDoor.M Go.Proofs.YtpmflpeckoeooaaGreatDoorW.PrintWords Go.Proofs.YtpmflpeckoeooaaGreatDoorW.PrintLast Go.Proofs.YtpmflpeckoeooaaGreatDoorW.PrintMore
def dC (l : List Int) : Int :=
  if h : l ≠ [] ∧ (dec l).2.2 = true then (if dC (l.drop (dec l).2.1.toNat) = -1 then -1 else (dec l).2.1 + dC (l.drop (dec l).2.1.toNat)) else if l = [] then -1 else 0
termination_by l.length
decreasing_by
  all_goals
    have := kW h.2
    have hl : l.length ≠ 0 := fun hz => h.1 (List.length_eq_zero_iff.1 hz)
    rw [List.length_drop]; omega
theorem nY : dC [] = -1 := by rw [dC]; simp
theorem oV {l : List Int} (h : l ≠ []) (ok : (dec l).2.2 = true) : dC l = if dC (l.drop (dec l).2.1.toNat) = -1 then -1 else (dec l).2.1 + dC (l.drop (dec l).2.1.toNat) := by
  rw [dC, dif_pos ⟨h, ok⟩]
theorem nX {l : List Int} (h : l ≠ []) (ok : (dec l).2.2 = false) : dC l = 0 := by
  rw [dC, dif_neg (by rw [ok]; simp), if_neg h]
theorem rb : ∀ (n : Nat) (l : List Int), l.length = n → -1 ≤ dC l := by
  intro n
  induction n using Nat.strongRecOn with
  | _ n ih =>
    intro l hn
    by_cases h : l = []
    · rw [h, nY]; omega
    · cases ok : (dec l).2.2
      · rw [nX h ok]; omega
      · have hp := kW ok
        have hl : l.length ≠ 0 := fun hz => h (List.length_eq_zero_iff.1 hz)
        have := ih (l.drop (dec l).2.1.toNat).length (by rw [List.length_drop]; omega) _ rfl
        rw [oV h ok]
        split <;> omega
def at_ (i : Nat) (z : Int) : Int := if z = -1 then -1 else (i : Int) + z
theorem sQ (s : ByteArray) (hs : s.size ≤ 140737488351232) : ∀ d i : Nat, i + d = s.size → Ev (fun k => dF k s (i : Int)) (at_ i (dC ((aa s).drop i))) := by
  intro d
  induction d using Nat.strongRecOn with
  | _ d ih =>
    intro i hi
    refine Ev.step (fun k => by rw [dF]) ?_
    refine Ev.ite (fun h => ?_) (fun h => ?_)
    · have hne : (aa s).drop i ≠ [] := fun hz => by have := qY hz; omega
      refine ab (by omega) (ab (by omega) ?_)
      rw [Int.toNat_natCast]
      have hd := oN (s.extract i s.size) (by rw [← af, ba, List.length_drop, af]; omega)
      rw [ba] at hd
      refine ah hd ?_
      have hn := pf ((aa s).drop i)
      rw [List.length_drop, af] at hn
      cases hok : (dec ((aa s).drop i)).2.2
      · refine ae (by simp) (Ev.val ?_)
        rw [nX hne hok]; unfold at_; rw [if_neg (by omega)]; omega
      · have hn1 := kW hok
        refine ab rfl ?_
        rw [w64 (by omega) (by omega)]
        have := ih (s.size - (i + (dec ((aa s).drop i)).2.1.toNat)) (by omega) (i + (dec ((aa s).drop i)).2.1.toNat) (by omega)
        have e1 : ((i + (dec ((aa s).drop i)).2.1.toNat : Nat) : Int) = (i : Int) + (dec ((aa s).drop i)).2.1 := by omega
        rw [e1] at this
        have e2 : at_ i (dC ((aa s).drop i)) = at_ (i + (dec ((aa s).drop i)).2.1.toNat) (dC ((aa s).drop (i + (dec ((aa s).drop i)).2.1.toNat))) := by
          rw [oV hne hok, List.drop_drop]
          have hge := rb _ ((aa s).drop (i + (dec ((aa s).drop i)).2.1.toNat)) rfl
          have e1 : ((i + (dec ((aa s).drop i)).2.1.toNat : Nat) : Int) = (i : Int) + (dec ((aa s).drop i)).2.1 := by omega
          unfold at_
          rw [e1]
          split <;> (try split) <;> (try split) <;> omega
        rw [e2]
        exact this
    · rw [List.drop_of_length_le (by rw [af]; omega), nY]
      exact Ev.val rfl
theorem um (s : ByteArray) (hs : s.size ≤ 140737488351232) : Ev (fun k => gY k s) (dC (aa s)) := by
  have h := sQ s hs s.size 0 (by omega)
  have e : at_ 0 (dC ((aa s).drop 0)) = dC (aa s) := by rw [List.drop_zero]; unfold at_; split <;> omega
  rw [e] at h
  exact h
theorem wz (s : ByteArray) (hs : s.size ≤ 140737488351232) : ∀ d i : Nat, i + d = s.size → Ev (fun k => dM k s i) (at_ i (dC ((aa s).drop i))) := by
  intro d
  induction d using Nat.strongRecOn with
  | _ d ih =>
    intro i hi
    refine Ev.step (fun k => by rw [dM]) ?_
    refine Ev.ite (fun h => ?_) (fun h => ?_)
    · have hne : (aa s).drop i ≠ [] := fun hz => by have := qY hz; omega
      rw [xl s i h]
      have hd := qW (s.extract i s.size) (by rw [← af, ba, List.length_drop, af]; omega)
      rw [ba] at hd
      have hn := pf ((aa s).drop i)
      rw [List.length_drop, af] at hn
      unfold je
      cases hok : (dec ((aa s).drop i)).2.2
      · simp only [Bool.false_eq_true, if_false]
        refine ab (by decide) (ah hd (ae (by rw [hok]; simp) (Ev.val ?_)))
        rw [nX hne hok]; unfold at_; rw [if_neg (by omega)]; omega
      · have hn1 := kW hok
        simp only [if_true]
        have := ih (s.size - (i + (dec ((aa s).drop i)).2.1.toNat)) (by omega) (i + (dec ((aa s).drop i)).2.1.toNat) (by omega)
        have e2 : at_ i (dC ((aa s).drop i)) = at_ (i + (dec ((aa s).drop i)).2.1.toNat) (dC ((aa s).drop (i + (dec ((aa s).drop i)).2.1.toNat))) := by
          rw [oV hne hok, List.drop_drop]
          have hge := rb _ ((aa s).drop (i + (dec ((aa s).drop i)).2.1.toNat)) rfl
          have e1 : ((i + (dec ((aa s).drop i)).2.1.toNat : Nat) : Int) = (i : Int) + (dec ((aa s).drop i)).2.1 := by omega
          unfold at_
          rw [e1]
          split <;> (try split) <;> (try split) <;> omega
        rw [e2]
        exact Ev.ite (fun _ => ah hd (ab hok this)) (fun _ => this)
    · rw [List.drop_of_length_le (by rw [af]; omega), nY]
      exact Ev.val rfl
theorem xM (s : ByteArray) (hs : s.size ≤ 140737488351232) : Ev (fun k => kc k s) (dC (aa s)) := by
  have h := wz s hs s.size 0 (by omega)
  have e : at_ 0 (dC ((aa s).drop 0)) = dC (aa s) := by rw [List.drop_zero]; unfold at_; split <;> omega
  rw [e] at h
  exact h
def mR (l : List Int) : Bool := decide (dC l < 0)
theorem yn (s : ByteArray) (hs : s.size ≤ 140737488351232) : Ev (fun k => iN k s) (mR (aa s)) := ah (xM s hs) (az _)
end Go.Proofs.YtpmflpeckoeooaaGreatDoor.Y
namespace Go.Proofs.YtpmflpeckoeooaaGreatDoor.M
open Go Go.RowKit Go.Proofs.YtpmflpeckoeooaaGreatDoorW.PrintWords
def cx (sub : List Int) : List Int → Int
  | [] => if sub = [] then 0 else -1
  | b :: t => if sub.isPrefixOf (b :: t) then 0 else if cx sub t = -1 then -1 else cx sub t + 1
theorem ku (sub : List Int) (b : Int) (t : List Int) : cx sub (b :: t) = if sub.isPrefixOf (b :: t) then 0 else if cx sub t = -1 then -1 else cx sub t + 1 := rfl
theorem pZ (sub l : List Int) : -1 ≤ cx sub l := by
  induction l with
  | nil => unfold cx; split <;> omega
  | cons b t ih => rw [ku]; split <;> (try split) <;> omega
theorem uj (a l : List UInt8) : (a.map fun b => (b.toNat : Int)).isPrefixOf (l.map fun b => (b.toNat : Int)) = a.isPrefixOf l := by
  induction a generalizing l with
  | nil => rfl
  | cons x t ih =>
    cases l with
    | nil => rfl
    | cons y r =>
      rw [List.map_cons, List.map_cons, List.isPrefixOf_cons_cons, List.isPrefixOf_cons_cons, ih]
      congr 1
      rw [Bool.eq_iff_iff, beq_iff_eq, beq_iff_eq]
      constructor
      · intro h; exact UInt8.toNat_inj.1 (by omega)
      · intro h; rw [h]
theorem pl (l sub : List UInt8) : Go.Lib.index l sub = cx (sub.map fun b => (b.toNat : Int)) (l.map fun b => (b.toNat : Int)) := by
  induction l with
  | nil =>
    unfold Go.Lib.index
    rw [List.map_nil]
    unfold cx
    cases sub <;> simp
  | cons b t ih =>
    unfold Go.Lib.index
    have hp := uj sub (b :: t)
    rw [List.map_cons] at hp ⊢
    rw [ku, hp, ih]
    by_cases h : sub.isPrefixOf (b :: t) = true
    · rw [if_pos h, if_pos h]
    · rw [if_neg h, if_neg h]
      simp only [beq_iff_eq]
theorem oI (s sub : ByteArray) : Go.Lib.indexB s sub = cx (aa sub) (aa s) := pl _ _
theorem rA (c : Int) (l : List Int) : cx [c] l = idx c l := by
  induction l with
  | nil => unfold cx idx; simp
  | cons b t ih =>
    rw [ku, ih]
    have : idx c (b :: t) = if b = c then 0 else if idx c t = -1 then -1 else idx c t + 1 := rfl
    rw [this]
    by_cases h : b = c
    · rw [if_pos h, if_pos (by simp [h])]
    · rw [if_neg h, if_neg (by simp; exact fun x => h x.symm)]
theorem lU {sub l : List Int} (h : 0 ≤ cx sub l) : (cx sub l).toNat + sub.length ≤ l.length ∧ (l.drop (cx sub l).toNat).take sub.length = sub := by
  induction l with
  | nil =>
    unfold cx at h ⊢
    by_cases hs : sub = []
    · subst hs; simp
    · rw [if_neg hs] at h; omega
  | cons b t ih =>
    rw [ku] at h ⊢
    by_cases hp : sub.isPrefixOf (b :: t) = true
    · rw [if_pos hp]
      have := List.isPrefixOf_iff_prefix.1 hp
      refine ⟨?_, ?_⟩
      · have := this.length_le; simpa using this
      · simpa using (List.prefix_iff_eq_take.1 this).symm
    · rw [if_neg hp] at h ⊢
      by_cases h1 : cx sub t = -1
      · rw [if_pos h1] at h; omega
      · have hg := pZ sub t
        rw [if_neg h1]
        have := ih (by omega)
        have e : (cx sub t + 1).toNat = (cx sub t).toNat + 1 := by omega
        rw [e, List.drop_succ_cons, List.length_cons]
        exact ⟨by omega, this.2⟩
def bT (c : Int) : List Int → List (List Int)
  | [] => [[]]
  | b :: t => if b = c then [] :: bT c t else (b :: (bT c t).headD []) :: (bT c t).tail
theorem gu (c b : Int) (t : List Int) : bT c (b :: t) = if b = c then [] :: bT c t else (b :: (bT c t).headD []) :: (bT c t).tail := rfl
theorem vX (c : Int) (l : List Int) : bT c l ≠ [] := by
  cases l with
  | nil => simp [bT]
  | cons b t => rw [gu]; split <;> simp
theorem kb (c : Int) (l : List Int) : bT c l = (bT c l).headD [] :: (bT c l).tail := by
  cases h : bT c l with
  | nil => exact absurd h (vX c l)
  | cons a r => rfl
theorem oQ {c : Int} {l : List Int} (h : c ∉ l) : bT c l = [l] := by
  induction l with
  | nil => rfl
  | cons b t ih =>
    rw [List.mem_cons, not_or] at h
    rw [gu, if_neg (fun x => h.1 x.symm), ih h.2]; rfl
theorem vW {c : Int} {a : List Int} (h : c ∉ a) (r : List Int) : bT c (a ++ c :: r) = a :: bT c r := by
  induction a with
  | nil => rw [List.nil_append, gu, if_pos rfl]
  | cons b t ih =>
    rw [List.mem_cons, not_or] at h
    rw [List.cons_append, gu, if_neg (fun x => h.1 x.symm), ih h.2]; rfl
theorem kJ (c : Int) (l : List Int) : (bT c l).length ≤ l.length + 1 := by
  induction l with
  | nil => simp [bT]
  | cons b t ih =>
    rw [gu]
    split
    · simp; omega
    · simp only [List.length_cons, List.length_tail]; omega
theorem pB {c : Int} {l : List Int} : ∀ p ∈ bT c l, c ∉ p ∧ (∀ b ∈ p, b ∈ l) ∧ p.length ≤ l.length := by
  induction l with
  | nil => intro p hp; simp [bT] at hp; subst hp; simp
  | cons b t ih =>
    intro p hp
    rw [gu] at hp
    by_cases h : b = c
    · rw [if_pos h] at hp
      rcases List.mem_cons.1 hp with rfl | hp
      · simp
      · obtain ⟨h1, h2, h3⟩ := ih p hp
        exact ⟨h1, fun x hx => List.mem_cons_of_mem _ (h2 x hx), by rw [List.length_cons]; omega⟩
    · rw [if_neg h] at hp
      rcases List.mem_cons.1 hp with rfl | hp
      · obtain ⟨h1, h2, h3⟩ := ih ((bT c t).headD []) (by rw [kb c t]; simp)
        refine ⟨?_, ?_, by simp only [List.length_cons]; omega⟩
        · rw [List.mem_cons, not_or]; exact ⟨fun x => h x.symm, h1⟩
        · intro x hx
          rcases List.mem_cons.1 hx with rfl | hx
          · exact List.mem_cons_self ..
          · exact List.mem_cons_of_mem _ (h2 x hx)
      · obtain ⟨h1, h2, h3⟩ := ih p (List.mem_of_mem_tail hp)
        exact ⟨h1, fun x hx => List.mem_cons_of_mem _ (h2 x hx), by rw [List.length_cons]; omega⟩
theorem qG (c : Int) (sep : ByteArray) (hsep : aa sep = [c]) : ∀ (k : Nat) (s : ByteArray), Go.Lib.countB s sep = k → (Go.Lib.splitB sep 0 k s).map aa = bT c (aa s) := by
  have h1 : sep.size = 1 := by rw [← af, hsep]; rfl
  intro k
  induction k with
  | zero =>
    intro s hk
    rcases Go.Lib.indexB_cases s sep with hix | ⟨i, hix, hr⟩
    · rw [Go.Lib.splitB_zero, List.map_cons, List.map_nil]
      rw [oI, hsep, rA] at hix
      rw [oQ (oX.1 hix)]
    · have := Go.Lib.countB_hit s sep i (by omega) hix; omega
  | succ k ih =>
    intro s hk
    rcases Go.Lib.indexB_cases s sep with hix | ⟨i, hix, hr⟩
    · rw [Go.Lib.countB_miss s sep hix] at hk; omega
    · have hc := Go.Lib.countB_hit s sep i (by omega) hix
      rw [Go.Lib.splitB_hit sep 0 k s i hix, List.map_cons, ih _ (by omega)]
      rw [oI, hsep, rA] at hix
      obtain ⟨e1, e2⟩ := qo (c := c) (l := aa s) (by omega)
      rw [hix, Int.toNat_natCast] at e1 e2
      conv => rhs; rw [e1]
      rw [vW e2, ay, ay, h1, List.drop_zero, Nat.add_zero]
      rw [← af, List.take_length]
def kB (l : List Int) : Int := l.foldl (fun n b => 10 * n + (b - 48)) 0
def d8 (l : List Int) : Int :=
  if l.length = 0 ∨ 3 < l.length ∨ (1 < l.length ∧ l.headD 0 = 48) then -1 else if l.all eb then (if kB l ≤ 255 then kB l else -1) else -1
def ny (n : Int) : List Int := if n < 10 then [48 + n] else if n < 100 then [48 + n / 10, 48 + n % 10] else [48 + n / 100, 48 + n / 10 % 10, 48 + n % 10]
theorem xH {n : Int} (h0 : 0 ≤ n) (h1 : n ≤ 255) : d8 (ny n) = n :=
  b6 (p := fun n => d8 (ny n) = n) (by decide +kernel) h0 h1
theorem i1 {b : Int} : eb b = true ↔ 48 ≤ b ∧ b ≤ 57 := by unfold eb; rw [decide_eq_true_iff]
theorem th {l : List Int} (h : 0 ≤ d8 l) : ny (d8 l) = l ∧ d8 l ≤ 255 := by
  unfold d8 at h ⊢
  by_cases h1 : l.length = 0 ∨ 3 < l.length ∨ (1 < l.length ∧ l.headD 0 = 48)
  · rw [if_pos h1] at h; omega
  · rw [if_neg h1] at h ⊢
    by_cases h2 : l.all eb = true
    · rw [if_pos h2] at h ⊢
      by_cases h3 : kB l ≤ 255
      · rw [if_pos h3] at h ⊢
        refine ⟨?_, h3⟩
        match l, h1, h2, h3 with
        | [], h1, _, _ => simp at h1
        | [a], h1, h2, h3 =>
          simp only [List.all_cons, List.all_nil, Bool.and_true, i1] at h2
          simp only [kB, List.foldl_cons, List.foldl_nil] at h3 ⊢
          unfold ny
          rw [if_pos (by omega)]
          congr 1; omega
        | [a, b], h1, h2, h3 =>
          simp only [List.all_cons, List.all_nil, Bool.and_true, Bool.and_eq_true, i1] at h2
          simp only [List.length_cons, List.length_nil, List.headD_cons] at h1
          simp only [kB, List.foldl_cons, List.foldl_nil] at h3 ⊢
          unfold ny
          rw [if_neg (by omega), if_pos (by omega)]
          congr 1
          · omega
          · congr 1; omega
        | [a, b, c], h1, h2, h3 =>
          simp only [List.all_cons, List.all_nil, Bool.and_true, Bool.and_eq_true, i1] at h2
          simp only [List.length_cons, List.length_nil, List.headD_cons] at h1
          simp only [kB, List.foldl_cons, List.foldl_nil] at h3 ⊢
          unfold ny
          rw [if_neg (by omega), if_neg (by omega)]
          congr 1
          · omega
          · congr 1
            · omega
            · congr 1; omega
        | _ :: _ :: _ :: _ :: _, h1, _, _ => simp only [List.length_cons] at h1; omega
      · rw [if_neg h3] at h; omega
    · rw [if_neg h2] at h; omega
theorem yz {n : Int} {l : List Int} (h0 : 0 ≤ n) (h1 : n ≤ 255) : ny n = l ↔ d8 l = n := by
  constructor
  · intro h; rw [← h]; exact xH h0 h1
  · intro h
    have := (th (l := l) (by omega)).1
    rw [h] at this; exact this
theorem oE {l : List Int} (h : l.all eb = true) : 0 ≤ kB l := by
  have key : ∀ (l : List Int) (n : Int), 0 ≤ n → l.all eb = true → 0 ≤ l.foldl (fun n b => 10 * n + (b - 48)) n := by
    intro l
    induction l with
    | nil => intro n hn _; exact hn
    | cons b t ih =>
      intro n hn h
      rw [List.all_cons, Bool.and_eq_true, i1] at h
      exact ih _ (by show 0 ≤ 10 * n + (b - 48); omega) h.2
  exact key l 0 (by omega) h
theorem kV (l : List Int) : -1 ≤ d8 l ∧ d8 l ≤ 255 := by
  by_cases h : 0 ≤ d8 l
  · have := (th h).2; omega
  · unfold d8 at h ⊢
    by_cases h1 : l.length = 0 ∨ 3 < l.length ∨ (1 < l.length ∧ l.headD 0 = 48)
    · rw [if_pos h1]; omega
    · rw [if_neg h1] at h ⊢
      by_cases h2 : l.all eb = true
      · rw [if_pos h2] at h ⊢
        by_cases h3 : kB l ≤ 255
        · rw [if_pos h3] at h ⊢
          have key := oE h2
          omega
        · rw [if_neg h3]; omega
      · rw [if_neg h2]; omega
theorem ws {l : List Int} (h : 0 ≤ d8 l) : l.all eb = true := by
  unfold d8 at h
  by_cases h1 : l.length = 0 ∨ 3 < l.length ∨ (1 < l.length ∧ l.headD 0 = 48)
  · rw [if_pos h1] at h; omega
  · rw [if_neg h1] at h
    by_cases h2 : l.all eb = true
    · exact h2
    · rw [if_neg h2] at h; omega
def v4 (l : List Int) : Option (Int × Int × Int × Int) :=
  match bT 46 l with
  | [a, b, c, d] => if 0 ≤ d8 a ∧ 0 ≤ d8 b ∧ 0 ≤ d8 c ∧ 0 ≤ d8 d then some (d8 a, d8 b, d8 c, d8 d) else none
  | _ => none
theorem yN {l : List Int} (h : 46 ∉ l) : v4 l = none := by
  unfold v4
  rw [oQ h]
theorem rJ {l : List Int} {a b c d : Int} (h : v4 l = some (a, b, c, d)) : (0 ≤ a ∧ a ≤ 255) ∧ (0 ≤ b ∧ b ≤ 255) ∧ (0 ≤ c ∧ c ≤ 255) ∧ 0 ≤ d ∧ d ≤ 255 := by
  unfold v4 at h
  split at h
  · rename_i x y z w _
    split at h
    · simp only [Option.some.injEq, Prod.mk.injEq] at h
      obtain ⟨rfl, rfl, rfl, rfl⟩ := h
      have := kV x
      have := kV y
      have := kV z
      have := kV w
      omega
    · cases h
  · cases h
def jz (n : Int) : List Int → Int
  | [] => n
  | b :: t => jz (16 * n + hv b) t
def fk (l : List Int) : Int := if l.length = 0 ∨ 4 < l.length then -1 else if l.all bu then jz 0 l else -1
theorem tW : ∀ (l : List Int) (n m : Int), l.all bu = true → 0 ≤ n → n < m → 0 ≤ jz n l ∧ jz n l < m * 16 ^ l.length := by
  intro l
  induction l with
  | nil => intro n m _ h0 h1; simp [jz]; omega
  | cons b t ih =>
    intro n m h h0 h1
    rw [List.all_cons, Bool.and_eq_true, ← kr] at h
    have hr := ki b
    have := ih (16 * n + hv b) (16 * m) h.2 (by omega) (by omega)
    refine ⟨this.1, Int.lt_of_lt_of_le this.2 ?_⟩
    rw [List.length_cons, Int.pow_succ]
    have : 16 * m * 16 ^ t.length = m * (16 ^ t.length * 16) := by
      rw [Int.mul_comm 16 m, Int.mul_assoc, Int.mul_comm 16]
    omega
theorem rK {l : List Int} (h : 0 ≤ fk l) : l.all bu = true ∧ 1 ≤ l.length ∧ l.length ≤ 4 := by
  unfold fk at h
  by_cases h1 : l.length = 0 ∨ 4 < l.length
  · rw [if_pos h1] at h; omega
  · rw [if_neg h1] at h
    by_cases h2 : l.all bu = true
    · exact ⟨h2, by omega, by omega⟩
    · rw [if_neg h2] at h; omega
def fW (fin : Bool) : List (List Int) → Option (List Int)
  | [] => some []
  | p :: r => if r = [] ∧ fin = true ∧ (v4 p).isSome then (v4 p).map fun x => [256 * x.1 + x.2.1, 256 * x.2.2.1 + x.2.2.2]
    else if fk p < 0 then none else (fW fin r).map fun l => fk p :: l
theorem jd (fin : Bool) (p : List Int) (r : List (List Int)) : fW fin (p :: r) = if r = [] ∧ fin = true ∧ (v4 p).isSome then (v4 p).map fun x => [256 * x.1 + x.2.1, 256 * x.2.2.1 + x.2.2.2]
    else if fk p < 0 then none else (fW fin r).map fun l => fk p :: l := rfl
theorem om {fin : Bool} {r : List (List Int)} {l : List Int} (h : fW fin r = some l) : l.length ≤ r.length + 1 := by
  induction r generalizing l with
  | nil => simp [fW] at h; subst h; simp
  | cons p r ih =>
    rw [jd] at h
    split at h
    · obtain ⟨x, _, rfl⟩ := Option.map_eq_some_iff.1 h
      simp
    · split at h
      · cases h
      · obtain ⟨x, hx, rfl⟩ := Option.map_eq_some_iff.1 h
        have := ih hx
        simp only [List.length_cons]; omega
theorem te {r : List (List Int)} (h : ∀ p ∈ r, (46 : Int) ∉ p) (fin : Bool) : fW fin r = fW false r := by
  induction r with
  | nil => rfl
  | cons p r ih =>
    have hp := yN (h p (List.mem_cons_self ..))
    rw [jd, jd, ih (fun q hq => h q (List.mem_cons_of_mem _ hq)), hp]
    simp
theorem wj {r : List (List Int)} {l : List Int} (h : fW false r = some l) : ∀ p ∈ r, (46 : Int) ∉ p ∧ p.all bu = true := by
  induction r generalizing l with
  | nil => simp
  | cons p r ih =>
    rw [jd, if_neg (by simp)] at h
    split at h
    · cases h
    · rename_i hw
      obtain ⟨x, hx, rfl⟩ := Option.map_eq_some_iff.1 h
      intro q hq
      rcases List.mem_cons.1 hq with rfl | hq
      · have := (rK (l := q) (by omega)).1
        refine ⟨fun hm => ?_, this⟩
        have := List.all_eq_true.1 this _ hm
        simp [bu] at this
      · exact ih hx q hq
def gi (fin : Bool) (l : List Int) : Option (List Int) := if l = [] then some [] else fW fin (bT 58 l)
def v6 (l : List Int) : Option (List Int) :=
  if cx [58, 58] l < 0 then (gi true l).bind fun w => if w.length = 8 then some w else none
  else (gi false (l.take (cx [58, 58] l).toNat)).bind fun a => (gi true (l.drop ((cx [58, 58] l).toNat + 2))).bind fun b =>
    if a.length + b.length ≤ 7 then some (a ++ List.replicate (8 - a.length - b.length) 0 ++ b) else none
def fut : List Int → Bool
  | [] => false
  | v :: t => (v == 118 || v == 86) && decide (0 < bf bu t) && decide (2 ≤ (t.drop (bf bu t)).length) && ((t.drop (bf bu t)).headD 0 == 46) && ((t.drop (bf bu t)).tail.all fun b => cn 1 b)
def mC (l : List Int) : Bool := decide (2 ≤ l.length) && (l.headD 0 == 91) && (l.getLastD 0 == 93)
def i9 (iri : Bool) (l : List Int) : Int :=
  if mC l then (if (v6 ((l.take (l.length - 1)).drop 1)).isSome || fut ((l.take (l.length - 1)).drop 1) then 3 else 0)
  else if (v4 l).isSome then 1 else if bn 2 iri l then 2 else 0
end Go.Proofs.YtpmflpeckoeooaaGreatDoor.M
namespace Go.Proofs.YtpmflpeckoeooaaGreatDoor.Y
open Go.RowKit Go.Proofs.YtpmflpeckoeooaaGreatDoor.X Go.Proofs.YtpmflpeckoeooaaGreatDoor.M Go.Proofs.YtpmflpeckoeooaaGreatDoorW.PrintWords Go.Proofs.YtpmflpeckoeooaaGreatDoorW.PrintLast Go.Proofs.YtpmflpeckoeooaaGreatDoorW.PrintMore
theorem tB (s sep : ByteArray) (c : Int) (hsep : aa sep = [c]) (hs : s.size < 4294967281) : ∃ R : List ByteArray, gQ s sep = some R ∧ R.map aa = bT c (aa s) := by
  have h1 : sep.size = 1 := by rw [← af, hsep]; rfl
  refine ⟨_, ?_, qG c sep hsep _ s rfl⟩
  unfold gQ
  rw [if_pos ⟨hs, by omega⟩]
theorem xi (s sep : ByteArray) (hs : s.size < 4294967281) (h1 : sep.size ≤ 1000) : dz s sep = some (if cx (aa sep) (aa s) < 0 then (s, (⟨#[]⟩ : ByteArray), false)
    else (s.extract 0 (cx (aa sep) (aa s)).toNat, s.extract ((cx (aa sep) (aa s)).toNat + sep.size) s.size, true)) := by
  unfold dz iR it
  rw [if_pos hs]
  have e : Go.Lib.index s.data.toList sep.data.toList = cx (aa sep) (aa s) := pl _ _
  rw [e]
  simp only [Option.bind_some]
  by_cases h : cx (aa sep) (aa s) < 0
  · rw [if_neg (by omega), if_pos h]; rfl
  · have hsp := lU (sub := aa sep) (l := aa s) (by omega)
    rw [af, af] at hsp
    rw [if_pos (by omega), if_pos (by omega), if_pos (by omega), w64 (by omega) (by omega), if_pos (by omega), if_pos (by omega), if_neg h]
    simp only [Option.bind_some]
    have : (cx (aa sep) (aa s) + (sep.size : Int)).toNat = (cx (aa sep) (aa s)).toNat + sep.size := by omega
    rw [this]
theorem re (pre : List ByteArray) (x : ByteArray) : eW ByteArray.empty (pre ++ [x]) (((pre ++ [x]).length : Int) - 1) = x := by
  unfold eW
  rw [List.length_append, List.length_singleton]
  have : (((pre.length + 1 : Nat) : Int) - 1).toNat = pre.length := by omega
  rw [this]
  simp
theorem wN (s : ByteArray) (c : Int) (hs : s.size ≤ 1000000) : ∀ d i : Nat, i + d = s.size → ∀ (pre : List ByteArray) (x : ByteArray), pre.length ≤ i → x.size ≤ i →
    ∃ R, Ev (fun k => bm k s c (pre ++ [x]) (i : Int)) R ∧ R.map aa = pre.map aa ++ (aa x ++ (bT c ((aa s).drop i)).headD []) :: (bT c ((aa s).drop i)).tail := by
  intro d
  induction d with
  | zero =>
    intro i hi pre x hp hx
    refine ⟨pre ++ [x], ?_, ?_⟩
    · refine Ev.step (fun k => by rw [bm]) ?_
      exact ae (by omega) (az _)
    · rw [List.drop_of_length_le (by rw [af]; omega)]
      simp [bT]
  | succ d ih =>
    intro i hi pre x hp hx
    rcases br s i (by omega) with ⟨h, _⟩ | ⟨h, e, b0, b1⟩
    · omega
    rw [e, gu]
    by_cases hb : bt s (i : Int) = c
    · obtain ⟨R, h1, h2⟩ := ih (i + 1) (by omega) (pre ++ [x]) (⟨#[]⟩ : ByteArray) (by rw [List.length_append]; simp; omega) (by show 0 ≤ _; omega)
      refine ⟨R, ?_, ?_⟩
      · refine Ev.step (fun k => by rw [bm]) ?_
        refine ab (by omega) (ab (by omega) (ab hb (ab (by rw [List.length_append]; simp; omega) ?_)))
        rw [w64 (by omega) (by omega)]
        exact h1
      · rw [h2, if_pos hb]
        have : aa (⟨#[]⟩ : ByteArray) = [] := rfl
        rw [this, List.map_append]
        simp only [List.map_cons, List.map_nil, List.nil_append, List.headD_cons, List.tail_cons, List.append_nil, List.append_assoc, List.singleton_append]
        rw [← kb]
    · have hx1 : (s.extract i (i + 1)).size = 1 := by rw [← af, ay, List.length_drop, List.length_take, af]; omega
      have hsz : (x ++ s.extract i (i + 1)).size = x.size + 1 := by
        rw [ByteArray.size_append, hx1]
      obtain ⟨R, h1, h2⟩ := ih (i + 1) (by omega) pre (x ++ s.extract i (i + 1)) (by omega) (by omega)
      refine ⟨R, ?_, ?_⟩
      · refine Ev.step (fun k => by rw [bm]) ?_
        have hl : (pre ++ [x]).length = pre.length + 1 := by simp
        rw [w64 (x := ((pre ++ [x]).length : Int) - 1) (by omega) (by omega), w64 (x := (i : Int) + 1) (by omega) (by omega), re]
        have e1 : ((i : Int) + 1).toNat = i + 1 := by omega
        have e2 : (((pre ++ [x]).length : Int) - 1).toNat = pre.length := by omega
        rw [e1, e2, Int.toNat_natCast, hx1]
        refine ab (by omega) (ab (by omega) (ae hb (ab (by omega) (ab (by omega) (ab (by omega) (ab (by omega) (ab (by omega) ?_)))))))
        have e3 : (pre ++ [x]).set pre.length (x ++ s.extract i (i + 1)) = pre ++ [x ++ s.extract i (i + 1)] := by simp
        rw [e3]
        exact h1
      · rw [h2, if_neg hb, nV, ay]
        have : ((aa s).take (i + 1)).drop i = [bt s (i : Int)] := by
          rw [List.drop_take, e, show i + 1 - i = 1 by omega, List.take_succ_cons, List.take_zero]
        rw [this]
        simp
theorem tv (s : ByteArray) (c : Int) (hs : s.size ≤ 1000000) : ∃ R, Ev (fun k => eJ k s c) R ∧ R.map aa = bT c (aa s) := by
  obtain ⟨R, h1, h2⟩ := wN s c hs s.size 0 (by omega) [] (⟨#[]⟩ : ByteArray) (by simp) (by show 0 ≤ _; omega)
  refine ⟨R, h1, ?_⟩
  rw [h2, List.drop_zero]
  have : aa (⟨#[]⟩ : ByteArray) = [] := rfl
  rw [this]
  simp only [List.map_nil, List.nil_append]
  rw [← kb]
theorem rr {R : List ByteArray} {L : List (List Int)} (h : R.map aa = L) (i : Nat) : aa (eW ByteArray.empty R (i : Int)) = L.getD i [] := by
  subst h
  unfold eW
  rw [Int.toNat_natCast, List.getD_eq_getElem?_getD, List.getD_eq_getElem?_getD, List.getElem?_map]
  cases R[i]? with
  | none => rfl
  | some x => rfl
end Go.Proofs.YtpmflpeckoeooaaGreatDoor.Y
