/- The law SegsParse of layer 31, for every input: Any text that may be a path has the segments that the document says; written and read again it is the same. No condition beside the row's own. -/
import Derived.Test.YtmofhijbheimmaaDoorZSegsParse1
import Derived.Test.YtmofhijbheimmaaDoorZSegsParse2
import Derived.Test.YtmofhijbheimmaaDoorZSegsParse3
import Derived.Test.YtmofhijbheimmaaDoorZSegsParse4
import Derived.Test.YtmofhijbheimmaaDoorZSegsParse5
import Derived.Test.YtmofhijbheimmaaDoorZSegsParse6
import Derived.Test.YtmofhijbheimmaaDoorZSegsParse7
import Derived.Test.YtmofhijbheimmaaDoorZSegsParse8
import Derived.Laws.BitsLemmas
import Derived.Test.YtmofhijbheimmaaDoorRows
import Derived.Test.YtmofhijbheimmaaDoorCards
import Derived.Test.YtmofhijbheimmaaDoorTie
import Derived.WalkKit
import Derived.ProofKit
import Derived.OpenShut
import Derived.ShutString
import Derived.ChangeOld
import Derived.Below
import Derived.SizedLaws
import Derived.ChangeArms
import Derived.Lib.SmallJoins
import Derived.Deep.DeepHandedRow
import Derived.Lib.LaidTab
import Derived.Shelf.Vars
import Derived.MakeChecks
set_option linter.unusedSimpArgs false
set_option linter.unusedVariables false
namespace Go.Proofs.YtmofhijbheimmaaDoor.Y
open Go.RowKit Go.Proofs.YtmofhijbheimmaaDoor.X Go.Proofs.YtmofhijbheimmaaDoor.M Go.Proofs.YtmofhijbheimmaaDoorW.PrintWords Go.Proofs.YtmofhijbheimmaaDoorW.PrintLast Go.Proofs.YtmofhijbheimmaaDoorW.PrintMore
theorem oc {b : Int} (h0 : 0 ≤ b) (h1 : b ≤ 255) : Ev (fun k => dv k b) (shp b) :=
  gy (fun k => fq b k) (k := 6) (cD (p := fun b => dv 6 b = some (shp b)) (by decide +kernel) h0 h1)
theorem nc (s : ByteArray) (hs : s.size ≤ 140737488351232) (n : Nat) (_ : n ≤ 4) : ∀ d i : Nat, ∀ lo hi : Int, i + d = n → Ev (fun k => cj k s (n : Int) lo hi (i : Int)) ((i : Int) + bc (n - i) lo hi ((aa s).drop i), (n : Int)) := by
  intro d
  induction d with
  | zero =>
    intro i lo hi hi2
    refine Ev.step (fun k => rfl) (ag (by omega) ?_)
    rw [show n - i = 0 by omega, jw]
    simp only [Int.natCast_zero, Int.add_zero]
    exact az _
  | succ d ih =>
    intro i lo hi hi2
    refine Ev.step (fun k => rfl) (ab (by omega) ?_)
    rw [show n - i = (n - (i + 1)) + 1 by omega]
    rcases Nat.lt_or_ge i s.size with h | h
    · rcases cg s i (by omega) with ⟨h2, _⟩ | ⟨_, e, b0, b1⟩
      · omega
      refine ab (by omega) (ab (by omega) ?_)
      rw [e]
      by_cases h1 : lo ≤ bt s i
      · refine ab h1 ?_
        by_cases h2 : bt s i ≤ hi
        · refine ab h2 ?_
          rw [w64 (by omega) (by omega)]
          unfold bc
          rw [if_pos ⟨h1, h2⟩]
          have := ih (i + 1) 128 191 (by omega)
          have e3 : ((i : Int) + ((bc (n - (i + 1)) 128 191 ((aa s).drop (i + 1)) + 1 : Nat) : Int), (n : Int)) = (((i + 1 : Nat) : Int) + (bc (n - (i + 1)) 128 191 ((aa s).drop (i + 1)) : Int), (n : Int)) := by
            congr 1; omega
          rw [e3]
          exact this
        · refine ag h2 ?_
          unfold bc
          rw [if_neg (fun x => h2 x.2)]
          simp only [Int.natCast_zero, Int.add_zero]
          exact az _
      · refine ag h1 ?_
        unfold bc
        rw [if_neg (fun x => h1 x.1)]
        simp only [Int.natCast_zero, Int.add_zero]
        exact az _
    · refine ag (by omega) ?_
      rw [List.drop_of_length_le (by rw [am]; exact h)]
      unfold bc
      simp only [Int.natCast_zero, Int.add_zero]
      exact az _
def j7 : List Int → Int × Int
  | [] => (0, 0)
  | b :: t => if (shp b).1 = 0 then (1, 0) else ((bc ((shp b).1.toNat - 1) (shp b).2.1 (shp b).2.2 t : Int) + 1, (shp b).1)
theorem iJ (b : Int) (t : List Int) : j7 (b :: t) = if (shp b).1 = 0 then (1, 0) else ((bc ((shp b).1.toNat - 1) (shp b).2.1 (shp b).2.2 t : Int) + 1, (shp b).1) := rfl
theorem n3 (s : ByteArray) (hs : s.size ≤ 140737488351232) : Ev (fun k => du k s) (j7 (aa s)) := by
  unfold du
  rcases dZ s with ⟨h, e⟩ | ⟨h, e, b0, b1⟩
  · rw [e]
    exact ab (by omega) (az _)
  · rw [e, iJ]
    refine ag (by omega) (ab (by omega) (ax (oc b0 b1) ?_))
    by_cases hz : (shp (bt s 0)).1 = 0
    · rw [if_pos hz]
      exact ab hz (az _)
    · rw [if_neg hz]
      refine ag hz ?_
      have hr := eZ (bt s 0)
      have := nc s hs (shp (bt s 0)).1.toNat (by omega) ((shp (bt s 0)).1.toNat - 1) 1 (shp (bt s 0)).2.1 (shp (bt s 0)).2.2 (by omega)
      rw [Int.toNat_of_nonneg hr.1] at this
      have e3 : ((bc ((shp (bt s 0)).1.toNat - 1) (shp (bt s 0)).2.1 (shp (bt s 0)).2.2 ((aa s).drop 1) : Int) + 1, (shp (bt s 0)).1) = ((((1 : Nat) : Int) + (bc ((shp (bt s 0)).1.toNat - 1) (shp (bt s 0)).2.1 (shp (bt s 0)).2.2 ((aa s).drop 1) : Int)), (shp (bt s 0)).1) := by
        congr 1; omega
      rw [e3]
      exact this
def bnd : Nat → Int
  | 0 => 33554432
  | 1 => 524288
  | 2 => 8192
  | _ => 128
theorem iR {d : Nat} (hd : d < 3) {r c : Int} (h0 : 0 ≤ r) (h : r < bnd (d + 1)) (c0 : 128 ≤ c) (c1 : c ≤ 191) : 0 ≤ r * 64 + (c - 128) ∧ r * 64 + (c - 128) < bnd d ∧ r * 64 < 2147483648 := by
  rcases d with _ | _ | _ | d
  · simp only [bnd] at *; omega
  · simp only [bnd] at *; omega
  · simp only [bnd] at *; omega
  · omega
theorem jp {s : ByteArray} {i n : Nat} (h : i < s.size) (hn : i < n) : ((aa s).take n).drop i = bt s (i : Int) :: ((aa s).take n).drop (i + 1) := by
  rcases cg s i (by omega) with ⟨h2, _⟩ | ⟨_, e, b0, b1⟩
  · omega
  · rw [List.drop_take, List.drop_take, e, show n - i = (n - (i + 1)) + 1 by omega, List.take_succ_cons]
theorem mt (s : ByteArray) (hs : s.size ≤ 140737488351232) (n : Nat) (hn : n ≤ s.size) : ∀ d i : Nat, ∀ r : Int, i + d = n → d ≤ 3 → 0 ≤ r → r < bnd d → (∀ c ∈ ((aa s).take n).drop i, 128 ≤ c ∧ c ≤ 191) →
    Ev (fun k => aA k s r (n : Int) (i : Int)) (eu r (((aa s).take n).drop i), (n : Int), true) := by
  intro d
  induction d with
  | zero =>
    intro i r hi _ _ _ _
    refine Ev.step (fun k => rfl) (ag (by omega) ?_)
    rw [List.drop_of_length_le (by rw [List.length_take, am]; omega)]
    exact az _
  | succ d ih =>
    intro i r hi hd r0 r1 hc
    have e := jp (s := s) (i := i) (n := n) (by omega) (by omega)
    rw [e] at hc ⊢
    obtain ⟨c0, c1⟩ := hc _ (List.mem_cons_self ..)
    have hb := iR (by omega) r0 r1 c0 c1
    refine Ev.step (fun k => rfl) (ab (by omega) (ab (by omega) (ab (by omega) ?_)))
    rw [w64 (by omega) (by omega), u8_and63 _ (by omega) (by omega)]
    have e1 : wrap32 (bt s (i : Int) % 64) = bt s (i : Int) % 64 := by unfold wrap32; omega
    have e2 : wrap32 (r * 64) = r * 64 := by unfold wrap32; omega
    rw [e1, e2, i32_or6 _ _ (by omega) (by omega) (by omega) (by omega) (by omega)]
    have e3 : r * 64 + bt s (i : Int) % 64 = r * 64 + (bt s (i : Int) - 128) := by omega
    rw [e3]
    exact ih (i + 1) _ (by omega) (by omega) hb.1 hb.2.1 (fun c h => hc c (List.mem_cons_of_mem _ h))
theorem mR {b : Int} (h0 : 0 ≤ b) (h1 : b ≤ 255) : (b < 128 → Go.bits .and .u8 b 127 = b) ∧ Go.bits .and .u8 b 31 = b % 32 ∧ Go.bits .and .u8 b 15 = b % 16 ∧ Go.bits .and .u8 b 7 = b % 8 :=
  ⟨cD (p := fun b => b < 128 → Go.bits .and .u8 b 127 = b) (by decide +kernel) h0 h1, u8_and31 _ (by omega) (by omega), u8_and15 _ (by omega) (by omega), u8_and7 _ (by omega) (by omega)⟩
theorem mD {b : Int} (h0 : 0 ≤ b) (h1 : b ≤ 255) : ((shp b).1 = 1 → b < 128 ∧ cp (shp b).1 b = b) ∧ ((shp b).1 = 2 → b % 32 = cp (shp b).1 b) ∧ ((shp b).1 = 3 → b % 16 = cp (shp b).1 b) ∧ ((shp b).1 = 4 → b % 8 = cp (shp b).1 b) :=
  cD (p := fun b => ((shp b).1 = 1 → b < 128 ∧ cp (shp b).1 b = b) ∧ ((shp b).1 = 2 → b % 32 = cp (shp b).1 b) ∧ ((shp b).1 = 3 → b % 16 = cp (shp b).1 b) ∧ ((shp b).1 = 4 → b % 8 = cp (shp b).1 b)) (by decide +kernel) h0 h1
theorem mX (s : ByteArray) (hs : s.size ≤ 140737488351232) : Ev (fun k => dB k s) (dec (aa s)) := by
  unfold dB
  refine ax (n3 s hs) ?_
  rcases dZ s with ⟨h, e⟩ | ⟨h, e, b0, b1⟩
  · rw [e]
    refine ab (by simp [j7]) ?_
    refine Ev.step (fun k => by rw [bx]) ?_
    exact ab rfl (az _)
  · have hr := eZ (bt s 0)
    rw [e, iJ, eh]
    by_cases hz : (shp (bt s 0)).1 = 0
    · simp only [if_pos hz]
      refine ab (by simp) ?_
      refine Ev.step (fun k => by rw [bx]) ?_
      exact ab rfl (az _)
    · simp only [if_neg hz]
      have hcl := f7 ((shp (bt s 0)).1.toNat - 1) (shp (bt s 0)).2.1 (shp (bt s 0)).2.2 ((aa s).drop 1)
      have hcm : 2 ≤ (shp (bt s 0)).1 → ∀ c ∈ ((aa s).drop 1).take (bc ((shp (bt s 0)).1.toNat - 1) (shp (bt s 0)).2.1 (shp (bt s 0)).2.2 ((aa s).drop 1)), 128 ≤ c ∧ c ≤ 191 :=
        fun h2 => gA _ _ _ (d8 h2).1 (d8 h2).2 _
      rw [List.length_drop, am] at hcl
      revert hcl hcm
      generalize bc ((shp (bt s 0)).1.toNat - 1) (shp (bt s 0)).2.1 (shp (bt s 0)).2.2 ((aa s).drop 1) = m
      intro hcl hcm
      refine Ev.step (fun k => by rw [bx]) ?_
      by_cases hlt : (m : Int) + 1 < (shp (bt s 0)).1
      · rw [if_pos hlt]
        exact ab (by simpa using hlt) (az _)
      · rw [if_neg hlt]
        refine ag (by simpa using hlt) (ab (by omega) (ab (by omega) ?_))
        have hm : m = (shp (bt s 0)).1.toNat - 1 := by omega
        have hl := iX b0 b1 (by omega)
        have hmk := mD b0 b1
        have ham := mR b0 b1
        have key : ∀ n : Nat, (n : Int) = (shp (bt s 0)).1 → 1 ≤ n → ∀ r : Int, r = cp (shp (bt s 0)).1 (bt s 0) → Ev (fun k => aA k s r (shp (bt s 0)).1 1) (eu (cp (shp (bt s 0)).1 (bt s 0)) (((aa s).drop 1).take ((shp (bt s 0)).1.toNat - 1)), (shp (bt s 0)).1, true) := by
          intro n hn h1n r hrl
          have hbn : r < bnd (n - 1) := by
            rw [hrl]
            rcases n with _ | _ | _ | _ | _ | n
            · omega
            · exact Int.lt_of_lt_of_le hl.2 (by decide)
            · exact Int.lt_of_lt_of_le hl.2 (by decide)
            · exact Int.lt_of_lt_of_le hl.2 (by decide)
            · exact Int.lt_of_lt_of_le hl.2 (by decide)
            · omega
          have := mt s hs n (by omega) (n - 1) 1 r (by omega) (by omega) (by omega) hbn (by
            intro c hc
            rw [List.drop_take] at hc
            by_cases h2 : 2 ≤ (shp (bt s 0)).1
            · exact hcm h2 c (by rw [hm, ← hn, Int.toNat_natCast]; exact hc)
            · rw [show n - 1 = 0 by omega] at hc
              simp at hc)
          rw [hn, List.drop_take] at this
          rw [← hrl, show (shp (bt s 0)).1.toNat - 1 = n - 1 by omega]
          exact this
        refine ag hz ?_
        by_cases h1 : (shp (bt s 0)).1 = 1
        · refine ab h1 ?_
          refine key 1 (by omega) (by omega) _ ?_
          rw [ham.1 (hmk.1 h1).1, (hmk.1 h1).2]
          have := (hmk.1 h1).1
          unfold wrap32; omega
        refine ag h1 ?_
        by_cases h2 : (shp (bt s 0)).1 = 2
        · refine ab h2 ?_
          refine key 2 (by omega) (by omega) _ ?_
          rw [ham.2.1, hmk.2.1 h2]
          unfold wrap32; omega
        refine ag h2 ?_
        by_cases h3 : (shp (bt s 0)).1 = 3
        · refine ab h3 ?_
          refine key 3 (by omega) (by omega) _ ?_
          rw [ham.2.2.1, hmk.2.2.1 h3]
          unfold wrap32; omega
        have h4 : (shp (bt s 0)).1 = 4 := by omega
        refine ag h3 (ab h4 ?_)
        refine key 4 (by omega) (by omega) _ ?_
        rw [ham.2.2.2, hmk.2.2.2 h4]
        unfold wrap32; omega
def jS (f0 f1 s0 s1 : Int) (n : Nat) : List Int → Nat
  | [] => 0
  | b :: t => if f0 ≤ b ∧ b ≤ f1 then bc (n - 1) s0 s1 t + 1 else 0
theorem hH (f0 f1 s0 s1 : Int) (n : Nat) (b : Int) (t : List Int) : jS f0 f1 s0 s1 n (b :: t) = if f0 ≤ b ∧ b ≤ f1 then bc (n - 1) s0 s1 t + 1 else 0 := rfl
theorem nZ (s : ByteArray) (hs : s.size ≤ 140737488351232) (f0 f1 s0 s1 : Int) (n : Nat) (hn : n ≤ 4) : ∀ d i : Nat, ∀ lo hi : Int, i + d = n → 1 ≤ i → (i = 1 → lo = s0 ∧ hi = s1) → (i ≠ 1 → lo = 128 ∧ hi = 191) →
    Ev (fun k => aU k s (i : Int) f0 f1 s0 s1 (n : Int)) ((i : Int) + bc (n - i) lo hi ((aa s).drop i)) := by
  intro d
  induction d with
  | zero =>
    intro i lo hi hi2 h1i hlo hhi
    rw [show n - i = 0 by omega, jw]
    simp only [Int.natCast_zero, Int.add_zero]
    refine Ev.step (fun k => by rw [aU]) ?_
    have hd : decide ((i : Int) < (n : Int)) = false := by simp; omega
    rw [hd]
    have fin : Ev (fun k => be k s (i : Int) false f0 f1 s0 s1 (n : Int)) (i : Int) := by
      refine Ev.step (fun k => by rw [be]) ?_
      exact ag (by simp) (az _)
    by_cases h : (i : Int) < (s.size : Int)
    · exact ab h fin
    · exact ag h fin
  | succ d ih =>
    intro i lo hi hi2 h1i hlo hhi
    refine Ev.step (fun k => by rw [aU]) ?_
    rw [show n - i = (n - (i + 1)) + 1 by omega]
    rcases Nat.lt_or_ge i s.size with h | h
    · rcases cg s i (by omega) with ⟨h2, _⟩ | ⟨_, e, b0, b1⟩
      · omega
      have hd : decide ((i : Int) < (n : Int)) = true := by simp; omega
      rw [hd, e]
      refine ab (by omega) ?_
      refine Ev.step (fun k => by rw [be]) ?_
      refine ab rfl (ag (by omega) ?_)
      refine Ev.step (fun k => by rw [bY]) ?_
      have hw : wrap64 (bt s (i : Int)) = bt s (i : Int) := w64 (by omega) (by omega)
      have hw2 : wrap64 ((i : Int) + 1) = (i : Int) + 1 := w64 (by omega) (by omega)
      rw [hw, hw2]
      have both : ∀ lo' hi' : Int, lo' = lo → hi' = hi → Ev (fun k => if 0 ≤ (i : Int) then if (i : Int) < (s.size : Int) then if bt s (i : Int) < lo' then some (i : Int) else if bt s (i : Int) > hi' then some (i : Int) else aU k s ((i : Int) + 1) f0 f1 s0 s1 (n : Int) else none else none)
          ((i : Int) + (bc (n - (i + 1) + 1) lo hi (bt s (i : Int) :: (aa s).drop (i + 1)) : Int)) := by
        intro lo' hi' e1 e2
        subst e1; subst e2
        refine ab (by omega) (ab (by omega) ?_)
        unfold bc
        by_cases h1 : bt s (i : Int) < lo'
        · refine ab h1 ?_
          rw [if_neg (by omega)]
          simp only [Int.natCast_zero, Int.add_zero]
          exact az _
        · refine ag h1 ?_
          by_cases h2 : bt s (i : Int) > hi'
          · refine ab h2 ?_
            rw [if_neg (by omega)]
            simp only [Int.natCast_zero, Int.add_zero]
            exact az _
          · refine ag h2 ?_
            rw [if_pos (by omega)]
            have := ih (i + 1) 128 191 (by omega) (by omega) (by omega) (by omega)
            have e3 : ((i : Int) + ((bc (n - (i + 1)) 128 191 ((aa s).drop (i + 1)) + 1 : Nat) : Int)) = (((i + 1 : Nat) : Int) + (bc (n - (i + 1)) 128 191 ((aa s).drop (i + 1)) : Int)) := by omega
            rw [e3]
            exact this
      by_cases hi1 : i = 1
      · refine ab (by omega) ?_
        exact both s0 s1 (hlo hi1).1.symm (hlo hi1).2.symm
      · refine ag (by omega) ?_
        exact both 128 191 (hhi hi1).1.symm (hhi hi1).2.symm
    · refine ag (by omega) ?_
      rw [List.drop_of_length_le (by rw [am]; exact h)]
      refine Ev.step (fun k => by rw [be]) ?_
      unfold bc
      simp only [Int.natCast_zero, Int.add_zero]
      exact ag (by simp) (az _)
theorem mB (s : ByteArray) (hs : s.size ≤ 140737488351232) (f0 f1 s0 s1 : Int) (n : Nat) (h1 : 1 ≤ n) (hn : n ≤ 4) : Ev (fun k => dC k s f0 f1 s0 s1 (n : Int)) (jS f0 f1 s0 s1 n (aa s) : Int) := by
  unfold dC
  refine Ev.step (fun k => by rw [aU]) ?_
  rcases dZ s with ⟨h, e⟩ | ⟨h, e, b0, b1⟩
  · rw [e]
    refine ag (by omega) ?_
    refine Ev.step (fun k => by rw [be]) ?_
    exact ag (by simp) (az _)
  · rw [e, hH]
    have hd : decide ((0 : Int) < (n : Int)) = true := by simp; omega
    rw [hd]
    refine ab (by omega) ?_
    refine Ev.step (fun k => by rw [be]) ?_
    refine ab rfl (ab rfl ?_)
    refine Ev.step (fun k => by rw [bY]) ?_
    have hw : wrap64 (bt s 0) = bt s 0 := w64 (by omega) (by omega)
    have hw2 : wrap64 ((0 : Int) + 1) = ((1 : Nat) : Int) := w64 (by omega) (by omega)
    rw [hw, hw2]
    refine ag (by omega) (ab (by omega) (ab (by omega) ?_))
    by_cases h2 : bt s 0 < f0
    · rw [if_neg (by omega)]
      exact ab h2 (az _)
    · refine ag h2 ?_
      by_cases h3 : bt s 0 > f1
      · rw [if_neg (by omega)]
        exact ab h3 (az _)
      · rw [if_pos (by omega)]
        refine ag h3 ?_
        have := nZ s hs f0 f1 s0 s1 n hn (n - 1) 1 s0 s1 (by omega) (by omega) (by simp) (by simp)
        have e3 : ((bc (n - 1) s0 s1 ((aa s).drop 1) + 1 : Nat) : Int) = ((1 : Nat) : Int) + (bc (n - 1) s0 s1 ((aa s).drop 1) : Int) := by omega
        rw [e3]
        exact this
theorem mM (s : ByteArray) (hs : s.size ≤ 4) : ∀ d i : Nat, ∀ r : Int, i + d = s.size → d ≤ 3 → 0 ≤ r → r < bnd d → (∀ c ∈ (aa s).drop i, 128 ≤ c ∧ c ≤ 191) →
    Ev (fun k => bn k s r (i : Int)) (eu r ((aa s).drop i)) := by
  intro d
  induction d with
  | zero =>
    intro i r hi _ _ _ _
    refine Ev.step (fun k => by rw [bn]) ?_
    refine ag (by omega) ?_
    rw [List.drop_of_length_le (by rw [am]; omega)]
    exact az _
  | succ d ih =>
    intro i r hi hd r0 r1 hc
    rcases cg s i (by omega) with ⟨h2, _⟩ | ⟨_, e, b0, b1⟩
    · omega
    rw [e] at hc ⊢
    obtain ⟨c0, c1⟩ := hc _ (List.mem_cons_self ..)
    have hb := iR (by omega) r0 r1 c0 c1
    refine Ev.step (fun k => by rw [bn]) ?_
    refine ab (by omega) (ab (by omega) ?_)
    have e1 : wrap64 (wrap64 (wrap64 (r * 64) + wrap64 (bt s (i : Int))) - 128) = r * 64 + (bt s (i : Int) - 128) := by
      rw [w64 (x := r * 64) (by omega) (by omega), w64 (x := bt s (i : Int)) (by omega) (by omega), w64 (x := r * 64 + bt s (i : Int)) (by omega) (by omega), w64 (by omega) (by omega)]
      omega
    rw [e1, w64 (by omega) (by omega)]
    exact ih (i + 1) _ (by omega) (by omega) hb.1 hb.2.1 (fun c h => hc c (List.mem_cons_of_mem _ h))
theorem nu (s : ByteArray) (n : Nat) (hn : s.size = n) (h1 : 1 ≤ n) (h4 : n ≤ 4) (l0 : 0 ≤ cp (n : Int) (bt s 0)) (l1 : cp (n : Int) (bt s 0) < 128) (hc : ∀ c ∈ (aa s).drop 1, 128 ≤ c ∧ c ≤ 191) :
    Ev (fun k => cG k s) (eu (cp (n : Int) (bt s 0)) ((aa s).drop 1)) := by
  have hr := e7 s 0
  have loop : 2 ≤ n → ∀ r, r = cp (n : Int) (bt s 0) → Ev (fun k => bn k s r 1) (eu (cp (n : Int) (bt s 0)) ((aa s).drop 1)) := by
    intro h2 r e
    subst e
    have hbn : cp (n : Int) (bt s 0) < bnd (n - 1) := by
      rcases n with _ | _ | _ | _ | _ | n
      · omega
      · omega
      · exact Int.lt_of_lt_of_le l1 (by decide)
      · exact Int.lt_of_lt_of_le l1 (by decide)
      · exact Int.lt_of_lt_of_le l1 (by decide)
      · omega
    exact mM s (by omega) (n - 1) 1 _ (by omega) (by omega) l0 hbn hc
  have tail : 2 ≤ n → ∀ r, r = cp (n : Int) (bt s 0) → Ev (fun k => bQ k s r) (eu (cp (n : Int) (bt s 0)) ((aa s).drop 1)) := by
    intro h2 r e
    refine Ev.step (fun k => by rw [bQ]) ?_
    exact loop h2 r e
  unfold cG
  by_cases e1 : n = 1
  · refine ab (by omega) (ab (by omega) ?_)
    rw [List.drop_of_length_le (by rw [am]; omega), w64 (by omega) (by omega), e1]
    have : cp ((1 : Nat) : Int) (bt s 0) = bt s 0 := by unfold cp; simp
    rw [this]
    exact az _
  refine ag (by omega) (ab (by omega) ?_)
  have w0 : wrap64 (bt s 0) = bt s 0 := w64 (by omega) (by omega)
  rw [w0]
  by_cases e3 : n = 3
  · refine ab (by omega) ?_
    refine Ev.step (fun k => by rw [bm]) ?_
    refine ag (by omega) ?_
    refine tail (by omega) _ ?_
    rw [w64 (by omega) (by omega)]
    subst e3
    unfold cp
    simp
  · refine ag (by omega) ?_
    refine Ev.step (fun k => by rw [bm]) ?_
    by_cases e4 : n = 4
    · refine ab (by omega) (ab (by omega) ?_)
      rw [w0]
      refine tail (by omega) _ ?_
      rw [w64 (by omega) (by omega)]
      subst e4
      unfold cp
      simp
    · refine ag (by omega) ?_
      refine tail (by omega) _ ?_
      rw [w64 (by omega) (by omega)]
      have e2 : n = 2 := by omega
      subst e2
      unfold cp
      simp
theorem lh (s : ByteArray) (n : Nat) (hn : n ≤ s.size) (h1 : 1 ≤ n) (h4 : n ≤ 4) (l0 : 0 ≤ cp (n : Int) (bt s 0)) (l1 : cp (n : Int) (bt s 0) < 128) (hc : 2 ≤ n → ∀ c ∈ ((aa s).drop 1).take (n - 1), 128 ≤ c ∧ c ≤ 191) :
    Ev (fun k => cG k (s.extract 0 n)) (eu (cp (n : Int) (bt s 0)) (((aa s).drop 1).take (n - 1))) := by
  have hb : aa (s.extract 0 n) = bt s 0 :: ((aa s).drop 1).take (n - 1) := by
    rcases dZ s with ⟨h, _⟩ | ⟨_, e, _⟩
    · omega
    · rw [b6, List.drop_zero]
      conv => lhs; rw [e, show n = (n - 1) + 1 by omega, List.take_succ_cons]
  have hsz : (s.extract 0 n).size = n := by
    rw [← am, hb, List.length_cons, List.length_take, List.length_drop, am]; omega
  have hb0 : bt (s.extract 0 n) 0 = bt s 0 := by
    rcases dZ (s.extract 0 n) with ⟨h, _⟩ | ⟨_, e2, _⟩
    · omega
    · rw [hb] at e2
      injection e2 with e2 _
      exact e2.symm
  have := nu (s.extract 0 n) n hsz h1 h4 (by rw [hb0]; exact l0) (by rw [hb0]; exact l1) (by
    intro c hcc
    rw [hb, List.drop_succ_cons, List.drop_zero] at hcc
    by_cases h2 : 2 ≤ n
    · exact hc h2 c hcc
    · rw [show n - 1 = 0 by omega] at hcc
      simp at hcc)
  rw [hb0, hb, List.drop_succ_cons, List.drop_zero] at this
  exact this
def cC (b : Int) : Nat :=
  if b < 128 then 0 else if b < 194 then 9 else if b ≤ 223 then 1 else if b = 224 then 2 else if b ≤ 236 then 3 else if b = 237 then 4 else if b ≤ 239 then 5
  else if b = 240 then 6 else if b ≤ 243 then 7 else if b = 244 then 8 else 9
theorem mN {b : Int} (h0 : 0 ≤ b) (h1 : b ≤ 255) : ∀ j : Nat, j < 9 → ((af j 0 ≤ b ∧ b ≤ af j 1) ↔ cC b = j) := by
  intro j hj
  have := cD (p := fun b => ∀ j : Fin 9, (af j.val 0 ≤ b ∧ b ≤ af j.val 1) ↔ cC b = j.val) (by decide +kernel) h0 h1
  exact this ⟨j, hj⟩
theorem oa {b : Int} (h0 : 0 ≤ b) (h1 : b ≤ 255) : (cC b < 9 → shp b = (af (cC b) 4, af (cC b) 2, af (cC b) 3)) ∧ (9 ≤ cC b → shp b = (0, 0, 0)) :=
  cD (p := fun b => (cC b < 9 → shp b = (af (cC b) 4, af (cC b) 2, af (cC b) 3)) ∧ (9 ≤ cC b → shp b = (0, 0, 0))) (by decide +kernel) h0 h1
theorem nK (j : Nat) (hj : j < 9) : ∃ n : Nat, af j 4 = (n : Int) ∧ 1 ≤ n ∧ n ≤ 4 := by
  have : ∀ j : Fin 9, 1 ≤ af j.val 4 ∧ af j.val 4 ≤ 4 := by decide +kernel
  obtain ⟨h1, h2⟩ := this ⟨j, hj⟩
  simp only at h1 h2
  exact ⟨(af j 4).toNat, by omega, by omega, by omega⟩
theorem nJ (i : Nat) (hi : i < 9) : cW (i : Int) = some (af i 0, af i 1, af i 2, af i 3, af i 4) := by
  unfold cW
  rw [if_pos (by omega), Int.toNat_natCast]
theorem nw (s : ByteArray) (hs : s.size ≤ 140737488351232) (hp : 0 < s.size) (best : Int) (hb : 1 ≤ best) (i : Nat) (hi : i < 9) (hne : cC (bt s 0) ≠ i) (r : Int × Int × Bool)
    (h : Ev (fun k => ay k s best ((i + 1 : Nat) : Int)) r) : Ev (fun k => ay k s best (i : Int)) r := by
  obtain ⟨n, en, n1, n4⟩ := nK i hi
  have hr := e7 s 0
  rcases dZ s with ⟨h0, _⟩ | ⟨_, e, b0, b1⟩
  · omega
  refine Ev.step (fun k => by rw [ay]) ?_
  refine ab (by omega) (bF (nJ i hi) ?_)
  simp only
  rw [en]
  refine ax (mB s hs _ _ _ _ n n1 n4) ?_
  have hz : jS (af i 0) (af i 1) (af i 2) (af i 3) n (aa s) = 0 := by
    rw [e, hH, if_neg (fun x => hne ((mN b0 b1 i hi).1 x))]
  rw [hz]
  refine ag (by omega) ?_
  have hm : mx best ((0 : Nat) : Int) = best := by unfold mx; rw [if_neg (by omega)]
  rw [hm, w64 (by omega) (by omega)]
  exact h
theorem iv (s : ByteArray) (hs : s.size ≤ 140737488351232) (hp : 0 < s.size) (best : Int) (hb : 1 ≤ best) (r : Int × Int × Bool) (j : Nat) (hj : j ≤ 9) (h : Ev (fun k => ay k s best (j : Int)) r) :
    ∀ d i : Nat, i + d = j → (∀ m, i ≤ m → m < j → cC (bt s 0) ≠ m) → Ev (fun k => ay k s best (i : Int)) r := by
  intro d
  induction d with
  | zero => intro i hi _; rw [show i = j by omega]; exact h
  | succ d ih =>
    intro i hi hm
    exact nw s hs hp best hb i (by omega) (hm i (by omega) (by omega)) r (ih (i + 1) (by omega) (fun m h1 h2 => hm m (by omega) h2))
theorem kN (s : ByteArray) (best : Int) : Ev (fun k => ay k s best ((9 : Nat) : Int)) (0, best, false) := by
  refine Ev.step (fun k => by rw [ay]) ?_
  exact ag (by decide) (az _)
set_option maxHeartbeats 1000000 in
theorem kw (s : ByteArray) (hs : s.size ≤ 140737488351232) : Ev (fun k => da k s) (dec (aa s)) := by
  unfold da
  have hnil : s.toList = ([] : List UInt8) ↔ aa s = [] := by
    rw [dt]
    unfold aa
    exact List.map_eq_nil_iff.symm
  rcases dZ s with ⟨h0, e⟩ | ⟨hp, e, b0, b1⟩
  · rw [e]
    exact ab (hnil.2 e) (az _)
  · refine ag (fun h => by rw [hnil.1 h] at e; cases e) ?_
    obtain ⟨hsh1, hsh2⟩ := oa b0 b1
    rcases Nat.lt_or_ge (cC (bt s 0)) 9 with hlt | hge
    · obtain ⟨n, en, n1, n4⟩ := nK _ hlt
      have hshp := hsh1 hlt
      have skipTo : ∀ r, Ev (fun k => ay k s 1 ((cC (bt s 0) : Nat) : Int)) r → Ev (fun k => ay k s 1 0) r := by
        intro r h
        exact iv s hs hp 1 (by omega) r (cC (bt s 0)) (by omega) h (cC (bt s 0)) 0 (by omega) (fun m _ h2 => by omega)
      refine skipTo _ ?_
      refine Ev.step (fun k => by rw [ay]) ?_
      refine ab (by omega) (bF (nJ _ hlt) ?_)
      simp only
      rw [en]
      refine ax (mB s hs _ _ _ _ n n1 n4) ?_
      have hfit : jS (af (cC (bt s 0)) 0) (af (cC (bt s 0)) 1) (af (cC (bt s 0)) 2) (af (cC (bt s 0)) 3) n (aa s)
          = bc (n - 1) (shp (bt s 0)).2.1 (shp (bt s 0)).2.2 ((aa s).drop 1) + 1 := by
        have hin := (mN b0 b1 _ hlt).2 rfl
        rw [hshp]
        conv => lhs; rw [e]
        rw [hH, if_pos hin]
      rw [hfit]
      have h1 : (shp (bt s 0)).1 = (n : Int) := by rw [hshp]; exact en
      have hdec := eh (bt s 0) ((aa s).drop 1)
      rw [← e, h1, if_neg (by omega), Int.toNat_natCast] at hdec
      rw [hdec]
      have hcl := f7 (n - 1) (shp (bt s 0)).2.1 (shp (bt s 0)).2.2 ((aa s).drop 1)
      have hcm : 2 ≤ (shp (bt s 0)).1 → ∀ c ∈ ((aa s).drop 1).take (bc (n - 1) (shp (bt s 0)).2.1 (shp (bt s 0)).2.2 ((aa s).drop 1)), 128 ≤ c ∧ c ≤ 191 :=
        fun h2 => gA _ _ _ (d8 h2).1 (d8 h2).2 _
      rw [List.length_drop, am] at hcl
      have hlead := iX b0 b1 (by omega)
      rw [h1] at hcm hlead
      revert hcl hcm
      generalize bc (n - 1) (shp (bt s 0)).2.1 (shp (bt s 0)).2.2 ((aa s).drop 1) = m
      intro hcl hcm
      by_cases hm : (m : Int) + 1 < (n : Int)
      · rw [if_pos hm]
        refine ag (by omega) ?_
        have hmx : mx 1 ((m + 1 : Nat) : Int) = (m : Int) + 1 := by unfold mx; split <;> omega
        rw [hmx, w64 (by omega) (by omega)]
        exact iv s hs hp ((m : Int) + 1) (by omega) _ 9 (by omega) (kN s _) (9 - (cC (bt s 0) + 1)) (cC (bt s 0) + 1) (by omega) (fun k h1 h2 => by omega)
      · rw [if_neg hm]
        have hmn : m + 1 = n := by omega
        rw [hmn, Int.toNat_natCast]
        refine ab rfl (ab (by omega) (ab (by omega) ?_))
        refine ax (lh s n (by omega) n1 n4 hlead.1 hlead.2 (fun h2 c hc => hcm (by omega) c (by rw [show m = n - 1 by omega]; exact hc))) ?_
        exact az _
    · have hshp := hsh2 hge
      have hdec := eh (bt s 0) ((aa s).drop 1)
      rw [← e, hshp, if_pos rfl] at hdec
      rw [hdec]
      exact iv s hs hp 1 (by omega) _ 9 (by omega) (kN s 1) 9 0 (by omega) (fun m _ h2 => by omega)
theorem nD {s : ByteArray} {i : Nat} (h : i + 3 ≤ s.size) : (aa s).drop i = bt s (i : Int) :: bt s ((i : Int) + 1) :: bt s ((i : Int) + 2) :: (aa s).drop (i + 3) := by
  rcases cg s i (by omega) with ⟨h2, _⟩ | ⟨_, e, _⟩
  · omega
  rcases cg s (i + 1) (by omega) with ⟨h2, _⟩ | ⟨_, e2, _⟩
  · omega
  rcases cg s (i + 2) (by omega) with ⟨h2, _⟩ | ⟨_, e3, _⟩
  · omega
  rw [e, e2, e3]
  rfl
theorem d5 {l : List Int} (h : l.length < 3) : bh l = -1 := by
  match l, h with
  | [], _ => rfl
  | [_], _ => rfl
  | [_, _], _ => rfl
  | _ :: _ :: _ :: _, h => simp only [List.length_cons] at h; omega
theorem i5 (p a b : Int) (t : List Int) : bh (p :: a :: b :: t) = if p = 37 then (if hv a < 0 ∨ hv b < 0 then -1 else 16 * hv a + hv b) else -1 := rfl
theorem ne {a b : Int} (ha : 0 ≤ a) (ha1 : a ≤ 15) (hb : 0 ≤ b) (hb1 : b ≤ 15) : (Go.bits .or .i64 (wrap64 (a * 16)) b) % 256 = 16 * a + b := by
  have : ∀ x : Fin 16, ∀ y : Fin 16, (Go.bits .or .i64 (wrap64 (((x.val : Nat) : Int) * 16)) ((y.val : Nat) : Int)) % 256 = 16 * ((x.val : Nat) : Int) + ((y.val : Nat) : Int) := by decide +kernel
  have := this ⟨a.toNat, by omega⟩ ⟨b.toNat, by omega⟩
  simp only at this
  rwa [Int.toNat_of_nonneg ha, Int.toNat_of_nonneg hb] at this
theorem kH (s : ByteArray) (i : Nat) (hi : i ≤ s.size) (hs : s.size ≤ 140737488351232) : Ev (fun k => dp k s (i : Int)) (if bh ((aa s).drop i) < 0 then (0, false) else (bh ((aa s).drop i), true)) := by
  unfold dp
  refine ag (by omega) ?_
  have bad : ∀ r, r = (0, false) → Ev (fun k => bq k s (i : Int) true) r := by
    intro r e
    subst e
    refine Ev.step (fun k => by rw [bq]) ?_
    exact ab rfl (az _)
  rw [w64 (by omega) (by omega)]
  by_cases h3 : i + 3 ≤ s.size
  · refine ag (by omega) (ab (by omega) (ab (by omega) ?_))
    rw [nD h3, i5]
    by_cases hp : bt s (i : Int) = 37
    · rw [if_pos hp, hp]
      refine Ev.step (fun k => by rw [bq]) ?_
      refine ag (by decide) ?_
      have r1 := e7 s ((i : Int) + 1)
      have r2 := e7 s ((i : Int) + 2)
      have v1 := fo (bt s ((i : Int) + 1))
      have v2 := fo (bt s ((i : Int) + 2))
      rw [w64 (x := (i : Int) + 1) (by omega) (by omega), w64 (x := (i : Int) + 2) (by omega) (by omega)]
      refine ab (by omega) (ab (by omega) (ax (kR r1.1 r1.2) (ab (by omega) (ab (by omega) (ax (kR r2.1 r2.2) ?_)))))
      generalize hv (bt s ((i : Int) + 1)) = x at v1 ⊢
      generalize hv (bt s ((i : Int) + 2)) = y at v2 ⊢
      by_cases h1 : x < 0
      · have h3 : x < 0 ∨ y < 0 := .inl h1
        simp only [if_pos h1, if_pos h3]
        exact ag (by simp) (az _)
      · simp only [if_neg h1]
        refine ab (by simp) ?_
        by_cases h2 : y < 0
        · have h3 : x < 0 ∨ y < 0 := .inr h2
          simp only [if_pos h2, if_pos h3]
          exact ag (by simp) (az _)
        · have h3 : ¬ (x < 0 ∨ y < 0) := by omega
          simp only [if_neg h2, if_neg h3]
          refine ab (by simp) ?_
          rw [if_neg (by omega), ne (by omega) (by omega) (by omega) (by omega)]
          exact az _
    · rw [if_neg hp, if_pos (by omega)]
      have : (bt s (i : Int) != 37) = true := by simpa using hp
      rw [this]
      exact bad _ rfl
  · refine ab (by omega) ?_
    rw [d5 (by rw [List.length_drop, am]; omega), if_pos (by omega)]
    exact bad _ rfl
theorem kM (s : ByteArray) (i : Nat) (hi : i ≤ s.size) (hs : s.size ≤ 140737488351232) : Ev (fun k => df k s (i : Int)) (bh ((aa s).drop i)) := by
  unfold df
  refine ag (by omega) ?_
  have bad : ∀ r, r = -1 → Ev (fun k => aR k s (i : Int) true) r := by
    intro r e
    subst e
    refine Ev.step (fun k => by rw [aR]) ?_
    exact ab rfl (az _)
  by_cases h0 : i < s.size
  · refine ag (by omega) ?_
    rw [w64 (by omega) (by omega)]
    by_cases h3 : i + 3 ≤ s.size
    · refine ag (by omega) (ab (by omega) (ab (by omega) ?_))
      rw [nD h3, i5]
      by_cases hp : bt s (i : Int) = 37
      · rw [if_pos hp, hp]
        refine Ev.step (fun k => by rw [aR]) ?_
        refine ag (by decide) ?_
        have r1 := e7 s ((i : Int) + 1)
        have r2 := e7 s ((i : Int) + 2)
        have v1 := fo (bt s ((i : Int) + 1))
        have v2 := fo (bt s ((i : Int) + 2))
        rw [w64 (x := (i : Int) + 1) (by omega) (by omega), w64 (x := (i : Int) + 2) (by omega) (by omega)]
        refine ab (by omega) (ab (by omega) (ax (jb r1.1 r1.2) (ab (by omega) (ab (by omega) (ax (jb r2.1 r2.2) ?_)))))
        generalize hv (bt s ((i : Int) + 1)) = x at v1 ⊢
        generalize hv (bt s ((i : Int) + 2)) = y at v2 ⊢
        by_cases h1 : x < 0
        · have h3 : x < 0 ∨ y < 0 := .inl h1
          rw [if_pos h3]
          exact ab h1 (az _)
        · refine ag h1 ?_
          by_cases h2 : y < 0
          · have h3 : x < 0 ∨ y < 0 := .inr h2
            rw [if_pos h3]
            exact ab h2 (az _)
          · have h3 : ¬ (x < 0 ∨ y < 0) := by omega
            refine ag h2 ?_
            rw [if_neg h3, w64 (x := 16 * x) (by omega) (by omega), w64 (by omega) (by omega)]
            exact az _
      · rw [if_neg hp]
        have : (bt s (i : Int) != 37) = true := by simpa using hp
        rw [this]
        exact bad _ rfl
    · refine ab (by omega) ?_
      rw [d5 (by rw [List.length_drop, am]; omega)]
      exact bad _ rfl
  · refine ab (by omega) ?_
    rw [d5 (by rw [List.length_drop, am]; omega)]
    exact bad _ rfl
theorem iz (p : Int) : ∃ t, dd p = some (t, ct p) := by
  unfold dd ct
  by_cases h1 : p = 1
  · subst h1; exact ⟨_, rfl⟩
  by_cases h2 : p = 2
  · subst h2; exact ⟨_, rfl⟩
  by_cases h3 : p = 3
  · subst h3; exact ⟨_, rfl⟩
  by_cases h4 : p = 4
  · subst h4; exact ⟨_, rfl⟩
  by_cases h5 : p = 5
  · subst h5; exact ⟨_, rfl⟩
  by_cases h6 : p = 6
  · subst h6; exact ⟨_, rfl⟩
  by_cases h7 : p = 7
  · subst h7; exact ⟨_, rfl⟩
  · rw [if_neg h1, if_neg h2, if_neg h3, if_neg h4, if_neg h5, if_neg h6, if_neg h7]
    exact ⟨_, by rw [decide_eq_false (by omega)]⟩
theorem jG {q : Int → Prop} (h : ∀ n : Fin 7, q ((n.val : Nat) + 1 : Int)) {p : Int} (hp : ct p = true) : q p := by
  have hp : 1 ≤ p ∧ p ≤ 7 := by simpa [ct] using hp
  have := h ⟨(p - 1).toNat, by omega⟩
  simp only at this
  rwa [Int.toNat_of_nonneg (by omega), show p - 1 + 1 = p by omega] at this
theorem n9 {p b : Int} (h0 : 0 ≤ b) (h1 : b ≤ 255) : Ev (fun k => cw k p b) (cA p b) := by
  by_cases hp : ct p = true
  · refine gy (fun k => eL p b k) (k := 20) ?_
    refine jG (q := fun p => cw 20 p b = some (cA p b)) ?_ hp
    intro n
    exact cD (p := fun b => cw 20 ((n.val : Nat) + 1 : Int) b = some (cA ((n.val : Nat) + 1 : Int) b)) (by revert n; decide +kernel) h0 h1
  · unfold cw cA
    obtain ⟨t, e⟩ := iz p
    refine bF e ?_
    rw [Bool.not_eq_true] at hp
    rw [hp]
    exact ag (by simp) (az _)
theorem lg {p b : Int} (h0 : 0 ≤ b) (h1 : b ≤ 255) : Ev (fun k => bs k p b) (cA p b) := by
  by_cases hp : ct p = true
  · refine gy (fun k => gu p b k) (k := 70) ?_
    refine jG (q := fun p => bs 70 p b = some (cA p b)) ?_ hp
    intro n
    exact cD (p := fun b => bs 70 ((n.val : Nat) + 1 : Int) b = some (cA ((n.val : Nat) + 1 : Int) b)) (by revert n; decide +kernel) h0 h1
  · unfold bs cA
    have hp2 : ¬ (1 ≤ p ∧ p ≤ 7) := by simpa [ct] using hp
    rw [Bool.not_eq_true] at hp
    rw [hp, Bool.false_and]
    by_cases hlt : p < 1
    · refine ab hlt ?_
      refine Ev.step (fun k => by rw [aI]) ?_
      exact ab rfl (az _)
    · refine ag hlt ?_
      rw [decide_eq_true (by omega)]
      refine Ev.step (fun k => by rw [aI]) ?_
      exact ab rfl (az _)
theorem ms (r : Int) (h0 : 160 ≤ r) (h1 : r < 2147483648) (b : Bool) (hb : b = true ↔ (r ≤ 55295 ∨ 63744 ≤ r ∧ r ≤ 64975 ∨ 65008 ≤ r ∧ r ≤ 65519)) : Ev (fun k => aE k r b) (dH r) := by
  refine Ev.step (fun k => by rw [aE]) ?_
  have hm : Go.bits .and .i32 r 65535 = r % 65536 := bits_mask .i32 31 (by decide) wraps_i32 16 (by decide) r (by omega) (by omega)
  unfold dH
  refine Ev.ite (fun h => Ev.val ?_) (fun h => Ev.ite (fun h2 => Ev.val ?_) (fun h2 => Ev.ite (fun h3 => Ev.val ?_) (fun h3 => ?_)))
  · have := hb.1 h
    symm
    rw [decide_eq_true_iff]
    omega
  · have hnb : ¬ (r ≤ 55295 ∨ 63744 ≤ r ∧ r ≤ 64975 ∨ 65008 ≤ r ∧ r ≤ 65519) := fun x => h (hb.2 x)
    symm
    rw [decide_eq_false_iff_not]
    omega
  · have hnb : ¬ (r ≤ 55295 ∨ 63744 ≤ r ∧ r ≤ 64975 ∨ 65008 ≤ r ∧ r ≤ 65519) := fun x => h (hb.2 x)
    symm
    rw [decide_eq_false_iff_not]
    omega
  · have hnb : ¬ (r ≤ 55295 ∨ 63744 ≤ r ∧ r ≤ 64975 ∨ 65008 ≤ r ∧ r ≤ 65519) := fun x => h (hb.2 x)
    rw [hm]
    refine Ev.ite (fun h4 => Ev.ite (fun h5 => Ev.val ?_) (fun h5 => Ev.val ?_)) (fun h4 => Ev.val ?_)
    · symm
      rw [decide_eq_true_iff]
      omega
    · rw [decide_eq_decide]
      omega
    · symm
      rw [decide_eq_false_iff_not]
      omega
theorem mT (r : Int) (h1 : r < 2147483648) : Ev (fun k => cR k r) (dH r) := by
  unfold cR
  refine Ev.ite (fun h => Ev.val ?_) (fun h => ?_)
  · unfold dH
    symm
    rw [decide_eq_false_iff_not]
    omega
  · have key := ms r (by omega) h1
    refine Ev.ite (fun h2 => key _ ?_) (fun h2 => Ev.ite (fun h3 => Ev.ite (fun h4 => key _ ?_) (fun h4 => Ev.ite (fun h5 => key _ ?_) (fun h5 => key _ ?_))) (fun h3 => Ev.ite (fun h5 => key _ ?_) (fun h5 => key _ ?_))) <;> simp <;> omega
theorem mK (r : Int) : ec r = some (kf r) := by
  unfold ec kf
  (repeat' split) <;> congr 1 <;> first | (symm; rw [decide_eq_true_iff]; omega) | (symm; rw [decide_eq_false_iff_not]; omega) | (rw [decide_eq_decide]; omega)
theorem kj (r : Int) : cS r = some (kf r) := by
  unfold cS kf
  (repeat' split) <;> congr 1 <;> first | (symm; rw [decide_eq_true_iff]; omega) | (symm; rw [decide_eq_false_iff_not]; omega) | (rw [decide_eq_decide]; omega)
theorem ki (r : Int) (h0 : 0 ≤ r) (h1 : r < 2147483648) (hn : ¬ (160 ≤ r ∧ r ≤ 55295 ∨ 63744 ≤ r ∧ r ≤ 64975 ∨ 65008 ≤ r ∧ r ≤ 65519)) : ∀ d p : Nat, p + d = 14 → 1 ≤ p → (∀ q : Int, 1 ≤ q → q < p → ¬ (q * 65536 ≤ r ∧ r ≤ q * 65536 + 65533)) →
    Ev (fun k => ba k r (p : Int)) (dH r) := by
  intro d
  induction d with
  | zero =>
    intro p hp h1p hq
    refine Ev.step (fun k => by rw [ba]) ?_
    refine ag (by omega) ?_
    have h13 : ¬ (65536 ≤ r ∧ r ≤ 917501 ∧ r % 65536 ≤ 65533) := by
      intro h
      have := hq (r / 65536) (by omega) (by omega)
      omega
    unfold dH
    refine Ev.ite (fun h => Ev.val ?_) (fun h => Ev.val ?_)
    · rw [decide_eq_decide]
      omega
    · symm
      rw [decide_eq_false_iff_not]
      omega
  | succ d ih =>
    intro p hp h1p hq
    refine Ev.step (fun k => by rw [ba]) ?_
    rw [w64 (x := (p : Int) * 65536) (by omega) (by omega), w64 (x := (p : Int) * 65536 + 65533) (by omega) (by omega), w64 (x := (p : Int) + 1) (by omega) (by omega)]
    have next : ¬ ((p : Int) * 65536 ≤ r ∧ r ≤ (p : Int) * 65536 + 65533) → Ev (fun k => ba k r ((p : Int) + 1)) (dH r) := by
      intro h
      refine ih (p + 1) (by omega) (by omega) (fun q q1 q2 => ?_)
      by_cases e : q = p
      · subst e; exact h
      · exact hq q q1 (by omega)
    refine ab (by omega) (Ev.ite (fun h => Ev.ite (fun h2 => Ev.val ?_) (fun h2 => next (fun x => h2 x.2))) (fun h => next (fun x => h x.1)))
    unfold dH
    symm
    rw [decide_eq_true_iff]
    omega
theorem kv (r : Int) (h0 : 0 ≤ r) (h1 : r < 2147483648) : Ev (fun k => db k r) (dH r) := by
  have key : ∀ b : Bool, (b = true ↔ (160 ≤ r ∧ r ≤ 55295 ∨ 63744 ≤ r ∧ r ≤ 64975 ∨ 65008 ≤ r ∧ r ≤ 65519)) → Ev (fun k => al k r b) (dH r) := by
    intro b hb
    refine Ev.step (fun k => by rw [al]) ?_
    refine Ev.ite (fun h => Ev.val ?_) (fun h => ?_)
    · have := hb.1 h
      unfold dH
      symm
      rw [decide_eq_true_iff]
      omega
    · exact ki r h0 h1 (fun x => h (hb.2 x)) 13 1 (by omega) (by omega) (fun q q1 q2 => by omega)
  unfold db
  refine Ev.ite (fun h2 => Ev.ite (fun h3 => key _ ?_) (fun h3 => Ev.ite (fun h4 => Ev.ite (fun h5 => key _ ?_) (fun h5 => Ev.ite (fun h6 => key _ ?_) (fun h6 => key _ ?_))) (fun h4 => Ev.ite (fun h6 => key _ ?_) (fun h6 => key _ ?_))))
    (fun h2 => Ev.ite (fun h4 => Ev.ite (fun h5 => key _ ?_) (fun h5 => Ev.ite (fun h6 => key _ ?_) (fun h6 => key _ ?_))) (fun h4 => Ev.ite (fun h6 => key _ ?_) (fun h6 => key _ ?_))) <;> simp <;> omega
theorem mE {r : Int} (h0 : 0 ≤ r) (h1 : r < 128) : r % 256 = r := by omega
theorem oR (p : Int) (iri : Bool) (r : Int) (h0 : 0 ≤ r) (h1 : r < 2147483648) : Ev (fun k => dN k p iri r) (ed p iri r) := by
  unfold dN ed
  refine ab (by omega) ?_
  refine Ev.step (fun k => by rw [b8]) ?_
  by_cases h : r < 128
  · rw [if_pos ⟨h0, h⟩, mE h0 h]
    refine ab (by simpa using h) ?_
    exact ax (n9 h0 (by omega)) (az _)
  · rw [if_neg (fun x => h x.2)]
    refine ag (by simpa using h) ?_
    obtain ⟨t, e⟩ := iz p
    refine bF e ?_
    simp only
    cases hp : ct p
    · refine ag (by simp) ?_
      refine Ev.step (fun k => by rw [ci]) ?_
      refine ab rfl (Ev.val ?_)
      simp
    · refine ab rfl ?_
      refine Ev.step (fun k => by rw [ci]) ?_
      cases iri
      · exact ab rfl (az _)
      · refine ag (by simp) (ax (mT r h1) ?_)
        cases hc : dH r
        · refine ag (by simp) (Ev.ite (fun h6 => ?_) (fun h6 => ?_))
          · refine bF (mK r) (Ev.val ?_)
            simp [h6]
          · exact Ev.val (by simp [h6])
        · exact ab rfl (Ev.val (by simp))
theorem nt (p : Int) (iri : Bool) (r : Int) (h0 : 0 ≤ r) (h1 : r < 2147483648) : Ev (fun k => dJ k p iri r) (ed p iri r) := by
  unfold dJ ed
  refine ab (by omega) ?_
  refine Ev.step (fun k => by rw [bN]) ?_
  by_cases h : r < 128
  · rw [if_pos ⟨h0, h⟩, mE h0 h]
    refine ab (by simpa using h) ?_
    exact ax (lg h0 (by omega)) (az _)
  · rw [if_neg (fun x => h x.2)]
    refine ag (by simpa using h) ?_
    have bad : ∀ v : Bool, v = false → Ev (fun k => bA k p r true) v := by
      intro v e
      subst e
      refine Ev.step (fun k => by rw [bA]) ?_
      exact ab rfl (az _)
    cases iri
    · exact ag (by simp) (bad _ (by simp))
    · refine ab rfl ?_
      by_cases hp : ct p = true
      · have hp2 : 1 ≤ p ∧ p ≤ 7 := by simpa [ct] using hp
        rw [hp]
        refine ag (by omega) ?_
        rw [decide_eq_false (by omega)]
        refine Ev.step (fun k => by rw [bA]) ?_
        refine ag (by simp) (ax (kv r h0 h1) ?_)
        cases hc : dH r
        · refine ag (by simp) (Ev.ite (fun h6 => ?_) (fun h6 => ?_))
          · refine bF (kj r) (Ev.val ?_)
            simp [h6]
          · exact Ev.val (by simp [h6])
        · exact ab rfl (Ev.val (by simp))
      · have hp2 : ¬ (1 ≤ p ∧ p ≤ 7) := by simpa [ct] using hp
        rw [Bool.not_eq_true] at hp
        rw [hp]
        refine Ev.ite (fun h6 => bad _ (by simp)) (fun h6 => ?_)
        rw [decide_eq_true (by omega)]
        exact bad _ (by simp)
theorem kr (t : List Int) (h : ∀ c ∈ t, 128 ≤ c ∧ c ≤ 191) : ∀ r, 0 ≤ r → t.length ≤ 3 → r < bnd t.length → 0 ≤ eu r t ∧ eu r t < 33554432 := by
  induction t with
  | nil => intro r h0 _ h1; exact ⟨h0, h1⟩
  | cons c t ih =>
    intro r h0 hl h1
    obtain ⟨c0, c1⟩ := h c (List.mem_cons_self ..)
    rw [List.length_cons] at hl h1
    have hb := iR (by omega) h0 h1 c0 c1
    exact ih (fun d hd => h d (List.mem_cons_of_mem _ hd)) _ hb.1 (by omega) hb.2.1
theorem jz (l : List Int) (hl : ∀ b ∈ l, 0 ≤ b ∧ b ≤ 255) : 0 ≤ (dec l).1 ∧ (dec l).1 < 33554432 := by
  cases l with
  | nil => simp [dec]
  | cons b t =>
    obtain ⟨b0, b1⟩ := hl b (List.mem_cons_self ..)
    rw [eh]
    have hr := eZ b
    by_cases hz : (shp b).1 = 0
    · rw [if_pos hz]; simp
    · rw [if_neg hz]
      have hm : 2 ≤ (shp b).1 → ∀ c ∈ t.take (bc ((shp b).1.toNat - 1) (shp b).2.1 (shp b).2.2 t), 128 ≤ c ∧ c ≤ 191 := fun h2 => gA _ _ _ (d8 h2).1 (d8 h2).2 _
      have hc := f7 ((shp b).1.toNat - 1) (shp b).2.1 (shp b).2.2 t
      revert hm hc
      generalize bc ((shp b).1.toNat - 1) (shp b).2.1 (shp b).2.2 t = m
      intro hm hc
      by_cases h2 : (m : Int) + 1 < (shp b).1
      · rw [if_pos h2]; simp
      · rw [if_neg h2]
        have hld := iX b0 b1 (by omega)
        simp only
        refine kr _ ?_ _ hld.1 (by rw [List.length_take]; omega) ?_
        · intro c hcc
          by_cases h2 : 2 ≤ (shp b).1
          · exact hm h2 c (by rw [show m = (shp b).1.toNat - 1 by omega]; exact hcc)
          · rw [show (shp b).1.toNat - 1 = 0 by omega] at hcc
            simp at hcc
        · refine Int.lt_of_lt_of_le hld.2 ?_
          generalize (t.take ((shp b).1.toNat - 1)).length = n
          rcases n with _ | _ | _ | n <;> simp [bnd]
theorem eR (s : ByteArray) : ∀ b ∈ aa s, 0 ≤ b ∧ b ≤ 255 := fun _ h => iG h
theorem d4 (s : ByteArray) (i : Nat) : aa (s.extract i s.size) = (aa s).drop i := by
  rw [b6, ← am, List.take_length]
theorem g5 {p : Int} {iri : Bool} {l : List Int} (hp : ct p = true) (h : bh l < 0) : a8 p iri l = if (dec l).2.2 && ed p iri (dec l).1 then (dec l).2.1.toNat else 0 := by
  unfold a8
  rw [if_pos hp, if_neg (by omega)]
theorem oe (p : Int) (iri : Bool) (s : ByteArray) (hs : s.size ≤ 140737488351232) (hp : ct p = true) : ∀ d i : Nat, i + d = s.size → Ev (fun k => bw k p iri s (i : Int)) ((i : Int) + cv p iri ((aa s).drop i)) := by
  intro d
  induction d using Nat.strongRecOn with
  | _ d ih =>
    intro i hi
    refine Ev.step (fun k => by rw [bw]) ?_
    refine Ev.ite (fun h => ?_) (fun h => ?_)
    · obtain ⟨t, e⟩ := iz p
      refine bF e ?_
      simp only
      refine ab hp (ax (kH s i (by omega) hs) ?_)
      rw [ey]
      by_cases he : bh ((aa s).drop i) < 0
      · simp only [if_pos he]
        refine ag (by simp) (ab (by omega) (ab (by omega) ?_))
        rw [Int.toNat_natCast]
        have hd := mX (s.extract i s.size) (by rw [← am, d4, List.length_drop, am]; omega)
        rw [d4] at hd
        refine ax hd ?_
        rw [g5 hp he]
        have hr := jz ((aa s).drop i) (fun b hb => eR s b (List.mem_of_mem_drop hb))
        have hn := kZ ((aa s).drop i)
        rw [List.length_drop, am] at hn
        cases hok : (dec ((aa s).drop i)).2.2
        · refine ag (by simp) (Ev.val (by simp))
        · refine ab rfl (ax (oR p iri _ hr.1 (by omega)) ?_)
          have hn1 := mV hok
          cases hm : ed p iri (dec ((aa s).drop i)).1
          · refine ag (by simp) (Ev.val (by simp))
          · refine ab rfl ?_
            rw [w64 (by omega) (by omega)]
            simp only [Bool.and_self, if_true]
            rw [if_neg (by omega), List.drop_drop]
            have := ih (s.size - (i + (dec ((aa s).drop i)).2.1.toNat)) (by omega) (i + (dec ((aa s).drop i)).2.1.toNat) (by omega)
            have e1 : ((i + (dec ((aa s).drop i)).2.1.toNat : Nat) : Int) = (i : Int) + (dec ((aa s).drop i)).2.1 := by omega
            rw [e1] at this
            have e2 : (i : Int) + (((dec ((aa s).drop i)).2.1.toNat + cv p iri ((aa s).drop (i + (dec ((aa s).drop i)).2.1.toNat)) : Nat) : Int) = (i : Int) + (dec ((aa s).drop i)).2.1 + (cv p iri ((aa s).drop (i + (dec ((aa s).drop i)).2.1.toNat)) : Int) := by omega
            rw [e2]
            exact this
      · simp only [if_neg he]
        refine ab (by simp) ?_
        have h3 : a8 p iri ((aa s).drop i) = 3 := by unfold a8; rw [if_pos hp, if_pos (by omega)]
        have hl := fZ p iri ((aa s).drop i)
        rw [h3, List.length_drop, am] at hl
        rw [h3, w64 (by omega) (by omega), if_neg (by omega), List.drop_drop]
        have := ih (s.size - (i + 3)) (by omega) (i + 3) (by omega)
        have e2 : (i : Int) + ((3 + cv p iri ((aa s).drop (i + 3)) : Nat) : Int) = ((i + 3 : Nat) : Int) + (cv p iri ((aa s).drop (i + 3)) : Int) := by omega
        rw [e2]
        exact this
    · rw [List.drop_of_length_le (by rw [am]; omega), ko]
      exact Ev.val (by simp)
theorem oH (p : Int) (iri : Bool) (s : ByteArray) (hs : s.size ≤ 140737488351232) : Ev (fun k => cV k p iri s) (cv p iri (aa s) : Int) := by
  unfold cV
  by_cases hp : ct p = true
  · have := oe p iri s hs hp s.size 0 (by omega)
    simpa using this
  · have hz : a8 p iri (aa s) = 0 := by unfold a8; rw [if_neg hp]
    rw [ey, if_pos hz]
    refine Ev.step (fun k => by rw [bw]) ?_
    obtain ⟨t, e⟩ := iz p
    refine Ev.ite (fun h => bF e ?_) (fun h => az _)
    exact ag hp (az _)
theorem oO (p : Int) (iri : Bool) (s : ByteArray) (hs : s.size ≤ 140737488351232) : Ev (fun k => dq k p iri s) (cf p iri (aa s)) := by
  unfold dq
  refine ax (oH p iri s hs) (Ev.val ?_)
  unfold cf
  rw [am, Bool.eq_iff_iff, beq_iff_eq, beq_iff_eq]
  omega
theorem mL (p : Int) (iri : Bool) (s : ByteArray) (i : Nat) (hi : i ≤ s.size) (hs : s.size ≤ 140737488351232) : Ev (fun k => cP k p iri s (i : Int)) (a8 p iri ((aa s).drop i) : Int) := by
  unfold cP
  have bad : ct p = false → Ev (fun k => bg k p iri s (i : Int) true) (a8 p iri ((aa s).drop i) : Int) := by
    intro hp
    refine Ev.step (fun k => by rw [bg]) ?_
    unfold a8
    rw [if_neg (by rw [hp]; simp)]
    exact ab rfl (az _)
  refine Ev.ite (fun h => bad (by simp [ct]; omega)) (fun h => ?_)
  by_cases h7 : p > 7
  · rw [decide_eq_true h7]
    exact bad (by simp [ct]; omega)
  · rw [decide_eq_false h7]
    have hp : ct p = true := by simp [ct]; omega
    refine Ev.step (fun k => by rw [bg]) ?_
    refine ag (by simp) (ax (kM s i hi hs) ?_)
    by_cases he : bh ((aa s).drop i) < 0
    · refine ag (by omega) (ab (by omega) (ab (by omega) ?_))
      rw [Int.toNat_natCast]
      have hd := kw (s.extract i s.size) (by rw [← am, d4, List.length_drop, am]; omega)
      rw [d4] at hd
      refine ax hd ?_
      rw [g5 hp he]
      have hr := jz ((aa s).drop i) (fun b hb => eR s b (List.mem_of_mem_drop hb))
      have hn := kZ ((aa s).drop i)
      cases hok : (dec ((aa s).drop i)).2.2
      · exact ag (by simp) (Ev.val (by simp))
      · refine ab rfl (ax (nt p iri _ hr.1 (by omega)) ?_)
        cases hm : ed p iri (dec ((aa s).drop i)).1
        · exact ag (by simp) (Ev.val (by simp))
        · refine ab rfl (Ev.val ?_)
          simp only [Bool.and_self, if_true]
          omega
    · refine ab (by omega) (Ev.val ?_)
      unfold a8
      rw [if_pos hp, if_pos (by omega)]
      rfl
theorem kl (p : Int) (iri : Bool) (s : ByteArray) (hs : s.size ≤ 140737488351232) : ∀ d i : Nat, i + d = s.size → Ev (fun k => bH k p iri s (i : Int)) ((i : Int) + cv p iri ((aa s).drop i)) := by
  intro d
  induction d using Nat.strongRecOn with
  | _ d ih =>
    intro i hi
    refine Ev.step (fun k => by rw [bH]) ?_
    rw [ey]
    refine Ev.ite (fun h => ?_) (fun h => ?_)
    · have hst := mL p iri s i (by omega) hs
      refine ax hst ?_
      refine Ev.ite (fun h1 => ?_) (fun h1 => ?_)
      · refine ax hst ?_
        have hl := fZ p iri ((aa s).drop i)
        rw [List.length_drop, am] at hl
        rw [if_neg (by omega), List.drop_drop, w64 (by omega) (by omega)]
        have := ih (s.size - (i + a8 p iri ((aa s).drop i))) (by omega) (i + a8 p iri ((aa s).drop i)) (by omega)
        have e2 : (i : Int) + ((a8 p iri ((aa s).drop i) + cv p iri ((aa s).drop (i + a8 p iri ((aa s).drop i))) : Nat) : Int) = ((i + a8 p iri ((aa s).drop i) : Nat) : Int) + (cv p iri ((aa s).drop (i + a8 p iri ((aa s).drop i))) : Int) := by omega
        rw [e2]
        exact this
      · rw [if_pos (by omega)]
        exact Ev.val (by simp)
    · rw [List.drop_of_length_le (by rw [am]; omega), if_pos (nz p iri)]
      exact Ev.val (by simp)
theorem ky (p : Int) (iri : Bool) (s : ByteArray) (hs : s.size ≤ 140737488351232) : Ev (fun k => cO k p iri s) (cv p iri (aa s) : Int) := by
  unfold cO
  have := kl p iri s hs s.size 0 (by omega)
  simpa using this
end Go.Proofs.YtmofhijbheimmaaDoor.Y
namespace Go.Proofs.YtmofhijbheimmaaDoor.Y
open Go.RowKit Go.Proofs.YtmofhijbheimmaaDoor.X Go.Proofs.YtmofhijbheimmaaDoor.M Go.Proofs.YtmofhijbheimmaaDoorW.PrintWords Go.Proofs.YtmofhijbheimmaaDoorW.PrintLast Go.Proofs.YtmofhijbheimmaaDoorW.PrintMore
theorem nT (s : ByteArray) (hs : s.size ≤ 1000000) : ∀ d i : Nat, i + d = s.size → Ev (fun k => dP k s (i : Int)) (dw i ((aa s).drop i)) := by
  intro d
  induction d using Nat.strongRecOn with
  | _ d ih =>
    intro i hi
    refine Ev.step (fun k => by rw [dP]) ?_
    rcases cg s i (by omega) with ⟨h1, e⟩ | ⟨h1, e, _, _⟩
    · rw [e, hX]
      exact ag (by omega) (az _)
    · refine ab (by omega) (ax (kH s i (by omega) (by omega)) ?_)
      by_cases h : 0 ≤ bh ((aa s).drop i)
      · rw [if_neg (by omega), hU h, List.drop_drop]
        have h3 : i + 3 ≤ s.size := by
          have : ¬ ((aa s).drop i).length < 3 := fun hl => by rw [d5 hl] at h; omega
          rw [List.length_drop, am] at this; omega
        exact ab rfl (ax (ih (d - 3) (by omega) (i + 3) (by omega)) (az _))
      · rw [if_pos (by omega)]
        rw [e] at h ⊢
        rw [it (by omega)]
        exact ag (by simp) (ih (d - 1) (by omega) (i + 1) (by omega))
theorem mA (t : ByteArray) (n : Nat) (hn : n ≤ t.size) (hs : t.size ≤ 1000000) : ∃ j : Int, Ev (fun k => b9 k t (n : Int) (⟨#[37]⟩ : ByteArray)) j ∧ (j < 0 ↔ ((aa t).drop n).contains 37 = false) := by
  refine ⟨_, oA t (⟨#[37]⟩ : ByteArray) n hn (by omega) (by decide), ?_⟩
  have hb : aa (⟨#[37]⟩ : ByteArray) = [37] := rfl
  have hg := jl (fun b => (aa (⟨#[37]⟩ : ByteArray)).contains b) ((aa t).drop n)
  have hh := mz (p := fun b => (aa (⟨#[37]⟩ : ByteArray)).contains b) (l := (aa t).drop n)
  have hc : ((aa t).drop n).contains 37 = false ↔ ∀ b ∈ (aa t).drop n, (aa (⟨#[37]⟩ : ByteArray)).contains b = false := by
    rw [hb]
    simp only [List.contains_eq_mem, List.mem_singleton, decide_eq_false_iff_not]
    exact ⟨fun h b hb e => h (e ▸ hb), fun h hm => h 37 hm rfl⟩
  rw [hc, ← hh]
  generalize dM (fun b => (aa (⟨#[37]⟩ : ByteArray)).contains b) ((aa t).drop n) = j at hg ⊢
  dsimp only
  split <;> omega
theorem my (s : ByteArray) (hs : s.size ≤ 1000000) : ∀ d i : Nat, i + d = s.size → ∀ p : Nat, p ≤ i → (∀ j, p ≤ j → j < i → bh ((aa s).drop j) < 0) → Ev (fun k => cY k s (dw i ((aa s).drop i)) (p : Int)) (bV ((aa s).drop p)) := by
  intro d
  induction d using Nat.strongRecOn with
  | _ d ih =>
    intro i hi p hp hno
    have hl := am s
    have ha := iQ (aa s) p (i - p) (by omega) (fun j h1 h2 => hno j h1 (by omega))
    rw [show p + (i - p) = i by omega] at ha
    rcases cg s i (by omega) with ⟨h1, e⟩ | ⟨h1, e, _, _⟩
    · rw [e] at ha ⊢
      rw [hX, ha, ia, Bool.and_true, List.take_of_length_le (by rw [List.length_drop]; omega)]
      obtain ⟨j, hj, hc⟩ := mA s p (by omega) hs
      refine ax hj (Ev.val ?_)
      cases hb : ((aa s).drop p).contains 37 with
      | false => simpa using hc.2 hb
      | true => rw [hb] at hc; simp at hc; simpa using hc
    · by_cases h : 0 ≤ bh ((aa s).drop i)
      · have h3 : i + 3 ≤ s.size := by
          have : ¬ ((aa s).drop i).length < 3 := fun hl => by rw [d5 hl] at h; omega
          rw [List.length_drop, am] at this; omega
        rw [hU h, List.drop_drop, ha, fS h, List.drop_drop]
        obtain ⟨j, hj, hc⟩ := mA (s.extract p i) 0 (by omega) (by rw [← am, b6, List.length_drop, List.length_take]; omega)
        rw [List.drop_zero, b6, List.drop_take] at hc
        have hex : (s.extract (p : Int).toNat (i : Int).toNat) = s.extract p i := by simp
        unfold cY
        refine ab (by omega) ?_
        rw [hex]
        refine ax hj ?_
        cases hb : (((aa s).drop p).take (i - p)).contains 37 with
        | false =>
          have := hc.2 hb
          refine ag (by omega) ?_
          rw [Bool.not_false, Bool.true_and]
          exact ih (d - 3) (by omega) (i + 3) (by omega) (i + 3) (by omega) (fun j h1 h2 => by omega)
        | true =>
          rw [hb] at hc
          have hj : ¬ j < 0 := fun h => by have := hc.1 h; cases this
          exact ab (by omega) (az _)
      · have hn : bh (bt s (i : Int) :: (aa s).drop (i + 1)) < 0 := by rw [← e]; omega
        rw [e, it hn]
        refine ih (d - 1) (by omega) (i + 1) (by omega) p (by omega) (fun j h1 h2 => ?_)
        rcases Nat.lt_or_ge j i with h3 | h3
        · exact hno j h1 h3
        · rw [show j = i by omega]; omega
theorem na (s : ByteArray) (hs : s.size ≤ 1000000) : ∀ d i : Nat, i + d = s.size → ∀ p : Nat, p ≤ i → (∀ j, p ≤ j → j < i → bh ((aa s).drop j) < 0) → ∀ out : List Int, out.length ≤ p → e9 s (dw i ((aa s).drop i)) (p : Int) out = some (out ++ cd ((aa s).drop p)) := by
  intro d
  induction d using Nat.strongRecOn with
  | _ d ih =>
    intro i hi p hp hno out ho
    have hl := am s
    have ha := jy (aa s) p (i - p) (by omega) (fun j h1 h2 => hno j h1 (by omega))
    rw [show p + (i - p) = i by omega] at ha
    rcases cg s i (by omega) with ⟨h1, e⟩ | ⟨h1, e, _, _⟩
    · rw [e] at ha ⊢
      rw [hX, ha, fk, List.append_nil, List.take_of_length_le (by rw [List.length_drop]; omega)]
      unfold e9
      rw [if_pos ⟨by omega, by omega, by omega⟩, Int.toNat_natCast, d4]
    · by_cases h : 0 ≤ bh ((aa s).drop i)
      · have h3 : i + 3 ≤ s.size := by
          have : ¬ ((aa s).drop i).length < 3 := fun hl => by rw [d5 hl] at h; omega
          rw [List.length_drop, am] at this; omega
        have hr := fQ ((aa s).drop i)
        rw [hU h, List.drop_drop, ha, fj h, List.drop_drop]
        unfold e9
        rw [if_pos ⟨by omega, by omega, by omega, by omega, by omega, by omega⟩]
        have := ih (d - 3) (by omega) (i + 3) (by omega) (i + 3) (by omega) (fun j h1 h2 => by omega) (out ++ aa (s.extract p i) ++ [bh ((aa s).drop i)]) (by
          rw [List.length_append, List.length_append, b6, List.length_drop, List.length_take, List.length_singleton]; omega)
        rw [Int.toNat_natCast, Int.toNat_natCast]
        refine this.trans ?_
        rw [b6, List.drop_take]
        simp
      · have hn : bh (bt s (i : Int) :: (aa s).drop (i + 1)) < 0 := by rw [← e]; omega
        rw [e, it hn]
        refine ih (d - 1) (by omega) (i + 1) (by omega) p (by omega) (fun j h1 h2 => ?_) out ho
        rcases Nat.lt_or_ge j i with h3 | h3
        · exact hno j h1 h3
        · rw [show j = i by omega]; omega
theorem ku (s : ByteArray) (hs : s.size ≤ 1000000) : Ev (fun k => cE k s) (if bV (aa s) then (strOfNums (cd (aa s)), true) else ((⟨#[]⟩ : ByteArray), false)) := by
  unfold cE
  have h1 := nT s hs s.size 0 (by omega)
  have h2 := my s hs s.size 0 (by omega) 0 (by omega) (fun j _ h => by omega)
  have h3 := na s hs s.size 0 (by omega) 0 (by omega) (fun j _ h => by omega) [] (by simp)
  rw [List.drop_zero] at h1 h2 h3
  refine ab hs (ax h1 (ax h2 ?_))
  cases bV (aa s) with
  | true => exact ab rfl (bF h3 (az _))
  | false => exact ag (by simp) (az _)
set_option maxRecDepth 100000 in
theorem nV {b : Int} (h0 : 0 ≤ b) (h1 : b ≤ 255) : Ev (fun k => dL k b) (strOfNums (f8 b)) :=
  gy (fun k => fm b k) (k := 12) (cD (p := fun b => (dL 12 b).map aa = some (f8 b)) (by decide +kernel) h0 h1 |> fun h => by
    obtain ⟨x, hx, e⟩ := Option.map_eq_some_iff.1 h
    rw [hx, jd e])
theorem hC {b : Int} (h0 : 0 ≤ b) (h1 : b ≤ 255) : ∀ c ∈ f8 b, 0 ≤ c ∧ c ≤ 255 := by
  have a := gQ (d := b / 16) (by omega) (by omega)
  have c := gQ (d := b % 16) (by omega) (by omega)
  intro x hx
  simp only [f8, List.mem_cons, List.not_mem_nil, or_false] at hx
  rcases hx with rfl | rfl | rfl <;> omega
theorem fP {keep : Int → Bool} : ∀ l : List Int, (∀ b ∈ l, 0 ≤ b ∧ b ≤ 255) → ∀ c ∈ bz keep l, 0 ≤ c ∧ c ≤ 255
  | [], _ => by intro c hc; cases hc
  | b :: t, h => by
    have hb := h b (List.mem_cons_self ..)
    have ih := fP (keep := keep) t (fun c hc => h c (List.mem_cons_of_mem _ hc))
    rw [eS]
    intro c hc
    rcases List.mem_append.1 hc with hc | hc
    · by_cases e : keep b = true
      · rw [if_pos e] at hc
        rw [List.mem_singleton.1 hc]; exact hb
      · rw [if_neg e] at hc
        exact hC hb.1 hb.2 c hc
    · exact ih c hc
theorem od (s : ByteArray) (hs : s.size ≤ 1000000) : ∀ d i : Nat, i + d = s.size → ∀ x : ByteArray, x.size ≤ i → Ev (fun k => aV k s 0 true false x (i : Int)) (strOfNums (aa x ++ cd ((aa s).drop i))) := by
  intro d
  induction d using Nat.strongRecOn with
  | _ d ih =>
    intro i hi x hx
    refine Ev.step (fun k => by rw [aV]) ?_
    rcases cg s i (by omega) with ⟨h1, e⟩ | ⟨h1, e, hb0, hb1⟩
    · rw [e, fk, List.append_nil, mP]
      exact ag (by omega) (az _)
    · refine ab (by omega) (ax (kM s i (by omega) (by omega)) ?_)
      by_cases h : 0 ≤ bh ((aa s).drop i)
      · have h3 : i + 3 ≤ s.size := by
          have : ¬ ((aa s).drop i).length < 3 := fun hl => by rw [d5 hl] at h; omega
          rw [List.length_drop, am] at this; omega
        have hr := fQ ((aa s).drop i)
        rw [fj h, List.drop_drop]
        generalize bh ((aa s).drop i) = v at h hr
        refine ag (by omega) (ab rfl (Ev.step (fun k => by rw [cm]) (ab rfl (bF rfl ?_))))
        have hv : v % 256 = v := by omega
        rw [hv]
        have hsz : (strOfNums [v]).size = 1 := ib (l := [v]) (by intro b hb; rw [List.mem_singleton.1 hb]; omega)
        refine ab (by omega) ?_
        rw [show wrap64 ((i : Int) + 3) = ((i + 3 : Nat) : Int) by rw [w64 (by omega) (by omega)]; omega]
        have := ih (d - 3) (by omega) (i + 3) (by omega) (x ++ strOfNums [v]) (by rw [ByteArray.size_append, hsz]; omega)
        rw [e8, dW (l := [v]) (by intro b hb; rw [List.mem_singleton.1 hb]; omega)] at this
        simpa using this
      · have hn : bh (bt s (i : Int) :: (aa s).drop (i + 1)) < 0 := by rw [← e]; omega
        rw [e, fW hn]
        refine ab hn ?_
        have hw : wrap64 ((i : Int) + 1) = ((i + 1 : Nat) : Int) := by rw [w64 (by omega) (by omega)]; omega
        rw [hw, Int.toNat_natCast, Int.toNat_natCast]
        have hb : aa (s.extract i (i + 1)) = [bt s (i : Int)] := by
          rw [b6, List.drop_take, e, show i + 1 - i = 1 by omega]; rfl
        have hsz : (s.extract i (i + 1)).size = 1 := by rw [← am, hb]; rfl
        refine ab (by omega) (ab (by omega) (ab (by omega) (ab (by omega) ?_)))
        have := ih (d - 1) (by omega) (i + 1) (by omega) (x ++ s.extract i (i + 1)) (by rw [ByteArray.size_append, hsz]; omega)
        rw [e8, hb] at this
        simpa using this
theorem oG (s : ByteArray) (hs : s.size ≤ 1000000) : Ev (fun k => eb k s 0 true false) (strOfNums (cd (aa s))) := by
  have := od s hs s.size 0 (by omega) (⟨#[]⟩ : ByteArray) (by decide)
  exact this
end Go.Proofs.YtmofhijbheimmaaDoor.Y
namespace Go.Proofs.YtmofhijbheimmaaDoor.Y
open Go.RowKit Go.Proofs.YtmofhijbheimmaaDoor.X Go.Proofs.YtmofhijbheimmaaDoor.M Go.Proofs.YtmofhijbheimmaaDoorW.PrintWords Go.Proofs.YtmofhijbheimmaaDoorW.PrintLast Go.Proofs.YtmofhijbheimmaaDoorW.PrintMore
theorem og (s sep : ByteArray) (c : Int) (hsep : aa sep = [c]) (hs : s.size < 4294967281) : ∃ R : List ByteArray, dK s sep = some R ∧ R.map aa = aW c (aa s) := by
  have h1 : sep.size = 1 := by rw [← am, hsep]; rfl
  refine ⟨_, ?_, jP c sep hsep _ s rfl⟩
  unfold dK
  rw [if_pos ⟨hs, by omega⟩]
theorem j8 (pre : List ByteArray) (x : ByteArray) : aG ByteArray.empty (pre ++ [x]) (((pre ++ [x]).length : Int) - 1) = x := by
  unfold aG
  rw [List.length_append, List.length_singleton]
  have : (((pre.length + 1 : Nat) : Int) - 1).toNat = pre.length := by omega
  rw [this]
  simp
theorem nn (s : ByteArray) (c : Int) (hs : s.size ≤ 1000000) : ∀ d i : Nat, i + d = s.size → ∀ (pre : List ByteArray) (x : ByteArray), pre.length ≤ i → x.size ≤ i →
    ∃ R, Ev (fun k => aH k s c (pre ++ [x]) (i : Int)) R ∧ R.map aa = pre.map aa ++ (aa x ++ (aW c ((aa s).drop i)).headD []) :: (aW c ((aa s).drop i)).tail := by
  intro d
  induction d with
  | zero =>
    intro i hi pre x hp hx
    refine ⟨pre ++ [x], ?_, ?_⟩
    · refine Ev.step (fun k => by rw [aH]) ?_
      exact ag (by omega) (az _)
    · rw [List.drop_of_length_le (by rw [am]; omega)]
      simp [aW]
  | succ d ih =>
    intro i hi pre x hp hx
    rcases cg s i (by omega) with ⟨h, _⟩ | ⟨h, e, b0, b1⟩
    · omega
    rw [e, dr]
    by_cases hb : bt s (i : Int) = c
    · obtain ⟨R, h1, h2⟩ := ih (i + 1) (by omega) (pre ++ [x]) (⟨#[]⟩ : ByteArray) (by rw [List.length_append]; simp; omega) (by show 0 ≤ _; omega)
      refine ⟨R, ?_, ?_⟩
      · refine Ev.step (fun k => by rw [aH]) ?_
        refine ab (by omega) (ab (by omega) (ab hb (ab (by rw [List.length_append]; simp; omega) ?_)))
        rw [w64 (by omega) (by omega)]
        exact h1
      · rw [h2, if_pos hb]
        have : aa (⟨#[]⟩ : ByteArray) = [] := rfl
        rw [this, List.map_append]
        simp only [List.map_cons, List.map_nil, List.nil_append, List.headD_cons, List.tail_cons, List.append_nil, List.append_assoc, List.singleton_append]
        rw [← gN]
    · have hx1 : (s.extract i (i + 1)).size = 1 := by rw [← am, b6, List.length_drop, List.length_take, am]; omega
      have hsz : (x ++ s.extract i (i + 1)).size = x.size + 1 := by
        rw [ByteArray.size_append, hx1]
      obtain ⟨R, h1, h2⟩ := ih (i + 1) (by omega) pre (x ++ s.extract i (i + 1)) (by omega) (by omega)
      refine ⟨R, ?_, ?_⟩
      · refine Ev.step (fun k => by rw [aH]) ?_
        have hl : (pre ++ [x]).length = pre.length + 1 := by simp
        rw [w64 (x := ((pre ++ [x]).length : Int) - 1) (by omega) (by omega), w64 (x := (i : Int) + 1) (by omega) (by omega), j8]
        have e1 : ((i : Int) + 1).toNat = i + 1 := by omega
        have e2 : (((pre ++ [x]).length : Int) - 1).toNat = pre.length := by omega
        rw [e1, e2, Int.toNat_natCast, hx1]
        refine ab (by omega) (ab (by omega) (ag hb (ab (by omega) (ab (by omega) (ab (by omega) (ab (by omega) (ab (by omega) ?_)))))))
        have e3 : (pre ++ [x]).set pre.length (x ++ s.extract i (i + 1)) = pre ++ [x ++ s.extract i (i + 1)] := by simp
        rw [e3]
        exact h1
      · rw [h2, if_neg hb, e8, b6]
        have : ((aa s).take (i + 1)).drop i = [bt s (i : Int)] := by
          rw [List.drop_take, e, show i + 1 - i = 1 by omega, List.take_succ_cons, List.take_zero]
        rw [this]
        simp
theorem n8 (s : ByteArray) (c : Int) (hs : s.size ≤ 1000000) : ∃ R, Ev (fun k => d6 k s c) R ∧ R.map aa = aW c (aa s) := by
  obtain ⟨R, h1, h2⟩ := nn s c hs s.size 0 (by omega) [] (⟨#[]⟩ : ByteArray) (by simp) (by show 0 ≤ _; omega)
  refine ⟨R, h1, ?_⟩
  rw [h2, List.drop_zero]
  have : aa (⟨#[]⟩ : ByteArray) = [] := rfl
  rw [this]
  simp only [List.map_nil, List.nil_append]
  rw [← gN]
end Go.Proofs.YtmofhijbheimmaaDoor.Y
namespace Go.Proofs.YtmofhijbheimmaaDoor.Y
open Go.RowKit Go.Proofs.YtmofhijbheimmaaDoor.X Go.Proofs.YtmofhijbheimmaaDoor.M Go.Proofs.YtmofhijbheimmaaDoorW.PrintWords Go.Proofs.YtmofhijbheimmaaDoorW.PrintLast Go.Proofs.YtmofhijbheimmaaDoorW.PrintMore
def cB (b : Int) : Bool := isc b 15 || b == 58 || b == 64
set_option maxRecDepth 100000 in
theorem ni : ∀ b, 0 ≤ b → b ≤ 255 → cB b = true → b < 128 ∧ b ≠ 37 ∧ cA 5 b = true := by
  intro b h0 h1
  have := cD (p := fun b => cB b = true → b < 128 ∧ b ≠ 37 ∧ cA 5 b = true) (by decide +kernel) h0 h1
  exact this
theorem ng : cB 37 = false := by decide
theorem nh : cB 47 = false := by decide
theorem mu (s : ByteArray) (hs : s.size ≤ 1000000) : ∀ d i : Nat, i + d = s.size → ∀ x : List Int, x = bz cB ((aa s).take i) → Ev (fun k => aJ k s x (s.size : Int) (i : Int)) (strOfNums (bz cB (aa s))) := by
  intro d
  induction d with
  | zero =>
    intro i hi x hx
    refine Ev.step (fun k => by rw [aJ]) ?_
    rw [List.take_of_length_le (by rw [am]; omega)] at hx
    rw [hx]
    exact ag (by omega) (az _)
  | succ d ih =>
    intro i hi x hx
    refine Ev.step (fun k => by rw [aJ]) ?_
    have hb := e7 s (i : Int)
    have hw : wrap64 ((i : Int) + 1) = ((i + 1 : Nat) : Int) := by rw [w64 (by omega) (by omega)]; omega
    have hlen : x.length ≤ 3 * i := by
      rw [hx]
      have := iS (keep := cB) ((aa s).take i)
      rw [List.length_take] at this; omega
    have hnext : bz cB ((aa s).take (i + 1)) = x ++ (if cB (bt s (i : Int)) then [bt s (i : Int)] else f8 (bt s (i : Int))) := by
      rw [mQ (by omega), hx]
      unfold bz
      rw [List.flatMap_append]
      simp
    rw [hw]
    refine ab (by omega) (ab (by omega) (ab (by omega) (ax (oV 15 hb.1 hb.2) ?_)))
    have hks : cB (bt s (i : Int)) = (isc (bt s (i : Int)) 15 || bt s (i : Int) == 58 || bt s (i : Int) == 64) := rfl
    by_cases h1 : isc (bt s (i : Int)) 15 = true
    · refine ab h1 (ab (by omega) (ih (i + 1) (by omega) _ ?_))
      rw [hnext, hks, h1]; rfl
    · rw [Bool.not_eq_true] at h1
      refine ag (by rw [h1]; simp) ?_
      by_cases h2 : bt s (i : Int) = 58
      · refine ab h2 (ab (by omega) (ih (i + 1) (by omega) _ ?_))
        rw [hnext, hks, h2]; simp
      · refine ag h2 ?_
        by_cases h3 : bt s (i : Int) = 64
        · refine ab h3 (ab (by omega) (ih (i + 1) (by omega) _ ?_))
          rw [hnext, hks, h3]; simp
        · refine ag h3 (ax (nV hb.1 hb.2) ?_)
          rw [ib (hC hb.1 hb.2), dW (hC hb.1 hb.2)]
          have e3 : (f8 (bt s (i : Int))).length = 3 := rfl
          refine ab (by omega) (ih (i + 1) (by omega) _ ?_)
          rw [hnext, hks, h1, beq_eq_false_iff_ne.2 h2, beq_eq_false_iff_ne.2 h3]; rfl
theorem mY (s : ByteArray) (hs : s.size ≤ 1000000) : Ev (fun k => dG k s) (strOfNums (bz cB (aa s))) := mu s hs s.size 0 (by omega) [] rfl
theorem oB (P : List ByteArray) (sep : ByteArray) (c : UInt8) (hsep : sep.data.toList = [c]) (l : List Int) (hl : jn (c.toNat : Int) (P.map aa) = l) (hs : l.length ≤ 100000000000000) (hp : P.length ≤ 100000000000000) : dT P sep = some (strOfNums l) := by
  have e : ((Go.Lib.join (P.map (·.data.toList)) sep.data.toList)).map (fun b => (b.toNat : Int)) = l := by
    rw [hsep, kK, List.map_map]
    exact hl
  have e2 : (Go.Lib.join (P.map (·.data.toList)) sep.data.toList).length = l.length := by rw [← e, List.length_map]
  unfold dT
  rw [if_pos ⟨by omega, by omega⟩]
  exact congrArg some (jd e)
def er (L : List (List Int)) : Nat := (L.map List.length).sum + L.length
theorem nF (c : Int) (L : List (List Int)) : (jn c L).length ≤ er L := by
  cases L with
  | nil => simp [jn, er]
  | cons a L =>
    have := mC c (a :: L) (by simp)
    unfold er; omega
theorem jo (keep : Int → Bool) : ∀ L : List (List Int), er (L.map (bz keep)) ≤ 3 * er L
  | [] => by simp [er]
  | a :: L => by
    have ih := jo keep L
    have := iS (keep := keep) a
    unfold er at ih ⊢
    simp only [List.map_cons, List.sum_cons, List.length_cons, List.length_map] at ih ⊢
    omega
theorem oh (L : List (List Int)) : L.length ≤ er L := by unfold er; omega
theorem ol {L : List (List Int)} : ∀ p ∈ L, p.length ≤ er L := by
  induction L with
  | nil => intro p hp; cases hp
  | cons a L ih =>
    intro p hp
    unfold er at ih ⊢
    simp only [List.map_cons, List.sum_cons, List.length_cons]
    rcases List.mem_cons.1 hp with rfl | hp
    · omega
    · have := ih p hp; omega
theorem gm {R : List ByteArray} {i : Nat} (h : i < R.length) : aG ByteArray.empty R (i : Int) = R[i] := by
  unfold aG
  rw [Int.toNat_natCast, List.getD_eq_getElem?_getD, List.getElem?_eq_getElem h]; rfl
theorem oo (r : Bool) (R : List ByteArray) (hS : er (R.map aa) ≤ 1000000) : ∀ d i : Nat, i + d = R.length → ∀ x : List ByteArray, x.map aa = ((R.map aa).take i).map (bz cB) →
    Ev (fun k => aY k x R (R.length : Int) (i : Int) r R) (strOfNums (fu cB (r, R.map aa))) := by
  have hlen := oh (R.map aa)
  rw [List.length_map] at hlen
  have hrange : ∀ p ∈ R.map aa, ∀ b ∈ p, 0 ≤ b ∧ b ≤ 255 := by
    intro p hp; obtain ⟨s, _, rfl⟩ := List.mem_map.1 hp; exact eR s
  intro d
  induction d with
  | zero =>
    intro i hi x hx
    refine Ev.step (fun k => by rw [aY]) ?_
    rw [List.take_of_length_le (by rw [List.length_map]; omega)] at hx
    have hxl : x.length = R.length := by have := congrArg List.length hx; simpa using this
    have h1 := nF 47 ((R.map aa).map (bz cB))
    have h2 := jo cB (R.map aa)
    have hjr : ∀ b ∈ jn 47 ((R.map aa).map (bz cB)), 0 ≤ b ∧ b ≤ 255 := iT (by decide) (fun p hp => by
      obtain ⟨q, hq, rfl⟩ := List.mem_map.1 hp
      exact fP q (hrange q hq))
    refine ag (by omega) (bF (oB x _ 47 rfl (jn 47 ((R.map aa).map (bz cB))) (by rw [hx]; rfl) (by omega) (by omega)) ?_)
    have hsz := ib hjr
    cases r with
    | true =>
      refine ab rfl (ab (by omega) (Ev.val ?_))
      refine jd ?_
      rw [e8, dW hjr]; rfl
    | false => exact ag (by simp) (az _)
  | succ d ih =>
    intro i hi x hx
    refine Ev.step (fun k => by rw [aY]) ?_
    have hxl : x.length = i := by
      have := congrArg List.length hx
      rw [List.length_map, List.length_map, List.length_take, List.length_map] at this; omega
    have hw : wrap64 ((i : Int) + 1) = ((i + 1 : Nat) : Int) := by rw [w64 (by omega) (by omega)]; omega
    rw [hw, gm (i := i) (by omega)]
    have hm : aa R[i] ∈ R.map aa := List.mem_map.2 ⟨_, List.getElem_mem _, rfl⟩
    have hseg := ol _ hm
    rw [am] at hseg
    refine ab (by omega) (ab (by omega) (ab (by omega) (ax (mY R[i] (by omega)) (ab (by omega) ?_))))
    refine ih (i + 1) (by omega) _ ?_
    rw [List.map_append, hx, List.take_add_one, List.map_append, List.getElem?_map, List.getElem?_eq_getElem (by omega)]
    show _ ++ [aa (strOfNums _)] = _ ++ [bz cB (aa R[i])]
    rw [dW (fP _ (eR _))]
theorem oJ (r : Bool) (R : List ByteArray) (hS : er (R.map aa) ≤ 1000000) : Ev (fun k => b5 k r R) (strOfNums (fu cB (r, R.map aa))) :=
  oo r R hS R.length 0 (by omega) [] rfl
theorem nm (r : Bool) (R : List ByteArray) (hR : R.length ≤ 1000000) (h : ∀ s ∈ R, s.size ≤ 1000000 ∧ bV (aa s) = true) : ∀ d i : Nat, i + d = R.length → ∀ x : List ByteArray, x = (R.take i).map (fun s => strOfNums (cd (aa s))) →
    Ev (fun k => bE k R (R.length : Int) (i : Int) r x) (r, R.map (fun s => strOfNums (cd (aa s))), 0) := by
  intro d
  induction d with
  | zero =>
    intro i hi x hx
    refine Ev.step (fun k => by rw [bE]) ?_
    rw [List.take_of_length_le (by omega)] at hx
    rw [hx]
    exact ag (by omega) (az _)
  | succ d ih =>
    intro i hi x hx
    refine Ev.step (fun k => by rw [bE]) ?_
    have hw : wrap64 ((i : Int) + 1) = ((i + 1 : Nat) : Int) := by rw [w64 (by omega) (by omega)]; omega
    have hxl : x.length = i := by rw [hx, List.length_map, List.length_take]; omega
    rw [hw, gm (i := i) (by omega)]
    obtain ⟨h1, h2⟩ := h R[i] (List.getElem_mem _)
    have hd := ku R[i] h1
    rw [h2, if_pos rfl] at hd
    refine ab (by omega) (ab (by omega) (ab (by omega) (ax hd (ab (by omega) (ih (i + 1) (by omega) _ ?_)))))
    rw [hx, List.take_add_one, List.map_append, List.getElem?_eq_getElem (by omega)]; rfl
theorem ke (r : Bool) (s : ByteArray) (hs : s.size ≤ 200000) (hr : bV (aa s) = true) : Ev (fun k => bC k s r) (r, ((aW 47 (aa s)).map cd).map strOfNums, 0) := by
  obtain ⟨R, hR, hm⟩ := og s (⟨#[47]⟩ : ByteArray) 47 rfl (by omega)
  have hl : R.length ≤ s.size + 1 := by
    have := congrArg List.length hm
    have h2 := fT 47 (aa s)
    rw [List.length_map] at this
    rw [am] at h2; omega
  refine Ev.step (fun k => by rw [bC]) (bF hR ?_)
  have hall : ∀ p ∈ R, p.size ≤ 1000000 ∧ bV (aa p) = true := by
    intro p hp
    have hq : aa p ∈ aW 47 (aa s) := by rw [← hm]; exact List.mem_map.2 ⟨p, hp, rfl⟩
    have h3 := (fU _ hq).2.2
    rw [am, am] at h3
    exact ⟨by omega, kA _ _ rfl hr _ hq⟩
  have := nm r R (by omega) hall R.length 0 (by omega) [] rfl
  rw [← hm, List.map_map, List.map_map]
  exact this
theorem kL (s : ByteArray) (hs : s.size ≤ 200000) : Ev (fun k => ca k s) (if cf 5 true (aa s) then ((bM (aa s)).1, (bM (aa s)).2.map strOfNums, 0) else (false, [], 4)) := by
  unfold ca
  refine ax (oO 5 true s (by omega)) ?_
  cases ha : cf 5 true (aa s) with
  | false => exact ag (by simp) (az _)
  | true =>
    have hr := kt (by decide) (by decide) _ _ rfl (eR s) ha
    refine ab rfl ?_
    rcases dZ s with ⟨h, e⟩ | ⟨h, e, _, _⟩
    · have : s = (⟨#[]⟩ : ByteArray) := fw e
      subst this
      exact ab ((dt _).trans rfl) (az _)
    · have hne : ¬ s.toList = [] := by
        intro h2
        have : aa s = aa (⟨#[]⟩ : ByteArray) := ie.1 (h2.trans (dt (⟨#[]⟩ : ByteArray)).symm)
        rw [e] at this; cases this
      refine ag hne (ab (by omega) ?_)
      rw [e, ex]
      by_cases h47 : bt s 0 = 47
      · rw [if_pos h47]
        refine ab h47 (ab (by omega) ?_)
        have hb := d4 s 1
        have := ke true (s.extract 1 s.size) (by rw [← am, hb, List.length_drop, am]; omega) (by
          rw [hb]
          rw [e, h47, eX (fX _ (by decide))] at hr
          exact (Bool.and_eq_true_iff.1 hr).2)
        rw [hb] at this
        exact this
      · rw [if_neg h47, ← e]
        exact ag h47 (ke false s hs hr)
theorem kx (r : Bool) (R : List ByteArray) (hR : R.length ≤ 1000000) (h : ∀ s ∈ R, s.size ≤ 1000000) : ∀ d i : Nat, i + d = R.length → ∀ x : List ByteArray, x = (R.take i).map (fun s => strOfNums (cd (aa s))) →
    Ev (fun k => bo k R (i : Int) r x) (r, R.map (fun s => strOfNums (cd (aa s)))) := by
  intro d
  induction d with
  | zero =>
    intro i hi x hx
    refine Ev.step (fun k => by rw [bo]) ?_
    rw [List.take_of_length_le (by omega)] at hx
    rw [hx]
    exact ag (by omega) (az _)
  | succ d ih =>
    intro i hi x hx
    refine Ev.step (fun k => by rw [bo]) ?_
    have hw : wrap64 ((i : Int) + 1) = ((i + 1 : Nat) : Int) := by rw [w64 (by omega) (by omega)]; omega
    have hxl : x.length = i := by rw [hx, List.length_map, List.length_take]; omega
    rw [hw, gm (i := i) (by omega)]
    refine ab (by omega) (ab (by omega) (ax (oG R[i] (h R[i] (List.getElem_mem _))) (ab (by omega) (ih (i + 1) (by omega) _ ?_))))
    rw [hx, List.take_add_one, List.map_append, List.getElem?_eq_getElem (by omega)]; rfl
theorem iP (r : Bool) (s : ByteArray) (hs : s.size ≤ 200000) : Ev (fun k => a6 k s r []) (r, ((aW 47 (aa s)).map cd).map strOfNums) := by
  obtain ⟨R, hR, hm⟩ := n8 s 47 (by omega)
  have hl : R.length ≤ s.size + 1 := by
    have := congrArg List.length hm
    have h2 := fT 47 (aa s)
    rw [List.length_map] at this
    rw [am] at h2; omega
  refine Ev.step (fun k => by rw [a6]) (ax hR ?_)
  have hall : ∀ p ∈ R, p.size ≤ 1000000 := by
    intro p hp
    have hq : aa p ∈ aW 47 (aa s) := by rw [← hm]; exact List.mem_map.2 ⟨p, hp, rfl⟩
    have h3 := (fU _ hq).2.2
    rw [am, am] at h3
    omega
  have := kx r R (by omega) hall R.length 0 (by omega) [] rfl
  rw [← hm, List.map_map, List.map_map]
  exact this
theorem lf (s : ByteArray) (hs : s.size ≤ 200000) : Ev (fun k => cH k s) ((bM (aa s)).1, (bM (aa s)).2.map strOfNums) := by
  unfold cH
  refine bF rfl ?_
  rcases dZ s with ⟨h, e⟩ | ⟨h, e, _, _⟩
  · have : s = (⟨#[]⟩ : ByteArray) := fw e
    subst this
    exact ab ((dt _).trans rfl) (az _)
  · have hne : ¬ s.toList = [] := by
      intro h2
      have : aa s = aa (⟨#[]⟩ : ByteArray) := ie.1 (h2.trans (dt (⟨#[]⟩ : ByteArray)).symm)
      rw [e] at this; cases this
    refine ag hne (ab (by omega) ?_)
    rw [e, ex]
    by_cases h47 : bt s 0 = 47
    · rw [if_pos h47]
      refine ab h47 (ab (by omega) ?_)
      have hb := d4 s 1
      have := iP true (s.extract 1 s.size) (by rw [← am, hb, List.length_drop, am]; omega)
      rw [hb] at this
      exact this
    · rw [if_neg h47, ← e]
      exact ag h47 (iP false s hs)
theorem gD {A B : List ByteArray} {i : Nat} (ha : i < A.length) (hb : i < B.length) : (aG ByteArray.empty A (i : Int)).toList = (aG ByteArray.empty B (i : Int)).toList ↔ A[i] = B[i] := by
  rw [gm ha, gm hb, ie, mn]
theorem g9 {A B : List ByteArray} {i : Nat} (ha : i < A.length) (hb : i < B.length) : A.drop i = B.drop i ↔ A[i] = B[i] ∧ A.drop (i + 1) = B.drop (i + 1) := by
  rw [List.drop_eq_getElem_cons ha, List.drop_eq_getElem_cons hb, List.cons.injEq]
theorem ob (A B : List ByteArray) (h : A.length = B.length) (hA : A.length ≤ 1000000) : ∀ d i : Nat, i + d = A.length → Ev (fun k => bu k A B (i : Int)) (decide (A.drop i = B.drop i)) := by
  intro d
  induction d with
  | zero =>
    intro i hi
    refine Ev.step (fun k => by rw [bu]) (ag (by omega) (Ev.val ?_))
    rw [List.drop_of_length_le (by omega), List.drop_of_length_le (by omega)]; simp
  | succ d ih =>
    intro i hi
    have hw : wrap64 ((i : Int) + 1) = ((i + 1 : Nat) : Int) := by rw [w64 (by omega) (by omega)]; omega
    refine Ev.step (fun k => by rw [bu]) (ab (by omega) (ab (by omega) (ab (by omega) (Ev.ite (fun e => ?_) (fun e => Ev.val ?_)))))
    · rw [hw]
      have := ih (i + 1) (by omega)
      rwa [show decide (A.drop i = B.drop i) = decide (A.drop (i + 1) = B.drop (i + 1)) from decide_eq_decide.2 (by rw [g9 (by omega) (by omega)]; exact ⟨fun h => h.2, fun h => ⟨(gD (by omega) (by omega)).1 e, h⟩⟩)]
    · symm
      rw [decide_eq_false_iff_not, g9 (by omega) (by omega)]
      exact fun h => e ((gD (by omega) (by omega)).2 h.1)
theorem oF (A B : List ByteArray) (hA : A.length ≤ 1000000) : Ev (fun k => cQ k A B) (decide (A = B)) := by
  unfold cQ
  refine Ev.ite (fun h => ?_) (fun h => Ev.val ?_)
  · have := ob A B (by omega) hA A.length 0 (by omega)
    simpa using this
  · symm; rw [decide_eq_false_iff_not]; rintro rfl; exact h rfl
theorem oE (A B : List ByteArray) (h : A.length = B.length) (hA : A.length ≤ 1000000) : ∀ d i : Nat, i + d = A.length → Ev (fun k => aM k A B (A.length : Int) (i : Int)) (decide (A.drop i = B.drop i)) := by
  intro d
  induction d with
  | zero =>
    intro i hi
    refine Ev.step (fun k => by rw [aM]) (ag (by omega) (Ev.val ?_))
    rw [List.drop_of_length_le (by omega), List.drop_of_length_le (by omega)]; simp
  | succ d ih =>
    intro i hi
    have hw : wrap64 ((i : Int) + 1) = ((i + 1 : Nat) : Int) := by rw [w64 (by omega) (by omega)]; omega
    refine Ev.step (fun k => by rw [aM]) (ab (by omega) (ab (by omega) (ab (by omega) (ab (by omega) (Ev.ite (fun e => ?_) (fun e => Ev.val ?_))))))
    · rw [hw]
      have := ih (i + 1) (by omega)
      rwa [show decide (A.drop i = B.drop i) = decide (A.drop (i + 1) = B.drop (i + 1)) from decide_eq_decide.2 (by rw [g9 (by omega) (by omega)]; exact ⟨fun h => h.2, fun h => ⟨(gD (by omega) (by omega)).1 e, h⟩⟩)]
    · symm
      rw [decide_eq_false_iff_not, g9 (by omega) (by omega)]
      exact fun h => e ((gD (by omega) (by omega)).2 h.1)
theorem oS (A B : List ByteArray) (hA : A.length ≤ 1000000) : Ev (fun k => bU k A B) (decide (A = B)) := by
  unfold bU
  refine Ev.ite (fun h => ?_) (fun h => Ev.val ?_)
  · have := oE A B (by omega) hA A.length 0 (by omega)
    simpa using this
  · symm; rw [decide_eq_false_iff_not]; rintro rfl; exact h rfl
theorem nS (r q : Bool) (A B : List ByteArray) (hA : A.length ≤ 1000000) : Ev (fun k => dg k r A q B) (decide ((r, A) = (q, B))) := by
  unfold dg
  refine Ev.ite (fun h => ax (oS A B hA) (Ev.val ?_)) (fun h => Ev.val ?_)
  · rw [decide_eq_decide, beq_iff_eq.1 h]; simp
  · symm
    rw [decide_eq_false_iff_not]
    intro e
    injection e with e1 e2
    exact h (beq_iff_eq.2 e1)
theorem nl (r : Bool) (A : List ByteArray) : dh r A = some (gX (r, A.map aa)) := by
  unfold dh gX
  cases r with
  | true =>
    rw [if_pos rfl]
    cases A with
    | nil => rfl
    | cons a A => simp
  | false =>
    rw [if_neg (by simp)]
    cases A with
    | nil => rfl
    | cons a A =>
      rw [if_neg (by simp only [List.length_cons]; omega), if_pos (by simp only [List.length_cons]; omega)]
      have : aG ByteArray.empty (a :: A) 0 = a := rfl
      rw [this]
      congr 1
      simp only [List.map_cons, List.isEmpty_cons, Bool.false_or, List.headD_cons, Bool.false_eq_true, if_false]
      rw [Bool.eq_iff_iff, bne_iff_ne, Bool.not_eq_true', List.isEmpty_eq_false_iff]
      have : a.toList = [] ↔ aa a = [] := by
        rw [dt]; unfold aa; rw [List.map_eq_nil_iff]
      exact not_congr this
set_option maxRecDepth 100000 in
theorem g7 : Ev (fun k => bd k) true := gy (fun k => gq k) (k := 60) (by decide +kernel)
end Go.Proofs.YtmofhijbheimmaaDoor.Y
namespace Go.Proofs.YtmofhijbheimmaaDoor.Pure
open Go.RowKit Go.Proofs.YtmofhijbheimmaaDoor.X Go.Proofs.YtmofhijbheimmaaDoor.M Go.Proofs.YtmofhijbheimmaaDoor.Y Go.Proofs.YtmofhijbheimmaaDoorW.PrintWords Go.Proofs.YtmofhijbheimmaaDoorW.PrintLast Go.Proofs.YtmofhijbheimmaaDoorW.PrintMore
theorem kP : ∀ L : List (List Int), ∀ n : Nat, (∀ p ∈ L, p.length ≤ n) → er L ≤ L.length * (n + 1)
  | [], n, _ => by simp [er]
  | a :: L, n, h => by
    have ih := kP L n (fun p hp => h p (List.mem_cons_of_mem _ hp))
    have ha := h a (List.mem_cons_self ..)
    unfold er at ih ⊢
    simp only [List.map_cons, List.sum_cons, List.length_cons]
    rw [Nat.succ_mul]; omega
theorem SegsParse : fy := by
  intro s _
  refine mg (r := true) ?_
  unfold dy
  refine Ev.ite (fun _ => ax g7 (az _)) (fun hs => ?_)
  refine ax (kL s (by omega)) (ax (ky 5 true s (by omega)) ?_)
  have hl := am s
  have hall : cf 5 true (aa s) = true ↔ ((cv 5 true (aa s) : Nat) : Int) = (s.size : Int) := by
    unfold cf; rw [beq_iff_eq, hl]; omega
  cases ha : cf 5 true (aa s) with
  | false =>
    rw [if_neg (by simp)]
    refine ag (fun e => by rw [hall.2 e] at ha; cases ha) (ab rfl (ab rfl (ag (by simp) (ax g7 (az _)))))
  | true =>
    rw [if_pos rfl]
    have hr := la (eR s)
    have h1 := np (l := aa s)
    have h2 := kP (bM (aa s)).2 200 (fun p hp => by have := nq p hp; omega)
    have h3 : (bM (aa s)).2.length * 201 ≤ 201 * 201 := Nat.mul_le_mul_right _ (by omega)
    have hS : er (((bM (aa s)).2.map strOfNums).map aa) ≤ 41000 := by rw [ic hr]; omega
    have ht := oJ (bM (aa s)).1 ((bM (aa s)).2.map strOfNums) (by omega)
    rw [ic hr] at ht
    have htr : ∀ b ∈ fu cB (bM (aa s)), 0 ≤ b ∧ b ≤ 255 := by
      intro b hb
      unfold fu at hb
      rcases List.mem_append.1 hb with hb | hb
      · split at hb
        · rw [List.mem_singleton.1 hb]; decide
        · cases hb
      · exact iT (by decide) (fun p hp => by
          obtain ⟨q, hq, rfl⟩ := List.mem_map.1 hp
          exact fP q (hr q hq)) b hb
    have hlen : (fu cB (bM (aa s))).length ≤ 200000 := by
      have h4 := nF 47 ((bM (aa s)).2.map (bz cB))
      have h5 := jo cB (bM (aa s)).2
      rw [ic hr] at hS
      have h6 : (if (bM (aa s)).1 = true then ([47] : List Int) else []).length ≤ 1 := by split <;> simp
      unfold fu
      rw [List.length_append]; omega
    have hq := kL (strOfNums (fu cB (bM (aa s)))) (by rw [ib htr]; omega)
    rw [dW htr, nA ni _ hr, if_pos rfl, (mJ ng nh _ hr).2 (ja _)] at hq
    have hll : ((bM (aa s)).2.map strOfNums).length ≤ 1000000 := by rw [List.length_map]; omega
    refine ab (hall.1 ha) (ax (lf s (by omega)) (ax ht (ax hq (ab rfl (ab (by simp) (ax (oF _ _ hll) (ab (by simp) (bF (nl _ _) (ab ?_ (ab rfl (ax (nS _ _ _ _ hll) (ab (by simp) (ax g7 (az _))))))))))))))
    rw [ic hr]
    exact ja _
end Go.Proofs.YtmofhijbheimmaaDoor.Pure
namespace Go.Proofs.YtmofhijbheimmaaDoor.segsParse
open Go.ChangeShapes Go.WideShapes Go.ChangeAt Go.RowKit
open Go.ChangeMaps (open_string shut_string)
theorem own : ownKnob Tryd.prog.godebug = none := by kernel_rfl
theorem gw_len {W : World} (h : W.ShapedOpen Tryd.prog) : ∃ m, W.cell? ⟨0, 0, none⟩ = some (.int .i64 m) :=
  Go.Proofs.cell_of_shapedOpen_int (g := 0) (t := 3) (zero := #[.int .i64 0]) h (of_decide_eq_true (by kernel_rfl)) (by kernel_rfl) rfl (by kernel_rfl) (by kernel_rfl) Tryd.underlying3
theorem gw {W : World} (h : W.ShapedOpen Tryd.prog) (hL0 : laidMetH Tryd.prog Rows.segsParseRow.laid W) : X.GW W := ⟨gw_len h⟩
set_option maxRecDepth 100000 in
theorem contract (H : Type) (enc : TypeId × Value → H) (W : World) (base : Nat) (args : Array Value) (ds gs : List (DataW H)) (before : List MemPlace)
    (hval0 : ∀ (j : Nat) t v, Tryd.f3.params[j]? = some t → args[j]? = some v → Value.okWide Tryd.prog W .any base t v)
    (hW : DataW.Whole enc Tryd.prog Tryd.f3.params.toList Rows.segsParseSpec.vars false W args.toList ds gs before)
    (hsz0 : (DataW.weightsEach Tryd.prog (Tryd.f3.params.toList ++ Rows.segsParseSpec.plain.varTypes Tryd.prog) (ds ++ gs)).all (· ≤ reachBytes) = true) (hsh : W.ShapedOpen Tryd.prog) (hL : laidMetH Tryd.prog Rows.segsParseRow.laid W) :
    Calls Tryd.prog 3 args W fun e W' => ∃ v, e = .returned v ∧ Rows.segsParseSpec.post enc Tryd.prog Tryd.f3 false true false false W args v W' := by
  have hsz : (DataW.weightsEach Tryd.prog (Tryd.f3.params.toList ++ Rows.segsParseSpec.plain.varTypes Tryd.prog) (ds ++ gs)).all (· ≤ reachBytes) = true := hsz0
  have hval : ∀ (j : Nat) t v, Tryd.f3.params[j]? = some t → args[j]? = some v → Value.okWide Tryd.prog W .any base t v := hval0
  have hW' := hW
  obtain ⟨p, q, hA0, hV, rfl, hfz, hnd⟩ := hW
  have hA : DataW.TrodAll enc Tryd.prog W 0 (fun _ => true) true Tryd.f3.params.toList args.toList ds p := hA0
  rw [Tryd.params3] at hA hval hsz
  obtain ⟨v0, vs0, d0, ds0, p0, q0, hargs, rfl, rfl, h0, r0⟩ := trodAll_cons hA
  obtain ⟨rfl, rfl, rfl⟩ := trodAll_nil r0
  obtain rfl : args = #[v0] := by cases args; simp_all
  obtain ⟨rfl, rfl⟩ := trodVars_none hV
  obtain ⟨a0, rfl, rfl, rfl, y0⟩ := open_string Tryd.underlying9 (hval 0 9 v0 rfl rfl) h0
  have w0 : a0.size ≤ 140737488351232 := by
    have z := sized_string hsz (j := 0) (t := 9) rfl rfl
    rw [Array.length_toList] at z
    exact z
  clear hA0 hval0 hsz0 hsz
  obtain ⟨k, hk⟩ := Pure.SegsParse a0 w0
  refine (X.fp k a0 true W (gw hsh hL) hk).mono fun e W' ⟨he, bel0⟩ => ?_
  have bel : Below W.heap.size W W' := bel0
  subst he
  exact ⟨_, rfl, _, _, _, [], _, [], hW', trodAll_mk1 (shut_bool Tryd.underlying4 _), (trodAll_cons_mk (shut_string Tryd.underlying9 y0) trodAll_mk0), rfl, bel.frame _, fun h => by cases h⟩
def flat : Nat → DataW Unit → List Value
  | 0, _ => []
  | k + 1, .agg l => l.flatMap (flat k)
  | _ + 1, .lit (.int kd n) => [.int kd n]
  | _ + 1, .lit (.bool b) => [.bool b]
  | _ + 1, _ => []
def layAt (g : Nat) (cs : List Value) (h : Array Obj) : Array Obj := h.modify g fun
  | .cells _ t frozen => .cells cs.toArray t frozen
  | x => x
noncomputable def iq (os : Os) : World := { World.holding Tryd.prog os ⟨#[], #[], []⟩ with heap := layAt 1 (flat 9 Rows.laid_unicode_utf8_first) (layAt 2 (flat 9 Rows.laid_unicode_utf8_acceptRanges) ((World.holding Tryd.prog os ⟨#[], #[], []⟩).heap)) }
theorem laid_met (os : Os) : laidMet Tryd.prog Rows.segsParseRow.laid ((iq os).forCall (fun _ _ => 0) ⟨#[], #[.string ByteArray.empty], []⟩).memory :=
  laidMet_of_run' 8 (by kernel_rfl) (by kernel_rfl)
theorem reads (os : Os) {H : Type} (enc : TypeId × Value → H) : ∃ places, DataW.whole enc Tryd.prog ((iq os).forCall (fun _ _ => 0) ⟨#[], #[.string ByteArray.empty], []⟩).memory Tryd.f3.params.toList Rows.segsParseSpec.vars false (#[.string ByteArray.empty] : Array Value).toList 8 = some ([.lit (.string [])], [], places) :=
  ⟨[], by kernel_rfl⟩
set_option maxRecDepth 100000 in
theorem lifted (os : Os) (started : os.Started) (H : Type) (enc : TypeId × Value → H) (F : Stop.Interp) :
    ReturnsInHanded {} Tryd.checked os 3 .any ((OpenSpec.ofChange Rows.segsParseSpec).preRow enc Tryd.prog Tryd.f3 Rows.segsParseRow.domain false Rows.segsParseRow.laid) (((OpenSpec.ofChange Rows.segsParseSpec).at F).post enc Tryd.prog Tryd.f3 false true false false) := by
  obtain ⟨places, hx⟩ := reads os enc
  refine returnsInHanded_of_row (C := Tryd.checked) (s := OpenSpec.ofChange Rows.segsParseSpec) own started (by kernel_rfl) Tryd.func3
    (witness_row_at (enc := enc) (C := Tryd.checked) false (iq os) #[.string ByteArray.empty] rfl (by kernel_rfl) (by kernel_rfl) (by kernel_rfl)
      (OpenSpec.preRow_of_cond 8 hx (by kernel_rfl) (fun k hk => by cases hk) (by kernel_rfl) (laid_met os))) ?_
  intro W base args ds gs before hval hW _ _ hsz hL hsh _
  exact contract H enc W base args ds gs before hval hW hsz hsh hL
theorem said : Rows.SegsParseSaid :=
  OpenClaim.holds_of_cond 3 Tryd.f3 rfl rfl rfl rfl rfl rfl rfl ⟨rfl, rfl, rfl, rfl, rfl⟩ rfl rfl rfl rfl rfl (by kernel_rfl) Tryd.func3 (by kernel_rfl)
    (of_decide_eq_true (by kernel_rfl)) (by unfold Func.isWrapper; first | (rw [if_pos (by decide +kernel)]; kernel_rfl) | (rw [if_neg (by decide +kernel)]; exact ⟨rfl, rfl⟩))
    (fun os started H enc _ F => by rw [OpenClaim.pre_eq_preRow]; exact lifted os started H enc F)
theorem plain (f : FuncId) (fn : Func) (hf : Tryd.pinned.checked.prog.funcNamed "moniker/monikerlaw31.SegsParse" = some f) (hfn : Tryd.pinned.checked.prog.funcs[f]? = some fn) :
    false = Tryd.pinned.checked.prog.looks [] ∧ ∀ (j : Nat) t, fn.params[j]? = some t → Tryd.pinned.checked.prog.wantsStandIn t = false := by
  obtain rfl : f = 3 := Option.some.inj ((show Tryd.prog.funcNamed "moniker/monikerlaw31.SegsParse" = some 3 by kernel_rfl).symm.trans hf) |>.symm
  obtain rfl : fn = Tryd.f3 := (Option.some.inj (Tryd.func3.symm.trans hfn)).symm
  refine ⟨by kernel_rfl, fun j t ht => ?_⟩
  rw [Tryd.params3] at ht
  have hm := Array.mem_of_getElem? ht
  simp only [List.mem_cons, List.mem_toArray, List.mem_nil_iff, or_false] at hm
  rcases hm with rfl
  · exact (show Tryd.prog.wantsStandIn 9 = false by kernel_rfl)
theorem card : Rows.SegsParseCardSaid :=
  Claim7.holds_tied_plain_at .later [] _ _ _ _ said (fun _ h => by cases h) (by kernel_rfl) (fun _ h => by cases h) segsParse_row_tie rfl ⟨rfl, rfl⟩ (by kernel_rfl) rfl plain (by kernel_rfl)
#print axioms card
end Go.Proofs.YtmofhijbheimmaaDoor.segsParse
namespace Go.Proofs.YtmofhijbheimmaaDoor
theorem segsParse_card : Rows.SegsParseCardSaid := segsParse.card
end Go.Proofs.YtmofhijbheimmaaDoor
