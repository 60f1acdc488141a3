/- The law SegsTexts of layer 31, for every input: Any path's text is the document's; it is read as the path just if that is right. No condition beside the row's own. -/
import Derived.Test.YtmofhijbheimmaaDoorZSegsTexts1
import Derived.Test.YtmofhijbheimmaaDoorZSegsTexts2
import Derived.Test.YtmofhijbheimmaaDoorZSegsTexts3
import Derived.Test.YtmofhijbheimmaaDoorZSegsTexts4
import Derived.Test.YtmofhijbheimmaaDoorZSegsTexts5
import Derived.Test.YtmofhijbheimmaaDoorZSegsTexts6
import Derived.Laws.BitsLemmas
import Derived.Test.YtmofhijbheimmaaDoorRows
import Derived.Test.YtmofhijbheimmaaDoorCards
import Derived.Test.YtmofhijbheimmaaDoorTie
import Derived.WalkKit
import Derived.ProofKit
import Derived.OpenShut
import Derived.ShutString
import Derived.ChangeOld
import Derived.Below
import Derived.SizedLaws
import Derived.ChangeArms
import Derived.Lib.SmallJoins
import Derived.Deep.DeepHandedRow
import Derived.Lib.LaidTab
import Derived.Shelf.Vars
import Derived.MakeChecks
import Derived.SliceStrings
import Derived.Carry
set_option linter.unusedSimpArgs false
set_option linter.unusedVariables false
namespace Go.Proofs.YtmofhijbheimmaaDoor.Y
open Go.RowKit Go.Proofs.YtmofhijbheimmaaDoor.X Go.Proofs.YtmofhijbheimmaaDoor.M Go.Proofs.YtmofhijbheimmaaDoorW.PrintWords Go.Proofs.YtmofhijbheimmaaDoorW.PrintLast Go.Proofs.YtmofhijbheimmaaDoorW.PrintMore
theorem nh {b : Int} (h0 : 0 ≤ b) (h1 : b ≤ 255) : Ev (fun k => cE k b) (shp b) :=
  ge (fun k => eP b k) (k := 6) (cq (p := fun b => cE 6 b = some (shp b)) (by decide +kernel) h0 h1)
theorem mh (s : ByteArray) (hs : s.size ≤ 140737488351232) (n : Nat) (_ : n ≤ 4) : ∀ d i : Nat, ∀ lo hi : Int, i + d = n → Ev (fun k => bK k s (n : Int) lo hi (i : Int)) ((i : Int) + bo (n - i) lo hi ((aa s).drop i), (n : Int)) := by
  intro d
  induction d with
  | zero =>
    intro i lo hi hi2
    refine Ev.step (fun k => rfl) (af (by omega) ?_)
    rw [show n - i = 0 by omega, lE]
    simp only [Int.natCast_zero, Int.add_zero]
    exact aI _
  | succ d ih =>
    intro i lo hi hi2
    refine Ev.step (fun k => rfl) (ab (by omega) ?_)
    rw [show n - i = (n - (i + 1)) + 1 by omega]
    rcases Nat.lt_or_ge i s.size with h | h
    · rcases cd s i (by omega) with ⟨h2, _⟩ | ⟨_, e, b0, b1⟩
      · omega
      refine ab (by omega) (ab (by omega) ?_)
      rw [e]
      by_cases h1 : lo ≤ bt s i
      · refine ab h1 ?_
        by_cases h2 : bt s i ≤ hi
        · refine ab h2 ?_
          rw [w64 (by omega) (by omega)]
          unfold bo
          rw [if_pos ⟨h1, h2⟩]
          have := ih (i + 1) 128 191 (by omega)
          have e3 : ((i : Int) + ((bo (n - (i + 1)) 128 191 ((aa s).drop (i + 1)) + 1 : Nat) : Int), (n : Int)) = (((i + 1 : Nat) : Int) + (bo (n - (i + 1)) 128 191 ((aa s).drop (i + 1)) : Int), (n : Int)) := by
            congr 1; omega
          rw [e3]
          exact this
        · refine af h2 ?_
          unfold bo
          rw [if_neg (fun x => h2 x.2)]
          simp only [Int.natCast_zero, Int.add_zero]
          exact aI _
      · refine af h1 ?_
        unfold bo
        rw [if_neg (fun x => h1 x.1)]
        simp only [Int.natCast_zero, Int.add_zero]
        exact aI _
    · refine af (by omega) ?_
      rw [List.drop_of_length_le (by rw [am]; exact h)]
      unfold bo
      simp only [Int.natCast_zero, Int.add_zero]
      exact aI _
def js : List Int → Int × Int
  | [] => (0, 0)
  | b :: t => if (shp b).1 = 0 then (1, 0) else ((bo ((shp b).1.toNat - 1) (shp b).2.1 (shp b).2.2 t : Int) + 1, (shp b).1)
theorem hZ (b : Int) (t : List Int) : js (b :: t) = if (shp b).1 = 0 then (1, 0) else ((bo ((shp b).1.toNat - 1) (shp b).2.1 (shp b).2.2 t : Int) + 1, (shp b).1) := rfl
theorem mY (s : ByteArray) (hs : s.size ≤ 140737488351232) : Ev (fun k => cD k s) (js (aa s)) := by
  unfold cD
  rcases ij s with ⟨h, e⟩ | ⟨h, e, b0, b1⟩
  · rw [e]
    exact ab (by omega) (aI _)
  · rw [e, hZ]
    refine af (by omega) (ab (by omega) (az (nh b0 b1) ?_))
    by_cases hz : (shp (bt s 0)).1 = 0
    · rw [if_pos hz]
      exact ab hz (aI _)
    · rw [if_neg hz]
      refine af hz ?_
      have hr := d9 (bt s 0)
      have := mh s hs (shp (bt s 0)).1.toNat (by omega) ((shp (bt s 0)).1.toNat - 1) 1 (shp (bt s 0)).2.1 (shp (bt s 0)).2.2 (by omega)
      rw [Int.toNat_of_nonneg hr.1] at this
      have e3 : ((bo ((shp (bt s 0)).1.toNat - 1) (shp (bt s 0)).2.1 (shp (bt s 0)).2.2 ((aa s).drop 1) : Int) + 1, (shp (bt s 0)).1) = ((((1 : Nat) : Int) + (bo ((shp (bt s 0)).1.toNat - 1) (shp (bt s 0)).2.1 (shp (bt s 0)).2.2 ((aa s).drop 1) : Int)), (shp (bt s 0)).1) := by
        congr 1; omega
      rw [e3]
      exact this
def bnd : Nat → Int
  | 0 => 33554432
  | 1 => 524288
  | 2 => 8192
  | _ => 128
theorem jo {d : Nat} (hd : d < 3) {r c : Int} (h0 : 0 ≤ r) (h : r < bnd (d + 1)) (c0 : 128 ≤ c) (c1 : c ≤ 191) : 0 ≤ r * 64 + (c - 128) ∧ r * 64 + (c - 128) < bnd d ∧ r * 64 < 2147483648 := by
  rcases d with _ | _ | _ | d
  · simp only [bnd] at *; omega
  · simp only [bnd] at *; omega
  · simp only [bnd] at *; omega
  · omega
theorem iV {s : ByteArray} {i n : Nat} (h : i < s.size) (hn : i < n) : ((aa s).take n).drop i = bt s (i : Int) :: ((aa s).take n).drop (i + 1) := by
  rcases cd s i (by omega) with ⟨h2, _⟩ | ⟨_, e, b0, b1⟩
  · omega
  · rw [List.drop_take, List.drop_take, e, show n - i = (n - (i + 1)) + 1 by omega, List.take_succ_cons]
theorem lG (s : ByteArray) (hs : s.size ≤ 140737488351232) (n : Nat) (hn : n ≤ s.size) : ∀ d i : Nat, ∀ r : Int, i + d = n → d ≤ 3 → 0 ≤ r → r < bnd d → (∀ c ∈ ((aa s).take n).drop i, 128 ≤ c ∧ c ≤ 191) →
    Ev (fun k => ao k s r (n : Int) (i : Int)) (fI r (((aa s).take n).drop i), (n : Int), true) := by
  intro d
  induction d with
  | zero =>
    intro i r hi _ _ _ _
    refine Ev.step (fun k => rfl) (af (by omega) ?_)
    rw [List.drop_of_length_le (by rw [List.length_take, am]; omega)]
    exact aI _
  | succ d ih =>
    intro i r hi hd r0 r1 hc
    have e := iV (s := s) (i := i) (n := n) (by omega) (by omega)
    rw [e] at hc ⊢
    obtain ⟨c0, c1⟩ := hc _ (List.mem_cons_self ..)
    have hb := jo (by omega) r0 r1 c0 c1
    refine Ev.step (fun k => rfl) (ab (by omega) (ab (by omega) (ab (by omega) ?_)))
    rw [w64 (by omega) (by omega), u8_and63 _ (by omega) (by omega)]
    have e1 : wrap32 (bt s (i : Int) % 64) = bt s (i : Int) % 64 := by unfold wrap32; omega
    have e2 : wrap32 (r * 64) = r * 64 := by unfold wrap32; omega
    rw [e1, e2, i32_or6 _ _ (by omega) (by omega) (by omega) (by omega) (by omega)]
    have e3 : r * 64 + bt s (i : Int) % 64 = r * 64 + (bt s (i : Int) - 128) := by omega
    rw [e3]
    exact ih (i + 1) _ (by omega) (by omega) hb.1 hb.2.1 (fun c h => hc c (List.mem_cons_of_mem _ h))
theorem l7 {b : Int} (h0 : 0 ≤ b) (h1 : b ≤ 255) : (b < 128 → Go.bits .and .u8 b 127 = b) ∧ Go.bits .and .u8 b 31 = b % 32 ∧ Go.bits .and .u8 b 15 = b % 16 ∧ Go.bits .and .u8 b 7 = b % 8 :=
  ⟨cq (p := fun b => b < 128 → Go.bits .and .u8 b 127 = b) (by decide +kernel) h0 h1, u8_and31 _ (by omega) (by omega), u8_and15 _ (by omega) (by omega), u8_and7 _ (by omega) (by omega)⟩
theorem lO {b : Int} (h0 : 0 ≤ b) (h1 : b ≤ 255) : ((shp b).1 = 1 → b < 128 ∧ dw (shp b).1 b = b) ∧ ((shp b).1 = 2 → b % 32 = dw (shp b).1 b) ∧ ((shp b).1 = 3 → b % 16 = dw (shp b).1 b) ∧ ((shp b).1 = 4 → b % 8 = dw (shp b).1 b) :=
  cq (p := fun b => ((shp b).1 = 1 → b < 128 ∧ dw (shp b).1 b = b) ∧ ((shp b).1 = 2 → b % 32 = dw (shp b).1 b) ∧ ((shp b).1 = 3 → b % 16 = dw (shp b).1 b) ∧ ((shp b).1 = 4 → b % 8 = dw (shp b).1 b)) (by decide +kernel) h0 h1
theorem mc (s : ByteArray) (hs : s.size ≤ 140737488351232) : Ev (fun k => cJ k s) (dec (aa s)) := by
  unfold cJ
  refine az (mY s hs) ?_
  rcases ij s with ⟨h, e⟩ | ⟨h, e, b0, b1⟩
  · rw [e]
    refine ab (by simp [js]) ?_
    refine Ev.step (fun k => by rw [bg]) ?_
    exact ab rfl (aI _)
  · have hr := d9 (bt s 0)
    rw [e, hZ, eE]
    by_cases hz : (shp (bt s 0)).1 = 0
    · simp only [if_pos hz]
      refine ab (by simp) ?_
      refine Ev.step (fun k => by rw [bg]) ?_
      exact ab rfl (aI _)
    · simp only [if_neg hz]
      have hcl := gg ((shp (bt s 0)).1.toNat - 1) (shp (bt s 0)).2.1 (shp (bt s 0)).2.2 ((aa s).drop 1)
      have hcm : 2 ≤ (shp (bt s 0)).1 → ∀ c ∈ ((aa s).drop 1).take (bo ((shp (bt s 0)).1.toNat - 1) (shp (bt s 0)).2.1 (shp (bt s 0)).2.2 ((aa s).drop 1)), 128 ≤ c ∧ c ≤ 191 :=
        fun h2 => gL _ _ _ (ew h2).1 (ew h2).2 _
      rw [List.length_drop, am] at hcl
      revert hcl hcm
      generalize bo ((shp (bt s 0)).1.toNat - 1) (shp (bt s 0)).2.1 (shp (bt s 0)).2.2 ((aa s).drop 1) = m
      intro hcl hcm
      refine Ev.step (fun k => by rw [bg]) ?_
      by_cases hlt : (m : Int) + 1 < (shp (bt s 0)).1
      · rw [if_pos hlt]
        exact ab (by simpa using hlt) (aI _)
      · rw [if_neg hlt]
        refine af (by simpa using hlt) (ab (by omega) (ab (by omega) ?_))
        have hm : m = (shp (bt s 0)).1.toNat - 1 := by omega
        have hl := jC b0 b1 (by omega)
        have hmk := lO b0 b1
        have ham := l7 b0 b1
        have key : ∀ n : Nat, (n : Int) = (shp (bt s 0)).1 → 1 ≤ n → ∀ r : Int, r = dw (shp (bt s 0)).1 (bt s 0) → Ev (fun k => ao k s r (shp (bt s 0)).1 1) (fI (dw (shp (bt s 0)).1 (bt s 0)) (((aa s).drop 1).take ((shp (bt s 0)).1.toNat - 1)), (shp (bt s 0)).1, true) := by
          intro n hn h1n r hrl
          have hbn : r < bnd (n - 1) := by
            rw [hrl]
            rcases n with _ | _ | _ | _ | _ | n
            · omega
            · exact Int.lt_of_lt_of_le hl.2 (by decide)
            · exact Int.lt_of_lt_of_le hl.2 (by decide)
            · exact Int.lt_of_lt_of_le hl.2 (by decide)
            · exact Int.lt_of_lt_of_le hl.2 (by decide)
            · omega
          have := lG s hs n (by omega) (n - 1) 1 r (by omega) (by omega) (by omega) hbn (by
            intro c hc
            rw [List.drop_take] at hc
            by_cases h2 : 2 ≤ (shp (bt s 0)).1
            · exact hcm h2 c (by rw [hm, ← hn, Int.toNat_natCast]; exact hc)
            · rw [show n - 1 = 0 by omega] at hc
              simp at hc)
          rw [hn, List.drop_take] at this
          rw [← hrl, show (shp (bt s 0)).1.toNat - 1 = n - 1 by omega]
          exact this
        refine af hz ?_
        by_cases h1 : (shp (bt s 0)).1 = 1
        · refine ab h1 ?_
          refine key 1 (by omega) (by omega) _ ?_
          rw [ham.1 (hmk.1 h1).1, (hmk.1 h1).2]
          have := (hmk.1 h1).1
          unfold wrap32; omega
        refine af h1 ?_
        by_cases h2 : (shp (bt s 0)).1 = 2
        · refine ab h2 ?_
          refine key 2 (by omega) (by omega) _ ?_
          rw [ham.2.1, hmk.2.1 h2]
          unfold wrap32; omega
        refine af h2 ?_
        by_cases h3 : (shp (bt s 0)).1 = 3
        · refine ab h3 ?_
          refine key 3 (by omega) (by omega) _ ?_
          rw [ham.2.2.1, hmk.2.2.1 h3]
          unfold wrap32; omega
        have h4 : (shp (bt s 0)).1 = 4 := by omega
        refine af h3 (ab h4 ?_)
        refine key 4 (by omega) (by omega) _ ?_
        rw [ham.2.2.2, hmk.2.2.2 h4]
        unfold wrap32; omega
theorem nL {s : ByteArray} {i : Nat} (h : i + 3 ≤ s.size) : (aa s).drop i = bt s (i : Int) :: bt s ((i : Int) + 1) :: bt s ((i : Int) + 2) :: (aa s).drop (i + 3) := by
  rcases cd s i (by omega) with ⟨h2, _⟩ | ⟨_, e, _⟩
  · omega
  rcases cd s (i + 1) (by omega) with ⟨h2, _⟩ | ⟨_, e2, _⟩
  · omega
  rcases cd s (i + 2) (by omega) with ⟨h2, _⟩ | ⟨_, e3, _⟩
  · omega
  rw [e, e2, e3]
  rfl
theorem fi {l : List Int} (h : l.length < 3) : ba l = -1 := by
  match l, h with
  | [], _ => rfl
  | [_], _ => rfl
  | [_, _], _ => rfl
  | _ :: _ :: _ :: _, h => simp only [List.length_cons] at h; omega
theorem kj (p a b : Int) (t : List Int) : ba (p :: a :: b :: t) = if p = 37 then (if hv a < 0 ∨ hv b < 0 then -1 else 16 * hv a + hv b) else -1 := rfl
theorem mi {a b : Int} (ha : 0 ≤ a) (ha1 : a ≤ 15) (hb : 0 ≤ b) (hb1 : b ≤ 15) : (Go.bits .or .i64 (wrap64 (a * 16)) b) % 256 = 16 * a + b := by
  have : ∀ x : Fin 16, ∀ y : Fin 16, (Go.bits .or .i64 (wrap64 (((x.val : Nat) : Int) * 16)) ((y.val : Nat) : Int)) % 256 = 16 * ((x.val : Nat) : Int) + ((y.val : Nat) : Int) := by decide +kernel
  have := this ⟨a.toNat, by omega⟩ ⟨b.toNat, by omega⟩
  simp only at this
  rwa [Int.toNat_of_nonneg ha, Int.toNat_of_nonneg hb] at this
theorem jS (s : ByteArray) (i : Nat) (hi : i ≤ s.size) (hs : s.size ≤ 140737488351232) : Ev (fun k => cB k s (i : Int)) (if ba ((aa s).drop i) < 0 then (0, false) else (ba ((aa s).drop i), true)) := by
  unfold cB
  refine af (by omega) ?_
  have bad : ∀ r, r = (0, false) → Ev (fun k => a7 k s (i : Int) true) r := by
    intro r e
    subst e
    refine Ev.step (fun k => by rw [a7]) ?_
    exact ab rfl (aI _)
  rw [w64 (by omega) (by omega)]
  by_cases h3 : i + 3 ≤ s.size
  · refine af (by omega) (ab (by omega) (ab (by omega) ?_))
    rw [nL h3, kj]
    by_cases hp : bt s (i : Int) = 37
    · rw [if_pos hp, hp]
      refine Ev.step (fun k => by rw [a7]) ?_
      refine af (by decide) ?_
      have r1 := gK s ((i : Int) + 1)
      have r2 := gK s ((i : Int) + 2)
      have v1 := gj (bt s ((i : Int) + 1))
      have v2 := gj (bt s ((i : Int) + 2))
      rw [w64 (x := (i : Int) + 1) (by omega) (by omega), w64 (x := (i : Int) + 2) (by omega) (by omega)]
      refine ab (by omega) (ab (by omega) (az (j9 r1.1 r1.2) (ab (by omega) (ab (by omega) (az (j9 r2.1 r2.2) ?_)))))
      generalize hv (bt s ((i : Int) + 1)) = x at v1 ⊢
      generalize hv (bt s ((i : Int) + 2)) = y at v2 ⊢
      by_cases h1 : x < 0
      · have h3 : x < 0 ∨ y < 0 := .inl h1
        simp only [if_pos h1, if_pos h3]
        exact af (by simp) (aI _)
      · simp only [if_neg h1]
        refine ab (by simp) ?_
        by_cases h2 : y < 0
        · have h3 : x < 0 ∨ y < 0 := .inr h2
          simp only [if_pos h2, if_pos h3]
          exact af (by simp) (aI _)
        · have h3 : ¬ (x < 0 ∨ y < 0) := by omega
          simp only [if_neg h2, if_neg h3]
          refine ab (by simp) ?_
          rw [if_neg (by omega), mi (by omega) (by omega) (by omega) (by omega)]
          exact aI _
    · rw [if_neg hp, if_pos (by omega)]
      have : (bt s (i : Int) != 37) = true := by simpa using hp
      rw [this]
      exact bad _ rfl
  · refine ab (by omega) ?_
    rw [fi (by rw [List.length_drop, am]; omega), if_pos (by omega)]
    exact bad _ rfl
theorem g6 (p : Int) : ∃ t, cr p = some (t, db p) := by
  unfold cr db
  by_cases h1 : p = 1
  · subst h1; exact ⟨_, rfl⟩
  by_cases h2 : p = 2
  · subst h2; exact ⟨_, rfl⟩
  by_cases h3 : p = 3
  · subst h3; exact ⟨_, rfl⟩
  by_cases h4 : p = 4
  · subst h4; exact ⟨_, rfl⟩
  by_cases h5 : p = 5
  · subst h5; exact ⟨_, rfl⟩
  by_cases h6 : p = 6
  · subst h6; exact ⟨_, rfl⟩
  by_cases h7 : p = 7
  · subst h7; exact ⟨_, rfl⟩
  · rw [if_neg h1, if_neg h2, if_neg h3, if_neg h4, if_neg h5, if_neg h6, if_neg h7]
    exact ⟨_, by rw [decide_eq_false (by omega)]⟩
theorem lU {q : Int → Prop} (h : ∀ n : Fin 7, q ((n.val : Nat) + 1 : Int)) {p : Int} (hp : db p = true) : q p := by
  have hp : 1 ≤ p ∧ p ≤ 7 := by simpa [db] using hp
  have := h ⟨(p - 1).toNat, by omega⟩
  simp only at this
  rwa [Int.toNat_of_nonneg (by omega), show p - 1 + 1 = p by omega] at this
theorem nf {p b : Int} (h0 : 0 ≤ b) (h1 : b ≤ 255) : Ev (fun k => bW k p b) (cG p b) := by
  by_cases hp : db p = true
  · refine ge (fun k => dL p b k) (k := 20) ?_
    refine lU (q := fun p => bW 20 p b = some (cG p b)) ?_ hp
    intro n
    exact cq (p := fun b => bW 20 ((n.val : Nat) + 1 : Int) b = some (cG ((n.val : Nat) + 1 : Int) b)) (by revert n; decide +kernel) h0 h1
  · unfold bW cG
    obtain ⟨t, e⟩ := g6 p
    refine br e ?_
    rw [Bool.not_eq_true] at hp
    rw [hp]
    exact af (by simp) (aI _)
theorem lD (r : Int) (h0 : 160 ≤ r) (h1 : r < 2147483648) (b : Bool) (hb : b = true ↔ (r ≤ 55295 ∨ 63744 ≤ r ∧ r ≤ 64975 ∨ 65008 ≤ r ∧ r ≤ 65519)) : Ev (fun k => av k r b) (fX r) := by
  refine Ev.step (fun k => by rw [av]) ?_
  have hm : Go.bits .and .i32 r 65535 = r % 65536 := bits_mask .i32 31 (by decide) wraps_i32 16 (by decide) r (by omega) (by omega)
  unfold fX
  refine Ev.ite (fun h => Ev.val ?_) (fun h => Ev.ite (fun h2 => Ev.val ?_) (fun h2 => Ev.ite (fun h3 => Ev.val ?_) (fun h3 => ?_)))
  · have := hb.1 h
    symm
    rw [decide_eq_true_iff]
    omega
  · have hnb : ¬ (r ≤ 55295 ∨ 63744 ≤ r ∧ r ≤ 64975 ∨ 65008 ≤ r ∧ r ≤ 65519) := fun x => h (hb.2 x)
    symm
    rw [decide_eq_false_iff_not]
    omega
  · have hnb : ¬ (r ≤ 55295 ∨ 63744 ≤ r ∧ r ≤ 64975 ∨ 65008 ≤ r ∧ r ≤ 65519) := fun x => h (hb.2 x)
    symm
    rw [decide_eq_false_iff_not]
    omega
  · have hnb : ¬ (r ≤ 55295 ∨ 63744 ≤ r ∧ r ≤ 64975 ∨ 65008 ≤ r ∧ r ≤ 65519) := fun x => h (hb.2 x)
    rw [hm]
    refine Ev.ite (fun h4 => Ev.ite (fun h5 => Ev.val ?_) (fun h5 => Ev.val ?_)) (fun h4 => Ev.val ?_)
    · symm
      rw [decide_eq_true_iff]
      omega
    · rw [decide_eq_decide]
      omega
    · symm
      rw [decide_eq_false_iff_not]
      omega
theorem l9 (r : Int) (h1 : r < 2147483648) : Ev (fun k => cj k r) (fX r) := by
  unfold cj
  refine Ev.ite (fun h => Ev.val ?_) (fun h => ?_)
  · unfold fX
    symm
    rw [decide_eq_false_iff_not]
    omega
  · have key := lD r (by omega) h1
    refine Ev.ite (fun h2 => key _ ?_) (fun h2 => Ev.ite (fun h3 => Ev.ite (fun h4 => key _ ?_) (fun h4 => Ev.ite (fun h5 => key _ ?_) (fun h5 => key _ ?_))) (fun h3 => Ev.ite (fun h5 => key _ ?_) (fun h5 => key _ ?_))) <;> simp <;> omega
theorem lV (r : Int) : dp r = some (mv r) := by
  unfold dp mv
  (repeat' split) <;> congr 1 <;> first | (symm; rw [decide_eq_true_iff]; omega) | (symm; rw [decide_eq_false_iff_not]; omega) | (rw [decide_eq_decide]; omega)
theorem nA {r : Int} (h0 : 0 ≤ r) (h1 : r < 128) : r % 256 = r := by omega
theorem nM (p : Int) (iri : Bool) (r : Int) (h0 : 0 ≤ r) (h1 : r < 2147483648) : Ev (fun k => cX k p iri r) (eh p iri r) := by
  unfold cX eh
  refine ab (by omega) ?_
  refine Ev.step (fun k => by rw [bC]) ?_
  by_cases h : r < 128
  · rw [if_pos ⟨h0, h⟩, nA h0 h]
    refine ab (by simpa using h) ?_
    exact az (nf h0 (by omega)) (aI _)
  · rw [if_neg (fun x => h x.2)]
    refine af (by simpa using h) ?_
    obtain ⟨t, e⟩ := g6 p
    refine br e ?_
    simp only
    cases hp : db p
    · refine af (by simp) ?_
      refine Ev.step (fun k => by rw [bJ]) ?_
      refine ab rfl (Ev.val ?_)
      simp
    · refine ab rfl ?_
      refine Ev.step (fun k => by rw [bJ]) ?_
      cases iri
      · exact ab rfl (aI _)
      · refine af (by simp) (az (l9 r h1) ?_)
        cases hc : fX r
        · refine af (by simp) (Ev.ite (fun h6 => ?_) (fun h6 => ?_))
          · refine br (lV r) (Ev.val ?_)
            simp [h6]
          · exact Ev.val (by simp [h6])
        · exact ab rfl (Ev.val (by simp))
theorem jG (t : List Int) (h : ∀ c ∈ t, 128 ≤ c ∧ c ≤ 191) : ∀ r, 0 ≤ r → t.length ≤ 3 → r < bnd t.length → 0 ≤ fI r t ∧ fI r t < 33554432 := by
  induction t with
  | nil => intro r h0 _ h1; exact ⟨h0, h1⟩
  | cons c t ih =>
    intro r h0 hl h1
    obtain ⟨c0, c1⟩ := h c (List.mem_cons_self ..)
    rw [List.length_cons] at hl h1
    have hb := jo (by omega) h0 h1 c0 c1
    exact ih (fun d hd => h d (List.mem_cons_of_mem _ hd)) _ hb.1 (by omega) hb.2.1
theorem lF (l : List Int) (hl : ∀ b ∈ l, 0 ≤ b ∧ b ≤ 255) : 0 ≤ (dec l).1 ∧ (dec l).1 < 33554432 := by
  cases l with
  | nil => simp [dec]
  | cons b t =>
    obtain ⟨b0, b1⟩ := hl b (List.mem_cons_self ..)
    rw [eE]
    have hr := d9 b
    by_cases hz : (shp b).1 = 0
    · rw [if_pos hz]; simp
    · rw [if_neg hz]
      have hm : 2 ≤ (shp b).1 → ∀ c ∈ t.take (bo ((shp b).1.toNat - 1) (shp b).2.1 (shp b).2.2 t), 128 ≤ c ∧ c ≤ 191 := fun h2 => gL _ _ _ (ew h2).1 (ew h2).2 _
      have hc := gg ((shp b).1.toNat - 1) (shp b).2.1 (shp b).2.2 t
      revert hm hc
      generalize bo ((shp b).1.toNat - 1) (shp b).2.1 (shp b).2.2 t = m
      intro hm hc
      by_cases h2 : (m : Int) + 1 < (shp b).1
      · rw [if_pos h2]; simp
      · rw [if_neg h2]
        have hld := jC b0 b1 (by omega)
        simp only
        refine jG _ ?_ _ hld.1 (by rw [List.length_take]; omega) ?_
        · intro c hcc
          by_cases h2 : 2 ≤ (shp b).1
          · exact hm h2 c (by rw [show m = (shp b).1.toNat - 1 by omega]; exact hcc)
          · rw [show (shp b).1.toNat - 1 = 0 by omega] at hcc
            simp at hcc
        · refine Int.lt_of_lt_of_le hld.2 ?_
          generalize (t.take ((shp b).1.toNat - 1)).length = n
          rcases n with _ | _ | _ | n <;> simp [bnd]
theorem eU (s : ByteArray) : ∀ b ∈ aa s, 0 ≤ b ∧ b ≤ 255 := fun _ h => hP h
theorem fg (s : ByteArray) (i : Nat) : aa (s.extract i s.size) = (aa s).drop i := by
  rw [bV, ← am, List.take_length]
theorem iU {p : Int} {iri : Bool} {l : List Int} (hp : db p = true) (h : ba l < 0) : bm p iri l = if (dec l).2.2 && eh p iri (dec l).1 then (dec l).2.1.toNat else 0 := by
  unfold bm
  rw [if_pos hp, if_neg (by omega)]
theorem ni (p : Int) (iri : Bool) (s : ByteArray) (hs : s.size ≤ 140737488351232) (hp : db p = true) : ∀ d i : Nat, i + d = s.size → Ev (fun k => bf k p iri s (i : Int)) ((i : Int) + cv p iri ((aa s).drop i)) := by
  intro d
  induction d using Nat.strongRecOn with
  | _ d ih =>
    intro i hi
    refine Ev.step (fun k => by rw [bf]) ?_
    refine Ev.ite (fun h => ?_) (fun h => ?_)
    · obtain ⟨t, e⟩ := g6 p
      refine br e ?_
      simp only
      refine ab hp (az (jS s i (by omega) hs) ?_)
      rw [ea]
      by_cases he : ba ((aa s).drop i) < 0
      · simp only [if_pos he]
        refine af (by simp) (ab (by omega) (ab (by omega) ?_))
        rw [Int.toNat_natCast]
        have hd := mc (s.extract i s.size) (by rw [← am, fg, List.length_drop, am]; omega)
        rw [fg] at hd
        refine az hd ?_
        rw [iU hp he]
        have hr := lF ((aa s).drop i) (fun b hb => eU s b (List.mem_of_mem_drop hb))
        have hn := mC ((aa s).drop i)
        rw [List.length_drop, am] at hn
        cases hok : (dec ((aa s).drop i)).2.2
        · refine af (by simp) (Ev.val (by simp))
        · refine ab rfl (az (nM p iri _ hr.1 (by omega)) ?_)
          have hn1 := ma hok
          cases hm : eh p iri (dec ((aa s).drop i)).1
          · refine af (by simp) (Ev.val (by simp))
          · refine ab rfl ?_
            rw [w64 (by omega) (by omega)]
            simp only [Bool.and_self, if_true]
            rw [if_neg (by omega), List.drop_drop]
            have := ih (s.size - (i + (dec ((aa s).drop i)).2.1.toNat)) (by omega) (i + (dec ((aa s).drop i)).2.1.toNat) (by omega)
            have e1 : ((i + (dec ((aa s).drop i)).2.1.toNat : Nat) : Int) = (i : Int) + (dec ((aa s).drop i)).2.1 := by omega
            rw [e1] at this
            have e2 : (i : Int) + (((dec ((aa s).drop i)).2.1.toNat + cv p iri ((aa s).drop (i + (dec ((aa s).drop i)).2.1.toNat)) : Nat) : Int) = (i : Int) + (dec ((aa s).drop i)).2.1 + (cv p iri ((aa s).drop (i + (dec ((aa s).drop i)).2.1.toNat)) : Int) := by omega
            rw [e2]
            exact this
      · simp only [if_neg he]
        refine ab (by simp) ?_
        have h3 : bm p iri ((aa s).drop i) = 3 := by unfold bm; rw [if_pos hp, if_pos (by omega)]
        have hl := g7 p iri ((aa s).drop i)
        rw [h3, List.length_drop, am] at hl
        rw [h3, w64 (by omega) (by omega), if_neg (by omega), List.drop_drop]
        have := ih (s.size - (i + 3)) (by omega) (i + 3) (by omega)
        have e2 : (i : Int) + ((3 + cv p iri ((aa s).drop (i + 3)) : Nat) : Int) = ((i + 3 : Nat) : Int) + (cv p iri ((aa s).drop (i + 3)) : Int) := by omega
        rw [e2]
        exact this
    · rw [List.drop_of_length_le (by rw [am]; omega), jE]
      exact Ev.val (by simp)
theorem nE (p : Int) (iri : Bool) (s : ByteArray) (hs : s.size ≤ 140737488351232) : Ev (fun k => cm k p iri s) (cv p iri (aa s) : Int) := by
  unfold cm
  by_cases hp : db p = true
  · have := ni p iri s hs hp s.size 0 (by omega)
    simpa using this
  · have hz : bm p iri (aa s) = 0 := by unfold bm; rw [if_neg hp]
    rw [ea, if_pos hz]
    refine Ev.step (fun k => by rw [bf]) ?_
    obtain ⟨t, e⟩ := g6 p
    refine Ev.ite (fun h => br e ?_) (fun h => aI _)
    exact af hp (aI _)
theorem nJ (p : Int) (iri : Bool) (s : ByteArray) (hs : s.size ≤ 140737488351232) : Ev (fun k => cC k p iri s) (bU p iri (aa s)) := by
  unfold cC
  refine az (nE p iri s hs) (Ev.val ?_)
  unfold bU
  rw [am, Bool.eq_iff_iff, beq_iff_eq, beq_iff_eq]
  omega
end Go.Proofs.YtmofhijbheimmaaDoor.Y
namespace Go.Proofs.YtmofhijbheimmaaDoor.Y
open Go.RowKit Go.Proofs.YtmofhijbheimmaaDoor.X Go.Proofs.YtmofhijbheimmaaDoor.M Go.Proofs.YtmofhijbheimmaaDoorW.PrintWords Go.Proofs.YtmofhijbheimmaaDoorW.PrintLast Go.Proofs.YtmofhijbheimmaaDoorW.PrintMore
theorem mS (s : ByteArray) (hs : s.size ≤ 1000000) : ∀ d i : Nat, i + d = s.size → Ev (fun k => da k s (i : Int)) (cF i ((aa s).drop i)) := by
  intro d
  induction d using Nat.strongRecOn with
  | _ d ih =>
    intro i hi
    refine Ev.step (fun k => by rw [da]) ?_
    rcases cd s i (by omega) with ⟨h1, e⟩ | ⟨h1, e, _, _⟩
    · rw [e, gu]
      exact af (by omega) (aI _)
    · refine ab (by omega) (az (jS s i (by omega) (by omega)) ?_)
      by_cases h : 0 ≤ ba ((aa s).drop i)
      · rw [if_neg (by omega), gt h, List.drop_drop]
        have h3 : i + 3 ≤ s.size := by
          have : ¬ ((aa s).drop i).length < 3 := fun hl => by rw [fi hl] at h; omega
          rw [List.length_drop, am] at this; omega
        exact ab rfl (az (ih (d - 3) (by omega) (i + 3) (by omega)) (aI _))
      · rw [if_pos (by omega)]
        rw [e] at h ⊢
        rw [gS (by omega)]
        exact af (by simp) (ih (d - 1) (by omega) (i + 1) (by omega))
theorem lM (t : ByteArray) (n : Nat) (hn : n ≤ t.size) (hs : t.size ≤ 1000000) : ∃ j : Int, Ev (fun k => bE k t (n : Int) (⟨#[37]⟩ : ByteArray)) j ∧ (j < 0 ↔ ((aa t).drop n).contains 37 = false) := by
  refine ⟨_, nv t (⟨#[37]⟩ : ByteArray) n hn (by omega) (by decide), ?_⟩
  have hb : aa (⟨#[37]⟩ : ByteArray) = [37] := rfl
  have hg := iS (fun b => (aa (⟨#[37]⟩ : ByteArray)).contains b) ((aa t).drop n)
  have hh := lL (p := fun b => (aa (⟨#[37]⟩ : ByteArray)).contains b) (l := (aa t).drop n)
  have hc : ((aa t).drop n).contains 37 = false ↔ ∀ b ∈ (aa t).drop n, (aa (⟨#[37]⟩ : ByteArray)).contains b = false := by
    rw [hb]
    simp only [List.contains_eq_mem, List.mem_singleton, decide_eq_false_iff_not]
    exact ⟨fun h b hb e => h (e ▸ hb), fun h hm => h 37 hm rfl⟩
  rw [hc, ← hh]
  generalize cW (fun b => (aa (⟨#[37]⟩ : ByteArray)).contains b) ((aa t).drop n) = j at hg ⊢
  dsimp only
  split <;> omega
theorem lK (s : ByteArray) (hs : s.size ≤ 1000000) : ∀ d i : Nat, i + d = s.size → ∀ p : Nat, p ≤ i → (∀ j, p ≤ j → j < i → ba ((aa s).drop j) < 0) → Ev (fun k => cn k s (cF i ((aa s).drop i)) (p : Int)) (bw ((aa s).drop p)) := by
  intro d
  induction d using Nat.strongRecOn with
  | _ d ih =>
    intro i hi p hp hno
    have hl := am s
    have ha := ii (aa s) p (i - p) (by omega) (fun j h1 h2 => hno j h1 (by omega))
    rw [show p + (i - p) = i by omega] at ha
    rcases cd s i (by omega) with ⟨h1, e⟩ | ⟨h1, e, _, _⟩
    · rw [e] at ha ⊢
      rw [gu, ha, gx, Bool.and_true, List.take_of_length_le (by rw [List.length_drop]; omega)]
      obtain ⟨j, hj, hc⟩ := lM s p (by omega) hs
      refine az hj (Ev.val ?_)
      cases hb : ((aa s).drop p).contains 37 with
      | false => simpa using hc.2 hb
      | true => rw [hb] at hc; simp at hc; simpa using hc
    · by_cases h : 0 ≤ ba ((aa s).drop i)
      · have h3 : i + 3 ≤ s.size := by
          have : ¬ ((aa s).drop i).length < 3 := fun hl => by rw [fi hl] at h; omega
          rw [List.length_drop, am] at this; omega
        rw [gt h, List.drop_drop, ha, fl h, List.drop_drop]
        obtain ⟨j, hj, hc⟩ := lM (s.extract p i) 0 (by omega) (by rw [← am, bV, List.length_drop, List.length_take]; omega)
        rw [List.drop_zero, bV, List.drop_take] at hc
        have hex : (s.extract (p : Int).toNat (i : Int).toNat) = s.extract p i := by simp
        unfold cn
        refine ab (by omega) ?_
        rw [hex]
        refine az hj ?_
        cases hb : (((aa s).drop p).take (i - p)).contains 37 with
        | false =>
          have := hc.2 hb
          refine af (by omega) ?_
          rw [Bool.not_false, Bool.true_and]
          exact ih (d - 3) (by omega) (i + 3) (by omega) (i + 3) (by omega) (fun j h1 h2 => by omega)
        | true =>
          rw [hb] at hc
          have hj : ¬ j < 0 := fun h => by have := hc.1 h; cases this
          exact ab (by omega) (aI _)
      · have hn : ba (bt s (i : Int) :: (aa s).drop (i + 1)) < 0 := by rw [← e]; omega
        rw [e, gS hn]
        refine ih (d - 1) (by omega) (i + 1) (by omega) p (by omega) (fun j h1 h2 => ?_)
        rcases Nat.lt_or_ge j i with h3 | h3
        · exact hno j h1 h3
        · rw [show j = i by omega]; omega
theorem mf (T : Nat → Int → Option (ByteArray × Bool)) (f : Int → Option (List Int)) (hT : ∀ b, 0 ≤ b → b ≤ 255 → ∃ x : ByteArray × Bool, Ev (fun k => T k b) x ∧ x.1.size ≤ 3 ∧ f b = if x.2 then some (aa x.1) else none) (s : ByteArray) (hs : s.size ≤ 1000000) :
    ∀ d i : Nat, i + d = s.size → ∀ p : Nat, p ≤ i → eg f ((aa s).drop p) = ((aa s).drop p).take (i - p) ++ eg f ((aa s).drop i) → ∀ out : List Int, out.length ≤ p →
      Ev (fun k => dE (T k) s (cF i ((aa s).drop i)) (p : Int) out) (out ++ eg f ((aa s).drop p)) := by
  intro d
  induction d using Nat.strongRecOn with
  | _ d ih =>
    intro i hi p hp ha out ho
    have hl := am s
    rcases cd s i (by omega) with ⟨h1, e⟩ | ⟨h1, e, _, _⟩
    · rw [e] at ha ⊢
      rw [gu, ha, jx, List.append_nil, List.take_of_length_le (by rw [List.length_drop]; omega)]
      unfold dE
      exact ab ⟨by omega, by omega, by omega⟩ (Ev.val (by rw [Int.toNat_natCast, fg]))
    · by_cases h : 0 ≤ ba ((aa s).drop i)
      · have h3 : i + 3 ≤ s.size := by
          have : ¬ ((aa s).drop i).length < 3 := fun hl => by rw [fi hl] at h; omega
          rw [List.length_drop, am] at this; omega
        have hr := gi ((aa s).drop i)
        obtain ⟨⟨tt, ok⟩, hx, hsz, hf⟩ := hT _ h hr.2
        rw [jw h, List.drop_drop, hf] at ha
        rw [gt h, List.drop_drop]
        unfold dE
        refine ab ⟨by omega, by omega, by omega, by omega, by omega, by omega⟩ (az hx ?_)
        dsimp only at hsz ha ⊢
        cases ok with
        | false =>
          refine af (by simp) (ih (d - 3) (by omega) (i + 3) (by omega) p (by omega) ?_ out ho)
          rw [ha]
          simp only [Bool.false_eq_true, if_false, Option.getD_none]
          rw [← List.append_assoc, show i + 3 - p = (i - p) + 3 by omega, List.take_add, List.drop_drop, show p + (i - p) = i by omega]
        | true =>
          refine ab rfl (ab (by omega) ?_)
          have := ih (d - 3) (by omega) (i + 3) (by omega) (i + 3) (by omega) (by simp) (out ++ aa (s.extract p i) ++ aa tt) (by
            rw [List.length_append, List.length_append, bV, List.length_drop, List.length_take, am tt]; omega)
          rw [Int.toNat_natCast, Int.toNat_natCast, ha]
          rw [bV, List.drop_take] at this
          simp only [if_true, Option.getD_some]
          rw [bV, List.drop_take]
          simpa [List.append_assoc] using this
      · have hn : ba (bt s (i : Int) :: (aa s).drop (i + 1)) < 0 := by rw [← e]; omega
        rw [e, gS hn]
        refine ih (d - 1) (by omega) (i + 1) (by omega) p (by omega) ?_ out ho
        rw [ha]
        rw [show i + 1 - p = (i - p) + 1 by omega, List.take_add, List.drop_drop, show p + (i - p) = i by omega, e, jX hn]
        simp
theorem jJ (s : ByteArray) (hs : s.size ≤ 1000000) : Ev (fun k => b5 k s) (if bw (aa s) then (strOfNums (cl (aa s)), true) else ((⟨#[]⟩ : ByteArray), false)) := by
  unfold b5
  have h1 := mS s hs s.size 0 (by omega)
  have h2 := lK s hs s.size 0 (by omega) 0 (by omega) (fun j _ h => by omega)
  have h3 := mf (fun _ b => some (strOfNums [b], true)) (fun b => some [b]) (fun b h0 h1 => ⟨(strOfNums [b], true), aI _, by rw [fC (l := [b]) (by intro c hc; rw [List.mem_singleton.1 hc]; omega)]; simp, by rw [if_pos rfl, cS (l := [b]) (by intro c hc; rw [List.mem_singleton.1 hc]; omega)]⟩) s hs s.size 0 (by omega) 0 (by omega) (by simp) [] (by simp)
  rw [List.drop_zero] at h1 h2 h3
  rw [mq _ _ rfl] at h3
  refine ab hs (az h1 (az h2 ?_))
  cases bw (aa s) with
  | true => exact ab rfl (az h3 (aI _))
  | false => exact af (by simp) (aI _)
set_option maxRecDepth 100000 in
theorem mU {b : Int} (h0 : 0 ≤ b) (h1 : b ≤ 255) : Ev (fun k => cV k b) (strOfNums (ed b)) :=
  ge (fun k => eH b k) (k := 12) (cq (p := fun b => (cV 12 b).map aa = some (ed b)) (by decide +kernel) h0 h1 |> fun h => by
    obtain ⟨x, hx, e⟩ := Option.map_eq_some_iff.1 h
    rw [hx, gX e])
set_option maxRecDepth 100000 in
theorem ng {b : Int} (h0 : 0 ≤ b) (h1 : b ≤ 255) : cu b = some (strOfNums (ed b)) :=
  cq (p := fun b => (cu b).map aa = some (ed b)) (by decide +kernel) h0 h1 |> fun h => by
    obtain ⟨x, hx, e⟩ := Option.map_eq_some_iff.1 h
    rw [hx, gX e]
theorem ee {b : Int} (h0 : 0 ≤ b) (h1 : b ≤ 255) : ∀ c ∈ ed b, 0 ≤ c ∧ c ≤ 255 := by
  have a := fY (d := b / 16) (by omega) (by omega)
  have c := fY (d := b % 16) (by omega) (by omega)
  intro x hx
  simp only [ed, List.mem_cons, List.not_mem_nil, or_false] at hx
  rcases hx with rfl | rfl | rfl <;> omega
theorem fh {keep : Int → Bool} : ∀ l : List Int, (∀ b ∈ l, 0 ≤ b ∧ b ≤ 255) → ∀ c ∈ aU keep l, 0 ≤ c ∧ c ≤ 255
  | [], _ => by intro c hc; cases hc
  | b :: t, h => by
    have hb := h b (List.mem_cons_self ..)
    have ih := fh (keep := keep) t (fun c hc => h c (List.mem_cons_of_mem _ hc))
    rw [dt]
    intro c hc
    rcases List.mem_append.1 hc with hc | hc
    · by_cases e : keep b = true
      · rw [if_pos e] at hc
        rw [List.mem_singleton.1 hc]; exact hb
      · rw [if_neg e] at hc
        exact ee hb.1 hb.2 c hc
    · exact ih c hc
end Go.Proofs.YtmofhijbheimmaaDoor.Y
namespace Go.Proofs.YtmofhijbheimmaaDoor.Y
open Go.RowKit Go.Proofs.YtmofhijbheimmaaDoor.X Go.Proofs.YtmofhijbheimmaaDoor.M Go.Proofs.YtmofhijbheimmaaDoorW.PrintWords Go.Proofs.YtmofhijbheimmaaDoorW.PrintLast Go.Proofs.YtmofhijbheimmaaDoorW.PrintMore
theorem nj (s sep : ByteArray) (c : Int) (hsep : aa sep = [c]) (hs : s.size < 4294967281) : ∃ R : List ByteArray, cT s sep = some R ∧ R.map aa = aV c (aa s) := by
  have h1 : sep.size = 1 := by rw [← am, hsep]; rfl
  refine ⟨_, ?_, jg c sep hsep _ s rfl⟩
  unfold cT
  rw [if_pos ⟨hs, by omega⟩]
end Go.Proofs.YtmofhijbheimmaaDoor.Y
namespace Go.Proofs.YtmofhijbheimmaaDoor.Y
open Go.RowKit Go.Proofs.YtmofhijbheimmaaDoor.X Go.Proofs.YtmofhijbheimmaaDoor.M Go.Proofs.YtmofhijbheimmaaDoorW.PrintWords Go.Proofs.YtmofhijbheimmaaDoorW.PrintLast Go.Proofs.YtmofhijbheimmaaDoorW.PrintMore
def aW (b : Int) : Bool := isc b 15 || b == 58 || b == 64
set_option maxRecDepth 100000 in
theorem mo : ∀ b, 0 ≤ b → b ≤ 255 → aW b = true → b < 128 ∧ b ≠ 37 ∧ cG 5 b = true := by
  intro b h0 h1
  have := cq (p := fun b => aW b = true → b < 128 ∧ b ≠ 37 ∧ cG 5 b = true) (by decide +kernel) h0 h1
  exact this
theorem ml : aW 37 = false := by decide
theorem mm : aW 47 = false := by decide
theorem lH (s : ByteArray) (hs : s.size ≤ 1000000) : ∀ d i : Nat, i + d = s.size → ∀ x : List Int, x = aU aW ((aa s).take i) → Ev (fun k => aw k s x (s.size : Int) (i : Int)) (strOfNums (aU aW (aa s))) := by
  intro d
  induction d with
  | zero =>
    intro i hi x hx
    refine Ev.step (fun k => by rw [aw]) ?_
    rw [List.take_of_length_le (by rw [am]; omega)] at hx
    rw [hx]
    exact af (by omega) (aI _)
  | succ d ih =>
    intro i hi x hx
    refine Ev.step (fun k => by rw [aw]) ?_
    have hb := gK s (i : Int)
    have hw : wrap64 ((i : Int) + 1) = ((i + 1 : Nat) : Int) := by rw [w64 (by omega) (by omega)]; omega
    have hlen : x.length ≤ 3 * i := by
      rw [hx]
      have := im (keep := aW) ((aa s).take i)
      rw [List.length_take] at this; omega
    have hnext : aU aW ((aa s).take (i + 1)) = x ++ (if aW (bt s (i : Int)) then [bt s (i : Int)] else ed (bt s (i : Int))) := by
      rw [l5 (by omega), hx]
      unfold aU
      rw [List.flatMap_append]
      simp
    rw [hw]
    refine ab (by omega) (ab (by omega) (ab (by omega) (az (nS 15 hb.1 hb.2) ?_)))
    have hks : aW (bt s (i : Int)) = (isc (bt s (i : Int)) 15 || bt s (i : Int) == 58 || bt s (i : Int) == 64) := rfl
    by_cases h1 : isc (bt s (i : Int)) 15 = true
    · refine ab h1 (ab (by omega) (ih (i + 1) (by omega) _ ?_))
      rw [hnext, hks, h1]; rfl
    · rw [Bool.not_eq_true] at h1
      refine af (by rw [h1]; simp) ?_
      by_cases h2 : bt s (i : Int) = 58
      · refine ab h2 (ab (by omega) (ih (i + 1) (by omega) _ ?_))
        rw [hnext, hks, h2]; simp
      · refine af h2 ?_
        by_cases h3 : bt s (i : Int) = 64
        · refine ab h3 (ab (by omega) (ih (i + 1) (by omega) _ ?_))
          rw [hnext, hks, h3]; simp
        · refine af h3 (az (mU hb.1 hb.2) ?_)
          rw [fC (ee hb.1 hb.2), cS (ee hb.1 hb.2)]
          have e3 : (ed (bt s (i : Int))).length = 3 := rfl
          refine ab (by omega) (ih (i + 1) (by omega) _ ?_)
          rw [hnext, hks, h1, beq_eq_false_iff_ne.2 h2, beq_eq_false_iff_ne.2 h3]; rfl
theorem me (s : ByteArray) (hs : s.size ≤ 1000000) : Ev (fun k => cO k s) (strOfNums (aU aW (aa s))) := lH s hs s.size 0 (by omega) [] rfl
theorem nw (P : List ByteArray) (sep : ByteArray) (c : UInt8) (hsep : sep.data.toList = [c]) (l : List Int) (hl : jn (c.toNat : Int) (P.map aa) = l) (hs : l.length ≤ 100000000000000) (hp : P.length ≤ 100000000000000) : df P sep = some (strOfNums l) := by
  have e : ((Go.Lib.join (P.map (·.data.toList)) sep.data.toList)).map (fun b => (b.toNat : Int)) = l := by
    rw [hsep, jW, List.map_map]
    exact hl
  have e2 : (Go.Lib.join (P.map (·.data.toList)) sep.data.toList).length = l.length := by rw [← e, List.length_map]
  unfold df
  rw [if_pos ⟨by omega, by omega⟩]
  exact congrArg some (gX e)
def dA (L : List (List Int)) : Nat := (L.map List.length).sum + L.length
theorem km (c : Int) (L : List (List Int)) : (jn c L).length ≤ dA L := by
  cases L with
  | nil => simp [jn, dA]
  | cons a L =>
    have := lN c (a :: L) (by simp)
    unfold dA; omega
theorem g8 (keep : Int → Bool) : ∀ L : List (List Int), dA (L.map (aU keep)) ≤ 3 * dA L
  | [] => by simp [dA]
  | a :: L => by
    have ih := g8 keep L
    have := im (keep := keep) a
    unfold dA at ih ⊢
    simp only [List.map_cons, List.sum_cons, List.length_cons, List.length_map] at ih ⊢
    omega
theorem jZ (L : List (List Int)) : L.length ≤ dA L := by unfold dA; omega
theorem j7 {L : List (List Int)} : ∀ p ∈ L, p.length ≤ dA L := by
  induction L with
  | nil => intro p hp; cases hp
  | cons a L ih =>
    intro p hp
    unfold dA at ih ⊢
    simp only [List.map_cons, List.sum_cons, List.length_cons]
    rcases List.mem_cons.1 hp with rfl | hp
    · omega
    · have := ih p hp; omega
theorem dN {R : List ByteArray} {i : Nat} (h : i < R.length) : al ByteArray.empty R (i : Int) = R[i] := by
  unfold al
  rw [Int.toNat_natCast, List.getD_eq_getElem?_getD, List.getElem?_eq_getElem h]; rfl
theorem nl (r : Bool) (R : List ByteArray) (hS : dA (R.map aa) ≤ 1000000) : ∀ d i : Nat, i + d = R.length → ∀ x : List ByteArray, x.map aa = ((R.map aa).take i).map (aU aW) →
    Ev (fun k => aH k x R (R.length : Int) (i : Int) r R) (strOfNums (cM aW (r, R.map aa))) := by
  have hlen := jZ (R.map aa)
  rw [List.length_map] at hlen
  have hrange : ∀ p ∈ R.map aa, ∀ b ∈ p, 0 ≤ b ∧ b ≤ 255 := by
    intro p hp; obtain ⟨s, _, rfl⟩ := List.mem_map.1 hp; exact eU s
  intro d
  induction d with
  | zero =>
    intro i hi x hx
    refine Ev.step (fun k => by rw [aH]) ?_
    rw [List.take_of_length_le (by rw [List.length_map]; omega)] at hx
    have hxl : x.length = R.length := by have := congrArg List.length hx; simpa using this
    have h1 := km 47 ((R.map aa).map (aU aW))
    have h2 := g8 aW (R.map aa)
    have hjr : ∀ b ∈ jn 47 ((R.map aa).map (aU aW)), 0 ≤ b ∧ b ≤ 255 := io (by decide) (fun p hp => by
      obtain ⟨q, hq, rfl⟩ := List.mem_map.1 hp
      exact fh q (hrange q hq))
    refine af (by omega) (br (nw x _ 47 rfl (jn 47 ((R.map aa).map (aU aW))) (by rw [hx]; rfl) (by omega) (by omega)) ?_)
    have hsz := fC hjr
    cases r with
    | true =>
      refine ab rfl (ab (by omega) (Ev.val ?_))
      refine gX ?_
      rw [ec, cS hjr]; rfl
    | false => exact af (by simp) (aI _)
  | succ d ih =>
    intro i hi x hx
    refine Ev.step (fun k => by rw [aH]) ?_
    have hxl : x.length = i := by
      have := congrArg List.length hx
      rw [List.length_map, List.length_map, List.length_take, List.length_map] at this; omega
    have hw : wrap64 ((i : Int) + 1) = ((i + 1 : Nat) : Int) := by rw [w64 (by omega) (by omega)]; omega
    rw [hw, dN (i := i) (by omega)]
    have hm : aa R[i] ∈ R.map aa := List.mem_map.2 ⟨_, List.getElem_mem _, rfl⟩
    have hseg := j7 _ hm
    rw [am] at hseg
    refine ab (by omega) (ab (by omega) (ab (by omega) (az (me R[i] (by omega)) (ab (by omega) ?_))))
    refine ih (i + 1) (by omega) _ ?_
    rw [List.map_append, hx, List.take_add_one, List.map_append, List.getElem?_map, List.getElem?_eq_getElem (by omega)]
    show _ ++ [aa (strOfNums _)] = _ ++ [aU aW (aa R[i])]
    rw [cS (fh _ (eU _))]
theorem nG (r : Bool) (R : List ByteArray) (hS : dA (R.map aa) ≤ 1000000) : Ev (fun k => bn k r R) (strOfNums (cM aW (r, R.map aa))) :=
  nl r R hS R.length 0 (by omega) [] rfl
theorem mt (r : Bool) (R : List ByteArray) (hR : R.length ≤ 1000000) (h : ∀ s ∈ R, s.size ≤ 1000000 ∧ bw (aa s) = true) : ∀ d i : Nat, i + d = R.length → ∀ x : List ByteArray, x = (R.take i).map (fun s => strOfNums (cl (aa s))) →
    Ev (fun k => bj k R (R.length : Int) (i : Int) r x) (r, R.map (fun s => strOfNums (cl (aa s))), 0) := by
  intro d
  induction d with
  | zero =>
    intro i hi x hx
    refine Ev.step (fun k => by rw [bj]) ?_
    rw [List.take_of_length_le (by omega)] at hx
    rw [hx]
    exact af (by omega) (aI _)
  | succ d ih =>
    intro i hi x hx
    refine Ev.step (fun k => by rw [bj]) ?_
    have hw : wrap64 ((i : Int) + 1) = ((i + 1 : Nat) : Int) := by rw [w64 (by omega) (by omega)]; omega
    have hxl : x.length = i := by rw [hx, List.length_map, List.length_take]; omega
    rw [hw, dN (i := i) (by omega)]
    obtain ⟨h1, h2⟩ := h R[i] (List.getElem_mem _)
    have hd := jJ R[i] h1
    rw [h2, if_pos rfl] at hd
    refine ab (by omega) (ab (by omega) (ab (by omega) (az hd (ab (by omega) (ih (i + 1) (by omega) _ ?_)))))
    rw [hx, List.take_add_one, List.map_append, List.getElem?_eq_getElem (by omega)]; rfl
theorem jy (r : Bool) (s : ByteArray) (hs : s.size ≤ 200000) (hr : bw (aa s) = true) : Ev (fun k => bi k s r) (r, ((aV 47 (aa s)).map cl).map strOfNums, 0) := by
  obtain ⟨R, hR, hm⟩ := nj s (⟨#[47]⟩ : ByteArray) 47 rfl (by omega)
  have hl : R.length ≤ s.size + 1 := by
    have := congrArg List.length hm
    have h2 := gy 47 (aa s)
    rw [List.length_map] at this
    rw [am] at h2; omega
  refine Ev.step (fun k => by rw [bi]) (br hR ?_)
  have hall : ∀ p ∈ R, p.size ≤ 1000000 ∧ bw (aa p) = true := by
    intro p hp
    have hq : aa p ∈ aV 47 (aa s) := by rw [← hm]; exact List.mem_map.2 ⟨p, hp, rfl⟩
    have h3 := (iH _ hq).2.2
    rw [am, am] at h3
    exact ⟨by omega, jL _ _ rfl hr _ hq⟩
  have := mt r R (by omega) hall R.length 0 (by omega) [] rfl
  rw [← hm, List.map_map, List.map_map]
  exact this
theorem ne (s : ByteArray) (hs : s.size ≤ 200000) : Ev (fun k => bF k s) (if bU 5 true (aa s) then ((cL (aa s)).1, (cL (aa s)).2.map strOfNums, 0) else (false, [], 4)) := by
  unfold bF
  refine az (nJ 5 true s (by omega)) ?_
  cases ha : bU 5 true (aa s) with
  | false => exact af (by simp) (aI _)
  | true =>
    have hr := jI (by decide) (by decide) _ _ rfl (eU s) ha
    refine ab rfl ?_
    rcases ij s with ⟨h, e⟩ | ⟨h, e, _, _⟩
    · have : s = (⟨#[]⟩ : ByteArray) := fJ e
      subst this
      exact ab ((dI _).trans rfl) (aI _)
    · have hne : ¬ s.toList = [] := by
        intro h2
        have : aa s = aa (⟨#[]⟩ : ByteArray) := iJ.1 (h2.trans (dI (⟨#[]⟩ : ByteArray)).symm)
        rw [e] at this; cases this
      refine af hne (ab (by omega) ?_)
      rw [e, gr]
      by_cases h47 : bt s 0 = 47
      · rw [if_pos h47]
        refine ab h47 (ab (by omega) ?_)
        have hb := fg s 1
        have := jy true (s.extract 1 s.size) (by rw [← am, hb, List.length_drop, am]; omega) (by
          rw [hb]
          rw [e, h47, d6 (fm _ (by decide))] at hr
          exact (Bool.and_eq_true_iff.1 hr).2)
        rw [hb] at this
        exact this
      · rw [if_neg h47, ← e]
        exact af h47 (jy false s hs hr)
theorem i9 {A B : List ByteArray} {i : Nat} (ha : i < A.length) (hb : i < B.length) : (al ByteArray.empty A (i : Int)).toList = (al ByteArray.empty B (i : Int)).toList ↔ A[i] = B[i] := by
  rw [dN ha, dN hb, iJ, lz]
theorem jp {A B : List ByteArray} {i : Nat} (ha : i < A.length) (hb : i < B.length) : A.drop i = B.drop i ↔ A[i] = B[i] ∧ A.drop (i + 1) = B.drop (i + 1) := by
  rw [List.drop_eq_getElem_cons ha, List.drop_eq_getElem_cons hb, List.cons.injEq]
theorem nD (A B : List ByteArray) (h : A.length = B.length) (hA : A.length ≤ 1000000) : ∀ d i : Nat, i + d = A.length → Ev (fun k => ax k A B (A.length : Int) (i : Int)) (decide (A.drop i = B.drop i)) := by
  intro d
  induction d with
  | zero =>
    intro i hi
    refine Ev.step (fun k => by rw [ax]) (af (by omega) (Ev.val ?_))
    rw [List.drop_of_length_le (by omega), List.drop_of_length_le (by omega)]; simp
  | succ d ih =>
    intro i hi
    have hw : wrap64 ((i : Int) + 1) = ((i + 1 : Nat) : Int) := by rw [w64 (by omega) (by omega)]; omega
    refine Ev.step (fun k => by rw [ax]) (ab (by omega) (ab (by omega) (ab (by omega) (ab (by omega) (Ev.ite (fun e => ?_) (fun e => Ev.val ?_))))))
    · rw [hw]
      have := ih (i + 1) (by omega)
      rwa [show decide (A.drop i = B.drop i) = decide (A.drop (i + 1) = B.drop (i + 1)) from decide_eq_decide.2 (by rw [jp (by omega) (by omega)]; exact ⟨fun h => h.2, fun h => ⟨(i9 (by omega) (by omega)).1 e, h⟩⟩)]
    · symm
      rw [decide_eq_false_iff_not, jp (by omega) (by omega)]
      exact fun h => e ((i9 (by omega) (by omega)).2 h.1)
theorem nO (A B : List ByteArray) (hA : A.length ≤ 1000000) : Ev (fun k => bv k A B) (decide (A = B)) := by
  unfold bv
  refine Ev.ite (fun h => ?_) (fun h => Ev.val ?_)
  · have := nD A B (by omega) hA A.length 0 (by omega)
    simpa using this
  · symm; rw [decide_eq_false_iff_not]; rintro rfl; exact h rfl
theorem mR (r q : Bool) (A B : List ByteArray) (hA : A.length ≤ 1000000) : Ev (fun k => cb k r A q B) (decide ((r, A) = (q, B))) := by
  unfold cb
  refine Ev.ite (fun h => az (nO A B hA) (Ev.val ?_)) (fun h => Ev.val ?_)
  · rw [decide_eq_decide, beq_iff_eq.1 h]; simp
  · symm
    rw [decide_eq_false_iff_not]
    intro e
    injection e with e1 e2
    exact h (beq_iff_eq.2 e1)
theorem ir (r : Bool) (A : List ByteArray) : bH r A = some (iF (r, A.map aa)) := by
  unfold bH iF
  cases r with
  | true =>
    rw [if_pos rfl]
    cases A with
    | nil => rfl
    | cons a A => simp
  | false =>
    rw [if_neg (by simp)]
    cases A with
    | nil => rfl
    | cons a A =>
      rw [if_neg (by simp only [List.length_cons]; omega), if_pos (by simp only [List.length_cons]; omega)]
      have : al ByteArray.empty (a :: A) 0 = a := rfl
      rw [this]
      congr 1
      simp only [List.map_cons, List.isEmpty_cons, Bool.false_or, List.headD_cons, Bool.false_eq_true, if_false]
      rw [Bool.eq_iff_iff, bne_iff_ne, Bool.not_eq_true', List.isEmpty_eq_false_iff]
      have : a.toList = [] ↔ aa a = [] := by
        rw [dI]; unfold aa; rw [List.map_eq_nil_iff]
      exact not_congr this
set_option maxRecDepth 100000 in
theorem iv : Ev (fun k => aE k) true := ge (fun k => fF k) (k := 60) (by decide +kernel)
def gY (R : List ByteArray) : Nat := (R.map fun s => 1 + min s.size 300).sum
theorem jF : ∀ R : List ByteArray, gY R ≤ 200 → dA (R.map aa) = gY R
  | [], _ => rfl
  | s :: R, h => by
    unfold gY at h
    rw [List.map_cons, List.sum_cons] at h
    have ih := jF R (by unfold gY; omega)
    unfold dA gY at *
    simp only [List.map_cons, List.sum_cons, List.length_cons, am] at *
    omega
theorem nb (r : Bool) (R : List ByteArray) : ∀ d i n : Nat, i + d = 21 → n ≤ 301 * i → ∃ b, Ev (fun k => aR k (n : Int) (i : Int) r R) b ∧ (b = false → R.length ≤ 20 ∧ n + gY (R.drop i) ≤ 200) := by
  intro d
  induction d with
  | zero =>
    intro i n hi hn
    have stop : ∃ b, Ev (fun k => if (n : Int) > 200 then some true else some (decide ((R.length : Int) > 20))) b ∧ (b = false → R.length ≤ 20 ∧ n + gY (R.drop i) ≤ 200) := by
      by_cases h : (n : Int) > 200
      · exact ⟨true, ab h (aI _), fun h => by cases h⟩
      · refine ⟨decide ((R.length : Int) > 20), af h (aI _), fun e => ?_⟩
        rw [decide_eq_false_iff_not] at e
        refine ⟨by omega, ?_⟩
        rw [List.drop_of_length_le (by omega)]
        show n + 0 ≤ 200; omega
    obtain ⟨b, hb, hc⟩ := stop
    refine ⟨b, Ev.step (fun k => by rw [aR]) (Ev.ite (fun _ => af (by omega) hb) (fun _ => hb)), hc⟩
  | succ d ih =>
    intro i n hi hn
    by_cases hl : i < R.length
    · have e : R.drop i = R[i] :: R.drop (i + 1) := List.drop_eq_getElem_cons hl
      obtain ⟨b, hb, hc⟩ := ih (i + 1) (n + (1 + min R[i].size 300)) (by omega) (by omega)
      refine ⟨b, Ev.step (fun k => by rw [aR]) (ab (by omega) (ab (by omega) (ab (by omega) ?_))), fun h => ?_⟩
      · rw [dN hl]
        have hm : mn (R[i].size : Int) 300 = ((min R[i].size 300 : Nat) : Int) := by unfold mn; split <;> omega
        rw [hm, w64 (x := (i : Int) + 1) (by omega) (by omega), w64 (by omega) (by omega)]
        have e2 : (n : Int) + (1 + ((min R[i].size 300 : Nat) : Int)) = ((n + (1 + min R[i].size 300) : Nat) : Int) := by omega
        rw [e2]
        exact hb
      · obtain ⟨h1, h2⟩ := hc h
        refine ⟨h1, ?_⟩
        rw [e]
        unfold gY at h2 ⊢
        rw [List.map_cons, List.sum_cons]; omega
    · have : R.drop i = [] := List.drop_of_length_le (by omega)
      rw [this]
      by_cases h : (n : Int) > 200
      · exact ⟨true, Ev.step (fun k => by rw [aR]) (af (by omega) (ab h (aI _))), fun h => by cases h⟩
      · refine ⟨decide ((R.length : Int) > 20), Ev.step (fun k => by rw [aR]) (af (by omega) (af h (aI _))), fun e => ?_⟩
        rw [decide_eq_false_iff_not] at e
        refine ⟨by omega, ?_⟩
        show n + 0 ≤ 200; omega
theorem nz (r : Bool) (R : List ByteArray) : ∃ b, Ev (fun k => cK k r R) b ∧ (b = false → R.length ≤ 20 ∧ dA (R.map aa) ≤ 200) := by
  obtain ⟨b, hb, hc⟩ := nb r R 21 0 0 (by omega) (by omega)
  refine ⟨b, hb, fun h => ?_⟩
  obtain ⟨h1, h2⟩ := hc h
  rw [List.drop_zero, Nat.zero_add] at h2
  rw [jF R h2]
  exact ⟨h1, h2⟩
theorem iE (r : Bool) (R : List ByteArray) (hR : R.length ≤ 1000000) (i : Nat) (hi : i < R.length) (hs : R[i].size ≤ 1000000) (T F : List Int) (hF : F.length ≤ 1000000000)
    (next : ∀ x : ByteArray, F = aa x ++ T → Ev (fun k => aT k x ((i + 1 : Nat) : Int) r R) (strOfNums F)) :
    ∀ d j : Nat, j + d = R[i].size → ∀ x : ByteArray, F = aa x ++ (aU aW ((aa R[i]).drop j) ++ T) → Ev (fun k => aG k x (i : Int) (j : Int) r R) (strOfNums F) := by
  intro d
  induction d with
  | zero =>
    intro j hj x hx
    refine Ev.step (fun k => by rw [aG]) ?_
    rw [dN hi]
    have e : (aa R[i]).drop j = [] := List.drop_of_length_le (by rw [am]; omega)
    rw [e] at hx
    have hw : wrap64 ((i : Int) + 1) = ((i + 1 : Nat) : Int) := by rw [w64 (by omega) (by omega)]; omega
    rw [hw]
    exact ab (by omega) (ab (by omega) (af (by omega) (next x hx)))
  | succ d ih =>
    intro j hj x hx
    refine Ev.step (fun k => by rw [aG]) ?_
    rw [dN hi]
    generalize R[i] = s at *
    rcases cd s j (by omega) with ⟨h1, e⟩ | ⟨h1, e, hb0, hb1⟩
    · omega
    rw [e, dt] at hx
    have hxs : x.size ≤ 1000000000 := by
      have := congrArg List.length hx
      rw [List.length_append, am] at this; omega
    have hw : wrap64 ((j : Int) + 1) = ((j + 1 : Nat) : Int) := by rw [w64 (by omega) (by omega)]; omega
    have hb : aa (s.extract j (j + 1)) = [bt s (j : Int)] := by
      rw [bV, List.drop_take, e, show j + 1 - j = 1 by omega]; rfl
    have hsz : (s.extract j (j + 1)).size = 1 := by rw [← am, hb]; rfl
    rw [hw, Int.toNat_natCast, Int.toNat_natCast]
    have hks : aW (bt s (j : Int)) = (isc (bt s (j : Int)) 15 || bt s (j : Int) == 58 || bt s (j : Int) == 64) := rfl
    have kept : aW (bt s (j : Int)) = true → Ev (fun k => if (j : Int) ≤ ((j + 1 : Nat) : Int) then (if ((j + 1 : Nat) : Int) ≤ (s.size : Int) then (if x.size + (s.extract j (j + 1)).size ≤ 9223372036854775807 then aG k (x ++ s.extract j (j + 1)) (i : Int) ((j + 1 : Nat) : Int) r R else none) else none) else none) (strOfNums F) := by
      intro hk
      rw [hk] at hx
      refine ab (by omega) (ab (by omega) (ab (by omega) (ih (j + 1) (by omega) _ ?_)))
      rw [hx, ec, hb]; simp
    refine ab (by omega) (ab (by omega) (ab (by omega) (az (ku hb0 hb1) ?_)))
    by_cases h1 : isc (bt s (j : Int)) 15 = true
    · refine af (by unfold isc at h1; simpa using h1) (kept (by rw [hks, h1]; rfl))
    · rw [Bool.not_eq_true] at h1
      refine ab (by unfold isc at h1; simpa using h1) ?_
      by_cases h2 : bt s (j : Int) = 58
      · exact ab h2 (kept (by rw [hks, h2]; simp))
      · refine af h2 ?_
        by_cases h3 : bt s (j : Int) = 64
        · exact ab h3 (kept (by rw [hks, h3]; simp))
        · have hk : aW (bt s (j : Int)) = false := by rw [hks, h1, beq_eq_false_iff_ne.2 h2, beq_eq_false_iff_ne.2 h3]; rfl
          rw [hk] at hx
          have h3s : (strOfNums (ed (bt s (j : Int)))).size = 3 := fC (ee hb0 hb1)
          refine af h3 (br (ng hb0 hb1) (ab (by omega) (ih (j + 1) (by omega) _ ?_)))
          rw [hx, ec, cS (ee hb0 hb1)]; simp
theorem jV (c : Int) (a : List Int) : ∀ L : List (List Int), jn c (a :: L) = a ++ L.flatMap (fun p => c :: p)
  | [] => by simp [jn]
  | b :: L => by
    show a ++ c :: jn c (b :: L) = _
    rw [jV c b L]; simp
theorem kw (r : Bool) (R : List ByteArray) (hR : R.length ≤ 1000000) (hs : ∀ s ∈ R, s.size ≤ 1000000) (F : List Int) (hF : F.length ≤ 1000000000) :
    ∀ d i : Nat, 1 ≤ i → i + d = R.length → ∀ x : ByteArray, F = aa x ++ (((R.map aa).map (aU aW)).drop i).flatMap (fun p => 47 :: p) → Ev (fun k => aT k x (i : Int) r R) (strOfNums F) := by
  intro d
  induction d with
  | zero =>
    intro i h1 hi x hx
    refine Ev.step (fun k => by rw [aT]) (af (by omega) ?_)
    rw [List.drop_of_length_le (by simp; omega)] at hx
    rw [hx, List.flatMap_nil, List.append_nil, gW]
    exact aI _
  | succ d ih =>
    intro i h1 hi x hx
    have e : ((R.map aa).map (aU aW)).drop i = aU aW (aa R[i]) :: ((R.map aa).map (aU aW)).drop (i + 1) := by
      rw [List.drop_eq_getElem_cons (by simp; omega)]; simp
    rw [e, List.flatMap_cons] at hx
    have hxs : x.size ≤ 1000000000 := by
      have := congrArg List.length hx
      rw [List.length_append, am] at this; omega
    refine Ev.step (fun k => by rw [aT]) (ab (by omega) (ab (by omega) (ab (by omega) (Ev.step (fun k => by rw [bz]) ?_))))
    refine iE r R hR i (by omega) (hs _ (List.getElem_mem _)) _ F hF (fun y hy => ih (i + 1) (by omega) (by omega) y hy) R[i].size 0 (by omega) _ ?_
    rw [hx, ec, show aa (⟨#[47]⟩ : ByteArray) = [47] from rfl, List.drop_zero]; simp
theorem lW (r : Bool) (R : List ByteArray) (hS : dA (R.map aa) ≤ 1000000) : Ev (fun k => ci k r R) (strOfNums (cM aW (r, R.map aa))) := by
  have hlen := jZ (R.map aa)
  rw [List.length_map] at hlen
  have hsz : ∀ s ∈ R, s.size ≤ 1000000 := fun s h => by
    have := j7 (aa s) (List.mem_map.2 ⟨s, h, rfl⟩)
    rw [am] at this; omega
  have hF : (cM aW (r, R.map aa)).length ≤ 1000000000 := by
    have h4 := km 47 ((R.map aa).map (aU aW))
    have h5 := g8 aW (R.map aa)
    have h6 : (if r = true then ([47] : List Int) else []).length ≤ 1 := by split <;> simp
    unfold cM
    rw [List.length_append]; dsimp only; omega
  have go : ∀ x : ByteArray, aa x = (if r = true then [47] else []) → Ev (fun k => bd k x r R) (strOfNums (cM aW (r, R.map aa))) := by
    intro x hx
    refine Ev.step (fun k => by rw [bd]) ?_
    unfold cM
    dsimp only
    rw [← hx]
    have hF2 : (aa x ++ jn 47 ((R.map aa).map (aU aW))).length ≤ 1000000000 := by rw [hx]; exact hF
    cases R with
    | nil =>
      refine Ev.step (fun k => by rw [aT]) (af (by simp) (Ev.val ?_))
      simp [jn, gW]
    | cons a R =>
      refine Ev.step (fun k => by rw [aT]) (ab (by simp only [List.length_cons]; omega) (af (by omega) (Ev.step (fun k => by rw [bz]) ?_)))
      refine iE r (a :: R) (by omega) 0 (by simp) (hsz a (List.mem_cons_self ..)) ((R.map aa |>.map (aU aW)).flatMap (fun p => 47 :: p)) _ hF2 (fun y hy => kw r (a :: R) (by omega) hsz _ hF2 R.length 1 (by omega) (by simp only [List.length_cons]; omega) y (by simpa using hy)) a.size 0 (by simp) x ?_
      rw [List.map_cons, List.map_cons, jV]; simp
  unfold ci
  cases r with
  | true => exact ab rfl (go _ rfl)
  | false => exact af (by simp) (go _ rfl)
theorem kv (r : Bool) (A : List ByteArray) : cw r A = some (iF (r, A.map aa)) := ir r A
end Go.Proofs.YtmofhijbheimmaaDoor.Y
namespace Go.Proofs.YtmofhijbheimmaaDoor.Pure
open Go.RowKit Go.Proofs.YtmofhijbheimmaaDoor.X Go.Proofs.YtmofhijbheimmaaDoor.M Go.Proofs.YtmofhijbheimmaaDoor.Y Go.Proofs.YtmofhijbheimmaaDoorW.PrintWords Go.Proofs.YtmofhijbheimmaaDoorW.PrintLast Go.Proofs.YtmofhijbheimmaaDoorW.PrintMore
theorem SegsTexts : ∀ (a0_0 : Bool) (a0_1 : List ByteArray), ∃ k, cI k a0_0 a0_1 = some true := by
  intro r R
  refine ls (r := true) ?_
  unfold cI
  obtain ⟨b, hb, hc⟩ := nz r R
  refine az hb ?_
  cases b with
  | true => exact ab rfl (az iv (aI _))
  | false =>
    refine af (by simp) ?_
    obtain ⟨h1, h2⟩ := hc rfl
    have hr : ∀ p ∈ R.map aa, ∀ b ∈ p, 0 ≤ b ∧ b ≤ 255 := by
      intro p hp; obtain ⟨s, _, rfl⟩ := List.mem_map.1 hp; exact eU s
    have htr : ∀ b ∈ cM aW (r, R.map aa), 0 ≤ b ∧ b ≤ 255 := by
      intro b hb
      unfold cM at hb
      rcases List.mem_append.1 hb with hb | hb
      · split at hb
        · rw [List.mem_singleton.1 hb]; decide
        · cases hb
      · exact io (by decide) (fun p hp => by
          obtain ⟨q, hq, rfl⟩ := List.mem_map.1 hp
          exact fh q (hr q hq)) b hb
    have hlen : (cM aW (r, R.map aa)).length ≤ 200000 := by
      have h4 := km 47 ((R.map aa).map (aU aW))
      have h5 := g8 aW (R.map aa)
      have h6 : (if r = true then ([47] : List Int) else []).length ≤ 1 := by split <;> simp
      unfold cM
      rw [List.length_append]; dsimp only; omega
    have hq := ne (strOfNums (cM aW (r, R.map aa))) (by rw [fC htr]; omega)
    rw [cS htr, mA mo _ hr, if_pos rfl] at hq
    have hiff := lT ml mm (r, R.map aa) hr
    have hpl : ((cL (cM aW (r, R.map aa))).2.map strOfNums).length ≤ 1000000 := by
      have := mu (l := cM aW (r, R.map aa))
      rw [List.length_map]; omega
    refine az (nG r R (by omega)) (az hq (br rfl (az (lW r R (by omega)) (ab rfl (br (ir r R) (br rfl (br (kv r R) (ab (by simp) (ab rfl (az (mR _ _ _ _ hpl) (br (ir r R) (ab ?_ (az iv (aI _))))))))))))))
    rw [beq_iff_eq, Bool.eq_iff_iff, decide_eq_true_iff, ← hiff]
    have hpr := ko (l := cM aW (r, R.map aa)) htr
    constructor
    · intro e
      injection e with e1 e2
      have e3 := congrArg (List.map aa) e2
      rw [mz hpr] at e3
      exact Prod.ext e1 e3
    · intro e
      rw [e]
      exact Prod.ext rfl (mr (R := R) rfl).symm
end Go.Proofs.YtmofhijbheimmaaDoor.Pure
namespace Go.Proofs.YtmofhijbheimmaaDoor.segsTexts
open Go.ChangeShapes Go.WideShapes Go.ChangeAt Go.RowKit
open Go.ChangeMaps (open_string shut_string)
open Go.Deep
open Go.Proofs.YtmofhijbheimmaaDoorW.PrintWords
theorem own : ownKnob Tryd.prog.godebug = none := by kernel_rfl
theorem DataW.shut_str {H : Type} {enc : TypeId × Value → H} {P : Program} {w : World} {base : Nat} {spare : Nat → Bool} {held : Bool} {t : TypeId} {s : ByteArray} (ht : P.underlying t = some .string) (hs : s.size ≤ maxLen) : ∃ n, DataW.trod enc P w base spare held n t [.string s] = some (.lit (.string s.data.toList), []) := by
  have h : DataW.Trod enc P w base spare held t (.string s) (.lit (.string s.data.toList)) [] := shut_string ht hs
  exact h
theorem DataW.shut_bl {H : Type} {enc : TypeId × Value → H} {P : Program} {w : World} {base : Nat} {spare : Nat → Bool} {held : Bool} {t : TypeId} {b : Bool} (ht : P.underlying t = some .bool) : ∃ n, DataW.trod enc P w base spare held n t [.bool b] = some (.lit (.bool b), []) := by
  have h : DataW.Trod enc P w base spare held t (.bool b) (.lit (.bool b)) [] := shut_bool ht b
  exact h
theorem DataW.shut_it {H : Type} {enc : TypeId × Value → H} {P : Program} {w : World} {base : Nat} {spare : Nat → Bool} {held : Bool} {t : TypeId} {k : IntKind} {n : Int} (ht : P.underlying t = some (.int k)) (hn : (Lit.int k n).wf = true) : ∃ m, DataW.trod enc P w base spare held m t [.int k n] = some (.lit (.int k n), []) := by
  have h : DataW.Trod enc P w base spare held t (.int k n) (.lit (.int k n)) [] := shut_int ht hn
  exact h
theorem arr2 {α : Type} {cs : Array α} (h : cs.size = 2) : ∃ c0 c1, cs = #[c0, c1] := by
  obtain ⟨l⟩ := cs
  match l, h with
  | [c0, c1], _ => exact ⟨c0, c1, rfl⟩
theorem lst2 {α : Type} {cs : List α} (h : cs.length = 2) : ∃ c0 c1, cs = [c0, c1] := by
  match cs, h with
  | [c0, c1], _ => exact ⟨c0, c1, rfl⟩
theorem open_agg2' {H : Type} {enc : TypeId × Value → H} {P : Program} {w : World} {base : Nat} {spare : Nat → Bool} {held : Bool} {r : Reach} {b0 : Nat} {t : TypeId} {f0 f1 : Field} {v : Value} {d : DataW H} {p : List MemPlace} (hs : P.underlying t = some (.struct #[f0, f1])) (hone : oneCellFields P #[f0, f1] = true) (hC : P.cellsOf t = 2)
    (hv : Value.okWide P w r b0 t v) (h : DataW.Trod enc P w base spare held t v d p) :
    ∃ (v0 v1 : Value) (y0 y1 : DataW H × List MemPlace) (n : Nat), v = .agg #[v0, v1] ∧ d = .agg [y0.1, y1.1] ∧ p = y0.2 ++ (y1.2) ∧ DataW.trod enc P w base spare held n f0.type [v0] = some y0 ∧ DataW.trod enc P w base spare held n f1.type [v1] = some y1 := by
  obtain ⟨cs, rfl, hsz⟩ := okWide_struct hs hv
  obtain ⟨c0, c1, rfl⟩ := arr2 (hsz.trans hC)
  obtain ⟨fuel, hf⟩ := h
  obtain ⟨xs, n, _, hx, hl, hlen, hf⟩ := DataW.trod_struct hs hf
  obtain ⟨y0, y1, rfl⟩ := lst2 (by simpa using hlen)
  obtain ⟨o0, k0⟩ := hone_of hone 0 f0 rfl
  obtain ⟨o1, k1⟩ := hone_of hone 1 f1 rfl
  simp only [Prod.mk.injEq] at hx
  exact ⟨c0, c1, y0, y1, n, rfl, by simpa using hx.1, by simpa using hx.2, by simpa [Value.cells, o0, k0] using hf 0 f0 rfl, by simpa [Value.cells, o1, k1] using hf 1 f1 rfl⟩
theorem shut_agg2' {H : Type} {enc : TypeId × Value → H} {P : Program} {w : World} {base : Nat} {spare : Nat → Bool} {held : Bool} {t : TypeId} {f0 f1 : Field} {v0 v1 : Value} {y0 y1 : DataW H × List MemPlace} (hs : P.underlying t = some (.struct #[f0, f1])) (hone : oneCellFields P #[f0, f1] = true) (hC : P.cellsOf t = 2)
    (t0 : ∃ n, DataW.trod enc P w base spare held n f0.type [v0] = some y0) (t1 : ∃ n, DataW.trod enc P w base spare held n f1.type [v1] = some y1) :
    DataW.Trod enc P w base spare held t (.agg #[v0, v1]) (.agg [y0.1, y1.1]) (y0.2 ++ (y1.2)) := by
  obtain ⟨n0, t0⟩ := t0
  obtain ⟨o0, k0⟩ := hone_of hone 0 f0 rfl
  obtain ⟨n1, t1⟩ := t1
  obtain ⟨o1, k1⟩ := hone_of hone 1 f1 rfl
  have q0 := DataW.trod_le (show n0 ≤ n0 + n1 by omega) t0
  have q1 := DataW.trod_le (show n1 ≤ n0 + n1 by omega) t1
  have ts := trod_struct_mk (enc := enc) (w := w) (base := base) (spare := spare) (held := held) (n := n0 + n1) (xs := [y0, y1]) (cs := [v0, v1]) hs (by simp [hC]) (by simp [o0, k0, q0, o1, k1, q1])
  exact ⟨_, by simpa [Value.cells] using ts⟩
theorem laidOut' : laidOutB Tryd.prog = true := by kernel_rfl
theorem open_strs {H : Type} {enc : TypeId × Value → H} {P : Program} {w : World} {base : Nat} {spare : Nat → Bool} {held : Bool} {t e : TypeId} {fuel : Nat} {v : Value} {x : DataW H × List MemPlace} (ht : P.underlying t = some (.slice e)) (he : P.underlying e = some .string) (hc : P.cellsOf e = 1)
    (h : DataW.trod enc P w base spare held fuel t [v] = some x) : ∃ (A : Option Addr) (c : Nat) (l : List ByteArray), v = .slice A l.length c ∧ l.length ≤ c ∧ Kd.C Kd.string w A l.length l := by
  rcases open_strings ht he hc h with ⟨hcs, _⟩ | ⟨a, len, cap, ss, hcs, _, hl, hm, hz, _, hcell, _⟩
  · obtain rfl := (List.cons.inj hcs).1
    exact ⟨none, 0, [], rfl, Nat.le_refl _, Kd.C_nil _ _⟩
  · obtain rfl := (List.cons.inj hcs).1
    have hss : len ≤ ss.length := by rw [hz]; split <;> omega
    have hlen : (ss.take len).length = len := by rw [List.length_take]; omega
    refine ⟨some a, cap, ss.take len, by rw [hlen], by rw [hlen]; exact hl, rfl, by rw [hlen]; unfold maxLen at hm; omega, fun _ => ⟨a, rfl, fun j p hj => ⟨[.string p], rfl, rfl, fun i u hu => ?_⟩⟩⟩
    cases i with
    | zero =>
      obtain rfl := Option.some.inj hu
      have hjl : j < len := by have := (List.getElem?_eq_some_iff.1 hj).1; omega
      have e1 : ss.getD j ByteArray.empty = p := by rw [List.getD_eq_getElem?_getD, ← List.getElem?_take_of_lt hjl, hj]; rfl
      have := hcell j (by omega)
      rw [e1] at this
      show w.cell? (a.add (j * 1 + 0)) = _
      rw [Nat.mul_one, Nat.add_zero]; exact this
    | succ i => cases hu
theorem open_strs' {H : Type} {enc : TypeId × Value → H} {P : Program} {w : World} {base : Nat} {spare : Nat → Bool} {held : Bool} {r : Reach} {b0 : Nat} {t e : TypeId} {v : Value} {d : DataW H} {p : List MemPlace} (ht : P.underlying t = some (.slice e)) (he : P.underlying e = some .string) (hc : P.cellsOf e = 1)
    (hv : Value.okWide P w r b0 t v) (h : DataW.Trod enc P w base spare held t v d p) : ∃ (A : Option Addr) (c : Nat) (l : List ByteArray), v = .slice A l.length c ∧ l.length ≤ c ∧ Kd.C Kd.string w A l.length l := by
  obtain ⟨a, len, cap, rfl⟩ := okWide_slice ht hv
  obtain ⟨fuel, hf⟩ := h
  exact open_strs (v := .slice a len cap) ht he hc hf
theorem gw_len {W : World} (h : W.ShapedOpen Tryd.prog) : ∃ m, W.cell? ⟨0, 0, none⟩ = some (.int .i64 m) :=
  Go.Proofs.cell_of_shapedOpen_int (g := 0) (t := 3) (zero := #[.int .i64 0]) h (of_decide_eq_true (by kernel_rfl)) (by kernel_rfl) rfl (by kernel_rfl) (by kernel_rfl) Tryd.underlying3
theorem gw {W : World} (h : W.ShapedOpen Tryd.prog) (hL0 : laidMetH Tryd.prog Rows.segsTextsRow.laid W) : X.GW W := ⟨gw_len h⟩
set_option maxRecDepth 100000 in
theorem contract (H : Type) (enc : TypeId × Value → H) (W : World) (base : Nat) (args : Array Value) (ds gs : List (DataW H)) (before : List MemPlace)
    (hval0 : ∀ (j : Nat) t v, Tryd.f4.params[j]? = some t → args[j]? = some v → Value.okWide Tryd.prog W .any base t v)
    (hW : DataW.Whole enc Tryd.prog Tryd.f4.params.toList Rows.segsTextsSpec.vars false W args.toList ds gs before)
    (hsz0 : (DataW.weightsEach Tryd.prog (Tryd.f4.params.toList ++ Rows.segsTextsSpec.plain.varTypes Tryd.prog) (ds ++ gs)).all (· ≤ reachBytes) = true) (hsh : W.ShapedOpen Tryd.prog) (hL : laidMetH Tryd.prog Rows.segsTextsRow.laid W) :
    Calls Tryd.prog 4 args W fun e W' => ∃ v, e = .returned v ∧ Rows.segsTextsSpec.post enc Tryd.prog Tryd.f4 false true false false W args v W' := by
  have hsz : (DataW.weightsEach Tryd.prog (Tryd.f4.params.toList ++ Rows.segsTextsSpec.plain.varTypes Tryd.prog) (ds ++ gs)).all (· ≤ reachBytes) = true := hsz0
  have hval : ∀ (j : Nat) t v, Tryd.f4.params[j]? = some t → args[j]? = some v → Value.okWide Tryd.prog W .any base t v := hval0
  have hW' := hW
  obtain ⟨p, q, hA0, hV, rfl, hfz, hnd⟩ := hW
  have hA : DataW.TrodAll enc Tryd.prog W 0 (fun _ => true) true Tryd.f4.params.toList args.toList ds p := hA0
  rw [Tryd.params4] at hA hval hsz
  obtain ⟨v0, vs0, d0, ds0, p0, q0, hargs, rfl, rfl, h0, r0⟩ := trodAll_cons hA
  obtain ⟨rfl, rfl, rfl⟩ := trodAll_nil r0
  obtain rfl : args = #[v0] := by cases args; simp_all
  obtain ⟨rfl, rfl⟩ := trodVars_none hV
  have t0 := h0
  obtain ⟨u0_0, u0_1, y0_0, y0_1, m0, rfl, rfl, rfl, g0_0, g0_1⟩ := open_agg2' Tryd.underlying25 (by kernel_rfl) (by kernel_rfl) (hval 0 25 v0 rfl rfl) h0
  obtain ⟨a0_0, e0_0, f0_0⟩ := DataW.trod_bool Tryd.underlying4 g0_0
  simp only [List.cons.injEq, and_true] at e0_0
  subst e0_0
  subst f0_0
  obtain ⟨A0_1, c0_1, l0_1, rfl, hc0_1, hr0_1⟩ := open_strs Tryd.underlying23 Tryd.underlying9 (by kernel_rfl) g0_1
  clear hA0 hval0 hsz0 hsz
  obtain ⟨k, hk⟩ := Pure.SegsTexts a0_0 l0_1
  refine (X.eN k a0_0 A0_1 c0_1 l0_1 true W (hG := gw hsh hL) (hr0_1 := hr0_1) (hc0_1 := hc0_1) (h := hk)).mono fun e W' ⟨he, bel0⟩ => ?_
  have bel : Below W.heap.size W W' := bel0
  subst he
  exact ⟨_, rfl, _, _, _, [], _, [], hW', trodAll_mk1 (shut_bool Tryd.underlying4 _), (trodAll_cons_mk (Below.trod laidOut' (by kernel_rfl) (of_decide_eq_true (by kernel_rfl)) t0 bel (fun x hx => hW'.lt x (List.mem_append_left _ (List.mem_append_left _ hx)))) trodAll_mk0), rfl, bel.frame _, fun h => by cases h⟩
def flat : Nat → DataW Unit → List Value
  | 0, _ => []
  | k + 1, .agg l => l.flatMap (flat k)
  | _ + 1, .lit (.int kd n) => [.int kd n]
  | _ + 1, .lit (.bool b) => [.bool b]
  | _ + 1, _ => []
def layAt (g : Nat) (cs : List Value) (h : Array Obj) : Array Obj := h.modify g fun
  | .cells _ t frozen => .cells cs.toArray t frozen
  | x => x
noncomputable def gP (os : Os) : World := { World.holding Tryd.prog os ⟨#[], #[], []⟩ with heap := layAt 1 (flat 9 Rows.laid_unicode_utf8_first) (layAt 2 (flat 9 Rows.laid_unicode_utf8_acceptRanges) ((World.holding Tryd.prog os ⟨#[], #[], []⟩).heap)) }
theorem laid_met (os : Os) : laidMet Tryd.prog Rows.segsTextsRow.laid ((gP os).forCall (fun _ _ => 0) ⟨#[], #[.agg #[.bool false, .slice none 0 0]], []⟩).memory :=
  laidMet_of_run' 8 (by kernel_rfl) (by kernel_rfl)
theorem reads (os : Os) {H : Type} (enc : TypeId × Value → H) : ∃ places, DataW.whole enc Tryd.prog ((gP os).forCall (fun _ _ => 0) ⟨#[], #[.agg #[.bool false, .slice none 0 0]], []⟩).memory Tryd.f4.params.toList Rows.segsTextsSpec.vars false (#[.agg #[.bool false, .slice none 0 0]] : Array Value).toList 8 = some ([.agg [.lit (.bool false), .nil]], [], places) :=
  ⟨[], by kernel_rfl⟩
set_option maxRecDepth 100000 in
theorem lifted (os : Os) (started : os.Started) (H : Type) (enc : TypeId × Value → H) (F : Stop.Interp) :
    ReturnsInHanded {} Tryd.checked os 4 .any ((OpenSpec.ofChange Rows.segsTextsSpec).preRow enc Tryd.prog Tryd.f4 Rows.segsTextsRow.domain false Rows.segsTextsRow.laid) (((OpenSpec.ofChange Rows.segsTextsSpec).at F).post enc Tryd.prog Tryd.f4 false true false false) := by
  obtain ⟨places, hx⟩ := reads os enc
  refine returnsInHanded_of_row (C := Tryd.checked) (s := OpenSpec.ofChange Rows.segsTextsSpec) own started (by kernel_rfl) Tryd.func4
    (witness_row_at (enc := enc) (C := Tryd.checked) false (gP os) #[.agg #[.bool false, .slice none 0 0]] rfl (by kernel_rfl) (by kernel_rfl) (by kernel_rfl)
      (OpenSpec.preRow_of_cond 8 hx (by kernel_rfl) (fun k hk => by cases hk) (by kernel_rfl) (laid_met os))) ?_
  intro W base args ds gs before hval hW _ _ hsz hL hsh _
  exact contract H enc W base args ds gs before hval hW hsz hsh hL
theorem said : Rows.SegsTextsSaid :=
  OpenClaim.holds_of_cond 4 Tryd.f4 rfl rfl rfl rfl rfl rfl rfl ⟨rfl, rfl, rfl, rfl, rfl⟩ rfl rfl rfl rfl rfl (by kernel_rfl) Tryd.func4 (by kernel_rfl)
    (of_decide_eq_true (by kernel_rfl)) (by unfold Func.isWrapper; first | (rw [if_pos (by decide +kernel)]; kernel_rfl) | (rw [if_neg (by decide +kernel)]; exact ⟨rfl, rfl⟩))
    (fun os started H enc _ F => by rw [OpenClaim.pre_eq_preRow]; exact lifted os started H enc F)
theorem plain (f : FuncId) (fn : Func) (hf : Tryd.pinned.checked.prog.funcNamed "moniker/monikerlaw31.SegsTexts" = some f) (hfn : Tryd.pinned.checked.prog.funcs[f]? = some fn) :
    false = Tryd.pinned.checked.prog.looks [] ∧ ∀ (j : Nat) t, fn.params[j]? = some t → Tryd.pinned.checked.prog.wantsStandIn t = false := by
  obtain rfl : f = 4 := Option.some.inj ((show Tryd.prog.funcNamed "moniker/monikerlaw31.SegsTexts" = some 4 by kernel_rfl).symm.trans hf) |>.symm
  obtain rfl : fn = Tryd.f4 := (Option.some.inj (Tryd.func4.symm.trans hfn)).symm
  refine ⟨by kernel_rfl, fun j t ht => ?_⟩
  rw [Tryd.params4] at ht
  have hm := Array.mem_of_getElem? ht
  simp only [List.mem_cons, List.mem_toArray, List.mem_nil_iff, or_false] at hm
  rcases hm with rfl
  · exact (show Tryd.prog.wantsStandIn 25 = false by kernel_rfl)
theorem card : Rows.SegsTextsCardSaid :=
  Claim7.holds_tied_plain_at .later [] _ _ _ _ said (fun _ h => by cases h) (by kernel_rfl) (fun _ h => by cases h) segsTexts_row_tie rfl ⟨rfl, rfl⟩ (by kernel_rfl) rfl plain (by kernel_rfl)
#print axioms card
end Go.Proofs.YtmofhijbheimmaaDoor.segsTexts
namespace Go.Proofs.YtmofhijbheimmaaDoor
theorem segsTexts_card : Rows.SegsTextsCardSaid := segsTexts.card
end Go.Proofs.YtmofhijbheimmaaDoor
