/- Texts that the law's proof needs, joined by a program of this session. -/
import Derived.Test.YtdmigmccfdhdiaaDoorZSeatJoins2
import Derived.Test.YtdmigmccfdhdiaaDoorZSeatJoins3
import Derived.Test.YtdmigmccfdhdiaaDoorZSeatJoins4
import Derived.Test.YtdmigmccfdhdiaaDoorZSeatJoins5
import Derived.Test.YtdmigmccfdhdiaaDoorZSeatJoins6
import Derived.Test.YtdmigmccfdhdiaaDoorZSeatJoins7
import Derived.Test.YtdmigmccfdhdiaaDoorZSeatJoins8
import Derived.Test.YtdmigmccfdhdiaaDoorZSeatJoins9
import Derived.Test.YtdmigmccfdhdiaaDoorZSeatJoins10
import Derived.Test.YtdmigmccfdhdiaaDoorZSeatJoins11
import Derived.Laws.BitsLemmas
namespace Go.Proofs.YtdmigmccfdhdiaaDoor.Y
open Go.RowKit Go.Proofs.YtdmigmccfdhdiaaDoor.X Go.Proofs.YtdmigmccfdhdiaaDoor.M Go.Proofs.YtdmigmccfdhdiaaDoorW.PrintWords Go.Proofs.YtdmigmccfdhdiaaDoorW.PrintLast Go.Proofs.YtdmigmccfdhdiaaDoorW.PrintMore
set_option linter.unusedVariables false
theorem shape_f {b : Int} (h0 : 0 ≤ b) (h1 : b ≤ 255) : Ev (fun k => utf_shape.f k b) (shp b) :=
  Ev.of (fun k => utf_shape.mono b k) (k := 6) (byte_all (p := fun b => utf_shape.f 6 b = some (shp b)) (by decide +kernel) h0 h1)
theorem front_l0 (s : ByteArray) (hs : s.size ≤ 140737488351232) (n : Nat) (_ : n ≤ 4) : ∀ d i : Nat, ∀ lo hi : Int, i + d = n → Ev (fun k => utf_front.l0 k s (n : Int) lo hi (i : Int)) ((i : Int) + conts (n - i) lo hi ((bytesOf s).drop i), (n : Int)) := by
  intro d
  induction d with
  | zero =>
    intro i lo hi hi2
    refine Ev.step (fun k => rfl) (Ev.ite_neg (by omega) ?_)
    rw [show n - i = 0 by omega, conts_one]
    simp only [Int.natCast_zero, Int.add_zero]
    exact Ev.now _
  | succ d ih =>
    intro i lo hi hi2
    refine Ev.step (fun k => rfl) (Ev.ite_pos (by omega) ?_)
    rw [show n - i = (n - (i + 1)) + 1 by omega]
    rcases Nat.lt_or_ge i s.size with h | h
    · rcases at_or_end s i (by omega) with ⟨h2, _⟩ | ⟨_, e, b0, b1⟩
      · omega
      refine Ev.ite_pos (by omega) (Ev.ite_pos (by omega) ?_)
      rw [e]
      by_cases h1 : lo ≤ bt s i
      · refine Ev.ite_pos h1 ?_
        by_cases h2 : bt s i ≤ hi
        · refine Ev.ite_pos h2 ?_
          rw [w64 (by omega) (by omega)]
          unfold conts
          rw [if_pos ⟨h1, h2⟩]
          have := ih (i + 1) 128 191 (by omega)
          have e3 : ((i : Int) + ((conts (n - (i + 1)) 128 191 ((bytesOf s).drop (i + 1)) + 1 : Nat) : Int), (n : Int)) = (((i + 1 : Nat) : Int) + (conts (n - (i + 1)) 128 191 ((bytesOf s).drop (i + 1)) : Int), (n : Int)) := by
            congr 1; omega
          rw [e3]
          exact this
        · refine Ev.ite_neg h2 ?_
          unfold conts
          rw [if_neg (fun x => h2 x.2)]
          simp only [Int.natCast_zero, Int.add_zero]
          exact Ev.now _
      · refine Ev.ite_neg h1 ?_
        unfold conts
        rw [if_neg (fun x => h1 x.1)]
        simp only [Int.natCast_zero, Int.add_zero]
        exact Ev.now _
    · refine Ev.ite_neg (by omega) ?_
      rw [List.drop_of_length_le (by rw [bytes_len]; exact h)]
      unfold conts
      simp only [Int.natCast_zero, Int.add_zero]
      exact Ev.now _
def frontS : List Int → Int × Int
  | [] => (0, 0)
  | b :: t => if (shp b).1 = 0 then (1, 0) else ((conts ((shp b).1.toNat - 1) (shp b).2.1 (shp b).2.2 t : Int) + 1, (shp b).1)
theorem frontS_cons (b : Int) (t : List Int) : frontS (b :: t) = if (shp b).1 = 0 then (1, 0) else ((conts ((shp b).1.toNat - 1) (shp b).2.1 (shp b).2.2 t : Int) + 1, (shp b).1) := rfl
theorem front_f (s : ByteArray) (hs : s.size ≤ 140737488351232) : Ev (fun k => utf_front.f k s) (frontS (bytesOf s)) := by
  unfold utf_front.f
  rcases at_begin s with ⟨h, e⟩ | ⟨h, e, b0, b1⟩
  · rw [e]
    exact Ev.ite_pos (by omega) (Ev.now _)
  · rw [e, frontS_cons]
    refine Ev.ite_neg (by omega) (Ev.ite_pos (by omega) (Ev.bind' (shape_f b0 b1) ?_))
    by_cases hz : (shp (bt s 0)).1 = 0
    · rw [if_pos hz]
      exact Ev.ite_pos hz (Ev.now _)
    · rw [if_neg hz]
      refine Ev.ite_neg hz ?_
      have hr := shp_range (bt s 0)
      have := front_l0 s hs (shp (bt s 0)).1.toNat (by omega) ((shp (bt s 0)).1.toNat - 1) 1 (shp (bt s 0)).2.1 (shp (bt s 0)).2.2 (by omega)
      rw [Int.toNat_of_nonneg hr.1] at this
      have e3 : ((conts ((shp (bt s 0)).1.toNat - 1) (shp (bt s 0)).2.1 (shp (bt s 0)).2.2 ((bytesOf s).drop 1) : Int) + 1, (shp (bt s 0)).1) = ((((1 : Nat) : Int) + (conts ((shp (bt s 0)).1.toNat - 1) (shp (bt s 0)).2.1 (shp (bt s 0)).2.2 ((bytesOf s).drop 1) : Int)), (shp (bt s 0)).1) := by
        congr 1; omega
      rw [e3]
      exact this
def bnd : Nat → Int
  | 0 => 33554432
  | 1 => 524288
  | 2 => 8192
  | _ => 128
theorem bnd_step {d : Nat} (hd : d < 3) {r c : Int} (h0 : 0 ≤ r) (h : r < bnd (d + 1)) (c0 : 128 ≤ c) (c1 : c ≤ 191) : 0 ≤ r * 64 + (c - 128) ∧ r * 64 + (c - 128) < bnd d ∧ r * 64 < 2147483648 := by
  rcases d with _ | _ | _ | d
  · simp only [bnd] at *; omega
  · simp only [bnd] at *; omega
  · simp only [bnd] at *; omega
  · omega
theorem take_drop_cons {s : ByteArray} {i n : Nat} (h : i < s.size) (hn : i < n) : ((bytesOf s).take n).drop i = bt s (i : Int) :: ((bytesOf s).take n).drop (i + 1) := by
  rcases at_or_end s i (by omega) with ⟨h2, _⟩ | ⟨_, e, b0, b1⟩
  · omega
  · rw [List.drop_take, List.drop_take, e, show n - i = (n - (i + 1)) + 1 by omega, List.take_succ_cons]
theorem decode_l0 (s : ByteArray) (hs : s.size ≤ 140737488351232) (n : Nat) (hn : n ≤ s.size) : ∀ d i : Nat, ∀ r : Int, i + d = n → d ≤ 3 → 0 ≤ r → r < bnd d → (∀ c ∈ ((bytesOf s).take n).drop i, 128 ≤ c ∧ c ≤ 191) →
    Ev (fun k => utf_Decode.l0 k s r (n : Int) (i : Int)) (accum r (((bytesOf s).take n).drop i), (n : Int), true) := by
  intro d
  induction d with
  | zero =>
    intro i r hi _ _ _ _
    refine Ev.step (fun k => rfl) (Ev.ite_neg (by omega) ?_)
    rw [List.drop_of_length_le (by rw [List.length_take, bytes_len]; omega)]
    exact Ev.now _
  | succ d ih =>
    intro i r hi hd r0 r1 hc
    have e := take_drop_cons (s := s) (i := i) (n := n) (by omega) (by omega)
    rw [e] at hc ⊢
    obtain ⟨c0, c1⟩ := hc _ (List.mem_cons_self ..)
    have hb := bnd_step (by omega) r0 r1 c0 c1
    refine Ev.step (fun k => rfl) (Ev.ite_pos (by omega) (Ev.ite_pos (by omega) (Ev.ite_pos (by omega) ?_)))
    rw [w64 (by omega) (by omega), u8_and63 _ (by omega) (by omega)]
    have e1 : wrap32 (bt s (i : Int) % 64) = bt s (i : Int) % 64 := by unfold wrap32; omega
    have e2 : wrap32 (r * 64) = r * 64 := by unfold wrap32; omega
    rw [e1, e2, i32_or6 _ _ (by omega) (by omega) (by omega) (by omega) (by omega)]
    have e3 : r * 64 + bt s (i : Int) % 64 = r * 64 + (bt s (i : Int) - 128) := by omega
    rw [e3]
    exact ih (i + 1) _ (by omega) (by omega) hb.1 hb.2.1 (fun c h => hc c (List.mem_cons_of_mem _ h))
theorem and_mask {b : Int} (h0 : 0 ≤ b) (h1 : b ≤ 255) : (b < 128 → Go.bits .and .u8 b 127 = b) ∧ Go.bits .and .u8 b 31 = b % 32 ∧ Go.bits .and .u8 b 15 = b % 16 ∧ Go.bits .and .u8 b 7 = b % 8 :=
  ⟨byte_all (p := fun b => b < 128 → Go.bits .and .u8 b 127 = b) (by decide +kernel) h0 h1, u8_and31 _ (by omega) (by omega), u8_and15 _ (by omega) (by omega), u8_and7 _ (by omega) (by omega)⟩
theorem lead_mask {b : Int} (h0 : 0 ≤ b) (h1 : b ≤ 255) : ((shp b).1 = 1 → b < 128 ∧ lead (shp b).1 b = b) ∧ ((shp b).1 = 2 → b % 32 = lead (shp b).1 b) ∧ ((shp b).1 = 3 → b % 16 = lead (shp b).1 b) ∧ ((shp b).1 = 4 → b % 8 = lead (shp b).1 b) :=
  byte_all (p := fun b => ((shp b).1 = 1 → b < 128 ∧ lead (shp b).1 b = b) ∧ ((shp b).1 = 2 → b % 32 = lead (shp b).1 b) ∧ ((shp b).1 = 3 → b % 16 = lead (shp b).1 b) ∧ ((shp b).1 = 4 → b % 8 = lead (shp b).1 b)) (by decide +kernel) h0 h1
theorem decode_f (s : ByteArray) (hs : s.size ≤ 140737488351232) : Ev (fun k => utf_Decode.f k s) (dec (bytesOf s)) := by
  unfold utf_Decode.f
  refine Ev.bind' (front_f s hs) ?_
  rcases at_begin s with ⟨h, e⟩ | ⟨h, e, b0, b1⟩
  · rw [e]
    refine Ev.ite_pos (by simp [frontS]) ?_
    refine Ev.step (fun k => by rw [utf_Decode.j0]) ?_
    exact Ev.ite_pos rfl (Ev.now _)
  · have hr := shp_range (bt s 0)
    rw [e, frontS_cons, dec_cons]
    by_cases hz : (shp (bt s 0)).1 = 0
    · simp only [if_pos hz]
      refine Ev.ite_pos (by simp) ?_
      refine Ev.step (fun k => by rw [utf_Decode.j0]) ?_
      exact Ev.ite_pos rfl (Ev.now _)
    · simp only [if_neg hz]
      have hcl := conts_le ((shp (bt s 0)).1.toNat - 1) (shp (bt s 0)).2.1 (shp (bt s 0)).2.2 ((bytesOf s).drop 1)
      have hcm : 2 ≤ (shp (bt s 0)).1 → ∀ c ∈ ((bytesOf s).drop 1).take (conts ((shp (bt s 0)).1.toNat - 1) (shp (bt s 0)).2.1 (shp (bt s 0)).2.2 ((bytesOf s).drop 1)), 128 ≤ c ∧ c ≤ 191 :=
        fun h2 => conts_mem _ _ _ (shp_bounds h2).1 (shp_bounds h2).2 _
      rw [List.length_drop, bytes_len] at hcl
      revert hcl hcm
      generalize conts ((shp (bt s 0)).1.toNat - 1) (shp (bt s 0)).2.1 (shp (bt s 0)).2.2 ((bytesOf s).drop 1) = m
      intro hcl hcm
      refine Ev.step (fun k => by rw [utf_Decode.j0]) ?_
      by_cases hlt : (m : Int) + 1 < (shp (bt s 0)).1
      · rw [if_pos hlt]
        exact Ev.ite_pos (by simpa using hlt) (Ev.now _)
      · rw [if_neg hlt]
        refine Ev.ite_neg (by simpa using hlt) (Ev.ite_pos (by omega) (Ev.ite_pos (by omega) ?_))
        have hm : m = (shp (bt s 0)).1.toNat - 1 := by omega
        have hl := shp_lead b0 b1 (by omega)
        have hmk := lead_mask b0 b1
        have ham := and_mask b0 b1
        have key : ∀ n : Nat, (n : Int) = (shp (bt s 0)).1 → 1 ≤ n → ∀ r : Int, r = lead (shp (bt s 0)).1 (bt s 0) → Ev (fun k => utf_Decode.l0 k s r (shp (bt s 0)).1 1) (accum (lead (shp (bt s 0)).1 (bt s 0)) (((bytesOf s).drop 1).take ((shp (bt s 0)).1.toNat - 1)), (shp (bt s 0)).1, true) := by
          intro n hn h1n r hrl
          have hbn : r < bnd (n - 1) := by
            rw [hrl]
            rcases n with _ | _ | _ | _ | _ | n
            · omega
            · exact Int.lt_of_lt_of_le hl.2 (by decide)
            · exact Int.lt_of_lt_of_le hl.2 (by decide)
            · exact Int.lt_of_lt_of_le hl.2 (by decide)
            · exact Int.lt_of_lt_of_le hl.2 (by decide)
            · omega
          have := decode_l0 s hs n (by omega) (n - 1) 1 r (by omega) (by omega) (by omega) hbn (by
            intro c hc
            rw [List.drop_take] at hc
            by_cases h2 : 2 ≤ (shp (bt s 0)).1
            · exact hcm h2 c (by rw [hm, ← hn, Int.toNat_natCast]; exact hc)
            · rw [show n - 1 = 0 by omega] at hc
              simp at hc)
          rw [hn, List.drop_take] at this
          rw [← hrl, show (shp (bt s 0)).1.toNat - 1 = n - 1 by omega]
          exact this
        refine Ev.ite_neg hz ?_
        by_cases h1 : (shp (bt s 0)).1 = 1
        · refine Ev.ite_pos h1 ?_
          refine key 1 (by omega) (by omega) _ ?_
          rw [ham.1 (hmk.1 h1).1, (hmk.1 h1).2]
          have := (hmk.1 h1).1
          unfold wrap32; omega
        refine Ev.ite_neg h1 ?_
        by_cases h2 : (shp (bt s 0)).1 = 2
        · refine Ev.ite_pos h2 ?_
          refine key 2 (by omega) (by omega) _ ?_
          rw [ham.2.1, hmk.2.1 h2]
          unfold wrap32; omega
        refine Ev.ite_neg h2 ?_
        by_cases h3 : (shp (bt s 0)).1 = 3
        · refine Ev.ite_pos h3 ?_
          refine key 3 (by omega) (by omega) _ ?_
          rw [ham.2.2.1, hmk.2.2.1 h3]
          unfold wrap32; omega
        have h4 : (shp (bt s 0)).1 = 4 := by omega
        refine Ev.ite_neg h3 (Ev.ite_pos h4 ?_)
        refine key 4 (by omega) (by omega) _ ?_
        rw [ham.2.2.2, hmk.2.2.2 h4]
        unfold wrap32; omega
def fitsS (f0 f1 s0 s1 : Int) (n : Nat) : List Int → Nat
  | [] => 0
  | b :: t => if f0 ≤ b ∧ b ≤ f1 then conts (n - 1) s0 s1 t + 1 else 0
theorem fitsS_cons (f0 f1 s0 s1 : Int) (n : Nat) (b : Int) (t : List Int) : fitsS f0 f1 s0 s1 n (b :: t) = if f0 ≤ b ∧ b ≤ f1 then conts (n - 1) s0 s1 t + 1 else 0 := rfl
theorem fits_l0 (s : ByteArray) (hs : s.size ≤ 140737488351232) (f0 f1 s0 s1 : Int) (n : Nat) (hn : n ≤ 4) : ∀ d i : Nat, ∀ lo hi : Int, i + d = n → 1 ≤ i → (i = 1 → lo = s0 ∧ hi = s1) → (i ≠ 1 → lo = 128 ∧ hi = 191) →
    Ev (fun k => monikerref02_fits.l0 k s (i : Int) f0 f1 s0 s1 (n : Int)) ((i : Int) + conts (n - i) lo hi ((bytesOf s).drop i)) := by
  intro d
  induction d with
  | zero =>
    intro i lo hi hi2 h1i hlo hhi
    rw [show n - i = 0 by omega, conts_one]
    simp only [Int.natCast_zero, Int.add_zero]
    refine Ev.step (fun k => by rw [monikerref02_fits.l0]) ?_
    have hd : decide ((i : Int) < (n : Int)) = false := by simp; omega
    rw [hd]
    have fin : Ev (fun k => monikerref02_fits.j1 k s (i : Int) false f0 f1 s0 s1 (n : Int)) (i : Int) := by
      refine Ev.step (fun k => by rw [monikerref02_fits.j1]) ?_
      exact Ev.ite_neg (by simp) (Ev.now _)
    by_cases h : (i : Int) < (s.size : Int)
    · exact Ev.ite_pos h fin
    · exact Ev.ite_neg h fin
  | succ d ih =>
    intro i lo hi hi2 h1i hlo hhi
    refine Ev.step (fun k => by rw [monikerref02_fits.l0]) ?_
    rw [show n - i = (n - (i + 1)) + 1 by omega]
    rcases Nat.lt_or_ge i s.size with h | h
    · rcases at_or_end s i (by omega) with ⟨h2, _⟩ | ⟨_, e, b0, b1⟩
      · omega
      have hd : decide ((i : Int) < (n : Int)) = true := by simp; omega
      rw [hd, e]
      refine Ev.ite_pos (by omega) ?_
      refine Ev.step (fun k => by rw [monikerref02_fits.j1]) ?_
      refine Ev.ite_pos rfl (Ev.ite_neg (by omega) ?_)
      refine Ev.step (fun k => by rw [monikerref02_fits.j2]) ?_
      have hw : wrap64 (bt s (i : Int)) = bt s (i : Int) := w64 (by omega) (by omega)
      have hw2 : wrap64 ((i : Int) + 1) = (i : Int) + 1 := w64 (by omega) (by omega)
      rw [hw, hw2]
      have both : ∀ lo' hi' : Int, lo' = lo → hi' = hi → Ev (fun k => if 0 ≤ (i : Int) then if (i : Int) < (s.size : Int) then if bt s (i : Int) < lo' then some (i : Int) else if bt s (i : Int) > hi' then some (i : Int) else monikerref02_fits.l0 k s ((i : Int) + 1) f0 f1 s0 s1 (n : Int) else none else none)
          ((i : Int) + (conts (n - (i + 1) + 1) lo hi (bt s (i : Int) :: (bytesOf s).drop (i + 1)) : Int)) := by
        intro lo' hi' e1 e2
        subst e1; subst e2
        refine Ev.ite_pos (by omega) (Ev.ite_pos (by omega) ?_)
        unfold conts
        by_cases h1 : bt s (i : Int) < lo'
        · refine Ev.ite_pos h1 ?_
          rw [if_neg (by omega)]
          simp only [Int.natCast_zero, Int.add_zero]
          exact Ev.now _
        · refine Ev.ite_neg h1 ?_
          by_cases h2 : bt s (i : Int) > hi'
          · refine Ev.ite_pos h2 ?_
            rw [if_neg (by omega)]
            simp only [Int.natCast_zero, Int.add_zero]
            exact Ev.now _
          · refine Ev.ite_neg h2 ?_
            rw [if_pos (by omega)]
            have := ih (i + 1) 128 191 (by omega) (by omega) (by omega) (by omega)
            have e3 : ((i : Int) + ((conts (n - (i + 1)) 128 191 ((bytesOf s).drop (i + 1)) + 1 : Nat) : Int)) = (((i + 1 : Nat) : Int) + (conts (n - (i + 1)) 128 191 ((bytesOf s).drop (i + 1)) : Int)) := by omega
            rw [e3]
            exact this
      by_cases hi1 : i = 1
      · refine Ev.ite_pos (by omega) ?_
        exact both s0 s1 (hlo hi1).1.symm (hlo hi1).2.symm
      · refine Ev.ite_neg (by omega) ?_
        exact both 128 191 (hhi hi1).1.symm (hhi hi1).2.symm
    · refine Ev.ite_neg (by omega) ?_
      rw [List.drop_of_length_le (by rw [bytes_len]; exact h)]
      refine Ev.step (fun k => by rw [monikerref02_fits.j1]) ?_
      unfold conts
      simp only [Int.natCast_zero, Int.add_zero]
      exact Ev.ite_neg (by simp) (Ev.now _)
theorem fits_f (s : ByteArray) (hs : s.size ≤ 140737488351232) (f0 f1 s0 s1 : Int) (n : Nat) (h1 : 1 ≤ n) (hn : n ≤ 4) : Ev (fun k => monikerref02_fits.f k s f0 f1 s0 s1 (n : Int)) (fitsS f0 f1 s0 s1 n (bytesOf s) : Int) := by
  unfold monikerref02_fits.f
  refine Ev.step (fun k => by rw [monikerref02_fits.l0]) ?_
  rcases at_begin s with ⟨h, e⟩ | ⟨h, e, b0, b1⟩
  · rw [e]
    refine Ev.ite_neg (by omega) ?_
    refine Ev.step (fun k => by rw [monikerref02_fits.j1]) ?_
    exact Ev.ite_neg (by simp) (Ev.now _)
  · rw [e, fitsS_cons]
    have hd : decide ((0 : Int) < (n : Int)) = true := by simp; omega
    rw [hd]
    refine Ev.ite_pos (by omega) ?_
    refine Ev.step (fun k => by rw [monikerref02_fits.j1]) ?_
    refine Ev.ite_pos rfl (Ev.ite_pos rfl ?_)
    refine Ev.step (fun k => by rw [monikerref02_fits.j2]) ?_
    have hw : wrap64 (bt s 0) = bt s 0 := w64 (by omega) (by omega)
    have hw2 : wrap64 ((0 : Int) + 1) = ((1 : Nat) : Int) := w64 (by omega) (by omega)
    rw [hw, hw2]
    refine Ev.ite_neg (by omega) (Ev.ite_pos (by omega) (Ev.ite_pos (by omega) ?_))
    by_cases h2 : bt s 0 < f0
    · rw [if_neg (by omega)]
      exact Ev.ite_pos h2 (Ev.now _)
    · refine Ev.ite_neg h2 ?_
      by_cases h3 : bt s 0 > f1
      · rw [if_neg (by omega)]
        exact Ev.ite_pos h3 (Ev.now _)
      · rw [if_pos (by omega)]
        refine Ev.ite_neg h3 ?_
        have := fits_l0 s hs f0 f1 s0 s1 n hn (n - 1) 1 s0 s1 (by omega) (by omega) (by simp) (by simp)
        have e3 : ((conts (n - 1) s0 s1 ((bytesOf s).drop 1) + 1 : Nat) : Int) = ((1 : Nat) : Int) + (conts (n - 1) s0 s1 ((bytesOf s).drop 1) : Int) := by omega
        rw [e3]
        exact this
theorem refval_l0 (s : ByteArray) (hs : s.size ≤ 4) : ∀ d i : Nat, ∀ r : Int, i + d = s.size → d ≤ 3 → 0 ≤ r → r < bnd d → (∀ c ∈ (bytesOf s).drop i, 128 ≤ c ∧ c ≤ 191) →
    Ev (fun k => monikerref02_value.l0 k s r (i : Int)) (accum r ((bytesOf s).drop i)) := by
  intro d
  induction d with
  | zero =>
    intro i r hi _ _ _ _
    refine Ev.step (fun k => by rw [monikerref02_value.l0]) ?_
    refine Ev.ite_neg (by omega) ?_
    rw [List.drop_of_length_le (by rw [bytes_len]; omega)]
    exact Ev.now _
  | succ d ih =>
    intro i r hi hd r0 r1 hc
    rcases at_or_end s i (by omega) with ⟨h2, _⟩ | ⟨_, e, b0, b1⟩
    · omega
    rw [e] at hc ⊢
    obtain ⟨c0, c1⟩ := hc _ (List.mem_cons_self ..)
    have hb := bnd_step (by omega) r0 r1 c0 c1
    refine Ev.step (fun k => by rw [monikerref02_value.l0]) ?_
    refine Ev.ite_pos (by omega) (Ev.ite_pos (by omega) ?_)
    have e1 : wrap64 (wrap64 (wrap64 (r * 64) + wrap64 (bt s (i : Int))) - 128) = r * 64 + (bt s (i : Int) - 128) := by
      rw [w64 (x := r * 64) (by omega) (by omega), w64 (x := bt s (i : Int)) (by omega) (by omega), w64 (x := r * 64 + bt s (i : Int)) (by omega) (by omega), w64 (by omega) (by omega)]
      omega
    rw [e1, w64 (by omega) (by omega)]
    exact ih (i + 1) _ (by omega) (by omega) hb.1 hb.2.1 (fun c h => hc c (List.mem_cons_of_mem _ h))
theorem refval_f (s : ByteArray) (n : Nat) (hn : s.size = n) (h1 : 1 ≤ n) (h4 : n ≤ 4) (l0 : 0 ≤ lead (n : Int) (bt s 0)) (l1 : lead (n : Int) (bt s 0) < 128) (hc : ∀ c ∈ (bytesOf s).drop 1, 128 ≤ c ∧ c ≤ 191) :
    Ev (fun k => monikerref02_value.f k s) (accum (lead (n : Int) (bt s 0)) ((bytesOf s).drop 1)) := by
  have hr := bt_rng s 0
  have loop : 2 ≤ n → ∀ r, r = lead (n : Int) (bt s 0) → Ev (fun k => monikerref02_value.l0 k s r 1) (accum (lead (n : Int) (bt s 0)) ((bytesOf s).drop 1)) := by
    intro h2 r e
    subst e
    have hbn : lead (n : Int) (bt s 0) < bnd (n - 1) := by
      rcases n with _ | _ | _ | _ | _ | n
      · omega
      · omega
      · exact Int.lt_of_lt_of_le l1 (by decide)
      · exact Int.lt_of_lt_of_le l1 (by decide)
      · exact Int.lt_of_lt_of_le l1 (by decide)
      · omega
    exact refval_l0 s (by omega) (n - 1) 1 _ (by omega) (by omega) l0 hbn hc
  have tail : 2 ≤ n → ∀ r, r = lead (n : Int) (bt s 0) → Ev (fun k => monikerref02_value.j1 k s r) (accum (lead (n : Int) (bt s 0)) ((bytesOf s).drop 1)) := by
    intro h2 r e
    refine Ev.step (fun k => by rw [monikerref02_value.j1]) ?_
    exact loop h2 r e
  unfold monikerref02_value.f
  by_cases e1 : n = 1
  · refine Ev.ite_pos (by omega) (Ev.ite_pos (by omega) ?_)
    rw [List.drop_of_length_le (by rw [bytes_len]; omega), w64 (by omega) (by omega), e1]
    have : lead ((1 : Nat) : Int) (bt s 0) = bt s 0 := by unfold lead; simp
    rw [this]
    exact Ev.now _
  refine Ev.ite_neg (by omega) (Ev.ite_pos (by omega) ?_)
  have w0 : wrap64 (bt s 0) = bt s 0 := w64 (by omega) (by omega)
  rw [w0]
  by_cases e3 : n = 3
  · refine Ev.ite_pos (by omega) ?_
    refine Ev.step (fun k => by rw [monikerref02_value.j0]) ?_
    refine Ev.ite_neg (by omega) ?_
    refine tail (by omega) _ ?_
    rw [w64 (by omega) (by omega)]
    subst e3
    unfold lead
    simp
  · refine Ev.ite_neg (by omega) ?_
    refine Ev.step (fun k => by rw [monikerref02_value.j0]) ?_
    by_cases e4 : n = 4
    · refine Ev.ite_pos (by omega) (Ev.ite_pos (by omega) ?_)
      rw [w0]
      refine tail (by omega) _ ?_
      rw [w64 (by omega) (by omega)]
      subst e4
      unfold lead
      simp
    · refine Ev.ite_neg (by omega) ?_
      refine tail (by omega) _ ?_
      rw [w64 (by omega) (by omega)]
      have e2 : n = 2 := by omega
      subst e2
      unfold lead
      simp
theorem refval_pre (s : ByteArray) (n : Nat) (hn : n ≤ s.size) (h1 : 1 ≤ n) (h4 : n ≤ 4) (l0 : 0 ≤ lead (n : Int) (bt s 0)) (l1 : lead (n : Int) (bt s 0) < 128) (hc : 2 ≤ n → ∀ c ∈ ((bytesOf s).drop 1).take (n - 1), 128 ≤ c ∧ c ≤ 191) :
    Ev (fun k => monikerref02_value.f k (s.extract 0 n)) (accum (lead (n : Int) (bt s 0)) (((bytesOf s).drop 1).take (n - 1))) := by
  have hb : bytesOf (s.extract 0 n) = bt s 0 :: ((bytesOf s).drop 1).take (n - 1) := by
    rcases at_begin s with ⟨h, _⟩ | ⟨_, e, _⟩
    · omega
    · rw [bytes_extract, List.drop_zero]
      conv => lhs; rw [e, show n = (n - 1) + 1 by omega, List.take_succ_cons]
  have hsz : (s.extract 0 n).size = n := by
    rw [← bytes_len, hb, List.length_cons, List.length_take, List.length_drop, bytes_len]; omega
  have hb0 : bt (s.extract 0 n) 0 = bt s 0 := by
    rcases at_begin (s.extract 0 n) with ⟨h, _⟩ | ⟨_, e2, _⟩
    · omega
    · rw [hb] at e2
      injection e2 with e2 _
      exact e2.symm
  have := refval_f (s.extract 0 n) n hsz h1 h4 (by rw [hb0]; exact l0) (by rw [hb0]; exact l1) (by
    intro c hcc
    rw [hb, List.drop_succ_cons, List.drop_zero] at hcc
    by_cases h2 : 2 ≤ n
    · exact hc h2 c hcc
    · rw [show n - 1 = 0 by omega] at hcc
      simp at hcc)
  rw [hb0, hb, List.drop_succ_cons, List.drop_zero] at this
  exact this
def rowOf (b : Int) : Nat :=
  if b < 128 then 0 else if b < 194 then 9 else if b ≤ 223 then 1 else if b = 224 then 2 else if b ≤ 236 then 3 else if b = 237 then 4 else if b ≤ 239 then 5
  else if b = 240 then 6 else if b ≤ 243 then 7 else if b = 244 then 8 else 9
theorem row_in {b : Int} (h0 : 0 ≤ b) (h1 : b ≤ 255) : ∀ j : Nat, j < 9 → ((monikerref02_row_at j 0 ≤ b ∧ b ≤ monikerref02_row_at j 1) ↔ rowOf b = j) := by
  intro j hj
  have := byte_all (p := fun b => ∀ j : Fin 9, (monikerref02_row_at j.val 0 ≤ b ∧ b ≤ monikerref02_row_at j.val 1) ↔ rowOf b = j.val) (by decide +kernel) h0 h1
  exact this ⟨j, hj⟩
theorem row_shp {b : Int} (h0 : 0 ≤ b) (h1 : b ≤ 255) : (rowOf b < 9 → shp b = (monikerref02_row_at (rowOf b) 4, monikerref02_row_at (rowOf b) 2, monikerref02_row_at (rowOf b) 3)) ∧ (9 ≤ rowOf b → shp b = (0, 0, 0)) :=
  byte_all (p := fun b => (rowOf b < 9 → shp b = (monikerref02_row_at (rowOf b) 4, monikerref02_row_at (rowOf b) 2, monikerref02_row_at (rowOf b) 3)) ∧ (9 ≤ rowOf b → shp b = (0, 0, 0))) (by decide +kernel) h0 h1
theorem row_n (j : Nat) (hj : j < 9) : ∃ n : Nat, monikerref02_row_at j 4 = (n : Int) ∧ 1 ≤ n ∧ n ≤ 4 := by
  have : ∀ j : Fin 9, 1 ≤ monikerref02_row_at j.val 4 ∧ monikerref02_row_at j.val 4 ≤ 4 := by decide +kernel
  obtain ⟨h1, h2⟩ := this ⟨j, hj⟩
  simp only at h1 h2
  exact ⟨(monikerref02_row_at j 4).toNat, by omega, by omega, by omega⟩
theorem row_f (i : Nat) (hi : i < 9) : monikerref02_row.f (i : Int) = some (monikerref02_row_at i 0, monikerref02_row_at i 1, monikerref02_row_at i 2, monikerref02_row_at i 3, monikerref02_row_at i 4) := by
  unfold monikerref02_row.f
  rw [if_pos (by omega), Int.toNat_natCast]
theorem row_skip (s : ByteArray) (hs : s.size ≤ 140737488351232) (hp : 0 < s.size) (best : Int) (hb : 1 ≤ best) (i : Nat) (hi : i < 9) (hne : rowOf (bt s 0) ≠ i) (r : Int × Int × Bool)
    (h : Ev (fun k => monikerref02_Decode.l0 k s best ((i + 1 : Nat) : Int)) r) : Ev (fun k => monikerref02_Decode.l0 k s best (i : Int)) r := by
  obtain ⟨n, en, n1, n4⟩ := row_n i hi
  have hr := bt_rng s 0
  rcases at_begin s with ⟨h0, _⟩ | ⟨_, e, b0, b1⟩
  · omega
  refine Ev.step (fun k => by rw [monikerref02_Decode.l0]) ?_
  refine Ev.ite_pos (by omega) (Ev.pure_bind (row_f i hi) ?_)
  simp only
  rw [en]
  refine Ev.bind' (fits_f s hs _ _ _ _ n n1 n4) ?_
  have hz : fitsS (monikerref02_row_at i 0) (monikerref02_row_at i 1) (monikerref02_row_at i 2) (monikerref02_row_at i 3) n (bytesOf s) = 0 := by
    rw [e, fitsS_cons, if_neg (fun x => hne ((row_in b0 b1 i hi).1 x))]
  rw [hz]
  refine Ev.ite_neg (by omega) ?_
  have hm : mx best ((0 : Nat) : Int) = best := by unfold mx; rw [if_neg (by omega)]
  rw [hm, w64 (by omega) (by omega)]
  exact h
theorem row_skips (s : ByteArray) (hs : s.size ≤ 140737488351232) (hp : 0 < s.size) (best : Int) (hb : 1 ≤ best) (r : Int × Int × Bool) (j : Nat) (hj : j ≤ 9) (h : Ev (fun k => monikerref02_Decode.l0 k s best (j : Int)) r) :
    ∀ d i : Nat, i + d = j → (∀ m, i ≤ m → m < j → rowOf (bt s 0) ≠ m) → Ev (fun k => monikerref02_Decode.l0 k s best (i : Int)) r := by
  intro d
  induction d with
  | zero => intro i hi _; rw [show i = j by omega]; exact h
  | succ d ih =>
    intro i hi hm
    exact row_skip s hs hp best hb i (by omega) (hm i (by omega) (by omega)) r (ih (i + 1) (by omega) (fun m h1 h2 => hm m (by omega) h2))
theorem row_end (s : ByteArray) (best : Int) : Ev (fun k => monikerref02_Decode.l0 k s best ((9 : Nat) : Int)) (0, best, false) := by
  refine Ev.step (fun k => by rw [monikerref02_Decode.l0]) ?_
  exact Ev.ite_neg (by decide) (Ev.now _)
set_option maxHeartbeats 1000000 in
theorem refDecode_f (s : ByteArray) (hs : s.size ≤ 140737488351232) : Ev (fun k => monikerref02_Decode.f k s) (dec (bytesOf s)) := by
  unfold monikerref02_Decode.f
  have hnil : s.toList = ([] : List UInt8) ↔ bytesOf s = [] := by
    rw [toList_data]
    unfold bytesOf
    exact List.map_eq_nil_iff.symm
  rcases at_begin s with ⟨h0, e⟩ | ⟨hp, e, b0, b1⟩
  · rw [e]
    exact Ev.ite_pos (hnil.2 e) (Ev.now _)
  · refine Ev.ite_neg (fun h => by rw [hnil.1 h] at e; cases e) ?_
    obtain ⟨hsh1, hsh2⟩ := row_shp b0 b1
    rcases Nat.lt_or_ge (rowOf (bt s 0)) 9 with hlt | hge
    · obtain ⟨n, en, n1, n4⟩ := row_n _ hlt
      have hshp := hsh1 hlt
      have skipTo : ∀ r, Ev (fun k => monikerref02_Decode.l0 k s 1 ((rowOf (bt s 0) : Nat) : Int)) r → Ev (fun k => monikerref02_Decode.l0 k s 1 0) r := by
        intro r h
        exact row_skips s hs hp 1 (by omega) r (rowOf (bt s 0)) (by omega) h (rowOf (bt s 0)) 0 (by omega) (fun m _ h2 => by omega)
      refine skipTo _ ?_
      refine Ev.step (fun k => by rw [monikerref02_Decode.l0]) ?_
      refine Ev.ite_pos (by omega) (Ev.pure_bind (row_f _ hlt) ?_)
      simp only
      rw [en]
      refine Ev.bind' (fits_f s hs _ _ _ _ n n1 n4) ?_
      have hfit : fitsS (monikerref02_row_at (rowOf (bt s 0)) 0) (monikerref02_row_at (rowOf (bt s 0)) 1) (monikerref02_row_at (rowOf (bt s 0)) 2) (monikerref02_row_at (rowOf (bt s 0)) 3) n (bytesOf s)
          = conts (n - 1) (shp (bt s 0)).2.1 (shp (bt s 0)).2.2 ((bytesOf s).drop 1) + 1 := by
        have hin := (row_in b0 b1 _ hlt).2 rfl
        rw [hshp]
        conv => lhs; rw [e]
        rw [fitsS_cons, if_pos hin]
      rw [hfit]
      have h1 : (shp (bt s 0)).1 = (n : Int) := by rw [hshp]; exact en
      have hdec := dec_cons (bt s 0) ((bytesOf s).drop 1)
      rw [← e, h1, if_neg (by omega), Int.toNat_natCast] at hdec
      rw [hdec]
      have hcl := conts_le (n - 1) (shp (bt s 0)).2.1 (shp (bt s 0)).2.2 ((bytesOf s).drop 1)
      have hcm : 2 ≤ (shp (bt s 0)).1 → ∀ c ∈ ((bytesOf s).drop 1).take (conts (n - 1) (shp (bt s 0)).2.1 (shp (bt s 0)).2.2 ((bytesOf s).drop 1)), 128 ≤ c ∧ c ≤ 191 :=
        fun h2 => conts_mem _ _ _ (shp_bounds h2).1 (shp_bounds h2).2 _
      rw [List.length_drop, bytes_len] at hcl
      have hlead := shp_lead b0 b1 (by omega)
      rw [h1] at hcm hlead
      revert hcl hcm
      generalize conts (n - 1) (shp (bt s 0)).2.1 (shp (bt s 0)).2.2 ((bytesOf s).drop 1) = m
      intro hcl hcm
      by_cases hm : (m : Int) + 1 < (n : Int)
      · rw [if_pos hm]
        refine Ev.ite_neg (by omega) ?_
        have hmx : mx 1 ((m + 1 : Nat) : Int) = (m : Int) + 1 := by unfold mx; split <;> omega
        rw [hmx, w64 (by omega) (by omega)]
        exact row_skips s hs hp ((m : Int) + 1) (by omega) _ 9 (by omega) (row_end s _) (9 - (rowOf (bt s 0) + 1)) (rowOf (bt s 0) + 1) (by omega) (fun k h1 h2 => by omega)
      · rw [if_neg hm]
        have hmn : m + 1 = n := by omega
        rw [hmn, Int.toNat_natCast]
        refine Ev.ite_pos rfl (Ev.ite_pos (by omega) (Ev.ite_pos (by omega) ?_))
        refine Ev.bind' (refval_pre s n (by omega) n1 n4 hlead.1 hlead.2 (fun h2 c hc => hcm (by omega) c (by rw [show m = n - 1 by omega]; exact hc))) ?_
        exact Ev.now _
    · have hshp := hsh2 hge
      have hdec := dec_cons (bt s 0) ((bytesOf s).drop 1)
      rw [← e, hshp, if_pos rfl] at hdec
      rw [hdec]
      exact row_skips s hs hp 1 (by omega) _ 9 (by omega) (row_end s 1) 9 0 (by omega) (fun m _ h2 => by omega)
end Go.Proofs.YtdmigmccfdhdiaaDoor.Y
namespace Go.Proofs.YtdmigmccfdhdiaaDoor.Y
open Go.RowKit Go.Proofs.YtdmigmccfdhdiaaDoor.X Go.Proofs.YtdmigmccfdhdiaaDoor.M Go.Proofs.YtdmigmccfdhdiaaDoorW.PrintWords Go.Proofs.YtdmigmccfdhdiaaDoorW.PrintLast Go.Proofs.YtdmigmccfdhdiaaDoorW.PrintMore
set_option linter.unusedVariables false
theorem drop3 {s : ByteArray} {i : Nat} (h : i + 3 ≤ s.size) : (bytesOf s).drop i = bt s (i : Int) :: bt s ((i : Int) + 1) :: bt s ((i : Int) + 2) :: (bytesOf s).drop (i + 3) := by
  rcases at_or_end s i (by omega) with ⟨h2, _⟩ | ⟨_, e, _⟩
  · omega
  rcases at_or_end s (i + 1) (by omega) with ⟨h2, _⟩ | ⟨_, e2, _⟩
  · omega
  rcases at_or_end s (i + 2) (by omega) with ⟨h2, _⟩ | ⟨_, e3, _⟩
  · omega
  rw [e, e2, e3]
  rfl
theorem escH_short {l : List Int} (h : l.length < 3) : escH l = -1 := by
  match l, h with
  | [], _ => rfl
  | [_], _ => rfl
  | [_, _], _ => rfl
  | _ :: _ :: _ :: _, h => simp only [List.length_cons] at h; omega
theorem escH_three (p a b : Int) (t : List Int) : escH (p :: a :: b :: t) = if p = 37 then (if hv a < 0 ∨ hv b < 0 then -1 else 16 * hv a + hv b) else -1 := rfl
theorem hex_join {a b : Int} (ha : 0 ≤ a) (ha1 : a ≤ 15) (hb : 0 ≤ b) (hb1 : b ≤ 15) : (Go.bits .or .i64 (wrap64 (a * 16)) b) % 256 = 16 * a + b := by
  have : ∀ x : Fin 16, ∀ y : Fin 16, (Go.bits .or .i64 (wrap64 (((x.val : Nat) : Int) * 16)) ((y.val : Nat) : Int)) % 256 = 16 * ((x.val : Nat) : Int) + ((y.val : Nat) : Int) := by decide +kernel
  have := this ⟨a.toNat, by omega⟩ ⟨b.toNat, by omega⟩
  simp only at this
  rwa [Int.toNat_of_nonneg ha, Int.toNat_of_nonneg hb] at this
theorem escAt_f (s : ByteArray) (i : Nat) (hi : i ≤ s.size) (hs : s.size ≤ 140737488351232) : Ev (fun k => escape_At.f k s (i : Int)) (if escH ((bytesOf s).drop i) < 0 then (0, false) else (escH ((bytesOf s).drop i), true)) := by
  unfold escape_At.f
  refine Ev.ite_neg (by omega) ?_
  have bad : ∀ r, r = (0, false) → Ev (fun k => escape_At.j0 k s (i : Int) true) r := by
    intro r e
    subst e
    refine Ev.step (fun k => by rw [escape_At.j0]) ?_
    exact Ev.ite_pos rfl (Ev.now _)
  rw [w64 (by omega) (by omega)]
  by_cases h3 : i + 3 ≤ s.size
  · refine Ev.ite_neg (by omega) (Ev.ite_pos (by omega) (Ev.ite_pos (by omega) ?_))
    rw [drop3 h3, escH_three]
    by_cases hp : bt s (i : Int) = 37
    · rw [if_pos hp, hp]
      refine Ev.step (fun k => by rw [escape_At.j0]) ?_
      refine Ev.ite_neg (by decide) ?_
      have r1 := bt_rng s ((i : Int) + 1)
      have r2 := bt_rng s ((i : Int) + 2)
      have v1 := hv_range (bt s ((i : Int) + 1))
      have v2 := hv_range (bt s ((i : Int) + 2))
      rw [w64 (x := (i : Int) + 1) (by omega) (by omega), w64 (x := (i : Int) + 2) (by omega) (by omega)]
      refine Ev.ite_pos (by omega) (Ev.ite_pos (by omega) (Ev.bind' (value_f r1.1 r1.2) (Ev.ite_pos (by omega) (Ev.ite_pos (by omega) (Ev.bind' (value_f r2.1 r2.2) ?_)))))
      generalize hv (bt s ((i : Int) + 1)) = x at v1 ⊢
      generalize hv (bt s ((i : Int) + 2)) = y at v2 ⊢
      by_cases h1 : x < 0
      · have h3 : x < 0 ∨ y < 0 := .inl h1
        simp only [if_pos h1, if_pos h3]
        exact Ev.ite_neg (by simp) (Ev.now _)
      · simp only [if_neg h1]
        refine Ev.ite_pos (by simp) ?_
        by_cases h2 : y < 0
        · have h3 : x < 0 ∨ y < 0 := .inr h2
          simp only [if_pos h2, if_pos h3]
          exact Ev.ite_neg (by simp) (Ev.now _)
        · have h3 : ¬ (x < 0 ∨ y < 0) := by omega
          simp only [if_neg h2, if_neg h3]
          refine Ev.ite_pos (by simp) ?_
          rw [if_neg (by omega), hex_join (by omega) (by omega) (by omega) (by omega)]
          exact Ev.now _
    · rw [if_neg hp, if_pos (by omega)]
      have : (bt s (i : Int) != 37) = true := by simpa using hp
      rw [this]
      exact bad _ rfl
  · refine Ev.ite_pos (by omega) ?_
    rw [escH_short (by rw [List.length_drop, bytes_len]; omega), if_pos (by omega)]
    exact bad _ rfl
theorem refAt_f (s : ByteArray) (i : Nat) (hi : i ≤ s.size) (hs : s.size ≤ 140737488351232) : Ev (fun k => monikerref04_At.f k s (i : Int)) (escH ((bytesOf s).drop i)) := by
  unfold monikerref04_At.f
  refine Ev.ite_neg (by omega) ?_
  have bad : ∀ r, r = -1 → Ev (fun k => monikerref04_At.j0 k s (i : Int) true) r := by
    intro r e
    subst e
    refine Ev.step (fun k => by rw [monikerref04_At.j0]) ?_
    exact Ev.ite_pos rfl (Ev.now _)
  by_cases h0 : i < s.size
  · refine Ev.ite_neg (by omega) ?_
    rw [w64 (by omega) (by omega)]
    by_cases h3 : i + 3 ≤ s.size
    · refine Ev.ite_neg (by omega) (Ev.ite_pos (by omega) (Ev.ite_pos (by omega) ?_))
      rw [drop3 h3, escH_three]
      by_cases hp : bt s (i : Int) = 37
      · rw [if_pos hp, hp]
        refine Ev.step (fun k => by rw [monikerref04_At.j0]) ?_
        refine Ev.ite_neg (by decide) ?_
        have r1 := bt_rng s ((i : Int) + 1)
        have r2 := bt_rng s ((i : Int) + 2)
        have v1 := hv_range (bt s ((i : Int) + 1))
        have v2 := hv_range (bt s ((i : Int) + 2))
        rw [w64 (x := (i : Int) + 1) (by omega) (by omega), w64 (x := (i : Int) + 2) (by omega) (by omega)]
        refine Ev.ite_pos (by omega) (Ev.ite_pos (by omega) (Ev.bind' (refValue_f r1.1 r1.2) (Ev.ite_pos (by omega) (Ev.ite_pos (by omega) (Ev.bind' (refValue_f r2.1 r2.2) ?_)))))
        generalize hv (bt s ((i : Int) + 1)) = x at v1 ⊢
        generalize hv (bt s ((i : Int) + 2)) = y at v2 ⊢
        by_cases h1 : x < 0
        · have h3 : x < 0 ∨ y < 0 := .inl h1
          rw [if_pos h3]
          exact Ev.ite_pos h1 (Ev.now _)
        · refine Ev.ite_neg h1 ?_
          by_cases h2 : y < 0
          · have h3 : x < 0 ∨ y < 0 := .inr h2
            rw [if_pos h3]
            exact Ev.ite_pos h2 (Ev.now _)
          · have h3 : ¬ (x < 0 ∨ y < 0) := by omega
            refine Ev.ite_neg h2 ?_
            rw [if_neg h3, w64 (x := 16 * x) (by omega) (by omega), w64 (by omega) (by omega)]
            exact Ev.now _
      · rw [if_neg hp]
        have : (bt s (i : Int) != 37) = true := by simpa using hp
        rw [this]
        exact bad _ rfl
    · refine Ev.ite_pos (by omega) ?_
      rw [escH_short (by rw [List.length_drop, bytes_len]; omega)]
      exact bad _ rfl
  · refine Ev.ite_pos (by omega) ?_
    rw [escH_short (by rw [List.length_drop, bytes_len]; omega)]
    exact bad _ rfl
theorem extra_f (p : Int) : ∃ t, lexis_extra.f p = some (t, place p) := by
  unfold lexis_extra.f place
  by_cases h1 : p = 1
  · subst h1; exact ⟨_, rfl⟩
  by_cases h2 : p = 2
  · subst h2; exact ⟨_, rfl⟩
  by_cases h3 : p = 3
  · subst h3; exact ⟨_, rfl⟩
  by_cases h4 : p = 4
  · subst h4; exact ⟨_, rfl⟩
  by_cases h5 : p = 5
  · subst h5; exact ⟨_, rfl⟩
  by_cases h6 : p = 6
  · subst h6; exact ⟨_, rfl⟩
  by_cases h7 : p = 7
  · subst h7; exact ⟨_, rfl⟩
  · rw [if_neg h1, if_neg h2, if_neg h3, if_neg h4, if_neg h5, if_neg h6, if_neg h7]
    exact ⟨_, by rw [decide_eq_false (by omega)]⟩
theorem place_all {q : Int → Prop} (h : ∀ n : Fin 7, q ((n.val : Nat) + 1 : Int)) {p : Int} (hp : place p = true) : q p := by
  have hp : 1 ≤ p ∧ p ≤ 7 := by simpa [place] using hp
  have := h ⟨(p - 1).toNat, by omega⟩
  simp only at this
  rwa [Int.toNat_of_nonneg (by omega), show p - 1 + 1 = p by omega] at this
theorem plain_f {p b : Int} (h0 : 0 ≤ b) (h1 : b ≤ 255) : Ev (fun k => lexis_Plain.f k p b) (plainAt p b) := by
  by_cases hp : place p = true
  · refine Ev.of (fun k => lexis_Plain.mono p b k) (k := 20) ?_
    refine place_all (q := fun p => lexis_Plain.f 20 p b = some (plainAt p b)) ?_ hp
    intro n
    exact byte_all (p := fun b => lexis_Plain.f 20 ((n.val : Nat) + 1 : Int) b = some (plainAt ((n.val : Nat) + 1 : Int) b)) (by revert n; decide +kernel) h0 h1
  · unfold lexis_Plain.f plainAt
    obtain ⟨t, e⟩ := extra_f p
    refine Ev.pure_bind e ?_
    rw [Bool.not_eq_true] at hp
    rw [hp]
    exact Ev.ite_neg (by simp) (Ev.now _)
theorem refPlain_f {p b : Int} (h0 : 0 ≤ b) (h1 : b ≤ 255) : Ev (fun k => monikerref18_Plain.f k p b) (plainAt p b) := by
  by_cases hp : place p = true
  · refine Ev.of (fun k => monikerref18_Plain.mono p b k) (k := 70) ?_
    refine place_all (q := fun p => monikerref18_Plain.f 70 p b = some (plainAt p b)) ?_ hp
    intro n
    exact byte_all (p := fun b => monikerref18_Plain.f 70 ((n.val : Nat) + 1 : Int) b = some (plainAt ((n.val : Nat) + 1 : Int) b)) (by revert n; decide +kernel) h0 h1
  · unfold monikerref18_Plain.f plainAt
    have hp2 : ¬ (1 ≤ p ∧ p ≤ 7) := by simpa [place] using hp
    rw [Bool.not_eq_true] at hp
    rw [hp, Bool.false_and]
    by_cases hlt : p < 1
    · refine Ev.ite_pos hlt ?_
      refine Ev.step (fun k => by rw [monikerref18_Plain.j0]) ?_
      exact Ev.ite_pos rfl (Ev.now _)
    · refine Ev.ite_neg hlt ?_
      rw [decide_eq_true (by omega)]
      refine Ev.step (fun k => by rw [monikerref18_Plain.j0]) ?_
      exact Ev.ite_pos rfl (Ev.now _)
theorem common_j0 (r : Int) (h0 : 160 ≤ r) (h1 : r < 2147483648) (b : Bool) (hb : b = true ↔ (r ≤ 55295 ∨ 63744 ≤ r ∧ r ≤ 64975 ∨ 65008 ≤ r ∧ r ≤ 65519)) : Ev (fun k => lexis_Common.j0 k r b) (common r) := by
  refine Ev.step (fun k => by rw [lexis_Common.j0]) ?_
  have hm : Go.bits .and .i32 r 65535 = r % 65536 := bits_mask .i32 31 (by decide) wraps_i32 16 (by decide) r (by omega) (by omega)
  unfold common
  refine Ev.ite (fun h => Ev.val ?_) (fun h => Ev.ite (fun h2 => Ev.val ?_) (fun h2 => Ev.ite (fun h3 => Ev.val ?_) (fun h3 => ?_)))
  · have := hb.1 h
    symm
    rw [decide_eq_true_iff]
    omega
  · have hnb : ¬ (r ≤ 55295 ∨ 63744 ≤ r ∧ r ≤ 64975 ∨ 65008 ≤ r ∧ r ≤ 65519) := fun x => h (hb.2 x)
    symm
    rw [decide_eq_false_iff_not]
    omega
  · have hnb : ¬ (r ≤ 55295 ∨ 63744 ≤ r ∧ r ≤ 64975 ∨ 65008 ≤ r ∧ r ≤ 65519) := fun x => h (hb.2 x)
    symm
    rw [decide_eq_false_iff_not]
    omega
  · have hnb : ¬ (r ≤ 55295 ∨ 63744 ≤ r ∧ r ≤ 64975 ∨ 65008 ≤ r ∧ r ≤ 65519) := fun x => h (hb.2 x)
    rw [hm]
    refine Ev.ite (fun h4 => Ev.ite (fun h5 => Ev.val ?_) (fun h5 => Ev.val ?_)) (fun h4 => Ev.val ?_)
    · symm
      rw [decide_eq_true_iff]
      omega
    · rw [decide_eq_decide]
      omega
    · symm
      rw [decide_eq_false_iff_not]
      omega
theorem common_f (r : Int) (h1 : r < 2147483648) : Ev (fun k => lexis_Common.f k r) (common r) := by
  unfold lexis_Common.f
  refine Ev.ite (fun h => Ev.val ?_) (fun h => ?_)
  · unfold common
    symm
    rw [decide_eq_false_iff_not]
    omega
  · have key := common_j0 r (by omega) h1
    refine Ev.ite (fun h2 => key _ ?_) (fun h2 => Ev.ite (fun h3 => Ev.ite (fun h4 => key _ ?_) (fun h4 => Ev.ite (fun h5 => key _ ?_) (fun h5 => key _ ?_))) (fun h3 => Ev.ite (fun h5 => key _ ?_) (fun h5 => key _ ?_))) <;> simp <;> omega
theorem private_f (r : Int) : lexis_Private.f r = some (priv r) := by
  unfold lexis_Private.f priv
  (repeat' split) <;> congr 1 <;> first | (symm; rw [decide_eq_true_iff]; omega) | (symm; rw [decide_eq_false_iff_not]; omega) | (rw [decide_eq_decide]; omega)
theorem refPrivate_f (r : Int) : monikerref18_Private.f r = some (priv r) := by
  unfold monikerref18_Private.f priv
  (repeat' split) <;> congr 1 <;> first | (symm; rw [decide_eq_true_iff]; omega) | (symm; rw [decide_eq_false_iff_not]; omega) | (rw [decide_eq_decide]; omega)
theorem refCommon_l0 (r : Int) (h0 : 0 ≤ r) (h1 : r < 2147483648) (hn : ¬ (160 ≤ r ∧ r ≤ 55295 ∨ 63744 ≤ r ∧ r ≤ 64975 ∨ 65008 ≤ r ∧ r ≤ 65519)) : ∀ d p : Nat, p + d = 14 → 1 ≤ p → (∀ q : Int, 1 ≤ q → q < p → ¬ (q * 65536 ≤ r ∧ r ≤ q * 65536 + 65533)) →
    Ev (fun k => monikerref18_Common.l0 k r (p : Int)) (common r) := by
  intro d
  induction d with
  | zero =>
    intro p hp h1p hq
    refine Ev.step (fun k => by rw [monikerref18_Common.l0]) ?_
    refine Ev.ite_neg (by omega) ?_
    have h13 : ¬ (65536 ≤ r ∧ r ≤ 917501 ∧ r % 65536 ≤ 65533) := by
      intro h
      have := hq (r / 65536) (by omega) (by omega)
      omega
    unfold common
    refine Ev.ite (fun h => Ev.val ?_) (fun h => Ev.val ?_)
    · rw [decide_eq_decide]
      omega
    · symm
      rw [decide_eq_false_iff_not]
      omega
  | succ d ih =>
    intro p hp h1p hq
    refine Ev.step (fun k => by rw [monikerref18_Common.l0]) ?_
    rw [w64 (x := (p : Int) * 65536) (by omega) (by omega), w64 (x := (p : Int) * 65536 + 65533) (by omega) (by omega), w64 (x := (p : Int) + 1) (by omega) (by omega)]
    have next : ¬ ((p : Int) * 65536 ≤ r ∧ r ≤ (p : Int) * 65536 + 65533) → Ev (fun k => monikerref18_Common.l0 k r ((p : Int) + 1)) (common r) := by
      intro h
      refine ih (p + 1) (by omega) (by omega) (fun q q1 q2 => ?_)
      by_cases e : q = p
      · subst e; exact h
      · exact hq q q1 (by omega)
    refine Ev.ite_pos (by omega) (Ev.ite (fun h => Ev.ite (fun h2 => Ev.val ?_) (fun h2 => next (fun x => h2 x.2))) (fun h => next (fun x => h x.1)))
    unfold common
    symm
    rw [decide_eq_true_iff]
    omega
theorem refCommon_f (r : Int) (h0 : 0 ≤ r) (h1 : r < 2147483648) : Ev (fun k => monikerref18_Common.f k r) (common r) := by
  have key : ∀ b : Bool, (b = true ↔ (160 ≤ r ∧ r ≤ 55295 ∨ 63744 ≤ r ∧ r ≤ 64975 ∨ 65008 ≤ r ∧ r ≤ 65519)) → Ev (fun k => monikerref18_Common.j0 k r b) (common r) := by
    intro b hb
    refine Ev.step (fun k => by rw [monikerref18_Common.j0]) ?_
    refine Ev.ite (fun h => Ev.val ?_) (fun h => ?_)
    · have := hb.1 h
      unfold common
      symm
      rw [decide_eq_true_iff]
      omega
    · exact refCommon_l0 r h0 h1 (fun x => h (hb.2 x)) 13 1 (by omega) (by omega) (fun q q1 q2 => by omega)
  unfold monikerref18_Common.f
  refine Ev.ite (fun h2 => Ev.ite (fun h3 => key _ ?_) (fun h3 => Ev.ite (fun h4 => Ev.ite (fun h5 => key _ ?_) (fun h5 => Ev.ite (fun h6 => key _ ?_) (fun h6 => key _ ?_))) (fun h4 => Ev.ite (fun h6 => key _ ?_) (fun h6 => key _ ?_))))
    (fun h2 => Ev.ite (fun h4 => Ev.ite (fun h5 => key _ ?_) (fun h5 => Ev.ite (fun h6 => key _ ?_) (fun h6 => key _ ?_))) (fun h4 => Ev.ite (fun h6 => key _ ?_) (fun h6 => key _ ?_))) <;> simp <;> omega
theorem mod256 {r : Int} (h0 : 0 ≤ r) (h1 : r < 128) : r % 256 = r := by omega
theorem may_f (p : Int) (iri : Bool) (r : Int) (h0 : 0 ≤ r) (h1 : r < 2147483648) : Ev (fun k => lexis_May.f k p iri r) (mayAt p iri r) := by
  unfold lexis_May.f mayAt
  refine Ev.ite_pos (by omega) ?_
  refine Ev.step (fun k => by rw [lexis_May.j0]) ?_
  by_cases h : r < 128
  · rw [if_pos ⟨h0, h⟩, mod256 h0 h]
    refine Ev.ite_pos (by simpa using h) ?_
    exact Ev.bind' (plain_f h0 (by omega)) (Ev.now _)
  · rw [if_neg (fun x => h x.2)]
    refine Ev.ite_neg (by simpa using h) ?_
    obtain ⟨t, e⟩ := extra_f p
    refine Ev.pure_bind e ?_
    simp only
    cases hp : place p
    · refine Ev.ite_neg (by simp) ?_
      refine Ev.step (fun k => by rw [lexis_May.j1]) ?_
      refine Ev.ite_pos rfl (Ev.val ?_)
      simp
    · refine Ev.ite_pos rfl ?_
      refine Ev.step (fun k => by rw [lexis_May.j1]) ?_
      cases iri
      · exact Ev.ite_pos rfl (Ev.now _)
      · refine Ev.ite_neg (by simp) (Ev.bind' (common_f r h1) ?_)
        cases hc : common r
        · refine Ev.ite_neg (by simp) (Ev.ite (fun h6 => ?_) (fun h6 => ?_))
          · refine Ev.pure_bind (private_f r) (Ev.val ?_)
            simp [h6]
          · exact Ev.val (by simp [h6])
        · exact Ev.ite_pos rfl (Ev.val (by simp))
theorem refMay_f (p : Int) (iri : Bool) (r : Int) (h0 : 0 ≤ r) (h1 : r < 2147483648) : Ev (fun k => monikerref18_May.f k p iri r) (mayAt p iri r) := by
  unfold monikerref18_May.f mayAt
  refine Ev.ite_pos (by omega) ?_
  refine Ev.step (fun k => by rw [monikerref18_May.j0]) ?_
  by_cases h : r < 128
  · rw [if_pos ⟨h0, h⟩, mod256 h0 h]
    refine Ev.ite_pos (by simpa using h) ?_
    exact Ev.bind' (refPlain_f h0 (by omega)) (Ev.now _)
  · rw [if_neg (fun x => h x.2)]
    refine Ev.ite_neg (by simpa using h) ?_
    have bad : ∀ v : Bool, v = false → Ev (fun k => monikerref18_May.j1 k p r true) v := by
      intro v e
      subst e
      refine Ev.step (fun k => by rw [monikerref18_May.j1]) ?_
      exact Ev.ite_pos rfl (Ev.now _)
    cases iri
    · exact Ev.ite_neg (by simp) (bad _ (by simp))
    · refine Ev.ite_pos rfl ?_
      by_cases hp : place p = true
      · have hp2 : 1 ≤ p ∧ p ≤ 7 := by simpa [place] using hp
        rw [hp]
        refine Ev.ite_neg (by omega) ?_
        rw [decide_eq_false (by omega)]
        refine Ev.step (fun k => by rw [monikerref18_May.j1]) ?_
        refine Ev.ite_neg (by simp) (Ev.bind' (refCommon_f r h0 h1) ?_)
        cases hc : common r
        · refine Ev.ite_neg (by simp) (Ev.ite (fun h6 => ?_) (fun h6 => ?_))
          · refine Ev.pure_bind (refPrivate_f r) (Ev.val ?_)
            simp [h6]
          · exact Ev.val (by simp [h6])
        · exact Ev.ite_pos rfl (Ev.val (by simp))
      · have hp2 : ¬ (1 ≤ p ∧ p ≤ 7) := by simpa [place] using hp
        rw [Bool.not_eq_true] at hp
        rw [hp]
        refine Ev.ite (fun h6 => bad _ (by simp)) (fun h6 => ?_)
        rw [decide_eq_true (by omega)]
        exact bad _ (by simp)
theorem accum_bound (t : List Int) (h : ∀ c ∈ t, 128 ≤ c ∧ c ≤ 191) : ∀ r, 0 ≤ r → t.length ≤ 3 → r < bnd t.length → 0 ≤ accum r t ∧ accum r t < 33554432 := by
  induction t with
  | nil => intro r h0 _ h1; exact ⟨h0, h1⟩
  | cons c t ih =>
    intro r h0 hl h1
    obtain ⟨c0, c1⟩ := h c (List.mem_cons_self ..)
    rw [List.length_cons] at hl h1
    have hb := bnd_step (by omega) h0 h1 c0 c1
    exact ih (fun d hd => h d (List.mem_cons_of_mem _ hd)) _ hb.1 (by omega) hb.2.1
theorem dec_range (l : List Int) (hl : ∀ b ∈ l, 0 ≤ b ∧ b ≤ 255) : 0 ≤ (dec l).1 ∧ (dec l).1 < 33554432 := by
  cases l with
  | nil => simp [dec]
  | cons b t =>
    obtain ⟨b0, b1⟩ := hl b (List.mem_cons_self ..)
    rw [dec_cons]
    have hr := shp_range b
    by_cases hz : (shp b).1 = 0
    · rw [if_pos hz]; simp
    · rw [if_neg hz]
      have hm : 2 ≤ (shp b).1 → ∀ c ∈ t.take (conts ((shp b).1.toNat - 1) (shp b).2.1 (shp b).2.2 t), 128 ≤ c ∧ c ≤ 191 := fun h2 => conts_mem _ _ _ (shp_bounds h2).1 (shp_bounds h2).2 _
      have hc := conts_le ((shp b).1.toNat - 1) (shp b).2.1 (shp b).2.2 t
      revert hm hc
      generalize conts ((shp b).1.toNat - 1) (shp b).2.1 (shp b).2.2 t = m
      intro hm hc
      by_cases h2 : (m : Int) + 1 < (shp b).1
      · rw [if_pos h2]; simp
      · rw [if_neg h2]
        have hld := shp_lead b0 b1 (by omega)
        simp only
        refine accum_bound _ ?_ _ hld.1 (by rw [List.length_take]; omega) ?_
        · intro c hcc
          by_cases h2 : 2 ≤ (shp b).1
          · exact hm h2 c (by rw [show m = (shp b).1.toNat - 1 by omega]; exact hcc)
          · rw [show (shp b).1.toNat - 1 = 0 by omega] at hcc
            simp at hcc
        · refine Int.lt_of_lt_of_le hld.2 ?_
          generalize (t.take ((shp b).1.toNat - 1)).length = n
          rcases n with _ | _ | _ | n <;> simp [bnd]
theorem bytes_all (s : ByteArray) : ∀ b ∈ bytesOf s, 0 ≤ b ∧ b ≤ 255 := fun _ h => bytes_range h
theorem bytes_from (s : ByteArray) (i : Nat) : bytesOf (s.extract i s.size) = (bytesOf s).drop i := by
  rw [bytes_extract, ← bytes_len, List.take_length]
theorem step_no_escape {p : Int} {iri : Bool} {l : List Int} (hp : place p = true) (h : escH l < 0) : stepAt p iri l = if (dec l).2.2 && mayAt p iri (dec l).1 then (dec l).2.1.toNat else 0 := by
  unfold stepAt
  rw [if_pos hp, if_neg (by omega)]
theorem span_l0 (p : Int) (iri : Bool) (s : ByteArray) (hs : s.size ≤ 140737488351232) (hp : place p = true) : ∀ d i : Nat, i + d = s.size → Ev (fun k => lexis_Span.l0 k p iri s (i : Int)) ((i : Int) + spanAt p iri ((bytesOf s).drop i)) := by
  intro d
  induction d using Nat.strongRecOn with
  | _ d ih =>
    intro i hi
    refine Ev.step (fun k => by rw [lexis_Span.l0]) ?_
    refine Ev.ite (fun h => ?_) (fun h => ?_)
    · obtain ⟨t, e⟩ := extra_f p
      refine Ev.pure_bind e ?_
      simp only
      refine Ev.ite_pos hp (Ev.bind' (escAt_f s i (by omega) hs) ?_)
      rw [span_eq]
      by_cases he : escH ((bytesOf s).drop i) < 0
      · simp only [if_pos he]
        refine Ev.ite_neg (by simp) (Ev.ite_pos (by omega) (Ev.ite_pos (by omega) ?_))
        rw [Int.toNat_natCast]
        have hd := decode_f (s.extract i s.size) (by rw [← bytes_len, bytes_from, List.length_drop, bytes_len]; omega)
        rw [bytes_from] at hd
        refine Ev.bind' hd ?_
        rw [step_no_escape hp he]
        have hr := dec_range ((bytesOf s).drop i) (fun b hb => bytes_all s b (List.mem_of_mem_drop hb))
        have hn := dec_n ((bytesOf s).drop i)
        rw [List.length_drop, bytes_len] at hn
        cases hok : (dec ((bytesOf s).drop i)).2.2
        · refine Ev.ite_neg (by simp) (Ev.val (by simp))
        · refine Ev.ite_pos rfl (Ev.bind' (may_f p iri _ hr.1 (by omega)) ?_)
          have hn1 := dec_ok_n hok
          cases hm : mayAt p iri (dec ((bytesOf s).drop i)).1
          · refine Ev.ite_neg (by simp) (Ev.val (by simp))
          · refine Ev.ite_pos rfl ?_
            rw [w64 (by omega) (by omega)]
            simp only [Bool.and_self, if_true]
            rw [if_neg (by omega), List.drop_drop]
            have := ih (s.size - (i + (dec ((bytesOf s).drop i)).2.1.toNat)) (by omega) (i + (dec ((bytesOf s).drop i)).2.1.toNat) (by omega)
            have e1 : ((i + (dec ((bytesOf s).drop i)).2.1.toNat : Nat) : Int) = (i : Int) + (dec ((bytesOf s).drop i)).2.1 := by omega
            rw [e1] at this
            have e2 : (i : Int) + (((dec ((bytesOf s).drop i)).2.1.toNat + spanAt p iri ((bytesOf s).drop (i + (dec ((bytesOf s).drop i)).2.1.toNat)) : Nat) : Int) = (i : Int) + (dec ((bytesOf s).drop i)).2.1 + (spanAt p iri ((bytesOf s).drop (i + (dec ((bytesOf s).drop i)).2.1.toNat)) : Int) := by omega
            rw [e2]
            exact this
      · simp only [if_neg he]
        refine Ev.ite_pos (by simp) ?_
        have h3 : stepAt p iri ((bytesOf s).drop i) = 3 := by unfold stepAt; rw [if_pos hp, if_pos (by omega)]
        have hl := step_le p iri ((bytesOf s).drop i)
        rw [h3, List.length_drop, bytes_len] at hl
        rw [h3, w64 (by omega) (by omega), if_neg (by omega), List.drop_drop]
        have := ih (s.size - (i + 3)) (by omega) (i + 3) (by omega)
        have e2 : (i : Int) + ((3 + spanAt p iri ((bytesOf s).drop (i + 3)) : Nat) : Int) = ((i + 3 : Nat) : Int) + (spanAt p iri ((bytesOf s).drop (i + 3)) : Int) := by omega
        rw [e2]
        exact this
    · rw [List.drop_of_length_le (by rw [bytes_len]; omega), span_nil]
      exact Ev.val (by simp)
theorem span_f (p : Int) (iri : Bool) (s : ByteArray) (hs : s.size ≤ 140737488351232) : Ev (fun k => lexis_Span.f k p iri s) (spanAt p iri (bytesOf s) : Int) := by
  unfold lexis_Span.f
  by_cases hp : place p = true
  · have := span_l0 p iri s hs hp s.size 0 (by omega)
    simpa using this
  · have hz : stepAt p iri (bytesOf s) = 0 := by unfold stepAt; rw [if_neg hp]
    rw [span_eq, if_pos hz]
    refine Ev.step (fun k => by rw [lexis_Span.l0]) ?_
    obtain ⟨t, e⟩ := extra_f p
    refine Ev.ite (fun h => Ev.pure_bind e ?_) (fun h => Ev.now _)
    exact Ev.ite_neg hp (Ev.now _)
theorem all_f (p : Int) (iri : Bool) (s : ByteArray) (hs : s.size ≤ 140737488351232) : Ev (fun k => lexis_All.f k p iri s) (allAt p iri (bytesOf s)) := by
  unfold lexis_All.f
  refine Ev.bind' (span_f p iri s hs) (Ev.val ?_)
  unfold allAt
  rw [bytes_len, Bool.eq_iff_iff, beq_iff_eq, beq_iff_eq]
  omega
theorem refStep_f (p : Int) (iri : Bool) (s : ByteArray) (i : Nat) (hi : i ≤ s.size) (hs : s.size ≤ 140737488351232) : Ev (fun k => monikerref18_Step.f k p iri s (i : Int)) (stepAt p iri ((bytesOf s).drop i) : Int) := by
  unfold monikerref18_Step.f
  have bad : place p = false → Ev (fun k => monikerref18_Step.j0 k p iri s (i : Int) true) (stepAt p iri ((bytesOf s).drop i) : Int) := by
    intro hp
    refine Ev.step (fun k => by rw [monikerref18_Step.j0]) ?_
    unfold stepAt
    rw [if_neg (by rw [hp]; simp)]
    exact Ev.ite_pos rfl (Ev.now _)
  refine Ev.ite (fun h => bad (by simp [place]; omega)) (fun h => ?_)
  by_cases h7 : p > 7
  · rw [decide_eq_true h7]
    exact bad (by simp [place]; omega)
  · rw [decide_eq_false h7]
    have hp : place p = true := by simp [place]; omega
    refine Ev.step (fun k => by rw [monikerref18_Step.j0]) ?_
    refine Ev.ite_neg (by simp) (Ev.bind' (refAt_f s i hi hs) ?_)
    by_cases he : escH ((bytesOf s).drop i) < 0
    · refine Ev.ite_neg (by omega) (Ev.ite_pos (by omega) (Ev.ite_pos (by omega) ?_))
      rw [Int.toNat_natCast]
      have hd := refDecode_f (s.extract i s.size) (by rw [← bytes_len, bytes_from, List.length_drop, bytes_len]; omega)
      rw [bytes_from] at hd
      refine Ev.bind' hd ?_
      rw [step_no_escape hp he]
      have hr := dec_range ((bytesOf s).drop i) (fun b hb => bytes_all s b (List.mem_of_mem_drop hb))
      have hn := dec_n ((bytesOf s).drop i)
      cases hok : (dec ((bytesOf s).drop i)).2.2
      · exact Ev.ite_neg (by simp) (Ev.val (by simp))
      · refine Ev.ite_pos rfl (Ev.bind' (refMay_f p iri _ hr.1 (by omega)) ?_)
        cases hm : mayAt p iri (dec ((bytesOf s).drop i)).1
        · exact Ev.ite_neg (by simp) (Ev.val (by simp))
        · refine Ev.ite_pos rfl (Ev.val ?_)
          simp only [Bool.and_self, if_true]
          omega
    · refine Ev.ite_pos (by omega) (Ev.val ?_)
      unfold stepAt
      rw [if_pos hp, if_pos (by omega)]
      rfl
theorem refSpan18_l0 (p : Int) (iri : Bool) (s : ByteArray) (hs : s.size ≤ 140737488351232) : ∀ d i : Nat, i + d = s.size → Ev (fun k => monikerref18_Span.l0 k p iri s (i : Int)) ((i : Int) + spanAt p iri ((bytesOf s).drop i)) := by
  intro d
  induction d using Nat.strongRecOn with
  | _ d ih =>
    intro i hi
    refine Ev.step (fun k => by rw [monikerref18_Span.l0]) ?_
    rw [span_eq]
    refine Ev.ite (fun h => ?_) (fun h => ?_)
    · have hst := refStep_f p iri s i (by omega) hs
      refine Ev.bind' hst ?_
      refine Ev.ite (fun h1 => ?_) (fun h1 => ?_)
      · refine Ev.bind' hst ?_
        have hl := step_le p iri ((bytesOf s).drop i)
        rw [List.length_drop, bytes_len] at hl
        rw [if_neg (by omega), List.drop_drop, w64 (by omega) (by omega)]
        have := ih (s.size - (i + stepAt p iri ((bytesOf s).drop i))) (by omega) (i + stepAt p iri ((bytesOf s).drop i)) (by omega)
        have e2 : (i : Int) + ((stepAt p iri ((bytesOf s).drop i) + spanAt p iri ((bytesOf s).drop (i + stepAt p iri ((bytesOf s).drop i))) : Nat) : Int) = ((i + stepAt p iri ((bytesOf s).drop i) : Nat) : Int) + (spanAt p iri ((bytesOf s).drop (i + stepAt p iri ((bytesOf s).drop i))) : Int) := by omega
        rw [e2]
        exact this
      · rw [if_pos (by omega)]
        exact Ev.val (by simp)
    · rw [List.drop_of_length_le (by rw [bytes_len]; omega), if_pos (step_nil p iri)]
      exact Ev.val (by simp)
theorem refSpan18_f (p : Int) (iri : Bool) (s : ByteArray) (hs : s.size ≤ 140737488351232) : Ev (fun k => monikerref18_Span.f k p iri s) (spanAt p iri (bytesOf s) : Int) := by
  unfold monikerref18_Span.f
  have := refSpan18_l0 p iri s hs s.size 0 (by omega)
  simpa using this
end Go.Proofs.YtdmigmccfdhdiaaDoor.Y
namespace Go.Proofs.YtdmigmccfdhdiaaDoor.Y
open Go.RowKit Go.Proofs.YtdmigmccfdhdiaaDoor.X Go.Proofs.YtdmigmccfdhdiaaDoor.M Go.Proofs.YtdmigmccfdhdiaaDoorW.PrintWords Go.Proofs.YtdmigmccfdhdiaaDoorW.PrintLast Go.Proofs.YtdmigmccfdhdiaaDoorW.PrintMore
set_option linter.unusedVariables false
def p10 : Nat → Int
  | 0 => 1
  | 1 => 10
  | 2 => 100
  | _ => 1000
theorem p10_step {i : Nat} (hi : i < 3) {n b : Int} (h0 : 0 ≤ n) (h1 : n < p10 i) (b0 : 48 ≤ b) (b1 : b ≤ 57) : 0 ≤ 10 * n + (b - 48) ∧ 10 * n + (b - 48) < p10 (i + 1) ∧ n ≤ 1000 := by
  rcases i with _ | _ | _ | i
  · simp only [p10] at *; omega
  · simp only [p10] at *; omega
  · simp only [p10] at *; omega
  · omega
theorem decimal_l0 (s : ByteArray) (h3 : s.size ≤ 3) : ∀ d i : Nat, ∀ n : Int, i + d = s.size → 0 ≤ n → n < p10 i → Ev (fun k => ip_decimal.l0 k s n (s.size : Int) (i : Int))
    (if ((bytesOf s).drop i).all digit then (((bytesOf s).drop i).foldl (fun n b => 10 * n + (b - 48)) n % 256, decide (((bytesOf s).drop i).foldl (fun n b => 10 * n + (b - 48)) n ≤ 255)) else (0, false)) := by
  intro d
  induction d with
  | zero =>
    intro i n hi _ _
    rw [List.drop_of_length_le (by rw [bytes_len]; omega)]
    refine Ev.step (fun k => by rw [ip_decimal.l0]) ?_
    exact Ev.ite_neg (by omega) (Ev.now _)
  | succ d ih =>
    intro i n hi h0 h1
    rcases at_or_end s i (by omega) with ⟨h, _⟩ | ⟨h, e, b0, b1⟩
    · omega
    refine Ev.step (fun k => by rw [ip_decimal.l0]) ?_
    refine Ev.ite_pos (by omega) (Ev.ite_pos (by omega) (Ev.ite_pos (by omega) (Ev.bind' (is_f 2 b0 b1) ?_)))
    rw [e, isc_digit b0 b1, List.all_cons, List.foldl_cons]
    cases hd : digit (bt s (i : Int))
    · refine Ev.ite_neg (by simp) (Ev.val (by simp))
    · refine Ev.ite_pos rfl ?_
      have hb := digit_iff.1 hd
      have hst := p10_step (i := i) (by omega) h0 h1 hb.1 hb.2
      have e1 : wrap64 (wrap64 (10 * n) + (bt s (i : Int) - 48) % 256) = 10 * n + (bt s (i : Int) - 48) := by
        rw [w64 (x := 10 * n) (by omega) (by omega), w64 (by omega) (by omega)]; omega
      rw [e1, w64 (by omega) (by omega)]
      simp only [Bool.true_and]
      exact ih (i + 1) _ (by omega) hst.1 hst.2.1
theorem decimal_f (s : ByteArray) (hs : s.size ≤ 140737488351232) : ∃ n : Int, Ev (fun k => ip_decimal.f k s) (n, decide (0 ≤ d8 (bytesOf s))) ∧ (0 ≤ d8 (bytesOf s) → n = d8 (bytesOf s)) := by
  have bad : (bytesOf s).length = 0 ∨ 3 < (bytesOf s).length ∨ (1 < (bytesOf s).length ∧ (bytesOf s).headD 0 = 48) → Ev (fun k => ip_decimal.j0 k s true) (0, decide (0 ≤ d8 (bytesOf s))) ∧ ¬ 0 ≤ d8 (bytesOf s) := by
    intro h
    have hd : d8 (bytesOf s) = -1 := by unfold d8; rw [if_pos h]
    rw [hd]
    refine ⟨?_, by omega⟩
    refine Ev.step (fun k => by rw [ip_decimal.j0]) ?_
    exact Ev.ite_pos rfl (Ev.now _)
  have hh : 0 < s.size → (bytesOf s).headD 0 = bt s 0 := by
    intro h
    rcases at_begin s with ⟨h2, _⟩ | ⟨_, e, _⟩
    · omega
    · rw [e]; rfl
  by_cases hb : (bytesOf s).length = 0 ∨ 3 < (bytesOf s).length ∨ (1 < (bytesOf s).length ∧ (bytesOf s).headD 0 = 48)
  · obtain ⟨h1, h2⟩ := bad hb
    refine ⟨0, ?_, fun h => absurd h h2⟩
    unfold ip_decimal.f
    rw [bytes_len] at hb
    refine Ev.ite (fun _ => h1) (fun _ => Ev.ite (fun _ => h1) (fun _ => Ev.ite (fun _ => Ev.ite_pos (by omega) ?_) (fun _ => by omega)))
    have : (bt s 0 == 48) = true := by
      rw [beq_iff_eq, ← hh (by omega)]
      omega
    rw [this]
    exact h1
  · have hb2 := hb
    rw [bytes_len] at hb
    have good : Ev (fun k => ip_decimal.j0 k s false) (if (bytesOf s).all digit then (dval (bytesOf s) % 256, decide (dval (bytesOf s) ≤ 255)) else (0, false)) := by
      refine Ev.step (fun k => by rw [ip_decimal.j0]) ?_
      refine Ev.ite_neg (by simp) ?_
      exact decimal_l0 s (by omega) s.size 0 0 (by omega) (by omega) (by decide)
    have all : Ev (fun k => ip_decimal.f k s) (if (bytesOf s).all digit then (dval (bytesOf s) % 256, decide (dval (bytesOf s) ≤ 255)) else (0, false)) := by
      unfold ip_decimal.f
      refine Ev.ite_neg (by omega) (Ev.ite_neg (by omega) (Ev.ite (fun _ => Ev.ite_pos (by omega) ?_) (fun _ => good)))
      have : (bt s 0 == 48) = false := by
        rw [beq_eq_false_iff_ne, ← hh (by omega)]
        intro h
        omega
      rw [this]
      exact good
    have hr := d8_range (bytesOf s)
    unfold d8 at hr ⊢
    rw [if_neg hb2] at hr ⊢
    cases ha : (bytesOf s).all digit
    · rw [ha] at all
      exact ⟨0, all, by simp⟩
    · rw [ha] at all
      by_cases h255 : dval (bytesOf s) ≤ 255
      · rw [if_pos h255] at hr ⊢
        simp only [if_true] at hr all ⊢
        have h0 := dval_nonneg ha
        rw [decide_eq_true h255] at all
        refine ⟨dval (bytesOf s) % 256, ?_, fun _ => by omega⟩
        rw [decide_eq_true h0]
        exact all
      · rw [decide_eq_false h255] at all
        rw [if_neg h255]
        exact ⟨_, all, by simp⟩
def v4T (l : List Int) : Int × Int × Int × Int × Bool := match v4 l with
  | some (a, b, c, d) => (a, b, c, d, true)
  | none => (0, 0, 0, 0, false)
theorem v4T_ok (l : List Int) : (v4T l).2.2.2.2 = (v4 l).isSome := by
  unfold v4T
  cases v4 l with
  | none => rfl
  | some x => obtain ⟨a, b, c, d⟩ := x; rfl
theorem v4_four (l a b c d : List Int) (h : splitC 46 l = [a, b, c, d]) : v4 l = if 0 ≤ d8 a ∧ 0 ≤ d8 b ∧ 0 ≤ d8 c ∧ 0 ≤ d8 d then some (d8 a, d8 b, d8 c, d8 d) else none := by
  unfold v4; rw [h]
theorem v4_other (l : List Int) (h : (splitC 46 l).length ≠ 4) : v4 l = none := by
  unfold v4
  split
  · rename_i e; rw [e] at h; simp at h
  · rfl
theorem v4_step (R : List ByteArray) (i : Nat) (hi : i < R.length) (p : ByteArray) (hp : rdOf ByteArray.empty R (i : Int) = p) (hsz : p.size ≤ 140737488351232) (h4 : i < 4) (a b c d : Int) (r : Int × Int × Int × Int × Bool)
    (bad : ¬ 0 ≤ d8 (bytesOf p) → r = (0, 0, 0, 0, false))
    (good : 0 ≤ d8 (bytesOf p) → Ev (fun k => ip_V4.l0 k R (R.length : Int) ((i : Int) + 1) (if i = 0 then d8 (bytesOf p) else a) (if i = 1 then d8 (bytesOf p) else b) (if i = 2 then d8 (bytesOf p) else c) (if i = 3 then d8 (bytesOf p) else d)) r) :
    Ev (fun k => ip_V4.l0 k R (R.length : Int) (i : Int) a b c d) r := by
  obtain ⟨n, h1, h2⟩ := decimal_f p hsz
  refine Ev.step (fun k => by rw [ip_V4.l0]) ?_
  rw [hp]
  refine Ev.ite_pos (by omega) (Ev.ite_pos (by omega) (Ev.ite_pos (by omega) (Ev.bind' h1 ?_)))
  simp only
  by_cases hd : 0 ≤ d8 (bytesOf p)
  · rw [decide_eq_true hd]
    rw [h2 hd, w64 (by omega) (by omega)]
    have g := good hd
    refine Ev.ite_pos rfl ?_
    have : i = 0 ∨ i = 1 ∨ i = 2 ∨ i = 3 := by omega
    rcases this with rfl | rfl | rfl | rfl
    · exact Ev.ite_pos (by omega) g
    · exact Ev.ite_neg (by omega) (Ev.ite_pos (by omega) g)
    · exact Ev.ite_neg (by omega) (Ev.ite_neg (by omega) (Ev.ite_pos (by omega) g))
    · exact Ev.ite_neg (by omega) (Ev.ite_neg (by omega) (Ev.ite_neg (by omega) (Ev.ite_pos (by omega) g)))
  · rw [decide_eq_false hd]
    exact Ev.ite_neg (by simp) (Ev.val (bad hd).symm)
theorem four_of {α : Type} {R : List α} (h : R.length = 4) : ∃ a b c d, R = [a, b, c, d] := by
  match R, h with
  | [a, b, c, d], _ => exact ⟨a, b, c, d, rfl⟩
theorem part_size {R : List ByteArray} {c : Int} {l : List Int} (h : R.map bytesOf = splitC c l) {p : ByteArray} (hp : p ∈ R) : p.size ≤ l.length := by
  rw [← bytes_len]
  exact (splitC_mem (c := c) (l := l) _ (by rw [← h]; exact List.mem_map.2 ⟨p, hp, rfl⟩)).2.2
theorem v4_f (s : ByteArray) (hs : s.size ≤ 1000000) : Ev (fun k => ip_V4.f k s) (v4T (bytesOf s)) := by
  obtain ⟨R, hR, hL⟩ := split_f s (⟨#[46]⟩ : ByteArray) 46 rfl (by omega)
  unfold ip_V4.f
  refine Ev.pure_bind hR ?_
  have hlen : R.length = (splitC 46 (bytesOf s)).length := by rw [← hL, List.length_map]
  by_cases h4 : R.length = 4
  · refine Ev.ite_pos (by omega) ?_
    obtain ⟨a, b, c, d, rfl⟩ := four_of h4
    have hsz : ∀ p ∈ [a, b, c, d], p.size ≤ 140737488351232 := fun p hp => by have := part_size hL hp; rw [bytes_len] at this; omega
    have hv := v4_four (bytesOf s) _ _ _ _ (by rw [← hL]; rfl)
    have badv : ¬ (0 ≤ d8 (bytesOf a) ∧ 0 ≤ d8 (bytesOf b) ∧ 0 ≤ d8 (bytesOf c) ∧ 0 ≤ d8 (bytesOf d)) → v4T (bytesOf s) = (0, 0, 0, 0, false) := by
      intro h
      unfold v4T
      rw [hv, if_neg h]
    refine v4_step [a, b, c, d] 0 (by simp) a rfl (hsz a (by simp)) (by omega) 0 0 0 0 _ (fun h => badv (fun x => h x.1)) (fun ha => ?_)
    refine v4_step [a, b, c, d] 1 (by simp) b rfl (hsz b (by simp)) (by omega) _ _ _ _ _ (fun h => badv (fun x => h x.2.1)) (fun hb => ?_)
    refine v4_step [a, b, c, d] 2 (by simp) c rfl (hsz c (by simp)) (by omega) _ _ _ _ _ (fun h => badv (fun x => h x.2.2.1)) (fun hc => ?_)
    refine v4_step [a, b, c, d] 3 (by simp) d rfl (hsz d (by simp)) (by omega) _ _ _ _ _ (fun h => badv (fun x => h x.2.2.2)) (fun hd => ?_)
    refine Ev.step (fun k => by rw [ip_V4.l0]) ?_
    refine Ev.ite_neg (by simp) (Ev.val ?_)
    rw [if_pos ⟨ha, hb, hc, hd⟩] at hv
    unfold v4T
    rw [hv]
    simp
  · refine Ev.ite_neg (by omega) (Ev.val ?_)
    unfold v4T
    rw [v4_other _ (by omega)]
theorem digits_f {n : Int} (h0 : 0 ≤ n) (h1 : n ≤ 255) : ∃ t : ByteArray, Ev (fun k => monikerref19_Digits.f k n) t ∧ bytesOf t = digs n := by
  have := byte_all (p := fun n => ((monikerref19_Digits.f 5 n).map bytesOf) = some (digs n)) (by decide +kernel) h0 h1
  obtain ⟨t, h2, h3⟩ := Option.map_eq_some_iff.1 this
  exact ⟨t, Ev.of (fun k => monikerref19_Digits.mono n k) h2, h3⟩
theorem refV4_l1 (R : List ByteArray) (i : Nat) (hi : i < R.length) (h4 : i < 4) (p : ByteArray) (hp : rdOf ByteArray.empty R (i : Int) = p) (a b c d : Int) (r : Int × Int × Int × Int × Bool)
    (bad : ¬ 0 ≤ d8 (bytesOf p) → r = (0, 0, 0, 0, false))
    (good : 0 ≤ d8 (bytesOf p) → Ev (fun k => monikerref19_V4.l0 k R ((i : Int) + 1) (if i = 0 then d8 (bytesOf p) else a) (if i = 1 then d8 (bytesOf p) else b) (if i = 2 then d8 (bytesOf p) else c) (if i = 3 then d8 (bytesOf p) else d)) r) :
    ∀ m n : Nat, n + m = 256 → Ev (fun k => monikerref19_V4.l1 k R (i : Int) (if 0 ≤ d8 (bytesOf p) ∧ d8 (bytesOf p) < n then d8 (bytesOf p) else -1) (n : Int) a b c d) r := by
  intro m
  induction m with
  | zero =>
    intro n hn
    refine Ev.step (fun k => by rw [monikerref19_V4.l1]) ?_
    refine Ev.ite_neg (by omega) ?_
    have hr := d8_range (bytesOf p)
    by_cases hd : 0 ≤ d8 (bytesOf p)
    · rw [if_pos ⟨hd, by omega⟩, w64 (by omega) (by omega)]
      have g := good hd
      refine Ev.ite_neg (by omega) (Ev.ite_pos (by omega) ?_)
      have : i = 0 ∨ i = 1 ∨ i = 2 ∨ i = 3 := by omega
      rcases this with rfl | rfl | rfl | rfl
      · exact Ev.ite_pos (by omega) g
      · exact Ev.ite_neg (by omega) (Ev.ite_pos (by omega) g)
      · exact Ev.ite_neg (by omega) (Ev.ite_neg (by omega) (Ev.ite_pos (by omega) g))
      · exact Ev.ite_neg (by omega) (Ev.ite_neg (by omega) (Ev.ite_neg (by omega) (Ev.ite_pos (by omega) g)))
    · rw [if_neg (fun x => hd x.1)]
      exact Ev.ite_pos (by omega) (Ev.val (bad hd).symm)
  | succ m ih =>
    intro n hn
    obtain ⟨t, h1, h2⟩ := digits_f (n := (n : Int)) (by omega) (by omega)
    refine Ev.step (fun k => by rw [monikerref19_V4.l1]) ?_
    refine Ev.ite_pos (by omega) (Ev.bind' h1 (Ev.ite_pos (by omega) (Ev.ite_pos (by omega) ?_)))
    rw [hp, w64 (by omega) (by omega)]
    have key : t.toList = p.toList ↔ d8 (bytesOf p) = (n : Int) := by
      rw [toList_iff, h2]
      exact d8_iff (by omega) (by omega)
    have nx := ih (n + 1) (by omega)
    refine Ev.ite (fun h => ?_) (fun h => ?_)
    · have e := key.1 h
      have e2 : (if 0 ≤ d8 (bytesOf p) ∧ d8 (bytesOf p) < ((n + 1 : Nat) : Int) then d8 (bytesOf p) else -1) = (n : Int) := by rw [if_pos (by omega), e]
      rw [e2] at nx
      exact nx
    · have e := fun x => h (key.2 x)
      have e2 : (if 0 ≤ d8 (bytesOf p) ∧ d8 (bytesOf p) < ((n + 1 : Nat) : Int) then d8 (bytesOf p) else -1) = (if 0 ≤ d8 (bytesOf p) ∧ d8 (bytesOf p) < (n : Int) then d8 (bytesOf p) else -1) := by
        by_cases hc : 0 ≤ d8 (bytesOf p) ∧ d8 (bytesOf p) < (n : Int)
        · rw [if_pos hc, if_pos ⟨hc.1, by omega⟩]
        · rw [if_neg hc, if_neg (fun x => hc ⟨x.1, by have : d8 (bytesOf p) ≠ (n : Int) := e; omega⟩)]
      rw [e2] at nx
      exact nx
theorem refV4_step (R : List ByteArray) (i : Nat) (hi : i < R.length) (h4 : i < 4) (p : ByteArray) (hp : rdOf ByteArray.empty R (i : Int) = p) (a b c d : Int) (r : Int × Int × Int × Int × Bool)
    (bad : ¬ 0 ≤ d8 (bytesOf p) → r = (0, 0, 0, 0, false))
    (good : 0 ≤ d8 (bytesOf p) → Ev (fun k => monikerref19_V4.l0 k R ((i : Int) + 1) (if i = 0 then d8 (bytesOf p) else a) (if i = 1 then d8 (bytesOf p) else b) (if i = 2 then d8 (bytesOf p) else c) (if i = 3 then d8 (bytesOf p) else d)) r) :
    Ev (fun k => monikerref19_V4.l0 k R (i : Int) a b c d) r := by
  refine Ev.step (fun k => by rw [monikerref19_V4.l0]) ?_
  refine Ev.ite_pos (by omega) ?_
  have := refV4_l1 R i hi h4 p hp a b c d r bad good 256 0 (by omega)
  rw [if_neg (by omega)] at this
  exact this
theorem refV4_f (s : ByteArray) (hs : s.size ≤ 1000000) : Ev (fun k => monikerref19_V4.f k s) (v4T (bytesOf s)) := by
  obtain ⟨R, hR, hL⟩ := parts_f s 46 hs
  unfold monikerref19_V4.f
  refine Ev.bind' hR ?_
  have hlen : R.length = (splitC 46 (bytesOf s)).length := by rw [← hL, List.length_map]
  by_cases h4 : R.length = 4
  · refine Ev.ite_pos (by omega) ?_
    obtain ⟨a, b, c, d, rfl⟩ := four_of h4
    have hv := v4_four (bytesOf s) _ _ _ _ (by rw [← hL]; rfl)
    have badv : ¬ (0 ≤ d8 (bytesOf a) ∧ 0 ≤ d8 (bytesOf b) ∧ 0 ≤ d8 (bytesOf c) ∧ 0 ≤ d8 (bytesOf d)) → v4T (bytesOf s) = (0, 0, 0, 0, false) := by
      intro h
      unfold v4T
      rw [hv, if_neg h]
    refine refV4_step [a, b, c, d] 0 (by simp) (by omega) a rfl 0 0 0 0 _ (fun h => badv (fun x => h x.1)) (fun ha => ?_)
    refine refV4_step [a, b, c, d] 1 (by simp) (by omega) b rfl _ _ _ _ _ (fun h => badv (fun x => h x.2.1)) (fun hb => ?_)
    refine refV4_step [a, b, c, d] 2 (by simp) (by omega) c rfl _ _ _ _ _ (fun h => badv (fun x => h x.2.2.1)) (fun hc => ?_)
    refine refV4_step [a, b, c, d] 3 (by simp) (by omega) d rfl _ _ _ _ _ (fun h => badv (fun x => h x.2.2.2)) (fun hd => ?_)
    refine Ev.step (fun k => by rw [monikerref19_V4.l0]) ?_
    refine Ev.ite_neg (by simp) (Ev.val ?_)
    rw [if_pos ⟨ha, hb, hc, hd⟩] at hv
    unfold v4T
    rw [hv]
    simp
  · refine Ev.ite_neg (by omega) (Ev.val ?_)
    unfold v4T
    rw [v4_other _ (by omega)]
end Go.Proofs.YtdmigmccfdhdiaaDoor.Y
namespace Go.Proofs.YtdmigmccfdhdiaaDoor.Y
open Go.RowKit Go.Proofs.YtdmigmccfdhdiaaDoor.X Go.Proofs.YtdmigmccfdhdiaaDoor.M Go.Proofs.YtdmigmccfdhdiaaDoorW.PrintWords Go.Proofs.YtdmigmccfdhdiaaDoorW.PrintLast Go.Proofs.YtdmigmccfdhdiaaDoorW.PrintMore
set_option linter.unusedVariables false
theorem wraps_u16 (n : Int) (h0 : 0 ≤ n) (h1 : n < 2 ^ 16) : IntKind.u16.wrap n = n := by
  simp [IntKind.wrap, IntKind.bits, IntKind.signed]
  omega
theorem wraps_i64 (n : Int) (h0 : 0 ≤ n) (h1 : n < 2 ^ 62) : IntKind.i64.wrap n = n := by
  rw [IntKind.wrap_i64]; omega
theorem u16_pair {a b : Int} (a0 : 0 ≤ a) (a1 : a ≤ 255) (b0 : 0 ≤ b) (b1 : b ≤ 255) : Go.bits .or .u16 (IntKind.u16.wrap (IntKind.u16.wrap a * 256)) (IntKind.u16.wrap b) = 256 * a + b := by
  rw [wraps_u16 a a0 (by omega), wraps_u16 (a * 256) (by omega) (by omega), wraps_u16 b b0 (by omega)]
  rw [bits_join .u16 16 (by decide) wraps_u16 8 (a * 256) b (by omega) (by omega) (by omega) (by omega) (by omega) (by omega)]
  omega
theorem i64_hex {a b : Int} (a0 : 0 ≤ a) (a1 : a ≤ 1000000) (b0 : 0 ≤ b) (b1 : b ≤ 15) : Go.bits .or .i64 (wrap64 (a * 16)) b = 16 * a + b := by
  rw [w64 (by omega) (by omega), bits_join .i64 62 (by decide) wraps_i64 4 (a * 16) b (by omega) (by omega) (by omega) (by omega) (by omega) (by omega)]
  omega
def p16 : Nat → Int
  | 0 => 1
  | 1 => 16
  | 2 => 256
  | 3 => 4096
  | _ => 65536
theorem p16_step {i : Nat} (hi : i < 4) {n b : Int} (h0 : 0 ≤ n) (h1 : n < p16 i) (b0 : 0 ≤ b) (b1 : b ≤ 15) : 0 ≤ 16 * n + b ∧ 16 * n + b < p16 (i + 1) ∧ n ≤ 65536 := by
  rcases i with _ | _ | _ | _ | i
  · simp only [p16] at *; omega
  · simp only [p16] at *; omega
  · simp only [p16] at *; omega
  · simp only [p16] at *; omega
  · omega
theorem word_l0 (s : ByteArray) (h4 : s.size ≤ 4) : ∀ d i : Nat, ∀ n : Int, i + d = s.size → 0 ≤ n → n < p16 i → Ev (fun k => ip_word.l0 k s n (s.size : Int) (i : Int))
    (if ((bytesOf s).drop i).all hexd then (hval n ((bytesOf s).drop i), true) else (0, false)) := by
  intro d
  induction d with
  | zero =>
    intro i n hi h0 h1
    rw [List.drop_of_length_le (by rw [bytes_len]; omega)]
    refine Ev.step (fun k => by rw [ip_word.l0]) ?_
    refine Ev.ite_neg (by omega) (Ev.val ?_)
    have : n < 65536 := by
      have h := h1
      have : i ≤ 4 := by omega
      rcases i with _ | _ | _ | _ | _ | i
      all_goals (first | omega | (simp only [p16] at h; omega))
    rw [wraps_u16 n h0 (by omega)]
    rfl
  | succ d ih =>
    intro i n hi h0 h1
    rcases at_or_end s i (by omega) with ⟨h, _⟩ | ⟨h, e, b0, b1⟩
    · omega
    refine Ev.step (fun k => by rw [ip_word.l0]) ?_
    refine Ev.ite_pos (by omega) (Ev.ite_pos (by omega) (Ev.ite_pos (by omega) (Ev.bind' (value_f b0 b1) ?_)))
    rw [e, List.all_cons]
    have hr := hv_range (bt s (i : Int))
    by_cases hv0 : hv (bt s (i : Int)) < 0
    · simp only [if_pos hv0]
      rw [(hv_neg _).1 hv0]
      exact Ev.ite_neg (by simp) (Ev.val (by simp))
    · simp only [if_neg hv0]
      rw [(hv_hexd _).1 (by omega)]
      refine Ev.ite_pos (by simp) ?_
      have hst := p16_step (i := i) (by omega) h0 h1 (b := hv (bt s (i : Int))) (by omega) (by omega)
      rw [i64_hex h0 (by omega) (by omega) (by omega), w64 (by omega) (by omega)]
      simp only [Bool.true_and, hval]
      exact ih (i + 1) _ (by omega) hst.1 hst.2.1
theorem word_f (s : ByteArray) (hs : s.size ≤ 140737488351232) : Ev (fun k => ip_word.f k s) (if word (bytesOf s) < 0 then (0, false) else (word (bytesOf s), true)) := by
  have hb := hval_range (bytesOf s) 0 1
  have bad : (bytesOf s).length = 0 ∨ 4 < (bytesOf s).length → Ev (fun k => ip_word.j0 k s true) (if word (bytesOf s) < 0 then (0, false) else (word (bytesOf s), true)) := by
    intro h
    have : word (bytesOf s) = -1 := by unfold word; rw [if_pos h]
    rw [this]
    refine Ev.step (fun k => by rw [ip_word.j0]) ?_
    exact Ev.ite_pos rfl (Ev.now _)
  unfold ip_word.f
  have hl := bytes_len s
  refine Ev.ite (fun h => bad (by omega)) (fun h => ?_)
  by_cases h4 : (s.size : Int) > 4
  · rw [decide_eq_true h4]
    exact bad (by omega)
  · rw [decide_eq_false h4]
    refine Ev.step (fun k => by rw [ip_word.j0]) ?_
    refine Ev.ite_neg (by simp) ?_
    have := word_l0 s (by omega) s.size 0 0 (by omega) (by omega) (by decide)
    rw [List.drop_zero] at this
    have e : (if word (bytesOf s) < 0 then ((0 : Int), false) else (word (bytesOf s), true)) = (if (bytesOf s).all hexd then (hval 0 (bytesOf s), true) else (0, false)) := by
      have hw : word (bytesOf s) = if (bytesOf s).all hexd then hval 0 (bytesOf s) else -1 := by
        unfold word
        rw [if_neg (by omega)]
      rw [hw]
      by_cases ha : (bytesOf s).all hexd = true
      · have := hb ha (by omega) (by omega)
        simp only [if_pos ha]
        rw [if_neg (by omega)]
      · simp only [if_neg ha]
        rw [if_pos (by omega)]
    rw [e]
    exact this
theorem refWord_l0 (s : ByteArray) (h4 : s.size ≤ 4) : ∀ d i : Nat, ∀ n : Int, i + d = s.size → 0 ≤ n → n < p16 i → Ev (fun k => monikerref19_word.l0 k s n (i : Int))
    (if ((bytesOf s).drop i).all hexd then hval n ((bytesOf s).drop i) else -1) := by
  intro d
  induction d with
  | zero =>
    intro i n hi h0 h1
    rw [List.drop_of_length_le (by rw [bytes_len]; omega)]
    refine Ev.step (fun k => by rw [monikerref19_word.l0]) ?_
    exact Ev.ite_neg (by omega) (Ev.now _)
  | succ d ih =>
    intro i n hi h0 h1
    rcases at_or_end s i (by omega) with ⟨h, _⟩ | ⟨h, e, b0, b1⟩
    · omega
    refine Ev.step (fun k => by rw [monikerref19_word.l0]) ?_
    refine Ev.ite_pos (by omega) (Ev.ite_pos (by omega) (Ev.bind' (refValue_f b0 b1) ?_))
    rw [e, List.all_cons]
    have hr := hv_range (bt s (i : Int))
    by_cases hv0 : hv (bt s (i : Int)) < 0
    · rw [(hv_neg _).1 hv0]
      exact Ev.ite_pos hv0 (Ev.val (by simp))
    · rw [(hv_hexd _).1 (by omega)]
      refine Ev.ite_neg hv0 ?_
      have hst := p16_step (i := i) (by omega) h0 h1 (b := hv (bt s (i : Int))) (by omega) (by omega)
      rw [w64 (x := 16 * n) (by omega) (by omega), w64 (x := 16 * n + hv (bt s (i : Int))) (by omega) (by omega), w64 (by omega) (by omega)]
      simp only [Bool.true_and, hval]
      exact ih (i + 1) _ (by omega) hst.1 hst.2.1
theorem refWord_f (s : ByteArray) (hs : s.size ≤ 140737488351232) : Ev (fun k => monikerref19_word.f k s) (word (bytesOf s)) := by
  have bad : (bytesOf s).length = 0 ∨ 4 < (bytesOf s).length → Ev (fun k => monikerref19_word.j0 k s true) (word (bytesOf s)) := by
    intro h
    have : word (bytesOf s) = -1 := by unfold word; rw [if_pos h]
    rw [this]
    refine Ev.step (fun k => by rw [monikerref19_word.j0]) ?_
    exact Ev.ite_pos rfl (Ev.now _)
  unfold monikerref19_word.f
  have hl := bytes_len s
  refine Ev.ite (fun h => bad (by omega)) (fun h => ?_)
  by_cases h4 : (s.size : Int) > 4
  · rw [decide_eq_true h4]
    exact bad (by omega)
  · rw [decide_eq_false h4]
    refine Ev.step (fun k => by rw [monikerref19_word.j0]) ?_
    refine Ev.ite_neg (by simp) ?_
    have := refWord_l0 s (by omega) s.size 0 0 (by omega) (by omega) (by decide)
    rw [List.drop_zero] at this
    unfold word
    rw [if_neg (by omega)]
    exact this
def wordsT (out : List Int) : Option (List Int) → List Int × Bool
  | some w => (out ++ w, true)
  | none => ([], false)
theorem getD_drop {α : Type} {L : List α} {i : Nat} (h : i < L.length) (z : α) : L.drop i = L.getD i z :: L.drop (i + 1) := by
  rw [List.drop_eq_getElem_cons h, List.getD_eq_getElem?_getD, List.getElem?_eq_getElem h]; rfl
theorem drop_last {α : Type} {L : List α} {i : Nat} (h : i < L.length) : L.drop (i + 1) = [] ↔ i + 1 = L.length := by
  rw [List.drop_eq_nil_iff]; omega
theorem words_l0 (fin : Bool) (R : List ByteArray) (L : List (List Int)) (hL : R.map bytesOf = L) (hp : ∀ p ∈ R, p.size ≤ 1000000) (hR : R.length ≤ 1000001) : ∀ d i : Nat, i + d = R.length → ∀ out : List Int, out.length ≤ i →
    Ev (fun k => ip_words.l0 k fin out R R (R.length : Int) (i : Int)) (wordsT out (words fin (L.drop i))) := by
  have hlen : L.length = R.length := by rw [← hL, List.length_map]
  intro d
  induction d with
  | zero =>
    intro i hi out ho
    rw [List.drop_of_length_le (by omega)]
    refine Ev.step (fun k => by rw [ip_words.l0]) ?_
    exact Ev.ite_neg (by omega) (Ev.val (by simp [words, wordsT]))
  | succ d ih =>
    intro i hi out ho
    have hmem : rdOf ByteArray.empty R (i : Int) ∈ R := by
      unfold rdOf
      rw [Int.toNat_natCast, List.getD_eq_getElem?_getD, List.getElem?_eq_getElem (by omega)]
      exact List.getElem_mem _
    have hq := rdOf_map hL i
    refine Ev.step (fun k => by rw [ip_words.l0]) ?_
    refine Ev.ite_pos (by omega) (Ev.ite_pos (by omega) (Ev.ite_pos (by omega) (Ev.bind' (v4_f _ (hp _ hmem)) ?_)))
    rw [hq, getD_drop (L := L) (i := i) (by omega) [], words_cons, v4T_ok]
    have last : ∀ x : ByteArray, bytesOf x = L.getD i [] → x.size ≤ 1000000 → ∀ a b c e : Int, ¬ (L.drop (i + 1) = [] ∧ fin = true ∧ (v4 (L.getD i [])).isSome = true) →
        Ev (fun k => ip_words.j1 k fin out R x R (R.length : Int) (i : Int) false a b c e) (wordsT out (if L.drop (i + 1) = [] ∧ fin = true ∧ (v4 (L.getD i [])).isSome = true then (v4 (L.getD i [])).map fun x => [256 * x.1 + x.2.1, 256 * x.2.2.1 + x.2.2.2] else if word (L.getD i []) < 0 then none else (words fin (L.drop (i + 1))).map fun l => word (L.getD i []) :: l)) := by
      intro x hx hxs a b c e hno
      rw [if_neg hno]
      refine Ev.step (fun k => by rw [ip_words.j1]) ?_
      refine Ev.ite_neg (by simp) (Ev.bind' (word_f x (by omega)) ?_)
      rw [hx]
      by_cases hw : word (L.getD i []) < 0
      · simp only [if_pos hw]
        exact Ev.ite_neg (by simp) (Ev.now _)
      · simp only [if_neg hw]
        refine Ev.ite_pos (by simp) (Ev.ite_pos (by omega) ?_)
        rw [w64 (by omega) (by omega)]
        have := ih (i + 1) (by omega) (out ++ [word (L.getD i [])]) (by rw [List.length_append, List.length_singleton]; omega)
        have e2 : wordsT (out ++ [word (L.getD i [])]) (words fin (L.drop (i + 1))) = wordsT out ((words fin (L.drop (i + 1))).map fun l => word (L.getD i []) :: l) := by
          cases words fin (L.drop (i + 1)) with
          | none => rfl
          | some w => simp [wordsT]
        rw [← e2]
        exact this
    refine Ev.ite (fun h4 => ?_) (fun h4 => last _ hq (hp _ hmem) _ _ _ _ (fun x => h4 x.2.2))
    refine Ev.ite (fun hf => ?_) (fun hf => last _ hq (hp _ hmem) _ _ _ _ (fun x => hf x.2.1))
    rw [w64 (by omega) (by omega)]
    by_cases hend : i + 1 = R.length
    · have : ((i : Int) == (R.length : Int) - 1) = true := by rw [beq_iff_eq]; omega
      rw [this, if_pos ⟨(drop_last (by omega)).2 (by omega), hf, h4⟩]
      refine Ev.step (fun k => by rw [ip_words.j1]) ?_
      refine Ev.ite_pos rfl ?_
      obtain ⟨⟨a, b, c, e⟩, hx⟩ := Option.isSome_iff_exists.1 h4
      have hr := v4_range hx
      rw [hx]
      unfold v4T
      rw [hx]
      simp only
      rw [u16_pair hr.1.1 hr.1.2 hr.2.1.1 hr.2.1.2, u16_pair hr.2.2.1.1 hr.2.2.1.2 hr.2.2.2.1 hr.2.2.2.2]
      refine Ev.pure_bind rfl (Ev.ite_pos (by simp only [List.length_cons, List.length_nil]; omega) (Ev.val ?_))
      rfl
    · have : ((i : Int) == (R.length : Int) - 1) = false := by rw [beq_eq_false_iff_ne]; omega
      rw [this]
      exact last _ hq (hp _ hmem) _ _ _ _ (fun x => hend (by have := (drop_last (L := L) (i := i) (by omega)).1 x.1; omega))
theorem empty_iff (s : ByteArray) : s.toList = ([] : List UInt8) ↔ bytesOf s = [] := by
  rw [toList_data]
  unfold bytesOf
  exact List.map_eq_nil_iff.symm
theorem words_f (s : ByteArray) (fin : Bool) (hs : s.size ≤ 1000000) : Ev (fun k => ip_words.f k s fin) (wordsT [] (rowS fin (bytesOf s))) := by
  unfold ip_words.f rowS
  refine Ev.ite (fun h => ?_) (fun h => ?_)
  · rw [if_pos ((empty_iff s).1 h)]
    exact Ev.val rfl
  · rw [if_neg (fun x => h ((empty_iff s).2 x))]
    obtain ⟨R, hR, hL⟩ := split_f s (⟨#[58]⟩ : ByteArray) 58 rfl (by omega)
    refine Ev.pure_bind hR ?_
    have hlen := splitC_len 58 (bytesOf s)
    rw [← hL, List.length_map, bytes_len] at hlen
    have := words_l0 fin R _ hL (fun p hp => by have := part_size hL hp; rw [bytes_len] at this; omega) (by omega) R.length 0 (by omega) [] (by simp)
    rw [List.drop_zero] at this
    exact this
theorem refRow_l0 (R : List ByteArray) (L : List (List Int)) (hL : R.map bytesOf = L) (hp : ∀ p ∈ R, p.size ≤ 1000000) (hR : R.length ≤ 1000001) : ∀ d i : Nat, i + d = R.length → ∀ out : List Int, out.length ≤ i →
    Ev (fun k => monikerref19_row.l0 k out R (i : Int)) (wordsT out (words true (L.drop i))) := by
  have hlen : L.length = R.length := by rw [← hL, List.length_map]
  intro d
  induction d with
  | zero =>
    intro i hi out ho
    rw [List.drop_of_length_le (by omega)]
    refine Ev.step (fun k => by rw [monikerref19_row.l0]) ?_
    exact Ev.ite_neg (by omega) (Ev.val (by simp [words, wordsT]))
  | succ d ih =>
    intro i hi out ho
    have hmem : rdOf ByteArray.empty R (i : Int) ∈ R := by
      unfold rdOf
      rw [Int.toNat_natCast, List.getD_eq_getElem?_getD, List.getElem?_eq_getElem (by omega)]
      exact List.getElem_mem _
    have hq := rdOf_map hL i
    refine Ev.step (fun k => by rw [monikerref19_row.l0]) ?_
    refine Ev.ite_pos (by omega) (Ev.ite_pos (by omega) (Ev.bind' (refV4_f _ (hp _ hmem)) ?_))
    rw [hq, getD_drop (L := L) (i := i) (by omega) [], words_cons, v4T_ok]
    have last : ∀ a b c e : Int, ¬ (L.drop (i + 1) = [] ∧ true = true ∧ (v4 (L.getD i [])).isSome = true) →
        Ev (fun k => monikerref19_row.j1 k out R (i : Int) false a b c e) (wordsT out (if L.drop (i + 1) = [] ∧ true = true ∧ (v4 (L.getD i [])).isSome = true then (v4 (L.getD i [])).map fun x => [256 * x.1 + x.2.1, 256 * x.2.2.1 + x.2.2.2] else if word (L.getD i []) < 0 then none else (words true (L.drop (i + 1))).map fun l => word (L.getD i []) :: l)) := by
      intro a b c e hno
      rw [if_neg hno]
      refine Ev.step (fun k => by rw [monikerref19_row.j1]) ?_
      refine Ev.ite_neg (by simp) (Ev.ite_pos (by omega) (Ev.ite_pos (by omega) (Ev.bind' (refWord_f _ (by have := hp _ hmem; omega)) ?_)))
      rw [hq]
      refine Ev.ite (fun hw => ?_) (fun hw => ?_)
      · rw [if_pos hw]
        exact Ev.now _
      · rw [if_neg hw]
        refine Ev.ite_pos (by omega) ?_
        rw [w64 (by omega) (by omega)]
        have := ih (i + 1) (by omega) (out ++ [word (L.getD i [])]) (by rw [List.length_append, List.length_singleton]; omega)
        have e2 : wordsT (out ++ [word (L.getD i [])]) (words true (L.drop (i + 1))) = wordsT out ((words true (L.drop (i + 1))).map fun l => word (L.getD i []) :: l) := by
          cases words true (L.drop (i + 1)) with
          | none => rfl
          | some w => simp [wordsT]
        rw [← e2]
        exact this
    refine Ev.ite (fun h4 => ?_) (fun h4 => last _ _ _ _ (fun x => h4 x.2.2))
    rw [w64 (by omega) (by omega)]
    by_cases hend : i + 1 = R.length
    · have : ((i : Int) == (R.length : Int) - 1) = true := by rw [beq_iff_eq]; omega
      rw [this, if_pos ⟨(drop_last (by omega)).2 (by omega), rfl, h4⟩]
      refine Ev.step (fun k => by rw [monikerref19_row.j1]) ?_
      refine Ev.ite_pos rfl ?_
      obtain ⟨⟨a, b, c, e⟩, hx⟩ := Option.isSome_iff_exists.1 h4
      have hr := v4_range hx
      rw [hx]
      unfold v4T
      rw [hx]
      simp only
      rw [w64 (x := 256 * a) (by omega) (by omega), w64 (x := 256 * a + b) (by omega) (by omega), w64 (x := 256 * c) (by omega) (by omega), w64 (x := 256 * c + e) (by omega) (by omega)]
      refine Ev.pure_bind rfl (Ev.ite_pos (by simp only [List.length_cons, List.length_nil]; omega) (Ev.val ?_))
      rfl
    · have : ((i : Int) == (R.length : Int) - 1) = false := by rw [beq_eq_false_iff_ne]; omega
      rw [this]
      exact last _ _ _ _ (fun x => hend (by have := (drop_last (L := L) (i := i) (by omega)).1 x.1; omega))
theorem refRow_f (s : ByteArray) (hs : s.size ≤ 1000000) : Ev (fun k => monikerref19_row.f k s) (wordsT [] (rowS true (bytesOf s))) := by
  unfold monikerref19_row.f rowS
  refine Ev.pure_bind rfl ?_
  refine Ev.ite (fun h => ?_) (fun h => ?_)
  · rw [if_pos ((empty_iff s).1 h)]
    exact Ev.val rfl
  · rw [if_neg (fun x => h ((empty_iff s).2 x))]
    obtain ⟨R, hR, hL⟩ := parts_f s 58 hs
    refine Ev.bind' hR ?_
    have hlen := splitC_len 58 (bytesOf s)
    rw [← hL, List.length_map, bytes_len] at hlen
    have := refRow_l0 R _ hL (fun p hp => by have := part_size hL hp; rw [bytes_len] at this; omega) (by omega) R.length 0 (by omega) [] (by simp)
    rw [List.drop_zero] at this
    exact this
end Go.Proofs.YtdmigmccfdhdiaaDoor.Y
