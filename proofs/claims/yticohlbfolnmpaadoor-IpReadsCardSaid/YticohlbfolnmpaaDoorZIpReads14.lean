/- The law IpReads of layer 19, for every input: Any text: it is read as the IPv4 and the IPv6 address that the document says, or as none; and it is a literal of later times just if the document says so. No condition beside the row's own. -/
import Derived.Test.YticohlbfolnmpaaDoorZIpReads2
import Derived.Test.YticohlbfolnmpaaDoorZIpReads3
import Derived.Test.YticohlbfolnmpaaDoorZIpReads4
import Derived.Test.YticohlbfolnmpaaDoorZIpReads5
import Derived.Test.YticohlbfolnmpaaDoorZIpReads7
import Derived.Test.YticohlbfolnmpaaDoorZIpReads8
import Derived.Test.YticohlbfolnmpaaDoorZIpReads9
import Derived.Test.YticohlbfolnmpaaDoorZIpReads10
import Derived.Test.YticohlbfolnmpaaDoorZIpReads11
import Derived.Test.YticohlbfolnmpaaDoorZIpReads12
import Derived.Test.YticohlbfolnmpaaDoorZIpReads13
import Derived.Test.YticohlbfolnmpaaDoorRows
import Derived.Test.YticohlbfolnmpaaDoorCards
import Derived.Test.YticohlbfolnmpaaDoorTie
import Derived.WalkKit
import Derived.ProofKit
import Derived.OpenShut
import Derived.ShutString
import Derived.ChangeOld
import Derived.Below
import Derived.SizedLaws
import Derived.ChangeArms
import Derived.Lib.SmallJoins
import Derived.Deep.DeepHandedRow
import Derived.Lib.LaidTab
import Derived.Shelf.Vars
import Derived.MakeChecks
namespace Go.Proofs.YticohlbfolnmpaaDoor.Y
open Go.RowKit Go.Proofs.YticohlbfolnmpaaDoor.X Go.Proofs.YticohlbfolnmpaaDoor.M Go.Proofs.YticohlbfolnmpaaDoorW.PrintWords Go.Proofs.YticohlbfolnmpaaDoorW.PrintLast Go.Proofs.YticohlbfolnmpaaDoorW.PrintMore
set_option linter.unusedVariables false
def p10 : Nat → Int
  | 0 => 1
  | 1 => 10
  | 2 => 100
  | _ => 1000
theorem p10_step {i : Nat} (hi : i < 3) {n b : Int} (h0 : 0 ≤ n) (h1 : n < p10 i) (b0 : 48 ≤ b) (b1 : b ≤ 57) : 0 ≤ 10 * n + (b - 48) ∧ 10 * n + (b - 48) < p10 (i + 1) ∧ n ≤ 1000 := by
  rcases i with _ | _ | _ | i
  · simp only [p10] at *; omega
  · simp only [p10] at *; omega
  · simp only [p10] at *; omega
  · omega
theorem decimal_l0 (s : ByteArray) (h3 : s.size ≤ 3) : ∀ d i : Nat, ∀ n : Int, i + d = s.size → 0 ≤ n → n < p10 i → Ev (fun k => ip_decimal.l0 k s n (s.size : Int) (i : Int))
    (if ((bytesOf s).drop i).all digit then (((bytesOf s).drop i).foldl (fun n b => 10 * n + (b - 48)) n % 256, decide (((bytesOf s).drop i).foldl (fun n b => 10 * n + (b - 48)) n ≤ 255)) else (0, false)) := by
  intro d
  induction d with
  | zero =>
    intro i n hi _ _
    rw [List.drop_of_length_le (by rw [bytes_len]; omega)]
    refine Ev.step (fun k => by rw [ip_decimal.l0]) ?_
    exact Ev.ite_neg (by omega) (Ev.now _)
  | succ d ih =>
    intro i n hi h0 h1
    rcases at_or_end s i (by omega) with ⟨h, _⟩ | ⟨h, e, b0, b1⟩
    · omega
    refine Ev.step (fun k => by rw [ip_decimal.l0]) ?_
    refine Ev.ite_pos (by omega) (Ev.ite_pos (by omega) (Ev.ite_pos (by omega) (Ev.bind' (is_f 2 b0 b1) ?_)))
    rw [e, isc_digit b0 b1, List.all_cons, List.foldl_cons]
    cases hd : digit (bt s (i : Int))
    · refine Ev.ite_neg (by simp) (Ev.val (by simp))
    · refine Ev.ite_pos rfl ?_
      have hb := digit_iff.1 hd
      have hst := p10_step (i := i) (by omega) h0 h1 hb.1 hb.2
      have e1 : wrap64 (wrap64 (10 * n) + (bt s (i : Int) - 48) % 256) = 10 * n + (bt s (i : Int) - 48) := by
        rw [w64 (x := 10 * n) (by omega) (by omega), w64 (by omega) (by omega)]; omega
      rw [e1, w64 (by omega) (by omega)]
      simp only [Bool.true_and]
      exact ih (i + 1) _ (by omega) hst.1 hst.2.1
theorem decimal_f (s : ByteArray) (hs : s.size ≤ 140737488351232) : ∃ n : Int, Ev (fun k => ip_decimal.f k s) (n, decide (0 ≤ d8 (bytesOf s))) ∧ (0 ≤ d8 (bytesOf s) → n = d8 (bytesOf s)) := by
  have bad : (bytesOf s).length = 0 ∨ 3 < (bytesOf s).length ∨ (1 < (bytesOf s).length ∧ (bytesOf s).headD 0 = 48) → Ev (fun k => ip_decimal.j0 k s true) (0, decide (0 ≤ d8 (bytesOf s))) ∧ ¬ 0 ≤ d8 (bytesOf s) := by
    intro h
    have hd : d8 (bytesOf s) = -1 := by unfold d8; rw [if_pos h]
    rw [hd]
    refine ⟨?_, by omega⟩
    refine Ev.step (fun k => by rw [ip_decimal.j0]) ?_
    exact Ev.ite_pos rfl (Ev.now _)
  have hh : 0 < s.size → (bytesOf s).headD 0 = bt s 0 := by
    intro h
    rcases at_begin s with ⟨h2, _⟩ | ⟨_, e, _⟩
    · omega
    · rw [e]; rfl
  by_cases hb : (bytesOf s).length = 0 ∨ 3 < (bytesOf s).length ∨ (1 < (bytesOf s).length ∧ (bytesOf s).headD 0 = 48)
  · obtain ⟨h1, h2⟩ := bad hb
    refine ⟨0, ?_, fun h => absurd h h2⟩
    unfold ip_decimal.f
    rw [bytes_len] at hb
    refine Ev.ite (fun _ => h1) (fun _ => Ev.ite (fun _ => h1) (fun _ => Ev.ite (fun _ => Ev.ite_pos (by omega) ?_) (fun _ => by omega)))
    have : (bt s 0 == 48) = true := by
      rw [beq_iff_eq, ← hh (by omega)]
      omega
    rw [this]
    exact h1
  · have hb2 := hb
    rw [bytes_len] at hb
    have good : Ev (fun k => ip_decimal.j0 k s false) (if (bytesOf s).all digit then (dval (bytesOf s) % 256, decide (dval (bytesOf s) ≤ 255)) else (0, false)) := by
      refine Ev.step (fun k => by rw [ip_decimal.j0]) ?_
      refine Ev.ite_neg (by simp) ?_
      exact decimal_l0 s (by omega) s.size 0 0 (by omega) (by omega) (by decide)
    have all : Ev (fun k => ip_decimal.f k s) (if (bytesOf s).all digit then (dval (bytesOf s) % 256, decide (dval (bytesOf s) ≤ 255)) else (0, false)) := by
      unfold ip_decimal.f
      refine Ev.ite_neg (by omega) (Ev.ite_neg (by omega) (Ev.ite (fun _ => Ev.ite_pos (by omega) ?_) (fun _ => good)))
      have : (bt s 0 == 48) = false := by
        rw [beq_eq_false_iff_ne, ← hh (by omega)]
        intro h
        omega
      rw [this]
      exact good
    have hr := d8_range (bytesOf s)
    unfold d8 at hr ⊢
    rw [if_neg hb2] at hr ⊢
    cases ha : (bytesOf s).all digit
    · rw [ha] at all
      exact ⟨0, all, by simp⟩
    · rw [ha] at all
      by_cases h255 : dval (bytesOf s) ≤ 255
      · rw [if_pos h255] at hr ⊢
        simp only [if_true] at hr all ⊢
        have h0 := dval_nonneg ha
        rw [decide_eq_true h255] at all
        refine ⟨dval (bytesOf s) % 256, ?_, fun _ => by omega⟩
        rw [decide_eq_true h0]
        exact all
      · rw [decide_eq_false h255] at all
        rw [if_neg h255]
        exact ⟨_, all, by simp⟩
def v4T (l : List Int) : Int × Int × Int × Int × Bool := match v4 l with
  | some (a, b, c, d) => (a, b, c, d, true)
  | none => (0, 0, 0, 0, false)
theorem v4T_ok (l : List Int) : (v4T l).2.2.2.2 = (v4 l).isSome := by
  unfold v4T
  cases v4 l with
  | none => rfl
  | some x => obtain ⟨a, b, c, d⟩ := x; rfl
theorem v4_four (l a b c d : List Int) (h : splitC 46 l = [a, b, c, d]) : v4 l = if 0 ≤ d8 a ∧ 0 ≤ d8 b ∧ 0 ≤ d8 c ∧ 0 ≤ d8 d then some (d8 a, d8 b, d8 c, d8 d) else none := by
  unfold v4; rw [h]
theorem v4_other (l : List Int) (h : (splitC 46 l).length ≠ 4) : v4 l = none := by
  unfold v4
  split
  · rename_i e; rw [e] at h; simp at h
  · rfl
theorem v4_step (R : List ByteArray) (i : Nat) (hi : i < R.length) (p : ByteArray) (hp : rdOf ByteArray.empty R (i : Int) = p) (hsz : p.size ≤ 140737488351232) (h4 : i < 4) (a b c d : Int) (r : Int × Int × Int × Int × Bool)
    (bad : ¬ 0 ≤ d8 (bytesOf p) → r = (0, 0, 0, 0, false))
    (good : 0 ≤ d8 (bytesOf p) → Ev (fun k => ip_V4.l0 k R (R.length : Int) ((i : Int) + 1) (if i = 0 then d8 (bytesOf p) else a) (if i = 1 then d8 (bytesOf p) else b) (if i = 2 then d8 (bytesOf p) else c) (if i = 3 then d8 (bytesOf p) else d)) r) :
    Ev (fun k => ip_V4.l0 k R (R.length : Int) (i : Int) a b c d) r := by
  obtain ⟨n, h1, h2⟩ := decimal_f p hsz
  refine Ev.step (fun k => by rw [ip_V4.l0]) ?_
  rw [hp]
  refine Ev.ite_pos (by omega) (Ev.ite_pos (by omega) (Ev.ite_pos (by omega) (Ev.bind' h1 ?_)))
  simp only
  by_cases hd : 0 ≤ d8 (bytesOf p)
  · rw [decide_eq_true hd]
    rw [h2 hd, w64 (by omega) (by omega)]
    have g := good hd
    refine Ev.ite_pos rfl ?_
    have : i = 0 ∨ i = 1 ∨ i = 2 ∨ i = 3 := by omega
    rcases this with rfl | rfl | rfl | rfl
    · exact Ev.ite_pos (by omega) g
    · exact Ev.ite_neg (by omega) (Ev.ite_pos (by omega) g)
    · exact Ev.ite_neg (by omega) (Ev.ite_neg (by omega) (Ev.ite_pos (by omega) g))
    · exact Ev.ite_neg (by omega) (Ev.ite_neg (by omega) (Ev.ite_neg (by omega) (Ev.ite_pos (by omega) g)))
  · rw [decide_eq_false hd]
    exact Ev.ite_neg (by simp) (Ev.val (bad hd).symm)
theorem four_of {α : Type} {R : List α} (h : R.length = 4) : ∃ a b c d, R = [a, b, c, d] := by
  match R, h with
  | [a, b, c, d], _ => exact ⟨a, b, c, d, rfl⟩
theorem part_size {R : List ByteArray} {c : Int} {l : List Int} (h : R.map bytesOf = splitC c l) {p : ByteArray} (hp : p ∈ R) : p.size ≤ l.length := by
  rw [← bytes_len]
  exact (splitC_mem (c := c) (l := l) _ (by rw [← h]; exact List.mem_map.2 ⟨p, hp, rfl⟩)).2.2
theorem v4_f (s : ByteArray) (hs : s.size ≤ 1000000) : Ev (fun k => ip_V4.f k s) (v4T (bytesOf s)) := by
  obtain ⟨R, hR, hL⟩ := split_f s (⟨#[46]⟩ : ByteArray) 46 rfl (by omega)
  unfold ip_V4.f
  refine Ev.pure_bind hR ?_
  have hlen : R.length = (splitC 46 (bytesOf s)).length := by rw [← hL, List.length_map]
  by_cases h4 : R.length = 4
  · refine Ev.ite_pos (by omega) ?_
    obtain ⟨a, b, c, d, rfl⟩ := four_of h4
    have hsz : ∀ p ∈ [a, b, c, d], p.size ≤ 140737488351232 := fun p hp => by have := part_size hL hp; rw [bytes_len] at this; omega
    have hv := v4_four (bytesOf s) _ _ _ _ (by rw [← hL]; rfl)
    have badv : ¬ (0 ≤ d8 (bytesOf a) ∧ 0 ≤ d8 (bytesOf b) ∧ 0 ≤ d8 (bytesOf c) ∧ 0 ≤ d8 (bytesOf d)) → v4T (bytesOf s) = (0, 0, 0, 0, false) := by
      intro h
      unfold v4T
      rw [hv, if_neg h]
    refine v4_step [a, b, c, d] 0 (by simp) a rfl (hsz a (by simp)) (by omega) 0 0 0 0 _ (fun h => badv (fun x => h x.1)) (fun ha => ?_)
    refine v4_step [a, b, c, d] 1 (by simp) b rfl (hsz b (by simp)) (by omega) _ _ _ _ _ (fun h => badv (fun x => h x.2.1)) (fun hb => ?_)
    refine v4_step [a, b, c, d] 2 (by simp) c rfl (hsz c (by simp)) (by omega) _ _ _ _ _ (fun h => badv (fun x => h x.2.2.1)) (fun hc => ?_)
    refine v4_step [a, b, c, d] 3 (by simp) d rfl (hsz d (by simp)) (by omega) _ _ _ _ _ (fun h => badv (fun x => h x.2.2.2)) (fun hd => ?_)
    refine Ev.step (fun k => by rw [ip_V4.l0]) ?_
    refine Ev.ite_neg (by simp) (Ev.val ?_)
    rw [if_pos ⟨ha, hb, hc, hd⟩] at hv
    unfold v4T
    rw [hv]
    simp
  · refine Ev.ite_neg (by omega) (Ev.val ?_)
    unfold v4T
    rw [v4_other _ (by omega)]
theorem digits_f {n : Int} (h0 : 0 ≤ n) (h1 : n ≤ 255) : ∃ t : ByteArray, Ev (fun k => monikerref19_Digits.f k n) t ∧ bytesOf t = digs n := by
  have := byte_all (p := fun n => ((monikerref19_Digits.f 5 n).map bytesOf) = some (digs n)) (by decide +kernel) h0 h1
  obtain ⟨t, h2, h3⟩ := Option.map_eq_some_iff.1 this
  exact ⟨t, Ev.of (fun k => monikerref19_Digits.mono n k) h2, h3⟩
theorem refV4_l1 (R : List ByteArray) (i : Nat) (hi : i < R.length) (h4 : i < 4) (p : ByteArray) (hp : rdOf ByteArray.empty R (i : Int) = p) (a b c d : Int) (r : Int × Int × Int × Int × Bool)
    (bad : ¬ 0 ≤ d8 (bytesOf p) → r = (0, 0, 0, 0, false))
    (good : 0 ≤ d8 (bytesOf p) → Ev (fun k => monikerref19_V4.l0 k R ((i : Int) + 1) (if i = 0 then d8 (bytesOf p) else a) (if i = 1 then d8 (bytesOf p) else b) (if i = 2 then d8 (bytesOf p) else c) (if i = 3 then d8 (bytesOf p) else d)) r) :
    ∀ m n : Nat, n + m = 256 → Ev (fun k => monikerref19_V4.l1 k R (i : Int) (if 0 ≤ d8 (bytesOf p) ∧ d8 (bytesOf p) < n then d8 (bytesOf p) else -1) (n : Int) a b c d) r := by
  intro m
  induction m with
  | zero =>
    intro n hn
    refine Ev.step (fun k => by rw [monikerref19_V4.l1]) ?_
    refine Ev.ite_neg (by omega) ?_
    have hr := d8_range (bytesOf p)
    by_cases hd : 0 ≤ d8 (bytesOf p)
    · rw [if_pos ⟨hd, by omega⟩, w64 (by omega) (by omega)]
      have g := good hd
      refine Ev.ite_neg (by omega) (Ev.ite_pos (by omega) ?_)
      have : i = 0 ∨ i = 1 ∨ i = 2 ∨ i = 3 := by omega
      rcases this with rfl | rfl | rfl | rfl
      · exact Ev.ite_pos (by omega) g
      · exact Ev.ite_neg (by omega) (Ev.ite_pos (by omega) g)
      · exact Ev.ite_neg (by omega) (Ev.ite_neg (by omega) (Ev.ite_pos (by omega) g))
      · exact Ev.ite_neg (by omega) (Ev.ite_neg (by omega) (Ev.ite_neg (by omega) (Ev.ite_pos (by omega) g)))
    · rw [if_neg (fun x => hd x.1)]
      exact Ev.ite_pos (by omega) (Ev.val (bad hd).symm)
  | succ m ih =>
    intro n hn
    obtain ⟨t, h1, h2⟩ := digits_f (n := (n : Int)) (by omega) (by omega)
    refine Ev.step (fun k => by rw [monikerref19_V4.l1]) ?_
    refine Ev.ite_pos (by omega) (Ev.bind' h1 (Ev.ite_pos (by omega) (Ev.ite_pos (by omega) ?_)))
    rw [hp, w64 (by omega) (by omega)]
    have key : t.toList = p.toList ↔ d8 (bytesOf p) = (n : Int) := by
      rw [toList_iff, h2]
      exact d8_iff (by omega) (by omega)
    have nx := ih (n + 1) (by omega)
    refine Ev.ite (fun h => ?_) (fun h => ?_)
    · have e := key.1 h
      have e2 : (if 0 ≤ d8 (bytesOf p) ∧ d8 (bytesOf p) < ((n + 1 : Nat) : Int) then d8 (bytesOf p) else -1) = (n : Int) := by rw [if_pos (by omega), e]
      rw [e2] at nx
      exact nx
    · have e := fun x => h (key.2 x)
      have e2 : (if 0 ≤ d8 (bytesOf p) ∧ d8 (bytesOf p) < ((n + 1 : Nat) : Int) then d8 (bytesOf p) else -1) = (if 0 ≤ d8 (bytesOf p) ∧ d8 (bytesOf p) < (n : Int) then d8 (bytesOf p) else -1) := by
        by_cases hc : 0 ≤ d8 (bytesOf p) ∧ d8 (bytesOf p) < (n : Int)
        · rw [if_pos hc, if_pos ⟨hc.1, by omega⟩]
        · rw [if_neg hc, if_neg (fun x => hc ⟨x.1, by have : d8 (bytesOf p) ≠ (n : Int) := e; omega⟩)]
      rw [e2] at nx
      exact nx
theorem refV4_step (R : List ByteArray) (i : Nat) (hi : i < R.length) (h4 : i < 4) (p : ByteArray) (hp : rdOf ByteArray.empty R (i : Int) = p) (a b c d : Int) (r : Int × Int × Int × Int × Bool)
    (bad : ¬ 0 ≤ d8 (bytesOf p) → r = (0, 0, 0, 0, false))
    (good : 0 ≤ d8 (bytesOf p) → Ev (fun k => monikerref19_V4.l0 k R ((i : Int) + 1) (if i = 0 then d8 (bytesOf p) else a) (if i = 1 then d8 (bytesOf p) else b) (if i = 2 then d8 (bytesOf p) else c) (if i = 3 then d8 (bytesOf p) else d)) r) :
    Ev (fun k => monikerref19_V4.l0 k R (i : Int) a b c d) r := by
  refine Ev.step (fun k => by rw [monikerref19_V4.l0]) ?_
  refine Ev.ite_pos (by omega) ?_
  have := refV4_l1 R i hi h4 p hp a b c d r bad good 256 0 (by omega)
  rw [if_neg (by omega)] at this
  exact this
theorem refV4_f (s : ByteArray) (hs : s.size ≤ 1000000) : Ev (fun k => monikerref19_V4.f k s) (v4T (bytesOf s)) := by
  obtain ⟨R, hR, hL⟩ := parts_f s 46 hs
  unfold monikerref19_V4.f
  refine Ev.bind' hR ?_
  have hlen : R.length = (splitC 46 (bytesOf s)).length := by rw [← hL, List.length_map]
  by_cases h4 : R.length = 4
  · refine Ev.ite_pos (by omega) ?_
    obtain ⟨a, b, c, d, rfl⟩ := four_of h4
    have hv := v4_four (bytesOf s) _ _ _ _ (by rw [← hL]; rfl)
    have badv : ¬ (0 ≤ d8 (bytesOf a) ∧ 0 ≤ d8 (bytesOf b) ∧ 0 ≤ d8 (bytesOf c) ∧ 0 ≤ d8 (bytesOf d)) → v4T (bytesOf s) = (0, 0, 0, 0, false) := by
      intro h
      unfold v4T
      rw [hv, if_neg h]
    refine refV4_step [a, b, c, d] 0 (by simp) (by omega) a rfl 0 0 0 0 _ (fun h => badv (fun x => h x.1)) (fun ha => ?_)
    refine refV4_step [a, b, c, d] 1 (by simp) (by omega) b rfl _ _ _ _ _ (fun h => badv (fun x => h x.2.1)) (fun hb => ?_)
    refine refV4_step [a, b, c, d] 2 (by simp) (by omega) c rfl _ _ _ _ _ (fun h => badv (fun x => h x.2.2.1)) (fun hc => ?_)
    refine refV4_step [a, b, c, d] 3 (by simp) (by omega) d rfl _ _ _ _ _ (fun h => badv (fun x => h x.2.2.2)) (fun hd => ?_)
    refine Ev.step (fun k => by rw [monikerref19_V4.l0]) ?_
    refine Ev.ite_neg (by simp) (Ev.val ?_)
    rw [if_pos ⟨ha, hb, hc, hd⟩] at hv
    unfold v4T
    rw [hv]
    simp
  · refine Ev.ite_neg (by omega) (Ev.val ?_)
    unfold v4T
    rw [v4_other _ (by omega)]
end Go.Proofs.YticohlbfolnmpaaDoor.Y
namespace Go.Proofs.YticohlbfolnmpaaDoor.Y
open Go.RowKit Go.Proofs.YticohlbfolnmpaaDoor.X Go.Proofs.YticohlbfolnmpaaDoor.M Go.Proofs.YticohlbfolnmpaaDoorW.PrintWords Go.Proofs.YticohlbfolnmpaaDoorW.PrintLast Go.Proofs.YticohlbfolnmpaaDoorW.PrintMore
set_option linter.unusedVariables false
theorem wraps_u16 (n : Int) (h0 : 0 ≤ n) (h1 : n < 2 ^ 16) : IntKind.u16.wrap n = n := by
  simp [IntKind.wrap, IntKind.bits, IntKind.signed]
  omega
theorem wraps_i64 (n : Int) (h0 : 0 ≤ n) (h1 : n < 2 ^ 62) : IntKind.i64.wrap n = n := by
  rw [IntKind.wrap_i64]; omega
theorem u16_pair {a b : Int} (a0 : 0 ≤ a) (a1 : a ≤ 255) (b0 : 0 ≤ b) (b1 : b ≤ 255) : Go.bits .or .u16 (IntKind.u16.wrap (IntKind.u16.wrap a * 256)) (IntKind.u16.wrap b) = 256 * a + b := by
  rw [wraps_u16 a a0 (by omega), wraps_u16 (a * 256) (by omega) (by omega), wraps_u16 b b0 (by omega)]
  rw [bits_join .u16 16 (by decide) wraps_u16 8 (a * 256) b (by omega) (by omega) (by omega) (by omega) (by omega) (by omega)]
  omega
theorem i64_hex {a b : Int} (a0 : 0 ≤ a) (a1 : a ≤ 1000000) (b0 : 0 ≤ b) (b1 : b ≤ 15) : Go.bits .or .i64 (wrap64 (a * 16)) b = 16 * a + b := by
  rw [w64 (by omega) (by omega), bits_join .i64 62 (by decide) wraps_i64 4 (a * 16) b (by omega) (by omega) (by omega) (by omega) (by omega) (by omega)]
  omega
def p16 : Nat → Int
  | 0 => 1
  | 1 => 16
  | 2 => 256
  | 3 => 4096
  | _ => 65536
theorem p16_step {i : Nat} (hi : i < 4) {n b : Int} (h0 : 0 ≤ n) (h1 : n < p16 i) (b0 : 0 ≤ b) (b1 : b ≤ 15) : 0 ≤ 16 * n + b ∧ 16 * n + b < p16 (i + 1) ∧ n ≤ 65536 := by
  rcases i with _ | _ | _ | _ | i
  · simp only [p16] at *; omega
  · simp only [p16] at *; omega
  · simp only [p16] at *; omega
  · simp only [p16] at *; omega
  · omega
theorem word_l0 (s : ByteArray) (h4 : s.size ≤ 4) : ∀ d i : Nat, ∀ n : Int, i + d = s.size → 0 ≤ n → n < p16 i → Ev (fun k => ip_word.l0 k s n (s.size : Int) (i : Int))
    (if ((bytesOf s).drop i).all hexd then (hval n ((bytesOf s).drop i), true) else (0, false)) := by
  intro d
  induction d with
  | zero =>
    intro i n hi h0 h1
    rw [List.drop_of_length_le (by rw [bytes_len]; omega)]
    refine Ev.step (fun k => by rw [ip_word.l0]) ?_
    refine Ev.ite_neg (by omega) (Ev.val ?_)
    have : n < 65536 := by
      have h := h1
      have : i ≤ 4 := by omega
      rcases i with _ | _ | _ | _ | _ | i
      all_goals (first | omega | (simp only [p16] at h; omega))
    rw [wraps_u16 n h0 (by omega)]
    rfl
  | succ d ih =>
    intro i n hi h0 h1
    rcases at_or_end s i (by omega) with ⟨h, _⟩ | ⟨h, e, b0, b1⟩
    · omega
    refine Ev.step (fun k => by rw [ip_word.l0]) ?_
    refine Ev.ite_pos (by omega) (Ev.ite_pos (by omega) (Ev.ite_pos (by omega) (Ev.bind' (value_f b0 b1) ?_)))
    rw [e, List.all_cons]
    have hr := hv_range (bt s (i : Int))
    by_cases hv0 : hv (bt s (i : Int)) < 0
    · simp only [if_pos hv0]
      rw [(hv_neg _).1 hv0]
      exact Ev.ite_neg (by simp) (Ev.val (by simp))
    · simp only [if_neg hv0]
      rw [(hv_hexd _).1 (by omega)]
      refine Ev.ite_pos (by simp) ?_
      have hst := p16_step (i := i) (by omega) h0 h1 (b := hv (bt s (i : Int))) (by omega) (by omega)
      rw [i64_hex h0 (by omega) (by omega) (by omega), w64 (by omega) (by omega)]
      simp only [Bool.true_and, hval]
      exact ih (i + 1) _ (by omega) hst.1 hst.2.1
theorem word_f (s : ByteArray) (hs : s.size ≤ 140737488351232) : Ev (fun k => ip_word.f k s) (if word (bytesOf s) < 0 then (0, false) else (word (bytesOf s), true)) := by
  have hb := hval_range (bytesOf s) 0 1
  have bad : (bytesOf s).length = 0 ∨ 4 < (bytesOf s).length → Ev (fun k => ip_word.j0 k s true) (if word (bytesOf s) < 0 then (0, false) else (word (bytesOf s), true)) := by
    intro h
    have : word (bytesOf s) = -1 := by unfold word; rw [if_pos h]
    rw [this]
    refine Ev.step (fun k => by rw [ip_word.j0]) ?_
    exact Ev.ite_pos rfl (Ev.now _)
  unfold ip_word.f
  have hl := bytes_len s
  refine Ev.ite (fun h => bad (by omega)) (fun h => ?_)
  by_cases h4 : (s.size : Int) > 4
  · rw [decide_eq_true h4]
    exact bad (by omega)
  · rw [decide_eq_false h4]
    refine Ev.step (fun k => by rw [ip_word.j0]) ?_
    refine Ev.ite_neg (by simp) ?_
    have := word_l0 s (by omega) s.size 0 0 (by omega) (by omega) (by decide)
    rw [List.drop_zero] at this
    have e : (if word (bytesOf s) < 0 then ((0 : Int), false) else (word (bytesOf s), true)) = (if (bytesOf s).all hexd then (hval 0 (bytesOf s), true) else (0, false)) := by
      have hw : word (bytesOf s) = if (bytesOf s).all hexd then hval 0 (bytesOf s) else -1 := by
        unfold word
        rw [if_neg (by omega)]
      rw [hw]
      by_cases ha : (bytesOf s).all hexd = true
      · have := hb ha (by omega) (by omega)
        simp only [if_pos ha]
        rw [if_neg (by omega)]
      · simp only [if_neg ha]
        rw [if_pos (by omega)]
    rw [e]
    exact this
theorem refWord_l0 (s : ByteArray) (h4 : s.size ≤ 4) : ∀ d i : Nat, ∀ n : Int, i + d = s.size → 0 ≤ n → n < p16 i → Ev (fun k => monikerref19_word.l0 k s n (i : Int))
    (if ((bytesOf s).drop i).all hexd then hval n ((bytesOf s).drop i) else -1) := by
  intro d
  induction d with
  | zero =>
    intro i n hi h0 h1
    rw [List.drop_of_length_le (by rw [bytes_len]; omega)]
    refine Ev.step (fun k => by rw [monikerref19_word.l0]) ?_
    exact Ev.ite_neg (by omega) (Ev.now _)
  | succ d ih =>
    intro i n hi h0 h1
    rcases at_or_end s i (by omega) with ⟨h, _⟩ | ⟨h, e, b0, b1⟩
    · omega
    refine Ev.step (fun k => by rw [monikerref19_word.l0]) ?_
    refine Ev.ite_pos (by omega) (Ev.ite_pos (by omega) (Ev.bind' (refValue_f b0 b1) ?_))
    rw [e, List.all_cons]
    have hr := hv_range (bt s (i : Int))
    by_cases hv0 : hv (bt s (i : Int)) < 0
    · rw [(hv_neg _).1 hv0]
      exact Ev.ite_pos hv0 (Ev.val (by simp))
    · rw [(hv_hexd _).1 (by omega)]
      refine Ev.ite_neg hv0 ?_
      have hst := p16_step (i := i) (by omega) h0 h1 (b := hv (bt s (i : Int))) (by omega) (by omega)
      rw [w64 (x := 16 * n) (by omega) (by omega), w64 (x := 16 * n + hv (bt s (i : Int))) (by omega) (by omega), w64 (by omega) (by omega)]
      simp only [Bool.true_and, hval]
      exact ih (i + 1) _ (by omega) hst.1 hst.2.1
theorem refWord_f (s : ByteArray) (hs : s.size ≤ 140737488351232) : Ev (fun k => monikerref19_word.f k s) (word (bytesOf s)) := by
  have bad : (bytesOf s).length = 0 ∨ 4 < (bytesOf s).length → Ev (fun k => monikerref19_word.j0 k s true) (word (bytesOf s)) := by
    intro h
    have : word (bytesOf s) = -1 := by unfold word; rw [if_pos h]
    rw [this]
    refine Ev.step (fun k => by rw [monikerref19_word.j0]) ?_
    exact Ev.ite_pos rfl (Ev.now _)
  unfold monikerref19_word.f
  have hl := bytes_len s
  refine Ev.ite (fun h => bad (by omega)) (fun h => ?_)
  by_cases h4 : (s.size : Int) > 4
  · rw [decide_eq_true h4]
    exact bad (by omega)
  · rw [decide_eq_false h4]
    refine Ev.step (fun k => by rw [monikerref19_word.j0]) ?_
    refine Ev.ite_neg (by simp) ?_
    have := refWord_l0 s (by omega) s.size 0 0 (by omega) (by omega) (by decide)
    rw [List.drop_zero] at this
    unfold word
    rw [if_neg (by omega)]
    exact this
def wordsT (out : List Int) : Option (List Int) → List Int × Bool
  | some w => (out ++ w, true)
  | none => ([], false)
theorem getD_drop {α : Type} {L : List α} {i : Nat} (h : i < L.length) (z : α) : L.drop i = L.getD i z :: L.drop (i + 1) := by
  rw [List.drop_eq_getElem_cons h, List.getD_eq_getElem?_getD, List.getElem?_eq_getElem h]; rfl
theorem drop_last {α : Type} {L : List α} {i : Nat} (h : i < L.length) : L.drop (i + 1) = [] ↔ i + 1 = L.length := by
  rw [List.drop_eq_nil_iff]; omega
theorem words_l0 (fin : Bool) (R : List ByteArray) (L : List (List Int)) (hL : R.map bytesOf = L) (hp : ∀ p ∈ R, p.size ≤ 1000000) (hR : R.length ≤ 1000001) : ∀ d i : Nat, i + d = R.length → ∀ out : List Int, out.length ≤ i →
    Ev (fun k => ip_words.l0 k fin out R R (R.length : Int) (i : Int)) (wordsT out (words fin (L.drop i))) := by
  have hlen : L.length = R.length := by rw [← hL, List.length_map]
  intro d
  induction d with
  | zero =>
    intro i hi out ho
    rw [List.drop_of_length_le (by omega)]
    refine Ev.step (fun k => by rw [ip_words.l0]) ?_
    exact Ev.ite_neg (by omega) (Ev.val (by simp [words, wordsT]))
  | succ d ih =>
    intro i hi out ho
    have hmem : rdOf ByteArray.empty R (i : Int) ∈ R := by
      unfold rdOf
      rw [Int.toNat_natCast, List.getD_eq_getElem?_getD, List.getElem?_eq_getElem (by omega)]
      exact List.getElem_mem _
    have hq := rdOf_map hL i
    refine Ev.step (fun k => by rw [ip_words.l0]) ?_
    refine Ev.ite_pos (by omega) (Ev.ite_pos (by omega) (Ev.ite_pos (by omega) (Ev.bind' (v4_f _ (hp _ hmem)) ?_)))
    rw [hq, getD_drop (L := L) (i := i) (by omega) [], words_cons, v4T_ok]
    have last : ∀ x : ByteArray, bytesOf x = L.getD i [] → x.size ≤ 1000000 → ∀ a b c e : Int, ¬ (L.drop (i + 1) = [] ∧ fin = true ∧ (v4 (L.getD i [])).isSome = true) →
        Ev (fun k => ip_words.j1 k fin out R x R (R.length : Int) (i : Int) false a b c e) (wordsT out (if L.drop (i + 1) = [] ∧ fin = true ∧ (v4 (L.getD i [])).isSome = true then (v4 (L.getD i [])).map fun x => [256 * x.1 + x.2.1, 256 * x.2.2.1 + x.2.2.2] else if word (L.getD i []) < 0 then none else (words fin (L.drop (i + 1))).map fun l => word (L.getD i []) :: l)) := by
      intro x hx hxs a b c e hno
      rw [if_neg hno]
      refine Ev.step (fun k => by rw [ip_words.j1]) ?_
      refine Ev.ite_neg (by simp) (Ev.bind' (word_f x (by omega)) ?_)
      rw [hx]
      by_cases hw : word (L.getD i []) < 0
      · simp only [if_pos hw]
        exact Ev.ite_neg (by simp) (Ev.now _)
      · simp only [if_neg hw]
        refine Ev.ite_pos (by simp) (Ev.ite_pos (by omega) ?_)
        rw [w64 (by omega) (by omega)]
        have := ih (i + 1) (by omega) (out ++ [word (L.getD i [])]) (by rw [List.length_append, List.length_singleton]; omega)
        have e2 : wordsT (out ++ [word (L.getD i [])]) (words fin (L.drop (i + 1))) = wordsT out ((words fin (L.drop (i + 1))).map fun l => word (L.getD i []) :: l) := by
          cases words fin (L.drop (i + 1)) with
          | none => rfl
          | some w => simp [wordsT]
        rw [← e2]
        exact this
    refine Ev.ite (fun h4 => ?_) (fun h4 => last _ hq (hp _ hmem) _ _ _ _ (fun x => h4 x.2.2))
    refine Ev.ite (fun hf => ?_) (fun hf => last _ hq (hp _ hmem) _ _ _ _ (fun x => hf x.2.1))
    rw [w64 (by omega) (by omega)]
    by_cases hend : i + 1 = R.length
    · have : ((i : Int) == (R.length : Int) - 1) = true := by rw [beq_iff_eq]; omega
      rw [this, if_pos ⟨(drop_last (by omega)).2 (by omega), hf, h4⟩]
      refine Ev.step (fun k => by rw [ip_words.j1]) ?_
      refine Ev.ite_pos rfl ?_
      obtain ⟨⟨a, b, c, e⟩, hx⟩ := Option.isSome_iff_exists.1 h4
      have hr := v4_range hx
      rw [hx]
      unfold v4T
      rw [hx]
      simp only
      rw [u16_pair hr.1.1 hr.1.2 hr.2.1.1 hr.2.1.2, u16_pair hr.2.2.1.1 hr.2.2.1.2 hr.2.2.2.1 hr.2.2.2.2]
      refine Ev.pure_bind rfl (Ev.ite_pos (by simp only [List.length_cons, List.length_nil]; omega) (Ev.val ?_))
      rfl
    · have : ((i : Int) == (R.length : Int) - 1) = false := by rw [beq_eq_false_iff_ne]; omega
      rw [this]
      exact last _ hq (hp _ hmem) _ _ _ _ (fun x => hend (by have := (drop_last (L := L) (i := i) (by omega)).1 x.1; omega))
theorem empty_iff (s : ByteArray) : s.toList = ([] : List UInt8) ↔ bytesOf s = [] := by
  rw [toList_data]
  unfold bytesOf
  exact List.map_eq_nil_iff.symm
theorem words_f (s : ByteArray) (fin : Bool) (hs : s.size ≤ 1000000) : Ev (fun k => ip_words.f k s fin) (wordsT [] (rowS fin (bytesOf s))) := by
  unfold ip_words.f rowS
  refine Ev.ite (fun h => ?_) (fun h => ?_)
  · rw [if_pos ((empty_iff s).1 h)]
    exact Ev.val rfl
  · rw [if_neg (fun x => h ((empty_iff s).2 x))]
    obtain ⟨R, hR, hL⟩ := split_f s (⟨#[58]⟩ : ByteArray) 58 rfl (by omega)
    refine Ev.pure_bind hR ?_
    have hlen := splitC_len 58 (bytesOf s)
    rw [← hL, List.length_map, bytes_len] at hlen
    have := words_l0 fin R _ hL (fun p hp => by have := part_size hL hp; rw [bytes_len] at this; omega) (by omega) R.length 0 (by omega) [] (by simp)
    rw [List.drop_zero] at this
    exact this
theorem refRow_l0 (R : List ByteArray) (L : List (List Int)) (hL : R.map bytesOf = L) (hp : ∀ p ∈ R, p.size ≤ 1000000) (hR : R.length ≤ 1000001) : ∀ d i : Nat, i + d = R.length → ∀ out : List Int, out.length ≤ i →
    Ev (fun k => monikerref19_row.l0 k out R (i : Int)) (wordsT out (words true (L.drop i))) := by
  have hlen : L.length = R.length := by rw [← hL, List.length_map]
  intro d
  induction d with
  | zero =>
    intro i hi out ho
    rw [List.drop_of_length_le (by omega)]
    refine Ev.step (fun k => by rw [monikerref19_row.l0]) ?_
    exact Ev.ite_neg (by omega) (Ev.val (by simp [words, wordsT]))
  | succ d ih =>
    intro i hi out ho
    have hmem : rdOf ByteArray.empty R (i : Int) ∈ R := by
      unfold rdOf
      rw [Int.toNat_natCast, List.getD_eq_getElem?_getD, List.getElem?_eq_getElem (by omega)]
      exact List.getElem_mem _
    have hq := rdOf_map hL i
    refine Ev.step (fun k => by rw [monikerref19_row.l0]) ?_
    refine Ev.ite_pos (by omega) (Ev.ite_pos (by omega) (Ev.bind' (refV4_f _ (hp _ hmem)) ?_))
    rw [hq, getD_drop (L := L) (i := i) (by omega) [], words_cons, v4T_ok]
    have last : ∀ a b c e : Int, ¬ (L.drop (i + 1) = [] ∧ true = true ∧ (v4 (L.getD i [])).isSome = true) →
        Ev (fun k => monikerref19_row.j1 k out R (i : Int) false a b c e) (wordsT out (if L.drop (i + 1) = [] ∧ true = true ∧ (v4 (L.getD i [])).isSome = true then (v4 (L.getD i [])).map fun x => [256 * x.1 + x.2.1, 256 * x.2.2.1 + x.2.2.2] else if word (L.getD i []) < 0 then none else (words true (L.drop (i + 1))).map fun l => word (L.getD i []) :: l)) := by
      intro a b c e hno
      rw [if_neg hno]
      refine Ev.step (fun k => by rw [monikerref19_row.j1]) ?_
      refine Ev.ite_neg (by simp) (Ev.ite_pos (by omega) (Ev.ite_pos (by omega) (Ev.bind' (refWord_f _ (by have := hp _ hmem; omega)) ?_)))
      rw [hq]
      refine Ev.ite (fun hw => ?_) (fun hw => ?_)
      · rw [if_pos hw]
        exact Ev.now _
      · rw [if_neg hw]
        refine Ev.ite_pos (by omega) ?_
        rw [w64 (by omega) (by omega)]
        have := ih (i + 1) (by omega) (out ++ [word (L.getD i [])]) (by rw [List.length_append, List.length_singleton]; omega)
        have e2 : wordsT (out ++ [word (L.getD i [])]) (words true (L.drop (i + 1))) = wordsT out ((words true (L.drop (i + 1))).map fun l => word (L.getD i []) :: l) := by
          cases words true (L.drop (i + 1)) with
          | none => rfl
          | some w => simp [wordsT]
        rw [← e2]
        exact this
    refine Ev.ite (fun h4 => ?_) (fun h4 => last _ _ _ _ (fun x => h4 x.2.2))
    rw [w64 (by omega) (by omega)]
    by_cases hend : i + 1 = R.length
    · have : ((i : Int) == (R.length : Int) - 1) = true := by rw [beq_iff_eq]; omega
      rw [this, if_pos ⟨(drop_last (by omega)).2 (by omega), rfl, h4⟩]
      refine Ev.step (fun k => by rw [monikerref19_row.j1]) ?_
      refine Ev.ite_pos rfl ?_
      obtain ⟨⟨a, b, c, e⟩, hx⟩ := Option.isSome_iff_exists.1 h4
      have hr := v4_range hx
      rw [hx]
      unfold v4T
      rw [hx]
      simp only
      rw [w64 (x := 256 * a) (by omega) (by omega), w64 (x := 256 * a + b) (by omega) (by omega), w64 (x := 256 * c) (by omega) (by omega), w64 (x := 256 * c + e) (by omega) (by omega)]
      refine Ev.pure_bind rfl (Ev.ite_pos (by simp only [List.length_cons, List.length_nil]; omega) (Ev.val ?_))
      rfl
    · have : ((i : Int) == (R.length : Int) - 1) = false := by rw [beq_eq_false_iff_ne]; omega
      rw [this]
      exact last _ _ _ _ (fun x => hend (by have := (drop_last (L := L) (i := i) (by omega)).1 x.1; omega))
theorem refRow_f (s : ByteArray) (hs : s.size ≤ 1000000) : Ev (fun k => monikerref19_row.f k s) (wordsT [] (rowS true (bytesOf s))) := by
  unfold monikerref19_row.f rowS
  refine Ev.pure_bind rfl ?_
  refine Ev.ite (fun h => ?_) (fun h => ?_)
  · rw [if_pos ((empty_iff s).1 h)]
    exact Ev.val rfl
  · rw [if_neg (fun x => h ((empty_iff s).2 x))]
    obtain ⟨R, hR, hL⟩ := parts_f s 58 hs
    refine Ev.bind' hR ?_
    have hlen := splitC_len 58 (bytesOf s)
    rw [← hL, List.length_map, bytes_len] at hlen
    have := refRow_l0 R _ hL (fun p hp => by have := part_size hL hp; rw [bytes_len] at this; omega) (by omega) R.length 0 (by omega) [] (by simp)
    rw [List.drop_zero] at this
    exact this
end Go.Proofs.YticohlbfolnmpaaDoor.Y
namespace Go.Proofs.YticohlbfolnmpaaDoor.Y
open Go.RowKit Go.Proofs.YticohlbfolnmpaaDoor.X Go.Proofs.YticohlbfolnmpaaDoor.M Go.Proofs.YticohlbfolnmpaaDoorW.PrintWords Go.Proofs.YticohlbfolnmpaaDoorW.PrintLast Go.Proofs.YticohlbfolnmpaaDoorW.PrintMore
set_option linter.unusedVariables false
set_option linter.unusedSimpArgs false
def tup8 (l : List Int) (b : Bool) : Int × Int × Int × Int × Int × Int × Int × Int × Bool := (l.getD 0 0, l.getD 1 0, l.getD 2 0, l.getD 3 0, l.getD 4 0, l.getD 5 0, l.getD 6 0, l.getD 7 0, b)
def zeros8 : List Int := [0, 0, 0, 0, 0, 0, 0, 0]
def v6T (l : List Int) : Int × Int × Int × Int × Int × Int × Int × Int × Bool := match v6 l with
  | some w => tup8 w true
  | none => tup8 zeros8 false
theorem put_all (p : List Int) (h : p.length = 8) : ip_V6_put ip_V6_zeros 0 p 8 = p := by
  unfold ip_V6_put ip_V6_zeros
  rw [← h, List.take_length, h]
  simp
theorem put_both (a b : List Int) (h : a.length + b.length ≤ 7) : ip_V6_put (ip_V6_put ip_V6_zeros 0 a 8) (8 - b.length) b b.length = a ++ List.replicate (8 - a.length - b.length) 0 ++ b := by
  have hz : ip_V6_zeros = List.replicate 8 0 := rfl
  unfold ip_V6_put
  rw [hz]
  have e1 : a.take 8 = a := List.take_of_length_le (by omega)
  rw [e1, List.take_length]
  simp only [List.take_zero, List.nil_append, Nat.zero_add]
  rw [List.drop_replicate, List.take_append]
  have e2 : a.take (8 - b.length) = a := List.take_of_length_le (by omega)
  rw [e2, List.take_replicate]
  have e3 : (a ++ List.replicate (8 - a.length) 0).drop (8 - b.length + b.length) = ([] : List Int) := by
    apply List.drop_of_length_le
    rw [List.length_append, List.length_replicate]; omega
  rw [e3, List.append_nil, show min (8 - b.length - a.length) (8 - a.length) = 8 - a.length - b.length by omega]
theorem v6_f (s : ByteArray) (hs : s.size ≤ 1000000) : Ev (fun k => ip_V6.f k s) (v6T (bytesOf s)) := by
  unfold ip_V6.f
  have hc := strCut_f s (⟨#[58, 58]⟩ : ByteArray) (by omega) (by decide)
  have hb : bytesOf (⟨#[58, 58]⟩ : ByteArray) = [58, 58] := rfl
  have hz : (⟨#[58, 58]⟩ : ByteArray).size = 2 := rfl
  rw [hb, hz] at hc
  refine Ev.pure_bind hc ?_
  by_cases hneg : sidx [58, 58] (bytesOf s) < 0
  · simp only [if_pos hneg]
    refine Ev.bind' (words_f s _ hs) ?_
    simp only [Bool.not_false]
    unfold v6T v6
    rw [if_pos hneg]
    cases hr : rowS true (bytesOf s) with
    | none => exact Ev.ite_pos rfl (Ev.val rfl)
    | some w =>
      refine Ev.ite_neg (by simp [wordsT]) (Ev.ite_pos (by simp) ?_)
      simp only [wordsT, List.nil_append, Option.bind_some]
      refine Ev.ite (fun h => ?_) (fun h => ?_)
      · rw [if_pos h, put_all w h]
        exact Ev.val rfl
      · rw [if_neg h]
        exact Ev.val rfl
  · simp only [if_neg hneg]
    have hsp := sidx_split (sub := [58, 58]) (l := bytesOf s) (by omega)
    simp only [List.length_cons, List.length_nil, bytes_len] at hsp
    unfold v6T v6
    rw [if_neg hneg]
    generalize (sidx [58, 58] (bytesOf s)).toNat = j at hsp ⊢
    have h1 := words_f (s.extract 0 j) (!true) (by rw [← bytes_len, bytes_extract, List.length_drop, List.length_take, bytes_len]; omega)
    have h2 := words_f (s.extract (j + 2) s.size) true (by rw [← bytes_len, bytes_extract, List.length_drop, List.length_take, bytes_len]; omega)
    rw [bytes_extract, List.drop_zero] at h1
    rw [bytes_from] at h2
    simp only [Bool.not_true] at h1 ⊢
    refine Ev.bind' h1 ?_
    cases ha : rowS false ((bytesOf s).take j) with
    | none => exact Ev.ite_pos rfl (Ev.val rfl)
    | some a =>
      refine Ev.ite_neg (by simp [wordsT]) (Ev.ite_neg (by simp) (Ev.bind' h2 ?_))
      simp only [wordsT, List.nil_append, Option.bind_some]
      have hla : a.length ≤ 1000003 := by
        unfold rowS at ha
        split at ha
        · cases ha; simp
        · have := words_len ha
          have := splitC_len 58 ((bytesOf s).take j)
          rw [List.length_take, bytes_len] at this; omega
      cases hbb : rowS true ((bytesOf s).drop (j + 2)) with
      | none => exact Ev.ite_pos rfl (Ev.val rfl)
      | some b =>
        have hlb : b.length ≤ 1000003 := by
          unfold rowS at hbb
          split at hbb
          · cases hbb; simp
          · have := words_len hbb
            have := splitC_len 58 ((bytesOf s).drop (j + 2))
            rw [List.length_drop, bytes_len] at this; omega
        refine Ev.ite_neg (by simp [wordsT]) ?_
        simp only [wordsT, List.nil_append, Option.bind_some]
        have hw : wrap64 ((a.length : Int) + (b.length : Int)) = (a.length : Int) + (b.length : Int) := w64 (by omega) (by omega)
        simp only [hw]
        refine Ev.ite (fun h => ?_) (fun h => Ev.ite_pos (by omega) ?_)
        · rw [if_neg (by omega)]
          exact Ev.val rfl
        · rw [if_pos (by omega), put_both a b (by omega)]
          exact Ev.val rfl
theorem eight_of {S : List Int} (h : S.length = 8) : ∃ a b c d e f g i, S = [a, b, c, d, e, f, g, i] := by
  match S, h with
  | [a, b, c, d, e, f, g, i], _ => exact ⟨a, b, c, d, e, f, g, i, rfl⟩
def L1 (k : Nat) (x : List Int) (i : Int) (S : List Int) := monikerref19_V6.l1 k x i (S.getD 0 0) (S.getD 1 0) (S.getD 2 0) (S.getD 3 0) (S.getD 4 0) (S.getD 5 0) (S.getD 6 0) (S.getD 7 0)
def L2 (k : Nat) (x y : List Int) (i : Int) (S : List Int) := monikerref19_V6.l2 k x y i (S.getD 0 0) (S.getD 1 0) (S.getD 2 0) (S.getD 3 0) (S.getD 4 0) (S.getD 5 0) (S.getD 6 0) (S.getD 7 0)
def L3 (k : Nat) (y : List Int) (i : Int) (S : List Int) := monikerref19_V6.l3 k y i (S.getD 0 0) (S.getD 1 0) (S.getD 2 0) (S.getD 3 0) (S.getD 4 0) (S.getD 5 0) (S.getD 6 0) (S.getD 7 0)
theorem below8 {i : Nat} (h : i < 8) : i = 0 ∨ i = 1 ∨ i = 2 ∨ i = 3 ∨ i = 4 ∨ i = 5 ∨ i = 6 ∨ i = 7 := by omega
theorem rd_getD (x : List Int) (i : Nat) : rd x (i : Int) = x.getD i 0 := by unfold rd; rw [Int.toNat_natCast]
theorem L1_step (x : List Int) (i : Nat) (hi : i < 8) (hx : i < x.length) (S : List Int) (hS : S.length = 8) (r : Int × Int × Int × Int × Int × Int × Int × Int × Bool)
    (h : Ev (fun k => L1 k x ((i + 1 : Nat) : Int) (S.set i (x.getD i 0))) r) : Ev (fun k => L1 k x (i : Int) S) r := by
  obtain ⟨a, b, c, d, e, f, g, j, rfl⟩ := eight_of hS
  refine Ev.step (fun k => by rw [L1, monikerref19_V6.l1]) ?_
  rw [w64 (by omega) (by omega), rd_getD]
  refine Ev.ite_pos (by omega) (Ev.ite_pos (by omega) (Ev.ite_pos (by omega) ?_))
  rcases below8 hi with rfl | rfl | rfl | rfl | rfl | rfl | rfl | rfl
  · exact Ev.ite_pos (by omega) h
  · exact Ev.ite_neg (by omega) (Ev.ite_pos (by omega) h)
  · exact Ev.ite_neg (by omega) (Ev.ite_neg (by omega) (Ev.ite_pos (by omega) h))
  · exact Ev.ite_neg (by omega) (Ev.ite_neg (by omega) (Ev.ite_neg (by omega) (Ev.ite_pos (by omega) h)))
  · exact Ev.ite_neg (by omega) (Ev.ite_neg (by omega) (Ev.ite_neg (by omega) (Ev.ite_neg (by omega) (Ev.ite_pos (by omega) h))))
  · exact Ev.ite_neg (by omega) (Ev.ite_neg (by omega) (Ev.ite_neg (by omega) (Ev.ite_neg (by omega) (Ev.ite_neg (by omega) (Ev.ite_pos (by omega) h)))))
  · exact Ev.ite_neg (by omega) (Ev.ite_neg (by omega) (Ev.ite_neg (by omega) (Ev.ite_neg (by omega) (Ev.ite_neg (by omega) (Ev.ite_neg (by omega) (Ev.ite_pos (by omega) h))))))
  · exact Ev.ite_neg (by omega) (Ev.ite_neg (by omega) (Ev.ite_neg (by omega) (Ev.ite_neg (by omega) (Ev.ite_neg (by omega) (Ev.ite_neg (by omega) (Ev.ite_neg (by omega) (Ev.ite_pos (by omega) h)))))))
theorem L2_step (x y : List Int) (i : Nat) (hi : i < 8) (hx : i < x.length) (hl : x.length ≤ 8) (S : List Int) (hS : S.length = 8) (r : Int × Int × Int × Int × Int × Int × Int × Int × Bool)
    (h : Ev (fun k => L2 k x y ((i + 1 : Nat) : Int) (S.set i (x.getD i 0))) r) : Ev (fun k => L2 k x y (i : Int) S) r := by
  obtain ⟨a, b, c, d, e, f, g, j, rfl⟩ := eight_of hS
  refine Ev.step (fun k => by rw [L2, monikerref19_V6.l2]) ?_
  rw [w64 (by omega) (by omega), rd_getD]
  refine Ev.ite_pos (by omega) (Ev.ite_pos (by omega) ?_)
  rcases below8 hi with rfl | rfl | rfl | rfl | rfl | rfl | rfl | rfl
  · exact Ev.ite_pos (by omega) h
  · exact Ev.ite_neg (by omega) (Ev.ite_pos (by omega) h)
  · exact Ev.ite_neg (by omega) (Ev.ite_neg (by omega) (Ev.ite_pos (by omega) h))
  · exact Ev.ite_neg (by omega) (Ev.ite_neg (by omega) (Ev.ite_neg (by omega) (Ev.ite_pos (by omega) h)))
  · exact Ev.ite_neg (by omega) (Ev.ite_neg (by omega) (Ev.ite_neg (by omega) (Ev.ite_neg (by omega) (Ev.ite_pos (by omega) h))))
  · exact Ev.ite_neg (by omega) (Ev.ite_neg (by omega) (Ev.ite_neg (by omega) (Ev.ite_neg (by omega) (Ev.ite_neg (by omega) (Ev.ite_pos (by omega) h)))))
  · exact Ev.ite_neg (by omega) (Ev.ite_neg (by omega) (Ev.ite_neg (by omega) (Ev.ite_neg (by omega) (Ev.ite_neg (by omega) (Ev.ite_neg (by omega) (Ev.ite_pos (by omega) h))))))
  · exact Ev.ite_neg (by omega) (Ev.ite_neg (by omega) (Ev.ite_neg (by omega) (Ev.ite_neg (by omega) (Ev.ite_neg (by omega) (Ev.ite_neg (by omega) (Ev.ite_neg (by omega) (Ev.ite_pos (by omega) h)))))))
theorem L3_step (y : List Int) (i q : Nat) (hq : q < 8) (hx : i < y.length) (hy : y.length ≤ 8) (hl : q + y.length = 8 + i) (S : List Int) (hS : S.length = 8) (r : Int × Int × Int × Int × Int × Int × Int × Int × Bool)
    (h : Ev (fun k => L3 k y ((i + 1 : Nat) : Int) (S.set q (y.getD i 0))) r) : Ev (fun k => L3 k y (i : Int) S) r := by
  obtain ⟨a, b, c, d, e, f, g, j, rfl⟩ := eight_of hS
  refine Ev.step (fun k => by rw [L3, monikerref19_V6.l3]) ?_
  have hw : wrap64 (wrap64 (8 - (y.length : Int)) + (i : Int)) = (q : Int) := by
    rw [w64 (x := 8 - (y.length : Int)) (by omega) (by omega), w64 (by omega) (by omega)]; omega
  rw [w64 (x := (i : Int) + 1) (by omega) (by omega), rd_getD, hw]
  refine Ev.ite_pos (by omega) (Ev.ite_pos (by omega) (Ev.ite_pos (by omega) ?_))
  rcases below8 hq with rfl | rfl | rfl | rfl | rfl | rfl | rfl | rfl
  · exact Ev.ite_pos (by omega) h
  · exact Ev.ite_neg (by omega) (Ev.ite_pos (by omega) h)
  · exact Ev.ite_neg (by omega) (Ev.ite_neg (by omega) (Ev.ite_pos (by omega) h))
  · exact Ev.ite_neg (by omega) (Ev.ite_neg (by omega) (Ev.ite_neg (by omega) (Ev.ite_pos (by omega) h)))
  · exact Ev.ite_neg (by omega) (Ev.ite_neg (by omega) (Ev.ite_neg (by omega) (Ev.ite_neg (by omega) (Ev.ite_pos (by omega) h))))
  · exact Ev.ite_neg (by omega) (Ev.ite_neg (by omega) (Ev.ite_neg (by omega) (Ev.ite_neg (by omega) (Ev.ite_neg (by omega) (Ev.ite_pos (by omega) h)))))
  · exact Ev.ite_neg (by omega) (Ev.ite_neg (by omega) (Ev.ite_neg (by omega) (Ev.ite_neg (by omega) (Ev.ite_neg (by omega) (Ev.ite_neg (by omega) (Ev.ite_pos (by omega) h))))))
  · exact Ev.ite_neg (by omega) (Ev.ite_neg (by omega) (Ev.ite_neg (by omega) (Ev.ite_neg (by omega) (Ev.ite_neg (by omega) (Ev.ite_neg (by omega) (Ev.ite_neg (by omega) (Ev.ite_pos (by omega) h)))))))
def lay (S : List Int) (q : Nat) (x : List Int) : List Int := S.take q ++ x ++ S.drop (q + x.length)
theorem lay_nil (S : List Int) (q : Nat) : lay S q [] = S := by simp [lay]
theorem lay_cons (S : List Int) (q : Nat) (v : Int) (x : List Int) (hq : q < S.length) : lay (S.set q v) (q + 1) x = lay S q (v :: x) := by
  unfold lay
  have e1 : (S.set q v).take (q + 1) = S.take q ++ [v] := by
    rw [List.take_succ_eq_append_getElem (by rw [List.length_set]; exact hq), List.take_set_of_le (Nat.le_refl _)]
    simp
  have e2 : (S.set q v).drop (q + 1 + x.length) = S.drop (q + (v :: x).length) := by
    rw [List.drop_set_of_lt (by omega), List.length_cons]
    congr 1; omega
  rw [e1, e2]
  simp
theorem L1_run (x : List Int) (hx : x.length = 8) : ∀ d i : Nat, i + d = 8 → ∀ S : List Int, S.length = 8 → Ev (fun k => L1 k x (i : Int) S) (tup8 (lay S i (x.drop i)) true) := by
  intro d
  induction d with
  | zero =>
    intro i hi S hS
    rw [List.drop_of_length_le (by omega), lay_nil]
    refine Ev.step (fun k => by rw [L1, monikerref19_V6.l1]) ?_
    exact Ev.ite_neg (by omega) (Ev.val rfl)
  | succ d ih =>
    intro i hi S hS
    refine L1_step x i (by omega) (by omega) S hS _ ?_
    rw [getD_drop (L := x) (i := i) (by omega) 0, ← lay_cons S i _ _ (by omega)]
    exact ih (i + 1) (by omega) _ (by rw [List.length_set]; exact hS)
theorem L3_run (y : List Int) (hy : y.length ≤ 8) : ∀ d i : Nat, i + d = y.length → ∀ S : List Int, S.length = 8 → Ev (fun k => L3 k y (i : Int) S) (tup8 (lay S (8 - y.length + i) (y.drop i)) true) := by
  intro d
  induction d with
  | zero =>
    intro i hi S hS
    rw [List.drop_of_length_le (by omega), lay_nil]
    refine Ev.step (fun k => by rw [L3, monikerref19_V6.l3]) ?_
    exact Ev.ite_neg (by omega) (Ev.val rfl)
  | succ d ih =>
    intro i hi S hS
    refine L3_step y i (8 - y.length + i) (by omega) (by omega) hy (by omega) S hS _ ?_
    rw [getD_drop (L := y) (i := i) (by omega) 0, ← lay_cons S _ _ _ (by omega)]
    exact ih (i + 1) (by omega) _ (by rw [List.length_set]; exact hS)
theorem L2_run (x y : List Int) (hx : x.length ≤ 8) (r : Int × Int × Int × Int × Int × Int × Int × Int × Bool) : ∀ d i : Nat, i + d = x.length → ∀ S : List Int, S.length = 8 →
    Ev (fun k => L3 k y 0 (lay S i (x.drop i))) r → Ev (fun k => L2 k x y (i : Int) S) r := by
  intro d
  induction d with
  | zero =>
    intro i hi S hS h
    rw [List.drop_of_length_le (by omega), lay_nil] at h
    refine Ev.step (fun k => by rw [L2, monikerref19_V6.l2]) ?_
    exact Ev.ite_neg (by omega) h
  | succ d ih =>
    intro i hi S hS h
    refine L2_step x y i (by omega) (by omega) hx S hS _ ?_
    rw [getD_drop (L := x) (i := i) (by omega) 0, ← lay_cons S i _ _ (by omega)] at h
    exact ih (i + 1) (by omega) _ (by rw [List.length_set]; exact hS) h
theorem lay_both (a b : List Int) (h : a.length + b.length ≤ 7) : lay (lay zeros8 0 a) (8 - b.length) b = a ++ List.replicate (8 - a.length - b.length) 0 ++ b := by
  have hz : zeros8 = List.replicate 8 0 := rfl
  unfold lay
  rw [hz]
  simp only [List.take_zero, List.nil_append, Nat.zero_add]
  rw [List.drop_replicate, List.take_append]
  have e2 : a.take (8 - b.length) = a := List.take_of_length_le (by omega)
  rw [e2, List.take_replicate]
  have e3 : (a ++ List.replicate (8 - a.length) 0).drop (8 - b.length + b.length) = ([] : List Int) := by
    apply List.drop_of_length_le
    rw [List.length_append, List.length_replicate]; omega
  rw [e3, List.append_nil, show min (8 - b.length - a.length) (8 - a.length) = 8 - a.length - b.length by omega]
theorem lay_zeros_len (a : List Int) (h : a.length ≤ 8) : (lay zeros8 0 a).length = 8 := by
  unfold lay zeros8
  simp; omega
theorem rowS_len {fin : Bool} {l w : List Int} (h : rowS fin l = some w) (hl : l.length ≤ 1000000) : w.length ≤ 1000003 := by
  unfold rowS at h
  split at h
  · cases h; simp
  · have := words_len h
    have := splitC_len 58 l
    omega
theorem rowS_ahead (l : List Int) : (l.contains 46 = false → rowS true l = rowS false l) ∧ (l.contains 46 = true → rowS false l = none) := by
  constructor
  · intro h
    unfold rowS
    rw [words_nodot (fun p hp hm => by
      have := (splitC_mem p hp).2.1 46 hm
      rw [← List.contains_iff_mem, h] at this
      cases this) true]
  · intro h
    unfold rowS
    rw [if_neg (by rintro rfl; cases h)]
    cases hw : words false (splitC 58 l) with
    | none => rfl
    | some w =>
      exfalso
      have key := words_hex hw
      have hm := List.contains_iff_mem.1 h
      have inpart : ∀ l : List Int, (46 : Int) ∈ l → ∃ p ∈ splitC 58 l, (46 : Int) ∈ p := by
        intro l
        induction l with
        | nil => intro h; cases h
        | cons b t ih =>
          intro h
          rw [splitC_cons]
          by_cases hb : b = 58
          · rw [if_pos hb]
            rcases List.mem_cons.1 h with h | h
            · rw [hb] at h; cases h
            · obtain ⟨p, hp, h2⟩ := ih h
              exact ⟨p, List.mem_cons_of_mem _ hp, h2⟩
          · rw [if_neg hb]
            rcases List.mem_cons.1 h with h | h
            · exact ⟨_, List.mem_cons_self .., by rw [h]; exact List.mem_cons_self ..⟩
            · obtain ⟨p, hp, h2⟩ := ih h
              rw [splitC_head 58 t] at hp
              rcases List.mem_cons.1 hp with rfl | hp
              · exact ⟨_, List.mem_cons_self .., List.mem_cons_of_mem _ h2⟩
              · exact ⟨p, List.mem_cons_of_mem _ hp, h2⟩
      obtain ⟨p, hp, h2⟩ := inpart l hm
      exact (key p hp).1 h2
def V0 (k : Nat) (s : ByteArray) (at_ i : Int) := monikerref19_V6.l0 k s at_ i 0 0 0 0 0 0 0 0
theorem refV6_none (s : ByteArray) (hs : s.size ≤ 1000000) (hneg : sidx [58, 58] (bytesOf s) < 0) (i : Nat) (hi : s.size ≤ i + 1) (hi2 : i ≤ s.size) : Ev (fun k => V0 k s (-1) (i : Int)) (v6T (bytesOf s)) := by
  refine Ev.step (fun k => by rw [V0, monikerref19_V6.l0]) ?_
  rw [w64 (x := (i : Int) + 1) (by omega) (by omega)]
  refine Ev.ite_neg (by omega) (Ev.ite_pos (by omega) (Ev.bind' (refRow_f s hs) ?_))
  have bad : ∀ x : List Int, Ev (fun k => monikerref19_V6.j1 k x true 0 0 0 0 0 0 0 0) (tup8 zeros8 false) := by
    intro x
    refine Ev.step (fun k => by rw [monikerref19_V6.j1]) ?_
    exact Ev.ite_pos rfl (Ev.val rfl)
  unfold v6T v6
  rw [if_pos hneg]
  cases hr : rowS true (bytesOf s) with
  | none => exact Ev.ite_neg (by simp [wordsT]) (bad _)
  | some w =>
    refine Ev.ite_pos (by simp [wordsT]) ?_
    simp only [wordsT, List.nil_append, Option.bind_some]
    by_cases h8 : w.length = 8
    · have e : (((w.length : Nat) : Int) != 8) = false := by simp; omega
      rw [e, if_pos h8]
      refine Ev.step (fun k => by rw [monikerref19_V6.j1]) ?_
      refine Ev.ite_neg (by simp) ?_
      have := L1_run w h8 8 0 (by omega) zeros8 rfl
      rw [List.drop_zero] at this
      have e2 : lay zeros8 0 w = w := by
        unfold lay
        rw [List.drop_of_length_le (by rw [h8]; decide)]
        simp
      rw [e2] at this
      exact this
    · have e : (((w.length : Nat) : Int) != 8) = true := by simp; omega
      rw [e, if_neg h8]
      exact bad _
theorem refV6_some (s : ByteArray) (hs : s.size ≤ 1000000) (j : Nat) (hj : sidx [58, 58] (bytesOf s) = (j : Int)) : ∀ d i : Nat, i + d = s.size → Ev (fun k => V0 k s (j : Int) (i : Int)) (v6T (bytesOf s)) := by
  have hsp := sidx_split (sub := [58, 58]) (l := bytesOf s) (by omega)
  rw [hj, Int.toNat_natCast] at hsp
  simp only [List.length_cons, List.length_nil, bytes_len] at hsp
  have fin : ∀ i : Nat, s.size ≤ i + 1 → i ≤ s.size → Ev (fun k => V0 k s (j : Int) (i : Int)) (v6T (bytesOf s)) := by
    intro i hi hi2
    refine Ev.step (fun k => by rw [V0, monikerref19_V6.l0]) ?_
    rw [w64 (x := (i : Int) + 1) (by omega) (by omega), w64 (x := (j : Int) + 2) (by omega) (by omega), Int.toNat_natCast]
    refine Ev.ite_neg (by omega) (Ev.ite_neg (by omega) (Ev.ite_pos (by omega) (Ev.ite_pos (by omega) ?_)))
    have h1 := refRow_f (s.extract 0 j) (by rw [← bytes_len, bytes_extract, List.length_drop, List.length_take, bytes_len]; omega)
    have h2 := refRow_f (s.extract (j + 2) s.size) (by rw [← bytes_len, bytes_extract, List.length_drop, List.length_take, bytes_len]; omega)
    rw [bytes_extract, List.drop_zero] at h1
    rw [bytes_from] at h2
    refine Ev.bind' h1 (Ev.ite_pos (by omega) (Ev.ite_pos (by omega) ?_))
    have e2 : ((j : Int) + 2).toNat = j + 2 := by omega
    rw [e2]
    refine Ev.bind' h2 ?_
    have bad : ∀ x y : List Int, Ev (fun k => monikerref19_V6.j3 k s (j : Int) x y true 0 0 0 0 0 0 0 0) (tup8 zeros8 false) := by
      intro x y
      refine Ev.step (fun k => by rw [monikerref19_V6.j3]) ?_
      exact Ev.ite_pos rfl (Ev.val rfl)
    have hal := rowS_ahead ((bytesOf s).take j)
    have bad4 : ∀ x y : List Int, Ev (fun k => monikerref19_V6.j4 k x y true 0 0 0 0 0 0 0 0) (tup8 zeros8 false) := by
      intro x y
      refine Ev.step (fun k => by rw [monikerref19_V6.j4]) ?_
      exact Ev.ite_pos rfl (Ev.val rfl)
    unfold v6T v6
    rw [if_neg (by omega), hj, Int.toNat_natCast]
    cases ha : rowS true ((bytesOf s).take j) with
    | none =>
      have hn : rowS false ((bytesOf s).take j) = none := by
        cases hc : ((bytesOf s).take j).contains 46
        · rw [← hal.1 hc]; exact ha
        · exact hal.2 hc
      rw [hn]
      exact Ev.ite_neg (by simp [wordsT]) (bad _ _)
    | some a =>
      refine Ev.ite_pos (by simp [wordsT]) ?_
      simp only [wordsT, List.nil_append]
      have hla := rowS_len ha (by rw [List.length_take, bytes_len]; omega)
      cases hbb : rowS true ((bytesOf s).drop (j + 2)) with
      | none =>
        refine Ev.ite_neg (by simp) ?_
        cases rowS false ((bytesOf s).take j) with
        | none => exact bad _ _
        | some x => exact bad _ _
      | some b =>
        have hlb := rowS_len hbb (by rw [List.length_drop, bytes_len]; omega)
        refine Ev.ite_pos (by simp [wordsT]) ?_
        simp only [wordsT, List.nil_append]
        have hw : wrap64 ((a.length : Int) + (b.length : Int)) = (a.length : Int) + (b.length : Int) := w64 (by omega) (by omega)
        simp only [hw]
        by_cases hlen : a.length + b.length ≤ 7
        · rw [decide_eq_false (by omega)]
          refine Ev.step (fun k => by rw [monikerref19_V6.j3]) ?_
          refine Ev.ite_neg (by simp) ?_
          have go : ∀ t : Bool, t = ((bytesOf s).take j).contains 46 → Ev (fun k => monikerref19_V6.j4 k a b t 0 0 0 0 0 0 0 0) (match ((rowS false ((bytesOf s).take j)).bind fun a => (some b).bind fun b => if a.length + b.length ≤ 7 then some (a ++ List.replicate (8 - a.length - b.length) 0 ++ b) else none) with
              | some w => tup8 w true
              | none => tup8 zeros8 false) := by
            intro t ht
            cases hc : ((bytesOf s).take j).contains 46
            · rw [hc] at ht
              subst ht
              rw [← hal.1 hc, ha]
              simp only [Option.bind_some]
              rw [if_pos hlen]
              refine Ev.step (fun k => by rw [monikerref19_V6.j4]) ?_
              refine Ev.ite_neg (by simp) ?_
              refine L2_run a b (by omega) _ a.length 0 (by omega) zeros8 rfl ?_
              rw [List.drop_zero]
              have := L3_run b (by omega) b.length 0 (by omega) (lay zeros8 0 a) (lay_zeros_len a (by omega))
              rw [List.drop_zero, Nat.add_zero, lay_both a b hlen] at this
              exact this
            · rw [hc] at ht
              subst ht
              rw [hal.2 hc]
              exact bad4 _ _
          refine Ev.ite (fun hj0 => Ev.ite_pos (by omega) (Ev.ite_pos (by omega) ?_)) (fun hj0 => go false ?_)
          · have hin := in_f 46 (s.extract 0 j) (by rw [← bytes_len, bytes_extract, List.length_drop, List.length_take, bytes_len]; omega)
            rw [bytes_extract, List.drop_zero] at hin
            rw [Int.toNat_natCast]
            exact Ev.bind' hin (go _ rfl)
          · have : j = 0 := by omega
            subst this
            simp
        · rw [decide_eq_true (by omega)]
          cases hc : ((bytesOf s).take j).contains 46
          · rw [← hal.1 hc, ha]
            simp only [Option.bind_some]
            rw [if_neg hlen]
            exact bad _ _
          · rw [hal.2 hc]
            exact bad _ _
  intro d
  induction d with
  | zero => intro i hi; exact fin i (by omega) (by omega)
  | succ d ih =>
    intro i hi
    by_cases he : s.size ≤ i + 1
    · exact fin i he (by omega)
    · refine Ev.step (fun k => by rw [V0, monikerref19_V6.l0]) ?_
      rw [w64 (x := (i : Int) + 1) (by omega) (by omega)]
      refine Ev.ite_pos (by omega) (Ev.ite_neg (by omega) ?_)
      exact ih (i + 1) (by omega)
theorem refV6_look (s : ByteArray) (hs : s.size ≤ 1000000) : ∀ d i : Nat, i + d = s.size → (sidx [58, 58] (bytesOf s) = if sidx [58, 58] ((bytesOf s).drop i) = -1 then -1 else (i : Int) + sidx [58, 58] ((bytesOf s).drop i)) →
    Ev (fun k => V0 k s (-1) (i : Int)) (v6T (bytesOf s)) := by
  intro d
  induction d with
  | zero =>
    intro i hi h
    rw [List.drop_of_length_le (by rw [bytes_len]; omega)] at h
    have hz : sidx [58, 58] [] = -1 := rfl
    rw [hz, if_pos rfl] at h
    exact refV6_none s hs (by omega) i (by omega) (by omega)
  | succ d ih =>
    intro i hi h
    by_cases he : s.size ≤ i + 1
    · refine refV6_none s hs ?_ i he (by omega)
      rcases at_or_end s i (by omega) with ⟨h2, _⟩ | ⟨_, e, _⟩
      · omega
      · rw [e, List.drop_of_length_le (by rw [bytes_len]; omega)] at h
        rw [h]
        have : sidx [58, 58] [bt s (i : Int)] = -1 := by
          have hz : sidx [58, 58] [] = -1 := rfl
          rw [sidx_cons, if_neg (by simp [List.isPrefixOf]), hz, if_pos rfl]
        rw [if_pos this]
        decide
    · rcases at_or_end s i (by omega) with ⟨h2, _⟩ | ⟨_, e, b0, b1⟩
      · omega
      rcases at_or_end s (i + 1) (by omega) with ⟨h2, _⟩ | ⟨_, e2, c0, c1⟩
      · omega
      refine Ev.step (fun k => by rw [V0, monikerref19_V6.l0]) ?_
      rw [w64 (x := (i : Int) + 1) (by omega) (by omega), w64 (x := (i : Int) + 2) (by omega) (by omega)]
      refine Ev.ite_pos (by omega) (Ev.ite_pos (by omega) (Ev.ite_pos (by omega) (Ev.ite_pos (by omega) (Ev.ite_pos (by omega) ?_))))
      have e3 : ((i : Int) + 2).toNat = i + 2 := by omega
      rw [e3, Int.toNat_natCast]
      have hcond : (s.extract i (i + 2)).toList = ([58, 58] : List UInt8) ↔ (bytesOf s).drop i = 58 :: 58 :: (bytesOf s).drop (i + 2) := by
        have h58 : ([58, 58] : List UInt8) = (⟨#[58, 58]⟩ : ByteArray).toList := by rw [ByteArray.toList_eq]
        have hb : bytesOf (⟨#[58, 58]⟩ : ByteArray) = [58, 58] := rfl
        rw [h58, toList_iff, bytes_extract, hb, List.drop_take, show i + 2 - i = 2 by omega, e, e2]
        simp
      have hpre : ([58, 58] : List Int).isPrefixOf ((bytesOf s).drop i) = true ↔ (bytesOf s).drop i = 58 :: 58 :: (bytesOf s).drop (i + 2) := by
        rw [e, e2]
        simp [List.isPrefixOf]
        constructor
        · rintro ⟨h1, h2⟩; exact ⟨h1.symm, h2.symm⟩
        · rintro ⟨h1, h2⟩; exact ⟨h1.symm, h2.symm⟩
      have hd : sidx [58, 58] ((bytesOf s).drop i) = if ([58, 58] : List Int).isPrefixOf ((bytesOf s).drop i) then 0 else if sidx [58, 58] ((bytesOf s).drop (i + 1)) = -1 then -1 else sidx [58, 58] ((bytesOf s).drop (i + 1)) + 1 := by
        rw [e, sidx_cons]
      refine Ev.ite (fun hp => ?_) (fun hp => ?_)
      · have h0 : sidx [58, 58] ((bytesOf s).drop i) = 0 := by rw [hd, if_pos (hpre.2 (hcond.1 hp))]
        rw [h0, if_neg (by omega)] at h
        exact refV6_some s hs i (by omega) d (i + 1) (by omega)
      · rw [if_neg (fun x => hp (hcond.2 (hpre.1 x)))] at hd
        refine ih (i + 1) (by omega) ?_
        have hg := sidx_ge [58, 58] ((bytesOf s).drop (i + 1))
        rw [h, hd]
        generalize sidx [58, 58] ((bytesOf s).drop (i + 1)) = z at hg ⊢
        by_cases hz : z = -1
        · rw [if_pos hz, if_pos hz, if_pos rfl]
        · rw [if_neg hz, if_neg hz, if_neg (by omega)]
          omega
theorem refV6_f (s : ByteArray) (hs : s.size ≤ 1000000) : Ev (fun k => monikerref19_V6.f k s) (v6T (bytesOf s)) := by
  have hg := sidx_ge [58, 58] (bytesOf s)
  refine refV6_look s hs s.size 0 (by omega) ?_
  rw [List.drop_zero]
  split <;> omega
end Go.Proofs.YticohlbfolnmpaaDoor.Y
namespace Go.Proofs.YticohlbfolnmpaaDoor.Y
open Go.RowKit Go.Proofs.YticohlbfolnmpaaDoor.X Go.Proofs.YticohlbfolnmpaaDoor.M Go.Proofs.YticohlbfolnmpaaDoorW.PrintWords Go.Proofs.YticohlbfolnmpaaDoorW.PrintLast Go.Proofs.YticohlbfolnmpaaDoorW.PrintMore
set_option linter.unusedVariables false
theorem plainAt_user {b : Int} (h0 : 0 ≤ b) (h1 : b ≤ 255) : plainAt 1 b = (plainc b || b == 58) :=
  byte_all (p := fun b => plainAt 1 b = (plainc b || b == 58)) (by decide +kernel) h0 h1
theorem fut_l0 (s : ByteArray) (hs : s.size ≤ 140737488351232) : ∀ d i : Nat, i + d = s.size → Ev (fun k => ip_Future.l0 k s (i : Int)) (((bytesOf s).drop i).all fun b => plainAt 1 b) := by
  intro d
  induction d with
  | zero =>
    intro i hi
    rw [List.drop_of_length_le (by rw [bytes_len]; omega)]
    refine Ev.step (fun k => by rw [ip_Future.l0]) ?_
    exact Ev.ite_neg (by omega) (Ev.now _)
  | succ d ih =>
    intro i hi
    rcases at_or_end s i (by omega) with ⟨h2, _⟩ | ⟨_, e, b0, b1⟩
    · omega
    rw [e, List.all_cons]
    refine Ev.step (fun k => by rw [ip_Future.l0]) ?_
    refine Ev.ite_pos (by omega) (Ev.ite_pos (by omega) (Ev.bind' (plain_f b0 b1) ?_))
    cases hp : plainAt 1 (bt s (i : Int))
    · exact Ev.ite_neg (by simp) (Ev.val (by simp))
    · refine Ev.ite_pos rfl ?_
      rw [w64 (by omega) (by omega)]
      simp only [Bool.true_and]
      exact ih (i + 1) (by omega)
theorem spanp_congr {p q : Int → Bool} {l : List Int} (h : ∀ b ∈ l, p b = q b) : spanp p l = spanp q l := by
  induction l with
  | nil => rfl
  | cons b t ih =>
    unfold spanp
    rw [h b (List.mem_cons_self ..), ih (fun c hc => h c (List.mem_cons_of_mem _ hc))]
theorem or32 {b : Int} (h0 : 0 ≤ b) (h1 : b ≤ 255) : ((Go.bits .or .u8 b 32) != 118) = !(b == 118 || b == 86) :=
  byte_all (p := fun b => ((Go.bits .or .u8 b 32) != 118) = !(b == 118 || b == 86)) (by decide +kernel) h0 h1
theorem fut_cons (v : Int) (t : List Int) : fut (v :: t) = ((v == 118 || v == 86) && decide (0 < spanp hexd t) && decide (2 ≤ (t.drop (spanp hexd t)).length) && ((t.drop (spanp hexd t)).headD 0 == 46) && ((t.drop (spanp hexd t)).tail.all fun b => plainAt 1 b)) := rfl
theorem hex_span (s : ByteArray) (hs : s.size ≤ 140737488351232) : Ev (fun k => octet_Span.f k s 32) (spanp hexd (bytesOf s) : Int) := by
  have := octSpan_f s 32 hs
  rwa [spanp_congr (q := hexd) (fun b hb => isc_hex (bytes_range hb).1 (bytes_range hb).2)] at this
theorem future_f (s : ByteArray) (hs : s.size ≤ 1000000) : Ev (fun k => ip_Future.f k s) (fut (bytesOf s)) := by
  unfold ip_Future.f
  have bad : ∀ r, r = false → Ev (fun k => ip_Future.j0 k s true) r := by
    intro r e
    subst e
    refine Ev.step (fun k => by rw [ip_Future.j0]) ?_
    exact Ev.ite_pos rfl (Ev.now _)
  refine Ev.ite (fun h => bad _ ?_) (fun h => ?_)
  · rw [(empty_iff s).1 h]; rfl
  · rcases at_begin s with ⟨_, e⟩ | ⟨hp, e, b0, b1⟩
    · exact absurd ((empty_iff s).2 e) h
    refine Ev.ite_pos (by omega) ?_
    have hf : fut (bytesOf s) = fut (bt s 0 :: (bytesOf s).drop 1) := by rw [← e]
    rw [hf, fut_cons, or32 b0 b1]
    cases hv : (bt s 0 == 118 || bt s 0 == 86)
    · exact bad _ (by simp)
    · refine Ev.step (fun k => by rw [ip_Future.j0]) ?_
      refine Ev.ite_neg (by simp) (Ev.ite_pos (by omega) ?_)
      have hsp := hex_span (s.extract 1 s.size) (by rw [← bytes_len, bytes_from, List.length_drop, bytes_len]; omega)
      rw [bytes_from] at hsp
      refine Ev.bind' hsp ?_
      have hle := spanp_le hexd ((bytesOf s).drop 1)
      rw [List.length_drop, bytes_len] at hle
      generalize spanp hexd ((bytesOf s).drop 1) = n at hle ⊢
      have hw : wrap64 (1 + (n : Int)) = ((n + 1 : Nat) : Int) := by rw [w64 (by omega) (by omega)]; omega
      simp only [hw]
      refine Ev.ite_pos (by omega) (Ev.ite_pos (by omega) ?_)
      rw [Int.toNat_natCast, List.drop_drop]
      have hsz : (s.extract (n + 1) s.size).size = s.size - (n + 1) := by rw [← bytes_len, bytes_from, List.length_drop, bytes_len]
      have bad1 : ∀ r, r = false → Ev (fun k => ip_Future.j1 k (s.extract (n + 1) s.size) true) r := by
        intro r e
        subst e
        refine Ev.step (fun k => by rw [ip_Future.j1]) ?_
        exact Ev.ite_pos rfl (Ev.now _)
      rw [show 1 + n = n + 1 by omega]
      have hld : ((bytesOf s).drop (n + 1)).length = s.size - (n + 1) := by rw [List.length_drop, bytes_len]
      refine Ev.ite (fun h0 => bad1 _ ?_) (fun h0 => Ev.ite (fun h2 => bad1 _ ?_) (fun h2 => Ev.ite_pos (by omega) ?_))
      · have : n = 0 := by omega
        simp [this]
      · rw [hsz] at h2
        rw [hld, decide_eq_false (p := 2 ≤ s.size - (n + 1)) (by omega)]
        simp
      · rcases at_begin (s.extract (n + 1) s.size) with ⟨h3, _⟩ | ⟨_, e3, _⟩
        · omega
        rw [bytes_from] at e3
        rw [hsz] at h2
        rw [hld, decide_eq_true (p := 0 < n) (by omega), decide_eq_true (p := 2 ≤ s.size - (n + 1)) (by omega)]
        have hh : ((bytesOf s).drop (n + 1)).headD 0 = bt (s.extract (n + 1) s.size) 0 := by rw [e3]; rfl
        have ht : ((bytesOf s).drop (n + 1)).tail = ((bytesOf s).drop (n + 1)).drop 1 := by rw [List.drop_one]
        rw [hh, ht]
        cases h46 : (bt (s.extract (n + 1) s.size) 0 == 46)
        · have : (bt (s.extract (n + 1) s.size) 0 != 46) = true := by rw [bne, h46]; rfl
          rw [this]
          exact bad1 _ (by simp)
        · have : (bt (s.extract (n + 1) s.size) 0 != 46) = false := by rw [bne, h46]; rfl
          rw [this]
          refine Ev.step (fun k => by rw [ip_Future.j1]) ?_
          refine Ev.ite_neg (by simp) ?_
          have := fut_l0 (s.extract (n + 1) s.size) (by omega) ((s.extract (n + 1) s.size).size - 1) 1 (by omega)
          rw [bytes_from] at this
          simpa using this
theorem refFut_l1 (s : ByteArray) (hs : s.size ≤ 140737488351232) : ∀ d i : Nat, i + d = s.size → Ev (fun k => monikerref19_Future.l1 k s (i : Int)) (((bytesOf s).drop i).all fun b => plainAt 1 b) := by
  intro d
  induction d with
  | zero =>
    intro i hi
    rw [List.drop_of_length_le (by rw [bytes_len]; omega)]
    refine Ev.step (fun k => by rw [monikerref19_Future.l1]) ?_
    exact Ev.ite_neg (by omega) (Ev.now _)
  | succ d ih =>
    intro i hi
    rcases at_or_end s i (by omega) with ⟨h2, _⟩ | ⟨_, e, b0, b1⟩
    · omega
    rw [e, List.all_cons, plainAt_user b0 b1]
    refine Ev.step (fun k => by rw [monikerref19_Future.l1]) ?_
    refine Ev.ite_pos (by omega) (Ev.ite_pos (by omega) (Ev.bind' (refClass_f b0 b1) ?_))
    rw [w64 (by omega) (by omega)]
    have nx := ih (i + 1) (by omega)
    refine Ev.ite (fun h => Ev.ite (fun h58 => ?_) (fun h58 => Ev.val ?_)) (fun h => ?_)
    · rw [h58]
      simp only [beq_self_eq_true, Bool.or_true, Bool.true_and]
      exact nx
    · rw [isc_zero, isc_plain b0 b1] at h
      have : (bt s (i : Int) == 58) = false := by simpa using h58
      rw [h, this]; rfl
    · rw [isc_zero, isc_plain b0 b1, Bool.not_eq_false] at h
      rw [h]
      simp only [Bool.true_or, Bool.true_and]
      exact nx
theorem refFut_j2 (s : ByteArray) (hs : s.size ≤ 1000000) (h4 : 4 ≤ s.size) (i : Nat) (h1 : 1 ≤ i) (hi : i ≤ s.size) : Ev (fun k => monikerref19_Future.j2 k s (i : Int))
    (decide (1 < i) && decide (2 ≤ ((bytesOf s).drop i).length) && (((bytesOf s).drop i).headD 0 == 46) && (((bytesOf s).drop i).tail.all fun b => plainAt 1 b)) := by
  have bad : ∀ r, r = false → Ev (fun k => monikerref19_Future.j3 k s (i : Int) true) r := by
    intro r e
    subst e
    refine Ev.step (fun k => by rw [monikerref19_Future.j3]) ?_
    exact Ev.ite_pos rfl (Ev.now _)
  have hld : ((bytesOf s).drop i).length = s.size - i := by rw [List.length_drop, bytes_len]
  refine Ev.step (fun k => by rw [monikerref19_Future.j2]) ?_
  have hw : wrap64 ((s.size : Int) - 1) = (s.size : Int) - 1 := w64 (by omega) (by omega)
  simp only [hw]
  refine Ev.ite (fun h => bad _ ?_) (fun h => Ev.ite (fun h2 => bad _ ?_) (fun h2 => Ev.ite_pos (by omega) (Ev.ite_pos (by omega) ?_)))
  · rw [decide_eq_false (by omega)]; rfl
  · rw [hld, decide_eq_false (p := 2 ≤ s.size - i) (by omega)]; simp
  · rcases at_or_end s i (by omega) with ⟨h3, _⟩ | ⟨_, e, b0, b1⟩
    · omega
    rw [hld, decide_eq_true (by omega), decide_eq_true (by omega), e]
    simp only [List.headD_cons, List.tail_cons]
    cases h46 : (bt s (i : Int) == 46)
    · have : (bt s (i : Int) != 46) = true := by rw [bne, h46]; rfl
      rw [this]
      exact bad _ (by simp)
    · have : (bt s (i : Int) != 46) = false := by rw [bne, h46]; rfl
      rw [this]
      refine Ev.step (fun k => by rw [monikerref19_Future.j3]) ?_
      refine Ev.ite_neg (by simp) ?_
      rw [w64 (by omega) (by omega)]
      simp only [Bool.true_and, Bool.and_self]
      exact refFut_l1 s (by omega) (s.size - (i + 1)) (i + 1) (by omega)
theorem refFut_l0 (s : ByteArray) (hs : s.size ≤ 1000000) (h4 : 4 ≤ s.size) : ∀ d i : Nat, i + d = s.size → 1 ≤ i → Ev (fun k => monikerref19_Future.l0 k s (i : Int))
    (decide (1 < i + spanp hexd ((bytesOf s).drop i)) && decide (2 ≤ ((bytesOf s).drop (i + spanp hexd ((bytesOf s).drop i))).length) && (((bytesOf s).drop (i + spanp hexd ((bytesOf s).drop i))).headD 0 == 46) && (((bytesOf s).drop (i + spanp hexd ((bytesOf s).drop i))).tail.all fun b => plainAt 1 b)) := by
  intro d
  induction d with
  | zero =>
    intro i hi h1
    have hz : spanp hexd ((bytesOf s).drop i) = 0 := by rw [List.drop_of_length_le (by rw [bytes_len]; omega)]; rfl
    rw [hz, Nat.add_zero]
    refine Ev.step (fun k => by rw [monikerref19_Future.l0]) ?_
    exact Ev.ite_neg (by omega) (refFut_j2 s hs h4 i h1 (by omega))
  | succ d ih =>
    intro i hi h1
    rcases at_or_end s i (by omega) with ⟨h2, _⟩ | ⟨_, e, b0, b1⟩
    · omega
    refine Ev.step (fun k => by rw [monikerref19_Future.l0]) ?_
    refine Ev.ite_pos (by omega) (Ev.ite_pos (by omega) (Ev.bind' (refValue_f b0 b1) ?_))
    refine Ev.ite (fun h => ?_) (fun h => ?_)
    · have hz : spanp hexd ((bytesOf s).drop i) = spanp hexd ((bytesOf s).drop (i + 1)) + 1 := by
        rw [e]
        have : spanp hexd (bt s (i : Int) :: (bytesOf s).drop (i + 1)) = if hexd (bt s (i : Int)) then spanp hexd ((bytesOf s).drop (i + 1)) + 1 else 0 := rfl
        rw [this, if_pos ((hv_hexd _).1 (by omega))]
      rw [hz, w64 (by omega) (by omega), show i + (spanp hexd ((bytesOf s).drop (i + 1)) + 1) = i + 1 + spanp hexd ((bytesOf s).drop (i + 1)) by omega]
      exact ih (i + 1) (by omega) (by omega)
    · have hz : spanp hexd ((bytesOf s).drop i) = 0 := by
        rw [e]
        have : spanp hexd (bt s (i : Int) :: (bytesOf s).drop (i + 1)) = if hexd (bt s (i : Int)) then spanp hexd ((bytesOf s).drop (i + 1)) + 1 else 0 := rfl
        rw [this, if_neg (by rw [← hv_hexd]; omega)]
      rw [hz, Nat.add_zero]
      exact refFut_j2 s hs h4 i h1 (by omega)
theorem refFuture_f (s : ByteArray) (hs : s.size ≤ 1000000) : Ev (fun k => monikerref19_Future.f k s) (fut (bytesOf s)) := by
  have bad : ∀ r, r = false → Ev (fun k => monikerref19_Future.j0 k s true) r := by
    intro r e
    subst e
    refine Ev.step (fun k => by rw [monikerref19_Future.j0]) ?_
    exact Ev.ite_pos rfl (Ev.now _)
  unfold monikerref19_Future.f
  rcases at_begin s with ⟨h, e⟩ | ⟨hp, e, b0, b1⟩
  · rw [e]
    exact Ev.ite_pos (by omega) (bad _ rfl)
  have hf : fut (bytesOf s) = fut (bt s 0 :: (bytesOf s).drop 1) := by rw [← e]
  rw [hf, fut_cons]
  have hle := spanp_le hexd ((bytesOf s).drop 1)
  rw [List.length_drop, bytes_len] at hle
  refine Ev.ite (fun h => bad _ ?_) (fun h => Ev.ite_pos (by omega) ?_)
  · by_cases h0 : 0 < spanp hexd ((bytesOf s).drop 1)
    · rw [List.drop_drop, List.length_drop, bytes_len]
      by_cases h2 : 2 ≤ s.size - (1 + spanp hexd ((bytesOf s).drop 1))
      · omega
      · rw [decide_eq_false h2]; simp
    · rw [decide_eq_false h0]; simp
  · have good : Ev (fun k => monikerref19_Future.j0 k s false) (decide (0 < spanp hexd ((bytesOf s).drop 1)) && decide (2 ≤ (((bytesOf s).drop 1).drop (spanp hexd ((bytesOf s).drop 1))).length) && ((((bytesOf s).drop 1).drop (spanp hexd ((bytesOf s).drop 1))).headD 0 == 46) && ((((bytesOf s).drop 1).drop (spanp hexd ((bytesOf s).drop 1))).tail.all fun b => plainAt 1 b)) := by
      refine Ev.step (fun k => by rw [monikerref19_Future.j0]) ?_
      refine Ev.ite_neg (by simp) ?_
      have := refFut_l0 s hs (by omega) (s.size - 1) 1 (by omega) (by omega)
      rw [List.drop_drop]
      have e2 : decide (1 < 1 + spanp hexd ((bytesOf s).drop 1)) = decide (0 < spanp hexd ((bytesOf s).drop 1)) := by
        rw [decide_eq_decide]; omega
      rw [e2] at this
      exact this
    refine Ev.ite (fun hv => ?_) (fun hv => ?_)
    · rw [hv]
      simp only [beq_self_eq_true, Bool.true_or, Bool.true_and]
      exact good
    · by_cases h86 : bt s 0 = 86
      · rw [h86]
        have e1 : ((86 : Int) != 86) = false := by decide
        have e2 : (((86 : Int) == 118) || ((86 : Int) == 86)) = true := by decide
        rw [e1, e2]
        simp only [Bool.true_and]
        exact good
      · have e1 : (bt s 0 != 86) = true := by simpa using h86
        have e2 : ((bt s 0 == 118) || (bt s 0 == 86)) = false := by simp [hv, h86]
        rw [e1, e2]
        exact bad _ (by simp)
end Go.Proofs.YticohlbfolnmpaaDoor.Y
namespace Go.Proofs.YticohlbfolnmpaaDoor.Y
open Go.RowKit Go.Proofs.YticohlbfolnmpaaDoor.X Go.Proofs.YticohlbfolnmpaaDoor.M Go.Proofs.YticohlbfolnmpaaDoorW.PrintWords Go.Proofs.YticohlbfolnmpaaDoorW.PrintLast Go.Proofs.YticohlbfolnmpaaDoorW.PrintMore
set_option linter.unusedVariables false
theorem Ip_awake : Ev (fun k => monikerlaw19_awake.f k) true := Ev.of (fun k => monikerlaw19_awake.mono k) (k := 60) (by decide +kernel)
theorem v4T_range (l : List Int) : (0 ≤ (v4T l).1 ∧ (v4T l).1 ≤ 255) ∧ (0 ≤ (v4T l).2.1 ∧ (v4T l).2.1 ≤ 255) ∧ (0 ≤ (v4T l).2.2.1 ∧ (v4T l).2.2.1 ≤ 255) ∧ 0 ≤ (v4T l).2.2.2.1 ∧ (v4T l).2.2.2.1 ≤ 255 := by
  unfold v4T
  cases h : v4 l with
  | none => simp
  | some x =>
    obtain ⟨a, b, c, d⟩ := x
    exact v4_range h
theorem rowS_range {fin : Bool} {l r : List Int} (h : rowS fin l = some r) : ∀ w ∈ r, 0 ≤ w ∧ w ≤ 65535 := by
  unfold rowS at h
  split at h
  · obtain rfl := Option.some.inj h
    simp
  · exact words_range h
theorem v6_range {l w : List Int} (h : v6 l = some w) : w.length = 8 ∧ ∀ x ∈ w, 0 ≤ x ∧ x ≤ 65535 := by
  unfold v6 at h
  split at h
  · obtain ⟨r, hr, h⟩ := Option.bind_eq_some_iff.1 h
    split at h
    · obtain rfl := Option.some.inj h
      exact ⟨by assumption, rowS_range hr⟩
    · cases h
  · obtain ⟨a, ha, h⟩ := Option.bind_eq_some_iff.1 h
    obtain ⟨b, hb, h⟩ := Option.bind_eq_some_iff.1 h
    split at h
    · obtain rfl := Option.some.inj h
      refine ⟨by simp; omega, fun x hx => ?_⟩
      simp only [List.append_assoc, List.mem_append, List.mem_replicate] at hx
      rcases hx with hx | ⟨_, rfl⟩ | hx
      · exact rowS_range ha x hx
      · omega
      · exact rowS_range hb x hx
    · cases h
theorem getD_range {w : List Int} (h : ∀ x ∈ w, 0 ≤ x ∧ x ≤ 65535) (i : Nat) : 0 ≤ w.getD i 0 ∧ w.getD i 0 ≤ 65535 := by
  rw [List.getD_eq_getElem?_getD]
  cases hi : w[i]? with
  | none => simp
  | some x => exact h x (List.mem_of_getElem? hi)
theorem tup8_range {w : List Int} {b : Bool} (h : ∀ x ∈ w, 0 ≤ x ∧ x ≤ 65535) :
    (0 ≤ (tup8 w b).1 ∧ (tup8 w b).1 ≤ 65535) ∧ (0 ≤ (tup8 w b).2.1 ∧ (tup8 w b).2.1 ≤ 65535) ∧ (0 ≤ (tup8 w b).2.2.1 ∧ (tup8 w b).2.2.1 ≤ 65535) ∧ (0 ≤ (tup8 w b).2.2.2.1 ∧ (tup8 w b).2.2.2.1 ≤ 65535) ∧
    (0 ≤ (tup8 w b).2.2.2.2.1 ∧ (tup8 w b).2.2.2.2.1 ≤ 65535) ∧ (0 ≤ (tup8 w b).2.2.2.2.2.1 ∧ (tup8 w b).2.2.2.2.2.1 ≤ 65535) ∧ (0 ≤ (tup8 w b).2.2.2.2.2.2.1 ∧ (tup8 w b).2.2.2.2.2.2.1 ≤ 65535) ∧ (0 ≤ (tup8 w b).2.2.2.2.2.2.2.1 ∧ (tup8 w b).2.2.2.2.2.2.2.1 ≤ 65535) :=
  ⟨getD_range h 0, getD_range h 1, getD_range h 2, getD_range h 3, getD_range h 4, getD_range h 5, getD_range h 6, getD_range h 7⟩
theorem v6T_range (l : List Int) :
    (0 ≤ (v6T l).1 ∧ (v6T l).1 ≤ 65535) ∧ (0 ≤ (v6T l).2.1 ∧ (v6T l).2.1 ≤ 65535) ∧ (0 ≤ (v6T l).2.2.1 ∧ (v6T l).2.2.1 ≤ 65535) ∧ (0 ≤ (v6T l).2.2.2.1 ∧ (v6T l).2.2.2.1 ≤ 65535) ∧
    (0 ≤ (v6T l).2.2.2.2.1 ∧ (v6T l).2.2.2.2.1 ≤ 65535) ∧ (0 ≤ (v6T l).2.2.2.2.2.1 ∧ (v6T l).2.2.2.2.2.1 ≤ 65535) ∧ (0 ≤ (v6T l).2.2.2.2.2.2.1 ∧ (v6T l).2.2.2.2.2.2.1 ≤ 65535) ∧ (0 ≤ (v6T l).2.2.2.2.2.2.2.1 ∧ (v6T l).2.2.2.2.2.2.2.1 ≤ 65535) := by
  unfold v6T
  cases h : v6 l with
  | none => exact tup8_range (by unfold zeros8; simp)
  | some w => exact tup8_range (v6_range h).2
end Go.Proofs.YticohlbfolnmpaaDoor.Y
namespace Go.Proofs.YticohlbfolnmpaaDoor.Pure
open Go.RowKit Go.Proofs.YticohlbfolnmpaaDoor.X Go.Proofs.YticohlbfolnmpaaDoor.M Go.Proofs.YticohlbfolnmpaaDoor.Y Go.Proofs.YticohlbfolnmpaaDoorW.PrintWords Go.Proofs.YticohlbfolnmpaaDoorW.PrintLast Go.Proofs.YticohlbfolnmpaaDoorW.PrintMore
set_option linter.unusedVariables false
theorem reads_l1 (s : ByteArray) (b1 b2 : Bool) (y0 y1 y2 y3 y4 y5 y6 y7 z0 z1 z2 z3 z4 z5 z6 z7 : Int) (h0 : wrap64 y0 = z0) (h1 : wrap64 y1 = z1) (h2 : wrap64 y2 = z2) (h3 : wrap64 y3 = z3) (h4 : wrap64 y4 = z4) (h5 : wrap64 y5 = z5) (h6 : wrap64 y6 = z6) (h7 : wrap64 y7 = z7) (hs : s.size ≤ 1000000) (aw : Ev (fun k => monikerlaw19_awake.f k) true) :
    Ev (fun k => monikerlaw19_IpReads.l1 k s b1 b2 b1 b2 0 y0 y1 y2 y3 y4 y5 y6 y7 z0 z1 z2 z3 z4 z5 z6 z7) true := by
  refine Ev.step (fun k => by rw [monikerlaw19_IpReads.l1]) ?_
  refine Ev.ite_pos (by decide) (Ev.ite_pos (by decide) (Ev.ite_pos (by decide) (Ev.ite_pos h0 ?_)))
  rw [show wrap64 ((0 : Int) + 1) = 1 by unfold wrap64; decide]
  refine Ev.step (fun k => by rw [monikerlaw19_IpReads.l1]) ?_
  refine Ev.ite_pos (by decide) (Ev.ite_pos (by decide) (Ev.ite_neg (by decide) (Ev.ite_pos (by decide) (Ev.ite_pos h1 ?_))))
  rw [show wrap64 ((1 : Int) + 1) = 2 by unfold wrap64; decide]
  refine Ev.step (fun k => by rw [monikerlaw19_IpReads.l1]) ?_
  refine Ev.ite_pos (by decide) (Ev.ite_pos (by decide) (Ev.ite_neg (by decide) (Ev.ite_neg (by decide) (Ev.ite_pos (by decide) (Ev.ite_pos h2 ?_)))))
  rw [show wrap64 ((2 : Int) + 1) = 3 by unfold wrap64; decide]
  refine Ev.step (fun k => by rw [monikerlaw19_IpReads.l1]) ?_
  refine Ev.ite_pos (by decide) (Ev.ite_pos (by decide) (Ev.ite_neg (by decide) (Ev.ite_neg (by decide) (Ev.ite_neg (by decide) (Ev.ite_pos (by decide) (Ev.ite_pos h3 ?_))))))
  rw [show wrap64 ((3 : Int) + 1) = 4 by unfold wrap64; decide]
  refine Ev.step (fun k => by rw [monikerlaw19_IpReads.l1]) ?_
  refine Ev.ite_pos (by decide) (Ev.ite_pos (by decide) (Ev.ite_neg (by decide) (Ev.ite_neg (by decide) (Ev.ite_neg (by decide) (Ev.ite_neg (by decide) (Ev.ite_pos (by decide) (Ev.ite_pos h4 ?_)))))))
  rw [show wrap64 ((4 : Int) + 1) = 5 by unfold wrap64; decide]
  refine Ev.step (fun k => by rw [monikerlaw19_IpReads.l1]) ?_
  refine Ev.ite_pos (by decide) (Ev.ite_pos (by decide) (Ev.ite_neg (by decide) (Ev.ite_neg (by decide) (Ev.ite_neg (by decide) (Ev.ite_neg (by decide) (Ev.ite_neg (by decide) (Ev.ite_pos (by decide) (Ev.ite_pos h5 ?_))))))))
  rw [show wrap64 ((5 : Int) + 1) = 6 by unfold wrap64; decide]
  refine Ev.step (fun k => by rw [monikerlaw19_IpReads.l1]) ?_
  refine Ev.ite_pos (by decide) (Ev.ite_pos (by decide) (Ev.ite_neg (by decide) (Ev.ite_neg (by decide) (Ev.ite_neg (by decide) (Ev.ite_neg (by decide) (Ev.ite_neg (by decide) (Ev.ite_neg (by decide) (Ev.ite_pos (by decide) (Ev.ite_pos h6 ?_)))))))))
  rw [show wrap64 ((6 : Int) + 1) = 7 by unfold wrap64; decide]
  refine Ev.step (fun k => by rw [monikerlaw19_IpReads.l1]) ?_
  refine Ev.ite_pos (by decide) (Ev.ite_pos (by decide) (Ev.ite_neg (by decide) (Ev.ite_neg (by decide) (Ev.ite_neg (by decide) (Ev.ite_neg (by decide) (Ev.ite_neg (by decide) (Ev.ite_neg (by decide) (Ev.ite_neg (by decide) (Ev.ite_pos (by decide) (Ev.ite_pos h7 ?_))))))))))
  rw [show wrap64 ((7 : Int) + 1) = 8 by unfold wrap64; decide]
  refine Ev.step (fun k => by rw [monikerlaw19_IpReads.l1]) ?_
  refine Ev.ite_neg (by decide) (Ev.ite_pos (by simp) (Ev.ite_pos (by simp) ?_))
  exact Ev.bind' (future_f s hs) (Ev.bind' (refFuture_f s hs) (Ev.ite_pos (by simp) (Ev.bind' aw (Ev.now _))))
theorem reads_l0 (s : ByteArray) (b1 b2 c1 c2 : Bool) (a0 a1 a2 a3 y0 y1 y2 y3 y4 y5 y6 y7 x0 x1 x2 x3 z0 z1 z2 z3 z4 z5 z6 z7 : Int) (h0 : wrap64 a0 = x0) (h1 : wrap64 a1 = x1) (h2 : wrap64 a2 = x2) (h3 : wrap64 a3 = x3) (r : Bool)
    (h : Ev (fun k => monikerlaw19_IpReads.l1 k s b1 b2 c1 c2 0 y0 y1 y2 y3 y4 y5 y6 y7 z0 z1 z2 z3 z4 z5 z6 z7) r) : Ev (fun k => monikerlaw19_IpReads.l0 k s b1 b2 c1 c2 0 a0 a1 a2 a3 y0 y1 y2 y3 y4 y5 y6 y7 x0 x1 x2 x3 z0 z1 z2 z3 z4 z5 z6 z7) r := by
  refine Ev.step (fun k => by rw [monikerlaw19_IpReads.l0]) ?_
  refine Ev.ite_pos (by decide) (Ev.ite_pos (by decide) (Ev.ite_pos (by decide) (Ev.ite_pos h0 ?_)))
  rw [show wrap64 ((0 : Int) + 1) = 1 by unfold wrap64; decide]
  refine Ev.step (fun k => by rw [monikerlaw19_IpReads.l0]) ?_
  refine Ev.ite_pos (by decide) (Ev.ite_pos (by decide) (Ev.ite_neg (by decide) (Ev.ite_pos (by decide) (Ev.ite_pos h1 ?_))))
  rw [show wrap64 ((1 : Int) + 1) = 2 by unfold wrap64; decide]
  refine Ev.step (fun k => by rw [monikerlaw19_IpReads.l0]) ?_
  refine Ev.ite_pos (by decide) (Ev.ite_pos (by decide) (Ev.ite_neg (by decide) (Ev.ite_neg (by decide) (Ev.ite_pos (by decide) (Ev.ite_pos h2 ?_)))))
  rw [show wrap64 ((2 : Int) + 1) = 3 by unfold wrap64; decide]
  refine Ev.step (fun k => by rw [monikerlaw19_IpReads.l0]) ?_
  refine Ev.ite_pos (by decide) (Ev.ite_pos (by decide) (Ev.ite_neg (by decide) (Ev.ite_neg (by decide) (Ev.ite_neg (by decide) (Ev.ite_pos (by decide) (Ev.ite_pos h3 ?_))))))
  rw [show wrap64 ((3 : Int) + 1) = 4 by unfold wrap64; decide]
  refine Ev.step (fun k => by rw [monikerlaw19_IpReads.l0]) ?_
  exact Ev.ite_neg (by decide) h
theorem IpReads : monikerlaw19_IpReads.Pure := by
  intro s hs
  refine Ev.rounds (r := true) ?_
  unfold monikerlaw19_IpReads.f
  refine Ev.ite (fun h => Ev.bind' Ip_awake (Ev.now _)) (fun h => ?_)
  have h1 : s.size ≤ 1000000 := by omega
  refine Ev.bind' (v4_f s h1) (Ev.bind' (v6_f s h1) (Ev.bind' (refV4_f s h1) (Ev.bind' (refV6_f s h1) ?_)))
  obtain ⟨e0, e1, e2, e3⟩ := v4T_range (bytesOf s)
  obtain ⟨g0, g1, g2, g3, g4, g5, g6, g7⟩ := v6T_range (bytesOf s)
  refine reads_l0 s _ _ _ _ _ _ _ _ _ _ _ _ _ _ _ _ _ _ _ _ _ _ _ _ _ _ _ _ ?_ ?_ ?_ ?_ true (reads_l1 s _ _ _ _ _ _ _ _ _ _ _ _ _ _ _ _ _ _ ?_ ?_ ?_ ?_ ?_ ?_ ?_ ?_ h1 Ip_awake) <;> exact w64 (by omega) (by omega)
end Go.Proofs.YticohlbfolnmpaaDoor.Pure
namespace Go.Proofs.YticohlbfolnmpaaDoor.ipReads
open Go.ChangeShapes Go.WideShapes Go.ChangeAt Go.RowKit
open Go.ChangeMaps (open_string shut_string)
set_option linter.unusedVariables false
set_option linter.unusedSimpArgs false
theorem own : ownKnob Tryd.prog.godebug = none := by kernel_rfl
theorem gw_len {W : World} (h : W.ShapedOpen Tryd.prog) : ∃ m, W.cell? ⟨0, 0, none⟩ = some (.int .i64 m) :=
  Go.Proofs.cell_of_shapedOpen_int (g := 0) (t := 3) (zero := #[.int .i64 0]) h (of_decide_eq_true (by kernel_rfl)) (by kernel_rfl) rfl (by kernel_rfl) (by kernel_rfl) Tryd.underlying3
theorem laid_tail {P : Program} {x : String × DataW Unit} {r : List (String × DataW Unit)} {w : World} (h : laidMet P (x :: r) w) : laidMet P r w := by
  obtain ⟨ps, hv, hnd, hrows⟩ := h
  obtain ⟨n, d⟩ := x
  obtain ⟨g, t, cs, fuel, p, q, _, _, _, _, hq, rfl⟩ := hv
  exact ⟨q, hq, List.Nodup.sublist (List.sublist_append_right _ _) hnd, fun b off hm => hrows b off (List.mem_append_right _ hm)⟩
set_option maxRecDepth 100000 in
theorem gw {W : World} (h : W.ShapedOpen Tryd.prog) (hL0 : laidMetH Tryd.prog Rows.ipReadsRow.laid W) : X.GW W := by
  have hL : laidMet Tryd.prog Rows.ipReadsRow.laid W := by
    rw [← Go.MakeChecks.laidMetH_plain _ _ _ (by kernel_rfl)]
    exact hL0
  exact ⟨gw_len h, Go.Lib.tabIs_of_head (g := 4) (t := 140) (e := 5) (n := 32) (k := .u8) (zs := X.tab4) (by kernel_rfl) (by kernel_rfl) Tryd.underlying140 Tryd.underlying5 (by kernel_rfl) (by kernel_rfl) hL, Go.Lib.tabIs_of_head (g := 5) (t := 141) (e := 5) (n := 64) (k := .u8) (zs := X.tab5) (by kernel_rfl) (by kernel_rfl) Tryd.underlying141 Tryd.underlying5 (by kernel_rfl) (by kernel_rfl) (laid_tail hL), Go.Lib.tabIs_of_head (g := 1) (t := 132) (e := 80) (n := 20) (k := .u64) (zs := X.tab1) (by kernel_rfl) (by kernel_rfl) Tryd.underlying132 Tryd.underlying80 (by kernel_rfl) (by kernel_rfl) (laid_tail (laid_tail hL))⟩
set_option maxRecDepth 100000 in
theorem contract (H : Type) (enc : TypeId × Value → H) (W : World) (base : Nat) (args : Array Value) (ds gs : List (DataW H)) (before : List MemPlace)
    (hval0 : ∀ (j : Nat) t v, Tryd.f3.params[j]? = some t → args[j]? = some v → Value.okWide Tryd.prog W .any base t v)
    (hW : DataW.Whole enc Tryd.prog Tryd.f3.params.toList Rows.ipReadsSpec.vars false W args.toList ds gs before)
    (hsz0 : (DataW.weightsEach Tryd.prog (Tryd.f3.params.toList ++ Rows.ipReadsSpec.plain.varTypes Tryd.prog) (ds ++ gs)).all (· ≤ reachBytes) = true) (hsh : W.ShapedOpen Tryd.prog) (hL : laidMetH Tryd.prog Rows.ipReadsRow.laid W) :
    Calls Tryd.prog 3 args W fun e W' => ∃ v, e = .returned v ∧ Rows.ipReadsSpec.post enc Tryd.prog Tryd.f3 false true false false W args v W' := by
  have hsz : (DataW.weightsEach Tryd.prog (Tryd.f3.params.toList ++ Rows.ipReadsSpec.plain.varTypes Tryd.prog) (ds ++ gs)).all (· ≤ reachBytes) = true := hsz0
  have hval : ∀ (j : Nat) t v, Tryd.f3.params[j]? = some t → args[j]? = some v → Value.okWide Tryd.prog W .any base t v := hval0
  have hW' := hW
  obtain ⟨p, q, hA0, hV, rfl, hfz, hnd⟩ := hW
  have hA : DataW.TrodAll enc Tryd.prog W 0 (fun _ => true) true Tryd.f3.params.toList args.toList ds p := hA0
  rw [Tryd.params3] at hA hval hsz
  obtain ⟨v0, vs0, d0, ds0, p0, q0, hargs, rfl, rfl, h0, r0⟩ := trodAll_cons hA
  obtain ⟨rfl, rfl, rfl⟩ := trodAll_nil r0
  obtain rfl : args = #[v0] := by cases args; simp_all
  obtain ⟨rfl, rfl⟩ := trodVars_none hV
  obtain ⟨a0, rfl, rfl, rfl, y0⟩ := open_string Tryd.underlying9 (hval 0 9 v0 rfl rfl) h0
  have w0 : a0.size ≤ 140737488351232 := by
    have z := sized_string hsz (j := 0) (t := 9) rfl rfl
    rw [Array.length_toList] at z
    exact z
  clear hA0 hval0 hsz0 hsz
  obtain ⟨k, hk⟩ := Pure.IpReads a0 w0
  refine (X.monikerlaw19_IpReads.calls k a0 true W (gw hsh hL) hk).mono fun e W' ⟨he, bel0⟩ => ?_
  have bel : Below W.heap.size W W' := bel0
  subst he
  exact ⟨_, rfl, _, _, _, [], _, [], hW', trodAll_mk1 (shut_bool Tryd.underlying4 _), (trodAll_cons_mk (shut_string Tryd.underlying9 y0) trodAll_mk0), rfl, bel.frame _, fun h => by cases h⟩
def flat : Nat → DataW Unit → List Value
  | 0, _ => []
  | k + 1, .agg l => l.flatMap (flat k)
  | _ + 1, .lit (.int kd n) => [.int kd n]
  | _ + 1, .lit (.bool b) => [.bool b]
  | _ + 1, _ => []
def layAt (g : Nat) (cs : List Value) (h : Array Obj) : Array Obj := h.modify g fun
  | .cells _ t frozen => .cells cs.toArray t frozen
  | x => x
noncomputable def laidWorld (os : Os) : World := { World.holding Tryd.prog os ⟨#[], #[], []⟩ with heap := layAt 2 (flat 9 Rows.laid_unicode_utf8_first) (layAt 3 (flat 9 Rows.laid_unicode_utf8_acceptRanges) (layAt 1 (flat 9 Rows.laid_internal_strconv_uint64pow10) (layAt 5 (flat 9 Rows.laid_math_bits_deBruijn64tab) (layAt 4 (flat 9 Rows.laid_math_bits_deBruijn32tab) ((World.holding Tryd.prog os ⟨#[], #[], []⟩).heap))))) }
theorem laid_met (os : Os) : laidMet Tryd.prog Rows.ipReadsRow.laid ((laidWorld os).forCall (fun _ _ => 0) ⟨#[], #[.string ByteArray.empty], []⟩).memory :=
  laidMet_of_run' 8 (by kernel_rfl) (by kernel_rfl)
theorem reads (os : Os) {H : Type} (enc : TypeId × Value → H) : ∃ places, DataW.whole enc Tryd.prog ((laidWorld os).forCall (fun _ _ => 0) ⟨#[], #[.string ByteArray.empty], []⟩).memory Tryd.f3.params.toList Rows.ipReadsSpec.vars false (#[.string ByteArray.empty] : Array Value).toList 8 = some ([.lit (.string [])], [], places) :=
  ⟨[], by kernel_rfl⟩
set_option maxRecDepth 100000 in
theorem lifted (os : Os) (started : os.Started) (H : Type) (enc : TypeId × Value → H) (F : Stop.Interp) :
    ReturnsInHanded {} Tryd.checked os 3 .any ((OpenSpec.ofChange Rows.ipReadsSpec).preRow enc Tryd.prog Tryd.f3 Rows.ipReadsRow.domain false Rows.ipReadsRow.laid) (((OpenSpec.ofChange Rows.ipReadsSpec).at F).post enc Tryd.prog Tryd.f3 false true false false) := by
  obtain ⟨places, hx⟩ := reads os enc
  refine returnsInHanded_of_row (C := Tryd.checked) (s := OpenSpec.ofChange Rows.ipReadsSpec) own started (by kernel_rfl) Tryd.func3
    (witness_row_at (enc := enc) (C := Tryd.checked) false (laidWorld os) #[.string ByteArray.empty] rfl (by kernel_rfl) (by kernel_rfl) (by kernel_rfl)
      (OpenSpec.preRow_of_cond 8 hx (by kernel_rfl) (fun k hk => by cases hk) (by kernel_rfl) (laid_met os))) ?_
  intro W base args ds gs before hval hW _ _ hsz hL hsh _
  exact contract H enc W base args ds gs before hval hW hsz hsh hL
theorem said : Rows.IpReadsSaid :=
  OpenClaim.holds_of_cond 3 Tryd.f3 rfl rfl rfl rfl rfl rfl rfl ⟨rfl, rfl, rfl, rfl, rfl⟩ rfl rfl rfl rfl rfl (by kernel_rfl) Tryd.func3 (by kernel_rfl)
    (of_decide_eq_true (by kernel_rfl)) (by unfold Func.isWrapper; first | (rw [if_pos (by decide +kernel)]; kernel_rfl) | (rw [if_neg (by decide +kernel)]; exact ⟨rfl, rfl⟩))
    (fun os started H enc _ F => by rw [OpenClaim.pre_eq_preRow]; exact lifted os started H enc F)
theorem plain (f : FuncId) (fn : Func) (hf : Tryd.pinned.checked.prog.funcNamed "moniker/monikerlaw19.IpReads" = some f) (hfn : Tryd.pinned.checked.prog.funcs[f]? = some fn) :
    false = Tryd.pinned.checked.prog.looks [] ∧ ∀ (j : Nat) t, fn.params[j]? = some t → Tryd.pinned.checked.prog.wantsStandIn t = false := by
  obtain rfl : f = 3 := Option.some.inj ((show Tryd.prog.funcNamed "moniker/monikerlaw19.IpReads" = some 3 by kernel_rfl).symm.trans hf) |>.symm
  obtain rfl : fn = Tryd.f3 := (Option.some.inj (Tryd.func3.symm.trans hfn)).symm
  refine ⟨by kernel_rfl, fun j t ht => ?_⟩
  rw [Tryd.params3] at ht
  have hm := Array.mem_of_getElem? ht
  simp only [List.mem_cons, List.mem_toArray, List.mem_nil_iff, or_false] at hm
  rcases hm with rfl
  · exact (show Tryd.prog.wantsStandIn 9 = false by kernel_rfl)
theorem card : Rows.IpReadsCardSaid :=
  Claim7.holds_tied_plain_at .later [] _ _ _ _ said (fun _ h => by cases h) (by kernel_rfl) (fun _ h => by cases h) ipReads_row_tie rfl ⟨rfl, rfl⟩ (by kernel_rfl) rfl plain (by kernel_rfl)
#print axioms card
end Go.Proofs.YticohlbfolnmpaaDoor.ipReads
namespace Go.Proofs.YticohlbfolnmpaaDoor
theorem ipReads_card : Rows.IpReadsCardSaid := ipReads.card
end Go.Proofs.YticohlbfolnmpaaDoor
