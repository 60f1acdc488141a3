/- The Go functions that a law reaches as plain Lean functions, and the proof that each call answers as they do: written by xprint.py, a program of this session over print.py of the kit, with hooks and contracts of its own. -/
import Derived.Test.YtediodhkimacjaaZPunyDecodes1
import Derived.Test.YtediodhkimacjaaZPunyDecodes2
import Derived.Test.YtediodhkimacjaaZPunyDecodes3
import Derived.Test.YtediodhkimacjaaZPunyDecodes4
import Derived.Test.YtediodhkimacjaaRows
import Derived.WalkKit
import Derived.ProofKit
import Derived.OpenShut
import Derived.ShutString
import Derived.ChangeOld
import Derived.Below
import Derived.SizedLaws
set_option linter.unusedSimpArgs false
set_option linter.unusedVariables false
namespace Go.Proofs.Ytediodhkimacjaa.Y
open Go.RowKit Go.Proofs.Ytediodhkimacjaa.X Go.Proofs.Ytediodhkimacjaa.M Go.Proofs.YtediodhkimacjaaW.PrintWords Go.Proofs.YtediodhkimacjaaW.PrintLast Go.Proofs.YtediodhkimacjaaW.PrintMore
def dv (b : Int) : Int := if 97 ≤ b ∧ b ≤ 122 then b - 97 else if 65 ≤ b ∧ b ≤ 90 then b - 65 else if 48 ≤ b ∧ b ≤ 57 then b - 22 else -1
theorem eP (b : Int) : -1 ≤ dv b ∧ dv b ≤ 35 := by unfold dv; split <;> (try split) <;> (try split) <;> omega
theorem em {b : Int} (h0 : 0 ≤ b) (h1 : b ≤ 255) : Ev (fun k => bL k b) (if dv b < 0 then (0, false) else (dv b, true)) :=
  dT (fun k => ck b k) (k := 6) (dM (p := fun b => bL 6 b = some (if dv b < 0 then (0, false) else (dv b, true))) (by decide +kernel) h0 h1)
set_option maxRecDepth 100000 in
theorem eo {b : Int} (h0 : 0 ≤ b) (h1 : b ≤ 255) : Ev (fun k => au k b) (dv b) :=
  dT (fun k => cQ b k) (k := 40) (dM (p := fun b => au 40 b = some (dv b)) (by decide +kernel) h0 h1)
def thr (a b : Int) : Int := if a - b < 1 then 1 else if a - b > 26 then 26 else a - b
theorem eM (a b : Int) : 1 ≤ thr a b ∧ thr a b ≤ 26 := by unfold thr; split <;> (try split) <;> omega
theorem eJ {a b : Int} (ha : -4000000000000000000 ≤ a ∧ a ≤ 4000000000000000000) (hb : -4000000000000000000 ≤ b ∧ b ≤ 4000000000000000000) : bA a b = some (thr a b) := by
  unfold bA thr
  rw [w64 (x := a - 26) (by omega) (by omega), w64 (x := a - b) (by omega) (by omega)]
  by_cases h1 : a ≤ b
  · rw [if_pos h1, if_pos (by omega)]
  · rw [if_neg h1, if_neg (show ¬ a - b < 1 by omega)]
    by_cases h2 : a - 26 ≥ b
    · rw [if_pos h2]
      by_cases h3 : a - b > 26
      · rw [if_pos h3]
      · rw [if_neg h3, show a - b = 26 by omega]
    · rw [if_neg h2, if_neg (by omega)]
theorem eK {a b : Int} (ha : -4000000000000000000 ≤ a ∧ a ≤ 4000000000000000000) (hb : -4000000000000000000 ≤ b ∧ b ≤ 4000000000000000000) : a9 a b = some (thr a b) := by
  unfold a9 thr
  rw [w64 (x := a - b) (by omega) (by omega)]
  by_cases h1 : a - b < 1
  · rw [if_pos h1, if_pos h1]
  · rw [if_neg h1, if_neg h1]
    by_cases h2 : a - b > 26
    · rw [if_pos h2, if_pos h2]
    · rw [if_neg h2, if_neg h2]
theorem ec : ∀ n : Nat, ∀ d x : Int, 0 ≤ d → 0 ≤ x → x + d ≤ 1000000000000000 → d.toNat ≤ n → ∃ r, Ev (fun k => aZ k d x) r ∧ Ev (fun k => aM k d x) r ∧ 0 ≤ r ∧ r ≤ 1000000000000036 := by
  intro n
  induction n with
  | zero =>
    intro d x h0 hx hb hn
    have hd : d = 0 := by omega
    subst hd
    refine ⟨x, Ev.step (fun k => by rw [aZ]) (ag (by omega) (ag (by decide +kernel) (Ev.val ?_))), Ev.step (fun k => by rw [aM]) (ag (by omega) (ag (by decide +kernel) (Ev.val ?_))), hx, by omega⟩ <;>
      (rw [show wrap64 ((wrap64 (36 * 0)).tdiv (wrap64 (0 + 38))) = 0 by decide +kernel, w64 (by omega) (by omega)]; omega)
  | succ n ih =>
    intro d x h0 hx hb hn
    have e35 : Int.tdiv d 35 = d / 35 := Int.tdiv_eq_ediv_of_nonneg h0
    by_cases h455 : d > 455
    · obtain ⟨r, h1, h2, h3, h4⟩ := ih (d / 35) (x + 36) (by omega) (by omega) (by omega) (by omega)
      have w1 : wrap64 (Int.tdiv d 35) = d / 35 := by rw [e35, w64 (by omega) (by omega)]
      have w2 : wrap64 (x + 36) = x + 36 := w64 (by omega) (by omega)
      exact ⟨r, Ev.step (fun k => by rw [aZ]) (ab h455 (by rw [w1, w2]; exact h1)), Ev.step (fun k => by rw [aM]) (ab h455 (by rw [w1, w2]; exact h2)), h3, h4⟩
    · have w1 : wrap64 (36 * d) = 36 * d := w64 (by omega) (by omega)
      have w2 : wrap64 (d + 38) = d + 38 := w64 (by omega) (by omega)
      have e : Int.tdiv (36 * d) (d + 38) = (36 * d) / (d + 38) := Int.tdiv_eq_ediv_of_nonneg (by omega)
      have q0 : 0 ≤ (36 * d) / (d + 38) := Int.ediv_nonneg (by omega) (by omega)
      have q1 : (36 * d) / (d + 38) ≤ 36 := Int.ediv_le_of_le_mul (by omega) (by omega)
      generalize (36 * d) / (d + 38) = q at e q0 q1
      have w3 : wrap64 q = q := w64 (by omega) (by omega)
      refine ⟨x + q, Ev.step (fun k => by rw [aZ]) (ag h455 (ag (by rw [w2]; omega) (Ev.val ?_))), Ev.step (fun k => by rw [aM]) (ag h455 (ag (by rw [w2]; omega) (Ev.val ?_))), by omega, by omega⟩ <;>
        rw [w1, w2, e, w3, w64 (by omega) (by omega)]
theorem dy (a b : Int) : mx a b = max a b := by unfold mx; split <;> omega
theorem eu (a c : Int) (f : Bool) (ha : a ≤ 10000000000000) (hc : c ≤ 10000000000000) : ∃ r, Ev (fun k => bF k a c f) r ∧ Ev (fun k => bq k a c f) r ∧ 0 ≤ r ∧ r ≤ 1000000000000036 := by
  have h0 : 0 ≤ mx a 0 ∧ mx a 0 ≤ 10000000000000 := by rw [dy]; omega
  have h1 : 1 ≤ mx c 1 ∧ mx c 1 ≤ 10000000000000 := by rw [dy]; omega
  unfold bF bq
  generalize mx a 0 = x at h0 ⊢
  generalize mx c 1 = y at h1 ⊢
  have go : ∀ z : Int, 0 ≤ z → z ≤ 10000000000000 → ∃ r, Ev (fun k => aY k z y) r ∧ Ev (fun k => aK k z y) r ∧ 0 ≤ r ∧ r ≤ 1000000000000036 := by
    intro z z0 z1
    have e : Int.tdiv z y = z / y := Int.tdiv_eq_ediv_of_nonneg z0
    have q0 : 0 ≤ z / y := Int.ediv_nonneg z0 (by omega)
    have q1 : z / y ≤ z := Int.ediv_le_self _ z0
    obtain ⟨r, r1, r2, r3, r4⟩ := ec (z + z / y).toNat (z + z / y) 0 (by omega) (by omega) (by omega) (by omega)
    have w1 : wrap64 (z + wrap64 (Int.tdiv z y)) = z + z / y := by rw [e, w64 (x := z / y) (by omega) (by omega), w64 (by omega) (by omega)]
    exact ⟨r, Ev.step (fun k => by rw [aY]) (ag (by omega) (by rw [w1]; exact r1)), Ev.step (fun k => by rw [aK]) (ag (by omega) (by rw [w1]; exact r2)), r3, r4⟩
  have w1 : wrap64 (x / 700) = x / 700 := w64 (by omega) (by omega)
  have w2 : wrap64 (x / 2) = x / 2 := w64 (by omega) (by omega)
  rw [w1, w2]
  cases f with
  | true =>
    obtain ⟨r, r1, r2, r3, r4⟩ := go (x / 700) (by omega) (by omega)
    exact ⟨r, ab rfl r1, ab rfl r2, r3, r4⟩
  | false =>
    obtain ⟨r, r1, r2, r3, r4⟩ := go (x / 2) (by omega) (by omega)
    exact ⟨r, ag (by simp) r1, ag (by simp) r2, r3, r4⟩
theorem eD (s : ByteArray) (hs : s.size ≤ 1000000) : ∀ d i : Nat, i + d = s.size → ∀ x : Int, -1 ≤ x → x < i → ∃ a : Int, -1 ≤ a ∧ a < s.size ∧ (∀ R, Ev (fun k => aD k s a ([] : List Int) (mx a 0) 0) R → Ev (fun k => aT k s x (s.size : Int) (i : Int)) R) ∧ Ev (fun k => aI k s (x + 1) (i : Int)) (a + 1) := by
  intro d
  induction d with
  | zero =>
    intro i hi x h0 h1
    exact ⟨x, h0, by omega, fun R hR => Ev.step (fun k => by rw [aT]) (ag (by omega) hR), Ev.step (fun k => by rw [aI]) (ag (by omega) (bo _))⟩
  | succ d ih =>
    intro i hi x h0 h1
    have hw : wrap64 ((i : Int) + 1) = ((i + 1 : Nat) : Int) := by rw [w64 (by omega) (by omega)]; omega
    by_cases h45 : bt s (i : Int) = 45
    · obtain ⟨a, a0, a1, a2, a3⟩ := ih (i + 1) (by omega) (i : Int) (by omega) (by omega)
      refine ⟨a, a0, a1, fun R hR => Ev.step (fun k => by rw [aT]) (ab (by omega) (ab (by omega) (ab (by omega) (ab h45 (by rw [hw]; exact a2 R hR))))), Ev.step (fun k => by rw [aI]) (ab (by omega) (ab (by omega) (ab h45 (by rw [hw]; exact a3))))⟩
    · obtain ⟨a, a0, a1, a2, a3⟩ := ih (i + 1) (by omega) x h0 (by omega)
      refine ⟨a, a0, a1, fun R hR => Ev.step (fun k => by rw [aT]) (ab (by omega) (ab (by omega) (ab (by omega) (ag h45 (by rw [hw]; exact a2 R hR))))), Ev.step (fun k => by rw [aI]) (ab (by omega) (ab (by omega) (ag h45 (by rw [hw]; exact a3))))⟩
def okL (l : List Int) : Prop := ∀ c ∈ l, 0 ≤ c ∧ c ≤ 1114111
theorem ek {l : List Int} (h : okL l) {c : Int} (h0 : 0 ≤ c) (h1 : c ≤ 1114111) : okL (l ++ [c]) := by
  intro x hx
  rcases List.mem_append.1 hx with hx | hx
  · exact h x hx
  · rw [List.mem_singleton.1 hx]; exact ⟨h0, h1⟩
theorem ei (s : ByteArray) (hs : s.size ≤ 1000000) (a : Int) (ha : -1 ≤ a) (hb : a < s.size) : ∀ d i : Nat, i + d = (mx a 0).toNat → ∀ x : List Int, x.length = i → okL x →
    (Ev (fun k => aD k s a x (mx a 0) (i : Int)) (([] : List Int), 0, false) ∧ Ev (fun k => ao k s (a + 1) x (i : Int)) (([] : List Int), 9)) ∨
    ∃ L : List Int, L.length = (mx a 0).toNat ∧ okL L ∧ Ev (fun k => aD k s a x (mx a 0) (i : Int)) (L, a + 1, true) ∧ ∀ R, Ev (fun k => ar k s (a + 1) L 128 0 72 false) R → Ev (fun k => ao k s (a + 1) x (i : Int)) R := by
  have hm : mx a 0 = max a 0 := dy a 0
  intro d
  induction d with
  | zero =>
    intro i hi x hx hl
    have hw : wrap64 ((i : Int) + 1) = (i : Int) + 1 := w64 (by omega) (by omega)
    refine .inr ⟨x, by omega, hl, Ev.step (fun k => by rw [aD]) (ag (by omega) (Ev.val (by rw [w64 (by omega) (by omega)]))), fun R hR => Ev.step (fun k => by rw [ao]) (ag (by rw [hw]; omega) hR)⟩
  | succ d ih =>
    intro i hi x hx hl
    have hw : wrap64 ((i : Int) + 1) = ((i + 1 : Nat) : Int) := by rw [w64 (by omega) (by omega)]; omega
    have hr := d6 s (i : Int)
    by_cases h128 : bt s (i : Int) ≥ 128
    · exact .inl ⟨Ev.step (fun k => by rw [aD]) (ab (by omega) (ab (by omega) (ab (by omega) (ab h128 (bo _))))), Ev.step (fun k => by rw [ao]) (ab (by rw [hw]; omega) (ab (by omega) (ab (by omega) (ab (by omega) (bo _)))))⟩
    · have hw2 : wrap64 (bt s (i : Int)) = bt s (i : Int) := w64 (by omega) (by omega)
      have hw3 : wrap32 (bt s (i : Int)) = bt s (i : Int) := by unfold wrap32; omega
      have nx := ih (i + 1) (by omega) (x ++ [bt s (i : Int)]) (by rw [List.length_append, hx]; rfl) (ek hl hr.1 (by omega))
      have pre1 : ∀ R, Ev (fun k => aD k s a (x ++ [bt s (i : Int)]) (mx a 0) ((i + 1 : Nat) : Int)) R → Ev (fun k => aD k s a x (mx a 0) (i : Int)) R := fun R hR =>
        Ev.step (fun k => by rw [aD]) (ab (by omega) (ab (by omega) (ab (by omega) (ag h128 (ab (by omega) (by rw [hw, hw3]; exact hR))))))
      have pre2 : ∀ R, Ev (fun k => ao k s (a + 1) (x ++ [bt s (i : Int)]) ((i + 1 : Nat) : Int)) R → Ev (fun k => ao k s (a + 1) x (i : Int)) R := fun R hR =>
        Ev.step (fun k => by rw [ao]) (ab (by rw [hw]; omega) (ab (by omega) (ab (by omega) (ag (by omega) (ab (by omega) (by rw [hw, hw2]; exact hR))))))
      rcases nx with ⟨n1, n2⟩ | ⟨L, n1, n2, n3, n4⟩
      · exact .inl ⟨pre1 _ n1, pre2 _ n2⟩
      · exact .inr ⟨L, n1, n2, pre1 _ n3, fun R hR => pre2 _ (n4 R hR)⟩
def dV (s : ByteArray) (out : List Int) (n bias old : Int) (begun : Bool) (place at' : Int) (k : Nat) : Option (List Int × Int) :=
  (bq k (wrap64 (place - old)) (wrap64 ((out.length : Int) + 1)) (!begun)).bind fun t188 => (if (wrap64 ((out.length : Int) + 1)) = 0 then (none) else (if (wrap64 (n + (wrap64 (Int.tdiv place (wrap64 ((out.length : Int) + 1)))))) > 2147483647 then (some (([] : List Int), 11)) else (if (wrap64 (n + (wrap64 (Int.tdiv place (wrap64 ((out.length : Int) + 1)))))) > 1114111 then (some (([] : List Int), 7)) else ((bC out (Int.tmod place (wrap64 ((out.length : Int) + 1))) (wrap64 (n + (wrap64 (Int.tdiv place (wrap64 ((out.length : Int) + 1))))))).bind fun t189 => (ar k s at' t189 (wrap64 (n + (wrap64 (Int.tdiv place (wrap64 ((out.length : Int) + 1)))))) (wrap64 ((Int.tmod place (wrap64 ((out.length : Int) + 1))) + 1)) t188 true)))))
theorem eb (s : ByteArray) (hs : s.size ≤ 1000000) (out : List Int) (n bias old : Int) (begun : Bool) (hbias : 0 ≤ bias ∧ bias ≤ 1000000000000036) : ∀ d i : Nat, i + d = s.size → ∀ place w kk : Int, 0 ≤ place → place ≤ 2147483647 → 1 ≤ w → w ≤ 2147483647 → 0 ≤ kk → kk ≤ 36 * (i : Int) + 36 →
    (∃ e at', e ≠ 0 ∧ Ev (fun k => an k place bias w kk s (i : Int)) (0, e, s, at') ∧ Ev (fun k => ap k s (i : Int) out n place bias begun old w kk) (([] : List Int), e)) ∨
    (∃ (p : Int) (j : Nat), 0 ≤ p ∧ p ≤ 2147483647 ∧ i < j ∧ j ≤ s.size ∧ Ev (fun k => an k place bias w kk s (i : Int)) (p, 0, s, (j : Int)) ∧ ∀ R, Ev (dV s out n bias old begun p (j : Int)) R → Ev (fun k => ap k s (i : Int) out n place bias begun old w kk) R) := by
  intro d
  induction d with
  | zero =>
    intro i hi place w kk p0 p1 w0 w1 k0 k1
    exact .inl ⟨9, (i : Int), by decide, Ev.step (fun k => by rw [an]) (ab (by omega) (bo _)), Ev.step (fun k => by rw [ap]) (ab (by omega) (Ev.step (fun k => by rw [aW]) (ab rfl (bo _))))⟩
  | succ d ih =>
    intro i hi place w kk p0 p1 w0 w1 k0 k1
    have hw : wrap64 ((i : Int) + 1) = ((i + 1 : Nat) : Int) := by rw [w64 (by omega) (by omega)]; omega
    have hb := d6 s (i : Int)
    have hv := em hb.1 hb.2
    have hv2 := eo hb.1 hb.2
    have hd := eP (bt s (i : Int))
    generalize dv (bt s (i : Int)) = v at hv hv2 hd
    by_cases hneg : v < 0
    · rw [if_pos hneg] at hv
      refine .inl ⟨9, wrap64 ((i : Int) + 1), by decide, ?_, ?_⟩
      · refine Ev.step (fun k => by rw [an]) (ag (by omega) (ab (by omega) (ab (by omega) (bc hv ?_))))
        exact ag (by simp) (bo _)
      · refine Ev.step (fun k => by rw [ap]) (ag (by omega) (ab (by omega) (ab (by omega) (bc hv2 ?_))))
        rw [decide_eq_true hneg]
        exact Ev.step (fun k => by rw [aW]) (ab rfl (bo _))
    · rw [if_neg hneg] at hv
      have hvw : v * w ≤ 35 * 2147483647 := Int.le_trans (Int.mul_le_mul_of_nonneg_right hd.2 (by omega)) (Int.mul_le_mul_of_nonneg_left w1 (by omega))
      have hvw0 : 0 ≤ v * w := Int.mul_nonneg (by omega) (by omega)
      have e1 : wrap64 (2147483647 - place) = 2147483647 - place := w64 (by omega) (by omega)
      have e2 : Int.tdiv (2147483647 - place) w = (2147483647 - place) / w := Int.tdiv_eq_ediv_of_nonneg (by omega)
      have q0 : 0 ≤ (2147483647 - place) / w := Int.ediv_nonneg (by omega) (by omega)
      have q1 : (2147483647 - place) / w ≤ 2147483647 - place := Int.ediv_le_self _ (by omega)
      have e3 : wrap64 (Int.tdiv (wrap64 (2147483647 - place)) w) = (2147483647 - place) / w := by rw [e1, e2, w64 (by omega) (by omega)]
      have e4 : wrap64 (v * w) = v * w := w64 (by omega) (by omega)
      have e5 : wrap64 (place + wrap64 (v * w)) = place + v * w := by rw [e4, w64 (by omega) (by omega)]
      have hover : v > (2147483647 - place) / w ↔ place + v * w > 2147483647 := by
        have := Int.ediv_lt_iff_lt_mul (a := 2147483647 - place) (b := v) (c := w) (by omega)
        constructor
        · intro h; have := this.1 h; omega
        · intro h; exact this.2 (by omega)
      have preU : ∀ R, Ev (fun k => if v > (2147483647 - place) / w then some ((0 : Int), (11 : Int), s, wrap64 ((i : Int) + 1)) else (bA kk bias).bind fun t106 => (if v < t106 then (some (place + v * w, 0, s, wrap64 ((i : Int) + 1))) else (if (wrap64 (36 - t106)) = 0 then (none) else (if w > (wrap64 ((2147483647 : Int) / (wrap64 (36 - t106)))) then (some (0, 11, s, wrap64 ((i : Int) + 1))) else (an k (place + v * w) bias (wrap64 (w * (wrap64 (36 - t106)))) (wrap64 (kk + 36)) s (wrap64 ((i : Int) + 1))))))) R → Ev (fun k => an k place bias w kk s (i : Int)) R := by
        intro R hR
        refine Ev.step (fun k => by rw [an]) (ag (by omega) (ab (by omega) (ab (by omega) (bc hv ?_))))
        dsimp only
        rw [e3, e5]
        exact ab rfl (ag (show ¬ w = 0 by omega) hR)
      have preR : ∀ R, Ev (fun k => if place + v * w > 2147483647 then some (([] : List Int), (11 : Int)) else (a9 kk bias).bind fun t187 => (if v < t187 then dV s out n bias old begun (place + v * w) ((i + 1 : Nat) : Int) k else (if (wrap64 (w * (wrap64 (36 - t187)))) > 2147483647 then (some (([] : List Int), 11)) else (ap k s ((i + 1 : Nat) : Int) out n (place + v * w) bias begun old (wrap64 (w * (wrap64 (36 - t187)))) (wrap64 (kk + 36)))))) R → Ev (fun k => ap k s (i : Int) out n place bias begun old w kk) R := by
        intro R hR
        refine Ev.step (fun k => by rw [ap]) (ag (by omega) (ab (by omega) (ab (by omega) (bc hv2 ?_))))
        rw [decide_eq_false hneg]
        refine Ev.step (fun k => by rw [aW]) (ag (by simp) (ab (by omega) (ab (by omega) (bc hv2 ?_))))
        rw [e5, hw]
        exact hR
      by_cases ho : place + v * w > 2147483647
      · exact .inl ⟨11, _, by decide, preU _ (ab (hover.2 ho) (bo _)), preR _ (ab ho (bo _))⟩
      · have t1 := eJ (a := kk) (b := bias) ⟨by omega, by omega⟩ ⟨by omega, by omega⟩
        have t2 := eK (a := kk) (b := bias) ⟨by omega, by omega⟩ ⟨by omega, by omega⟩
        have ht := eM kk bias
        generalize thr kk bias = t at t1 t2 ht
        by_cases hlt : v < t
        · refine .inr ⟨place + v * w, i + 1, by omega, by omega, by omega, by omega, preU _ (ag (fun h => ho (hover.1 h)) (bV t1 (ab hlt (Ev.val (by rw [hw]))))), fun R hR => preR _ (ag ho (bV t2 (ab hlt hR)))⟩
        · have g1 : wrap64 (36 - t) = 36 - t := w64 (by omega) (by omega)
          have z0 : 0 ≤ (2147483647 : Int) / (36 - t) := Int.ediv_nonneg (by decide) (by omega)
          have z1 : (2147483647 : Int) / (36 - t) ≤ 2147483647 := Int.ediv_le_self _ (by decide)
          have g2 : wrap64 ((2147483647 : Int) / (36 - t)) = (2147483647 : Int) / (36 - t) := w64 (by omega) (by omega)
          have hwt : w * (36 - t) ≤ 2147483647 * 36 := Int.le_trans (Int.mul_le_mul_of_nonneg_right w1 (by omega)) (Int.mul_le_mul_of_nonneg_left (by omega) (by omega))
          have hwt0 : 1 ≤ w * (36 - t) := Int.le_trans (by omega : (1 : Int) ≤ w * 1) (Int.mul_le_mul_of_nonneg_left (by omega) (by omega))
          have g3 : wrap64 (w * (36 - t)) = w * (36 - t) := w64 (by omega) (by omega)
          have g4 : wrap64 (kk + 36) = kk + 36 := w64 (by omega) (by omega)
          have hov2 : w > (2147483647 : Int) / (36 - t) ↔ w * (36 - t) > 2147483647 := by
            have := Int.ediv_lt_iff_lt_mul (a := 2147483647) (b := w) (c := 36 - t) (by omega)
            exact ⟨fun h => this.1 h, fun h => this.2 h⟩
          have preU2 : ∀ R, Ev (fun k => if w > (2147483647 : Int) / (36 - t) then some ((0 : Int), (11 : Int), s, wrap64 ((i : Int) + 1)) else an k (place + v * w) bias (w * (36 - t)) (kk + 36) s ((i + 1 : Nat) : Int)) R → Ev (fun k => an k place bias w kk s (i : Int)) R := by
            intro R hR
            refine preU _ (ag (fun h => ho (hover.1 h)) (bV t1 (ag hlt (ag (by rw [g1]; omega) ?_))))
            rw [g1, g2, g3, g4, hw]
            rw [hw] at hR
            exact hR
          have preR2 : ∀ R, Ev (fun k => if w * (36 - t) > 2147483647 then some (([] : List Int), (11 : Int)) else ap k s ((i + 1 : Nat) : Int) out n (place + v * w) bias begun old (w * (36 - t)) (kk + 36)) R → Ev (fun k => ap k s (i : Int) out n place bias begun old w kk) R := by
            intro R hR
            refine preR _ (ag ho (bV t2 (ag hlt ?_)))
            rw [g1, g3, g4]
            exact hR
          by_cases h2 : w * (36 - t) > 2147483647
          · exact .inl ⟨11, _, by decide, preU2 _ (ab (hov2.2 h2) (bo _)), preR2 _ (ab h2 (bo _))⟩
          · rcases ih (i + 1) (by omega) (place + v * w) (w * (36 - t)) (kk + 36) (by omega) (by omega) hwt0 (by omega) (by omega) (by omega) with ⟨e, a, e0, n1, n2⟩ | ⟨p, j, n1, n2, n3, n4, n5, n6⟩
            · exact .inl ⟨e, a, e0, preU2 _ (ag (fun h => h2 (hov2.1 h)) n1), preR2 _ (ag h2 n2)⟩
            · exact .inr ⟨p, j, n1, n2, by omega, n4, preU2 _ (ag (fun h => h2 (hov2.1 h)) n5), fun R hR => preR2 _ (ag h2 (n6 R hR))⟩
theorem ey {l : List Int} (h : okL l) {c : Int} (h0 : 0 ≤ c) (h1 : c ≤ 1114111) (i : Nat) : okL (l.take i ++ c :: l.drop i) := by
  intro x hx
  rcases List.mem_append.1 hx with hx | hx
  · exact h x (List.mem_of_mem_take hx)
  · rcases List.mem_cons.1 hx with rfl | hx
    · exact ⟨h0, h1⟩
    · exact h x (List.mem_of_mem_drop hx)
theorem dY {x : Int} (h0 : 0 ≤ x) (h1 : x ≤ 1000000000000000) : wrap64 x = x := w64 (by omega) (by omega)
theorem eS {n : Nat} (h : n ≤ 1000000000) : wrap64 ((n : Int) + 1) = (n : Int) + 1 := w64 (by omega) (by omega)
theorem eg (s : ByteArray) (hs : s.size ≤ 100000) : ∀ d i : Nat, i + d = s.size → ∀ (out : List Int) (n place bias : Int) (first : Bool), okL out → out.length ≤ i → 128 ≤ n → n ≤ 1114111 → 0 ≤ place → place ≤ 1000000 → 0 ≤ bias → bias ≤ 1000000000000036 →
    ∃ R : List Int × Int, okL R.1 ∧ R.1.length ≤ 100000 ∧ Ev (fun k => aA k s out n place bias first s (i : Int)) R ∧ Ev (fun k => ar k s (i : Int) out n place bias (!first)) R := by
  intro d
  induction d using Nat.strongRecOn with
  | _ d ih =>
    intro i hi out n place bias first hok hlen n0 n1 p0 p1 b0 b1
    by_cases hlt : i < s.size
    case neg => exact ⟨(out, 0), hok, by show out.length ≤ _; omega, Ev.step (fun k => by rw [aA]) (ag (by omega) (bo _)), Ev.step (fun k => by rw [ar]) (ag (by omega) (bo _))⟩
    have nil : okL [] := fun c hc => by cases hc
    rcases eb s (by omega) out n bias place (!first) ⟨b0, b1⟩ (s.size - i) i (by omega) place 1 36 p0 (by omega) (by decide) (by decide) (by decide) (by omega) with ⟨e, a, e0, h1, h2⟩ | ⟨p, j, q0, q1, hij, hj, h1, h2⟩
    · have h1' : Ev (fun k => bv k s (i : Int) place bias) (0, e, s, a) := h1
      refine ⟨([], e), nil, by show (0 : Nat) ≤ _; omega, ?_, Ev.step (fun k => by rw [ar]) (ab (by omega) h2)⟩
      refine Ev.step (fun k => by rw [aA]) (ab (by omega) (bc h1' ?_))
      exact ag e0 (bo _)
    · have w1 : Unit → wrap64 (p - place) = p - place := fun _ => w64 (by omega) (by omega)
      have hol : out.length ≤ 100000 := by omega
      have w2 : Unit → wrap64 ((out.length : Int) + 1) = (out.length : Int) + 1 := fun _ => eS (by omega)
      have hL : 0 < (out.length : Int) + 1 := by omega
      have hA1 : p - place ≤ 10000000000000 := by omega
      have hA2 : (out.length : Int) + 1 ≤ 10000000000000 := by omega
      obtain ⟨r, r1, r2, r3, r4⟩ := eu (p - place) ((out.length : Int) + 1) first hA1 hA2
      obtain ⟨q, hq⟩ : ∃ q, p / ((out.length : Int) + 1) = q := ⟨_, rfl⟩
      obtain ⟨m, hm⟩ : ∃ m, p % ((out.length : Int) + 1) = m := ⟨_, rfl⟩
      have tq : Int.tdiv p ((out.length : Int) + 1) = q := (Int.tdiv_eq_ediv_of_nonneg q0).trans hq
      have tm : Int.tmod p ((out.length : Int) + 1) = m := (Int.tmod_eq_emod_of_nonneg q0).trans hm
      have d0 : 0 ≤ q := hq ▸ Int.ediv_nonneg q0 (Int.le_of_lt hL)
      have d1 : q ≤ p := hq ▸ Int.ediv_le_self _ q0
      have m0 : 0 ≤ m := hm ▸ Int.emod_nonneg _ (Int.ne_of_gt hL)
      have m1 : m < (out.length : Int) + 1 := hm ▸ Int.emod_lt_of_pos _ hL
      clear hq hm
      have w3 : Unit → wrap64 q = q := fun _ => dY d0 (by omega)
      have w4 : Unit → wrap64 (2147483647 - n) = 2147483647 - n := fun _ => dY (by omega) (by omega)
      have w5 : Unit → wrap64 (n + q) = n + q := fun _ => dY (by omega) (by omega)
      have w6 : Unit → wrap64 (m + 1) = m + 1 := fun _ => dY (by omega) (by omega)
      have preU : ∀ R, Ev (fun k => if q > 2147483647 - n then some (([] : List Int), (11 : Int)) else if n + q > 1114111 then some (([] : List Int), (7 : Int)) else (aV out m ([wrap32 (n + q)] : List Int)).bind fun t => aA k s t (n + q) (m + 1) r false s (j : Int)) R → Ev (fun k => aA k s out n place bias first s (i : Int)) R := by
        intro R hR
        have h1' : Ev (fun k => bv k s (i : Int) place bias) (p, 0, s, (j : Int)) := h1
        refine Ev.step (fun k => by rw [aA]) (ab (by omega) (bc h1' ?_))
        dsimp only
        rw [(w1 ()), (w2 ()), tq, tm, (w3 ()), (w4 ()), (w5 ()), (w6 ())]
        refine ab rfl (bc r1 ?_)
        exact ag (show ¬ (out.length : Int) + 1 = 0 by omega) hR
      have preR : ∀ R, Ev (fun k => if n + q > 2147483647 then some (([] : List Int), (11 : Int)) else if n + q > 1114111 then some (([] : List Int), (7 : Int)) else (bC out m (n + q)).bind fun t => ar k s (j : Int) t (n + q) (m + 1) r true) R → Ev (fun k => ar k s (i : Int) out n place bias (!first)) R := by
        intro R hR
        refine Ev.step (fun k => by rw [ar]) (ab (by omega) (h2 R ?_))
        unfold dV
        rw [(w1 ()), (w2 ()), tq, tm, (w3 ()), (w5 ()), (w6 ()), Bool.not_not]
        refine bc r2 ?_
        exact ag (show ¬ (out.length : Int) + 1 = 0 by omega) hR
      by_cases ho : n + q > 2147483647
      · exact ⟨([], 11), nil, by show (0 : Nat) ≤ _; omega, preU _ (ab (by omega) (bo _)), preR _ (ab ho (bo _))⟩
      by_cases ho2 : n + q > 1114111
      · exact ⟨([], 7), nil, by show (0 : Nat) ≤ _; omega, preU _ (ag (by omega) (ab ho2 (bo _))), preR _ (ag ho (ab ho2 (bo _)))⟩
      have w7 : Unit → wrap32 (n + q) = n + q := fun _ => by unfold wrap32; omega
      have hins : aV out m ([n + q] : List Int) = some (out.take m.toNat ++ (n + q) :: out.drop m.toNat) := by
        unfold aV; dsimp only
        rw [if_pos ⟨m0, by omega, by omega⟩]
      have htl : (out.take m.toNat).length ≤ out.length := by rw [List.length_take]; omega
      have hdl : (out.drop m.toNat).length ≤ out.length := by rw [List.length_drop]; omega
      have hput : bC out m (n + q) = some (out.take m.toNat ++ (n + q) :: out.drop m.toNat) := by
        unfold bC
        rw [Option.bind_some, if_pos m0, if_pos (by omega), if_pos (by rw [List.length_nil]; omega), Option.bind_some, if_pos (by rw [List.length_append, List.length_nil]; omega), Option.bind_some, if_pos (by rw [List.length_append, List.length_append, List.length_nil]; simp only [List.length_cons, List.length_nil]; omega)]
        simp
      have hnl : (out.take m.toNat ++ (n + q) :: out.drop m.toNat).length = out.length + 1 := by rw [List.length_append, List.length_cons, List.length_take, List.length_drop]; omega
      obtain ⟨R, g1, g2, g3, g4⟩ := ih (s.size - j) (by omega) j (by omega) (out.take m.toNat ++ (n + q) :: out.drop m.toNat) (n + q) (m + 1) r false (ey hok (by omega) (by omega) _) (by rw [hnl]; omega) (by omega) (by omega) (by omega) (by omega) r3 r4
      exact ⟨R, g1, g2, preU _ (ag (by omega) (ag ho2 (by rw [(w7 ())]; exact bV hins g3))), preR _ (ag ho (ag ho2 (bV hput g4)))⟩
theorem ef (s : ByteArray) (hs : s.size ≤ 100000) : ∃ R : List Int × Int, okL R.1 ∧ R.1.length ≤ 100000 ∧ Ev (fun k => a8 k s) R ∧ Ev (fun k => bB k s) R := by
  obtain ⟨a, a0, a1, a2, a3⟩ := eD s (by omega) s.size 0 (by omega) (-1) (by omega) (by omega)
  have hm : mx a 0 = max a 0 := dy a 0
  unfold a8 bB bR bT
  rcases ei s (by omega) a a0 a1 (mx a 0).toNat 0 (by omega) [] rfl (fun c hc => by cases hc) with ⟨f1, f2⟩ | ⟨L, l1, l2, l3, l4⟩
  · refine ⟨([], 9), fun c hc => (by cases hc), by show (0 : Nat) ≤ _; omega, bc (a2 _ f1) ?_, bc a3 f2⟩
    exact ag (by simp) (bo _)
  · obtain ⟨R, g1, g2, g3, g4⟩ := eg s hs (s.size - (a + 1).toNat) (a + 1).toNat (by omega) L 128 0 72 true l2 (by omega) (by decide) (by decide) (by decide) (by decide) (by decide) (by decide)
    rw [show (((a + 1).toNat : Nat) : Int) = a + 1 by omega] at g3 g4
    refine ⟨R, g1, g2, bc (a2 _ l3) ?_, bc a3 (l4 R g4)⟩
    exact ab rfl g3
theorem eH (l : List Int) (h : okL l) (hl : l.length ≤ 1000000) : Ev (fun k => bG k l) l := by
  have go : ∀ d i : Nat, i + d = l.length → Ev (fun k => aH k (l.take i) l (l.length : Int) (i : Int)) l := by
    intro d
    induction d with
    | zero =>
      intro i hi
      refine Ev.step (fun k => by rw [aH]) (ag (by omega) (Ev.val ?_))
      rw [List.take_of_length_le (by omega)]
    | succ d ih =>
      intro i hi
      have hw : wrap64 ((i : Int) + 1) = ((i + 1 : Nat) : Int) := by rw [w64 (by omega) (by omega)]; omega
      have hil : i < l.length := by omega
      have hrd : rd l (i : Int) = l[i] := by unfold rd; rw [Int.toNat_natCast, List.getD_eq_getElem?_getD, List.getElem?_eq_getElem hil]; rfl
      have hr := h l[i] (List.getElem_mem hil)
      have e : l.take (i + 1) = l.take i ++ [l[i]] := List.take_succ_eq_append_getElem hil
      have hlt : (l.take i).length ≤ l.length := by rw [List.length_take]; omega
      refine Ev.step (fun k => by rw [aH]) (ab (by omega) (ab (by omega) (ab (by omega) (ab (by omega) ?_))))
      rw [hw, hrd, w64 (by omega) (by omega), ← e]
      exact ih (i + 1) (by omega)
  unfold bG
  have := go l.length 0 (by omega)
  rwa [List.take_zero] at this
theorem eL (l : List Int) (hl : l.length ≤ 1000000) : Ev (fun k => bH k l l) true := by
  have go : ∀ d i : Nat, i + d = l.length → Ev (fun k => aU k l l (i : Int)) true := by
    intro d
    induction d with
    | zero => intro i hi; exact Ev.step (fun k => by rw [aU]) (ag (by omega) (bo _))
    | succ d ih =>
      intro i hi
      have hw : wrap64 ((i : Int) + 1) = ((i + 1 : Nat) : Int) := by rw [w64 (by omega) (by omega)]; omega
      exact Ev.step (fun k => by rw [aU]) (ab (by omega) (ab (by omega) (ab (by omega) (ab rfl (by rw [hw]; exact ih (i + 1) (by omega))))))
  unfold bH
  exact ab rfl (go l.length 0 (by omega))
end Go.Proofs.Ytediodhkimacjaa.Y
namespace Go.Proofs.Ytediodhkimacjaa.Y
open Go.RowKit Go.Proofs.Ytediodhkimacjaa.X Go.Proofs.Ytediodhkimacjaa.M Go.Proofs.YtediodhkimacjaaW.PrintWords Go.Proofs.YtediodhkimacjaaW.PrintLast Go.Proofs.YtediodhkimacjaaW.PrintMore
theorem du : Ev (fun k => aG k) true := dT (fun k => cN k) (k := 60) (by decide +kernel)
end Go.Proofs.Ytediodhkimacjaa.Y
namespace Go.Proofs.Ytediodhkimacjaa.Pure
open Go.RowKit Go.Proofs.Ytediodhkimacjaa.X Go.Proofs.Ytediodhkimacjaa.M Go.Proofs.Ytediodhkimacjaa.Y Go.Proofs.YtediodhkimacjaaW.PrintWords Go.Proofs.YtediodhkimacjaaW.PrintLast Go.Proofs.YtediodhkimacjaaW.PrintMore
theorem PunyDecodes : bU := by
  intro s _
  refine dZ (r := true) ?_
  unfold bP
  refine Ev.ite (fun _ => bc du (bo _)) (fun hs => ?_)
  obtain ⟨R, h1, h2, h3, h4⟩ := ef s (by omega)
  refine bc h3 (bc h4 (ab rfl (bc (eH R.1 h1 (by omega)) (bc (eL R.1 (by omega)) ?_))))
  exact ab rfl (bc du (bo _))
end Go.Proofs.Ytediodhkimacjaa.Pure
namespace Go.Proofs.Ytediodhkimacjaa.punyDecodes
open Go.ChangeShapes Go.WideShapes Go.ChangeAt Go.RowKit
open Go.ChangeMaps (open_string shut_string)
theorem own : ownKnob Try.prog.godebug = none := by kernel_rfl
set_option maxRecDepth 100000 in
theorem lifted (os : Os) (started : os.Started) (H : Type) (enc : TypeId × Value → H) :
    ReturnsInHanded {} Try.checked os 3 .any (Rows.punyDecodesSpec.pre6 enc Try.prog Try.f3 Rows.punyDecodesRow.domain false) (Rows.punyDecodesSpec.post enc Try.prog Try.f3 false true false false) := by
  refine returnsInHanded_of_change_sized (C := Try.checked) own started (by kernel_rfl) Try.func3
    (ChangeSpec.witness6 (enc := enc) (C := Try.checked) false ⟨#[], #[.string ByteArray.empty], []⟩ 8 (by kernel_rfl) (by kernel_rfl) (by kernel_rfl) (by kernel_rfl)) ?_
  intro W base args ds gs before hval0 hW hcnd hsz0 _
  have hsz : (DataW.weightsEach Try.prog (Try.f3.params.toList ++ Rows.punyDecodesSpec.plain.varTypes Try.prog) (ds ++ gs)).all (· ≤ reachBytes) = true := hsz0
  have hval : ∀ (j : Nat) t v, Try.f3.params[j]? = some t → args[j]? = some v → Value.okWide Try.prog W .any base t v := hval0
  have hW' := hW
  obtain ⟨p, q, hA0, hV, rfl, hfz, hnd⟩ := hW
  have hA : DataW.TrodAll enc Try.prog W 0 (fun _ => true) true Try.f3.params.toList args.toList ds p := hA0
  rw [Try.params3] at hA hval hsz
  obtain ⟨v0, vs0, d0, ds0, p0, q0, hargs, rfl, rfl, h0, r0⟩ := trodAll_cons hA
  obtain ⟨rfl, rfl, rfl⟩ := trodAll_nil r0
  obtain rfl : args = #[v0] := by cases args; simp_all
  obtain ⟨rfl, rfl⟩ := trodVars_none hV
  obtain ⟨a0, rfl, rfl, rfl, y0⟩ := open_string Try.underlying9 (hval 0 9 v0 rfl rfl) h0
  have w0 : a0.size ≤ 140737488351232 := by
    have z := sized_string hsz (j := 0) (t := 9) rfl rfl
    rw [Array.length_toList] at z
    exact z
  clear hA0 hval0 hsz0 hsz
  refine (X.co Pure.PunyDecodes a0 W w0).mono fun e W' ⟨he, bel⟩ => ?_
  subst he
  exact ⟨_, rfl, _, _, _, [], _, [], hW', trodAll_mk1 (shut_bool Try.underlying4 _), (trodAll_cons_mk (shut_string Try.underlying9 y0) trodAll_mk0), rfl, bel.frame _, fun h => by cases h⟩
theorem over : Rows.punyDecodesRow.holds Try.pinned (OpenSpec.ofChange Rows.punyDecodesSpec) :=
  OpenClaim.holds_of_wide 3 Try.f3 rfl rfl rfl rfl rfl rfl rfl ⟨rfl, rfl, rfl, rfl, rfl⟩ rfl rfl rfl rfl rfl (by kernel_rfl) Try.func3 (by kernel_rfl)
    (of_decide_eq_true (by kernel_rfl)) (by unfold Func.isWrapper; first | (rw [if_pos (by decide +kernel)]; kernel_rfl) | (rw [if_neg (by decide +kernel)]; exact ⟨rfl, rfl⟩))
    (fun os started H enc _ => lifted os started H enc)
theorem proved : Rows.PunyDecodesSaid := over
#print axioms proved
end Go.Proofs.Ytediodhkimacjaa.punyDecodes
namespace Go.Proofs.Ytediodhkimacjaa
theorem punyDecodes_holds : Rows.PunyDecodesSaid := punyDecodes.proved
end Go.Proofs.Ytediodhkimacjaa
