/- Texts that the law's proof needs, joined by a program of this session. -/
import Derived.Test.YtpmflpeckoeooaaGreatDoorZSyntaxParses3
import Derived.Test.YtpmflpeckoeooaaGreatDoorZSyntaxParses4
import Derived.Test.YtpmflpeckoeooaaGreatDoorZSyntaxParses5
import Derived.Test.YtpmflpeckoeooaaGreatDoorZSyntaxParses8
import Derived.Test.YtpmflpeckoeooaaGreatDoorZSyntaxParses9
import Derived.Test.YtpmflpeckoeooaaGreatDoorZSyntaxParses10
import Derived.Test.YtpmflpeckoeooaaGreatDoorZSyntaxParses12
import Derived.Test.YtpmflpeckoeooaaGreatDoorZSyntaxParses13
set_option linter.unusedSimpArgs false
set_option linter.unusedVariables false
namespace Go.Proofs.YtpmflpeckoeooaaGreatDoor.Y
open Go.RowKit Go.Proofs.YtpmflpeckoeooaaGreatDoor.X Go.Proofs.YtpmflpeckoeooaaGreatDoor.M Go.Proofs.YtpmflpeckoeooaaGreatDoorW.PrintWords Go.Proofs.YtpmflpeckoeooaaGreatDoorW.PrintLast Go.Proofs.YtpmflpeckoeooaaGreatDoorW.PrintMore
def p10 : Nat → Int
  | 0 => 1
  | 1 => 10
  | 2 => 100
  | _ => 1000
theorem wL {i : Nat} (hi : i < 3) {n b : Int} (h0 : 0 ≤ n) (h1 : n < p10 i) (b0 : 48 ≤ b) (b1 : b ≤ 57) : 0 ≤ 10 * n + (b - 48) ∧ 10 * n + (b - 48) < p10 (i + 1) ∧ n ≤ 1000 := by
  rcases i with _ | _ | _ | i
  · simp only [p10] at *; omega
  · simp only [p10] at *; omega
  · simp only [p10] at *; omega
  · omega
theorem tM (s : ByteArray) (h3 : s.size ≤ 3) : ∀ d i : Nat, ∀ n : Int, i + d = s.size → 0 ≤ n → n < p10 i → Ev (fun k => dy k s n (s.size : Int) (i : Int))
    (if ((aa s).drop i).all eb then (((aa s).drop i).foldl (fun n b => 10 * n + (b - 48)) n % 256, decide (((aa s).drop i).foldl (fun n b => 10 * n + (b - 48)) n ≤ 255)) else (0, false)) := by
  intro d
  induction d with
  | zero =>
    intro i n hi _ _
    rw [List.drop_of_length_le (by rw [af]; omega)]
    refine Ev.step (fun k => by rw [dy]) ?_
    exact ae (by omega) (az _)
  | succ d ih =>
    intro i n hi h0 h1
    rcases br s i (by omega) with ⟨h, _⟩ | ⟨h, e, b0, b1⟩
    · omega
    refine Ev.step (fun k => by rw [dy]) ?_
    refine ab (by omega) (ab (by omega) (ab (by omega) (ah (t6 2 b0 b1) ?_)))
    rw [e, qp b0 b1, List.all_cons, List.foldl_cons]
    cases hd : eb (bt s (i : Int))
    · refine ae (by simp) (Ev.val (by simp))
    · refine ab rfl ?_
      have hb := i1.1 hd
      have hst := wL (i := i) (by omega) h0 h1 hb.1 hb.2
      have e1 : wrap64 (wrap64 (10 * n) + (bt s (i : Int) - 48) % 256) = 10 * n + (bt s (i : Int) - 48) := by
        rw [w64 (x := 10 * n) (by omega) (by omega), w64 (by omega) (by omega)]; omega
      rw [e1, w64 (by omega) (by omega)]
      simp only [Bool.true_and]
      exact ih (i + 1) _ (by omega) hst.1 hst.2.1
theorem u0 (s : ByteArray) (hs : s.size ≤ 140737488351232) : ∃ n : Int, Ev (fun k => fe k s) (n, decide (0 ≤ d8 (aa s))) ∧ (0 ≤ d8 (aa s) → n = d8 (aa s)) := by
  have bad : (aa s).length = 0 ∨ 3 < (aa s).length ∨ (1 < (aa s).length ∧ (aa s).headD 0 = 48) → Ev (fun k => cr k s true) (0, decide (0 ≤ d8 (aa s))) ∧ ¬ 0 ≤ d8 (aa s) := by
    intro h
    have hd : d8 (aa s) = -1 := by unfold d8; rw [if_pos h]
    rw [hd]
    refine ⟨?_, by omega⟩
    refine Ev.step (fun k => by rw [cr]) ?_
    exact ab rfl (az _)
  have hh : 0 < s.size → (aa s).headD 0 = bt s 0 := by
    intro h
    rcases gS s with ⟨h2, _⟩ | ⟨_, e, _⟩
    · omega
    · rw [e]; rfl
  by_cases hb : (aa s).length = 0 ∨ 3 < (aa s).length ∨ (1 < (aa s).length ∧ (aa s).headD 0 = 48)
  · obtain ⟨h1, h2⟩ := bad hb
    refine ⟨0, ?_, fun h => absurd h h2⟩
    unfold fe
    rw [af] at hb
    refine Ev.ite (fun _ => h1) (fun _ => Ev.ite (fun _ => h1) (fun _ => Ev.ite (fun _ => ab (by omega) ?_) (fun _ => by omega)))
    have : (bt s 0 == 48) = true := by
      rw [beq_iff_eq, ← hh (by omega)]
      omega
    rw [this]
    exact h1
  · have hb2 := hb
    rw [af] at hb
    have fy : Ev (fun k => cr k s false) (if (aa s).all eb then (kB (aa s) % 256, decide (kB (aa s) ≤ 255)) else (0, false)) := by
      refine Ev.step (fun k => by rw [cr]) ?_
      refine ae (by simp) ?_
      exact tM s (by omega) s.size 0 0 (by omega) (by omega) (by decide)
    have all : Ev (fun k => fe k s) (if (aa s).all eb then (kB (aa s) % 256, decide (kB (aa s) ≤ 255)) else (0, false)) := by
      unfold fe
      refine ae (by omega) (ae (by omega) (Ev.ite (fun _ => ab (by omega) ?_) (fun _ => fy)))
      have : (bt s 0 == 48) = false := by
        rw [beq_eq_false_iff_ne, ← hh (by omega)]
        intro h
        omega
      rw [this]
      exact fy
    have hr := kV (aa s)
    unfold d8 at hr ⊢
    rw [if_neg hb2] at hr ⊢
    cases ha : (aa s).all eb
    · rw [ha] at all
      exact ⟨0, all, by simp⟩
    · rw [ha] at all
      by_cases h255 : kB (aa s) ≤ 255
      · rw [if_pos h255] at hr ⊢
        simp only [if_true] at hr all ⊢
        have h0 := oE ha
        rw [decide_eq_true h255] at all
        refine ⟨kB (aa s) % 256, ?_, fun _ => by omega⟩
        rw [decide_eq_true h0]
        exact all
      · rw [decide_eq_false h255] at all
        rw [if_neg h255]
        exact ⟨_, all, by simp⟩
def v4T (l : List Int) : Int × Int × Int × Int × Bool := match v4 l with
  | some (a, b, c, d) => (a, b, c, d, true)
  | none => (0, 0, 0, 0, false)
theorem pL (l : List Int) : (v4T l).2.2.2.2 = (v4 l).isSome := by
  unfold v4T
  cases v4 l with
  | none => rfl
  | some x => obtain ⟨a, b, c, d⟩ := x; rfl
theorem tE (l a b c d : List Int) (h : bT 46 l = [a, b, c, d]) : v4 l = if 0 ≤ d8 a ∧ 0 ≤ d8 b ∧ 0 ≤ d8 c ∧ 0 ≤ d8 d then some (d8 a, d8 b, d8 c, d8 d) else none := by
  unfold v4; rw [h]
theorem rI (l : List Int) (h : (bT 46 l).length ≠ 4) : v4 l = none := by
  unfold v4
  split
  · rename_i e; rw [e] at h; simp at h
  · rfl
theorem ox (R : List ByteArray) (i : Nat) (hi : i < R.length) (p : ByteArray) (hp : eW ByteArray.empty R (i : Int) = p) (hsz : p.size ≤ 140737488351232) (h4 : i < 4) (a b c d : Int) (r : Int × Int × Int × Int × Bool)
    (bad : ¬ 0 ≤ d8 (aa p) → r = (0, 0, 0, 0, false))
    (fy : 0 ≤ d8 (aa p) → Ev (fun k => eV k R (R.length : Int) ((i : Int) + 1) (if i = 0 then d8 (aa p) else a) (if i = 1 then d8 (aa p) else b) (if i = 2 then d8 (aa p) else c) (if i = 3 then d8 (aa p) else d)) r) :
    Ev (fun k => eV k R (R.length : Int) (i : Int) a b c d) r := by
  obtain ⟨n, h1, h2⟩ := u0 p hsz
  refine Ev.step (fun k => by rw [eV]) ?_
  rw [hp]
  refine ab (by omega) (ab (by omega) (ab (by omega) (ah h1 ?_)))
  simp only
  by_cases hd : 0 ≤ d8 (aa p)
  · rw [decide_eq_true hd]
    rw [h2 hd, w64 (by omega) (by omega)]
    have g := fy hd
    refine ab rfl ?_
    have : i = 0 ∨ i = 1 ∨ i = 2 ∨ i = 3 := by omega
    rcases this with rfl | rfl | rfl | rfl
    · exact ab (by omega) g
    · exact ae (by omega) (ab (by omega) g)
    · exact ae (by omega) (ae (by omega) (ab (by omega) g))
    · exact ae (by omega) (ae (by omega) (ae (by omega) (ab (by omega) g)))
  · rw [decide_eq_false hd]
    exact ae (by simp) (Ev.val (bad hd).symm)
theorem pR {α : Type} {R : List α} (h : R.length = 4) : ∃ a b c d, R = [a, b, c, d] := by
  match R, h with
  | [a, b, c, d], _ => exact ⟨a, b, c, d, rfl⟩
theorem od {R : List ByteArray} {c : Int} {l : List Int} (h : R.map aa = bT c l) {p : ByteArray} (hp : p ∈ R) : p.size ≤ l.length := by
  rw [← af]
  exact (pB (c := c) (l := l) _ (by rw [← h]; exact List.mem_map.2 ⟨p, hp, rfl⟩)).2.2
theorem yO (s : ByteArray) (hs : s.size ≤ 1000000) : Ev (fun k => jK k s) (v4T (aa s)) := by
  obtain ⟨R, hR, hL⟩ := tB s (⟨#[46]⟩ : ByteArray) 46 rfl (by omega)
  unfold jK
  refine aG hR ?_
  have hlen : R.length = (bT 46 (aa s)).length := by rw [← hL, List.length_map]
  by_cases h4 : R.length = 4
  · refine ab (by omega) ?_
    obtain ⟨a, b, c, d, rfl⟩ := pR h4
    have hsz : ∀ p ∈ [a, b, c, d], p.size ≤ 140737488351232 := fun p hp => by have := od hL hp; rw [af] at this; omega
    have hv := tE (aa s) _ _ _ _ (by rw [← hL]; rfl)
    have badv : ¬ (0 ≤ d8 (aa a) ∧ 0 ≤ d8 (aa b) ∧ 0 ≤ d8 (aa c) ∧ 0 ≤ d8 (aa d)) → v4T (aa s) = (0, 0, 0, 0, false) := by
      intro h
      unfold v4T
      rw [hv, if_neg h]
    refine ox [a, b, c, d] 0 (by simp) a rfl (hsz a (by simp)) (by omega) 0 0 0 0 _ (fun h => badv (fun x => h x.1)) (fun ha => ?_)
    refine ox [a, b, c, d] 1 (by simp) b rfl (hsz b (by simp)) (by omega) _ _ _ _ _ (fun h => badv (fun x => h x.2.1)) (fun hb => ?_)
    refine ox [a, b, c, d] 2 (by simp) c rfl (hsz c (by simp)) (by omega) _ _ _ _ _ (fun h => badv (fun x => h x.2.2.1)) (fun hc => ?_)
    refine ox [a, b, c, d] 3 (by simp) d rfl (hsz d (by simp)) (by omega) _ _ _ _ _ (fun h => badv (fun x => h x.2.2.2)) (fun hd => ?_)
    refine Ev.step (fun k => by rw [eV]) ?_
    refine ae (by simp) (Ev.val ?_)
    rw [if_pos ⟨ha, hb, hc, hd⟩] at hv
    unfold v4T
    rw [hv]
    simp
  · refine ae (by omega) (Ev.val ?_)
    unfold v4T
    rw [rI _ (by omega)]
theorem wu {n : Int} (h0 : 0 ≤ n) (h1 : n ≤ 255) : ∃ t : ByteArray, Ev (fun k => bi k n) t ∧ aa t = ny n := by
  have := b6 (p := fun n => ((bi 5 n).map aa) = some (ny n)) (by decide +kernel) h0 h1
  obtain ⟨t, h2, h3⟩ := Option.map_eq_some_iff.1 this
  exact ⟨t, lL (fun k => mi n k) h2, h3⟩
theorem wS (R : List ByteArray) (i : Nat) (hi : i < R.length) (h4 : i < 4) (p : ByteArray) (hp : eW ByteArray.empty R (i : Int) = p) (a b c d : Int) (r : Int × Int × Int × Int × Bool)
    (bad : ¬ 0 ≤ d8 (aa p) → r = (0, 0, 0, 0, false))
    (fy : 0 ≤ d8 (aa p) → Ev (fun k => bw k R ((i : Int) + 1) (if i = 0 then d8 (aa p) else a) (if i = 1 then d8 (aa p) else b) (if i = 2 then d8 (aa p) else c) (if i = 3 then d8 (aa p) else d)) r) :
    ∀ m n : Nat, n + m = 256 → Ev (fun k => db k R (i : Int) (if 0 ≤ d8 (aa p) ∧ d8 (aa p) < n then d8 (aa p) else -1) (n : Int) a b c d) r := by
  intro m
  induction m with
  | zero =>
    intro n hn
    refine Ev.step (fun k => by rw [db]) ?_
    refine ae (by omega) ?_
    have hr := kV (aa p)
    by_cases hd : 0 ≤ d8 (aa p)
    · rw [if_pos ⟨hd, by omega⟩, w64 (by omega) (by omega)]
      have g := fy hd
      refine ae (by omega) (ab (by omega) ?_)
      have : i = 0 ∨ i = 1 ∨ i = 2 ∨ i = 3 := by omega
      rcases this with rfl | rfl | rfl | rfl
      · exact ab (by omega) g
      · exact ae (by omega) (ab (by omega) g)
      · exact ae (by omega) (ae (by omega) (ab (by omega) g))
      · exact ae (by omega) (ae (by omega) (ae (by omega) (ab (by omega) g)))
    · rw [if_neg (fun x => hd x.1)]
      exact ab (by omega) (Ev.val (bad hd).symm)
  | succ m ih =>
    intro n hn
    obtain ⟨t, h1, h2⟩ := wu (n := (n : Int)) (by omega) (by omega)
    refine Ev.step (fun k => by rw [db]) ?_
    refine ab (by omega) (ah h1 (ab (by omega) (ab (by omega) ?_)))
    rw [hp, w64 (by omega) (by omega)]
    have key : t.toList = p.toList ↔ d8 (aa p) = (n : Int) := by
      rw [kL, h2]
      exact yz (by omega) (by omega)
    have nx := ih (n + 1) (by omega)
    refine Ev.ite (fun h => ?_) (fun h => ?_)
    · have e := key.1 h
      have e2 : (if 0 ≤ d8 (aa p) ∧ d8 (aa p) < ((n + 1 : Nat) : Int) then d8 (aa p) else -1) = (n : Int) := by rw [if_pos (by omega), e]
      rw [e2] at nx
      exact nx
    · have e := fun x => h (key.2 x)
      have e2 : (if 0 ≤ d8 (aa p) ∧ d8 (aa p) < ((n + 1 : Nat) : Int) then d8 (aa p) else -1) = (if 0 ≤ d8 (aa p) ∧ d8 (aa p) < (n : Int) then d8 (aa p) else -1) := by
        by_cases hc : 0 ≤ d8 (aa p) ∧ d8 (aa p) < (n : Int)
        · rw [if_pos hc, if_pos ⟨hc.1, by omega⟩]
        · rw [if_neg hc, if_neg (fun x => hc ⟨x.1, by have : d8 (aa p) ≠ (n : Int) := e; omega⟩)]
      rw [e2] at nx
      exact nx
theorem lS (R : List ByteArray) (i : Nat) (hi : i < R.length) (h4 : i < 4) (p : ByteArray) (hp : eW ByteArray.empty R (i : Int) = p) (a b c d : Int) (r : Int × Int × Int × Int × Bool)
    (bad : ¬ 0 ≤ d8 (aa p) → r = (0, 0, 0, 0, false))
    (fy : 0 ≤ d8 (aa p) → Ev (fun k => bw k R ((i : Int) + 1) (if i = 0 then d8 (aa p) else a) (if i = 1 then d8 (aa p) else b) (if i = 2 then d8 (aa p) else c) (if i = 3 then d8 (aa p) else d)) r) :
    Ev (fun k => bw k R (i : Int) a b c d) r := by
  refine Ev.step (fun k => by rw [bw]) ?_
  refine ab (by omega) ?_
  have := wS R i hi h4 p hp a b c d r bad fy 256 0 (by omega)
  rw [if_neg (by omega)] at this
  exact this
theorem tz (s : ByteArray) (hs : s.size ≤ 1000000) : Ev (fun k => fX k s) (v4T (aa s)) := by
  obtain ⟨R, hR, hL⟩ := tv s 46 hs
  unfold fX
  refine ah hR ?_
  have hlen : R.length = (bT 46 (aa s)).length := by rw [← hL, List.length_map]
  by_cases h4 : R.length = 4
  · refine ab (by omega) ?_
    obtain ⟨a, b, c, d, rfl⟩ := pR h4
    have hv := tE (aa s) _ _ _ _ (by rw [← hL]; rfl)
    have badv : ¬ (0 ≤ d8 (aa a) ∧ 0 ≤ d8 (aa b) ∧ 0 ≤ d8 (aa c) ∧ 0 ≤ d8 (aa d)) → v4T (aa s) = (0, 0, 0, 0, false) := by
      intro h
      unfold v4T
      rw [hv, if_neg h]
    refine lS [a, b, c, d] 0 (by simp) (by omega) a rfl 0 0 0 0 _ (fun h => badv (fun x => h x.1)) (fun ha => ?_)
    refine lS [a, b, c, d] 1 (by simp) (by omega) b rfl _ _ _ _ _ (fun h => badv (fun x => h x.2.1)) (fun hb => ?_)
    refine lS [a, b, c, d] 2 (by simp) (by omega) c rfl _ _ _ _ _ (fun h => badv (fun x => h x.2.2.1)) (fun hc => ?_)
    refine lS [a, b, c, d] 3 (by simp) (by omega) d rfl _ _ _ _ _ (fun h => badv (fun x => h x.2.2.2)) (fun hd => ?_)
    refine Ev.step (fun k => by rw [bw]) ?_
    refine ae (by simp) (Ev.val ?_)
    rw [if_pos ⟨ha, hb, hc, hd⟩] at hv
    unfold v4T
    rw [hv]
    simp
  · refine ae (by omega) (Ev.val ?_)
    unfold v4T
    rw [rI _ (by omega)]
theorem lv (n : Int) (h0 : 0 ≤ n) (h1 : n < 2 ^ 16) : IntKind.u16.wrap n = n := by
  simp [IntKind.wrap, IntKind.bits, IntKind.signed]
  omega
theorem wk (n : Int) (h0 : 0 ≤ n) (h1 : n < 2 ^ 62) : IntKind.i64.wrap n = n := by
  rw [IntKind.wrap_i64]; omega
theorem rG {a b : Int} (a0 : 0 ≤ a) (a1 : a ≤ 255) (b0 : 0 ≤ b) (b1 : b ≤ 255) : Go.bits .or .u16 (IntKind.u16.wrap (IntKind.u16.wrap a * 256)) (IntKind.u16.wrap b) = 256 * a + b := by
  rw [lv a a0 (by omega), lv (a * 256) (by omega) (by omega), lv b b0 (by omega)]
  rw [bits_join .u16 16 (by decide) lv 8 (a * 256) b (by omega) (by omega) (by omega) (by omega) (by omega) (by omega)]
  omega
theorem xT {a b : Int} (a0 : 0 ≤ a) (a1 : a ≤ 1000000) (b0 : 0 ≤ b) (b1 : b ≤ 15) : Go.bits .or .i64 (wrap64 (a * 16)) b = 16 * a + b := by
  rw [w64 (by omega) (by omega), bits_join .i64 62 (by decide) wk 4 (a * 16) b (by omega) (by omega) (by omega) (by omega) (by omega) (by omega)]
  omega
def p16 : Nat → Int
  | 0 => 1
  | 1 => 16
  | 2 => 256
  | 3 => 4096
  | _ => 65536
theorem rm {i : Nat} (hi : i < 4) {n b : Int} (h0 : 0 ≤ n) (h1 : n < p16 i) (b0 : 0 ≤ b) (b1 : b ≤ 15) : 0 ≤ 16 * n + b ∧ 16 * n + b < p16 (i + 1) ∧ n ≤ 65536 := by
  rcases i with _ | _ | _ | _ | i
  · simp only [p16] at *; omega
  · simp only [p16] at *; omega
  · simp only [p16] at *; omega
  · simp only [p16] at *; omega
  · omega
theorem yo (s : ByteArray) (h4 : s.size ≤ 4) : ∀ d i : Nat, ∀ n : Int, i + d = s.size → 0 ≤ n → n < p16 i → Ev (fun k => fp k s n (s.size : Int) (i : Int))
    (if ((aa s).drop i).all bu then (jz n ((aa s).drop i), true) else (0, false)) := by
  intro d
  induction d with
  | zero =>
    intro i n hi h0 h1
    rw [List.drop_of_length_le (by rw [af]; omega)]
    refine Ev.step (fun k => by rw [fp]) ?_
    refine ae (by omega) (Ev.val ?_)
    have : n < 65536 := by
      have h := h1
      have : i ≤ 4 := by omega
      rcases i with _ | _ | _ | _ | _ | i
      all_goals (first | omega | (simp only [p16] at h; omega))
    rw [lv n h0 (by omega)]
    rfl
  | succ d ih =>
    intro i n hi h0 h1
    rcases br s i (by omega) with ⟨h, _⟩ | ⟨h, e, b0, b1⟩
    · omega
    refine Ev.step (fun k => by rw [fp]) ?_
    refine ab (by omega) (ab (by omega) (ab (by omega) (ah (qd b0 b1) ?_)))
    rw [e, List.all_cons]
    have hr := ki (bt s (i : Int))
    by_cases hv0 : hv (bt s (i : Int)) < 0
    · simp only [if_pos hv0]
      rw [(vo _).1 hv0]
      exact ae (by simp) (Ev.val (by simp))
    · simp only [if_neg hv0]
      rw [(kr _).1 (by omega)]
      refine ab (by simp) ?_
      have hst := rm (i := i) (by omega) h0 h1 (b := hv (bt s (i : Int))) (by omega) (by omega)
      rw [xT h0 (by omega) (by omega) (by omega), w64 (by omega) (by omega)]
      simp only [Bool.true_and, jz]
      exact ih (i + 1) _ (by omega) hst.1 hst.2.1
theorem yP (s : ByteArray) (hs : s.size ≤ 140737488351232) : Ev (fun k => i4 k s) (if fk (aa s) < 0 then (0, false) else (fk (aa s), true)) := by
  have hb := tW (aa s) 0 1
  have bad : (aa s).length = 0 ∨ 4 < (aa s).length → Ev (fun k => fo k s true) (if fk (aa s) < 0 then (0, false) else (fk (aa s), true)) := by
    intro h
    have : fk (aa s) = -1 := by unfold fk; rw [if_pos h]
    rw [this]
    refine Ev.step (fun k => by rw [fo]) ?_
    exact ab rfl (az _)
  unfold i4
  have hl := af s
  refine Ev.ite (fun h => bad (by omega)) (fun h => ?_)
  by_cases h4 : (s.size : Int) > 4
  · rw [decide_eq_true h4]
    exact bad (by omega)
  · rw [decide_eq_false h4]
    refine Ev.step (fun k => by rw [fo]) ?_
    refine ae (by simp) ?_
    have := yo s (by omega) s.size 0 0 (by omega) (by omega) (by decide)
    rw [List.drop_zero] at this
    have e : (if fk (aa s) < 0 then ((0 : Int), false) else (fk (aa s), true)) = (if (aa s).all bu then (jz 0 (aa s), true) else (0, false)) := by
      have hw : fk (aa s) = if (aa s).all bu then jz 0 (aa s) else -1 := by
        unfold fk
        rw [if_neg (by omega)]
      rw [hw]
      by_cases ha : (aa s).all bu = true
      · have := hb ha (by omega) (by omega)
        simp only [if_pos ha]
        rw [if_neg (by omega)]
      · simp only [if_neg ha]
        rw [if_pos (by omega)]
    rw [e]
    exact this
theorem uv (s : ByteArray) (h4 : s.size ≤ 4) : ∀ d i : Nat, ∀ n : Int, i + d = s.size → 0 ≤ n → n < p16 i → Ev (fun k => df k s n (i : Int))
    (if ((aa s).drop i).all bu then jz n ((aa s).drop i) else -1) := by
  intro d
  induction d with
  | zero =>
    intro i n hi h0 h1
    rw [List.drop_of_length_le (by rw [af]; omega)]
    refine Ev.step (fun k => by rw [df]) ?_
    exact ae (by omega) (az _)
  | succ d ih =>
    intro i n hi h0 h1
    rcases br s i (by omega) with ⟨h, _⟩ | ⟨h, e, b0, b1⟩
    · omega
    refine Ev.step (fun k => by rw [df]) ?_
    refine ab (by omega) (ab (by omega) (ah (lT b0 b1) ?_))
    rw [e, List.all_cons]
    have hr := ki (bt s (i : Int))
    by_cases hv0 : hv (bt s (i : Int)) < 0
    · rw [(vo _).1 hv0]
      exact ab hv0 (Ev.val (by simp))
    · rw [(kr _).1 (by omega)]
      refine ae hv0 ?_
      have hst := rm (i := i) (by omega) h0 h1 (b := hv (bt s (i : Int))) (by omega) (by omega)
      rw [w64 (x := 16 * n) (by omega) (by omega), w64 (x := 16 * n + hv (bt s (i : Int))) (by omega) (by omega), w64 (by omega) (by omega)]
      simp only [Bool.true_and, jz]
      exact ih (i + 1) _ (by omega) hst.1 hst.2.1
theorem vN (s : ByteArray) (hs : s.size ≤ 140737488351232) : Ev (fun k => gf k s) (fk (aa s)) := by
  have bad : (aa s).length = 0 ∨ 4 < (aa s).length → Ev (fun k => de k s true) (fk (aa s)) := by
    intro h
    have : fk (aa s) = -1 := by unfold fk; rw [if_pos h]
    rw [this]
    refine Ev.step (fun k => by rw [de]) ?_
    exact ab rfl (az _)
  unfold gf
  have hl := af s
  refine Ev.ite (fun h => bad (by omega)) (fun h => ?_)
  by_cases h4 : (s.size : Int) > 4
  · rw [decide_eq_true h4]
    exact bad (by omega)
  · rw [decide_eq_false h4]
    refine Ev.step (fun k => by rw [de]) ?_
    refine ae (by simp) ?_
    have := uv s (by omega) s.size 0 0 (by omega) (by omega) (by decide)
    rw [List.drop_zero] at this
    unfold fk
    rw [if_neg (by omega)]
    exact this
def dp (out : List Int) : Option (List Int) → List Int × Bool
  | some w => (out ++ w, true)
  | none => ([], false)
theorem ld {α : Type} {L : List α} {i : Nat} (h : i < L.length) (z : α) : L.drop i = L.getD i z :: L.drop (i + 1) := by
  rw [List.drop_eq_getElem_cons h, List.getD_eq_getElem?_getD, List.getElem?_eq_getElem h]; rfl
theorem mE {α : Type} {L : List α} {i : Nat} (h : i < L.length) : L.drop (i + 1) = [] ↔ i + 1 = L.length := by
  rw [List.drop_eq_nil_iff]; omega
theorem xo (fin : Bool) (R : List ByteArray) (L : List (List Int)) (hL : R.map aa = L) (hp : ∀ p ∈ R, p.size ≤ 1000000) (hR : R.length ≤ 1000001) : ∀ d i : Nat, i + d = R.length → ∀ out : List Int, out.length ≤ i →
    Ev (fun k => ee k fin out R R (R.length : Int) (i : Int)) (dp out (fW fin (L.drop i))) := by
  have hlen : L.length = R.length := by rw [← hL, List.length_map]
  intro d
  induction d with
  | zero =>
    intro i hi out ho
    rw [List.drop_of_length_le (by omega)]
    refine Ev.step (fun k => by rw [ee]) ?_
    exact ae (by omega) (Ev.val (by simp [fW, dp]))
  | succ d ih =>
    intro i hi out ho
    have hmem : eW ByteArray.empty R (i : Int) ∈ R := by
      unfold eW
      rw [Int.toNat_natCast, List.getD_eq_getElem?_getD, List.getElem?_eq_getElem (by omega)]
      exact List.getElem_mem _
    have hq := rr hL i
    refine Ev.step (fun k => by rw [ee]) ?_
    refine ab (by omega) (ab (by omega) (ab (by omega) (ah (yO _ (hp _ hmem)) ?_)))
    rw [hq, ld (L := L) (i := i) (by omega) [], jd, pL]
    have last : ∀ x : ByteArray, aa x = L.getD i [] → x.size ≤ 1000000 → ∀ a b c e : Int, ¬ (L.drop (i + 1) = [] ∧ fin = true ∧ (v4 (L.getD i [])).isSome = true) →
        Ev (fun k => ed k fin out R x R (R.length : Int) (i : Int) false a b c e) (dp out (if L.drop (i + 1) = [] ∧ fin = true ∧ (v4 (L.getD i [])).isSome = true then (v4 (L.getD i [])).map fun x => [256 * x.1 + x.2.1, 256 * x.2.2.1 + x.2.2.2] else if fk (L.getD i []) < 0 then none else (fW fin (L.drop (i + 1))).map fun l => fk (L.getD i []) :: l)) := by
      intro x hx hxs a b c e hno
      rw [if_neg hno]
      refine Ev.step (fun k => by rw [ed]) ?_
      refine ae (by simp) (ah (yP x (by omega)) ?_)
      rw [hx]
      by_cases hw : fk (L.getD i []) < 0
      · simp only [if_pos hw]
        exact ae (by simp) (az _)
      · simp only [if_neg hw]
        refine ab (by simp) (ab (by omega) ?_)
        rw [w64 (by omega) (by omega)]
        have := ih (i + 1) (by omega) (out ++ [fk (L.getD i [])]) (by rw [List.length_append, List.length_singleton]; omega)
        have e2 : dp (out ++ [fk (L.getD i [])]) (fW fin (L.drop (i + 1))) = dp out ((fW fin (L.drop (i + 1))).map fun l => fk (L.getD i []) :: l) := by
          cases fW fin (L.drop (i + 1)) with
          | none => rfl
          | some w => simp [dp]
        rw [← e2]
        exact this
    refine Ev.ite (fun h4 => ?_) (fun h4 => last _ hq (hp _ hmem) _ _ _ _ (fun x => h4 x.2.2))
    refine Ev.ite (fun hf => ?_) (fun hf => last _ hq (hp _ hmem) _ _ _ _ (fun x => hf x.2.1))
    rw [w64 (by omega) (by omega)]
    by_cases hend : i + 1 = R.length
    · have : ((i : Int) == (R.length : Int) - 1) = true := by rw [beq_iff_eq]; omega
      rw [this, if_pos ⟨(mE (by omega)).2 (by omega), hf, h4⟩]
      refine Ev.step (fun k => by rw [ed]) ?_
      refine ab rfl ?_
      obtain ⟨⟨a, b, c, e⟩, hx⟩ := Option.isSome_iff_exists.1 h4
      have hr := rJ hx
      rw [hx]
      unfold v4T
      rw [hx]
      simp only
      rw [rG hr.1.1 hr.1.2 hr.2.1.1 hr.2.1.2, rG hr.2.2.1.1 hr.2.2.1.2 hr.2.2.2.1 hr.2.2.2.2]
      refine aG rfl (ab (by simp only [List.length_cons, List.length_nil]; omega) (Ev.val ?_))
      rfl
    · have : ((i : Int) == (R.length : Int) - 1) = false := by rw [beq_eq_false_iff_ne]; omega
      rw [this]
      exact last _ hq (hp _ hmem) _ _ _ _ (fun x => hend (by have := (mE (L := L) (i := i) (by omega)).1 x.1; omega))
theorem ko (s : ByteArray) : s.toList = ([] : List UInt8) ↔ aa s = [] := by
  rw [toList_data]
  unfold aa
  exact List.map_eq_nil_iff.symm
theorem qf (s : ByteArray) (fin : Bool) (hs : s.size ≤ 1000000) : Ev (fun k => cd k s fin) (dp [] (gi fin (aa s))) := by
  unfold cd gi
  refine Ev.ite (fun h => ?_) (fun h => ?_)
  · rw [if_pos ((ko s).1 h)]
    exact Ev.val rfl
  · rw [if_neg (fun x => h ((ko s).2 x))]
    obtain ⟨R, hR, hL⟩ := tB s (⟨#[58]⟩ : ByteArray) 58 rfl (by omega)
    refine aG hR ?_
    have hlen := kJ 58 (aa s)
    rw [← hL, List.length_map, af] at hlen
    have := xo fin R _ hL (fun p hp => by have := od hL hp; rw [af] at this; omega) (by omega) R.length 0 (by omega) [] (by simp)
    rw [List.drop_zero] at this
    exact this
theorem vK (R : List ByteArray) (L : List (List Int)) (hL : R.map aa = L) (hp : ∀ p ∈ R, p.size ≤ 1000000) (hR : R.length ≤ 1000001) : ∀ d i : Nat, i + d = R.length → ∀ out : List Int, out.length ≤ i →
    Ev (fun k => cp k out R (i : Int)) (dp out (fW true (L.drop i))) := by
  have hlen : L.length = R.length := by rw [← hL, List.length_map]
  intro d
  induction d with
  | zero =>
    intro i hi out ho
    rw [List.drop_of_length_le (by omega)]
    refine Ev.step (fun k => by rw [cp]) ?_
    exact ae (by omega) (Ev.val (by simp [fW, dp]))
  | succ d ih =>
    intro i hi out ho
    have hmem : eW ByteArray.empty R (i : Int) ∈ R := by
      unfold eW
      rw [Int.toNat_natCast, List.getD_eq_getElem?_getD, List.getElem?_eq_getElem (by omega)]
      exact List.getElem_mem _
    have hq := rr hL i
    refine Ev.step (fun k => by rw [cp]) ?_
    refine ab (by omega) (ab (by omega) (ah (tz _ (hp _ hmem)) ?_))
    rw [hq, ld (L := L) (i := i) (by omega) [], jd, pL]
    have last : ∀ a b c e : Int, ¬ (L.drop (i + 1) = [] ∧ true = true ∧ (v4 (L.getD i [])).isSome = true) →
        Ev (fun k => dr k out R (i : Int) false a b c e) (dp out (if L.drop (i + 1) = [] ∧ true = true ∧ (v4 (L.getD i [])).isSome = true then (v4 (L.getD i [])).map fun x => [256 * x.1 + x.2.1, 256 * x.2.2.1 + x.2.2.2] else if fk (L.getD i []) < 0 then none else (fW true (L.drop (i + 1))).map fun l => fk (L.getD i []) :: l)) := by
      intro a b c e hno
      rw [if_neg hno]
      refine Ev.step (fun k => by rw [dr]) ?_
      refine ae (by simp) (ab (by omega) (ab (by omega) (ah (vN _ (by have := hp _ hmem; omega)) ?_)))
      rw [hq]
      refine Ev.ite (fun hw => ?_) (fun hw => ?_)
      · rw [if_pos hw]
        exact az _
      · rw [if_neg hw]
        refine ab (by omega) ?_
        rw [w64 (by omega) (by omega)]
        have := ih (i + 1) (by omega) (out ++ [fk (L.getD i [])]) (by rw [List.length_append, List.length_singleton]; omega)
        have e2 : dp (out ++ [fk (L.getD i [])]) (fW true (L.drop (i + 1))) = dp out ((fW true (L.drop (i + 1))).map fun l => fk (L.getD i []) :: l) := by
          cases fW true (L.drop (i + 1)) with
          | none => rfl
          | some w => simp [dp]
        rw [← e2]
        exact this
    refine Ev.ite (fun h4 => ?_) (fun h4 => last _ _ _ _ (fun x => h4 x.2.2))
    rw [w64 (by omega) (by omega)]
    by_cases hend : i + 1 = R.length
    · have : ((i : Int) == (R.length : Int) - 1) = true := by rw [beq_iff_eq]; omega
      rw [this, if_pos ⟨(mE (by omega)).2 (by omega), rfl, h4⟩]
      refine Ev.step (fun k => by rw [dr]) ?_
      refine ab rfl ?_
      obtain ⟨⟨a, b, c, e⟩, hx⟩ := Option.isSome_iff_exists.1 h4
      have hr := rJ hx
      rw [hx]
      unfold v4T
      rw [hx]
      simp only
      rw [w64 (x := 256 * a) (by omega) (by omega), w64 (x := 256 * a + b) (by omega) (by omega), w64 (x := 256 * c) (by omega) (by omega), w64 (x := 256 * c + e) (by omega) (by omega)]
      refine aG rfl (ab (by simp only [List.length_cons, List.length_nil]; omega) (Ev.val ?_))
      rfl
    · have : ((i : Int) == (R.length : Int) - 1) = false := by rw [beq_eq_false_iff_ne]; omega
      rw [this]
      exact last _ _ _ _ (fun x => hend (by have := (mE (L := L) (i := i) (by omega)).1 x.1; omega))
theorem o1 (s : ByteArray) (hs : s.size ≤ 1000000) : Ev (fun k => et k s) (dp [] (gi true (aa s))) := by
  unfold et gi
  refine aG rfl ?_
  refine Ev.ite (fun h => ?_) (fun h => ?_)
  · rw [if_pos ((ko s).1 h)]
    exact Ev.val rfl
  · rw [if_neg (fun x => h ((ko s).2 x))]
    obtain ⟨R, hR, hL⟩ := tv s 58 hs
    refine ah hR ?_
    have hlen := kJ 58 (aa s)
    rw [← hL, List.length_map, af] at hlen
    have := vK R _ hL (fun p hp => by have := od hL hp; rw [af] at this; omega) (by omega) R.length 0 (by omega) [] (by simp)
    rw [List.drop_zero] at this
    exact this
end Go.Proofs.YtpmflpeckoeooaaGreatDoor.Y
namespace Go.Proofs.YtpmflpeckoeooaaGreatDoor.Y
open Go.RowKit Go.Proofs.YtpmflpeckoeooaaGreatDoor.X Go.Proofs.YtpmflpeckoeooaaGreatDoor.M Go.Proofs.YtpmflpeckoeooaaGreatDoorW.PrintWords Go.Proofs.YtpmflpeckoeooaaGreatDoorW.PrintLast Go.Proofs.YtpmflpeckoeooaaGreatDoorW.PrintMore
def nO (l : List Int) (b : Bool) : Int × Int × Int × Int × Int × Int × Int × Int × Bool := (l.getD 0 0, l.getD 1 0, l.getD 2 0, l.getD 3 0, l.getD 4 0, l.getD 5 0, l.getD 6 0, l.getD 7 0, b)
def iZ : List Int := [0, 0, 0, 0, 0, 0, 0, 0]
def v6T (l : List Int) : Int × Int × Int × Int × Int × Int × Int × Int × Bool := match v6 l with
  | some w => nO w true
  | none => nO iZ false
theorem wi (l : List Int) : (v6T l).2.2.2.2.2.2.2.2 = (v6 l).isSome := by
  unfold v6T
  cases v6 l <;> rfl
theorem yd (p : List Int) (h : p.length = 8) : aK ap 0 p 8 = p := by
  unfold aK ap
  rw [← h, List.take_length, h]
  simp
theorem wP (a b : List Int) (h : a.length + b.length ≤ 7) : aK (aK ap 0 a 8) (8 - b.length) b b.length = a ++ List.replicate (8 - a.length - b.length) 0 ++ b := by
  have hz : ap = List.replicate 8 0 := rfl
  unfold aK
  rw [hz]
  have e1 : a.take 8 = a := List.take_of_length_le (by omega)
  rw [e1, List.take_length]
  simp only [List.take_zero, List.nil_append, Nat.zero_add]
  rw [List.drop_replicate, List.take_append]
  have e2 : a.take (8 - b.length) = a := List.take_of_length_le (by omega)
  rw [e2, List.take_replicate]
  have e3 : (a ++ List.replicate (8 - a.length) 0).drop (8 - b.length + b.length) = ([] : List Int) := by
    apply List.drop_of_length_le
    rw [List.length_append, List.length_replicate]; omega
  rw [e3, List.append_nil, show min (8 - b.length - a.length) (8 - a.length) = 8 - a.length - b.length by omega]
theorem zp (s : ByteArray) (hs : s.size ≤ 1000000) : Ev (fun k => ks k s) (v6T (aa s)) := by
  unfold ks
  have hc := xi s (⟨#[58, 58]⟩ : ByteArray) (by omega) (by decide)
  have hb : aa (⟨#[58, 58]⟩ : ByteArray) = [58, 58] := rfl
  have hz : (⟨#[58, 58]⟩ : ByteArray).size = 2 := rfl
  rw [hb, hz] at hc
  refine aG hc ?_
  by_cases hneg : cx [58, 58] (aa s) < 0
  · simp only [if_pos hneg]
    refine ah (qf s _ hs) ?_
    simp only [Bool.not_false]
    unfold v6T v6
    rw [if_pos hneg]
    cases hr : gi true (aa s) with
    | none => exact ab rfl (Ev.val rfl)
    | some w =>
      refine ae (by simp [dp]) (ab (by simp) ?_)
      simp only [dp, List.nil_append, Option.bind_some]
      refine Ev.ite (fun h => ?_) (fun h => ?_)
      · rw [if_pos h, yd w h]
        exact Ev.val rfl
      · rw [if_neg h]
        exact Ev.val rfl
  · simp only [if_neg hneg]
    have hsp := lU (sub := [58, 58]) (l := aa s) (by omega)
    simp only [List.length_cons, List.length_nil, af] at hsp
    unfold v6T v6
    rw [if_neg hneg]
    generalize (cx [58, 58] (aa s)).toNat = j at hsp ⊢
    have h1 := qf (s.extract 0 j) (!true) (by rw [← af, ay, List.length_drop, List.length_take, af]; omega)
    have h2 := qf (s.extract (j + 2) s.size) true (by rw [← af, ay, List.length_drop, List.length_take, af]; omega)
    rw [ay, List.drop_zero] at h1
    rw [ba] at h2
    simp only [Bool.not_true] at h1 ⊢
    refine ah h1 ?_
    cases ha : gi false ((aa s).take j) with
    | none => exact ab rfl (Ev.val rfl)
    | some a =>
      refine ae (by simp [dp]) (ae (by simp) (ah h2 ?_))
      simp only [dp, List.nil_append, Option.bind_some]
      have hla : a.length ≤ 1000003 := by
        unfold gi at ha
        split at ha
        · cases ha; simp
        · have := om ha
          have := kJ 58 ((aa s).take j)
          rw [List.length_take, af] at this; omega
      cases hbb : gi true ((aa s).drop (j + 2)) with
      | none => exact ab rfl (Ev.val rfl)
      | some b =>
        have hlb : b.length ≤ 1000003 := by
          unfold gi at hbb
          split at hbb
          · cases hbb; simp
          · have := om hbb
            have := kJ 58 ((aa s).drop (j + 2))
            rw [List.length_drop, af] at this; omega
        refine ae (by simp [dp]) ?_
        simp only [dp, List.nil_append, Option.bind_some]
        have hw : wrap64 ((a.length : Int) + (b.length : Int)) = (a.length : Int) + (b.length : Int) := w64 (by omega) (by omega)
        simp only [hw]
        refine Ev.ite (fun h => ?_) (fun h => ab (by omega) ?_)
        · rw [if_neg (by omega)]
          exact Ev.val rfl
        · rw [if_pos (by omega), wP a b (by omega)]
          exact Ev.val rfl
theorem oU {S : List Int} (h : S.length = 8) : ∃ a b c d e f g i, S = [a, b, c, d, e, f, g, i] := by
  match S, h with
  | [a, b, c, d, e, f, g, i], _ => exact ⟨a, b, c, d, e, f, g, i, rfl⟩
def L1 (k : Nat) (x : List Int) (i : Int) (S : List Int) := bo k x i (S.getD 0 0) (S.getD 1 0) (S.getD 2 0) (S.getD 3 0) (S.getD 4 0) (S.getD 5 0) (S.getD 6 0) (S.getD 7 0)
def L2 (k : Nat) (x y : List Int) (i : Int) (S : List Int) := bp k x y i (S.getD 0 0) (S.getD 1 0) (S.getD 2 0) (S.getD 3 0) (S.getD 4 0) (S.getD 5 0) (S.getD 6 0) (S.getD 7 0)
def L3 (k : Nat) (y : List Int) (i : Int) (S : List Int) := al k y i (S.getD 0 0) (S.getD 1 0) (S.getD 2 0) (S.getD 3 0) (S.getD 4 0) (S.getD 5 0) (S.getD 6 0) (S.getD 7 0)
theorem qU {i : Nat} (h : i < 8) : i = 0 ∨ i = 1 ∨ i = 2 ∨ i = 3 ∨ i = 4 ∨ i = 5 ∨ i = 6 ∨ i = 7 := by omega
theorem pV (x : List Int) (i : Nat) : rd x (i : Int) = x.getD i 0 := by unfold rd; rw [Int.toNat_natCast]
theorem xA (x : List Int) (i : Nat) (hi : i < 8) (hx : i < x.length) (S : List Int) (hS : S.length = 8) (r : Int × Int × Int × Int × Int × Int × Int × Int × Bool)
    (h : Ev (fun k => L1 k x ((i + 1 : Nat) : Int) (S.set i (x.getD i 0))) r) : Ev (fun k => L1 k x (i : Int) S) r := by
  obtain ⟨a, b, c, d, e, f, g, j, rfl⟩ := oU hS
  refine Ev.step (fun k => by rw [L1, bo]) ?_
  rw [w64 (by omega) (by omega), pV]
  refine ab (by omega) (ab (by omega) (ab (by omega) ?_))
  rcases qU hi with rfl | rfl | rfl | rfl | rfl | rfl | rfl | rfl
  · exact ab (by omega) h
  · exact ae (by omega) (ab (by omega) h)
  · exact ae (by omega) (ae (by omega) (ab (by omega) h))
  · exact ae (by omega) (ae (by omega) (ae (by omega) (ab (by omega) h)))
  · exact ae (by omega) (ae (by omega) (ae (by omega) (ae (by omega) (ab (by omega) h))))
  · exact ae (by omega) (ae (by omega) (ae (by omega) (ae (by omega) (ae (by omega) (ab (by omega) h)))))
  · exact ae (by omega) (ae (by omega) (ae (by omega) (ae (by omega) (ae (by omega) (ae (by omega) (ab (by omega) h))))))
  · exact ae (by omega) (ae (by omega) (ae (by omega) (ae (by omega) (ae (by omega) (ae (by omega) (ae (by omega) (ab (by omega) h)))))))
theorem xB (x y : List Int) (i : Nat) (hi : i < 8) (hx : i < x.length) (hl : x.length ≤ 8) (S : List Int) (hS : S.length = 8) (r : Int × Int × Int × Int × Int × Int × Int × Int × Bool)
    (h : Ev (fun k => L2 k x y ((i + 1 : Nat) : Int) (S.set i (x.getD i 0))) r) : Ev (fun k => L2 k x y (i : Int) S) r := by
  obtain ⟨a, b, c, d, e, f, g, j, rfl⟩ := oU hS
  refine Ev.step (fun k => by rw [L2, bp]) ?_
  rw [w64 (by omega) (by omega), pV]
  refine ab (by omega) (ab (by omega) ?_)
  rcases qU hi with rfl | rfl | rfl | rfl | rfl | rfl | rfl | rfl
  · exact ab (by omega) h
  · exact ae (by omega) (ab (by omega) h)
  · exact ae (by omega) (ae (by omega) (ab (by omega) h))
  · exact ae (by omega) (ae (by omega) (ae (by omega) (ab (by omega) h)))
  · exact ae (by omega) (ae (by omega) (ae (by omega) (ae (by omega) (ab (by omega) h))))
  · exact ae (by omega) (ae (by omega) (ae (by omega) (ae (by omega) (ae (by omega) (ab (by omega) h)))))
  · exact ae (by omega) (ae (by omega) (ae (by omega) (ae (by omega) (ae (by omega) (ae (by omega) (ab (by omega) h))))))
  · exact ae (by omega) (ae (by omega) (ae (by omega) (ae (by omega) (ae (by omega) (ae (by omega) (ae (by omega) (ab (by omega) h)))))))
theorem xC (y : List Int) (i q : Nat) (hq : q < 8) (hx : i < y.length) (hy : y.length ≤ 8) (hl : q + y.length = 8 + i) (S : List Int) (hS : S.length = 8) (r : Int × Int × Int × Int × Int × Int × Int × Int × Bool)
    (h : Ev (fun k => L3 k y ((i + 1 : Nat) : Int) (S.set q (y.getD i 0))) r) : Ev (fun k => L3 k y (i : Int) S) r := by
  obtain ⟨a, b, c, d, e, f, g, j, rfl⟩ := oU hS
  refine Ev.step (fun k => by rw [L3, al]) ?_
  have hw : wrap64 (wrap64 (8 - (y.length : Int)) + (i : Int)) = (q : Int) := by
    rw [w64 (x := 8 - (y.length : Int)) (by omega) (by omega), w64 (by omega) (by omega)]; omega
  rw [w64 (x := (i : Int) + 1) (by omega) (by omega), pV, hw]
  refine ab (by omega) (ab (by omega) (ab (by omega) ?_))
  rcases qU hq with rfl | rfl | rfl | rfl | rfl | rfl | rfl | rfl
  · exact ab (by omega) h
  · exact ae (by omega) (ab (by omega) h)
  · exact ae (by omega) (ae (by omega) (ab (by omega) h))
  · exact ae (by omega) (ae (by omega) (ae (by omega) (ab (by omega) h)))
  · exact ae (by omega) (ae (by omega) (ae (by omega) (ae (by omega) (ab (by omega) h))))
  · exact ae (by omega) (ae (by omega) (ae (by omega) (ae (by omega) (ae (by omega) (ab (by omega) h)))))
  · exact ae (by omega) (ae (by omega) (ae (by omega) (ae (by omega) (ae (by omega) (ae (by omega) (ab (by omega) h))))))
  · exact ae (by omega) (ae (by omega) (ae (by omega) (ae (by omega) (ae (by omega) (ae (by omega) (ae (by omega) (ab (by omega) h)))))))
def lay (S : List Int) (q : Nat) (x : List Int) : List Int := S.take q ++ x ++ S.drop (q + x.length)
theorem pS (S : List Int) (q : Nat) : lay S q [] = S := by simp [lay]
theorem oZ (S : List Int) (q : Nat) (v : Int) (x : List Int) (hq : q < S.length) : lay (S.set q v) (q + 1) x = lay S q (v :: x) := by
  unfold lay
  have e1 : (S.set q v).take (q + 1) = S.take q ++ [v] := by
    rw [List.take_succ_eq_append_getElem (by rw [List.length_set]; exact hq), List.take_set_of_le (Nat.le_refl _)]
    simp
  have e2 : (S.set q v).drop (q + 1 + x.length) = S.drop (q + (v :: x).length) := by
    rw [List.drop_set_of_lt (by omega), List.length_cons]
    congr 1; omega
  rw [e1, e2]
  simp
theorem yp (x : List Int) (hx : x.length = 8) : ∀ d i : Nat, i + d = 8 → ∀ S : List Int, S.length = 8 → Ev (fun k => L1 k x (i : Int) S) (nO (lay S i (x.drop i)) true) := by
  intro d
  induction d with
  | zero =>
    intro i hi S hS
    rw [List.drop_of_length_le (by omega), pS]
    refine Ev.step (fun k => by rw [L1, bo]) ?_
    exact ae (by omega) (Ev.val rfl)
  | succ d ih =>
    intro i hi S hS
    refine xA x i (by omega) (by omega) S hS _ ?_
    rw [ld (L := x) (i := i) (by omega) 0, ← oZ S i _ _ (by omega)]
    exact ih (i + 1) (by omega) _ (by rw [List.length_set]; exact hS)
theorem yr (y : List Int) (hy : y.length ≤ 8) : ∀ d i : Nat, i + d = y.length → ∀ S : List Int, S.length = 8 → Ev (fun k => L3 k y (i : Int) S) (nO (lay S (8 - y.length + i) (y.drop i)) true) := by
  intro d
  induction d with
  | zero =>
    intro i hi S hS
    rw [List.drop_of_length_le (by omega), pS]
    refine Ev.step (fun k => by rw [L3, al]) ?_
    exact ae (by omega) (Ev.val rfl)
  | succ d ih =>
    intro i hi S hS
    refine xC y i (8 - y.length + i) (by omega) (by omega) hy (by omega) S hS _ ?_
    rw [ld (L := y) (i := i) (by omega) 0, ← oZ S _ _ _ (by omega)]
    exact ih (i + 1) (by omega) _ (by rw [List.length_set]; exact hS)
theorem yq (x y : List Int) (hx : x.length ≤ 8) (r : Int × Int × Int × Int × Int × Int × Int × Int × Bool) : ∀ d i : Nat, i + d = x.length → ∀ S : List Int, S.length = 8 →
    Ev (fun k => L3 k y 0 (lay S i (x.drop i))) r → Ev (fun k => L2 k x y (i : Int) S) r := by
  intro d
  induction d with
  | zero =>
    intro i hi S hS h
    rw [List.drop_of_length_le (by omega), pS] at h
    refine Ev.step (fun k => by rw [L2, bp]) ?_
    exact ae (by omega) h
  | succ d ih =>
    intro i hi S hS h
    refine xB x y i (by omega) (by omega) hx S hS _ ?_
    rw [ld (L := x) (i := i) (by omega) 0, ← oZ S i _ _ (by omega)] at h
    exact ih (i + 1) (by omega) _ (by rw [List.length_set]; exact hS) h
theorem wH (a b : List Int) (h : a.length + b.length ≤ 7) : lay (lay iZ 0 a) (8 - b.length) b = a ++ List.replicate (8 - a.length - b.length) 0 ++ b := by
  have hz : iZ = List.replicate 8 0 := rfl
  unfold lay
  rw [hz]
  simp only [List.take_zero, List.nil_append, Nat.zero_add]
  rw [List.drop_replicate, List.take_append]
  have e2 : a.take (8 - b.length) = a := List.take_of_length_le (by omega)
  rw [e2, List.take_replicate]
  have e3 : (a ++ List.replicate (8 - a.length) 0).drop (8 - b.length + b.length) = ([] : List Int) := by
    apply List.drop_of_length_le
    rw [List.length_append, List.length_replicate]; omega
  rw [e3, List.append_nil, show min (8 - b.length - a.length) (8 - a.length) = 8 - a.length - b.length by omega]
theorem qE (a : List Int) (h : a.length ≤ 8) : (lay iZ 0 a).length = 8 := by
  unfold lay iZ
  simp; omega
theorem rz {fin : Bool} {l w : List Int} (h : gi fin l = some w) (hl : l.length ≤ 1000000) : w.length ≤ 1000003 := by
  unfold gi at h
  split at h
  · cases h; simp
  · have := om h
    have := kJ 58 l
    omega
theorem uy (l : List Int) : (l.contains 46 = false → gi true l = gi false l) ∧ (l.contains 46 = true → gi false l = none) := by
  constructor
  · intro h
    unfold gi
    rw [te (fun p hp hm => by
      have := (pB p hp).2.1 46 hm
      rw [← List.contains_iff_mem, h] at this
      cases this) true]
  · intro h
    unfold gi
    rw [if_neg (by rintro rfl; cases h)]
    cases hw : fW false (bT 58 l) with
    | none => rfl
    | some w =>
      exfalso
      have key := wj hw
      have hm := List.contains_iff_mem.1 h
      have inpart : ∀ l : List Int, (46 : Int) ∈ l → ∃ p ∈ bT 58 l, (46 : Int) ∈ p := by
        intro l
        induction l with
        | nil => intro h; cases h
        | cons b t ih =>
          intro h
          rw [gu]
          by_cases hb : b = 58
          · rw [if_pos hb]
            rcases List.mem_cons.1 h with h | h
            · rw [hb] at h; cases h
            · obtain ⟨p, hp, h2⟩ := ih h
              exact ⟨p, List.mem_cons_of_mem _ hp, h2⟩
          · rw [if_neg hb]
            rcases List.mem_cons.1 h with h | h
            · exact ⟨_, List.mem_cons_self .., by rw [h]; exact List.mem_cons_self ..⟩
            · obtain ⟨p, hp, h2⟩ := ih h
              rw [kb 58 t] at hp
              rcases List.mem_cons.1 hp with rfl | hp
              · exact ⟨_, List.mem_cons_self .., List.mem_cons_of_mem _ h2⟩
              · exact ⟨p, List.mem_cons_of_mem _ hp, h2⟩
      obtain ⟨p, hp, h2⟩ := inpart l hm
      exact (key p hp).1 h2
def V0 (k : Nat) (s : ByteArray) (at_ i : Int) := bM k s at_ i 0 0 0 0 0 0 0 0
theorem pw (s : ByteArray) (hs : s.size ≤ 1000000) (hneg : cx [58, 58] (aa s) < 0) (i : Nat) (hi : s.size ≤ i + 1) (hi2 : i ≤ s.size) : Ev (fun k => V0 k s (-1) (i : Int)) (v6T (aa s)) := by
  refine Ev.step (fun k => by rw [V0, bM]) ?_
  rw [w64 (x := (i : Int) + 1) (by omega) (by omega)]
  refine ae (by omega) (ab (by omega) (ah (o1 s hs) ?_))
  have bad : ∀ x : List Int, Ev (fun k => dQ k x true 0 0 0 0 0 0 0 0) (nO iZ false) := by
    intro x
    refine Ev.step (fun k => by rw [dQ]) ?_
    exact ab rfl (Ev.val rfl)
  unfold v6T v6
  rw [if_pos hneg]
  cases hr : gi true (aa s) with
  | none => exact ae (by simp [dp]) (bad _)
  | some w =>
    refine ab (by simp [dp]) ?_
    simp only [dp, List.nil_append, Option.bind_some]
    by_cases h8 : w.length = 8
    · have e : (((w.length : Nat) : Int) != 8) = false := by simp; omega
      rw [e, if_pos h8]
      refine Ev.step (fun k => by rw [dQ]) ?_
      refine ae (by simp) ?_
      have := yp w h8 8 0 (by omega) iZ rfl
      rw [List.drop_zero] at this
      have e2 : lay iZ 0 w = w := by
        unfold lay
        rw [List.drop_of_length_le (by rw [h8]; decide)]
        simp
      rw [e2] at this
      exact this
    · have e : (((w.length : Nat) : Int) != 8) = true := by simp; omega
      rw [e, if_neg h8]
      exact bad _
theorem uu (s : ByteArray) (hs : s.size ≤ 1000000) (j : Nat) (hj : cx [58, 58] (aa s) = (j : Int)) : ∀ d i : Nat, i + d = s.size → Ev (fun k => V0 k s (j : Int) (i : Int)) (v6T (aa s)) := by
  have hsp := lU (sub := [58, 58]) (l := aa s) (by omega)
  rw [hj, Int.toNat_natCast] at hsp
  simp only [List.length_cons, List.length_nil, af] at hsp
  have fin : ∀ i : Nat, s.size ≤ i + 1 → i ≤ s.size → Ev (fun k => V0 k s (j : Int) (i : Int)) (v6T (aa s)) := by
    intro i hi hi2
    refine Ev.step (fun k => by rw [V0, bM]) ?_
    rw [w64 (x := (i : Int) + 1) (by omega) (by omega), w64 (x := (j : Int) + 2) (by omega) (by omega), Int.toNat_natCast]
    refine ae (by omega) (ae (by omega) (ab (by omega) (ab (by omega) ?_)))
    have h1 := o1 (s.extract 0 j) (by rw [← af, ay, List.length_drop, List.length_take, af]; omega)
    have h2 := o1 (s.extract (j + 2) s.size) (by rw [← af, ay, List.length_drop, List.length_take, af]; omega)
    rw [ay, List.drop_zero] at h1
    rw [ba] at h2
    refine ah h1 (ab (by omega) (ab (by omega) ?_))
    have e2 : ((j : Int) + 2).toNat = j + 2 := by omega
    rw [e2]
    refine ah h2 ?_
    have bad : ∀ x y : List Int, Ev (fun k => dc k s (j : Int) x y true 0 0 0 0 0 0 0 0) (nO iZ false) := by
      intro x y
      refine Ev.step (fun k => by rw [dc]) ?_
      exact ab rfl (Ev.val rfl)
    have hal := uy ((aa s).take j)
    have bad4 : ∀ x y : List Int, Ev (fun k => dd k x y true 0 0 0 0 0 0 0 0) (nO iZ false) := by
      intro x y
      refine Ev.step (fun k => by rw [dd]) ?_
      exact ab rfl (Ev.val rfl)
    unfold v6T v6
    rw [if_neg (by omega), hj, Int.toNat_natCast]
    cases ha : gi true ((aa s).take j) with
    | none =>
      have hn : gi false ((aa s).take j) = none := by
        cases hc : ((aa s).take j).contains 46
        · rw [← hal.1 hc]; exact ha
        · exact hal.2 hc
      rw [hn]
      exact ae (by simp [dp]) (bad _ _)
    | some a =>
      refine ab (by simp [dp]) ?_
      simp only [dp, List.nil_append]
      have hla := rz ha (by rw [List.length_take, af]; omega)
      cases hbb : gi true ((aa s).drop (j + 2)) with
      | none =>
        refine ae (by simp) ?_
        cases gi false ((aa s).take j) with
        | none => exact bad _ _
        | some x => exact bad _ _
      | some b =>
        have hlb := rz hbb (by rw [List.length_drop, af]; omega)
        refine ab (by simp [dp]) ?_
        simp only [dp, List.nil_append]
        have hw : wrap64 ((a.length : Int) + (b.length : Int)) = (a.length : Int) + (b.length : Int) := w64 (by omega) (by omega)
        simp only [hw]
        by_cases hlen : a.length + b.length ≤ 7
        · rw [decide_eq_false (by omega)]
          refine Ev.step (fun k => by rw [dc]) ?_
          refine ae (by simp) ?_
          have go : ∀ t : Bool, t = ((aa s).take j).contains 46 → Ev (fun k => dd k a b t 0 0 0 0 0 0 0 0) (match ((gi false ((aa s).take j)).bind fun a => (some b).bind fun b => if a.length + b.length ≤ 7 then some (a ++ List.replicate (8 - a.length - b.length) 0 ++ b) else none) with
              | some w => nO w true
              | none => nO iZ false) := by
            intro t ht
            cases hc : ((aa s).take j).contains 46
            · rw [hc] at ht
              subst ht
              rw [← hal.1 hc, ha]
              simp only [Option.bind_some]
              rw [if_pos hlen]
              refine Ev.step (fun k => by rw [dd]) ?_
              refine ae (by simp) ?_
              refine yq a b (by omega) _ a.length 0 (by omega) iZ rfl ?_
              rw [List.drop_zero]
              have := yr b (by omega) b.length 0 (by omega) (lay iZ 0 a) (qE a (by omega))
              rw [List.drop_zero, Nat.add_zero, wH a b hlen] at this
              exact this
            · rw [hc] at ht
              subst ht
              rw [hal.2 hc]
              exact bad4 _ _
          refine Ev.ite (fun hj0 => ab (by omega) (ab (by omega) ?_)) (fun hj0 => go false ?_)
          · have hin := wF 46 (s.extract 0 j) (by rw [← af, ay, List.length_drop, List.length_take, af]; omega)
            rw [ay, List.drop_zero] at hin
            rw [Int.toNat_natCast]
            exact ah hin (go _ rfl)
          · have : j = 0 := by omega
            subst this
            simp
        · rw [decide_eq_true (by omega)]
          cases hc : ((aa s).take j).contains 46
          · rw [← hal.1 hc, ha]
            simp only [Option.bind_some]
            rw [if_neg hlen]
            exact bad _ _
          · rw [hal.2 hc]
            exact bad _ _
  intro d
  induction d with
  | zero => intro i hi; exact fin i (by omega) (by omega)
  | succ d ih =>
    intro i hi
    by_cases he : s.size ≤ i + 1
    · exact fin i he (by omega)
    · refine Ev.step (fun k => by rw [V0, bM]) ?_
      rw [w64 (x := (i : Int) + 1) (by omega) (by omega)]
      refine ab (by omega) (ae (by omega) ?_)
      exact ih (i + 1) (by omega)
theorem ut (s : ByteArray) (hs : s.size ≤ 1000000) : ∀ d i : Nat, i + d = s.size → (cx [58, 58] (aa s) = if cx [58, 58] ((aa s).drop i) = -1 then -1 else (i : Int) + cx [58, 58] ((aa s).drop i)) →
    Ev (fun k => V0 k s (-1) (i : Int)) (v6T (aa s)) := by
  intro d
  induction d with
  | zero =>
    intro i hi h
    rw [List.drop_of_length_le (by rw [af]; omega)] at h
    have hz : cx [58, 58] [] = -1 := rfl
    rw [hz, if_pos rfl] at h
    exact pw s hs (by omega) i (by omega) (by omega)
  | succ d ih =>
    intro i hi h
    by_cases he : s.size ≤ i + 1
    · refine pw s hs ?_ i he (by omega)
      rcases br s i (by omega) with ⟨h2, _⟩ | ⟨_, e, _⟩
      · omega
      · rw [e, List.drop_of_length_le (by rw [af]; omega)] at h
        rw [h]
        have : cx [58, 58] [bt s (i : Int)] = -1 := by
          have hz : cx [58, 58] [] = -1 := rfl
          rw [ku, if_neg (by simp [List.isPrefixOf]), hz, if_pos rfl]
        rw [if_pos this]
        decide
    · rcases br s i (by omega) with ⟨h2, _⟩ | ⟨_, e, b0, b1⟩
      · omega
      rcases br s (i + 1) (by omega) with ⟨h2, _⟩ | ⟨_, e2, c0, c1⟩
      · omega
      refine Ev.step (fun k => by rw [V0, bM]) ?_
      rw [w64 (x := (i : Int) + 1) (by omega) (by omega), w64 (x := (i : Int) + 2) (by omega) (by omega)]
      refine ab (by omega) (ab (by omega) (ab (by omega) (ab (by omega) (ab (by omega) ?_))))
      have e3 : ((i : Int) + 2).toNat = i + 2 := by omega
      rw [e3, Int.toNat_natCast]
      have hcond : (s.extract i (i + 2)).toList = ([58, 58] : List UInt8) ↔ (aa s).drop i = 58 :: 58 :: (aa s).drop (i + 2) := by
        have h58 : ([58, 58] : List UInt8) = (⟨#[58, 58]⟩ : ByteArray).toList := by rw [ByteArray.toList_eq]
        have hb : aa (⟨#[58, 58]⟩ : ByteArray) = [58, 58] := rfl
        rw [h58, kL, ay, hb, List.drop_take, show i + 2 - i = 2 by omega, e, e2]
        simp
      have hpre : ([58, 58] : List Int).isPrefixOf ((aa s).drop i) = true ↔ (aa s).drop i = 58 :: 58 :: (aa s).drop (i + 2) := by
        rw [e, e2]
        simp [List.isPrefixOf]
        constructor
        · rintro ⟨h1, h2⟩; exact ⟨h1.symm, h2.symm⟩
        · rintro ⟨h1, h2⟩; exact ⟨h1.symm, h2.symm⟩
      have hd : cx [58, 58] ((aa s).drop i) = if ([58, 58] : List Int).isPrefixOf ((aa s).drop i) then 0 else if cx [58, 58] ((aa s).drop (i + 1)) = -1 then -1 else cx [58, 58] ((aa s).drop (i + 1)) + 1 := by
        rw [e, ku]
      refine Ev.ite (fun hp => ?_) (fun hp => ?_)
      · have h0 : cx [58, 58] ((aa s).drop i) = 0 := by rw [hd, if_pos (hpre.2 (hcond.1 hp))]
        rw [h0, if_neg (by omega)] at h
        exact uu s hs i (by omega) d (i + 1) (by omega)
      · rw [if_neg (fun x => hp (hcond.2 (hpre.1 x)))] at hd
        refine ih (i + 1) (by omega) ?_
        have hg := pZ [58, 58] ((aa s).drop (i + 1))
        rw [h, hd]
        generalize cx [58, 58] ((aa s).drop (i + 1)) = z at hg ⊢
        by_cases hz : z = -1
        · rw [if_pos hz, if_pos hz, if_pos rfl]
        · rw [if_neg hz, if_neg hz, if_neg (by omega)]
          omega
theorem yf (s : ByteArray) (hs : s.size ≤ 1000000) : Ev (fun k => iQ k s) (v6T (aa s)) := by
  have hg := pZ [58, 58] (aa s)
  refine ut s hs s.size 0 (by omega) ?_
  rw [List.drop_zero]
  split <;> omega
end Go.Proofs.YtpmflpeckoeooaaGreatDoor.Y
namespace Go.Proofs.YtpmflpeckoeooaaGreatDoor.Y
open Go.RowKit Go.Proofs.YtpmflpeckoeooaaGreatDoor.X Go.Proofs.YtpmflpeckoeooaaGreatDoor.M Go.Proofs.YtpmflpeckoeooaaGreatDoorW.PrintWords Go.Proofs.YtpmflpeckoeooaaGreatDoorW.PrintLast Go.Proofs.YtpmflpeckoeooaaGreatDoorW.PrintMore
theorem ro {b : Int} (h0 : 0 ≤ b) (h1 : b ≤ 255) : cn 1 b = (ln b || b == 58) :=
  b6 (p := fun b => cn 1 b = (ln b || b == 58)) (by decide +kernel) h0 h1
theorem yC (s : ByteArray) (hs : s.size ≤ 140737488351232) : ∀ d i : Nat, i + d = s.size → Ev (fun k => d5 k s (i : Int)) (((aa s).drop i).all fun b => cn 1 b) := by
  intro d
  induction d with
  | zero =>
    intro i hi
    rw [List.drop_of_length_le (by rw [af]; omega)]
    refine Ev.step (fun k => by rw [d5]) ?_
    exact ae (by omega) (az _)
  | succ d ih =>
    intro i hi
    rcases br s i (by omega) with ⟨h2, _⟩ | ⟨_, e, b0, b1⟩
    · omega
    rw [e, List.all_cons]
    refine Ev.step (fun k => by rw [d5]) ?_
    refine ab (by omega) (ab (by omega) (ah (tx b0 b1) ?_))
    cases hp : cn 1 (bt s (i : Int))
    · exact ae (by simp) (Ev.val (by simp))
    · refine ab rfl ?_
      rw [w64 (by omega) (by omega)]
      simp only [Bool.true_and]
      exact ih (i + 1) (by omega)
theorem oP {p q : Int → Bool} {l : List Int} (h : ∀ b ∈ l, p b = q b) : bf p l = bf q l := by
  induction l with
  | nil => rfl
  | cons b t ih =>
    unfold bf
    rw [h b (List.mem_cons_self ..), ih (fun c hc => h c (List.mem_cons_of_mem _ hc))]
theorem zk {b : Int} (h0 : 0 ≤ b) (h1 : b ≤ 255) : ((Go.bits .or .u8 b 32) != 118) = !(b == 118 || b == 86) :=
  b6 (p := fun b => ((Go.bits .or .u8 b 32) != 118) = !(b == 118 || b == 86)) (by decide +kernel) h0 h1
theorem oW (v : Int) (t : List Int) : fut (v :: t) = ((v == 118 || v == 86) && decide (0 < bf bu t) && decide (2 ≤ (t.drop (bf bu t)).length) && ((t.drop (bf bu t)).headD 0 == 46) && ((t.drop (bf bu t)).tail.all fun b => cn 1 b)) := rfl
theorem wD (s : ByteArray) (hs : s.size ≤ 140737488351232) : Ev (fun k => fi k s 32) (bf bu (aa s) : Int) := by
  have := qt s 32 hs
  rwa [oP (q := bu) (fun b hb => xU (fI hb).1 (fI hb).2)] at this
theorem wB (s : ByteArray) (hs : s.size ≤ 1000000) : Ev (fun k => g6 k s) (fut (aa s)) := by
  unfold g6
  have bad : ∀ r, r = false → Ev (fun k => d4 k s true) r := by
    intro r e
    subst e
    refine Ev.step (fun k => by rw [d4]) ?_
    exact ab rfl (az _)
  refine Ev.ite (fun h => bad _ ?_) (fun h => ?_)
  · rw [(ko s).1 h]; rfl
  · rcases gS s with ⟨_, e⟩ | ⟨hp, e, b0, b1⟩
    · exact absurd ((ko s).2 e) h
    refine ab (by omega) ?_
    have hf : fut (aa s) = fut (bt s 0 :: (aa s).drop 1) := by rw [← e]
    rw [hf, oW, zk b0 b1]
    cases hv : (bt s 0 == 118 || bt s 0 == 86)
    · exact bad _ (by simp)
    · refine Ev.step (fun k => by rw [d4]) ?_
      refine ae (by simp) (ab (by omega) ?_)
      have hsp := wD (s.extract 1 s.size) (by rw [← af, ba, List.length_drop, af]; omega)
      rw [ba] at hsp
      refine ah hsp ?_
      have hle := o5 bu ((aa s).drop 1)
      rw [List.length_drop, af] at hle
      generalize bf bu ((aa s).drop 1) = n at hle ⊢
      have hw : wrap64 (1 + (n : Int)) = ((n + 1 : Nat) : Int) := by rw [w64 (by omega) (by omega)]; omega
      simp only [hw]
      refine ab (by omega) (ab (by omega) ?_)
      rw [Int.toNat_natCast, List.drop_drop]
      have hsz : (s.extract (n + 1) s.size).size = s.size - (n + 1) := by rw [← af, ba, List.length_drop, af]
      have bad1 : ∀ r, r = false → Ev (fun k => dD k (s.extract (n + 1) s.size) true) r := by
        intro r e
        subst e
        refine Ev.step (fun k => by rw [dD]) ?_
        exact ab rfl (az _)
      rw [show 1 + n = n + 1 by omega]
      have hld : ((aa s).drop (n + 1)).length = s.size - (n + 1) := by rw [List.length_drop, af]
      refine Ev.ite (fun h0 => bad1 _ ?_) (fun h0 => Ev.ite (fun h2 => bad1 _ ?_) (fun h2 => ab (by omega) ?_))
      · have : n = 0 := by omega
        simp [this]
      · rw [hsz] at h2
        rw [hld, decide_eq_false (p := 2 ≤ s.size - (n + 1)) (by omega)]
        simp
      · rcases gS (s.extract (n + 1) s.size) with ⟨h3, _⟩ | ⟨_, e3, _⟩
        · omega
        rw [ba] at e3
        rw [hsz] at h2
        rw [hld, decide_eq_true (p := 0 < n) (by omega), decide_eq_true (p := 2 ≤ s.size - (n + 1)) (by omega)]
        have hh : ((aa s).drop (n + 1)).headD 0 = bt (s.extract (n + 1) s.size) 0 := by rw [e3]; rfl
        have ht : ((aa s).drop (n + 1)).tail = ((aa s).drop (n + 1)).drop 1 := by rw [List.drop_one]
        rw [hh, ht]
        cases h46 : (bt (s.extract (n + 1) s.size) 0 == 46)
        · have : (bt (s.extract (n + 1) s.size) 0 != 46) = true := by rw [bne, h46]; rfl
          rw [this]
          exact bad1 _ (by simp)
        · have : (bt (s.extract (n + 1) s.size) 0 != 46) = false := by rw [bne, h46]; rfl
          rw [this]
          refine Ev.step (fun k => by rw [dD]) ?_
          refine ae (by simp) ?_
          have := yC (s.extract (n + 1) s.size) (by omega) ((s.extract (n + 1) s.size).size - 1) 1 (by omega)
          rw [ba] at this
          simpa using this
theorem vI (s : ByteArray) (hs : s.size ≤ 140737488351232) : ∀ d i : Nat, i + d = s.size → Ev (fun k => b4 k s (i : Int)) (((aa s).drop i).all fun b => cn 1 b) := by
  intro d
  induction d with
  | zero =>
    intro i hi
    rw [List.drop_of_length_le (by rw [af]; omega)]
    refine Ev.step (fun k => by rw [b4]) ?_
    exact ae (by omega) (az _)
  | succ d ih =>
    intro i hi
    rcases br s i (by omega) with ⟨h2, _⟩ | ⟨_, e, b0, b1⟩
    · omega
    rw [e, List.all_cons, ro b0 b1]
    refine Ev.step (fun k => by rw [b4]) ?_
    refine ab (by omega) (ab (by omega) (ah (nH b0 b1) ?_))
    rw [w64 (by omega) (by omega)]
    have nx := ih (i + 1) (by omega)
    refine Ev.ite (fun h => Ev.ite (fun h58 => ?_) (fun h58 => Ev.val ?_)) (fun h => ?_)
    · rw [h58]
      simp only [beq_self_eq_true, Bool.or_true, Bool.true_and]
      exact nx
    · rw [kY, qq b0 b1] at h
      have : (bt s (i : Int) == 58) = false := by simpa using h58
      rw [h, this]; rfl
    · rw [kY, qq b0 b1, Bool.not_eq_false] at h
      rw [h]
      simp only [Bool.true_or, Bool.true_and]
      exact nx
theorem qx (s : ByteArray) (hs : s.size ≤ 1000000) (h4 : 4 ≤ s.size) (i : Nat) (h1 : 1 ≤ i) (hi : i ≤ s.size) : Ev (fun k => dl k s (i : Int))
    (decide (1 < i) && decide (2 ≤ ((aa s).drop i).length) && (((aa s).drop i).headD 0 == 46) && (((aa s).drop i).tail.all fun b => cn 1 b)) := by
  have bad : ∀ r, r = false → Ev (fun k => bZ k s (i : Int) true) r := by
    intro r e
    subst e
    refine Ev.step (fun k => by rw [bZ]) ?_
    exact ab rfl (az _)
  have hld : ((aa s).drop i).length = s.size - i := by rw [List.length_drop, af]
  refine Ev.step (fun k => by rw [dl]) ?_
  have hw : wrap64 ((s.size : Int) - 1) = (s.size : Int) - 1 := w64 (by omega) (by omega)
  simp only [hw]
  refine Ev.ite (fun h => bad _ ?_) (fun h => Ev.ite (fun h2 => bad _ ?_) (fun h2 => ab (by omega) (ab (by omega) ?_)))
  · rw [decide_eq_false (by omega)]; rfl
  · rw [hld, decide_eq_false (p := 2 ≤ s.size - i) (by omega)]; simp
  · rcases br s i (by omega) with ⟨h3, _⟩ | ⟨_, e, b0, b1⟩
    · omega
    rw [hld, decide_eq_true (by omega), decide_eq_true (by omega), e]
    simp only [List.headD_cons, List.tail_cons]
    cases h46 : (bt s (i : Int) == 46)
    · have : (bt s (i : Int) != 46) = true := by rw [bne, h46]; rfl
      rw [this]
      exact bad _ (by simp)
    · have : (bt s (i : Int) != 46) = false := by rw [bne, h46]; rfl
      rw [this]
      refine Ev.step (fun k => by rw [bZ]) ?_
      refine ae (by simp) ?_
      rw [w64 (by omega) (by omega)]
      simp only [Bool.true_and, Bool.and_self]
      exact vI s (by omega) (s.size - (i + 1)) (i + 1) (by omega)
theorem vH (s : ByteArray) (hs : s.size ≤ 1000000) (h4 : 4 ≤ s.size) : ∀ d i : Nat, i + d = s.size → 1 ≤ i → Ev (fun k => cC k s (i : Int))
    (decide (1 < i + bf bu ((aa s).drop i)) && decide (2 ≤ ((aa s).drop (i + bf bu ((aa s).drop i))).length) && (((aa s).drop (i + bf bu ((aa s).drop i))).headD 0 == 46) && (((aa s).drop (i + bf bu ((aa s).drop i))).tail.all fun b => cn 1 b)) := by
  intro d
  induction d with
  | zero =>
    intro i hi h1
    have hz : bf bu ((aa s).drop i) = 0 := by rw [List.drop_of_length_le (by rw [af]; omega)]; rfl
    rw [hz, Nat.add_zero]
    refine Ev.step (fun k => by rw [cC]) ?_
    exact ae (by omega) (qx s hs h4 i h1 (by omega))
  | succ d ih =>
    intro i hi h1
    rcases br s i (by omega) with ⟨h2, _⟩ | ⟨_, e, b0, b1⟩
    · omega
    refine Ev.step (fun k => by rw [cC]) ?_
    refine ab (by omega) (ab (by omega) (ah (lT b0 b1) ?_))
    refine Ev.ite (fun h => ?_) (fun h => ?_)
    · have hz : bf bu ((aa s).drop i) = bf bu ((aa s).drop (i + 1)) + 1 := by
        rw [e]
        have : bf bu (bt s (i : Int) :: (aa s).drop (i + 1)) = if bu (bt s (i : Int)) then bf bu ((aa s).drop (i + 1)) + 1 else 0 := rfl
        rw [this, if_pos ((kr _).1 (by omega))]
      rw [hz, w64 (by omega) (by omega), show i + (bf bu ((aa s).drop (i + 1)) + 1) = i + 1 + bf bu ((aa s).drop (i + 1)) by omega]
      exact ih (i + 1) (by omega) (by omega)
    · have hz : bf bu ((aa s).drop i) = 0 := by
        rw [e]
        have : bf bu (bt s (i : Int) :: (aa s).drop (i + 1)) = if bu (bt s (i : Int)) then bf bu ((aa s).drop (i + 1)) + 1 else 0 := rfl
        rw [this, if_neg (by rw [← kr]; omega)]
      rw [hz, Nat.add_zero]
      exact qx s hs h4 i h1 (by omega)
theorem sS (s : ByteArray) (hs : s.size ≤ 1000000) : Ev (fun k => fE k s) (fut (aa s)) := by
  have bad : ∀ r, r = false → Ev (fun k => bE k s true) r := by
    intro r e
    subst e
    refine Ev.step (fun k => by rw [bE]) ?_
    exact ab rfl (az _)
  unfold fE
  rcases gS s with ⟨h, e⟩ | ⟨hp, e, b0, b1⟩
  · rw [e]
    exact ab (by omega) (bad _ rfl)
  have hf : fut (aa s) = fut (bt s 0 :: (aa s).drop 1) := by rw [← e]
  rw [hf, oW]
  have hle := o5 bu ((aa s).drop 1)
  rw [List.length_drop, af] at hle
  refine Ev.ite (fun h => bad _ ?_) (fun h => ab (by omega) ?_)
  · by_cases h0 : 0 < bf bu ((aa s).drop 1)
    · rw [List.drop_drop, List.length_drop, af]
      by_cases h2 : 2 ≤ s.size - (1 + bf bu ((aa s).drop 1))
      · omega
      · rw [decide_eq_false h2]; simp
    · rw [decide_eq_false h0]; simp
  · have fy : Ev (fun k => bE k s false) (decide (0 < bf bu ((aa s).drop 1)) && decide (2 ≤ (((aa s).drop 1).drop (bf bu ((aa s).drop 1))).length) && ((((aa s).drop 1).drop (bf bu ((aa s).drop 1))).headD 0 == 46) && ((((aa s).drop 1).drop (bf bu ((aa s).drop 1))).tail.all fun b => cn 1 b)) := by
      refine Ev.step (fun k => by rw [bE]) ?_
      refine ae (by simp) ?_
      have := vH s hs (by omega) (s.size - 1) 1 (by omega) (by omega)
      rw [List.drop_drop]
      have e2 : decide (1 < 1 + bf bu ((aa s).drop 1)) = decide (0 < bf bu ((aa s).drop 1)) := by
        rw [decide_eq_decide]; omega
      rw [e2] at this
      exact this
    refine Ev.ite (fun hv => ?_) (fun hv => ?_)
    · rw [hv]
      simp only [beq_self_eq_true, Bool.true_or, Bool.true_and]
      exact fy
    · by_cases h86 : bt s 0 = 86
      · rw [h86]
        have e1 : ((86 : Int) != 86) = false := by decide
        have e2 : (((86 : Int) == 118) || ((86 : Int) == 86)) = true := by decide
        rw [e1, e2]
        simp only [Bool.true_and]
        exact fy
      · have e1 : (bt s 0 != 86) = true := by simpa using h86
        have e2 : ((bt s 0 == 118) || (bt s 0 == 86)) = false := by simp [hv, h86]
        rw [e1, e2]
        exact bad _ (by simp)
theorem tS (s : ByteArray) (h : 0 < s.size) : (aa s).getLastD 0 = bt s ((s.size : Int) - 1) := by
  have e : ((s.size : Int) - 1) = ((s.size - 1 : Nat) : Int) := by omega
  have hne : aa s ≠ [] := by intro x; have := af s; rw [x] at this; simp at this; omega
  rw [e, km, List.getLastD_eq_getLast?, List.getLast?_eq_getElem?, List.getD_eq_getElem?_getD, af]
theorem mD (s : ByteArray) : mC (aa s) = true ↔ 2 ≤ s.size ∧ bt s 0 = 91 ∧ bt s ((s.size : Int) - 1) = 93 := by
  unfold mC
  rw [af]
  by_cases h : 2 ≤ s.size
  · rcases gS s with ⟨h2, _⟩ | ⟨_, e, _⟩
    · omega
    have hh : (aa s).headD 0 = bt s 0 := by rw [e]; rfl
    rw [hh, tS s (by omega)]
    simp [and_assoc]
  · simp [h]
theorem mL (s : ByteArray) (h : 2 ≤ s.size) : aa (s.extract 1 (s.size - 1)) = ((aa s).take ((aa s).length - 1)).drop 1 := by
  rw [ay, af]
theorem qn (iri : Bool) (s : ByteArray) (hs : s.size ≤ 1000000) (b : Bool) (hb : b = mC (aa s)) : Ev (fun k => eG k iri s (s.size : Int) b) (i9 iri (aa s)) := by
  refine Ev.step (fun k => by rw [eG]) ?_
  unfold i9
  have hw : wrap64 ((s.size : Int) - 1) = (s.size : Int) - 1 := w64 (by omega) (by omega)
  simp only [hw]
  rw [← hb]
  refine Ev.ite (fun h => ?_) (fun h => ?_)
  · rw [if_pos h]
    have hb2 := (mD s).1 (by rw [← hb]; exact h)
    refine ab (by omega) (ab (by omega) ?_)
    have e : ((s.size : Int) - 1).toNat = s.size - 1 := by omega
    rw [e]
    have hsz : (s.extract 1 (s.size - 1)).size ≤ 1000000 := by rw [← af, mL s hb2.1, List.length_drop, List.length_take, af]; omega
    have h6 := zp (s.extract 1 (s.size - 1)) hsz
    have h7 := wB (s.extract 1 (s.size - 1)) hsz
    rw [mL s hb2.1] at h6 h7
    refine ah h6 ?_
    rw [wi]
    refine Ev.ite (fun h8 => ?_) (fun h8 => ?_)
    · rw [h8]
      exact Ev.val (by simp)
    · rw [Bool.not_eq_true] at h8
      rw [h8]
      refine ah h7 (Ev.ite (fun h9 => ?_) (fun h9 => ?_))
      · exact Ev.val (by rw [Bool.false_or, if_pos h9])
      · exact Ev.val (by rw [Bool.false_or, if_neg h9])
  · rw [if_neg h]
    refine ah (yO s hs) ?_
    rw [pL]
    refine Ev.ite (fun h4 => ?_) (fun h4 => ah (xp 2 iri s (by omega)) (Ev.ite (fun h5 => ?_) (fun h5 => ?_)))
    · exact Ev.val (by rw [if_pos h4])
    · exact Ev.val (by rw [if_neg h4, if_pos h5])
    · exact Ev.val (by rw [if_neg h4, if_neg h5])
theorem wE (iri : Bool) (s : ByteArray) (hs : s.size ≤ 1000000) : Ev (fun k => i2 k iri s) (i9 iri (aa s)) := by
  unfold i2
  have hbi := mD s
  have hw : wrap64 ((s.size : Int) - 1) = (s.size : Int) - 1 := w64 (by omega) (by omega)
  simp only [hw]
  have no : ¬ (2 ≤ s.size ∧ bt s 0 = 91 ∧ bt s ((s.size : Int) - 1) = 93) → Ev (fun k => eG k iri s (s.size : Int) false) (i9 iri (aa s)) := by
    intro h
    refine qn iri s hs false ?_
    symm
    rw [← Bool.not_eq_true, hbi]
    exact h
  refine Ev.ite (fun h => ab (by omega) (Ev.ite (fun h2 => ab (by omega) (ab (by omega) ?_)) (fun h2 => no (fun x => h2 x.2.1)))) (fun h => no (fun x => h (by omega)))
  refine qn iri s hs _ ?_
  rw [Bool.eq_iff_iff, hbi, beq_iff_eq]
  constructor
  · intro h3; exact ⟨by omega, h2, h3⟩
  · intro h3; exact h3.2.2
theorem pu (iri : Bool) (s : ByteArray) (hs : s.size ≤ 1000000) (b : Bool) (hb : b = mC (aa s)) : Ev (fun k => cw k iri s (s.size : Int) b) (i9 iri (aa s)) := by
  refine Ev.step (fun k => by rw [cw]) ?_
  unfold i9
  have hw : wrap64 ((s.size : Int) - 1) = (s.size : Int) - 1 := w64 (by omega) (by omega)
  simp only [hw]
  rw [← hb]
  refine Ev.ite (fun h => ?_) (fun h => ?_)
  · rw [if_pos h]
    have hb2 := (mD s).1 (by rw [← hb]; exact h)
    refine ab (by omega) (ab (by omega) ?_)
    have e : ((s.size : Int) - 1).toNat = s.size - 1 := by omega
    rw [e]
    have hsz : (s.extract 1 (s.size - 1)).size ≤ 1000000 := by rw [← af, mL s hb2.1, List.length_drop, List.length_take, af]; omega
    have h6 := yf (s.extract 1 (s.size - 1)) hsz
    have h7 := sS (s.extract 1 (s.size - 1)) hsz
    rw [mL s hb2.1] at h6 h7
    refine ah h6 ?_
    rw [wi]
    refine Ev.ite (fun h8 => ?_) (fun h8 => ?_)
    · rw [h8]
      exact Ev.val (by simp)
    · rw [Bool.not_eq_true] at h8
      rw [h8]
      refine ah h7 (Ev.ite (fun h9 => ?_) (fun h9 => ?_))
      · exact Ev.val (by rw [Bool.false_or, if_pos h9])
      · exact Ev.val (by rw [Bool.false_or, if_neg h9])
  · rw [if_neg h]
    refine ah (tz s hs) ?_
    rw [pL]
    refine Ev.ite (fun h4 => ?_) (fun h4 => ah (jk 2 iri s (by omega)) (Ev.ite (fun h5 => ?_) (fun h5 => ?_)))
    · exact Ev.val (by rw [if_pos h4])
    · refine Ev.val ?_
      rw [if_neg h4, if_pos]
      unfold bn
      rw [beq_iff_eq, af]; omega
    · refine Ev.val ?_
      rw [if_neg h4, if_neg]
      unfold bn
      rw [beq_iff_eq, af]; omega
theorem qy (iri : Bool) (s : ByteArray) (hs : s.size ≤ 1000000) : Ev (fun k => fc k iri s) (i9 iri (aa s)) := by
  unfold fc
  have hbi := mD s
  have hw : wrap64 ((s.size : Int) - 1) = (s.size : Int) - 1 := w64 (by omega) (by omega)
  simp only [hw]
  have no : ¬ (2 ≤ s.size ∧ bt s 0 = 91 ∧ bt s ((s.size : Int) - 1) = 93) → Ev (fun k => cw k iri s (s.size : Int) false) (i9 iri (aa s)) := by
    intro h
    refine pu iri s hs false ?_
    symm
    rw [← Bool.not_eq_true, hbi]
    exact h
  refine Ev.ite (fun h => ab (by omega) (Ev.ite (fun h2 => ab (by omega) (ab (by omega) ?_)) (fun h2 => no (fun x => h2 x.2.1)))) (fun h => no (fun x => h (by omega)))
  refine pu iri s hs _ ?_
  rw [Bool.eq_iff_iff, hbi, beq_iff_eq]
  constructor
  · intro h3; exact ⟨by omega, h2, h3⟩
  · intro h3; exact h3.2.2
end Go.Proofs.YtpmflpeckoeooaaGreatDoor.Y
namespace Go.Proofs.YtpmflpeckoeooaaGreatDoor.Y
open Go.RowKit Go.Proofs.YtpmflpeckoeooaaGreatDoor.X Go.Proofs.YtpmflpeckoeooaaGreatDoor.M Go.Proofs.YtpmflpeckoeooaaGreatDoorW.PrintWords Go.Proofs.YtpmflpeckoeooaaGreatDoorW.PrintLast
theorem oJ (s : ByteArray) (c : Int) (h0 : 0 ≤ c) (h1 : c ≤ 255) : dv s c = some (idx c (aa s)) := by
  unfold dv iy
  rw [pk s c h0 h1]; rfl
theorem rh (s : ByteArray) (c : Int) (hs : s.size ≤ 140737488351232) : ∀ n : Nat, n ≤ s.size → Ev (fun k => bg k s c ((n : Int) - 1)) (bP c ((aa s).take n)) := by
  intro n
  induction n with
  | zero =>
    intro _
    refine Ev.step (fun k => rfl) ?_
    simp only [Int.natCast_zero, List.take_zero, bP]
    refine ae (by omega) (az _)
  | succ n ih =>
    intro hn
    refine Ev.step (fun k => rfl) ?_
    have e : ((n + 1 : Nat) : Int) - 1 = (n : Int) := by omega
    rw [e, vZ (by omega), vx]
    refine ab (by omega) (ab (by omega) (ab (by omega) ?_))
    by_cases hb : bt s (n : Int) = c
    · refine ab hb ?_
      rw [if_pos hb, List.length_take, af, Nat.min_eq_left (by omega)]
      exact az _
    · refine ae hb ?_
      rw [if_neg hb, w64 (by omega) (by omega)]
      exact ih (by omega)
theorem pn (s : ByteArray) (c : Int) (hs : s.size ≤ 140737488351232) : Ev (fun k => cU k s c) (bP c (aa s)) := by
  refine ah (a := bP c (aa s)) (f := fun _ t => some t) ?_ (az _)
  unfold bO
  rw [w64 (by omega) (by omega)]
  have := rh s c hs s.size (Nat.le_refl _)
  rw [← af, List.take_length, af] at this
  exact this
theorem jY (s p : ByteArray) : cM s p = some (decide ((aa s).take p.size = aa p)) := by
  unfold cM cV
  by_cases h : (s.size : Int) ≥ (p.size : Int)
  · rw [if_pos h, if_pos (by omega), if_pos (by omega)]
    simp only [Option.bind_some, Option.some.injEq, Int.toNat_natCast]
    rw [Bool.eq_iff_iff, beq_iff_eq, decide_eq_true_iff, kL, ay, List.drop_zero]
  · rw [if_neg h]
    simp only [Option.bind_some, Option.some.injEq]
    symm
    rw [decide_eq_false_iff_not]
    intro e
    have := congrArg List.length e
    rw [List.length_take, af, af] at this
    omega
def bs (l : List Int) : Int :=
  if l.take 1 = [91] ∧ 0 ≤ idx 93 l then
    (if l.drop ((idx 93 l).toNat + 1) = [] ∨ (l.drop ((idx 93 l).toNat + 1)).getD 0 0 = 58 then idx 93 l + 1 else l.length)
  else if 0 ≤ idx 58 l then idx 58 l else l.length
theorem gT (l : List Int) : 0 ≤ bs l ∧ bs l ≤ l.length := by
  have h1 := le 93 l
  have h2 := pj 93 l
  have h3 := le 58 l
  have h4 := pj 58 l
  unfold bs
  split
  · split <;> omega
  · split <;> omega
def k6 (s : ByteArray) : ByteArray × ByteArray := (s.extract 0 (bs (aa s)).toNat, s.extract (bs (aa s)).toNat s.size)
theorem jX (s : ByteArray) : s.extract 0 s.size = s := ByteArray.extract_zero_size
theorem l8 (s : ByteArray) : s.extract s.size s.size = (⟨#[]⟩ : ByteArray) := by
  apply iE
  rw [ay, ← af, List.take_length, List.drop_length]; rfl
theorem pi (s : ByteArray) (e : Int) (he : e = if 0 ≤ idx 58 (aa s) then idx 58 (aa s) else s.size) :
    ((dv s 58).bind fun t => (if t ≥ 0 then (if 0 ≤ t then (if t ≤ (s.size : Int) then (some (s.extract 0 (t : Int).toNat, s.extract (t : Int).toNat s.size)) else (none)) else (none)) else (some (s, (⟨#[]⟩ : ByteArray))))) = some (s.extract 0 e.toNat, s.extract e.toNat s.size) := by
  rw [oJ s 58 (by omega) (by omega)]
  simp only [Option.bind_some]
  have h3 := le 58 (aa s)
  have h4 := pj 58 (aa s)
  rw [af] at h4
  by_cases h : 0 ≤ idx 58 (aa s)
  · rw [if_pos h] at he
    rw [if_pos h, if_pos h, if_pos (by omega), he]
  · rw [if_neg h] at he
    rw [if_neg h, he, Int.toNat_natCast, jX, l8]
theorem l6 (s : ByteArray) (i : Nat) : (s.extract i s.size).toList = ([] : List UInt8) ↔ (aa s).drop i = [] := by
  have : ([] : List UInt8) = (⟨#[]⟩ : ByteArray).toList := by rw [ByteArray.toList_eq]
  rw [this, kL, ay, ← af, List.take_length]
  exact Iff.rfl
theorem vn (s : ByteArray) (hs : s.size ≤ 140737488351232) : Ev (fun k => gt k s) (k6 s) := by
  have h1 := le 93 (aa s)
  have h2 := pj 93 (aa s)
  rw [af] at h2
  unfold gt
  rw [jY]
  simp only [Option.bind_some, decide_eq_true_iff]
  have hb : aa (⟨#[91]⟩ : ByteArray) = [91] := rfl
  have hz : (⟨#[91]⟩ : ByteArray).size = 1 := rfl
  rw [hb, hz]
  by_cases hp : (aa s).take 1 = [91]
  · simp only [if_pos hp]
    rw [oJ s 93 (by omega) (by omega)]
    simp only [Option.bind_some]
    by_cases h : idx 93 (aa s) ≥ 0
    · refine ab h ?_
      rw [w64 (by omega) (by omega)]
      refine ab (by omega) (ab (by omega) ?_)
      have hn : (idx 93 (aa s) + 1).toNat = (idx 93 (aa s)).toNat + 1 := by omega
      rw [hn]
      have fin : ∀ x b, Ev (fun k => ew k s (idx 93 (aa s)) x b) (if b = true then (s.extract 0 ((idx 93 (aa s)).toNat + 1), x) else (s, ⟨#[]⟩)) := by
        intro x b
        refine Ev.step (fun k => by rw [ew]) ?_
        rw [w64 (by omega) (by omega)]
        cases b
        · exact ae (by simp) (az _)
        · refine ab rfl (ab (by omega) (ab (by omega) ?_))
          rw [hn]
          exact az _
      by_cases hd : (aa s).drop ((idx 93 (aa s)).toNat + 1) = []
      · refine ab ((l6 s _).2 hd) ?_
        have : k6 s = (s.extract 0 ((idx 93 (aa s)).toNat + 1), s.extract ((idx 93 (aa s)).toNat + 1) s.size) := by
          unfold k6 bs
          rw [if_pos ⟨hp, h⟩, if_pos (.inl hd), hn]
        rw [this]
        exact (fin _ true)
      · refine ae (fun x => hd ((l6 s _).1 x)) ?_
        obtain ⟨b, t, hbt⟩ : ∃ b t, (aa s).drop ((idx 93 (aa s)).toNat + 1) = b :: t := by
          cases hh : (aa s).drop ((idx 93 (aa s)).toNat + 1) with
          | nil => exact absurd hh hd
          | cons b t => exact ⟨b, t, rfl⟩
        have hx : (aa (s.extract ((idx 93 (aa s)).toNat + 1) s.size)).drop 0 = b :: t := by
          rw [ay, ← af, List.take_length, List.drop_zero, hbt]
        obtain ⟨g1, g2, _⟩ := tf hx
        rw [Int.natCast_zero] at g1
        rw [g1]
        refine ab (by omega) ?_
        have hg : (List.drop ((idx 93 (aa s)).toNat + 1) (aa s)).getD 0 0 = b := by rw [hbt]; rfl
        have : k6 s = (if (b == 58) = true then (s.extract 0 ((idx 93 (aa s)).toNat + 1), s.extract ((idx 93 (aa s)).toNat + 1) s.size) else (s, ⟨#[]⟩)) := by
          unfold k6 bs
          rw [if_pos ⟨hp, h⟩, hg]
          by_cases hb58 : b = 58
          · rw [if_pos (.inr hb58), if_pos (by simp [hb58]), hn]
          · rw [if_neg (by simp [hd, hb58]), if_neg (by simp [hb58]), af, Int.toNat_natCast, jX, l8]
        rw [this]
        exact fin _ _
    · simp only [if_neg h]
      rw [pi s (bs (aa s)) (by
        unfold bs
        rw [if_neg (by omega), af])]
      exact az _
  · simp only [if_neg hp]
    rw [pi s (bs (aa s)) (by
      unfold bs
      rw [if_neg (fun x => hp x.1), af])]
    exact az _
def bW (s : ByteArray) : ByteArray := s.extract (bP 64 (aa s) + 1).toNat s.size
def bL (s : ByteArray) : Bool × ByteArray × ByteArray × Bool × ByteArray :=
  (decide (0 ≤ bP 64 (aa s)), s.extract 0 (bP 64 (aa s)).toNat, (bW s).extract 0 (bs (aa (bW s))).toNat,
   decide (bs (aa (bW s)) < (bW s).size), (bW s).extract ((bs (aa (bW s))).toNat + 1) (bW s).size)
theorem kE (s : ByteArray) : s.extract 0 0 = (⟨#[]⟩ : ByteArray) := by
  apply iE; rw [ay]; rfl
theorem eo (s : ByteArray) (i : Nat) : (s.extract i s.size).size = s.size - i := by
  rw [ByteArray.size_extract, Nat.min_self]
theorem kD (s : ByteArray) (i : Nat) (h : s.size ≤ i) : s.extract i s.size = (⟨#[]⟩ : ByteArray) := by
  apply iE
  rw [ay, List.drop_of_length_le (by rw [List.length_take, af]; omega)]; rfl
theorem fz (s : ByteArray) (i j : Nat) : (s.extract i s.size).extract j (s.extract i s.size).size = s.extract (i + j) s.size := by
  apply iE
  rw [ay, ay, ay, ← af (s.extract i s.size), ay, List.take_length, List.drop_drop]
theorem yE (s : ByteArray) (hs : s.size ≤ 140737488351232) : Ev (fun k => g8 k s) (bL s) := by
  have h1 := nh 64 (aa s)
  have h2 := tr 64 (aa s)
  rw [af] at h2
  unfold g8
  refine ah (pn s 64 hs) ?_
  have port : ∀ (r : ByteArray), r.size ≤ s.size → (k6 r).2.size = r.size - (bs (aa r)).toNat ∧ ((k6 r).2.toList = ([] : List UInt8) ↔ ¬ bs (aa r) < r.size) := by
    intro r _
    have hr := gT (aa r)
    rw [af] at hr
    refine ⟨eo r _, ?_⟩
    unfold k6
    rw [l6, List.drop_eq_nil_iff, af]
    omega
  by_cases h : bP 64 (aa s) ≥ 0
  · have hz : (bW s).size ≤ s.size := by unfold bW; rw [eo]; omega
    obtain ⟨p1, p2⟩ := port (bW s) hz
    have hr := gT (aa (bW s))
    rw [af] at hr
    refine ab h (ab h (ab (by omega) ?_))
    rw [w64 (by omega) (by omega)]
    refine ab (by omega) (ab (by omega) ?_)
    refine ah (vn (bW s) (by omega)) ?_
    by_cases hp : bs (aa (bW s)) < (bW s).size
    · refine ae (fun x => absurd hp (p2.1 x)) (ab (by rw [p1]; omega) (o9 fun _ => ?_))
      unfold bL
      rw [decide_eq_true h, decide_eq_true hp]
      simp only [k6, fz]
    · refine ab (p2.2 hp) (o9 fun _ => ?_)
      unfold bL
      rw [decide_eq_true h, decide_eq_false hp, kD (bW s) _ (by omega)]
      rfl
  · have hr0 : bW s = s := by
      unfold bW
      have : (bP 64 (aa s) + 1).toNat = 0 := by omega
      rw [this, jX]
    obtain ⟨p1, p2⟩ := port s (Nat.le_refl _)
    have hr := gT (aa s)
    rw [af] at hr
    have ht : (bP 64 (aa s)).toNat = 0 := by omega
    refine ae h ?_
    refine ah (vn s hs) ?_
    by_cases hp : bs (aa s) < s.size
    · refine ae (fun x => absurd hp (p2.1 x)) (ab (by rw [p1]; omega) (o9 fun _ => ?_))
      unfold bL
      rw [hr0, decide_eq_false h, decide_eq_true hp, ht, kE]
      simp only [k6, fz]
    · refine ab (p2.2 hp) (o9 fun _ => ?_)
      unfold bL
      rw [hr0, decide_eq_false h, decide_eq_false hp, ht, kE, kD s _ (by omega)]
      rfl
theorem append_nil (s : ByteArray) : s ++ (⟨#[]⟩ : ByteArray) = s := by
  apply iE; rw [nV]; exact List.append_nil _
theorem uh (s : ByteArray) : (bL s).2.1.size ≤ s.size ∧ (bL s).2.2.1.size ≤ s.size ∧ (bL s).2.2.2.2.size ≤ s.size := by
  have hz : (bW s).size ≤ s.size := by unfold bW; rw [eo]; omega
  unfold bL
  simp only [ByteArray.size_extract]
  omega
end Go.Proofs.YtpmflpeckoeooaaGreatDoor.Y
namespace Go.Proofs.YtpmflpeckoeooaaGreatDoor.Y
open Go.RowKit Go.Proofs.YtpmflpeckoeooaaGreatDoor.X Go.Proofs.YtpmflpeckoeooaaGreatDoor.M Go.Proofs.YtpmflpeckoeooaaGreatDoorW.PrintWords Go.Proofs.YtpmflpeckoeooaaGreatDoorW.PrintLast Go.Proofs.YtpmflpeckoeooaaGreatDoorW.PrintMore
def j9 (iri hu : Bool) (u h : List Int) (hp : Bool) (p : List Int) : Bool := (!hu || bn 1 iri u) && (i9 iri h != 0) && (!hp || p.all eb)
theorem qB (c : Int) (l : List Int) : ∀ b ∈ l, b = c ∨ ∃ p ∈ bT c l, b ∈ p := by
  induction l with
  | nil => intro b h; cases h
  | cons x t ih =>
    intro b h
    rw [gu]
    by_cases hx : x = c
    · rw [if_pos hx]
      rcases List.mem_cons.1 h with h | h
      · left; rw [h]; exact hx
      · rcases ih b h with h | ⟨p, hp, h2⟩
        · exact .inl h
        · exact .inr ⟨p, List.mem_cons_of_mem _ hp, h2⟩
    · rw [if_neg hx]
      rcases List.mem_cons.1 h with h | h
      · exact .inr ⟨_, List.mem_cons_self .., by rw [h]; exact List.mem_cons_self ..⟩
      · rcases ih b h with h | ⟨p, hp, h2⟩
        · exact .inl h
        · right
          rw [kb c t] at hp
          rcases List.mem_cons.1 hp with rfl | hp
          · exact ⟨_, List.mem_cons_self .., List.mem_cons_of_mem _ h2⟩
          · exact ⟨p, List.mem_cons_of_mem _ hp, h2⟩
def i7 (b : Int) : Bool := bu b || b == 58 || b == 46
theorem tN {b : Int} (h : eb b = true) : i7 b = true := by
  have := i1.1 h
  unfold i7 bu
  simp only [Bool.or_eq_true, decide_eq_true_iff]
  omega
theorem rH {l : List Int} (h : (v4 l).isSome = true) : ∀ b ∈ l, eb b = true ∨ b = 46 := by
  intro b hb
  unfold v4 at h
  split at h
  · rename_i x y z w e
    split at h
    · rename_i hd
      rcases qB 46 l b hb with h1 | ⟨p, hp, h1⟩
      · exact .inr h1
      · left
        rw [e] at hp
        simp only [List.mem_cons, List.mem_nil_iff, or_false] at hp
        have key : ∀ q : List Int, 0 ≤ d8 q → b ∈ q → eb b = true := fun q hq hm => List.all_eq_true.1 (ws hq) b hm
        rcases hp with rfl | rfl | rfl | rfl
        · exact key _ hd.1 h1
        · exact key _ hd.2.1 h1
        · exact key _ hd.2.2.1 h1
        · exact key _ hd.2.2.2 h1
    · cases h
  · cases h
theorem td {fin : Bool} {r : List (List Int)} {l : List Int} (h : fW fin r = some l) : ∀ p ∈ r, ∀ b ∈ p, i7 b = true := by
  induction r generalizing l with
  | nil => simp
  | cons q r ih =>
    rw [jd] at h
    intro p hp b hb
    split at h
    · rename_i hc
      rw [hc.1] at hp
      rw [List.mem_singleton] at hp
      subst hp
      rcases rH hc.2.2 b hb with h1 | h1
      · exact tN h1
      · rw [h1]; rfl
    · split at h
      · cases h
      · rename_i hw
        obtain ⟨x, hx, rfl⟩ := Option.map_eq_some_iff.1 h
        rcases List.mem_cons.1 hp with rfl | hp
        · have := List.all_eq_true.1 (rK (l := p) (by omega)).1 b hb
          unfold i7
          rw [this]; rfl
        · exact ih hx p hp b hb
theorem nJ {fin : Bool} {l w : List Int} (h : gi fin l = some w) : ∀ b ∈ l, i7 b = true := by
  intro b hb
  unfold gi at h
  split at h
  · rename_i e; rw [e] at hb; cases hb
  · rcases qB 58 l b hb with h1 | ⟨p, hp, h1⟩
    · rw [h1]; rfl
    · exact td h p hp b h1
theorem xm {l : List Int} (h : (v6 l).isSome = true) : ∀ b ∈ l, i7 b = true := by
  intro b hb
  obtain ⟨w, hw⟩ := Option.isSome_iff_exists.1 h
  unfold v6 at hw
  split at hw
  · obtain ⟨x, hx, _⟩ := Option.bind_eq_some_iff.1 hw
    exact nJ hx b hb
  · rename_i hs
    obtain ⟨x, hx, hw⟩ := Option.bind_eq_some_iff.1 hw
    obtain ⟨y, hy, _⟩ := Option.bind_eq_some_iff.1 hw
    have hsp := lU (sub := [58, 58]) (l := l) (by omega)
    have e : l = l.take (cx [58, 58] l).toNat ++ ([58, 58] ++ l.drop ((cx [58, 58] l).toNat + 2)) := by
      have h1 := (List.take_append_drop (cx [58, 58] l).toNat l).symm
      have h2 := (List.take_append_drop 2 (l.drop (cx [58, 58] l).toNat)).symm
      have h3 : (l.drop (cx [58, 58] l).toNat).take 2 = [58, 58] := hsp.2
      rw [h3, List.drop_drop] at h2
      rw [← h2]
      exact h1
    rw [e] at hb
    rcases List.mem_append.1 hb with h1 | h1
    · exact nJ hx b h1
    · rcases List.mem_append.1 h1 with h1 | h1
      · simp only [List.mem_cons, List.mem_nil_iff, or_false] at h1
        rcases h1 with rfl | rfl <;> rfl
      · exact nJ hy b h1
theorem u9 {l : List Int} (h : fut l = true) : ∀ b ∈ l, i7 b = true ∨ cn 1 b = true ∨ b = 118 ∨ b = 86 := by
  cases l with
  | nil => cases h
  | cons v t =>
    rw [oW] at h
    simp only [Bool.and_eq_true, Bool.or_eq_true, beq_iff_eq] at h
    obtain ⟨⟨⟨⟨h1, h2⟩, h3⟩, h4⟩, h5⟩ := h
    intro b hb
    rcases List.mem_cons.1 hb with rfl | hb
    · rcases h1 with h1 | h1
      · exact .inr (.inr (.inl h1))
      · exact .inr (.inr (.inr h1))
    · rw [← List.take_append_drop (bf bu t) t] at hb
      rcases List.mem_append.1 hb with hb | hb
      · left
        have := pA t b hb
        unfold i7
        rw [this]; rfl
      · cases hr : t.drop (bf bu t) with
        | nil => rw [hr] at hb; cases hb
        | cons c r =>
          rw [hr] at hb h4 h5
          rcases List.mem_cons.1 hb with rfl | hb
          · left
            have : b = 46 := h4
            rw [this]; rfl
          · exact .inr (.inl (List.all_eq_true.1 h5 b hb))
theorem xE {b : Int} (h : kz 2 b = true) : b ≠ 58 ∧ b ≠ 64 ∧ b ≠ 91 ∧ b ≠ 93 := by
  refine ⟨?_, ?_, ?_, ?_⟩ <;> (rintro rfl; exact absurd h (by decide))
theorem nZ {b : Int} (h : i7 b = true ∨ cn 1 b = true ∨ b = 118 ∨ b = 86) : b ≠ 64 ∧ b ≠ 93 := by
  constructor <;> (rintro rfl; exact absurd h (by decide))
theorem sJ {l : List Int} (h : mC l = true) : l = 91 :: ((l.take (l.length - 1)).drop 1 ++ [93]) := by
  unfold mC at h
  simp only [Bool.and_eq_true, decide_eq_true_iff, beq_iff_eq] at h
  obtain ⟨⟨h1, h2⟩, h3⟩ := h
  cases l with
  | nil => simp at h1
  | cons a t =>
    have ha : a = 91 := h2
    subst ha
    have ht : t ≠ [] := by rintro rfl; simp at h1
    have e : t = t.dropLast ++ [93] := by
      have := (List.dropLast_concat_getLast ht).symm
      have hl : t.getLast ht = 93 := by
        rw [List.getLastD_eq_getLast?, List.getLast?_eq_some_getLast (by simp), Option.getD_some, List.getLast_cons ht] at h3
        exact h3
      rw [hl] at this
      exact this
    congr 1
    rw [show (91 :: t).length - 1 = (t.length - 1) + 1 by
      have : t.length ≠ 0 := fun x => ht (List.length_eq_zero_iff.1 x)
      simp; omega]
    rw [List.take_succ_cons, List.drop_succ_cons, List.drop_zero, ← List.dropLast_eq_take]
    exact e
theorem sM {iri : Bool} {h : List Int} (hl : ∀ b ∈ h, 0 ≤ b ∧ b ≤ 255) (hk : i9 iri h ≠ 0) : (64 : Int) ∉ h ∧ ((∃ m, h = 91 :: (m ++ [93]) ∧ (93 : Int) ∉ m) ∨ ((58 : Int) ∉ h ∧ (91 : Int) ∉ h)) := by
  unfold i9 at hk
  by_cases hb : mC h = true
  · rw [if_pos hb] at hk
    have e := sJ hb
    generalize (h.take (h.length - 1)).drop 1 = m at hk e
    have hm : ∀ b ∈ m, b ≠ 64 ∧ b ≠ 93 := by
      by_cases hc : ((v6 m).isSome || fut m) = true
      · rw [Bool.or_eq_true] at hc
        rcases hc with hc | hc
        · exact fun b hb => nZ (.inl (xm hc b hb))
        · exact fun b hb => nZ (u9 hc b hb)
      · rw [if_neg hc] at hk
        exact absurd rfl hk
    refine ⟨?_, .inl ⟨m, e, fun x => (hm _ x).2 rfl⟩⟩
    rw [e]
    intro x
    rcases List.mem_cons.1 x with x | x
    · cases x
    · rcases List.mem_append.1 x with x | x
      · exact (hm _ x).1 rfl
      · rw [List.mem_singleton] at x; cases x
  · rw [if_neg hb] at hk
    have key : ∀ b ∈ h, b ≠ 58 ∧ b ≠ 64 ∧ b ≠ 91 := by
      by_cases h4 : (v4 h).isSome = true
      · intro b hb
        rcases rH h4 b hb with h1 | h1
        · have := i1.1 h1; omega
        · omega
      · rw [if_neg h4] at hk
        by_cases ha : bn 2 iri h = true
        · intro b hb
          have := xE (sI hl ha b hb)
          exact ⟨this.1, this.2.1, this.2.2.1⟩
        · rw [if_neg ha] at hk
          exact absurd rfl hk
    exact ⟨fun x => (key _ x).2.1 rfl, .inr ⟨fun x => (key _ x).1 rfl, fun x => (key _ x).2.2 rfl⟩⟩
theorem vp {c : Int} {a : List Int} (h : c ∉ a) (r : List Int) : idx c (a ++ c :: r) = a.length := by
  rw [tX, if_pos (oX.2 h)]
  have : idx c (c :: r) = 0 := by unfold idx; rw [if_pos rfl]
  rw [this, if_neg (by omega)]; omega
theorem xY {c : Int} (a : List Int) {r : List Int} (h : c ∉ r) : bP c (a ++ c :: r) = a.length := by
  induction a with
  | nil =>
    rw [List.nil_append]
    have : bP c (c :: r) = if bP c r = -1 then (if c = c then 0 else -1) else bP c r + 1 := rfl
    rw [this, if_pos (ob.2 h), if_pos rfl]; rfl
  | cons b t ih =>
    rw [List.cons_append]
    have : bP c (b :: (t ++ c :: r)) = if bP c (t ++ c :: r) = -1 then (if b = c then 0 else -1) else bP c (t ++ c :: r) + 1 := rfl
    rw [this, ih, if_neg (by omega), List.length_cons]; omega
def tT (hu : Bool) (u h : List Int) (hp : Bool) (p : List Int) : List Int := (if hu then u ++ [64] else []) ++ (h ++ if hp then 58 :: p else [])
def qO (l : List Int) : Bool × List Int × List Int × Bool × List Int :=
  (decide (0 ≤ bP 64 l), l.take (bP 64 l).toNat, (l.drop (bP 64 l + 1).toNat).take (bs (l.drop (bP 64 l + 1).toNat)).toNat,
   decide (bs (l.drop (bP 64 l + 1).toNat) < (l.drop (bP 64 l + 1).toNat).length), (l.drop (bP 64 l + 1).toNat).drop ((bs (l.drop (bP 64 l + 1).toNat)).toNat + 1))
theorem qC {h : List Int} (hh : (∃ m, h = 91 :: (m ++ [93]) ∧ (93 : Int) ∉ m) ∨ ((58 : Int) ∉ h ∧ (91 : Int) ∉ h)) (hp : Bool) (p : List Int) : bs (h ++ if hp then 58 :: p else []) = h.length := by
  rcases hh with ⟨m, e, hm⟩ | ⟨h58, h91⟩
  · have e2 : h ++ (if hp then 58 :: p else []) = (91 :: m) ++ 93 :: (if hp then 58 :: p else []) := by rw [e]; simp
    have hi : idx 93 ((91 :: m) ++ 93 :: (if hp then 58 :: p else [])) = (m.length : Int) + 1 := by
      rw [vp (by rw [List.mem_cons, not_or]; exact ⟨by decide, hm⟩), List.length_cons]; omega
    have hl : h.length = m.length + 2 := by rw [e]; simp
    rw [e2]
    unfold bs
    rw [hi, if_pos ⟨by simp, by omega⟩]
    have hd : ((91 :: m) ++ 93 :: (if hp then 58 :: p else [])).drop (((m.length : Int) + 1).toNat + 1) = if hp then 58 :: p else [] := by
      have : ((m.length : Int) + 1).toNat + 1 = ((91 : Int) :: m).length + 1 := by rw [List.length_cons]; omega
      rw [this, List.drop_append]
      simp
    rw [hd, if_pos (by cases hp <;> simp)]
    omega
  · have ht : ¬ ((h ++ if hp then 58 :: p else []).take 1 = [91]) := by
      cases h with
      | nil => cases hp <;> simp
      | cons b t =>
        rw [List.cons_append, List.take_succ_cons, List.take_zero]
        intro x
        injection x with x
        exact h91 (by rw [x]; exact List.mem_cons_self ..)
    unfold bs
    rw [if_neg (fun x => ht x.1)]
    cases hp
    · have : idx 58 (h ++ if false = true then 58 :: p else []) = -1 := by
        rw [if_neg (by simp), List.append_nil]
        exact oX.2 h58
      rw [this, if_neg (by omega), if_neg (by simp), List.append_nil]
    · have : idx 58 (h ++ if true = true then 58 :: p else []) = h.length := by
        rw [if_pos rfl]
        exact vp h58 p
      rw [this, if_pos (by omega)]
theorem ux {iri hu : Bool} {u h : List Int} {hp : Bool} {p : List Int} (hul : ∀ b ∈ u, 0 ≤ b ∧ b ≤ 255) (hhl : ∀ b ∈ h, 0 ≤ b ∧ b ≤ 255) (hu0 : hu = false → u = []) (hp0 : hp = false → p = [])
    (hr : j9 iri hu u h hp p = true) : qO (tT hu u h hp p) = (hu, u, h, hp, p) := by
  unfold j9 at hr
  simp only [Bool.and_eq_true, Bool.or_eq_true, Bool.not_eq_true'] at hr
  obtain ⟨⟨h1, h2⟩, h3⟩ := hr
  have h2' : i9 iri h ≠ 0 := by simpa using h2
  obtain ⟨h64, hform⟩ := sM hhl h2'
  have he := qC hform hp p
  have hrest : (64 : Int) ∉ h ++ if hp then 58 :: p else [] := by
    intro x
    rcases List.mem_append.1 x with x | x
    · exact h64 x
    · cases hp
      · simp at x
      · rw [if_pos rfl] at x
        rcases List.mem_cons.1 x with x | x
        · cases x
        · rcases h3 with h3 | h3
          · cases h3
          · have := i1.1 (List.all_eq_true.1 h3 _ x); omega
  have both : ∀ r, r = h ++ (if hp then 58 :: p else []) → r.take (bs r).toNat = h ∧ decide (bs r < r.length) = hp ∧ r.drop ((bs r).toNat + 1) = p := by
    intro r e
    subst e
    rw [he, Int.toNat_natCast]
    refine ⟨by simp, ?_, ?_⟩
    · cases hp
      · rw [decide_eq_false]; simp
      · rw [decide_eq_true]; simp; omega
    · cases hp
      · rw [hp0 rfl]
        apply List.drop_of_length_le
        simp
      · rw [if_pos rfl, List.drop_append]
        simp
  unfold qO tT
  cases hu
  · have hl : bP 64 ((if false = true then u ++ [64] else []) ++ (h ++ if hp then 58 :: p else [])) = -1 := by
      rw [if_neg (by simp), List.nil_append]
      exact ob.2 hrest
    rw [hl, if_neg (by simp), List.nil_append]
    obtain ⟨b1, b2, b3⟩ := both _ rfl
    have e0 : ((-1 : Int) + 1).toNat = 0 := rfl
    rw [e0, List.drop_zero, b1, b2, b3, hu0 rfl]
    rfl
  · have hl : bP 64 ((if true = true then u ++ [64] else []) ++ (h ++ if hp then 58 :: p else [])) = u.length := by
      rw [if_pos rfl, List.append_assoc, List.singleton_append]
      exact xY u hrest
    rw [hl, if_pos rfl]
    obtain ⟨b1, b2, b3⟩ := both _ rfl
    have e0 : ((u.length : Int) + 1).toNat = u.length + 1 := by omega
    have e1 : ((u ++ [64]) ++ (h ++ if hp then 58 :: p else [])).drop (u.length + 1) = h ++ if hp then 58 :: p else [] := by
      rw [List.drop_append]; simp
    have e2 : ((u ++ [64]) ++ (h ++ if hp then 58 :: p else [])).take u.length = u := by
      rw [List.append_assoc]; simp
    rw [e0, e1, b1, b2, b3, Int.toNat_natCast, e2, decide_eq_true (by omega)]
end Go.Proofs.YtpmflpeckoeooaaGreatDoor.Y
