/- Texts that the law's proof needs, joined by a program of this session. -/
import Derived.Test.YtediodhkimacjaaZPunyPlain0
set_option maxHeartbeats 8000000
set_option maxRecDepth 100000
set_option linter.unusedSimpArgs false
set_option linter.unusedVariables false
namespace Go.Proofs.Ytediodhkimacjaa.X
open Go.RowKit Go.Proofs.YtediodhkimacjaaW.PrintWords Go.Proofs.YtediodhkimacjaaW.PrintLast Go.Proofs.YtediodhkimacjaaW.PrintMore
attribute [local go_sem] bL bF ck cC bK cv bm cp cr cA cB ca cd cq ct
mutual
def aK : Nat → Int → Int → Option (Int)
  | 0, _, _ => none
  | k + 1, x0, x1 => if x1 = 0 then (none) else (a6 k (wrap64 (x0 + (wrap64 (Int.tdiv x0 x1)))) 0)
def a6 : Nat → Int → Int → Option (Int)
  | 0, _, _ => none
  | k + 1, x0, x7 => if x0 > 455 then (a6 k (wrap64 (Int.tdiv x0 35)) (wrap64 (x7 + 36))) else (if (wrap64 (x0 + 38)) = 0 then (none) else (some (wrap64 (x7 + (wrap64 (Int.tdiv (wrap64 (36 * x0)) (wrap64 (x0 + 38))))))))
end
def bi (k : Nat) (a0 : Int) (a1 : Int) (a2 : Bool) : Option (Int) := if a2 = true then (aK k (wrap64 ((mx a0 0) / 700)) (mx a1 1)) else (aK k (wrap64 ((mx a0 0) / 2)) (mx a1 1))
theorem bX : ∀ k, (∀ y0 y1, LeO (aK k y0 y1) (aK (k + 1) y0 y1)) ∧ (∀ y0 y1, LeO (a6 k y0 y1) (a6 (k + 1) y0 y1))
  | 0 => ⟨fun _ _ r h => by simp [aK] at h, fun _ _ r h => by simp [a6] at h⟩
  | k + 1 => by
    obtain ⟨ih0, ih1⟩ := bX k
    refine ⟨?_, ?_⟩
    · intro y0 y1
      unfold aK
      exact xmo
    · intro y0 y1
      unfold a6
      exact xmo
theorem bv : ∀ a0 a1 a2 k, LeO (bi k a0 a1 a2) (bi (k + 1) a0 a1 a2) := by
  intro a0 a1 a2 k
  obtain ⟨ih0, ih1⟩ := bX k
  unfold bi
  exact xmo
theorem bs (k : Nat) (a0 : Int) (a1 : Int) (a2 : Bool) (r : Int) (w : World) (h : bi k a0 a1 a2 = some r) :
    Calls Try.prog 16 #[.int .i64 a0, .int .i64 a1, .bool a2] w fun e w' => e = .returned (.int .i64 r) ∧ Below w.heap.size w w' := by
 have HB := Zz.mk (Below.refl w.heap.size w)
 have H : (if a2 = true then (aK k (wrap64 ((mx a0 0) / 700)) (mx a1 1)) else (aK k (wrap64 ((mx a0 0) / 2)) (mx a1 1))) = some r := h
 clear h
 obtain ⟨Ag, Ab⟩ : ∃ j_ : Int, (mx a0 0) = j_ := ⟨_, rfl⟩
 first | rw [Ab] at H | simp only [Ab] at H | skip
 (try (have Al : 0 ≤ Ag := by (rw [← Ab]; unfold mx; (repeat' split) <;> omega)))
 (try (have Am : 0 ≤ Ag := by omega))
 have hji4_ : (if a0 < 0 then 0 else a0) = Ag := Ab
 obtain ⟨Af, Ac⟩ : ∃ j_ : Int, (mx a1 1) = j_ := ⟨_, rfl⟩
 first | rw [Ac] at H | simp only [Ac] at H | skip
 (try (have An : 1 ≤ Af := by (rw [← Ac]; unfold mx; (repeat' split) <;> omega)))
 (try (have Ao : 0 ≤ Af := by omega))
 have hji5_ : (if a1 < 1 then 1 else a1) = Af := Ac
 have Ah := Zz.mk H
 clear H
 go_enter Try.func16, Try.ntmps16
 go_upto_if 12 with (fail)
 go_cut [0] (fun v0 wc => ∃ (kq : Nat) (Ad : Int), v0 = .int .i64 Ad ∧ Zz (aK kq Ad Af = some r) ∧ Zz (kq ≤ k) ∧ Zz (Below w.heap.size w wc))
 case first =>
  have H := Ah.out
  clear Ah
  by_cases c7 : a2 = true
  ·
   subst c7
   rw [if_pos rfl] at H
   have H' := Zz.mk H
   clear H
   go_wp2
   go_meet
   case rel => exact ⟨_, (wrap64 ((Ag) / 700)), (by first | rfl | (simp; done) | (simp only [← Ab] <;> (first | rfl | (rw [Int.tdiv_eq_ediv_of_nonneg (by unfold mx; split <;> omega)]; done) | simp)) | (simp [*]; done) | (simp [wrap64]; done)), H', ⟨xom⟩, ⟨xbl⟩⟩
  ·
   replace c7 := Bool.eq_false_iff.mpr c7
   subst c7
   rw [if_neg (show ¬ (false = true) by decide)] at H
   have H' := Zz.mk H
   clear H
   go_wp2
   go_meet
   case rel => exact ⟨_, (wrap64 ((Ag) / 2)), (by first | rfl | (simp; done) | (simp only [← Ab] <;> (first | rfl | (rw [Int.tdiv_eq_ediv_of_nonneg (by unfold mx; split <;> omega)]; done) | simp)) | (simp [*]; done) | (simp [wrap64]; done)), H', ⟨xom⟩, ⟨xbl⟩⟩
 case rest =>
  clear Ah
  obtain ⟨kq, Ad, rfl, HA, HJ5, HB⟩ := hcut
  cases kq with
  | zero => exact absurd HA.out (by simp [aK])
  | succ kj5 =>
   have H := HA.out
   clear HA
   simp only [aK] at H
   by_cases c8 : Af = 0
   ·
    rw [if_pos c8] at H
    exact absurd H (by simp)
   ·
    rw [if_neg c8] at H
    have Ai : (Af == 0) = false := beq_eq_false_iff_ne.mpr c8
    have Aj : (Af != 0) = true := bne_iff_ne.mpr c8
    have H' := Zz.mk H
    clear H
    go_wp2
    go_loopg [0, 7] kj5 (fun kq v0 v7 w' => ∃ (Aa : Int) (Ae : Int), v0 = .int .i64 Aa ∧ v7 = .int .i64 Ae ∧ Zz (a6 kq Aa Ae = some r) ∧ Zz (kq ≤ kj5) ∧ Zz (Below w.heap.size w w'))
    case atStart => exact ⟨(wrap64 (Ad + (wrap64 (Int.tdiv Ad Af)))), (0), (by first | rfl | (simp; done) | (simp only [← Ac] <;> (first | rfl | (rw [Int.tdiv_eq_ediv_of_nonneg (by unfold mx; split <;> omega)]; done) | simp)) | (simp [*]; done) | (simp [wrap64]; done)), xrr, H', ⟨Nat.le_refl _⟩, ⟨xbl⟩⟩
    case round =>
     clear H'
     clear c8 Ai Aj
     obtain ⟨Aa, Ae, rfl, rfl, HA, HK2, HB⟩ := hrel
     cases gk with
     | zero => exact absurd HA.out (by simp [a6])
     | succ k2 =>
      have H := HA.out
      clear HA
      simp only [a6] at H
      by_cases c9 : Aa > 455
      ·
       rw [if_pos c9] at H
       have Ak := decide_eq_true c9
       clear c9
       have H' := Zz.mk H
       clear H
       go_wp2
       go_roundg k2
       case measure => have := HJ5.out; have := HK2.out; omega
       case rel => exact ⟨(wrap64 (Int.tdiv Aa 35)), (wrap64 (Ae + 36)), xrr, xrr, H', ⟨by have := HJ5.out; have := HK2.out; omega⟩, ⟨xbl⟩⟩
      ·
       rw [if_neg c9] at H
       have Ak := decide_eq_false c9
       clear c9
       by_cases c10 : (wrap64 (Aa + 38)) = 0
       ·
        rw [if_pos c10] at H
        exact absurd H (by simp)
       ·
        rw [if_neg c10] at H
        have Ap : ((wrap64 (Aa + 38)) == 0) = false := beq_eq_false_iff_ne.mpr c10
        have Aq : ((wrap64 (Aa + 38)) != 0) = true := bne_iff_ne.mpr c10
        obtain rfl := Option.some.inj H
        go_wp2
        go_ret
        exact ⟨by first | rfl | (simp [av, aw] <;> first | rfl | (simp only [ba, bne, Bool.not_not]; done)) | (simp only [← Ab, ← Ac]; first | rfl | (simp [av, aw] <;> rfl)) | (simp [*, av, aw] <;> rfl), xbl⟩
mutual
def aQ : Nat → ByteArray → Int → Int → Int → Option (List Int × Int × Bool)
  | 0, _, _, _, _ => none
  | k + 1, x0, x5, x10, x11 => if x11 < x10 then (if 0 ≤ x11 then (if x11 < (x0.size : Int) then (if (bt x0 x11) = 45 then (aQ k x0 x11 x10 (wrap64 (x11 + 1))) else (aQ k x0 x5 x10 (wrap64 (x11 + 1)))) else (none)) else (none)) else (aW k x0 x5 ([] : List Int) (mx x5 0) 0)
def aW : Nat → ByteArray → Int → List Int → Int → Int → Option (List Int × Int × Bool)
  | 0, _, _, _, _, _ => none
  | k + 1, x0, x5, x7, x21, x22 => if x22 < x21 then (if 0 ≤ x22 then (if x22 < (x0.size : Int) then (if (bt x0 x22) ≥ 128 then (some (([] : List Int), 0, false)) else (if x7.length < 35184372088832 then (aW k x0 x5 (x7 ++ [wrap32 (bt x0 x22)]) x21 (wrap64 (x22 + 1))) else (none))) else (none)) else (none)) else (some (x7, wrap64 (x5 + 1), true))
end
def bk (k : Nat) (a0 : ByteArray) : Option (List Int × Int × Bool) := aQ k a0 (-1) (a0.size : Int) 0
theorem b0 : ∀ k, (∀ y0 y1 y2 y3, LeO (aQ k y0 y1 y2 y3) (aQ (k + 1) y0 y1 y2 y3)) ∧ (∀ y0 y1 y2 y3 y4, LeO (aW k y0 y1 y2 y3 y4) (aW (k + 1) y0 y1 y2 y3 y4))
  | 0 => ⟨fun _ _ _ _ r h => by simp [aQ] at h, fun _ _ _ _ _ r h => by simp [aW] at h⟩
  | k + 1 => by
    obtain ⟨ih0, ih1⟩ := b0 k
    refine ⟨?_, ?_⟩
    · intro y0 y1 y2 y3
      unfold aQ
      exact xmo
    · intro y0 y1 y2 y3 y4
      unfold aW
      exact xmo
theorem cg : ∀ a0 k, LeO (bk k a0) (bk (k + 1) a0) := by
  intro a0 k
  obtain ⟨ih0, ih1⟩ := b0 k
  unfold bk
  exact xmo
theorem b6 (k : Nat) (a0 : ByteArray) (r1 : List Int) (r2 : Int) (r3 : Bool) (w : World) (h : bk k a0 = some (r1, r2, r3)) :
    Calls Try.prog 19 #[.string a0] w fun e w' => ∃ v0_ : Value, e = .returned (.tuple #[v0_, .int .i64 r2, .bool r3]) ∧ Kd.R (Kd.int .i32) 21 w' w.heap.size (fun _ => True) v0_ r1 ∧ Below w.heap.size w w' := by
 have HB := Zz.mk (Below.refl w.heap.size w)
 have H : (aQ k a0 (-1) (a0.size : Int) 0) = some (r1, r2, r3) := h
 clear h
 have H' := Zz.mk H
 clear H
 go_enter Try.func19, Try.ntmps19
 go_wp2
 go_loopg [5, 11] k (fun kq v5 v11 w' => ∃ (Ac : Int) (Ab : Int), v5 = .int .i64 Ac ∧ v11 = .int .i64 Ab ∧ Zz (aQ kq a0 Ac (a0.size : Int) Ab = some (r1, r2, r3)) ∧ Zz (kq ≤ k) ∧ Zz (Below w.heap.size w w'))
 case atStart => exact ⟨((-1)), (0), xrr, xrr, H', ⟨Nat.le_refl _⟩, ⟨xbl⟩⟩
 case round =>
  clear H'
  obtain ⟨Ac, Ab, rfl, rfl, HA, HK1, HB⟩ := hrel
  cases gk with
  | zero => exact absurd HA.out (by simp [aQ])
  | succ k1 =>
   have H := HA.out
   clear HA
   simp only [aQ] at H
   by_cases c2 : Ab < (a0.size : Int)
   ·
    rw [if_pos c2] at H
    have Ai := decide_eq_true c2
    clear c2
    by_cases c3 : 0 ≤ Ab
    ·
     rw [if_pos c3] at H
     have Au := decide_eq_true c3
     clear c3
     by_cases c4 : Ab < (a0.size : Int)
     ·
      rw [if_pos c4] at H
      have Av := decide_eq_true c4
      clear c4
      by_cases c6 : (bt a0 Ab) = 45
      ·
       rw [if_pos c6] at H
       have Ao : ((bt a0 Ab) == 45) = true := beq_iff_eq.mpr c6
       have Ap : ((bt a0 Ab) != 45) = false := bne_eq_false_iff_eq.mpr c6
       clear c6
       have H' := Zz.mk H
       clear H
       have p5 : 0 ≤ (Ab : Int) := xod
       have q5 : Ab < (a0.size : Int) := xod
       have hx5 := bp a0 Ab
       replace p5 := eq_true p5
       replace q5 := eq_true q5
       try (have Aq := q5; simp only [ByteArray.size_extract, Nat.min_self] at Aq)
       go_wp2
       go_roundg k1
       case measure => have := HK1.out; omega
       case rel => exact ⟨(Ab), (wrap64 (Ab + 1)), xrr, xrr, H', ⟨by have := HK1.out; omega⟩, ⟨xbl⟩⟩
      ·
       rw [if_neg c6] at H
       have Ao : ((bt a0 Ab) == 45) = false := beq_eq_false_iff_ne.mpr c6
       have Ap : ((bt a0 Ab) != 45) = true := bne_iff_ne.mpr c6
       have H' := Zz.mk H
       clear H
       have p5 : 0 ≤ (Ab : Int) := xod
       have q5 : Ab < (a0.size : Int) := xod
       have hx5 := bp a0 Ab
       replace p5 := eq_true p5
       replace q5 := eq_true q5
       try (have Aq := q5; simp only [ByteArray.size_extract, Nat.min_self] at Aq)
       go_wp2
       go_roundg k1
       case measure => have := HK1.out; omega
       case rel => exact ⟨(Ac), (wrap64 (Ab + 1)), xrr, xrr, H', ⟨by have := HK1.out; omega⟩, ⟨xbl⟩⟩
     ·
      rw [if_neg c4] at H
      exact absurd H (by simp)
    ·
     rw [if_neg c3] at H
     exact absurd H (by simp)
   ·
    rw [if_neg c2] at H
    have Ai := decide_eq_false c2
    clear c2
    obtain ⟨An, Af⟩ : ∃ j_ : Int, (mx Ac 0) = j_ := ⟨_, rfl⟩
    first | rw [Af] at H | simp only [Af] at H | skip
    have hji7_ : (if Ac < 0 then 0 else Ac) = An := Af
    have H' := Zz.mk H
    clear H
    go_wp2
    go_loopg [7, 22] k1 (fun kq v7 v22 w' => ∃ (Ae : List Int) (Aa : Int), v22 = .int .i64 Aa ∧ Zz (aW kq a0 Ac Ae An Aa = some (r1, r2, r3)) ∧ Zz (kq ≤ k1) ∧ Zz (Kd.R (Kd.int .i32) 21 w' w.heap.size (fun _ => True) v7 Ae) ∧ Zz (Below w.heap.size w w'))
    case atStart => exact ⟨(([] : List Int)), (0), xrr, H', ⟨Nat.le_refl _⟩, ⟨by first | exact Kd.R_nil _ _ _ _ _ | exact Kd.N_nil _ _ _ _ _ | exact Kd.V_nil _ _ _ _ _ | exact Kd.Q_nil _ _ _ _ _ | exact Kd.S_nil _ _ _ _ _⟩, ⟨xbl⟩⟩
    case round =>
     clear H'
     clear Ai
     obtain ⟨Ae, Aa, rfl, HA, HK2, Ag, HB⟩ := hrel
     cases gk with
     | zero => exact absurd HA.out (by simp [aW])
     | succ k2 =>
      have H := HA.out
      clear HA
      simp only [aW] at H
      by_cases c8 : Aa < An
      ·
       rw [if_pos c8] at H
       have Ar := decide_eq_true c8
       clear c8
       by_cases c9 : 0 ≤ Aa
       ·
        rw [if_pos c9] at H
        have Aw := decide_eq_true c9
        clear c9
        by_cases c10 : Aa < (a0.size : Int)
        ·
         rw [if_pos c10] at H
         have At := decide_eq_true c10
         clear c10
         by_cases c12 : (bt a0 Aa) ≥ 128
         ·
          rw [if_pos c12] at H
          have Aj := decide_eq_true c12
          clear c12
          simp only [Option.some.injEq, Prod.mk.injEq] at H
          obtain ⟨rfl, rfl, rfl⟩ := H
          have p11 : 0 ≤ (Aa : Int) := xod
          have q11 : Aa < (a0.size : Int) := xod
          have hx11 := bp a0 Aa
          replace p11 := eq_true p11
          replace q11 := eq_true q11
          try (have Ah := q11; simp only [ByteArray.size_extract, Nat.min_self] at Ah)
          go_wp2
          go_ret3
          exact ⟨_, by first | rfl | (simp [av, aw] <;> first | rfl | (simp only [ba, bne, Bool.not_not]; done)) | (simp only [← Af]; first | rfl | (simp [av, aw] <;> rfl)) | (simp [*, av, aw] <;> rfl), by first | exact Kd.R_nil _ _ _ _ _ | exact Kd.N_nil _ _ _ _ _ | exact Kd.V_nil _ _ _ _ _ | exact Kd.Q_nil _ _ _ _ _ | exact Kd.S_nil _ _ _ _ _, xbl⟩
         ·
          rw [if_neg c12] at H
          have Aj := decide_eq_false c12
          clear c12
          by_cases c14 : Ae.length < 35184372088832
          ·
           rw [if_pos c14] at H
           have LMc14 := Zz.mk c14
           clear c14
           obtain ⟨Ak, Ad⟩ : ∃ y_ : List Int, y_ = (Ae ++ [wrap32 (bt a0 Aa)]) := ⟨_, rfl⟩
           replace H : (aW k2 a0 Ac Ak An (wrap64 (Aa + 1))) = some (r1, r2, r3) := by first | (rw [Ad]; with_reducible exact H) | (have H2_ := (Option.bind_some _ _).symm.trans H; rw [Ad]; with_reducible exact H2_) | (have H2_ := (Option.bind_some _ _).symm.trans H; with_reducible exact H2_) | with_reducible exact H | (rw [Ad]; exact H) | exact H
           have Al := Zz.mk Ad
           clear Ad
           have H' := Zz.mk H
           clear H
           have p11 : 0 ≤ (Aa : Int) := xod
           have q11 : Aa < (a0.size : Int) := xod
           have hx11 := bp a0 Aa
           replace p11 := eq_true p11
           replace q11 := eq_true q11
           try (have Ah := q11; simp only [ByteArray.size_extract, Nat.min_self] at Ah)
           have p13 : 0 ≤ (Aa : Int) := xod
           have q13 : Aa < (a0.size : Int) := xod
           have hx13 := bp a0 Aa
           replace p13 := eq_true p13
           replace q13 := eq_true q13
           try (have As := q13; simp only [ByteArray.size_extract, Nat.min_self] at As)
           go_wp2_with (first | ((with_reducible refine bd (b := .append) (xs := #[.tmp 29, .tmp 34]) rfl ?_); at_builtin; refine Kd.R_append (Kd.int .i32) (w0 := w) w.heap.size rfl (.tmp 29) (.tmp 34) 23 21 (.int .i32 0) 4 rfl Try.underlying23 cJ rfl (by decide) (by omega) u7 Ae (wrap32 (bt a0 Aa)) [.int .i32 (wrap32 (bt a0 Aa))] (fun _ => True) (fun _ => False) rfl rfl ?aP (fun _ hk => hk.elim) ?aF ?aO ?aB ?aS ?aL ?_; (case aP => exact rfl); (case aB => exact xbl); (case aF => exact (fun _ _ => trivial)); (case aO => exact (xkd Ag)); (case aS => exact (ah xbl)); (case aL => have := LMc14.out; first | omega | exact Nat.le_of_lt this); intro v102 w15 ho hb hg hat; rw [← Al.out] at ho; have n0_ := Zz.mk (hb); have n1_ := Zz.mk (ho); clear HB; clear Ag; have HB := n0_; have Am := n1_; clear n0_ n1_; clear ho hb hg hat))
           go_roundg k2
           case measure => have := HK1.out; have := HK2.out; omega
           case rel => exact ⟨(Ak), (wrap64 (Aa + 1)), xrr, H', ⟨by have := HK1.out; have := HK2.out; omega⟩, ⟨xkd Am⟩, ⟨xbl⟩⟩
          ·
           rw [if_neg c14] at H
           exact absurd H (by simp)
        ·
         rw [if_neg c10] at H
         exact absurd H (by simp)
       ·
        rw [if_neg c9] at H
        exact absurd H (by simp)
      ·
       rw [if_neg c8] at H
       have Ar := decide_eq_false c8
       clear c8
       simp only [Option.some.injEq, Prod.mk.injEq] at H
       obtain ⟨rfl, rfl, rfl⟩ := H
       go_wp2
       go_ret3
       exact ⟨_, by first | rfl | (simp [av, aw] <;> first | rfl | (simp only [ba, bne, Bool.not_not]; done)) | (simp only [← Af]; first | rfl | (simp [av, aw] <;> rfl)) | (simp [*, av, aw] <;> rfl), by (with_reducible repeat (first | apply Kd.R_alloc | apply Kd.R_drewN | apply Kd.R_drew)); exact Ag.out, xbl⟩
mutual
def aN : Nat → Int → Bool → Option (Int × Bool)
  | 0, _, _ => none
  | k + 1, x0, x4 => if x4 = true then (some ((x0 - 97) % 256, true)) else (if x0 ≥ 65 then (a7 k x0 (decide (x0 ≤ 90))) else (a7 k x0 false))
def a7 : Nat → Int → Bool → Option (Int × Bool)
  | 0, _, _ => none
  | k + 1, x0, x14 => if x14 = true then (some ((x0 - 65) % 256, true)) else (if x0 ≥ 48 then (if x0 ≤ 57 then (some (((x0 - 48) % 256) + 26, true)) else (some (0, false))) else (some (0, false)))
end
def bx (k : Nat) (a0 : Int) : Option (Int × Bool) := if a0 ≥ 97 then (aN k a0 (decide (a0 ≤ 122))) else (aN k a0 false)
theorem bZ : ∀ k, (∀ y0 y1, LeO (aN k y0 y1) (aN (k + 1) y0 y1)) ∧ (∀ y0 y1, LeO (a7 k y0 y1) (a7 (k + 1) y0 y1))
  | 0 => ⟨fun _ _ r h => by simp [aN] at h, fun _ _ r h => by simp [a7] at h⟩
  | k + 1 => by
    obtain ⟨ih0, ih1⟩ := bZ k
    refine ⟨?_, ?_⟩
    · intro y0 y1
      unfold aN
      exact xmo
    · intro y0 y1
      unfold a7
      exact xmo
theorem cf : ∀ a0 k, LeO (bx k a0) (bx (k + 1) a0) := by
  intro a0 k
  obtain ⟨ih0, ih1⟩ := bZ k
  unfold bx
  exact xmo
theorem ak (k : Nat) (a0 : Int) (r1 : Int) (r2 : Bool) (w : World) (h : bx k a0 = some (r1, r2)) :
    Calls Try.prog 13 #[.int .u8 a0] w fun e w' => e = .returned (.tuple #[.int .i64 r1, .bool r2]) ∧ Drawn0 w w' := by
 have H : (if a0 ≥ 97 then (aN k a0 (decide (a0 ≤ 122))) else (aN k a0 false)) = some (r1, r2) := h
 clear h
 have Ae := Zz.mk H
 clear H
 go_enter Try.func13, Try.ntmps13
 go_upto_region 1 with (fail)
 go_cut [4] (fun v4 wc => ∃ (kq : Nat) (Ad : Bool), v4 = .bool Ad ∧ Zz (aN kq a0 Ad = some (r1, r2)) ∧ Zz (kq ≤ k) ∧ Drawn0 w wc)
 case first =>
  have H := Ae.out
  clear Ae
  by_cases c3 : a0 ≥ 97
  ·
   rw [if_pos c3] at H
   have Ab := decide_eq_true c3
   clear c3
   (first | rw [Ab] | (simp only [bE, bD]; rw [Ab]) | (rw [Af]; (try simp only [Bool.not_false, Bool.not_true])) | (rw [Ag]; (try simp only [Bool.not_false, Bool.not_true])) | rw [Ah] | skip)
   have H' := Zz.mk H
   clear H
   go_wp2
   go_meet
   case rel => exact ⟨_, (decide (a0 ≤ 122)), xrr, H', ⟨xom⟩, xdr⟩
  ·
   rw [if_neg c3] at H
   have Ab := decide_eq_false c3
   clear c3
   (first | rw [Ab] | (simp only [bE, bD]; rw [Ab]) | (rw [Af]; (try simp only [Bool.not_false, Bool.not_true])) | (rw [Ag]; (try simp only [Bool.not_false, Bool.not_true])) | rw [Ah] | skip)
   have H' := Zz.mk H
   clear H
   go_wp2
   go_meet
   case rel => exact ⟨_, (false), xrr, H', ⟨xom⟩, xdr⟩
 case rest =>
  clear Ae
  obtain ⟨kq, Ad, rfl, HA, HJ1, ⟨mc1, rfl⟩⟩ := hcut
  cases kq with
  | zero => exact absurd HA.out (by simp [aN])
  | succ kj1 =>
   have H := HA.out
   clear HA
   simp only [aN] at H
   by_cases c4 : Ad = true
   ·
    subst c4
    rw [if_pos rfl] at H
    simp only [Option.some.injEq, Prod.mk.injEq] at H
    obtain ⟨rfl, rfl⟩ := H
    go_wp2
    go_ret2
    exact ⟨xrr, xdr⟩
   ·
    replace c4 := Bool.eq_false_iff.mpr c4
    subst c4
    rw [if_neg (show ¬ (false = true) by decide)] at H
    have Ai := Zz.mk H
    clear H
    go_upto_region 3 with (fail)
    go_cut [14] (fun v14 wc => ∃ (kq : Nat) (Aa : Bool), v14 = .bool Aa ∧ Zz (a7 kq a0 Aa = some (r1, r2)) ∧ Zz (kq ≤ kj1) ∧ Drawn0 w wc)
    case first =>
     have H := Ai.out
     clear Ai
     by_cases c6 : a0 ≥ 65
     ·
      rw [if_pos c6] at H
      have Ac := decide_eq_true c6
      clear c6
      (first | rw [Ac] | (simp only [bE, bD]; rw [Ac]) | (rw [Aj]; (try simp only [Bool.not_false, Bool.not_true])) | (rw [Ak]; (try simp only [Bool.not_false, Bool.not_true])) | rw [Al] | skip)
      have H' := Zz.mk H
      clear H
      go_wp2
      go_meet
      case rel => exact ⟨_, (decide (a0 ≤ 90)), xrr, H', ⟨by have := HJ1.out; first | omega | exact Nat.le_refl _⟩, xdr⟩
     ·
      rw [if_neg c6] at H
      have Ac := decide_eq_false c6
      clear c6
      (first | rw [Ac] | (simp only [bE, bD]; rw [Ac]) | (rw [Aj]; (try simp only [Bool.not_false, Bool.not_true])) | (rw [Ak]; (try simp only [Bool.not_false, Bool.not_true])) | rw [Al] | skip)
      have H' := Zz.mk H
      clear H
      go_wp2
      go_meet
      case rel => exact ⟨_, (false), xrr, H', ⟨by have := HJ1.out; first | omega | exact Nat.le_refl _⟩, xdr⟩
    case rest =>
     clear Ai
     obtain ⟨kq, Aa, rfl, HA, HJ4, ⟨mc4, rfl⟩⟩ := hcut
     cases kq with
     | zero => exact absurd HA.out (by simp [a7])
     | succ kj4 =>
      have H := HA.out
      clear HA
      simp only [a7] at H
      by_cases c7 : Aa = true
      ·
       subst c7
       rw [if_pos rfl] at H
       simp only [Option.some.injEq, Prod.mk.injEq] at H
       obtain ⟨rfl, rfl⟩ := H
       go_wp2
       go_ret2
       exact ⟨xrr, xdr⟩
      ·
       replace c7 := Bool.eq_false_iff.mpr c7
       subst c7
       rw [if_neg (show ¬ (false = true) by decide)] at H
       by_cases c8 : a0 ≥ 48
       ·
        rw [if_pos c8] at H
        have Am := decide_eq_true c8
        clear c8
        by_cases c9 : a0 ≤ 57
        ·
         rw [if_pos c9] at H
         have An := decide_eq_true c9
         clear c9
         simp only [Option.some.injEq, Prod.mk.injEq] at H
         obtain ⟨rfl, rfl⟩ := H
         go_wp2
         go_ret2
         exact ⟨xrr, xdr⟩
        ·
         rw [if_neg c9] at H
         have An := decide_eq_false c9
         clear c9
         simp only [Option.some.injEq, Prod.mk.injEq] at H
         obtain ⟨rfl, rfl⟩ := H
         go_wp2
         go_ret2
         exact ⟨xrr, xdr⟩
       ·
        rw [if_neg c8] at H
        have Am := decide_eq_false c8
        clear c8
        simp only [Option.some.injEq, Prod.mk.injEq] at H
        obtain ⟨rfl, rfl⟩ := H
        go_wp2
        go_ret2
        exact ⟨xrr, xdr⟩
def bG (a0 : Int) (a1 : Int) : Option (Int) := if a0 ≤ a1 then (some 1) else (if (wrap64 (a0 - 26)) ≥ a1 then (some 26) else (some (wrap64 (a0 - a1))))
theorem ap (a0 : Int) (a1 : Int) (r : Int) (w : World) (h : bG a0 a1 = some r) :
    Calls Try.prog 14 #[.int .i64 a0, .int .i64 a1] w fun e w' => e = .returned (.int .i64 r) ∧ Drawn0 w w' := by
 have H : (if a0 ≤ a1 then (some 1) else (if (wrap64 (a0 - 26)) ≥ a1 then (some 26) else (some (wrap64 (a0 - a1))))) = some r := h
 clear h
 by_cases c3 : a0 ≤ a1
 ·
  rw [if_pos c3] at H
  have c3b0 := decide_eq_true c3
  clear c3
  obtain rfl := Option.some.inj H
  go_enter Try.func14, Try.ntmps14
  go_wp2
  go_ret
  exact ⟨xrr, xdr⟩
 ·
  rw [if_neg c3] at H
  have c3b0 := decide_eq_false c3
  clear c3
  by_cases c4 : (wrap64 (a0 - 26)) ≥ a1
  ·
   rw [if_pos c4] at H
   have c4b0 := decide_eq_true c4
   clear c4
   obtain rfl := Option.some.inj H
   go_enter Try.func14, Try.ntmps14
   go_wp2
   go_ret
   exact ⟨xrr, xdr⟩
  ·
   rw [if_neg c4] at H
   have c4b0 := decide_eq_false c4
   clear c4
   obtain rfl := Option.some.inj H
   go_enter Try.func14, Try.ntmps14
   go_wp2
   go_ret
   exact ⟨xrr, xdr⟩
def IsS47 (w0 W : World) (g : Nat) (f0 : ByteArray) (f1 : Int) : Prop := W.heap[g]? = some (.cells #[.string f0, .int .i64 f1] 47 (0, 0)) ∧ w0.heap.size ≤ g
theorem IsS47.grown {w0 W : World} {g : Nat} {f0 : ByteArray} {f1 : Int} {W1 : World} {row : Option Nat} (h : IsS47 w0 W g f0 f1) (hw : W.grownBy W1 row) (hne : some g ≠ row) : IsS47 w0 W1 g f0 f1 := by
  obtain ⟨hb, hg⟩ := h
  exact ⟨dh hb hw hne, hg⟩
theorem IsS47.kept {w0 W : World} {g : Nat} {f0 : ByteArray} {f1 : Int} {W1 : World} {S : Nat → Prop} (h : IsS47 w0 W g f0 f1) (hk : Kept W W1 S) (hne : ¬ S g) : IsS47 w0 W1 g f0 f1 := by
  obtain ⟨hb, hg⟩ := h
  exact ⟨dp hb hk hne, hg⟩
theorem IsS47.below {w0 W : World} {g : Nat} {f0 : ByteArray} {f1 : Int} {W1 : World} (h : IsS47 w0 W g f0 f1) (hw : Below W.heap.size W W1) : IsS47 w0 W1 g f0 f1 := h.grown (cm hw none) (by simp)
theorem IsS47.alloc {w0 W : World} {g : Nat} {f0 : ByteArray} {f1 : Int} (h : IsS47 w0 W g f0 f1) (o : Obj) : IsS47 w0 (W.alloc o) g f0 f1 := h.below (af (Below.refl _ _) o)
theorem IsS47.drewN {w0 W : World} {g : Nat} {f0 : ByteArray} {f1 : Int} (h : IsS47 w0 W g f0 f1) (m : Nat) : IsS47 w0 (W.drewN m) g f0 f1 := h
theorem IsS47.drew {w0 W : World} {g : Nat} {f0 : ByteArray} {f1 : Int} (h : IsS47 w0 W g f0 f1) : IsS47 w0 W.drew g f0 f1 := h
theorem IsS47.at_ {w0 W : World} {g : Nat} {f0 : ByteArray} {f1 : Int} {w' : World} {m : Nat} (hq : W.drewN m = w') (h : IsS47 w0 W g f0 f1) : IsS47 w0 w' g f0 f1 := by subst hq; exact IsS47.drewN h m
theorem IsS47.apart {w0 W : World} {g : Nat} {f0 : ByteArray} {f1 : Int} {α : Type} {d : Kd α} {e : Nat} {base : Nat} {ok : Nat → Prop} {v : Value} {xs : List α} (h : IsS47 w0 W g f0 f1) (ho : d.R e W base ok v xs) (ht : ∀ q, q ∈ e :: d.E → q ≠ 47) : d.R e W base (fun k => ok k ∧ k ≠ g) v xs := by
  obtain ⟨hb, hg⟩ := h
  exact Kd.R_types ho hb ht
theorem IsS47.own_ne {w0 W : World} {g : Nat} {f0 : ByteArray} {f1 : Int} {α : Type} {d : Kd α} {e : Nat} {base : Nat} {ok : Nat → Prop} {v : Value} {xs : List α} (h : IsS47 w0 W g f0 f1) (ho : d.R e W base ok v xs) (ht : e ≠ 47) : some g ≠ v.ownBlock := by
  obtain ⟨hb, hg⟩ := h
  exact Kd.R_ne ho hb ht
theorem IsS47.ge {w0 W : World} {g : Nat} {f0 : ByteArray} {f1 : Int} (h : IsS47 w0 W g f0 f1) : w0.heap.size ≤ g := by
  obtain ⟨hb, hg⟩ := h
  exact hg
theorem bb {W : World} {g : Nat} {f0 : ByteArray} {f1 : Int} (h : W.heap[g]? = some (.cells #[.string f0, .int .i64 f1] 47 (0, 0))) : W.cell? ⟨g, 0, none⟩ = some (.string f0) := (cT h 0).trans rfl
theorem IsS47.set_0 {w0 W : World} {g : Nat} {f0 : ByteArray} {f1 : Int} (h : IsS47 w0 W g f0 f1) (x : ByteArray) : IsS47 w0 (W.setCell ⟨g, 0, none⟩ (.string x)) g x f1 := by
  obtain ⟨hb, hg⟩ := h
  exact ⟨by simpa using cZ hb 0 (.string x), hg⟩
theorem bc {W : World} {g : Nat} {f0 : ByteArray} {f1 : Int} (h : W.heap[g]? = some (.cells #[.string f0, .int .i64 f1] 47 (0, 0))) : W.cell? ⟨g, 1, none⟩ = some (.int .i64 f1) := (cT h 1).trans rfl
theorem IsS47.set_1 {w0 W : World} {g : Nat} {f0 : ByteArray} {f1 : Int} (h : IsS47 w0 W g f0 f1) (x : Int) : IsS47 w0 (W.setCell ⟨g, 1, none⟩ (.int .i64 x)) g f0 x := by
  obtain ⟨hb, hg⟩ := h
  exact ⟨by simpa using cZ hb 1 (.int .i64 x), hg⟩
def az : Nat → Int → Int → Int → Int → ByteArray → Int → Option (Int × Int × ByteArray × Int)
  | 0, _, _, _, _, _, _ => none
  | k + 1, x1, x2, x8, x9, Ab, Aa => if Aa ≥ (Ab.size : Int) then (some (0, 9, Ab, Aa)) else (if 0 ≤ Aa then (if Aa < (Ab.size : Int) then ((bx k (bt Ab Aa)).bind fun Ac => (if Ac.2 = true then (if x8 = 0 then (none) else (if Ac.1 > (wrap64 (Int.tdiv (wrap64 (2147483647 - x1)) x8)) then (some (0, 11, Ab, wrap64 (Aa + 1))) else ((bG x9 x2).bind fun Ad => (if Ac.1 < Ad then (some (wrap64 (x1 + (wrap64 (Ac.1 * x8))), 0, Ab, wrap64 (Aa + 1))) else (if (wrap64 (36 - Ad)) = 0 then (none) else (if x8 > (wrap64 ((2147483647 : Int) / (wrap64 (36 - Ad)))) then (some (0, 11, Ab, wrap64 (Aa + 1))) else (az k (wrap64 (x1 + (wrap64 (Ac.1 * x8)))) x2 (wrap64 (x8 * (wrap64 (36 - Ad)))) (wrap64 (x9 + 36)) Ab (wrap64 (Aa + 1))))))))) else (some (0, 9, Ab, wrap64 (Aa + 1))))) else (none)) else (none))
def bf (k : Nat) (s0_0 : ByteArray) (s0_1 : Int) (a1 : Int) (a2 : Int) : Option (Int × Int × ByteArray × Int) := az k a1 a2 1 36 s0_0 s0_1
theorem bC : ∀ k, (∀ y0 y1 y2 y3 y4 y5, LeO (az k y0 y1 y2 y3 y4 y5) (az (k + 1) y0 y1 y2 y3 y4 y5))
  | 0 => fun _ _ _ _ _ _ r h => by simp [az] at h
  | k + 1 => by
    have ih0 := bC k
    have m0 := @cf
    · intro y0 y1 y2 y3 y4 y5
      unfold az
      exact xmo
theorem bJ : ∀ a0 a1 a2 a3 k, LeO (bf k a0 a1 a2 a3) (bf (k + 1) a0 a1 a2 a3) := by
  intro a0 a1 a2 a3 k
  have ih0 := bC k
  have m0 := @cf
  unfold bf
  exact xmo
theorem be (k : Nat) (g : Nat) (Ab : ByteArray) (Ah : Int) (a1 : Int) (a2 : Int) (r1 : Int) (r2 : Int) (r3 : ByteArray) (r4 : Int) (w0 w : World) (hI : IsS47 w0 w g Ab Ah) (hB : Below w0.heap.size w0 w) (h : bf k Ab Ah a1 a2 = some (r1, r2, r3, r4)) :
    Calls Try.prog 20 #[.pointer (some ⟨g, 0, none⟩), .int .i64 a1, .int .i64 a2] w fun e w' => e = .returned (.tuple #[.int .i64 r1, .int .i64 r2]) ∧ IsS47 w0 w' g r3 r4 ∧ Below w0.heap.size w0 w' ∧ KeepBut w w' g none := by
 have HI0 := Zz.mk hI
 have HK := Zz.mk (KeepBut.refl w g none)
 have HL := Zz.mk hB.size
 clear hI
 have HW0 := Zz.mk hB.size
 have HB := Zz.mk hB
 clear hB
 have H : (az k a1 a2 1 36 Ab Ah) = some (r1, r2, r3, r4) := h
 clear h
 have H' := Zz.mk H
 clear H
 go_enter Try.func20, Try.ntmps20
 go_wp2
 repeat (go_quiet (fail); try go_wp2)
 go_loopg [1, 8, 9] k (fun kq v1 v8 v9 w' => ∃ (Ag : Int) (Af : Int) (Ae : Int) (Aa : Int), v1 = .int .i64 Ag ∧ v8 = .int .i64 Af ∧ v9 = .int .i64 Ae ∧ Zz (az kq Ag a2 Af Ae Ab Aa = some (r1, r2, r3, r4)) ∧ Zz (kq ≤ k) ∧ Zz (IsS47 w0 w' g Ab Aa) ∧ Zz (KeepBut w w' g none) ∧ Zz (Below w0.heap.size w0 w'))
 case atStart => exact ⟨(a1), (1), (36), (Ah), xrr, xrr, xrr, H', ⟨Nat.le_refl _⟩, ⟨by repeat (first | (with_reducible first | exact HI0.out | apply IsS47.alloc | apply IsS47.drewN | apply IsS47.drew | apply IsS47.set_0 | apply IsS47.set_1) | exact HI0.out)⟩, ⟨by repeat (first | (with_reducible first | exact HK.out | apply KeepBut.set_ | apply br | apply bw | apply bq) | exact HK.out)⟩, ⟨by repeat (first | (with_reducible first | exact HB.out | apply af | apply ae | apply ai | refine am ?_ (IsS47.ge HI0.out)) | exact HB.out)⟩⟩
 case round =>
  clear H'
  obtain ⟨Ag, Af, Ae, Aa, rfl, rfl, rfl, HA, HK1, HI0, HK, HB⟩ := hrel
  cases gk with
  | zero => exact absurd HA.out (by simp [az])
  | succ k1 =>
   have H := HA.out
   clear HA
   simp only [az] at H
   by_cases c4 : Aa ≥ (Ab.size : Int)
   ·
    rw [if_pos c4] at H
    have Am := decide_eq_true c4
    clear c4
    simp only [Option.some.injEq, Prod.mk.injEq] at H
    obtain ⟨rfl, rfl, rfl, rfl⟩ := H
    obtain ⟨HGz5, hgz5⟩ := HI0.out
    have hcz5_0 := bb HGz5
    have hcz5_1 := bc HGz5
    have hfz5_0 := al HGz5 0
    have hfz5_1 := al HGz5 1
    clear HGz5 hgz5
    go_wp2
    repeat (go_quiet (fail); try go_wp2)
    go_ret2
    exact ⟨xre, by repeat (first | (with_reducible first | exact HI0.out | apply IsS47.alloc | apply IsS47.drewN | apply IsS47.drew | apply IsS47.set_0 | apply IsS47.set_1) | exact HI0.out), by repeat (first | (with_reducible first | exact HB.out | apply af | apply ae | apply ai | refine am ?_ (IsS47.ge HI0.out)) | exact HB.out), by repeat (first | (with_reducible first | exact HK.out | apply KeepBut.set_ | apply br | apply bw | apply bq) | exact HK.out)⟩
   ·
    rw [if_neg c4] at H
    have Am := decide_eq_false c4
    clear c4
    by_cases c6 : 0 ≤ Aa
    ·
     rw [if_pos c6] at H
     have As := decide_eq_true c6
     clear c6
     by_cases c7 : Aa < (Ab.size : Int)
     ·
      rw [if_pos c7] at H
      have At := decide_eq_true c7
      clear c7
      replace H := Option.bind_eq_some_iff.mp H
      obtain ⟨⟨Ac, An⟩, A90, H⟩ := H
      try dsimp only at H
      have A9 := Zz.mk A90
      clear A90
      by_cases c10 : An = true
      ·
       subst c10
       rw [if_pos rfl] at H
       by_cases c11 : Af = 0
       ·
        rw [if_pos c11] at H
        exact absurd H (by simp)
       ·
        rw [if_neg c11] at H
        have Ao : (Af == 0) = false := beq_eq_false_iff_ne.mpr c11
        have Ap : (Af != 0) = true := bne_iff_ne.mpr c11
        by_cases c12 : Ac > (wrap64 (Int.tdiv (wrap64 (2147483647 - Ag)) Af))
        ·
         rw [if_pos c12] at H
         have Aj := decide_eq_true c12
         clear c12
         simp only [Option.some.injEq, Prod.mk.injEq] at H
         obtain ⟨rfl, rfl, rfl, rfl⟩ := H
         obtain ⟨HGz13, hgz13⟩ := HI0.out
         have hcz13_0 := bb HGz13
         have hcz13_1 := bc HGz13
         have hfz13_0 := al HGz13 0
         have hfz13_1 := al HGz13 1
         clear HGz13 hgz13
         have p8 : 0 ≤ (Aa : Int) := xod
         have q8 : Aa < (Ab.size : Int) := xod
         have hx8 := bp Ab Aa
         replace p8 := eq_true p8
         replace q8 := eq_true q8
         try (have Ai := q8; simp only [ByteArray.size_extract, Nat.min_self] at Ai)
         go_wp2_with (first | (go_at_call 13; (with_reducible refine (ak k1 (bt Ab Aa) Ac true _ A9.out).mono ?_); rintro e w' ⟨rfl, ⟨nd, rfl⟩⟩; (try first | exact ⟨rfl, _, World.drewN_drewN _ _ _⟩ | exact ⟨rfl, _, Eq.trans (World.drewN_drewN _ _ _) (congrArg (World.drewN _) (Nat.add_assoc _ _ _))⟩)))
         repeat (go_quiet (first | (go_at_call 13; (with_reducible refine (ak k1 (bt Ab Aa) Ac true _ A9.out).mono ?_); rintro e w' ⟨rfl, ⟨nd, rfl⟩⟩; (try first | exact ⟨rfl, _, World.drewN_drewN _ _ _⟩ | exact ⟨rfl, _, Eq.trans (World.drewN_drewN _ _ _) (congrArg (World.drewN _) (Nat.add_assoc _ _ _))⟩))); try go_wp2_with (first | (go_at_call 13; (with_reducible refine (ak k1 (bt Ab Aa) Ac true _ A9.out).mono ?_); rintro e w' ⟨rfl, ⟨nd, rfl⟩⟩; (try first | exact ⟨rfl, _, World.drewN_drewN _ _ _⟩ | exact ⟨rfl, _, Eq.trans (World.drewN_drewN _ _ _) (congrArg (World.drewN _) (Nat.add_assoc _ _ _))⟩))))
         go_ret2
         exact ⟨xre, by repeat (first | (with_reducible first | exact HI0.out | apply IsS47.alloc | apply IsS47.drewN | apply IsS47.drew | apply IsS47.set_0 | apply IsS47.set_1) | exact HI0.out), by repeat (first | (with_reducible first | exact HB.out | apply af | apply ae | apply ai | refine am ?_ (IsS47.ge HI0.out)) | exact HB.out), by repeat (first | (with_reducible first | exact HK.out | apply KeepBut.set_ | apply br | apply bw | apply bq) | exact HK.out)⟩
        ·
         rw [if_neg c12] at H
         have Aj := decide_eq_false c12
         clear c12
         replace H := Option.bind_eq_some_iff.mp H
         obtain ⟨Ad, A140, H⟩ := H
         try dsimp only at H
         have A14 := Zz.mk A140
         clear A140
         by_cases c15 : Ac < Ad
         ·
          rw [if_pos c15] at H
          have Ak := decide_eq_true c15
          clear c15
          simp only [Option.some.injEq, Prod.mk.injEq] at H
          obtain ⟨rfl, rfl, rfl, rfl⟩ := H
          obtain ⟨HGz16, hgz16⟩ := HI0.out
          have hcz16_0 := bb HGz16
          have hcz16_1 := bc HGz16
          have hfz16_0 := al HGz16 0
          have hfz16_1 := al HGz16 1
          clear HGz16 hgz16
          have p8 : 0 ≤ (Aa : Int) := xod
          have q8 : Aa < (Ab.size : Int) := xod
          have hx8 := bp Ab Aa
          replace p8 := eq_true p8
          replace q8 := eq_true q8
          try (have Ai := q8; simp only [ByteArray.size_extract, Nat.min_self] at Ai)
          go_wp2_with (first | (go_at_call 13; (with_reducible refine (ak k1 (bt Ab Aa) Ac true _ A9.out).mono ?_); rintro e w' ⟨rfl, ⟨nd, rfl⟩⟩; (try first | exact ⟨rfl, _, World.drewN_drewN _ _ _⟩ | exact ⟨rfl, _, Eq.trans (World.drewN_drewN _ _ _) (congrArg (World.drewN _) (Nat.add_assoc _ _ _))⟩)) | (go_at_call 14; (with_reducible refine (ap Ae a2 Ad _ A14.out).mono ?_); rintro e w' ⟨rfl, ⟨nd, rfl⟩⟩; (try first | exact ⟨rfl, _, World.drewN_drewN _ _ _⟩ | exact ⟨rfl, _, Eq.trans (World.drewN_drewN _ _ _) (congrArg (World.drewN _) (Nat.add_assoc _ _ _))⟩)))
          repeat (go_quiet (first | (go_at_call 13; (with_reducible refine (ak k1 (bt Ab Aa) Ac true _ A9.out).mono ?_); rintro e w' ⟨rfl, ⟨nd, rfl⟩⟩; (try first | exact ⟨rfl, _, World.drewN_drewN _ _ _⟩ | exact ⟨rfl, _, Eq.trans (World.drewN_drewN _ _ _) (congrArg (World.drewN _) (Nat.add_assoc _ _ _))⟩)) | (go_at_call 14; (with_reducible refine (ap Ae a2 Ad _ A14.out).mono ?_); rintro e w' ⟨rfl, ⟨nd, rfl⟩⟩; (try first | exact ⟨rfl, _, World.drewN_drewN _ _ _⟩ | exact ⟨rfl, _, Eq.trans (World.drewN_drewN _ _ _) (congrArg (World.drewN _) (Nat.add_assoc _ _ _))⟩))); try go_wp2_with (first | (go_at_call 13; (with_reducible refine (ak k1 (bt Ab Aa) Ac true _ A9.out).mono ?_); rintro e w' ⟨rfl, ⟨nd, rfl⟩⟩; (try first | exact ⟨rfl, _, World.drewN_drewN _ _ _⟩ | exact ⟨rfl, _, Eq.trans (World.drewN_drewN _ _ _) (congrArg (World.drewN _) (Nat.add_assoc _ _ _))⟩)) | (go_at_call 14; (with_reducible refine (ap Ae a2 Ad _ A14.out).mono ?_); rintro e w' ⟨rfl, ⟨nd, rfl⟩⟩; (try first | exact ⟨rfl, _, World.drewN_drewN _ _ _⟩ | exact ⟨rfl, _, Eq.trans (World.drewN_drewN _ _ _) (congrArg (World.drewN _) (Nat.add_assoc _ _ _))⟩))))
          go_ret2
          exact ⟨xre, by repeat (first | (with_reducible first | exact HI0.out | apply IsS47.alloc | apply IsS47.drewN | apply IsS47.drew | apply IsS47.set_0 | apply IsS47.set_1) | exact HI0.out), by repeat (first | (with_reducible first | exact HB.out | apply af | apply ae | apply ai | refine am ?_ (IsS47.ge HI0.out)) | exact HB.out), by repeat (first | (with_reducible first | exact HK.out | apply KeepBut.set_ | apply br | apply bw | apply bq) | exact HK.out)⟩
         ·
          rw [if_neg c15] at H
          have Ak := decide_eq_false c15
          clear c15
          by_cases c17 : (wrap64 (36 - Ad)) = 0
          ·
           rw [if_pos c17] at H
           exact absurd H (by simp)
          ·
           rw [if_neg c17] at H
           have Aq : ((wrap64 (36 - Ad)) == 0) = false := beq_eq_false_iff_ne.mpr c17
           have Ar : ((wrap64 (36 - Ad)) != 0) = true := bne_iff_ne.mpr c17
           by_cases c18 : Af > (wrap64 ((2147483647 : Int) / (wrap64 (36 - Ad))))
           ·
            rw [if_pos c18] at H
            have Al := decide_eq_true c18
            have c18d := Int.tdiv_eq_ediv_of_nonneg (a := 2147483647) (b := (wrap64 (36 - Ad))) (by decide)
            clear c18
            simp only [Option.some.injEq, Prod.mk.injEq] at H
            obtain ⟨rfl, rfl, rfl, rfl⟩ := H
            obtain ⟨HGz19, hgz19⟩ := HI0.out
            have hcz19_0 := bb HGz19
            have hcz19_1 := bc HGz19
            have hfz19_0 := al HGz19 0
            have hfz19_1 := al HGz19 1
            clear HGz19 hgz19
            have p8 : 0 ≤ (Aa : Int) := xod
            have q8 : Aa < (Ab.size : Int) := xod
            have hx8 := bp Ab Aa
            replace p8 := eq_true p8
            replace q8 := eq_true q8
            try (have Ai := q8; simp only [ByteArray.size_extract, Nat.min_self] at Ai)
            go_wp2_with (first | (go_at_call 13; (with_reducible refine (ak k1 (bt Ab Aa) Ac true _ A9.out).mono ?_); rintro e w' ⟨rfl, ⟨nd, rfl⟩⟩; (try first | exact ⟨rfl, _, World.drewN_drewN _ _ _⟩ | exact ⟨rfl, _, Eq.trans (World.drewN_drewN _ _ _) (congrArg (World.drewN _) (Nat.add_assoc _ _ _))⟩)) | (go_at_call 14; (with_reducible refine (ap Ae a2 Ad _ A14.out).mono ?_); rintro e w' ⟨rfl, ⟨nd, rfl⟩⟩; (try first | exact ⟨rfl, _, World.drewN_drewN _ _ _⟩ | exact ⟨rfl, _, Eq.trans (World.drewN_drewN _ _ _) (congrArg (World.drewN _) (Nat.add_assoc _ _ _))⟩)))
            repeat (go_quiet (first | (go_at_call 13; (with_reducible refine (ak k1 (bt Ab Aa) Ac true _ A9.out).mono ?_); rintro e w' ⟨rfl, ⟨nd, rfl⟩⟩; (try first | exact ⟨rfl, _, World.drewN_drewN _ _ _⟩ | exact ⟨rfl, _, Eq.trans (World.drewN_drewN _ _ _) (congrArg (World.drewN _) (Nat.add_assoc _ _ _))⟩)) | (go_at_call 14; (with_reducible refine (ap Ae a2 Ad _ A14.out).mono ?_); rintro e w' ⟨rfl, ⟨nd, rfl⟩⟩; (try first | exact ⟨rfl, _, World.drewN_drewN _ _ _⟩ | exact ⟨rfl, _, Eq.trans (World.drewN_drewN _ _ _) (congrArg (World.drewN _) (Nat.add_assoc _ _ _))⟩))); try go_wp2_with (first | (go_at_call 13; (with_reducible refine (ak k1 (bt Ab Aa) Ac true _ A9.out).mono ?_); rintro e w' ⟨rfl, ⟨nd, rfl⟩⟩; (try first | exact ⟨rfl, _, World.drewN_drewN _ _ _⟩ | exact ⟨rfl, _, Eq.trans (World.drewN_drewN _ _ _) (congrArg (World.drewN _) (Nat.add_assoc _ _ _))⟩)) | (go_at_call 14; (with_reducible refine (ap Ae a2 Ad _ A14.out).mono ?_); rintro e w' ⟨rfl, ⟨nd, rfl⟩⟩; (try first | exact ⟨rfl, _, World.drewN_drewN _ _ _⟩ | exact ⟨rfl, _, Eq.trans (World.drewN_drewN _ _ _) (congrArg (World.drewN _) (Nat.add_assoc _ _ _))⟩))))
            go_ret2
            exact ⟨xre, by repeat (first | (with_reducible first | exact HI0.out | apply IsS47.alloc | apply IsS47.drewN | apply IsS47.drew | apply IsS47.set_0 | apply IsS47.set_1) | exact HI0.out), by repeat (first | (with_reducible first | exact HB.out | apply af | apply ae | apply ai | refine am ?_ (IsS47.ge HI0.out)) | exact HB.out), by repeat (first | (with_reducible first | exact HK.out | apply KeepBut.set_ | apply br | apply bw | apply bq) | exact HK.out)⟩
           ·
            rw [if_neg c18] at H
            have Al := decide_eq_false c18
            have c18d := Int.tdiv_eq_ediv_of_nonneg (a := 2147483647) (b := (wrap64 (36 - Ad))) (by decide)
            clear c18
            have H' := Zz.mk H
            clear H
            obtain ⟨HGz20, hgz20⟩ := HI0.out
            have hcz20_0 := bb HGz20
            have hcz20_1 := bc HGz20
            have hfz20_0 := al HGz20 0
            have hfz20_1 := al HGz20 1
            clear HGz20 hgz20
            have p8 : 0 ≤ (Aa : Int) := xod
            have q8 : Aa < (Ab.size : Int) := xod
            have hx8 := bp Ab Aa
            replace p8 := eq_true p8
            replace q8 := eq_true q8
            try (have Ai := q8; simp only [ByteArray.size_extract, Nat.min_self] at Ai)
            go_wp2_with (first | (go_at_call 13; (with_reducible refine (ak k1 (bt Ab Aa) Ac true _ A9.out).mono ?_); rintro e w' ⟨rfl, ⟨nd, rfl⟩⟩; (try first | exact ⟨rfl, _, World.drewN_drewN _ _ _⟩ | exact ⟨rfl, _, Eq.trans (World.drewN_drewN _ _ _) (congrArg (World.drewN _) (Nat.add_assoc _ _ _))⟩)) | (go_at_call 14; (with_reducible refine (ap Ae a2 Ad _ A14.out).mono ?_); rintro e w' ⟨rfl, ⟨nd, rfl⟩⟩; (try first | exact ⟨rfl, _, World.drewN_drewN _ _ _⟩ | exact ⟨rfl, _, Eq.trans (World.drewN_drewN _ _ _) (congrArg (World.drewN _) (Nat.add_assoc _ _ _))⟩)))
            repeat (go_quiet (first | (go_at_call 13; (with_reducible refine (ak k1 (bt Ab Aa) Ac true _ A9.out).mono ?_); rintro e w' ⟨rfl, ⟨nd, rfl⟩⟩; (try first | exact ⟨rfl, _, World.drewN_drewN _ _ _⟩ | exact ⟨rfl, _, Eq.trans (World.drewN_drewN _ _ _) (congrArg (World.drewN _) (Nat.add_assoc _ _ _))⟩)) | (go_at_call 14; (with_reducible refine (ap Ae a2 Ad _ A14.out).mono ?_); rintro e w' ⟨rfl, ⟨nd, rfl⟩⟩; (try first | exact ⟨rfl, _, World.drewN_drewN _ _ _⟩ | exact ⟨rfl, _, Eq.trans (World.drewN_drewN _ _ _) (congrArg (World.drewN _) (Nat.add_assoc _ _ _))⟩))); try go_wp2_with (first | (go_at_call 13; (with_reducible refine (ak k1 (bt Ab Aa) Ac true _ A9.out).mono ?_); rintro e w' ⟨rfl, ⟨nd, rfl⟩⟩; (try first | exact ⟨rfl, _, World.drewN_drewN _ _ _⟩ | exact ⟨rfl, _, Eq.trans (World.drewN_drewN _ _ _) (congrArg (World.drewN _) (Nat.add_assoc _ _ _))⟩)) | (go_at_call 14; (with_reducible refine (ap Ae a2 Ad _ A14.out).mono ?_); rintro e w' ⟨rfl, ⟨nd, rfl⟩⟩; (try first | exact ⟨rfl, _, World.drewN_drewN _ _ _⟩ | exact ⟨rfl, _, Eq.trans (World.drewN_drewN _ _ _) (congrArg (World.drewN _) (Nat.add_assoc _ _ _))⟩))))
            go_roundg k1
            case measure => have := HK1.out; omega
            case rel => exact ⟨(wrap64 (Ag + (wrap64 (Ac * Af)))), (wrap64 (Af * (wrap64 (36 - Ad)))), (wrap64 (Ae + 36)), (wrap64 (Aa + 1)), xrr, xrr, xrr, H', ⟨by have := HK1.out; omega⟩, ⟨by repeat (first | (with_reducible first | exact HI0.out | apply IsS47.alloc | apply IsS47.drewN | apply IsS47.drew | apply IsS47.set_0 | apply IsS47.set_1) | exact HI0.out)⟩, ⟨by repeat (first | (with_reducible first | exact HK.out | apply KeepBut.set_ | apply br | apply bw | apply bq) | exact HK.out)⟩, ⟨by repeat (first | (with_reducible first | exact HB.out | apply af | apply ae | apply ai | refine am ?_ (IsS47.ge HI0.out)) | exact HB.out)⟩⟩
      ·
       replace c10 := Bool.eq_false_iff.mpr c10
       subst c10
       rw [if_neg (show ¬ (false = true) by decide)] at H
       simp only [Option.some.injEq, Prod.mk.injEq] at H
       obtain ⟨rfl, rfl, rfl, rfl⟩ := H
       obtain ⟨HGz21, hgz21⟩ := HI0.out
       have hcz21_0 := bb HGz21
       have hcz21_1 := bc HGz21
       have hfz21_0 := al HGz21 0
       have hfz21_1 := al HGz21 1
       clear HGz21 hgz21
       have p8 : 0 ≤ (Aa : Int) := xod
       have q8 : Aa < (Ab.size : Int) := xod
       have hx8 := bp Ab Aa
       replace p8 := eq_true p8
       replace q8 := eq_true q8
       try (have Ai := q8; simp only [ByteArray.size_extract, Nat.min_self] at Ai)
       go_wp2_with (first | (go_at_call 13; (with_reducible refine (ak k1 (bt Ab Aa) Ac false _ A9.out).mono ?_); rintro e w' ⟨rfl, ⟨nd, rfl⟩⟩; (try first | exact ⟨rfl, _, World.drewN_drewN _ _ _⟩ | exact ⟨rfl, _, Eq.trans (World.drewN_drewN _ _ _) (congrArg (World.drewN _) (Nat.add_assoc _ _ _))⟩)))
       repeat (go_quiet (first | (go_at_call 13; (with_reducible refine (ak k1 (bt Ab Aa) Ac false _ A9.out).mono ?_); rintro e w' ⟨rfl, ⟨nd, rfl⟩⟩; (try first | exact ⟨rfl, _, World.drewN_drewN _ _ _⟩ | exact ⟨rfl, _, Eq.trans (World.drewN_drewN _ _ _) (congrArg (World.drewN _) (Nat.add_assoc _ _ _))⟩))); try go_wp2_with (first | (go_at_call 13; (with_reducible refine (ak k1 (bt Ab Aa) Ac false _ A9.out).mono ?_); rintro e w' ⟨rfl, ⟨nd, rfl⟩⟩; (try first | exact ⟨rfl, _, World.drewN_drewN _ _ _⟩ | exact ⟨rfl, _, Eq.trans (World.drewN_drewN _ _ _) (congrArg (World.drewN _) (Nat.add_assoc _ _ _))⟩))))
       go_ret2
       exact ⟨xre, by repeat (first | (with_reducible first | exact HI0.out | apply IsS47.alloc | apply IsS47.drewN | apply IsS47.drew | apply IsS47.set_0 | apply IsS47.set_1) | exact HI0.out), by repeat (first | (with_reducible first | exact HB.out | apply af | apply ae | apply ai | refine am ?_ (IsS47.ge HI0.out)) | exact HB.out), by repeat (first | (with_reducible first | exact HK.out | apply KeepBut.set_ | apply br | apply bw | apply bq) | exact HK.out)⟩
     ·
      rw [if_neg c7] at H
      exact absurd H (by simp)
    ·
     rw [if_neg c6] at H
     exact absurd H (by simp)
end Go.Proofs.Ytediodhkimacjaa.X
