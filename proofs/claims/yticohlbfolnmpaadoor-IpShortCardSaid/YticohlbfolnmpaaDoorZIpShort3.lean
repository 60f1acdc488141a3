/- Texts that the law's proof needs, joined by a program of this session. -/
import Derived.Test.YticohlbfolnmpaaDoorZIpShort1
import Derived.Test.YticohlbfolnmpaaDoorZIpShort2
set_option maxHeartbeats 8000000
set_option maxRecDepth 100000
set_option linter.unusedSimpArgs false
set_option linter.unusedVariables false
namespace Go.Proofs.YticohlbfolnmpaaDoor.X
open Go.RowKit Go.Proofs.YticohlbfolnmpaaDoorW.PrintWords Go.Proofs.YticohlbfolnmpaaDoorW.PrintLast Go.Proofs.YticohlbfolnmpaaDoorW.PrintMore
attribute [local go_sem] bA bn cl dg dO cA dh cu cw cY cZ ci cj cv cx
mutual
def bg : Nat → Bool → List Int → List ByteArray → List ByteArray → Int → Int → Option (List Int × Bool)
  | 0, _, _, _, _, _, _ => none
  | k + 1, x1, x6, x7, Ac, Ad, Ab => if Ab < Ad then (if 0 ≤ Ab then (if Ab < (Ac.length : Int) then ((d2 k (bH ByteArray.empty Ac Ab)).bind fun Aa => (if Aa.2.2.2.2 = true then (if x1 = true then (bo k x1 x6 x7 (bH ByteArray.empty Ac Ab) Ac Ad Ab (Ab == (wrap64 ((x7.length : Int) - 1))) Aa.1 Aa.2.1 Aa.2.2.1 Aa.2.2.2.1) else (bo k x1 x6 x7 (bH ByteArray.empty Ac Ab) Ac Ad Ab false Aa.1 Aa.2.1 Aa.2.2.1 Aa.2.2.2.1)) else (bo k x1 x6 x7 (bH ByteArray.empty Ac Ab) Ac Ad Ab false Aa.1 Aa.2.1 Aa.2.2.1 Aa.2.2.2.1))) else (none)) else (none)) else (some (x6, true))
def bo : Nat → Bool → List Int → List ByteArray → ByteArray → List ByteArray → Int → Int → Bool → Int → Int → Int → Int → Option (List Int × Bool)
  | 0, _, _, _, _, _, _, _, _, _, _, _, _ => none
  | k + 1, x1, x6, x7, x9, Ag, Ah, Ai, Aj, Aa, Ab, Ac, Ad => if Aj = true then ((some (([Go.bits .or .u16 (IntKind.u16.wrap ((IntKind.u16.wrap (Aa)) * 256)) (IntKind.u16.wrap (Ab)), Go.bits .or .u16 (IntKind.u16.wrap ((IntKind.u16.wrap (Ac)) * 256)) (IntKind.u16.wrap (Ad))] : List Int) : List Int)).bind fun Af => (if x6.length + Af.length < 70368744177664 then (some ((x6 ++ Af), true)) else (none))) else ((dH k x9).bind fun Ae => (if Ae.2 = true then (if x6.length < 70368744177664 then (bg k x1 (x6 ++ [Ae.1]) x7 Ag Ah (wrap64 (Ai + 1))) else (none)) else (some (([] : List Int), false))))
end
def aU (k : Nat) (a0 : ByteArray) (a1 : Bool) : Option (List Int × Bool) := if a0.toList = ([] : List UInt8) then (some (([] : List Int), true)) else ((bM a0 (⟨#[58]⟩ : ByteArray)).bind fun t121 => (bg k a1 ([] : List Int) t121 t121 (t121.length : Int) 0))
theorem fp : ∀ k, (∀ y0 y1 y2 y3 y4 y5, LeO (bg k y0 y1 y2 y3 y4 y5) (bg (k + 1) y0 y1 y2 y3 y4 y5)) ∧ (∀ y0 y1 y2 y3 y4 y5 y6 y7 y8 y9 y10 y11, LeO (bo k y0 y1 y2 y3 y4 y5 y6 y7 y8 y9 y10 y11) (bo (k + 1) y0 y1 y2 y3 y4 y5 y6 y7 y8 y9 y10 y11))
  | 0 => ⟨fun _ _ _ _ _ _ r h => by simp [bg] at h, fun _ _ _ _ _ _ _ _ _ _ _ _ r h => by simp [bo] at h⟩
  | k + 1 => by
    obtain ⟨ih0, ih1⟩ := fp k
    have m0 := @eZ; have m1 := @gr
    refine ⟨?_, ?_⟩
    · intro y0 y1 y2 y3 y4 y5
      unfold bg
      exact xmo
    · intro y0 y1 y2 y3 y4 y5 y6 y7 y8 y9 y10 y11
      unfold bo
      exact xmo
theorem ge : ∀ a0 a1 k, LeO (aU k a0 a1) (aU (k + 1) a0 a1) := by
  intro a0 a1 k
  obtain ⟨ih0, ih1⟩ := fp k
  have m0 := @eZ; have m1 := @gr
  unfold aU
  exact xmo
theorem bd (k : Nat) (a0 : ByteArray) (a1 : Bool) (r1 : List Int) (r2 : Bool) (w : World) (hG : GW w) (h : aU k a0 a1 = some (r1, r2)) :
    Calls Tryd.prog 23 #[.string a0, .bool a1] w fun e w' => ∃ v0_ : Value, e = .returned (.tuple #[v0_, .bool r2]) ∧ Kd.R (Kd.int .u16) 26 w' w.heap.size (fun _ => True) v0_ r1 ∧ Below w.heap.size w w' := by
 have hu23 := Tryd.underlying23
 have HB := Zz.mk (Below.refl w.heap.size w)
 have H : (if a0.toList = ([] : List UInt8) then (some (([] : List Int), true)) else ((bM a0 (⟨#[58]⟩ : ByteArray)).bind fun Ac => (bg k a1 ([] : List Int) Ac Ac (Ac.length : Int) 0))) = some (r1, r2) := h
 clear h
 by_cases c3 : a0.toList = ([] : List UInt8)
 ·
  rw [if_pos c3] at H
  have Ay : (a0.toList == ([] : List UInt8)) = true := beq_iff_eq.mpr c3
  have Az : (a0.toList != ([] : List UInt8)) = false := bne_eq_false_iff_eq.mpr c3
  (try (have AJ : a0.toList.isEmpty = true := by simpa using c3))
  clear c3
  simp only [Option.some.injEq, Prod.mk.injEq] at H
  obtain ⟨rfl, rfl⟩ := H
  go_enter Tryd.func23, Tryd.ntmps23
  go_wp2
  go_ret2
  exact ⟨_, by first | rfl | (simp [ap, aq] <;> first | rfl | (simp only [bi, bne, Bool.not_not]; done)) | (simp [*, ap, aq] <;> rfl), by first | exact Kd.R_nil _ _ _ _ _ | exact Kd.N_nil _ _ _ _ _ | exact Kd.V_nil _ _ _ _ _ | exact Kd.Q_nil _ _ _ _ _ | exact Kd.S_nil _ _ _ _ _, xbl⟩
 ·
  rw [if_neg c3] at H
  have Ay : (a0.toList == ([] : List UInt8)) = false := beq_eq_false_iff_ne.mpr c3
  have Az : (a0.toList != ([] : List UInt8)) = true := bne_iff_ne.mpr c3
  (try (have AJ : a0.toList.isEmpty = false := by simpa using c3))
  replace H := Option.bind_eq_some_iff.mp H
  obtain ⟨Ac, A40, H⟩ := H
  try dsimp only at H
  have A4 := Zz.mk A40
  clear A40
  have H' := Zz.mk H
  clear H
  go_enter Tryd.func23, Tryd.ntmps23
  go_wp2_with (first | ((with_reducible refine ae (f := 20) rfl ?_); refine xgl 17 Tryd.func20 #[.string a0, .string (⟨#[58]⟩ : ByteArray)] ?_; (with_reducible refine (dB a0 (⟨#[58]⟩ : ByteArray) Ac _ ?side1 A4.out).mono ?_); (case side1 => first | (with_reducible exact hG) | exact aJ hG xbl); rintro e w5 ⟨v122, rfl, ho0, hb⟩; refine ⟨_, rfl, ?_⟩; have As := Zz.mk (Kd.R_lower ho0 (co xbl)); replace HB := xst hb; (try clear hb); (try clear ho0); obtain ⟨Ao6, co6, eo6⟩ := Kd.R_slice As.out; subst eo6))
  go_loopg [6, 20] k (fun kq v6 v20 w' => ∃ (Al : List Int) (Ad : Int), v20 = .int .i64 Ad ∧ Zz (bg kq a1 Al Ac Ac (Ac.length : Int) Ad = some (r1, r2)) ∧ Zz (kq ≤ k) ∧ Zz (Kd.R (Kd.int .u16) 26 w' w.heap.size (fun _ => True) v6 Al) ∧ Zz (Kd.R Kd.string 9 w' w.heap.size (fun _ => True) (.slice Ao6 Ac.length co6) Ac) ∧ Zz (Kd.R Kd.string 9 w' w.heap.size (fun _ => True) (.slice Ao6 Ac.length co6) Ac) ∧ Zz (Below w.heap.size w w'))
  case atStart => exact ⟨(([] : List Int)), (0), xrr, H', ⟨Nat.le_refl _⟩, ⟨by first | exact Kd.R_nil _ _ _ _ _ | exact Kd.N_nil _ _ _ _ _ | exact Kd.V_nil _ _ _ _ _ | exact Kd.Q_nil _ _ _ _ _ | exact Kd.S_nil _ _ _ _ _⟩, ⟨xkd As⟩, ⟨xkd As⟩, ⟨xbl⟩⟩
  case round =>
   clear H'
   clear Ay Az
   obtain ⟨Al, Ad, rfl, HA, HK1, Ai, Ak, Af, HB⟩ := hrel
   cases gk with
   | zero => exact absurd HA.out (by simp [bg])
   | succ k1 =>
    have H := HA.out
    clear HA
    simp only [bg] at H
    by_cases c7 : Ad < (Ac.length : Int)
    ·
     rw [if_pos c7] at H
     have AA := decide_eq_true c7
     clear c7
     by_cases c8 : 0 ≤ Ad
     ·
      rw [if_pos c8] at H
      have AK := decide_eq_true c8
      clear c8
      by_cases c9 : Ad < (Ac.length : Int)
      ·
       rw [if_pos c9] at H
       have AL := decide_eq_true c9
       clear c9
       replace H := Option.bind_eq_some_iff.mp H
       obtain ⟨⟨Ae, Ag, Ah, Aj, AB⟩, A100, H⟩ := H
       try dsimp only at H
       have A10 := Zz.mk A100
       clear A100
       have Ax := Zz.mk H
       clear H
       have p124 : 0 ≤ (Ad : Int) := xod
       have q124 : Ad < (Ac.length : Int) := xod
       obtain ⟨Av, e124, Au⟩ := Kd.at_string (Kd.R_reads' Af.out).2.2 Ad p124 q124
       cases e124
       replace p124 := eq_true p124
       replace q124 := eq_true q124
       try (have AC := q124; simp only [ByteArray.size_extract, Nat.min_self] at AC)
       go_upto_region 9 with (first | ((with_reducible refine ae (f := 8) rfl ?_); refine xgl 27 Tryd.func8 #[.string (bH ByteArray.empty Ac Ad)] ?_; (with_reducible refine (eB k1 (bH ByteArray.empty Ac Ad) Ae Ag Ah Aj AB _ ?side1 A10.out).mono ?_); (case side1 => first | (with_reducible exact hG) | exact aJ hG xbl); rintro e w12 ⟨rfl, hb⟩; refine ⟨_, rfl, ?_⟩; replace Ai := Zz.mk (Kd.R_below (xkd Ai) hb); replace Ak := Zz.mk (Kd.R_below (xkd Ak) hb); replace Af := Zz.mk (Kd.R_below (xkd Af) hb); replace HB := xst hb; (try clear hb)) | ((with_reducible refine ay (N := 10) rfl ?_); (try (refine dP (by rfl) ?_; dsimp only)); refine xev 10 #[.int .u8 0, .int .u8 0, .int .u8 0, .int .u8 0] 23 ?_; intro Aa hg w13 hbox hb; have Ab := Zz.mk (hbox); have AD := xsz hg; have AO := AD; replace Ai := Zz.mk (Kd.R_below (xkd Ai) hb); replace Ak := Zz.mk (Kd.R_below (xkd Ak) hb); replace Af := Zz.mk (Kd.R_below (xkd Af) hb); replace HB := xst hb; clear hb hbox hg; obtain ⟨hcz14_0, hcz14_1, hcz14_2, hcz14_3⟩ := xc4 Ab; have hfz14_0 := xf Ab 0; have hfz14_1 := xf Ab 1; have hfz14_2 := xf Ab 2; have hfz14_3 := xf Ab 3))
       (try simp only [Act.put, List.setIfInBounds_toArray, List.set_cons_zero, List.set_cons_succ])
       go_cut [40] (fun v40 wc => ∃ (kq : Nat) (An : Bool), v40 = .bool An ∧ Zz (bo kq a1 Al Ac (bH ByteArray.empty Ac Ad) Ac (Ac.length : Int) Ad An Ae Ag Ah Aj = some (r1, r2)) ∧ Zz (kq ≤ k1) ∧ Zz (Kd.R (Kd.int .u16) 26 wc w.heap.size (fun _ => True) u6 Al) ∧ Zz (Kd.R Kd.string 9 wc w.heap.size (fun _ => True) (.slice (some Av) Ac.length co6) Ac) ∧ Zz (Kd.R Kd.string 9 wc w.heap.size (fun _ => True) (.slice (some Av) Ac.length co6) Ac) ∧ Zz (wc.heap[Aa]? = some (.cells #[.int .u8 Ae, .int .u8 Ag, .int .u8 Ah, .int .u8 Aj] 23 (0, 0))) ∧ Zz (Below w.heap.size w wc))
       case first =>
        have H := Ax.out
        clear Ax
        by_cases c15 : AB = true
        ·
         subst c15
         rw [if_pos rfl] at H
         by_cases c16 : a1 = true
         ·
          subst c16
          rw [if_pos rfl] at H
          have H' := Zz.mk H
          clear H
          go_wp2
          go_meet
          case rel => exact ⟨_, ((Ad == (wrap64 ((Ac.length : Int) - 1)))), xrr, H', ⟨by have := HK1.out; first | omega | exact Nat.le_refl _⟩, ⟨by (with_reducible repeat (first | apply Kd.R_alloc | apply Kd.R_drewN | apply Kd.R_drew)); exact Kd.R_mono (Kd.R_far (p := ⟨Aa, 3, none⟩) (Kd.R_far (p := ⟨Aa, 2, none⟩) (Kd.R_far (p := ⟨Aa, 1, none⟩) (Kd.R_far (p := ⟨Aa, 0, none⟩) (Kd.R_types Ai.out Ab.out (by decide)) (fun _ hk => hk.2) (.int .u8 Ae)) (fun _ hk => hk.2) (.int .u8 Ag)) (fun _ hk => hk.2) (.int .u8 Ah)) (fun _ hk => hk.2) (.int .u8 Aj)) (fun _ hk => trivial)⟩, ⟨by (with_reducible repeat (first | apply Kd.R_alloc | apply Kd.R_drewN | apply Kd.R_drew)); exact Kd.R_mono (Kd.R_far (p := ⟨Aa, 3, none⟩) (Kd.R_far (p := ⟨Aa, 2, none⟩) (Kd.R_far (p := ⟨Aa, 1, none⟩) (Kd.R_far (p := ⟨Aa, 0, none⟩) (Kd.R_types Ak.out Ab.out (by decide)) (fun _ hk => hk.2) (.int .u8 Ae)) (fun _ hk => hk.2) (.int .u8 Ag)) (fun _ hk => hk.2) (.int .u8 Ah)) (fun _ hk => hk.2) (.int .u8 Aj)) (fun _ hk => trivial)⟩, ⟨by (with_reducible repeat (first | apply Kd.R_alloc | apply Kd.R_drewN | apply Kd.R_drew)); exact Kd.R_mono (Kd.R_far (p := ⟨Aa, 3, none⟩) (Kd.R_far (p := ⟨Aa, 2, none⟩) (Kd.R_far (p := ⟨Aa, 1, none⟩) (Kd.R_far (p := ⟨Aa, 0, none⟩) (Kd.R_types Af.out Ab.out (by decide)) (fun _ hk => hk.2) (.int .u8 Ae)) (fun _ hk => hk.2) (.int .u8 Ag)) (fun _ hk => hk.2) (.int .u8 Ah)) (fun _ hk => hk.2) (.int .u8 Aj)) (fun _ hk => trivial)⟩, ⟨by (with_reducible repeat (first | refine ai ?_ _ | refine aj ?_ | refine ah ?_ _)); refine ag (cs := #[.int .u8 Ae, .int .u8 Ag, .int .u8 Ah, .int .u8 0]) ?_ 3 _ rfl; (with_reducible repeat (first | refine ai ?_ _ | refine aj ?_ | refine ah ?_ _)); refine ag (cs := #[.int .u8 Ae, .int .u8 Ag, .int .u8 0, .int .u8 0]) ?_ 2 _ rfl; (with_reducible repeat (first | refine ai ?_ _ | refine aj ?_ | refine ah ?_ _)); refine ag (cs := #[.int .u8 Ae, .int .u8 0, .int .u8 0, .int .u8 0]) ?_ 1 _ rfl; (with_reducible repeat (first | refine ai ?_ _ | refine aj ?_ | refine ah ?_ _)); refine ag (cs := #[.int .u8 0, .int .u8 0, .int .u8 0, .int .u8 0]) ?_ 0 _ rfl; (with_reducible repeat (first | refine ai ?_ _ | refine aj ?_ | refine ah ?_ _)); exact Ab.out⟩, ⟨xbl⟩⟩
         ·
          replace c16 := Bool.eq_false_iff.mpr c16
          subst c16
          rw [if_neg (show ¬ (false = true) by decide)] at H
          have H' := Zz.mk H
          clear H
          go_wp2
          go_meet
          case rel => exact ⟨_, (false), xrr, H', ⟨by have := HK1.out; first | omega | exact Nat.le_refl _⟩, ⟨by (with_reducible repeat (first | apply Kd.R_alloc | apply Kd.R_drewN | apply Kd.R_drew)); exact Kd.R_mono (Kd.R_far (p := ⟨Aa, 3, none⟩) (Kd.R_far (p := ⟨Aa, 2, none⟩) (Kd.R_far (p := ⟨Aa, 1, none⟩) (Kd.R_far (p := ⟨Aa, 0, none⟩) (Kd.R_types Ai.out Ab.out (by decide)) (fun _ hk => hk.2) (.int .u8 Ae)) (fun _ hk => hk.2) (.int .u8 Ag)) (fun _ hk => hk.2) (.int .u8 Ah)) (fun _ hk => hk.2) (.int .u8 Aj)) (fun _ hk => trivial)⟩, ⟨by (with_reducible repeat (first | apply Kd.R_alloc | apply Kd.R_drewN | apply Kd.R_drew)); exact Kd.R_mono (Kd.R_far (p := ⟨Aa, 3, none⟩) (Kd.R_far (p := ⟨Aa, 2, none⟩) (Kd.R_far (p := ⟨Aa, 1, none⟩) (Kd.R_far (p := ⟨Aa, 0, none⟩) (Kd.R_types Ak.out Ab.out (by decide)) (fun _ hk => hk.2) (.int .u8 Ae)) (fun _ hk => hk.2) (.int .u8 Ag)) (fun _ hk => hk.2) (.int .u8 Ah)) (fun _ hk => hk.2) (.int .u8 Aj)) (fun _ hk => trivial)⟩, ⟨by (with_reducible repeat (first | apply Kd.R_alloc | apply Kd.R_drewN | apply Kd.R_drew)); exact Kd.R_mono (Kd.R_far (p := ⟨Aa, 3, none⟩) (Kd.R_far (p := ⟨Aa, 2, none⟩) (Kd.R_far (p := ⟨Aa, 1, none⟩) (Kd.R_far (p := ⟨Aa, 0, none⟩) (Kd.R_types Af.out Ab.out (by decide)) (fun _ hk => hk.2) (.int .u8 Ae)) (fun _ hk => hk.2) (.int .u8 Ag)) (fun _ hk => hk.2) (.int .u8 Ah)) (fun _ hk => hk.2) (.int .u8 Aj)) (fun _ hk => trivial)⟩, ⟨by (with_reducible repeat (first | refine ai ?_ _ | refine aj ?_ | refine ah ?_ _)); refine ag (cs := #[.int .u8 Ae, .int .u8 Ag, .int .u8 Ah, .int .u8 0]) ?_ 3 _ rfl; (with_reducible repeat (first | refine ai ?_ _ | refine aj ?_ | refine ah ?_ _)); refine ag (cs := #[.int .u8 Ae, .int .u8 Ag, .int .u8 0, .int .u8 0]) ?_ 2 _ rfl; (with_reducible repeat (first | refine ai ?_ _ | refine aj ?_ | refine ah ?_ _)); refine ag (cs := #[.int .u8 Ae, .int .u8 0, .int .u8 0, .int .u8 0]) ?_ 1 _ rfl; (with_reducible repeat (first | refine ai ?_ _ | refine aj ?_ | refine ah ?_ _)); refine ag (cs := #[.int .u8 0, .int .u8 0, .int .u8 0, .int .u8 0]) ?_ 0 _ rfl; (with_reducible repeat (first | refine ai ?_ _ | refine aj ?_ | refine ah ?_ _)); exact Ab.out⟩, ⟨xbl⟩⟩
        ·
         replace c15 := Bool.eq_false_iff.mpr c15
         subst c15
         rw [if_neg (show ¬ (false = true) by decide)] at H
         have H' := Zz.mk H
         clear H
         go_wp2
         go_meet
         case rel => exact ⟨_, (false), xrr, H', ⟨by have := HK1.out; first | omega | exact Nat.le_refl _⟩, ⟨by (with_reducible repeat (first | apply Kd.R_alloc | apply Kd.R_drewN | apply Kd.R_drew)); exact Kd.R_mono (Kd.R_far (p := ⟨Aa, 3, none⟩) (Kd.R_far (p := ⟨Aa, 2, none⟩) (Kd.R_far (p := ⟨Aa, 1, none⟩) (Kd.R_far (p := ⟨Aa, 0, none⟩) (Kd.R_types Ai.out Ab.out (by decide)) (fun _ hk => hk.2) (.int .u8 Ae)) (fun _ hk => hk.2) (.int .u8 Ag)) (fun _ hk => hk.2) (.int .u8 Ah)) (fun _ hk => hk.2) (.int .u8 Aj)) (fun _ hk => trivial)⟩, ⟨by (with_reducible repeat (first | apply Kd.R_alloc | apply Kd.R_drewN | apply Kd.R_drew)); exact Kd.R_mono (Kd.R_far (p := ⟨Aa, 3, none⟩) (Kd.R_far (p := ⟨Aa, 2, none⟩) (Kd.R_far (p := ⟨Aa, 1, none⟩) (Kd.R_far (p := ⟨Aa, 0, none⟩) (Kd.R_types Ak.out Ab.out (by decide)) (fun _ hk => hk.2) (.int .u8 Ae)) (fun _ hk => hk.2) (.int .u8 Ag)) (fun _ hk => hk.2) (.int .u8 Ah)) (fun _ hk => hk.2) (.int .u8 Aj)) (fun _ hk => trivial)⟩, ⟨by (with_reducible repeat (first | apply Kd.R_alloc | apply Kd.R_drewN | apply Kd.R_drew)); exact Kd.R_mono (Kd.R_far (p := ⟨Aa, 3, none⟩) (Kd.R_far (p := ⟨Aa, 2, none⟩) (Kd.R_far (p := ⟨Aa, 1, none⟩) (Kd.R_far (p := ⟨Aa, 0, none⟩) (Kd.R_types Af.out Ab.out (by decide)) (fun _ hk => hk.2) (.int .u8 Ae)) (fun _ hk => hk.2) (.int .u8 Ag)) (fun _ hk => hk.2) (.int .u8 Ah)) (fun _ hk => hk.2) (.int .u8 Aj)) (fun _ hk => trivial)⟩, ⟨by (with_reducible repeat (first | refine ai ?_ _ | refine aj ?_ | refine ah ?_ _)); refine ag (cs := #[.int .u8 Ae, .int .u8 Ag, .int .u8 Ah, .int .u8 0]) ?_ 3 _ rfl; (with_reducible repeat (first | refine ai ?_ _ | refine aj ?_ | refine ah ?_ _)); refine ag (cs := #[.int .u8 Ae, .int .u8 Ag, .int .u8 0, .int .u8 0]) ?_ 2 _ rfl; (with_reducible repeat (first | refine ai ?_ _ | refine aj ?_ | refine ah ?_ _)); refine ag (cs := #[.int .u8 Ae, .int .u8 0, .int .u8 0, .int .u8 0]) ?_ 1 _ rfl; (with_reducible repeat (first | refine ai ?_ _ | refine aj ?_ | refine ah ?_ _)); refine ag (cs := #[.int .u8 0, .int .u8 0, .int .u8 0, .int .u8 0]) ?_ 0 _ rfl; (with_reducible repeat (first | refine ai ?_ _ | refine aj ?_ | refine ah ?_ _)); exact Ab.out⟩, ⟨xbl⟩⟩
       case rest =>
        clear Ax
        clear AA AK AL p124 q124
        try clear Au
        obtain ⟨kq, An, rfl, HA, HJ10, Ai, Ak, Af, Ab, HB⟩ := hcut
        cases kq with
        | zero => exact absurd HA.out (by simp [bo])
        | succ kj10 =>
         have H := HA.out
         clear HA
         simp only [bo] at H
         by_cases c17 : An = true
         ·
          subst c17
          rw [if_pos rfl] at H
          obtain ⟨Ar, Ao⟩ : ∃ y_ : List Int, y_ = (([Go.bits .or .u16 (IntKind.u16.wrap ((IntKind.u16.wrap (Ae)) * 256)) (IntKind.u16.wrap (Ag)), Go.bits .or .u16 (IntKind.u16.wrap ((IntKind.u16.wrap (Ah)) * 256)) (IntKind.u16.wrap (Aj))] : List Int)) := ⟨_, rfl⟩
          replace H : (if Al.length + Ar.length < 70368744177664 then (some ((Al ++ Ar), true)) else (none)) = some (r1, r2) := by first | (rw [Ao]; with_reducible exact H) | (have H2_ := (Option.bind_some _ _).symm.trans H; rw [Ao]; with_reducible exact H2_) | (have H2_ := (Option.bind_some _ _).symm.trans H; with_reducible exact H2_) | with_reducible exact H | (rw [Ao]; exact H) | exact H
          have Aw := Zz.mk Ao
          clear Ao
          by_cases c18 : Al.length + Ar.length < 70368744177664
          ·
           rw [if_pos c18] at H
           have LMc18 := Zz.mk c18
           clear c18
           obtain ⟨AM, Ap⟩ : ∃ y_ : List Int, y_ = (Al ++ Ar) := ⟨_, rfl⟩
           replace H : (some (AM, true)) = some (r1, r2) := by first | (rw [Ap]; with_reducible exact H) | (have H2_ := (Option.bind_some _ _).symm.trans H; rw [Ap]; with_reducible exact H2_) | (have H2_ := (Option.bind_some _ _).symm.trans H; with_reducible exact H2_) | with_reducible exact H | (rw [Ap]; exact H) | exact H
           have AE := Zz.mk Ap
           clear Ap
           simp only [Option.some.injEq, Prod.mk.injEq] at H
           obtain ⟨rfl, rfl⟩ := H
           obtain ⟨hcz19_0, hcz19_1, hcz19_2, hcz19_3⟩ := xc4 Ab
           have hfz19_0 := xf Ab 0
           have hfz19_1 := xf Ab 1
           have hfz19_2 := xf Ab 2
           have hfz19_3 := xf Ab 3
           go_wp2_with (first | ((with_reducible refine ay (N := 58) rfl ?_); (try (refine dP (by rfl) ?_; dsimp only)); refine Kd.R_lit (Kd.int .u16) _ 26 ?hg (N := 58) ?hd (xs := ([Go.bits .or .u16 (IntKind.u16.wrap ((IntKind.u16.wrap (Ae)) * 256)) (IntKind.u16.wrap (Ag)), Go.bits .or .u16 (IntKind.u16.wrap ((IntKind.u16.wrap (Ah)) * 256)) (IntKind.u16.wrap (Aj))] : List Int)) (inner := [.int .u16 (Go.bits .or .u16 (IntKind.u16.wrap ((IntKind.u16.wrap (Ae)) * 256)) (IntKind.u16.wrap (Ag))), .int .u16 (Go.bits .or .u16 (IntKind.u16.wrap ((IntKind.u16.wrap (Ah)) * 256)) (IntKind.u16.wrap (Aj)))]) (ok := fun _ => True) (okp := fun _ => True) ?hr ?hp (fun _ hk => hk) trivial (Below.refl _ _) (Nat.le_refl _) (by simp) ?_; (case hd => rfl); (case hg => rfl); (case hr => first | (go_simp; done) | (go_simp; rfl)); (case hp => exact (Reps.one (show Kd.M (Kd.int .u16) _ _ _ (Go.bits .or .u16 (IntKind.u16.wrap ((IntKind.u16.wrap (Ae)) * 256)) (IntKind.u16.wrap (Ag))) [.int .u16 (Go.bits .or .u16 (IntKind.u16.wrap ((IntKind.u16.wrap (Ae)) * 256)) (IntKind.u16.wrap (Ag)))] from rfl) (Reps.one (show Kd.M (Kd.int .u16) _ _ _ (Go.bits .or .u16 (IntKind.u16.wrap ((IntKind.u16.wrap (Ah)) * 256)) (IntKind.u16.wrap (Aj))) [.int .u16 (Go.bits .or .u16 (IntKind.u16.wrap ((IntKind.u16.wrap (Ah)) * 256)) (IntKind.u16.wrap (Aj)))] from rfl) (Reps.none _ _)))); intro v132 w20 ho21 hb hg_ hnew_; clear hg_ hnew_; (first | rw [← Aw.out] at ho21 | (simp only [Int.reduceToNat] at ho21; rw [← Aw.out] at ho21)); have Am := Zz.mk (Kd.R_lower (Kd.R_new' ho21 (Kd.R_lt (xkd Ai))) (co xbl)); replace Ai := Zz.mk (Kd.R_elder' (xkd Ai) (Kd.R_base ho21) hb); replace Ak := Zz.mk (Kd.R_below (xkd Ak) hb); replace Af := Zz.mk (Kd.R_below (xkd Af) hb); replace Ab := xbb (g := Aa) (o := .cells #[.int .u8 Ae, .int .u8 Ag, .int .u8 Ah, .int .u8 Aj] 23 (0, 0)) hb; replace HB := xst hb; clear hb ho21; obtain ⟨Ao23, co23, eo23⟩ := Kd.R_slice Am.out; subst eo23) | ((with_reducible refine e9 (b := .append) (xs := #[.tmp 41, .tmp 58]) rfl ?_); (try (refine dP (by rfl) ?_; dsimp only)); at_builtin; refine Kd.R_append_rows (Kd.int .u16) (w0 := w) w.heap.size rfl (.tmp 41) (.tmp 58) 49 26 (.int .u16 0) 2 rfl Tryd.underlying49 kn rfl (by decide) (by omega) u6 Al Ar _ _ _ (fun k_ => some k_ ≠ (.slice Ao23 Ar.length co23 : Value).ownBlock) (fun _ => False) rfl rfl ?aO ?aR (fun _ _ h => h) (fun _ h => h.elim) ?aF ?aB ?aS ?aL ?_; (case aR => repeat (first | exact (Kd.R_reads' Am.out).2.2 | (with_reducible refine Kd.C_alloc ?_ _) | (with_reducible refine Kd.C_drewN ?_ _) | (with_reducible refine Kd.C_drew ?_))); (case aB => exact xbl); (case aF => exact (fun k_ hk => Kd.fresh' (Kd.R_lt (xkd Am)) k_ hk)); (case aO => exact (by (with_reducible repeat (first | apply Kd.R_alloc | apply Kd.R_drewN | apply Kd.R_drew)); exact Kd.R_mono Ai.out (fun _ hk => hk.2))); (case aS => exact (co xbl)); (case aL => have := LMc18.out; first | omega | exact Nat.le_of_lt this); intro v135 w22 ho hb hg hat; rw [← AE.out] at ho; have n0_ := Zz.mk (Kd.R_over' (xkd Ak) (Kd.R_typed (xkd Ai)) (by decide) hg); have n1_ := Zz.mk (Kd.R_over' (xkd Af) (Kd.R_typed (xkd Ai)) (by decide) hg); have n2_ := Zz.mk (h9 (g := Aa) (o := .cells #[.int .u8 Ae, .int .u8 Ag, .int .u8 Ah, .int .u8 Aj] 23 (0, 0)) xbk hg (Kd.R_ne Ai.out Ab.out (by decide))); have n3_ := Zz.mk (Kd.R_after (ok := (fun _ => True)) (xkd Am) hg hat); have n4_ := Zz.mk (hb); have n5_ := Zz.mk (ho); clear Ak; clear Af; clear Ab; clear Am; clear HB; clear Ai; have Ak := n0_; have Af := n1_; have Ab := n2_; have Am := n3_; have HB := n4_; have AF := n5_; clear n0_ n1_ n2_ n3_ n4_ n5_; clear ho hb hg hat))
           go_ret2
           exact ⟨_, by first | rfl | (simp [ap, aq] <;> first | rfl | (simp only [bi, bne, Bool.not_not]; done)) | (simp [*, ap, aq] <;> rfl), by (with_reducible repeat (first | apply Kd.R_alloc | apply Kd.R_drewN | apply Kd.R_drew)); exact Kd.R_mono AF.out (fun _ hk => trivial), xbl⟩
          ·
           rw [if_neg c18] at H
           exact absurd H (by simp)
         ·
          replace c17 := Bool.eq_false_iff.mpr c17
          subst c17
          rw [if_neg (show ¬ (false = true) by decide)] at H
          replace H := Option.bind_eq_some_iff.mp H
          obtain ⟨⟨At, AN⟩, A240, H⟩ := H
          try dsimp only at H
          have A24 := Zz.mk A240
          clear A240
          by_cases c25 : AN = true
          ·
           subst c25
           rw [if_pos rfl] at H
           by_cases c26 : Al.length < 70368744177664
           ·
            rw [if_pos c26] at H
            have LMc26 := Zz.mk c26
            clear c26
            obtain ⟨AG, Aq⟩ : ∃ y_ : List Int, y_ = (Al ++ [At]) := ⟨_, rfl⟩
            replace H : (bg kj10 a1 AG Ac Ac (Ac.length : Int) (wrap64 (Ad + 1))) = some (r1, r2) := by first | (rw [Aq]; with_reducible exact H) | (have H2_ := (Option.bind_some _ _).symm.trans H; rw [Aq]; with_reducible exact H2_) | (have H2_ := (Option.bind_some _ _).symm.trans H; with_reducible exact H2_) | with_reducible exact H | (rw [Aq]; exact H) | exact H
            have AH := Zz.mk Aq
            clear Aq
            have H' := Zz.mk H
            clear H
            go_wp2_with (first | ((with_reducible refine ae (f := 42) rfl ?_); refine xgl 62 Tryd.func42 #[.string (bH ByteArray.empty Ac Ad)] ?_; (with_reducible refine (gc kj10 (bH ByteArray.empty Ac Ad) At true _ A24.out).mono ?_); rintro e w' ⟨rfl, ⟨nd, rfl⟩⟩; refine ⟨_, rfl, ?_⟩) | ((with_reducible refine e9 (b := .append) (xs := #[.tmp 67, .tmp 69]) rfl ?_); (try (refine dP (by rfl) ?_; dsimp only)); at_builtin; refine Kd.R_append (Kd.int .u16) (w0 := w) w.heap.size rfl (.tmp 67) (.tmp 69) 49 26 (.int .u16 0) 2 rfl Tryd.underlying49 kn rfl (by decide) (by omega) u6 Al At [.int .u16 At] (fun _ => True) (fun _ => False) rfl rfl ?aP (fun _ hk => hk.elim) ?aF ?aO ?aB ?aS ?aL ?_; (case aP => exact rfl); (case aB => exact xbl); (case aF => exact (fun _ _ => trivial)); (case aO => exact (xkd Ai)); (case aS => exact (co xbl)); (case aL => have := LMc26.out; first | omega | exact Nat.le_of_lt this); intro v140 w27 ho hb hg hat; rw [← AH.out] at ho; have n0_ := Zz.mk (Kd.R_over' (xkd Ak) (Kd.R_typed (xkd Ai)) (by decide) hg); have n1_ := Zz.mk (Kd.R_over' (xkd Af) (Kd.R_typed (xkd Ai)) (by decide) hg); have n2_ := Zz.mk (h9 (g := Aa) (o := .cells #[.int .u8 Ae, .int .u8 Ag, .int .u8 Ah, .int .u8 Aj] 23 (0, 0)) xbk hg (Kd.R_ne Ai.out Ab.out (by decide))); have n3_ := Zz.mk (hb); have n4_ := Zz.mk (ho); clear Ak; clear Af; clear Ab; clear HB; clear Ai; have Ak := n0_; have Af := n1_; have Ab := n2_; have HB := n3_; have AI := n4_; clear n0_ n1_ n2_ n3_ n4_; clear ho hb hg hat))
            go_roundg kj10
            case measure => have := HK1.out; have := HJ10.out; omega
            case rel => exact ⟨(AG), (wrap64 (Ad + 1)), xrr, H', ⟨by have := HK1.out; have := HJ10.out; omega⟩, ⟨xkd AI⟩, ⟨xkd Ak⟩, ⟨xkd Af⟩, ⟨xbl⟩⟩
           ·
            rw [if_neg c26] at H
            exact absurd H (by simp)
          ·
           replace c25 := Bool.eq_false_iff.mpr c25
           subst c25
           rw [if_neg (show ¬ (false = true) by decide)] at H
           simp only [Option.some.injEq, Prod.mk.injEq] at H
           obtain ⟨rfl, rfl⟩ := H
           go_wp2_with (first | ((with_reducible refine ae (f := 42) rfl ?_); refine xgl 62 Tryd.func42 #[.string (bH ByteArray.empty Ac Ad)] ?_; (with_reducible refine (gc kj10 (bH ByteArray.empty Ac Ad) At false _ A24.out).mono ?_); rintro e w' ⟨rfl, ⟨nd, rfl⟩⟩; refine ⟨_, rfl, ?_⟩))
           go_ret2
           exact ⟨_, by first | rfl | (simp [ap, aq] <;> first | rfl | (simp only [bi, bne, Bool.not_not]; done)) | (simp [*, ap, aq] <;> rfl), by first | exact Kd.R_nil _ _ _ _ _ | exact Kd.N_nil _ _ _ _ _ | exact Kd.V_nil _ _ _ _ _ | exact Kd.Q_nil _ _ _ _ _ | exact Kd.S_nil _ _ _ _ _, xbl⟩
      ·
       rw [if_neg c9] at H
       exact absurd H (by simp)
     ·
      rw [if_neg c8] at H
      exact absurd H (by simp)
    ·
     rw [if_neg c7] at H
     have AA := decide_eq_false c7
     clear c7
     simp only [Option.some.injEq, Prod.mk.injEq] at H
     obtain ⟨rfl, rfl⟩ := H
     go_wp2
     go_ret2
     exact ⟨_, by first | rfl | (simp [ap, aq] <;> first | rfl | (simp only [bi, bne, Bool.not_not]; done)) | (simp [*, ap, aq] <;> rfl), by (with_reducible repeat (first | apply Kd.R_alloc | apply Kd.R_drewN | apply Kd.R_drew)); exact Ai.out, xbl⟩
theorem cg {w : World} {e base : Nat} {ok : Nat → Prop} {v : Value} {xs : List Int} (h : Kd.R (Kd.int .u16) e w base ok v xs) :
    ∃ A c, v = .slice A xs.length c ∧ ((A = none ∧ xs = []) ∨ ∃ g cur, A = some ⟨g, 0, none⟩ ∧ base ≤ g ∧ w.heap[g]? = some (.cells cur e (0, 0)) ∧ cur.toList.take xs.length = xs.map (Value.int .u16)) := by
  have ho := Kd.own_of_R h
  obtain ⟨hl, h1 | ⟨g, cap, cur, rfl, hb, hh, _, _, _, ht⟩⟩ := ho
  · obtain ⟨rfl, hn⟩ := h1
    exact ⟨none, 0, by rw [hn], .inl ⟨rfl, List.eq_nil_of_length_eq_zero hn⟩⟩
  · refine ⟨some ⟨g, 0, none⟩, cap, rfl, .inr ⟨g, cur, rfl, hb, hh, ?_⟩⟩
    rw [Nat.mul_one] at ht
    exact ht
theorem i7 {P : Program} {dT elem ty : TypeId} (hu : P.underlying dT = some (.slice elem)) (hs : (P.info? elem).map (·.size) = some 1) {w : World} {g o n : Nat} {cur : Array Value} {t : TypeId} (hg : w.heap[g]? = some (.cells cur t (0, 0)))
    {A : Option Addr} {c : Nat} {xs : List Int} {e base : Nat} (hA : (A = none ∧ xs = []) ∨ ∃ g' cur', A = some ⟨g', 0, none⟩ ∧ base ≤ g' ∧ w.heap[g']? = some (.cells cur' e (0, 0)) ∧ cur'.toList.take xs.length = xs.map (Value.int .u16))
    (hfit : o + n ≤ cur.size) :
    (Builtin.copy_ #[dT, dT] ty #[.slice (some ⟨g, o, none⟩) n n, .slice A xs.length c]).run P w =
      .ok (goInt ((xs.take n).map (Value.int .u16)).length) (w.setRow g (cur.toList.take o ++ (xs.take n).map (Value.int .u16) ++ cur.toList.drop (o + ((xs.take n).map (Value.int .u16)).length)).toArray) := by
  rcases hA with ⟨rfl, rfl⟩ | ⟨g', cur', rfl, _, hh, ht⟩
  · have e1 : (cur.toList.take o ++ (([] : List Int).take n).map (Value.int .u16) ++ cur.toList.drop (o + ((([] : List Int).take n).map (Value.int .u16)).length)).toArray = cur := by simp
    rw [e1, setRow_self w g cur t (0, 0) hg, List.take_nil]
    exact run_copy_none w dT dT ty elem (some ⟨g, o, none⟩) none n n 0 c hu hs (by simp)
  · refine run_copy_row P w dT dT ty elem g o n n ⟨g', 0, none⟩ xs.length c cur t ((xs.take n).map (Value.int .u16)) hu hs hg (by simp [Nat.min_comm]) ?_ (by simp; omega) (by
      intro v hv
      obtain ⟨x, _, rfl⟩ := List.mem_map.1 hv
      rfl)
    intro j v hj
    have hadd : (⟨g', 0, none⟩ : Addr).add j = ⟨g', j, none⟩ := by unfold Addr.add; split <;> simp_all
    rw [hadd, cell_of_row w g' j cur' e (0, 0) hh]
    have hj2 : (xs.map (Value.int .u16))[j]? = some v := by
      rw [List.getElem?_map, List.getElem?_take] at hj
      split at hj
      · rw [List.getElem?_map]; exact hj
      · cases hj
    rw [← ht, List.getElem?_take] at hj2
    split at hj2
    · simpa using hj2
    · cases hj2
def af : List Int := [0, 0, 0, 0, 0, 0, 0, 0]
def dj (l : List Int) (b : Bool) : Int × Int × Int × Int × Int × Int × Int × Int × Bool := (l.getD 0 0, l.getD 1 0, l.getD 2 0, l.getD 3 0, l.getD 4 0, l.getD 5 0, l.getD 6 0, l.getD 7 0, b)
def ak (l : List Int) : Array Value := #[.int .u16 (l.getD 0 0), .int .u16 (l.getD 1 0), .int .u16 (l.getD 2 0), .int .u16 (l.getD 3 0), .int .u16 (l.getD 4 0), .int .u16 (l.getD 5 0), .int .u16 (l.getD 6 0), .int .u16 (l.getD 7 0)]
theorem fL : ∀ (l : List Int), l.length = 8 → ak l = (l.map (Value.int .u16)).toArray
  | [_, _, _, _, _, _, _, _], _ => rfl
theorem dG (l : List Int) : (ak l).all (·.oneCell') = true := by simp [ak, Value.oneCell']
theorem ix (l xs : List Int) (o : Nat) (hl : l.length = 8) (ho : o + xs.length ≤ 8) :
    ((ak l).toList.take o ++ xs.map (Value.int .u16) ++ (ak l).toList.drop (o + (xs.map (Value.int .u16)).length)).toArray = ak (l.take o ++ xs ++ l.drop (o + xs.length)) := by
  rw [fL l hl, fL _ (by simp; omega)]
  simp
theorem bK {b : Nat} {w w2 : World} (h : Below b w w2) {g : Nat} (hg : b ≤ g) (cs : Array Value) : Below b w (w2.setRow g cs) := below_setRow h hg cs
def ip_V6_At (w : World) (W : World) (l : List Int) : Prop := W.heap[w.heap.size]? = some (.cells (ak af) 27 (0, 0)) ∧ W.heap[w.heap.size + 1]? = some (.cells (ak l) 27 (0, 0)) ∧ Below w.heap.size w W ∧ w.heap.size + 2 ≤ W.heap.size
theorem ip_V6_At.made (w : World) : ip_V6_At w ((w.alloc (.cells (ak af) 27)).alloc (.cells (ak af) 27)) af :=
  ⟨heap_alloc2_old w _ _, heap_alloc2_new w _ _, ((Below.refl _ _).alloc (Nat.le_refl _) _).alloc (by simp) _, by simp⟩
theorem ip_V6_At.below {w W W' : World} {l : List Int} (h : ip_V6_At w W l) (hb : Below W.heap.size W W') : ip_V6_At w W' l :=
  ⟨(hb.block _ (by have := h.2.2.2; omega)).trans h.1, (hb.block _ (by have := h.2.2.2; omega)).trans h.2.1, h.2.2.1.trans (hb.mono (by have := h.2.2.2; omega)), by have := h.2.2.2; have := hb.size; omega⟩
theorem ip_V6_At.drewN {w W : World} {l : List Int} (h : ip_V6_At w W l) (n : Nat) : ip_V6_At w (W.drewN n) l := h.below (Drawn0.below ⟨n, rfl⟩)
theorem ip_V6_At.copied {w W : World} {l l' : List Int} (h : ip_V6_At w W l) : ip_V6_At w (W.setRow (w.heap.size + 1) (ak l')) l' :=
  ⟨by rw [setRow_other _ _ _ _ (by omega)]; exact h.1, setRow_heap _ _ _ _ _ _ h.2.1, bK h.2.2.1 (by omega) _, by simpa using h.2.2.2⟩
def ip_V6_Row (W : World) (b : Nat) (A : Option Addr) (p : List Int) : Prop := (A = none ∧ p = []) ∨ ∃ g cur, A = some ⟨g, 0, none⟩ ∧ b ≤ g ∧ W.heap[g]? = some (.cells cur 26 (0, 0)) ∧ cur.toList.take p.length = p.map (Value.int .u16)
theorem ip_V6_Row.below {W W' : World} {b : Nat} {A : Option Addr} {p : List Int} (h : ip_V6_Row W b A p) (hb : Below W.heap.size W W') : ip_V6_Row W' b A p := by
  rcases h with h | ⟨g, cur, h1, h2, h3, h4⟩
  · exact .inl h
  · refine .inr ⟨g, cur, h1, h2, (hb.block _ ?_).trans h3, h4⟩
    rw [Array.getElem?_eq_some_iff] at h3
    exact h3.1
theorem ip_V6_Row.setRow {W : World} {b : Nat} {A : Option Addr} {p : List Int} (h : ip_V6_Row W b A p) {g : Nat} (hg : g < b) (cs : Array Value) : ip_V6_Row (W.setRow g cs) b A p := by
  rcases h with h | ⟨g', cur, h1, h2, h3, h4⟩
  · exact .inl h
  · exact .inr ⟨g', cur, h1, h2, by rw [setRow_other _ _ _ _ (by omega)]; exact h3, h4⟩
def an (l : List Int) (o : Nat) (xs : List Int) (n : Nat) : List Int := l.take o ++ xs.take n ++ l.drop (o + (xs.take n).length)
theorem cF (l xs : List Int) (o n : Nat) (hl : l.length = 8) (h : o + n ≤ 8) : (an l o xs n).length = 8 := by
  unfold an; simp; omega
theorem cV {w W : World} {l p : List Int} {A : Option Addr} {b c : Nat} {o n : Nat} (h : ip_V6_At w W l) (hA : ip_V6_Row W b A p) (hl : l.length = 8) (ho : o + n ≤ 8) :
    (Builtin.copy_ #[49, 49] 3 #[.slice (some ⟨w.heap.size + 1, o, none⟩) n n, .slice A p.length c]).run Tryd.prog W =
      .ok (goInt (p.take n).length) (W.setRow (w.heap.size + 1) (ak (an l o p n))) := by
  have := i7 (P := Tryd.prog) (dT := 49) (elem := 26) (ty := 3) Tryd.underlying49 (by kernel_rfl) (w := W) (o := o) (n := n) h.2.1 (c := c) hA (by have : (ak l).size = 8 := rfl; omega)
  rw [ix l (p.take n) o hl (by rw [List.length_take]; omega), List.length_map] at this
  exact this
theorem bV {w W w1 : World} {A : Option Addr} {p : List Int} (h2 : w.heap.size + 2 ≤ W.heap.size) (h : (A = none ∧ p = []) ∨ ∃ g cur, A = some ⟨g, 0, none⟩ ∧ W.heap.size ≤ g ∧ w1.heap[g]? = some (.cells cur 26 (0, 0)) ∧ cur.toList.take p.length = p.map (Value.int .u16)) : ip_V6_Row w1 (w.heap.size + 2) A p := by
  rcases h with h | ⟨g, cur, h1, h3, h4⟩
  · exact .inl h
  · exact .inr ⟨g, cur, h1, by omega, h4⟩
set_option maxHeartbeats 1000000 in
theorem kp (k : Nat) (a0 x y : ByteArray) (sh : Bool) (p q : List Int) (w : World) (hG : GW w) (hcut : bl a0 (⟨#[58, 58]⟩ : ByteArray) = some (x, y, sh)) (hw : aU k x (!sh) = some (p, false)) :
    Calls Tryd.prog 9 #[.string a0] w fun e w' => e = .returned (.tuple #[.agg (ak af), .bool false]) ∧ Below w.heap.size w w' := by
  have hu8 := Tryd.underlying27
  have A1 := Zz.mk hcut
  have A2 := Zz.mk hw
  clear hcut hw
  go_enter Tryd.func9, Tryd.ntmps9
  go_wp2_with (first | (go_at_call 22; (refine (bJ a0 ⟨#[58, 58]⟩ x y sh _ (by exact aJ hG (ip_V6_At.made w).2.2.1) A1.out).mono ?_); rintro e w' ⟨rfl, ⟨nd, rfl⟩⟩; generalize hW : World.drewN _ nd = W; have VA := Zz.mk (show ip_V6_At w W af from by rw [← hW]; exact (ip_V6_At.made w).drewN nd); clear hW) | ((with_reducible refine ae (f := 23) rfl ?_); refine bc (some 21) rfl rfl Tryd.func23 (by kernel_rfl) rfl #[.string x, .bool (!sh)] rfl (by (try simp only [List.map_toArray, List.map_cons, List.map_nil]); first | done | rfl) ?_; (refine (bd k x (!sh) p false _ (by exact aJ hG VA.out.2.2.1) A2.out).mono ?_); rintro e w1 ⟨v1, rfl, hr, hb⟩; have VB := Zz.mk (VA.out.below hb); obtain ⟨A, c, rfl, hA⟩ := cg hr; have HA := Zz.mk (show ip_V6_Row w1 (w.heap.size + 2) A p from bV VA.out.2.2.2 hA); clear hA hr hb; refine ⟨_, rfl, ?_⟩) | (refine wpList_load_row rfl 27 (.tmp 4) rfl (w.heap.size + 1) rfl 27 (ak af) (0, 0) _ VB.out.2.1 hu8 rfl (by kernel_rfl) ?_; refine wpList_store_row rfl 27 (.tmp 2) (.tmp 26) rfl w.heap.size (ak af) ?x1 ?x2 27 (ak af) VB.out.1 ?x3 ?x4 ?x5 ?_; (case x1 => rfl); (case x2 => rfl); (case x3 => exact (show (Tryd.prog.info? 27).map (·.size) = some 8 by kernel_rfl)); (case x4 => rfl); (case x5 => exact dG _)))
  refine bodyPost_ret (cf rfl _ _ w.heap.size 27 (ak af) (0, 0) _ rfl (setRow_heap _ _ _ _ _ _ VB.out.1) Tryd.underlying27 rfl (show (Tryd.prog.info? 27).map (·.size) = some 8 by kernel_rfl)) rfl ⟨rfl, bK VB.out.2.2.1 (Nat.le_refl _) _⟩
set_option maxHeartbeats 1000000 in
theorem i8 (k : Nat) (a0 x y : ByteArray) (sh : Bool) (p q : List Int) (w : World) (hG : GW w) (hcut : bl a0 (⟨#[58, 58]⟩ : ByteArray) = some (x, y, false)) (hw : aU k x true = some (p, true)) (h8 : p.length = 8) :
    Calls Tryd.prog 9 #[.string a0] w fun e w' => e = .returned (.tuple #[.agg (ak (an af 0 p 8)), .bool true]) ∧ Below w.heap.size w w' := by
  have hu8 := Tryd.underlying27
  have A1 := Zz.mk hcut
  have A2 := Zz.mk hw
  clear hcut hw
  have t8 : ((p.length : Int) != 8) = false := by simp [h8]
  clear h8
  go_enter Tryd.func9, Tryd.ntmps9
  go_wp2_with (first | (go_at_call 22; (refine (bJ a0 ⟨#[58, 58]⟩ x y false _ (by exact aJ hG (ip_V6_At.made w).2.2.1) A1.out).mono ?_); rintro e w' ⟨rfl, ⟨nd, rfl⟩⟩; generalize hW : World.drewN _ nd = W; have VA := Zz.mk (show ip_V6_At w W af from by rw [← hW]; exact (ip_V6_At.made w).drewN nd); clear hW) | ((with_reducible refine ae (f := 23) rfl ?_); refine bc (some 21) rfl rfl Tryd.func23 (by kernel_rfl) rfl #[.string x, .bool true] rfl (by (try simp only [List.map_toArray, List.map_cons, List.map_nil]); first | done | rfl) ?_; (refine (bd k x true p true _ (by exact aJ hG VA.out.2.2.1) A2.out).mono ?_); rintro e w1 ⟨v1, rfl, hr, hb⟩; have VB := Zz.mk (VA.out.below hb); obtain ⟨A, c, rfl, hA⟩ := cg hr; have HA := Zz.mk (show ip_V6_Row w1 (w.heap.size + 2) A p from bV VA.out.2.2.2 hA); clear hA hr hb; refine ⟨_, rfl, ?_⟩) | (refine Lib.wpList_copy_run _ rfl (.tmp 29) (.tmp 30) 49 49 rfl (.slice (some ⟨w.heap.size + 1, 0, none⟩) 8 8) (.slice A p.length c) ?y1 ?y2 (cV (o := 0) (n := 8) VB.out HA.out ?y3 ?y4) ?_; (case y1 => rfl); (case y2 => rfl); (case y3 => first | rfl | exact cF _ _ _ _ rfl (by omega)); (case y4 => omega); have VC := Zz.mk (VB.out.copied (l' := (an af 0 p 8))); generalize World.setRow _ _ _ = W2 at VC ⊢) | (refine wpList_load_row rfl 27 (.tmp 4) rfl (w.heap.size + 1) rfl 27 (ak (an af 0 p 8)) (0, 0) _ VC.out.2.1 hu8 rfl (by kernel_rfl) ?_; refine wpList_store_row rfl 27 (.tmp 2) (.tmp 36) rfl w.heap.size (ak (an af 0 p 8)) ?x1 ?x2 27 (ak af) VC.out.1 ?x3 ?x4 ?x5 ?_; (case x1 => rfl); (case x2 => rfl); (case x3 => exact (show (Tryd.prog.info? 27).map (·.size) = some 8 by kernel_rfl)); (case x4 => rfl); (case x5 => exact dG _)))
  refine bodyPost_ret (cf rfl _ _ w.heap.size 27 (ak (an af 0 p 8)) (0, 0) _ rfl (setRow_heap _ _ _ _ _ _ VC.out.1) Tryd.underlying27 rfl (show (Tryd.prog.info? 27).map (·.size) = some 8 by kernel_rfl)) rfl ⟨rfl, bK VC.out.2.2.1 (Nat.le_refl _) _⟩
set_option maxHeartbeats 1000000 in
theorem ko (k : Nat) (a0 x y : ByteArray) (sh : Bool) (p q : List Int) (w : World) (hG : GW w) (hcut : bl a0 (⟨#[58, 58]⟩ : ByteArray) = some (x, y, false)) (hw : aU k x true = some (p, true)) (h8 : ¬ p.length = 8) :
    Calls Tryd.prog 9 #[.string a0] w fun e w' => e = .returned (.tuple #[.agg (ak af), .bool false]) ∧ Below w.heap.size w w' := by
  have hu8 := Tryd.underlying27
  have A1 := Zz.mk hcut
  have A2 := Zz.mk hw
  clear hcut hw
  have t8 : ((p.length : Int) != 8) = true := by rw [bne_iff_ne]; omega
  clear h8
  go_enter Tryd.func9, Tryd.ntmps9
  go_wp2_with (first | (go_at_call 22; (refine (bJ a0 ⟨#[58, 58]⟩ x y false _ (by exact aJ hG (ip_V6_At.made w).2.2.1) A1.out).mono ?_); rintro e w' ⟨rfl, ⟨nd, rfl⟩⟩; generalize hW : World.drewN _ nd = W; have VA := Zz.mk (show ip_V6_At w W af from by rw [← hW]; exact (ip_V6_At.made w).drewN nd); clear hW) | ((with_reducible refine ae (f := 23) rfl ?_); refine bc (some 21) rfl rfl Tryd.func23 (by kernel_rfl) rfl #[.string x, .bool true] rfl (by (try simp only [List.map_toArray, List.map_cons, List.map_nil]); first | done | rfl) ?_; (refine (bd k x true p true _ (by exact aJ hG VA.out.2.2.1) A2.out).mono ?_); rintro e w1 ⟨v1, rfl, hr, hb⟩; have VB := Zz.mk (VA.out.below hb); obtain ⟨A, c, rfl, hA⟩ := cg hr; have HA := Zz.mk (show ip_V6_Row w1 (w.heap.size + 2) A p from bV VA.out.2.2.2 hA); clear hA hr hb; refine ⟨_, rfl, ?_⟩) | (refine Lib.wpList_copy_run _ rfl (.tmp 29) (.tmp 30) 49 49 rfl (.slice (some ⟨w.heap.size + 1, 0, none⟩) 8 8) (.slice A p.length c) ?y1 ?y2 (cV (o := 0) (n := 8) VB.out HA.out ?y3 ?y4) ?_; (case y1 => rfl); (case y2 => rfl); (case y3 => first | rfl | exact cF _ _ _ _ rfl (by omega)); (case y4 => omega); have VC := Zz.mk (VB.out.copied (l' := (an af 0 p 8))); generalize World.setRow _ _ _ = W2 at VC ⊢) | (refine wpList_store_row rfl 27 (.tmp 2) (.tmp 35) rfl w.heap.size (ak af) ?x1 ?x2 27 (ak af) VC.out.1 ?x3 ?x4 ?x5 ?_; (case x1 => rfl); (case x2 => rfl); (case x3 => exact (show (Tryd.prog.info? 27).map (·.size) = some 8 by kernel_rfl)); (case x4 => rfl); (case x5 => exact dG _)))
  refine bodyPost_ret (cf rfl _ _ w.heap.size 27 (ak af) (0, 0) _ rfl (setRow_heap _ _ _ _ _ _ VC.out.1) Tryd.underlying27 rfl (show (Tryd.prog.info? 27).map (·.size) = some 8 by kernel_rfl)) rfl ⟨rfl, bK VC.out.2.2.1 (Nat.le_refl _) _⟩
set_option maxHeartbeats 1000000 in
theorem kr (k : Nat) (a0 x y : ByteArray) (sh : Bool) (p q : List Int) (w : World) (hG : GW w) (hcut : bl a0 (⟨#[58, 58]⟩ : ByteArray) = some (x, y, true)) (hw : aU k x false = some (p, true)) (hw2 : aU k y true = some (q, false)) :
    Calls Tryd.prog 9 #[.string a0] w fun e w' => e = .returned (.tuple #[.agg (ak af), .bool false]) ∧ Below w.heap.size w w' := by
  have hu8 := Tryd.underlying27
  have A1 := Zz.mk hcut
  have A2 := Zz.mk hw
  clear hcut hw
  have A3 := Zz.mk hw2
  clear hw2
  go_enter Tryd.func9, Tryd.ntmps9
  go_wp2_with (first | (go_at_call 22; (refine (bJ a0 ⟨#[58, 58]⟩ x y true _ (by exact aJ hG (ip_V6_At.made w).2.2.1) A1.out).mono ?_); rintro e w' ⟨rfl, ⟨nd, rfl⟩⟩; generalize hW : World.drewN _ nd = W; have VA := Zz.mk (show ip_V6_At w W af from by rw [← hW]; exact (ip_V6_At.made w).drewN nd); clear hW) | ((with_reducible refine ae (f := 23) rfl ?_); refine bc (some 21) rfl rfl Tryd.func23 (by kernel_rfl) rfl #[.string x, .bool false] rfl (by (try simp only [List.map_toArray, List.map_cons, List.map_nil]); first | done | rfl) ?_; (refine (bd k x false p true _ (by exact aJ hG VA.out.2.2.1) A2.out).mono ?_); rintro e w1 ⟨v1, rfl, hr, hb⟩; have VB := Zz.mk (VA.out.below hb); obtain ⟨A, c, rfl, hA⟩ := cg hr; have HA := Zz.mk (show ip_V6_Row w1 (w.heap.size + 2) A p from bV VA.out.2.2.2 hA); clear hA hr hb; refine ⟨_, rfl, ?_⟩) | ((with_reducible refine ae (f := 23) rfl ?_); refine bc (some 39) rfl rfl Tryd.func23 (by kernel_rfl) rfl #[.string y, .bool true] rfl (by (try simp only [List.map_toArray, List.map_cons, List.map_nil]); first | done | rfl) ?_; (refine (bd k y true q false _ (by exact aJ hG VB.out.2.2.1) A3.out).mono ?_); rintro e w2 ⟨v2, rfl, hr, hb⟩; have VC := Zz.mk (VB.out.below hb); have HB := Zz.mk (HA.out.below hb); obtain ⟨A', c', rfl, hA⟩ := cg hr; have HQ := Zz.mk (show ip_V6_Row w2 (w.heap.size + 2) A' q from bV VB.out.2.2.2 hA); clear hA hr hb; refine ⟨_, rfl, ?_⟩) | (refine wpList_load_row rfl 27 (.tmp 4) rfl (w.heap.size + 1) rfl 27 (ak af) (0, 0) _ VC.out.2.1 hu8 rfl (by kernel_rfl) ?_; refine wpList_store_row rfl 27 (.tmp 2) (.tmp 52) rfl w.heap.size (ak af) ?x1 ?x2 27 (ak af) VC.out.1 ?x3 ?x4 ?x5 ?_; (case x1 => rfl); (case x2 => rfl); (case x3 => exact (show (Tryd.prog.info? 27).map (·.size) = some 8 by kernel_rfl)); (case x4 => rfl); (case x5 => exact dG _)))
  refine bodyPost_ret (cf rfl _ _ w.heap.size 27 (ak af) (0, 0) _ rfl (setRow_heap _ _ _ _ _ _ VC.out.1) Tryd.underlying27 rfl (show (Tryd.prog.info? 27).map (·.size) = some 8 by kernel_rfl)) rfl ⟨rfl, bK VC.out.2.2.1 (Nat.le_refl _) _⟩
set_option maxHeartbeats 1000000 in
theorem i9 (k : Nat) (a0 x y : ByteArray) (sh : Bool) (p q : List Int) (w : World) (hG : GW w) (hcut : bl a0 (⟨#[58, 58]⟩ : ByteArray) = some (x, y, true)) (hw : aU k x false = some (p, true)) (hw2 : aU k y true = some (q, true)) (hm : 8 ≤ wrap64 ((p.length : Int) + q.length)) :
    Calls Tryd.prog 9 #[.string a0] w fun e w' => e = .returned (.tuple #[.agg (ak af), .bool false]) ∧ Below w.heap.size w w' := by
  have hu8 := Tryd.underlying27
  have A1 := Zz.mk hcut
  have A2 := Zz.mk hw
  clear hcut hw
  have A3 := Zz.mk hw2
  clear hw2
  have t8 : decide (8 ≤ wrap64 ((p.length : Int) + q.length)) = true := decide_eq_true hm
  clear hm
  go_enter Tryd.func9, Tryd.ntmps9
  go_wp2_with (first | (go_at_call 22; (refine (bJ a0 ⟨#[58, 58]⟩ x y true _ (by exact aJ hG (ip_V6_At.made w).2.2.1) A1.out).mono ?_); rintro e w' ⟨rfl, ⟨nd, rfl⟩⟩; generalize hW : World.drewN _ nd = W; have VA := Zz.mk (show ip_V6_At w W af from by rw [← hW]; exact (ip_V6_At.made w).drewN nd); clear hW) | ((with_reducible refine ae (f := 23) rfl ?_); refine bc (some 21) rfl rfl Tryd.func23 (by kernel_rfl) rfl #[.string x, .bool false] rfl (by (try simp only [List.map_toArray, List.map_cons, List.map_nil]); first | done | rfl) ?_; (refine (bd k x false p true _ (by exact aJ hG VA.out.2.2.1) A2.out).mono ?_); rintro e w1 ⟨v1, rfl, hr, hb⟩; have VB := Zz.mk (VA.out.below hb); obtain ⟨A, c, rfl, hA⟩ := cg hr; have HA := Zz.mk (show ip_V6_Row w1 (w.heap.size + 2) A p from bV VA.out.2.2.2 hA); clear hA hr hb; refine ⟨_, rfl, ?_⟩) | ((with_reducible refine ae (f := 23) rfl ?_); refine bc (some 39) rfl rfl Tryd.func23 (by kernel_rfl) rfl #[.string y, .bool true] rfl (by (try simp only [List.map_toArray, List.map_cons, List.map_nil]); first | done | rfl) ?_; (refine (bd k y true q true _ (by exact aJ hG VB.out.2.2.1) A3.out).mono ?_); rintro e w2 ⟨v2, rfl, hr, hb⟩; have VC := Zz.mk (VB.out.below hb); have HB := Zz.mk (HA.out.below hb); obtain ⟨A', c', rfl, hA⟩ := cg hr; have HQ := Zz.mk (show ip_V6_Row w2 (w.heap.size + 2) A' q from bV VB.out.2.2.2 hA); clear hA hr hb; refine ⟨_, rfl, ?_⟩) | (refine wpList_load_row rfl 27 (.tmp 4) rfl (w.heap.size + 1) rfl 27 (ak af) (0, 0) _ VC.out.2.1 hu8 rfl (by kernel_rfl) ?_; refine wpList_store_row rfl 27 (.tmp 2) (.tmp 52) rfl w.heap.size (ak af) ?x1 ?x2 27 (ak af) VC.out.1 ?x3 ?x4 ?x5 ?_; (case x1 => rfl); (case x2 => rfl); (case x3 => exact (show (Tryd.prog.info? 27).map (·.size) = some 8 by kernel_rfl)); (case x4 => rfl); (case x5 => exact dG _)))
  refine bodyPost_ret (cf rfl _ _ w.heap.size 27 (ak af) (0, 0) _ rfl (setRow_heap _ _ _ _ _ _ VC.out.1) Tryd.underlying27 rfl (show (Tryd.prog.info? 27).map (·.size) = some 8 by kernel_rfl)) rfl ⟨rfl, bK VC.out.2.2.1 (Nat.le_refl _) _⟩
set_option maxHeartbeats 1000000 in
theorem iJ (k : Nat) (a0 x y : ByteArray) (sh : Bool) (p q : List Int) (w : World) (hG : GW w) (hcut : bl a0 (⟨#[58, 58]⟩ : ByteArray) = some (x, y, true)) (hw : aU k x false = some (p, true)) (hw2 : aU k y true = some (q, true)) (hm : p.length + q.length < 8) (o : Nat) (ho : o + q.length = 8) (h8 : o < 8) :
    Calls Tryd.prog 9 #[.string a0] w fun e w' => e = .returned (.tuple #[.agg (ak (an (an af 0 p 8) o q (8 - o))), .bool true]) ∧ Below w.heap.size w w' := by
  have hu8 := Tryd.underlying27
  have A1 := Zz.mk hcut
  have A2 := Zz.mk hw
  clear hcut hw
  have A3 := Zz.mk hw2
  clear hw2
  have t8 : decide (8 ≤ wrap64 ((p.length : Int) + q.length)) = false := decide_eq_false (by unfold wrap64; omega)
  have t9 : wrap64 (8 - (q.length : Int)) = (o : Int) := by unfold wrap64; omega
  have t12 : (o : Int) ≤ 8 := by omega
  have t13 : o ≤ 8 := by omega
  have t14 : ¬ 8 = o := by omega
  clear hm ho h8
  go_enter Tryd.func9, Tryd.ntmps9
  go_wp2_with (first | (go_at_call 22; (refine (bJ a0 ⟨#[58, 58]⟩ x y true _ (by exact aJ hG (ip_V6_At.made w).2.2.1) A1.out).mono ?_); rintro e w' ⟨rfl, ⟨nd, rfl⟩⟩; generalize hW : World.drewN _ nd = W; have VA := Zz.mk (show ip_V6_At w W af from by rw [← hW]; exact (ip_V6_At.made w).drewN nd); clear hW) | ((with_reducible refine ae (f := 23) rfl ?_); refine bc (some 21) rfl rfl Tryd.func23 (by kernel_rfl) rfl #[.string x, .bool false] rfl (by (try simp only [List.map_toArray, List.map_cons, List.map_nil]); first | done | rfl) ?_; (refine (bd k x false p true _ (by exact aJ hG VA.out.2.2.1) A2.out).mono ?_); rintro e w1 ⟨v1, rfl, hr, hb⟩; have VB := Zz.mk (VA.out.below hb); obtain ⟨A, c, rfl, hA⟩ := cg hr; have HA := Zz.mk (show ip_V6_Row w1 (w.heap.size + 2) A p from bV VA.out.2.2.2 hA); clear hA hr hb; refine ⟨_, rfl, ?_⟩) | ((with_reducible refine ae (f := 23) rfl ?_); refine bc (some 39) rfl rfl Tryd.func23 (by kernel_rfl) rfl #[.string y, .bool true] rfl (by (try simp only [List.map_toArray, List.map_cons, List.map_nil]); first | done | rfl) ?_; (refine (bd k y true q true _ (by exact aJ hG VB.out.2.2.1) A3.out).mono ?_); rintro e w2 ⟨v2, rfl, hr, hb⟩; have VC := Zz.mk (VB.out.below hb); have HB := Zz.mk (HA.out.below hb); obtain ⟨A', c', rfl, hA⟩ := cg hr; have HQ := Zz.mk (show ip_V6_Row w2 (w.heap.size + 2) A' q from bV VB.out.2.2.2 hA); clear hA hr hb; refine ⟨_, rfl, ?_⟩) | (refine Lib.wpList_copy_run _ rfl (.tmp 53) (.tmp 54) 49 49 rfl (.slice (some ⟨w.heap.size + 1, 0, none⟩) 8 8) (.slice A p.length c) ?y1 ?y2 (cV (o := 0) (n := 8) VC.out HB.out ?y3 ?y4) ?_; (case y1 => rfl); (case y2 => rfl); (case y3 => first | rfl | exact cF _ _ _ _ rfl (by omega)); (case y4 => omega); have HQ2 := Zz.mk (HQ.out.setRow (Nat.lt_succ_self (w.heap.size + 1)) (ak (an af 0 p 8))); have VD := Zz.mk (VC.out.copied (l' := (an af 0 p 8))); generalize World.setRow _ _ _ = W2 at VD HQ2 ⊢) | (refine Lib.wpList_copy_run _ rfl (.tmp 59) (.tmp 60) 49 49 rfl (.slice (some ⟨w.heap.size + 1, o, none⟩) (8 - o) (8 - o)) (.slice A' q.length c') ?y1 ?y2 (cV (o := o) (n := (8 - o)) VD.out HQ2.out ?y3 ?y4) ?_; (case y1 => rfl); (case y2 => rfl); (case y3 => first | rfl | exact cF _ _ _ _ rfl (by omega)); (case y4 => omega); have VE := Zz.mk (VD.out.copied (l' := (an (an af 0 p 8) o q (8 - o)))); generalize World.setRow _ _ _ = W3 at VE ⊢) | (refine wpList_load_row rfl 27 (.tmp 4) rfl (w.heap.size + 1) rfl 27 (ak (an (an af 0 p 8) o q (8 - o))) (0, 0) _ VE.out.2.1 hu8 rfl (by kernel_rfl) ?_; refine wpList_store_row rfl 27 (.tmp 2) (.tmp 62) rfl w.heap.size (ak (an (an af 0 p 8) o q (8 - o))) ?x1 ?x2 27 (ak af) VE.out.1 ?x3 ?x4 ?x5 ?_; (case x1 => rfl); (case x2 => rfl); (case x3 => exact (show (Tryd.prog.info? 27).map (·.size) = some 8 by kernel_rfl)); (case x4 => rfl); (case x5 => exact dG _)))
  refine bodyPost_ret (cf rfl _ _ w.heap.size 27 (ak (an (an af 0 p 8) o q (8 - o))) (0, 0) _ rfl (setRow_heap _ _ _ _ _ _ VE.out.1) Tryd.underlying27 rfl (show (Tryd.prog.info? 27).map (·.size) = some 8 by kernel_rfl)) rfl ⟨rfl, bK VE.out.2.2.1 (Nat.le_refl _) _⟩
set_option maxHeartbeats 1000000 in
theorem iw (k : Nat) (a0 x y : ByteArray) (sh : Bool) (p q : List Int) (w : World) (hG : GW w) (hcut : bl a0 (⟨#[58, 58]⟩ : ByteArray) = some (x, y, true)) (hw : aU k x false = some (p, true)) (hw2 : aU k y true = some (q, true)) (hm : p.length < 8) (hq : q.length = 0) :
    Calls Tryd.prog 9 #[.string a0] w fun e w' => e = .returned (.tuple #[.agg (ak (an (an af 0 p 8) 0 q 0)), .bool true]) ∧ Below w.heap.size w w' := by
  have hu8 := Tryd.underlying27
  have A1 := Zz.mk hcut
  have A2 := Zz.mk hw
  clear hcut hw
  have A3 := Zz.mk hw2
  clear hw2
  have t8 : decide (8 ≤ wrap64 ((p.length : Int) + q.length)) = false := decide_eq_false (by unfold wrap64; omega)
  have t9 : wrap64 (8 - (q.length : Int)) = 8 := by unfold wrap64; omega
  clear hm hq
  go_enter Tryd.func9, Tryd.ntmps9
  go_wp2_with (first | (go_at_call 22; (refine (bJ a0 ⟨#[58, 58]⟩ x y true _ (by exact aJ hG (ip_V6_At.made w).2.2.1) A1.out).mono ?_); rintro e w' ⟨rfl, ⟨nd, rfl⟩⟩; generalize hW : World.drewN _ nd = W; have VA := Zz.mk (show ip_V6_At w W af from by rw [← hW]; exact (ip_V6_At.made w).drewN nd); clear hW) | ((with_reducible refine ae (f := 23) rfl ?_); refine bc (some 21) rfl rfl Tryd.func23 (by kernel_rfl) rfl #[.string x, .bool false] rfl (by (try simp only [List.map_toArray, List.map_cons, List.map_nil]); first | done | rfl) ?_; (refine (bd k x false p true _ (by exact aJ hG VA.out.2.2.1) A2.out).mono ?_); rintro e w1 ⟨v1, rfl, hr, hb⟩; have VB := Zz.mk (VA.out.below hb); obtain ⟨A, c, rfl, hA⟩ := cg hr; have HA := Zz.mk (show ip_V6_Row w1 (w.heap.size + 2) A p from bV VA.out.2.2.2 hA); clear hA hr hb; refine ⟨_, rfl, ?_⟩) | ((with_reducible refine ae (f := 23) rfl ?_); refine bc (some 39) rfl rfl Tryd.func23 (by kernel_rfl) rfl #[.string y, .bool true] rfl (by (try simp only [List.map_toArray, List.map_cons, List.map_nil]); first | done | rfl) ?_; (refine (bd k y true q true _ (by exact aJ hG VB.out.2.2.1) A3.out).mono ?_); rintro e w2 ⟨v2, rfl, hr, hb⟩; have VC := Zz.mk (VB.out.below hb); have HB := Zz.mk (HA.out.below hb); obtain ⟨A', c', rfl, hA⟩ := cg hr; have HQ := Zz.mk (show ip_V6_Row w2 (w.heap.size + 2) A' q from bV VB.out.2.2.2 hA); clear hA hr hb; refine ⟨_, rfl, ?_⟩) | (refine Lib.wpList_copy_run _ rfl (.tmp 53) (.tmp 54) 49 49 rfl (.slice (some ⟨w.heap.size + 1, 0, none⟩) 8 8) (.slice A p.length c) ?y1 ?y2 (cV (o := 0) (n := 8) VC.out HB.out ?y3 ?y4) ?_; (case y1 => rfl); (case y2 => rfl); (case y3 => first | rfl | exact cF _ _ _ _ rfl (by omega)); (case y4 => omega); have HQ2 := Zz.mk (HQ.out.setRow (Nat.lt_succ_self (w.heap.size + 1)) (ak (an af 0 p 8))); have VD := Zz.mk (VC.out.copied (l' := (an af 0 p 8))); generalize World.setRow _ _ _ = W2 at VD HQ2 ⊢) | (refine Lib.wpList_copy_run _ rfl (.tmp 59) (.tmp 60) 49 49 rfl (.slice (some ⟨w.heap.size + 1, 0, none⟩) 0 0) (.slice A' q.length c') ?y1 ?y2 (cV (o := 0) (n := 0) VD.out HQ2.out ?y3 ?y4) ?_; (case y1 => rfl); (case y2 => rfl); (case y3 => first | rfl | exact cF _ _ _ _ rfl (by omega)); (case y4 => omega); have VE := Zz.mk (VD.out.copied (l' := (an (an af 0 p 8) 0 q 0))); generalize World.setRow _ _ _ = W3 at VE ⊢) | (refine wpList_load_row rfl 27 (.tmp 4) rfl (w.heap.size + 1) rfl 27 (ak (an (an af 0 p 8) 0 q 0)) (0, 0) _ VE.out.2.1 hu8 rfl (by kernel_rfl) ?_; refine wpList_store_row rfl 27 (.tmp 2) (.tmp 62) rfl w.heap.size (ak (an (an af 0 p 8) 0 q 0)) ?x1 ?x2 27 (ak af) VE.out.1 ?x3 ?x4 ?x5 ?_; (case x1 => rfl); (case x2 => rfl); (case x3 => exact (show (Tryd.prog.info? 27).map (·.size) = some 8 by kernel_rfl)); (case x4 => rfl); (case x5 => exact dG _)))
  refine bodyPost_ret (cf rfl _ _ w.heap.size 27 (ak (an (an af 0 p 8) 0 q 0)) (0, 0) _ rfl (setRow_heap _ _ _ _ _ _ VE.out.1) Tryd.underlying27 rfl (show (Tryd.prog.info? 27).map (·.size) = some 8 by kernel_rfl)) rfl ⟨rfl, bK VE.out.2.2.1 (Nat.le_refl _) _⟩
def cE (k : Nat) (a0 : ByteArray) : Option (Int × Int × Int × Int × Int × Int × Int × Int × Bool) :=
  (bl a0 (⟨#[58, 58]⟩ : ByteArray)).bind fun c => (aU k c.1 (!c.2.2)).bind fun p =>
    if p.2 = false then some (dj af false)
    else if c.2.2 = false then (if p.1.length = 8 then some (dj (an af 0 p.1 8) true) else some (dj af false))
    else (aU k c.2.1 true).bind fun q =>
      if q.2 = false then some (dj af false)
      else if 8 ≤ wrap64 ((p.1.length : Int) + q.1.length) then some (dj af false)
      else if p.1.length + q.1.length < 8 then some (dj (an (an af 0 p.1 8) (8 - q.1.length) q.1 q.1.length) true) else none
theorem f1 : ∀ a0 k, LeO (cE k a0) (cE (k + 1) a0) := by
  intro a0 k
  unfold cE
  exact LeO.bind (LeO.refl _) (fun c => LeO.bind (ge _ _ _) (fun p => LeO.ite (LeO.refl _) (LeO.ite (LeO.refl _) (LeO.bind (ge _ _ _) (fun q => LeO.refl _)))))
theorem dx {l : List Int} {b : Bool} {r1 r2 r3 r4 r5 r6 r7 r8 : Int} {r9 : Bool} (h : dj l b = (r1, r2, r3, r4, r5, r6, r7, r8, r9)) : ak l = #[.int .u16 r1, .int .u16 r2, .int .u16 r3, .int .u16 r4, .int .u16 r5, .int .u16 r6, .int .u16 r7, .int .u16 r8] ∧ b = r9 := by
  unfold dj at h
  simp only [Prod.mk.injEq] at h
  obtain ⟨rfl, rfl, rfl, rfl, rfl, rfl, rfl, rfl, rfl⟩ := h
  exact ⟨rfl, rfl⟩
theorem cr (k : Nat) (a0 : ByteArray) (r1 : Int) (r2 : Int) (r3 : Int) (r4 : Int) (r5 : Int) (r6 : Int) (r7 : Int) (r8 : Int) (r9 : Bool) (w : World) (hG : GW w) (h : cE k a0 = some (r1, r2, r3, r4, r5, r6, r7, r8, r9)) :
    Calls Tryd.prog 9 #[.string a0] w fun e w' => e = .returned (.tuple #[.agg #[.int .u16 r1, .int .u16 r2, .int .u16 r3, .int .u16 r4, .int .u16 r5, .int .u16 r6, .int .u16 r7, .int .u16 r8], .bool r9]) ∧ Below w.heap.size w w' := by
  unfold cE at h
  obtain ⟨⟨x, y, sh⟩, h1, h⟩ := Option.bind_eq_some_iff.1 h
  obtain ⟨⟨p, ok⟩, h2, h⟩ := Option.bind_eq_some_iff.1 h
  simp only at h2 h
  cases ok with
  | false =>
    rw [if_pos rfl] at h
    obtain ⟨e1, e2⟩ := dx (Option.some.inj h)
    rw [← e1, ← e2]
    exact kp k a0 x y sh p [] w hG h1 h2
  | true =>
    rw [if_neg (by simp)] at h
    cases sh with
    | false =>
      rw [if_pos rfl] at h
      by_cases h8 : p.length = 8
      · rw [if_pos h8] at h
        obtain ⟨e1, e2⟩ := dx (Option.some.inj h)
        rw [← e1, ← e2]
        exact i8 k a0 x y false p [] w hG h1 h2 h8
      · rw [if_neg h8] at h
        obtain ⟨e1, e2⟩ := dx (Option.some.inj h)
        rw [← e1, ← e2]
        exact ko k a0 x y false p [] w hG h1 h2 h8
    | true =>
      rw [if_neg (by simp)] at h
      obtain ⟨⟨q, ok2⟩, h3, h⟩ := Option.bind_eq_some_iff.1 h
      simp only at h3 h
      cases ok2 with
      | false =>
        rw [if_pos rfl] at h
        obtain ⟨e1, e2⟩ := dx (Option.some.inj h)
        rw [← e1, ← e2]
        exact kr k a0 x y true p q w hG h1 h2 h3
      | true =>
        rw [if_neg (by simp)] at h
        by_cases hm : 8 ≤ wrap64 ((p.length : Int) + q.length)
        · rw [if_pos hm] at h
          obtain ⟨e1, e2⟩ := dx (Option.some.inj h)
          rw [← e1, ← e2]
          exact i9 k a0 x y true p q w hG h1 h2 h3 hm
        · rw [if_neg hm] at h
          by_cases hl : p.length + q.length < 8
          · rw [if_pos hl] at h
            obtain ⟨e1, e2⟩ := dx (Option.some.inj h)
            rw [← e1, ← e2]
            by_cases h0 : q.length = 0
            · have := iw k a0 x y true p q w hG h1 h2 h3 (by omega) h0
              obtain rfl : q = [] := List.eq_nil_of_length_eq_zero h0
              have e : an (an af 0 p 8) (8 - 0) [] 0 = an (an af 0 p 8) 0 [] 0 := by
                generalize an af 0 p 8 = l
                unfold an
                simp
              simp only [List.length_nil]
              rw [e]
              exact this
            · have := iJ k a0 x y true p q w hG h1 h2 h3 hl (8 - q.length) (by omega) (by omega)
              rw [show 8 - (8 - q.length) = q.length from by omega] at this
              exact this
          · rw [if_neg hl] at h; cases h
def bC : Nat → ByteArray → Int → Int → Int → Option (Int)
  | 0, _, _, _, _ => none
  | k + 1, x0, x1, x7, x8 => if x8 < x7 then (if 0 ≤ x8 then (if x8 < (x0.size : Int) then ((ce k (bt x0 x8) x1).bind fun t142 => (if t142 = true then (bC k x0 x1 x7 (wrap64 (x8 + 1))) else (some x8))) else (none)) else (none)) else (some (x0.size : Int))
def dM (k : Nat) (a0 : ByteArray) (a1 : Int) : Option (Int) := bC k a0 a1 (a0.size : Int) 0
theorem eV : ∀ k, (∀ y0 y1 y2 y3, LeO (bC k y0 y1 y2 y3) (bC (k + 1) y0 y1 y2 y3))
  | 0 => fun _ _ _ _ r h => by simp [bC] at h
  | k + 1 => by
    have ih0 := eV k
    have m0 := @cn
    · intro y0 y1 y2 y3
      unfold bC
      exact xmo
theorem fu : ∀ a0 a1 k, LeO (dM k a0 a1) (dM (k + 1) a0 a1) := by
  intro a0 a1 k
  have ih0 := eV k
  have m0 := @cn
  unfold dM
  exact xmo
theorem gV (k : Nat) (a0 : ByteArray) (a1 : Int) (r : Int) (w : World) (h : dM k a0 a1 = some r) :
    Calls Tryd.prog 27 #[.string a0, .int .i64 a1] w fun e w' => e = .returned (.int .i64 r) ∧ Drawn0 w w' := by
 have H : (bC k a0 a1 (a0.size : Int) 0) = some r := h
 clear h
 have H' := Zz.mk H
 clear H
 go_enter Tryd.func27, Tryd.ntmps27
 go_wp2
 go_loopg [8] k (fun kq v8 w' => ∃ (Aa : Int), v8 = .int .i64 Aa ∧ Zz (bC kq a0 a1 (a0.size : Int) Aa = some r) ∧ Zz (kq ≤ k) ∧ Drawn0 w w')
 case atStart => exact ⟨(0), xrr, H', ⟨Nat.le_refl _⟩, xdr⟩
 case round =>
  clear H'
  obtain ⟨Aa, rfl, HA, HK1, ⟨m1, rfl⟩⟩ := hrel
  cases gk with
  | zero => exact absurd HA.out (by simp [bC])
  | succ k1 =>
   have H := HA.out
   clear HA
   simp only [bC] at H
   by_cases c3 : Aa < (a0.size : Int)
   ·
    rw [if_pos c3] at H
    have Ab := decide_eq_true c3
    clear c3
    by_cases c4 : 0 ≤ Aa
    ·
     rw [if_pos c4] at H
     have Ae := decide_eq_true c4
     clear c4
     by_cases c5 : Aa < (a0.size : Int)
     ·
      rw [if_pos c5] at H
      have Af := decide_eq_true c5
      clear c5
      replace H := Option.bind_eq_some_iff.mp H
      obtain ⟨Ac, A70, H⟩ := H
      try dsimp only at H
      have A7 := Zz.mk A70
      clear A70
      by_cases c8 : Ac = true
      ·
       subst c8
       rw [if_pos rfl] at H
       have H' := Zz.mk H
       clear H
       have p6 : 0 ≤ (Aa : Int) := xod
       have q6 : Aa < (a0.size : Int) := xod
       have hx6 := ax a0 Aa
       replace p6 := eq_true p6
       replace q6 := eq_true q6
       try (have Ad := q6; simp only [ByteArray.size_extract, Nat.min_self] at Ad)
       go_wp2_with (first | ((with_reducible refine ae (f := 40) rfl ?_); refine xgl 15 Tryd.func40 #[.int .u8 (bt a0 Aa), .int .i64 a1] ?_; (with_reducible refine (bS k1 (bt a0 Aa) a1 true _ A7.out).mono ?_); rintro e w' ⟨rfl, ⟨nd, rfl⟩⟩; refine ⟨_, rfl, ?_⟩))
       go_roundg k1
       case measure => have := HK1.out; omega
       case rel => exact ⟨(wrap64 (Aa + 1)), xrr, H', ⟨by have := HK1.out; omega⟩, xdr⟩
      ·
       replace c8 := Bool.eq_false_iff.mpr c8
       subst c8
       rw [if_neg (show ¬ (false = true) by decide)] at H
       obtain rfl := Option.some.inj H
       have p6 : 0 ≤ (Aa : Int) := xod
       have q6 : Aa < (a0.size : Int) := xod
       have hx6 := ax a0 Aa
       replace p6 := eq_true p6
       replace q6 := eq_true q6
       try (have Ad := q6; simp only [ByteArray.size_extract, Nat.min_self] at Ad)
       go_wp2_with (first | ((with_reducible refine ae (f := 40) rfl ?_); refine xgl 15 Tryd.func40 #[.int .u8 (bt a0 Aa), .int .i64 a1] ?_; (with_reducible refine (bS k1 (bt a0 Aa) a1 false _ A7.out).mono ?_); rintro e w' ⟨rfl, ⟨nd, rfl⟩⟩; refine ⟨_, rfl, ?_⟩))
       go_ret
       exact ⟨xrr, xdr⟩
     ·
      rw [if_neg c5] at H
      exact absurd H (by simp)
    ·
     rw [if_neg c4] at H
     exact absurd H (by simp)
   ·
    rw [if_neg c3] at H
    have Ab := decide_eq_false c3
    clear c3
    obtain rfl := Option.some.inj H
    go_wp2
    go_ret
    exact ⟨xrr, xdr⟩
def dv (a0 : Int) : Option (ByteArray × Bool) := if a0 = 1 then (some ((⟨#[58]⟩ : ByteArray), true)) else (if a0 = 2 then (some ((⟨#[]⟩ : ByteArray), true)) else (if a0 = 3 then (some ((⟨#[58, 64]⟩ : ByteArray), true)) else (if a0 = 4 then (some ((⟨#[64]⟩ : ByteArray), true)) else (if a0 = 5 then (some ((⟨#[58, 64, 47]⟩ : ByteArray), true)) else (if a0 = 6 then (some ((⟨#[58, 64, 47, 63]⟩ : ByteArray), true)) else (if a0 = 7 then (some ((⟨#[58, 64, 47, 63]⟩ : ByteArray), true)) else (some ((⟨#[]⟩ : ByteArray), false))))))))
theorem aZ (a0 : Int) (r1 : ByteArray) (r2 : Bool) (w : World) (h : dv a0 = some (r1, r2)) :
    Calls Tryd.prog 44 #[.int .i64 a0] w fun e w' => e = .returned (.tuple #[.string r1, .bool r2]) ∧ Drawn0 w w' := by
 have H : (if a0 = 1 then (some ((⟨#[58]⟩ : ByteArray), true)) else (if a0 = 2 then (some ((⟨#[]⟩ : ByteArray), true)) else (if a0 = 3 then (some ((⟨#[58, 64]⟩ : ByteArray), true)) else (if a0 = 4 then (some ((⟨#[64]⟩ : ByteArray), true)) else (if a0 = 5 then (some ((⟨#[58, 64, 47]⟩ : ByteArray), true)) else (if a0 = 6 then (some ((⟨#[58, 64, 47, 63]⟩ : ByteArray), true)) else (if a0 = 7 then (some ((⟨#[58, 64, 47, 63]⟩ : ByteArray), true)) else (some ((⟨#[]⟩ : ByteArray), false))))))))) = some (r1, r2) := h
 clear h
 by_cases c2 : a0 = 1
 ·
  rw [if_pos c2] at H
  have Aa : (a0 == 1) = true := beq_iff_eq.mpr c2
  have Ab : (a0 != 1) = false := bne_eq_false_iff_eq.mpr c2
  clear c2
  simp only [Option.some.injEq, Prod.mk.injEq] at H
  obtain ⟨rfl, rfl⟩ := H
  go_enter Tryd.func44, Tryd.ntmps44
  go_wp2
  go_ret2
  exact ⟨xrr, xdr⟩
 ·
  rw [if_neg c2] at H
  have Aa : (a0 == 1) = false := beq_eq_false_iff_ne.mpr c2
  have Ab : (a0 != 1) = true := bne_iff_ne.mpr c2
  by_cases c3 : a0 = 2
  ·
   rw [if_pos c3] at H
   have Ac : (a0 == 2) = true := beq_iff_eq.mpr c3
   have Ad : (a0 != 2) = false := bne_eq_false_iff_eq.mpr c3
   clear c3
   simp only [Option.some.injEq, Prod.mk.injEq] at H
   obtain ⟨rfl, rfl⟩ := H
   go_enter Tryd.func44, Tryd.ntmps44
   go_wp2
   go_ret2
   exact ⟨xrr, xdr⟩
  ·
   rw [if_neg c3] at H
   have Ac : (a0 == 2) = false := beq_eq_false_iff_ne.mpr c3
   have Ad : (a0 != 2) = true := bne_iff_ne.mpr c3
   by_cases c4 : a0 = 3
   ·
    rw [if_pos c4] at H
    have Ae : (a0 == 3) = true := beq_iff_eq.mpr c4
    have Af : (a0 != 3) = false := bne_eq_false_iff_eq.mpr c4
    clear c4
    simp only [Option.some.injEq, Prod.mk.injEq] at H
    obtain ⟨rfl, rfl⟩ := H
    go_enter Tryd.func44, Tryd.ntmps44
    go_wp2
    go_ret2
    exact ⟨xrr, xdr⟩
   ·
    rw [if_neg c4] at H
    have Ae : (a0 == 3) = false := beq_eq_false_iff_ne.mpr c4
    have Af : (a0 != 3) = true := bne_iff_ne.mpr c4
    by_cases c5 : a0 = 4
    ·
     rw [if_pos c5] at H
     have Ag : (a0 == 4) = true := beq_iff_eq.mpr c5
     have Ah : (a0 != 4) = false := bne_eq_false_iff_eq.mpr c5
     clear c5
     simp only [Option.some.injEq, Prod.mk.injEq] at H
     obtain ⟨rfl, rfl⟩ := H
     go_enter Tryd.func44, Tryd.ntmps44
     go_wp2
     go_ret2
     exact ⟨xrr, xdr⟩
    ·
     rw [if_neg c5] at H
     have Ag : (a0 == 4) = false := beq_eq_false_iff_ne.mpr c5
     have Ah : (a0 != 4) = true := bne_iff_ne.mpr c5
     by_cases c6 : a0 = 5
     ·
      rw [if_pos c6] at H
      have Ai : (a0 == 5) = true := beq_iff_eq.mpr c6
      have Aj : (a0 != 5) = false := bne_eq_false_iff_eq.mpr c6
      clear c6
      simp only [Option.some.injEq, Prod.mk.injEq] at H
      obtain ⟨rfl, rfl⟩ := H
      go_enter Tryd.func44, Tryd.ntmps44
      go_wp2
      go_ret2
      exact ⟨xrr, xdr⟩
     ·
      rw [if_neg c6] at H
      have Ai : (a0 == 5) = false := beq_eq_false_iff_ne.mpr c6
      have Aj : (a0 != 5) = true := bne_iff_ne.mpr c6
      by_cases c7 : a0 = 6
      ·
       rw [if_pos c7] at H
       have Ak : (a0 == 6) = true := beq_iff_eq.mpr c7
       have Al : (a0 != 6) = false := bne_eq_false_iff_eq.mpr c7
       clear c7
       simp only [Option.some.injEq, Prod.mk.injEq] at H
       obtain ⟨rfl, rfl⟩ := H
       go_enter Tryd.func44, Tryd.ntmps44
       go_wp2
       go_ret2
       exact ⟨xrr, xdr⟩
      ·
       rw [if_neg c7] at H
       have Ak : (a0 == 6) = false := beq_eq_false_iff_ne.mpr c7
       have Al : (a0 != 6) = true := bne_iff_ne.mpr c7
       by_cases c8 : a0 = 7
       ·
        rw [if_pos c8] at H
        have Am : (a0 == 7) = true := beq_iff_eq.mpr c8
        have An : (a0 != 7) = false := bne_eq_false_iff_eq.mpr c8
        clear c8
        simp only [Option.some.injEq, Prod.mk.injEq] at H
        obtain ⟨rfl, rfl⟩ := H
        go_enter Tryd.func44, Tryd.ntmps44
        go_wp2
        go_ret2
        exact ⟨xrr, xdr⟩
       ·
        rw [if_neg c8] at H
        have Am : (a0 == 7) = false := beq_eq_false_iff_ne.mpr c8
        have An : (a0 != 7) = true := bne_iff_ne.mpr c8
        simp only [Option.some.injEq, Prod.mk.injEq] at H
        obtain ⟨rfl, rfl⟩ := H
        go_enter Tryd.func44, Tryd.ntmps44
        go_wp2
        go_ret2
        exact ⟨xrr, xdr⟩
theorem i4 {P : Program} {w : World} {d n i : Nat} {e : TypeId} {xs ys : Array Value} {a b : Value} {r : Bool} (ha : (part e xs (i * n)).run P w = .ok a w) (hb : (part e ys (i * n)).run P w = .ok b w) (he : (Op.equalIn d e a b).run P w = .ok r w) : (Op.eqItems d e n xs ys [i]).run P w = .ok r w := by
  simp only [Op.eqItems, Sem.run_bind, ha, hb, he, Result.andThen_ok]
  cases r <;> simp
theorem dm {P : Program} {w : World} {d n i : Nat} {is : List Nat} {e : TypeId} {xs ys : Array Value} {a b : Value} {r s : Bool} (ha : (part e xs (i * n)).run P w = .ok a w) (hb : (part e ys (i * n)).run P w = .ok b w) (he : (Op.equalIn d e a b).run P w = .ok r w) (hr : (Op.eqItems d e n xs ys is).run P w = .ok s w) : (Op.eqItems d e n xs ys (i :: is)).run P w = .ok (r && s) w := by
  rw [Op.eqItems]
  simp only [Sem.run_bind, ha, hb, he, Result.andThen_ok]
  cases r
  · simp
  · simpa using hr
theorem lT (d : Nat) (w : World) (x0 x1 x2 x3 x4 x5 x6 x7 y0 y1 y2 y3 y4 y5 y6 y7 : Int) :
    (Op.equalIn (d + 2) 27 (.agg #[.int .u16 x0, .int .u16 x1, .int .u16 x2, .int .u16 x3, .int .u16 x4, .int .u16 x5, .int .u16 x6, .int .u16 x7]) (.agg #[.int .u16 y0, .int .u16 y1, .int .u16 y2, .int .u16 y3, .int .u16 y4, .int .u16 y5, .int .u16 y6, .int .u16 y7])).run Tryd.prog w = .ok (x0 == y0 && (x1 == y1 && (x2 == y2 && (x3 == y3 && (x4 == y4 && (x5 == y5 && (x6 == y6 && (x7 == y7)))))))) w := by
  obtain ⟨i, hi⟩ := info_of_underlying (P := Tryd.prog) Tryd.underlying26
  rw [run_equalIn_array (P := Tryd.prog) w (d + 1) _ _ Tryd.underlying27 hi, show Tryd.prog.cellsOf 26 = 1 by kernel_rfl, show List.range 8 = [0, 1, 2, 3, 4, 5, 6, 7] from rfl]
  refine dm (by go_simp; rfl) (by go_simp; rfl) (by go_simp) ?_
  refine dm (by go_simp; rfl) (by go_simp; rfl) (by go_simp) ?_
  refine dm (by go_simp; rfl) (by go_simp; rfl) (by go_simp) ?_
  refine dm (by go_simp; rfl) (by go_simp; rfl) (by go_simp) ?_
  refine dm (by go_simp; rfl) (by go_simp; rfl) (by go_simp) ?_
  refine dm (by go_simp; rfl) (by go_simp; rfl) (by go_simp) ?_
  refine dm (by go_simp; rfl) (by go_simp; rfl) (by go_simp) ?_
  refine i4 (by go_simp; rfl) (by go_simp; rfl) (by go_simp)
end Go.Proofs.YticohlbfolnmpaaDoor.X
