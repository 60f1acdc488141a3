/- Texts that the law's proof needs, joined by a program of this session. -/
import Derived.Test.YticohlbfolnmpaaDoorZIpReads1
import Derived.Test.YticohlbfolnmpaaDoorZIpReads2
namespace Go.Proofs.YticohlbfolnmpaaDoor.X
open Go.RowKit Go.Proofs.YticohlbfolnmpaaDoorW.PrintWords Go.Proofs.YticohlbfolnmpaaDoorW.PrintLast Go.Proofs.YticohlbfolnmpaaDoorW.PrintMore
attribute [local go_sem] max2_int min2_int max_two min_two max_three min_three max_four min_four
set_option linter.unusedVariables false
set_option linter.unusedSimpArgs false
mutual
def ip_words.l0 : Nat → Bool → List Int → List ByteArray → List ByteArray → Int → Int → Option (List Int × Bool)
  | 0, _, _, _, _, _, _ => none
  | k + 1, x1, x6, x7, x18, x19, x20 => if x20 < x19 then (if 0 ≤ x20 then (if x20 < (x18.length : Int) then ((ip_V4.f k (rdOf ByteArray.empty x18 x20)).bind fun bt125 => (if bt125.2.2.2.2 = true then (if x1 = true then (ip_words.j1 k x1 x6 x7 (rdOf ByteArray.empty x18 x20) x18 x19 x20 (x20 == (wrap64 ((x7.length : Int) - 1))) bt125.1 bt125.2.1 bt125.2.2.1 bt125.2.2.2.1) else (ip_words.j1 k x1 x6 x7 (rdOf ByteArray.empty x18 x20) x18 x19 x20 false bt125.1 bt125.2.1 bt125.2.2.1 bt125.2.2.2.1)) else (ip_words.j1 k x1 x6 x7 (rdOf ByteArray.empty x18 x20) x18 x19 x20 false bt125.1 bt125.2.1 bt125.2.2.1 bt125.2.2.2.1))) else (none)) else (none)) else (some (x6, true))
def ip_words.j1 : Nat → Bool → List Int → List ByteArray → ByteArray → List ByteArray → Int → Int → Bool → Int → Int → Int → Int → Option (List Int × Bool)
  | 0, _, _, _, _, _, _, _, _, _, _, _, _ => none
  | k + 1, x1, x6, x7, x9, x18, x19, x20, x40, x131000, x131001, x131002, x131003 => if x40 = true then ((some (([Go.bits .or .u16 (IntKind.u16.wrap ((IntKind.u16.wrap (x131000)) * 256)) (IntKind.u16.wrap (x131001)), Go.bits .or .u16 (IntKind.u16.wrap ((IntKind.u16.wrap (x131002)) * 256)) (IntKind.u16.wrap (x131003))] : List Int) : List Int)).bind fun y131 => (if x6.length + y131.length < 70368744177664 then (some ((x6 ++ y131), true)) else (none))) else ((ip_word.f k x9).bind fun bt137 => (if bt137.2 = true then (if x6.length < 70368744177664 then (ip_words.l0 k x1 (x6 ++ [bt137.1]) x7 x18 x19 (wrap64 (x20 + 1))) else (none)) else (some (([] : List Int), false))))
end
def ip_words.f (k : Nat) (a0 : ByteArray) (a1 : Bool) : Option (List Int × Bool) := if a0.toList = ([] : List UInt8) then (some (([] : List Int), true)) else ((strings_Split.f a0 (⟨#[58]⟩ : ByteArray)).bind fun t121 => (ip_words.l0 k a1 ([] : List Int) t121 t121 (t121.length : Int) 0))
theorem ip_words.mono_l : ∀ k, (∀ y0 y1 y2 y3 y4 y5, LeO (ip_words.l0 k y0 y1 y2 y3 y4 y5) (ip_words.l0 (k + 1) y0 y1 y2 y3 y4 y5)) ∧ (∀ y0 y1 y2 y3 y4 y5 y6 y7 y8 y9 y10 y11, LeO (ip_words.j1 k y0 y1 y2 y3 y4 y5 y6 y7 y8 y9 y10 y11) (ip_words.j1 (k + 1) y0 y1 y2 y3 y4 y5 y6 y7 y8 y9 y10 y11))
  | 0 => ⟨fun _ _ _ _ _ _ r h => by simp [ip_words.l0] at h, fun _ _ _ _ _ _ _ _ _ _ _ _ r h => by simp [ip_words.j1] at h⟩
  | k + 1 => by
    obtain ⟨ih0, ih1⟩ := ip_words.mono_l k
    have m0 := @ip_V4.mono; have m1 := @ip_word.mono
    refine ⟨?_, ?_⟩
    · intro y0 y1 y2 y3 y4 y5
      unfold ip_words.l0
      exact xmo
    · intro y0 y1 y2 y3 y4 y5 y6 y7 y8 y9 y10 y11
      unfold ip_words.j1
      exact xmo
theorem ip_words.mono : ∀ a0 a1 k, LeO (ip_words.f k a0 a1) (ip_words.f (k + 1) a0 a1) := by
  intro a0 a1 k
  obtain ⟨ih0, ih1⟩ := ip_words.mono_l k
  have m0 := @ip_V4.mono; have m1 := @ip_word.mono
  unfold ip_words.f
  exact xmo
set_option maxHeartbeats 8000000 in
set_option maxRecDepth 100000 in
theorem ip_words.calls (k : Nat) (a0 : ByteArray) (a1 : Bool) (r1 : List Int) (r2 : Bool) (w : World) (hG : GW w) (h : ip_words.f k a0 a1 = some (r1, r2)) :
    Calls Tryd.prog 23 #[.string a0, .bool a1] w fun e w' => ∃ v0_ : Value, e = .returned (.tuple #[v0_, .bool r2]) ∧ Kd.R (Kd.int .u16) 26 w' w.heap.size (fun _ => True) v0_ r1 ∧ Below w.heap.size w w' := by
 have hu23 := Tryd.underlying23
 have HB := Aside0.mk (Below.refl w.heap.size w)
 have H : (if a0.toList = ([] : List UInt8) then (some (([] : List Int), true)) else ((strings_Split.f a0 (⟨#[58]⟩ : ByteArray)).bind fun t121 => (ip_words.l0 k a1 ([] : List Int) t121 t121 (t121.length : Int) 0))) = some (r1, r2) := h
 clear h
 by_cases c3 : a0.toList = ([] : List UInt8)
 ·
  rw [if_pos c3] at H
  have c3b0 : (a0.toList == ([] : List UInt8)) = true := beq_iff_eq.mpr c3
  have c3b1 : (a0.toList != ([] : List UInt8)) = false := bne_eq_false_iff_eq.mpr c3
  clear c3
  simp only [Option.some.injEq, Prod.mk.injEq] at H
  obtain ⟨rfl, rfl⟩ := H
  go_enter Tryd.func23, Tryd.ntmps23
  go_wp2
  go_ret2
  exact ⟨_, by first | rfl | (simp [errW_none, errW_some] <;> first | rfl | (simp only [xp_isEmpty, bne, Bool.not_not]; done)) | (simp [*, errW_none, errW_some] <;> rfl), by first | exact Kd.R_nil _ _ _ _ _ | exact Kd.N_nil _ _ _ _ _ | exact Kd.V_nil _ _ _ _ _ | exact Kd.Q_nil _ _ _ _ _ | exact Kd.S_nil _ _ _ _ _, xbl⟩
 ·
  rw [if_neg c3] at H
  have c3b0 : (a0.toList == ([] : List UInt8)) = false := beq_eq_false_iff_ne.mpr c3
  have c3b1 : (a0.toList != ([] : List UInt8)) = true := bne_iff_ne.mpr c3
  replace H := Option.bind_eq_some_iff.mp H
  obtain ⟨t121, A40, H⟩ := H
  try dsimp only at H
  have A4 := Aside0.mk A40
  clear A40
  have H' := Aside0.mk H
  clear H
  go_enter Tryd.func23, Tryd.ntmps23
  go_wp2_with (first | ((with_reducible refine gate_callee (f := 20) rfl ?_); refine xgl 17 Tryd.func20 #[.string a0, .string (⟨#[58]⟩ : ByteArray)] ?_; (with_reducible refine (strings_Split.calls a0 (⟨#[58]⟩ : ByteArray) t121 _ ?side1 A4.out).mono ?_); (case side1 => first | (with_reducible exact hG) | exact GW_to hG xbl); rintro e w5 ⟨v122, rfl, ho0, hb⟩; refine ⟨_, rfl, ?_⟩; have HO123 := Aside0.mk (Kd.R_lower ho0 (below_size xbl)); replace HB := xst hb; (try clear hb); (try clear ho0); obtain ⟨Ao6, co6, eo6⟩ := Kd.R_slice HO123.out; subst eo6))
  go_loopg [6, 20] k (fun kq v6 v20 w' => ∃ (x6_1 : List Int) (x20_1 : Int), v20 = .int .i64 x20_1 ∧ Aside0 (ip_words.l0 kq a1 x6_1 t121 t121 (t121.length : Int) x20_1 = some (r1, r2)) ∧ Aside0 (kq ≤ k) ∧ Aside0 (Kd.R (Kd.int .u16) 26 w' w.heap.size (fun _ => True) v6 x6_1) ∧ Aside0 (Kd.R Kd.string 9 w' w.heap.size (fun _ => True) (.slice Ao6 t121.length co6) t121) ∧ Aside0 (Kd.R Kd.string 9 w' w.heap.size (fun _ => True) (.slice Ao6 t121.length co6) t121) ∧ Aside0 (Below w.heap.size w w'))
  case atStart => exact ⟨(([] : List Int)), (0), xrr, H', ⟨Nat.le_refl _⟩, ⟨by first | exact Kd.R_nil _ _ _ _ _ | exact Kd.N_nil _ _ _ _ _ | exact Kd.V_nil _ _ _ _ _ | exact Kd.Q_nil _ _ _ _ _ | exact Kd.S_nil _ _ _ _ _⟩, ⟨xkd HO123⟩, ⟨xkd HO123⟩, ⟨xbl⟩⟩
  case round =>
   clear H'
   clear c3b0 c3b1
   obtain ⟨x6_1, x20_1, rfl, HA, HK1, HO_6, HO_7, HO_18, HB⟩ := hrel
   cases gk with
   | zero => exact absurd HA.out (by simp [ip_words.l0])
   | succ k1 =>
    have H := HA.out
    clear HA
    simp only [ip_words.l0] at H
    by_cases c7 : x20_1 < (t121.length : Int)
    ·
     rw [if_pos c7] at H
     have c7b0 := decide_eq_true c7
     clear c7
     by_cases c8 : 0 ≤ x20_1
     ·
      rw [if_pos c8] at H
      have c8b0 := decide_eq_true c8
      clear c8
      by_cases c9 : x20_1 < (t121.length : Int)
      ·
       rw [if_pos c9] at H
       have c9b0 := decide_eq_true c9
       clear c9
       replace H := Option.bind_eq_some_iff.mp H
       obtain ⟨⟨t125, t126, t127, t128, t129⟩, A100, H⟩ := H
       try dsimp only at H
       have A10 := Aside0.mk A100
       clear A100
       have HC11 := Aside0.mk H
       clear H
       have p124 : 0 ≤ (x20_1 : Int) := xod
       have q124 : x20_1 < (t121.length : Int) := xod
       obtain ⟨ad124, e124, hx124_0⟩ := Kd.at_string (Kd.R_reads' HO_18.out).2.2 x20_1 p124 q124
       cases e124
       replace p124 := eq_true p124
       replace q124 := eq_true q124
       try (have q124x := q124; simp only [ByteArray.size_extract, Nat.min_self] at q124x)
       go_upto_region 9 with (first | ((with_reducible refine gate_callee (f := 8) rfl ?_); refine xgl 27 Tryd.func8 #[.string (rdOf ByteArray.empty t121 x20_1)] ?_; (with_reducible refine (ip_V4.calls k1 (rdOf ByteArray.empty t121 x20_1) t125 t126 t127 t128 t129 _ ?side1 A10.out).mono ?_); (case side1 => first | (with_reducible exact hG) | exact GW_to hG xbl); rintro e w12 ⟨rfl, hb⟩; refine ⟨_, rfl, ?_⟩; replace HO_6 := Aside0.mk (Kd.R_below (xkd HO_6) hb); replace HO_7 := Aside0.mk (Kd.R_below (xkd HO_7) hb); replace HO_18 := Aside0.mk (Kd.R_below (xkd HO_18) hb); replace HB := xst hb; (try clear hb)) | ((with_reducible refine gate_dst (N := 10) rfl ?_); (try (refine gate_guard (by rfl) ?_; dsimp only)); refine xev 10 #[.int .u8 0, .int .u8 0, .int .u8 0, .int .u8 0] 23 ?_; intro gb130 hg w13 hbox hb; have BK130 := Aside0.mk (hbox); have GW130 := xsz hg; have GE130 := GW130; replace HO_6 := Aside0.mk (Kd.R_below (xkd HO_6) hb); replace HO_7 := Aside0.mk (Kd.R_below (xkd HO_7) hb); replace HO_18 := Aside0.mk (Kd.R_below (xkd HO_18) hb); replace HB := xst hb; clear hb hbox hg; obtain ⟨hcz14_0, hcz14_1, hcz14_2, hcz14_3⟩ := xc4 BK130; have hfz14_0 := xf BK130 0; have hfz14_1 := xf BK130 1; have hfz14_2 := xf BK130 2; have hfz14_3 := xf BK130 3))
       (try simp only [Act.put, List.setIfInBounds_toArray, List.set_cons_zero, List.set_cons_succ])
       go_cut [40] (fun v40 wc => ∃ (kq : Nat) (x40_10 : Bool), v40 = .bool x40_10 ∧ Aside0 (ip_words.j1 kq a1 x6_1 t121 (rdOf ByteArray.empty t121 x20_1) t121 (t121.length : Int) x20_1 x40_10 t125 t126 t127 t128 = some (r1, r2)) ∧ Aside0 (kq ≤ k1) ∧ Aside0 (Kd.R (Kd.int .u16) 26 wc w.heap.size (fun _ => True) u6 x6_1) ∧ Aside0 (Kd.R Kd.string 9 wc w.heap.size (fun _ => True) (.slice (some ad124) t121.length co6) t121) ∧ Aside0 (Kd.R Kd.string 9 wc w.heap.size (fun _ => True) (.slice (some ad124) t121.length co6) t121) ∧ Aside0 (wc.heap[gb130]? = some (.cells #[.int .u8 t125, .int .u8 t126, .int .u8 t127, .int .u8 t128] 23 (0, 0))) ∧ Aside0 (Below w.heap.size w wc))
       case first =>
        have H := HC11.out
        clear HC11
        by_cases c15 : t129 = true
        ·
         subst c15
         rw [if_pos rfl] at H
         by_cases c16 : a1 = true
         ·
          subst c16
          rw [if_pos rfl] at H
          have H' := Aside0.mk H
          clear H
          go_wp2
          go_meet
          case rel => exact ⟨_, ((x20_1 == (wrap64 ((t121.length : Int) - 1)))), xrr, H', ⟨by have := HK1.out; first | omega | exact Nat.le_refl _⟩, ⟨by (with_reducible repeat (first | apply Kd.R_alloc | apply Kd.R_drewN | apply Kd.R_drew)); exact Kd.R_mono (Kd.R_far (p := ⟨gb130, 3, none⟩) (Kd.R_far (p := ⟨gb130, 2, none⟩) (Kd.R_far (p := ⟨gb130, 1, none⟩) (Kd.R_far (p := ⟨gb130, 0, none⟩) (Kd.R_types HO_6.out BK130.out (by decide)) (fun _ hk => hk.2) (.int .u8 t125)) (fun _ hk => hk.2) (.int .u8 t126)) (fun _ hk => hk.2) (.int .u8 t127)) (fun _ hk => hk.2) (.int .u8 t128)) (fun _ hk => trivial)⟩, ⟨by (with_reducible repeat (first | apply Kd.R_alloc | apply Kd.R_drewN | apply Kd.R_drew)); exact Kd.R_mono (Kd.R_far (p := ⟨gb130, 3, none⟩) (Kd.R_far (p := ⟨gb130, 2, none⟩) (Kd.R_far (p := ⟨gb130, 1, none⟩) (Kd.R_far (p := ⟨gb130, 0, none⟩) (Kd.R_types HO_7.out BK130.out (by decide)) (fun _ hk => hk.2) (.int .u8 t125)) (fun _ hk => hk.2) (.int .u8 t126)) (fun _ hk => hk.2) (.int .u8 t127)) (fun _ hk => hk.2) (.int .u8 t128)) (fun _ hk => trivial)⟩, ⟨by (with_reducible repeat (first | apply Kd.R_alloc | apply Kd.R_drewN | apply Kd.R_drew)); exact Kd.R_mono (Kd.R_far (p := ⟨gb130, 3, none⟩) (Kd.R_far (p := ⟨gb130, 2, none⟩) (Kd.R_far (p := ⟨gb130, 1, none⟩) (Kd.R_far (p := ⟨gb130, 0, none⟩) (Kd.R_types HO_18.out BK130.out (by decide)) (fun _ hk => hk.2) (.int .u8 t125)) (fun _ hk => hk.2) (.int .u8 t126)) (fun _ hk => hk.2) (.int .u8 t127)) (fun _ hk => hk.2) (.int .u8 t128)) (fun _ hk => trivial)⟩, ⟨by (with_reducible repeat (first | refine blk_drewN ?_ _ | refine blk_drew ?_ | refine blk_alloc ?_ _)); refine blk_put (cs := #[.int .u8 t125, .int .u8 t126, .int .u8 t127, .int .u8 0]) ?_ 3 _ rfl; (with_reducible repeat (first | refine blk_drewN ?_ _ | refine blk_drew ?_ | refine blk_alloc ?_ _)); refine blk_put (cs := #[.int .u8 t125, .int .u8 t126, .int .u8 0, .int .u8 0]) ?_ 2 _ rfl; (with_reducible repeat (first | refine blk_drewN ?_ _ | refine blk_drew ?_ | refine blk_alloc ?_ _)); refine blk_put (cs := #[.int .u8 t125, .int .u8 0, .int .u8 0, .int .u8 0]) ?_ 1 _ rfl; (with_reducible repeat (first | refine blk_drewN ?_ _ | refine blk_drew ?_ | refine blk_alloc ?_ _)); refine blk_put (cs := #[.int .u8 0, .int .u8 0, .int .u8 0, .int .u8 0]) ?_ 0 _ rfl; (with_reducible repeat (first | refine blk_drewN ?_ _ | refine blk_drew ?_ | refine blk_alloc ?_ _)); exact BK130.out⟩, ⟨xbl⟩⟩
         ·
          replace c16 := Bool.eq_false_iff.mpr c16
          subst c16
          rw [if_neg (show ¬ (false = true) by decide)] at H
          have H' := Aside0.mk H
          clear H
          go_wp2
          go_meet
          case rel => exact ⟨_, (false), xrr, H', ⟨by have := HK1.out; first | omega | exact Nat.le_refl _⟩, ⟨by (with_reducible repeat (first | apply Kd.R_alloc | apply Kd.R_drewN | apply Kd.R_drew)); exact Kd.R_mono (Kd.R_far (p := ⟨gb130, 3, none⟩) (Kd.R_far (p := ⟨gb130, 2, none⟩) (Kd.R_far (p := ⟨gb130, 1, none⟩) (Kd.R_far (p := ⟨gb130, 0, none⟩) (Kd.R_types HO_6.out BK130.out (by decide)) (fun _ hk => hk.2) (.int .u8 t125)) (fun _ hk => hk.2) (.int .u8 t126)) (fun _ hk => hk.2) (.int .u8 t127)) (fun _ hk => hk.2) (.int .u8 t128)) (fun _ hk => trivial)⟩, ⟨by (with_reducible repeat (first | apply Kd.R_alloc | apply Kd.R_drewN | apply Kd.R_drew)); exact Kd.R_mono (Kd.R_far (p := ⟨gb130, 3, none⟩) (Kd.R_far (p := ⟨gb130, 2, none⟩) (Kd.R_far (p := ⟨gb130, 1, none⟩) (Kd.R_far (p := ⟨gb130, 0, none⟩) (Kd.R_types HO_7.out BK130.out (by decide)) (fun _ hk => hk.2) (.int .u8 t125)) (fun _ hk => hk.2) (.int .u8 t126)) (fun _ hk => hk.2) (.int .u8 t127)) (fun _ hk => hk.2) (.int .u8 t128)) (fun _ hk => trivial)⟩, ⟨by (with_reducible repeat (first | apply Kd.R_alloc | apply Kd.R_drewN | apply Kd.R_drew)); exact Kd.R_mono (Kd.R_far (p := ⟨gb130, 3, none⟩) (Kd.R_far (p := ⟨gb130, 2, none⟩) (Kd.R_far (p := ⟨gb130, 1, none⟩) (Kd.R_far (p := ⟨gb130, 0, none⟩) (Kd.R_types HO_18.out BK130.out (by decide)) (fun _ hk => hk.2) (.int .u8 t125)) (fun _ hk => hk.2) (.int .u8 t126)) (fun _ hk => hk.2) (.int .u8 t127)) (fun _ hk => hk.2) (.int .u8 t128)) (fun _ hk => trivial)⟩, ⟨by (with_reducible repeat (first | refine blk_drewN ?_ _ | refine blk_drew ?_ | refine blk_alloc ?_ _)); refine blk_put (cs := #[.int .u8 t125, .int .u8 t126, .int .u8 t127, .int .u8 0]) ?_ 3 _ rfl; (with_reducible repeat (first | refine blk_drewN ?_ _ | refine blk_drew ?_ | refine blk_alloc ?_ _)); refine blk_put (cs := #[.int .u8 t125, .int .u8 t126, .int .u8 0, .int .u8 0]) ?_ 2 _ rfl; (with_reducible repeat (first | refine blk_drewN ?_ _ | refine blk_drew ?_ | refine blk_alloc ?_ _)); refine blk_put (cs := #[.int .u8 t125, .int .u8 0, .int .u8 0, .int .u8 0]) ?_ 1 _ rfl; (with_reducible repeat (first | refine blk_drewN ?_ _ | refine blk_drew ?_ | refine blk_alloc ?_ _)); refine blk_put (cs := #[.int .u8 0, .int .u8 0, .int .u8 0, .int .u8 0]) ?_ 0 _ rfl; (with_reducible repeat (first | refine blk_drewN ?_ _ | refine blk_drew ?_ | refine blk_alloc ?_ _)); exact BK130.out⟩, ⟨xbl⟩⟩
        ·
         replace c15 := Bool.eq_false_iff.mpr c15
         subst c15
         rw [if_neg (show ¬ (false = true) by decide)] at H
         have H' := Aside0.mk H
         clear H
         go_wp2
         go_meet
         case rel => exact ⟨_, (false), xrr, H', ⟨by have := HK1.out; first | omega | exact Nat.le_refl _⟩, ⟨by (with_reducible repeat (first | apply Kd.R_alloc | apply Kd.R_drewN | apply Kd.R_drew)); exact Kd.R_mono (Kd.R_far (p := ⟨gb130, 3, none⟩) (Kd.R_far (p := ⟨gb130, 2, none⟩) (Kd.R_far (p := ⟨gb130, 1, none⟩) (Kd.R_far (p := ⟨gb130, 0, none⟩) (Kd.R_types HO_6.out BK130.out (by decide)) (fun _ hk => hk.2) (.int .u8 t125)) (fun _ hk => hk.2) (.int .u8 t126)) (fun _ hk => hk.2) (.int .u8 t127)) (fun _ hk => hk.2) (.int .u8 t128)) (fun _ hk => trivial)⟩, ⟨by (with_reducible repeat (first | apply Kd.R_alloc | apply Kd.R_drewN | apply Kd.R_drew)); exact Kd.R_mono (Kd.R_far (p := ⟨gb130, 3, none⟩) (Kd.R_far (p := ⟨gb130, 2, none⟩) (Kd.R_far (p := ⟨gb130, 1, none⟩) (Kd.R_far (p := ⟨gb130, 0, none⟩) (Kd.R_types HO_7.out BK130.out (by decide)) (fun _ hk => hk.2) (.int .u8 t125)) (fun _ hk => hk.2) (.int .u8 t126)) (fun _ hk => hk.2) (.int .u8 t127)) (fun _ hk => hk.2) (.int .u8 t128)) (fun _ hk => trivial)⟩, ⟨by (with_reducible repeat (first | apply Kd.R_alloc | apply Kd.R_drewN | apply Kd.R_drew)); exact Kd.R_mono (Kd.R_far (p := ⟨gb130, 3, none⟩) (Kd.R_far (p := ⟨gb130, 2, none⟩) (Kd.R_far (p := ⟨gb130, 1, none⟩) (Kd.R_far (p := ⟨gb130, 0, none⟩) (Kd.R_types HO_18.out BK130.out (by decide)) (fun _ hk => hk.2) (.int .u8 t125)) (fun _ hk => hk.2) (.int .u8 t126)) (fun _ hk => hk.2) (.int .u8 t127)) (fun _ hk => hk.2) (.int .u8 t128)) (fun _ hk => trivial)⟩, ⟨by (with_reducible repeat (first | refine blk_drewN ?_ _ | refine blk_drew ?_ | refine blk_alloc ?_ _)); refine blk_put (cs := #[.int .u8 t125, .int .u8 t126, .int .u8 t127, .int .u8 0]) ?_ 3 _ rfl; (with_reducible repeat (first | refine blk_drewN ?_ _ | refine blk_drew ?_ | refine blk_alloc ?_ _)); refine blk_put (cs := #[.int .u8 t125, .int .u8 t126, .int .u8 0, .int .u8 0]) ?_ 2 _ rfl; (with_reducible repeat (first | refine blk_drewN ?_ _ | refine blk_drew ?_ | refine blk_alloc ?_ _)); refine blk_put (cs := #[.int .u8 t125, .int .u8 0, .int .u8 0, .int .u8 0]) ?_ 1 _ rfl; (with_reducible repeat (first | refine blk_drewN ?_ _ | refine blk_drew ?_ | refine blk_alloc ?_ _)); refine blk_put (cs := #[.int .u8 0, .int .u8 0, .int .u8 0, .int .u8 0]) ?_ 0 _ rfl; (with_reducible repeat (first | refine blk_drewN ?_ _ | refine blk_drew ?_ | refine blk_alloc ?_ _)); exact BK130.out⟩, ⟨xbl⟩⟩
       case rest =>
        clear HC11
        clear c7b0 c8b0 c9b0 p124 q124
        try clear hx124_0
        obtain ⟨kq, x40_10, rfl, HA, HJ10, HO_6, HO_7, HO_18, BK130, HB⟩ := hcut
        cases kq with
        | zero => exact absurd HA.out (by simp [ip_words.j1])
        | succ kj10 =>
         have H := HA.out
         clear HA
         simp only [ip_words.j1] at H
         by_cases c17 : x40_10 = true
         ·
          subst c17
          rw [if_pos rfl] at H
          obtain ⟨y131, hy131⟩ : ∃ y_ : List Int, y_ = (([Go.bits .or .u16 (IntKind.u16.wrap ((IntKind.u16.wrap (t125)) * 256)) (IntKind.u16.wrap (t126)), Go.bits .or .u16 (IntKind.u16.wrap ((IntKind.u16.wrap (t127)) * 256)) (IntKind.u16.wrap (t128))] : List Int)) := ⟨_, rfl⟩
          replace H : (if x6_1.length + y131.length < 70368744177664 then (some ((x6_1 ++ y131), true)) else (none)) = some (r1, r2) := by first | (rw [hy131]; with_reducible exact H) | (have H2_ := (Option.bind_some _ _).symm.trans H; rw [hy131]; with_reducible exact H2_) | (have H2_ := (Option.bind_some _ _).symm.trans H; with_reducible exact H2_) | with_reducible exact H | (rw [hy131]; exact H) | exact H
          have Ny131 := Aside0.mk hy131
          clear hy131
          by_cases c18 : x6_1.length + y131.length < 70368744177664
          ·
           rw [if_pos c18] at H
           have LMc18 := Aside0.mk c18
           clear c18
           obtain ⟨y134, hy134⟩ : ∃ y_ : List Int, y_ = (x6_1 ++ y131) := ⟨_, rfl⟩
           replace H : (some (y134, true)) = some (r1, r2) := by first | (rw [hy134]; with_reducible exact H) | (have H2_ := (Option.bind_some _ _).symm.trans H; rw [hy134]; with_reducible exact H2_) | (have H2_ := (Option.bind_some _ _).symm.trans H; with_reducible exact H2_) | with_reducible exact H | (rw [hy134]; exact H) | exact H
           have Ny134 := Aside0.mk hy134
           clear hy134
           simp only [Option.some.injEq, Prod.mk.injEq] at H
           obtain ⟨rfl, rfl⟩ := H
           obtain ⟨hcz19_0, hcz19_1, hcz19_2, hcz19_3⟩ := xc4 BK130
           have hfz19_0 := xf BK130 0
           have hfz19_1 := xf BK130 1
           have hfz19_2 := xf BK130 2
           have hfz19_3 := xf BK130 3
           go_wp2_with (first | ((with_reducible refine gate_dst (N := 58) rfl ?_); (try (refine gate_guard (by rfl) ?_; dsimp only)); refine Kd.R_lit (Kd.int .u16) _ 26 ?hg (N := 58) ?hd (xs := ([Go.bits .or .u16 (IntKind.u16.wrap ((IntKind.u16.wrap (t125)) * 256)) (IntKind.u16.wrap (t126)), Go.bits .or .u16 (IntKind.u16.wrap ((IntKind.u16.wrap (t127)) * 256)) (IntKind.u16.wrap (t128))] : List Int)) (inner := [.int .u16 (Go.bits .or .u16 (IntKind.u16.wrap ((IntKind.u16.wrap (t125)) * 256)) (IntKind.u16.wrap (t126))), .int .u16 (Go.bits .or .u16 (IntKind.u16.wrap ((IntKind.u16.wrap (t127)) * 256)) (IntKind.u16.wrap (t128)))]) (ok := fun _ => True) (okp := fun _ => True) ?hr ?hp (fun _ hk => hk) trivial (Below.refl _ _) (Nat.le_refl _) (by simp) ?_; (case hd => rfl); (case hg => rfl); (case hr => first | (go_simp; done) | (go_simp; rfl)); (case hp => exact (Reps.one (show Kd.M (Kd.int .u16) _ _ _ (Go.bits .or .u16 (IntKind.u16.wrap ((IntKind.u16.wrap (t125)) * 256)) (IntKind.u16.wrap (t126))) [.int .u16 (Go.bits .or .u16 (IntKind.u16.wrap ((IntKind.u16.wrap (t125)) * 256)) (IntKind.u16.wrap (t126)))] from rfl) (Reps.one (show Kd.M (Kd.int .u16) _ _ _ (Go.bits .or .u16 (IntKind.u16.wrap ((IntKind.u16.wrap (t127)) * 256)) (IntKind.u16.wrap (t128))) [.int .u16 (Go.bits .or .u16 (IntKind.u16.wrap ((IntKind.u16.wrap (t127)) * 256)) (IntKind.u16.wrap (t128)))] from rfl) (Reps.none _ _)))); intro v132 w20 ho21 hb hg_ hnew_; clear hg_ hnew_; (first | rw [← Ny131.out] at ho21 | (simp only [Int.reduceToNat] at ho21; rw [← Ny131.out] at ho21)); have HO133 := Aside0.mk (Kd.R_lower (Kd.R_new' ho21 (Kd.R_lt (xkd HO_6))) (below_size xbl)); replace HO_6 := Aside0.mk (Kd.R_elder' (xkd HO_6) (Kd.R_base ho21) hb); replace HO_7 := Aside0.mk (Kd.R_below (xkd HO_7) hb); replace HO_18 := Aside0.mk (Kd.R_below (xkd HO_18) hb); replace BK130 := xbb (g := gb130) (o := .cells #[.int .u8 t125, .int .u8 t126, .int .u8 t127, .int .u8 t128] 23 (0, 0)) hb; replace HB := xst hb; clear hb ho21; obtain ⟨Ao23, co23, eo23⟩ := Kd.R_slice HO133.out; subst eo23) | ((with_reducible refine gate_builtin (b := .append) (xs := #[.tmp 41, .tmp 58]) rfl ?_); (try (refine gate_guard (by rfl) ?_; dsimp only)); at_builtin; refine Kd.R_append_rows (Kd.int .u16) (w0 := w) w.heap.size rfl (.tmp 41) (.tmp 58) 49 26 (.int .u16 0) 2 rfl Tryd.underlying49 info26 rfl (by decide) (by omega) u6 x6_1 y131 _ _ _ (fun k_ => some k_ ≠ (.slice Ao23 y131.length co23 : Value).ownBlock) (fun _ => False) rfl rfl ?aO ?aR (fun _ _ h => h) (fun _ h => h.elim) ?aF ?aB ?aS ?aL ?_; (case aR => repeat (first | exact (Kd.R_reads' HO133.out).2.2 | (with_reducible refine Kd.C_alloc ?_ _) | (with_reducible refine Kd.C_drewN ?_ _) | (with_reducible refine Kd.C_drew ?_))); (case aB => exact xbl); (case aF => exact (fun k_ hk => Kd.fresh' (Kd.R_lt (xkd HO133)) k_ hk)); (case aO => exact (by (with_reducible repeat (first | apply Kd.R_alloc | apply Kd.R_drewN | apply Kd.R_drew)); exact Kd.R_mono HO_6.out (fun _ hk => hk.2))); (case aS => exact (below_size xbl)); (case aL => have := LMc18.out; omega); intro v135 w22 ho hb hg hat; rw [← Ny134.out] at ho; have n0_ := Aside0.mk (Kd.R_over' (xkd HO_7) (Kd.R_typed (xkd HO_6)) (by decide) hg); have n1_ := Aside0.mk (Kd.R_over' (xkd HO_18) (Kd.R_typed (xkd HO_6)) (by decide) hg); have n2_ := Aside0.mk (blk_grown (g := gb130) (o := .cells #[.int .u8 t125, .int .u8 t126, .int .u8 t127, .int .u8 t128] 23 (0, 0)) xbk hg (Kd.R_ne HO_6.out BK130.out (by decide))); have n3_ := Aside0.mk (Kd.R_after (ok := (fun _ => True)) (xkd HO133) hg hat); have n4_ := Aside0.mk (hb); have n5_ := Aside0.mk (ho); clear HO_7; clear HO_18; clear BK130; clear HO133; clear HB; clear HO_6; have HO_7 := n0_; have HO_18 := n1_; have BK130 := n2_; have HO133 := n3_; have HB := n4_; have HO136 := n5_; clear n0_ n1_ n2_ n3_ n4_ n5_; clear ho hb hg hat))
           go_ret2
           exact ⟨_, by first | rfl | (simp [errW_none, errW_some] <;> first | rfl | (simp only [xp_isEmpty, bne, Bool.not_not]; done)) | (simp [*, errW_none, errW_some] <;> rfl), by (with_reducible repeat (first | apply Kd.R_alloc | apply Kd.R_drewN | apply Kd.R_drew)); exact Kd.R_mono HO136.out (fun _ hk => trivial), xbl⟩
          ·
           rw [if_neg c18] at H
           exact absurd H (by simp)
         ·
          replace c17 := Bool.eq_false_iff.mpr c17
          subst c17
          rw [if_neg (show ¬ (false = true) by decide)] at H
          replace H := Option.bind_eq_some_iff.mp H
          obtain ⟨⟨t137, t138⟩, A240, H⟩ := H
          try dsimp only at H
          have A24 := Aside0.mk A240
          clear A240
          by_cases c25 : t138 = true
          ·
           subst c25
           rw [if_pos rfl] at H
           by_cases c26 : x6_1.length < 70368744177664
           ·
            rw [if_pos c26] at H
            have LMc26 := Aside0.mk c26
            clear c26
            obtain ⟨y139, hy139⟩ : ∃ y_ : List Int, y_ = (x6_1 ++ [t137]) := ⟨_, rfl⟩
            replace H : (ip_words.l0 kj10 a1 y139 t121 t121 (t121.length : Int) (wrap64 (x20_1 + 1))) = some (r1, r2) := by first | (rw [hy139]; with_reducible exact H) | (have H2_ := (Option.bind_some _ _).symm.trans H; rw [hy139]; with_reducible exact H2_) | (have H2_ := (Option.bind_some _ _).symm.trans H; with_reducible exact H2_) | with_reducible exact H | (rw [hy139]; exact H) | exact H
            have Ny139 := Aside0.mk hy139
            clear hy139
            have H' := Aside0.mk H
            clear H
            go_wp2_with (first | ((with_reducible refine gate_callee (f := 42) rfl ?_); refine xgl 62 Tryd.func42 #[.string (rdOf ByteArray.empty t121 x20_1)] ?_; (with_reducible refine (ip_word.calls kj10 (rdOf ByteArray.empty t121 x20_1) t137 true _ A24.out).mono ?_); rintro e w' ⟨rfl, ⟨nd, rfl⟩⟩; refine ⟨_, rfl, ?_⟩) | ((with_reducible refine gate_builtin (b := .append) (xs := #[.tmp 67, .tmp 69]) rfl ?_); (try (refine gate_guard (by rfl) ?_; dsimp only)); at_builtin; refine Kd.R_append (Kd.int .u16) (w0 := w) w.heap.size rfl (.tmp 67) (.tmp 69) 49 26 (.int .u16 0) 2 rfl Tryd.underlying49 info26 rfl (by decide) (by omega) u6 x6_1 t137 [.int .u16 t137] (fun _ => True) (fun _ => False) rfl rfl ?aP (fun _ hk => hk.elim) ?aF ?aO ?aB ?aS ?aL ?_; (case aP => exact rfl); (case aB => exact xbl); (case aF => exact (fun _ _ => trivial)); (case aO => exact (xkd HO_6)); (case aS => exact (below_size xbl)); (case aL => have := LMc26.out; omega); intro v140 w27 ho hb hg hat; rw [← Ny139.out] at ho; have n0_ := Aside0.mk (Kd.R_over' (xkd HO_7) (Kd.R_typed (xkd HO_6)) (by decide) hg); have n1_ := Aside0.mk (Kd.R_over' (xkd HO_18) (Kd.R_typed (xkd HO_6)) (by decide) hg); have n2_ := Aside0.mk (blk_grown (g := gb130) (o := .cells #[.int .u8 t125, .int .u8 t126, .int .u8 t127, .int .u8 t128] 23 (0, 0)) xbk hg (Kd.R_ne HO_6.out BK130.out (by decide))); have n3_ := Aside0.mk (hb); have n4_ := Aside0.mk (ho); clear HO_7; clear HO_18; clear BK130; clear HB; clear HO_6; have HO_7 := n0_; have HO_18 := n1_; have BK130 := n2_; have HB := n3_; have HO141 := n4_; clear n0_ n1_ n2_ n3_ n4_; clear ho hb hg hat))
            go_roundg kj10
            case measure => have := HK1.out; have := HJ10.out; omega
            case rel => exact ⟨(y139), (wrap64 (x20_1 + 1)), xrr, H', ⟨by have := HK1.out; have := HJ10.out; omega⟩, ⟨xkd HO141⟩, ⟨xkd HO_7⟩, ⟨xkd HO_18⟩, ⟨xbl⟩⟩
           ·
            rw [if_neg c26] at H
            exact absurd H (by simp)
          ·
           replace c25 := Bool.eq_false_iff.mpr c25
           subst c25
           rw [if_neg (show ¬ (false = true) by decide)] at H
           simp only [Option.some.injEq, Prod.mk.injEq] at H
           obtain ⟨rfl, rfl⟩ := H
           go_wp2_with (first | ((with_reducible refine gate_callee (f := 42) rfl ?_); refine xgl 62 Tryd.func42 #[.string (rdOf ByteArray.empty t121 x20_1)] ?_; (with_reducible refine (ip_word.calls kj10 (rdOf ByteArray.empty t121 x20_1) t137 false _ A24.out).mono ?_); rintro e w' ⟨rfl, ⟨nd, rfl⟩⟩; refine ⟨_, rfl, ?_⟩))
           go_ret2
           exact ⟨_, by first | rfl | (simp [errW_none, errW_some] <;> first | rfl | (simp only [xp_isEmpty, bne, Bool.not_not]; done)) | (simp [*, errW_none, errW_some] <;> rfl), by first | exact Kd.R_nil _ _ _ _ _ | exact Kd.N_nil _ _ _ _ _ | exact Kd.V_nil _ _ _ _ _ | exact Kd.Q_nil _ _ _ _ _ | exact Kd.S_nil _ _ _ _ _, xbl⟩
      ·
       rw [if_neg c9] at H
       exact absurd H (by simp)
     ·
      rw [if_neg c8] at H
      exact absurd H (by simp)
    ·
     rw [if_neg c7] at H
     have c7b0 := decide_eq_false c7
     clear c7
     simp only [Option.some.injEq, Prod.mk.injEq] at H
     obtain ⟨rfl, rfl⟩ := H
     go_wp2
     go_ret2
     exact ⟨_, by first | rfl | (simp [errW_none, errW_some] <;> first | rfl | (simp only [xp_isEmpty, bne, Bool.not_not]; done)) | (simp [*, errW_none, errW_some] <;> rfl), by (with_reducible repeat (first | apply Kd.R_alloc | apply Kd.R_drewN | apply Kd.R_drew)); exact HO_6.out, xbl⟩
theorem ip_V6_row {w : World} {e base : Nat} {ok : Nat → Prop} {v : Value} {xs : List Int} (h : Kd.R (Kd.int .u16) e w base ok v xs) :
    ∃ A c, v = .slice A xs.length c ∧ ((A = none ∧ xs = []) ∨ ∃ g cur, A = some ⟨g, 0, none⟩ ∧ base ≤ g ∧ w.heap[g]? = some (.cells cur e (0, 0)) ∧ cur.toList.take xs.length = xs.map (Value.int .u16)) := by
  have ho := Kd.own_of_R h
  obtain ⟨hl, h1 | ⟨g, cap, cur, rfl, hb, hh, _, _, _, ht⟩⟩ := ho
  · obtain ⟨rfl, hn⟩ := h1
    exact ⟨none, 0, by rw [hn], .inl ⟨rfl, List.eq_nil_of_length_eq_zero hn⟩⟩
  · refine ⟨some ⟨g, 0, none⟩, cap, rfl, .inr ⟨g, cur, rfl, hb, hh, ?_⟩⟩
    rw [Nat.mul_one] at ht
    exact ht
theorem ip_V6_copy {P : Program} {dT elem ty : TypeId} (hu : P.underlying dT = some (.slice elem)) (hs : (P.info? elem).map (·.size) = some 1) {w : World} {g o n : Nat} {cur : Array Value} {t : TypeId} (hg : w.heap[g]? = some (.cells cur t (0, 0)))
    {A : Option Addr} {c : Nat} {xs : List Int} {e base : Nat} (hA : (A = none ∧ xs = []) ∨ ∃ g' cur', A = some ⟨g', 0, none⟩ ∧ base ≤ g' ∧ w.heap[g']? = some (.cells cur' e (0, 0)) ∧ cur'.toList.take xs.length = xs.map (Value.int .u16))
    (hfit : o + n ≤ cur.size) :
    (Builtin.copy_ #[dT, dT] ty #[.slice (some ⟨g, o, none⟩) n n, .slice A xs.length c]).run P w =
      .ok (goInt ((xs.take n).map (Value.int .u16)).length) (w.setRow g (cur.toList.take o ++ (xs.take n).map (Value.int .u16) ++ cur.toList.drop (o + ((xs.take n).map (Value.int .u16)).length)).toArray) := by
  rcases hA with ⟨rfl, rfl⟩ | ⟨g', cur', rfl, _, hh, ht⟩
  · have e1 : (cur.toList.take o ++ (([] : List Int).take n).map (Value.int .u16) ++ cur.toList.drop (o + ((([] : List Int).take n).map (Value.int .u16)).length)).toArray = cur := by simp
    rw [e1, setRow_self w g cur t (0, 0) hg, List.take_nil]
    exact run_copy_none w dT dT ty elem (some ⟨g, o, none⟩) none n n 0 c hu hs (by simp)
  · refine run_copy_row P w dT dT ty elem g o n n ⟨g', 0, none⟩ xs.length c cur t ((xs.take n).map (Value.int .u16)) hu hs hg (by simp [Nat.min_comm]) ?_ (by simp; omega) (by
      intro v hv
      obtain ⟨x, _, rfl⟩ := List.mem_map.1 hv
      rfl)
    intro j v hj
    have hadd : (⟨g', 0, none⟩ : Addr).add j = ⟨g', j, none⟩ := by unfold Addr.add; split <;> simp_all
    rw [hadd, cell_of_row w g' j cur' e (0, 0) hh]
    have hj2 : (xs.map (Value.int .u16))[j]? = some v := by
      rw [List.getElem?_map, List.getElem?_take] at hj
      split at hj
      · rw [List.getElem?_map]; exact hj
      · cases hj
    rw [← ht, List.getElem?_take] at hj2
    split at hj2
    · simpa using hj2
    · cases hj2
def ip_V6_zeros : List Int := [0, 0, 0, 0, 0, 0, 0, 0]
def ip_V6_tup (l : List Int) (b : Bool) : Int × Int × Int × Int × Int × Int × Int × Int × Bool := (l.getD 0 0, l.getD 1 0, l.getD 2 0, l.getD 3 0, l.getD 4 0, l.getD 5 0, l.getD 6 0, l.getD 7 0, b)
def ip_V6_cells (l : List Int) : Array Value := #[.int .u16 (l.getD 0 0), .int .u16 (l.getD 1 0), .int .u16 (l.getD 2 0), .int .u16 (l.getD 3 0), .int .u16 (l.getD 4 0), .int .u16 (l.getD 5 0), .int .u16 (l.getD 6 0), .int .u16 (l.getD 7 0)]
theorem ip_V6_cells_eq : ∀ (l : List Int), l.length = 8 → ip_V6_cells l = (l.map (Value.int .u16)).toArray
  | [_, _, _, _, _, _, _, _], _ => rfl
theorem ip_V6_one (l : List Int) : (ip_V6_cells l).all (·.oneCell') = true := by simp [ip_V6_cells, Value.oneCell']
theorem ip_V6_splice (l xs : List Int) (o : Nat) (hl : l.length = 8) (ho : o + xs.length ≤ 8) :
    ((ip_V6_cells l).toList.take o ++ xs.map (Value.int .u16) ++ (ip_V6_cells l).toList.drop (o + (xs.map (Value.int .u16)).length)).toArray = ip_V6_cells (l.take o ++ xs ++ l.drop (o + xs.length)) := by
  rw [ip_V6_cells_eq l hl, ip_V6_cells_eq _ (by simp; omega)]
  simp
theorem ip_V6_row_below {b : Nat} {w w2 : World} (h : Below b w w2) {g : Nat} (hg : b ≤ g) (cs : Array Value) : Below b w (w2.setRow g cs) := below_setRow h hg cs
def ip_V6_At (w : World) (W : World) (l : List Int) : Prop := W.heap[w.heap.size]? = some (.cells (ip_V6_cells ip_V6_zeros) 27 (0, 0)) ∧ W.heap[w.heap.size + 1]? = some (.cells (ip_V6_cells l) 27 (0, 0)) ∧ Below w.heap.size w W ∧ w.heap.size + 2 ≤ W.heap.size
theorem ip_V6_At.made (w : World) : ip_V6_At w ((w.alloc (.cells (ip_V6_cells ip_V6_zeros) 27)).alloc (.cells (ip_V6_cells ip_V6_zeros) 27)) ip_V6_zeros :=
  ⟨heap_alloc2_old w _ _, heap_alloc2_new w _ _, ((Below.refl _ _).alloc (Nat.le_refl _) _).alloc (by simp) _, by simp⟩
theorem ip_V6_At.below {w W W' : World} {l : List Int} (h : ip_V6_At w W l) (hb : Below W.heap.size W W') : ip_V6_At w W' l :=
  ⟨(hb.block _ (by have := h.2.2.2; omega)).trans h.1, (hb.block _ (by have := h.2.2.2; omega)).trans h.2.1, h.2.2.1.trans (hb.mono (by have := h.2.2.2; omega)), by have := h.2.2.2; have := hb.size; omega⟩
theorem ip_V6_At.drewN {w W : World} {l : List Int} (h : ip_V6_At w W l) (n : Nat) : ip_V6_At w (W.drewN n) l := h.below (Drawn0.below ⟨n, rfl⟩)
theorem ip_V6_At.copied {w W : World} {l l' : List Int} (h : ip_V6_At w W l) : ip_V6_At w (W.setRow (w.heap.size + 1) (ip_V6_cells l')) l' :=
  ⟨by rw [setRow_other _ _ _ _ (by omega)]; exact h.1, setRow_heap _ _ _ _ _ _ h.2.1, ip_V6_row_below h.2.2.1 (by omega) _, by simpa using h.2.2.2⟩
def ip_V6_Row (W : World) (b : Nat) (A : Option Addr) (p : List Int) : Prop := (A = none ∧ p = []) ∨ ∃ g cur, A = some ⟨g, 0, none⟩ ∧ b ≤ g ∧ W.heap[g]? = some (.cells cur 26 (0, 0)) ∧ cur.toList.take p.length = p.map (Value.int .u16)
theorem ip_V6_Row.below {W W' : World} {b : Nat} {A : Option Addr} {p : List Int} (h : ip_V6_Row W b A p) (hb : Below W.heap.size W W') : ip_V6_Row W' b A p := by
  rcases h with h | ⟨g, cur, h1, h2, h3, h4⟩
  · exact .inl h
  · refine .inr ⟨g, cur, h1, h2, (hb.block _ ?_).trans h3, h4⟩
    rw [Array.getElem?_eq_some_iff] at h3
    exact h3.1
theorem ip_V6_Row.setRow {W : World} {b : Nat} {A : Option Addr} {p : List Int} (h : ip_V6_Row W b A p) {g : Nat} (hg : g < b) (cs : Array Value) : ip_V6_Row (W.setRow g cs) b A p := by
  rcases h with h | ⟨g', cur, h1, h2, h3, h4⟩
  · exact .inl h
  · exact .inr ⟨g', cur, h1, h2, by rw [setRow_other _ _ _ _ (by omega)]; exact h3, h4⟩
def ip_V6_put (l : List Int) (o : Nat) (xs : List Int) (n : Nat) : List Int := l.take o ++ xs.take n ++ l.drop (o + (xs.take n).length)
theorem ip_V6_put_len (l xs : List Int) (o n : Nat) (hl : l.length = 8) (h : o + n ≤ 8) : (ip_V6_put l o xs n).length = 8 := by
  unfold ip_V6_put; simp; omega
theorem ip_V6_copied {w W : World} {l p : List Int} {A : Option Addr} {b c : Nat} {o n : Nat} (h : ip_V6_At w W l) (hA : ip_V6_Row W b A p) (hl : l.length = 8) (ho : o + n ≤ 8) :
    (Builtin.copy_ #[49, 49] 3 #[.slice (some ⟨w.heap.size + 1, o, none⟩) n n, .slice A p.length c]).run Tryd.prog W =
      .ok (goInt (p.take n).length) (W.setRow (w.heap.size + 1) (ip_V6_cells (ip_V6_put l o p n))) := by
  have := ip_V6_copy (P := Tryd.prog) (dT := 49) (elem := 26) (ty := 3) Tryd.underlying49 (by kernel_rfl) (w := W) (o := o) (n := n) h.2.1 (c := c) hA (by have : (ip_V6_cells l).size = 8 := rfl; omega)
  rw [ip_V6_splice l (p.take n) o hl (by rw [List.length_take]; omega), List.length_map] at this
  exact this
theorem ip_V6_base {w W w1 : World} {A : Option Addr} {p : List Int} (h2 : w.heap.size + 2 ≤ W.heap.size) (h : (A = none ∧ p = []) ∨ ∃ g cur, A = some ⟨g, 0, none⟩ ∧ W.heap.size ≤ g ∧ w1.heap[g]? = some (.cells cur 26 (0, 0)) ∧ cur.toList.take p.length = p.map (Value.int .u16)) : ip_V6_Row w1 (w.heap.size + 2) A p := by
  rcases h with h | ⟨g, cur, h1, h3, h4⟩
  · exact .inl h
  · exact .inr ⟨g, cur, h1, by omega, h4⟩
set_option maxHeartbeats 1000000 in
set_option maxRecDepth 100000 in
theorem ip_V6_no1 (k : Nat) (a0 x y : ByteArray) (sh : Bool) (p q : List Int) (w : World) (hG : GW w) (hcut : strings_Cut.f a0 (⟨#[58, 58]⟩ : ByteArray) = some (x, y, sh)) (hw : ip_words.f k x (!sh) = some (p, false)) :
    Calls Tryd.prog 9 #[.string a0] w fun e w' => e = .returned (.tuple #[.agg (ip_V6_cells ip_V6_zeros), .bool false]) ∧ Below w.heap.size w w' := by
  have hu8 := Tryd.underlying27
  have A1 := Aside0.mk hcut
  have A2 := Aside0.mk hw
  clear hcut hw
  go_enter Tryd.func9, Tryd.ntmps9
  go_wp2_with (first | (go_at_call 22; (refine (strings_Cut.calls a0 ⟨#[58, 58]⟩ x y sh _ (by exact GW_to hG (ip_V6_At.made w).2.2.1) A1.out).mono ?_); rintro e w' ⟨rfl, ⟨nd, rfl⟩⟩; generalize hW : World.drewN _ nd = W; have VA := Aside0.mk (show ip_V6_At w W ip_V6_zeros from by rw [← hW]; exact (ip_V6_At.made w).drewN nd); clear hW) | ((with_reducible refine gate_callee (f := 23) rfl ?_); refine goesL_ (some 21) rfl rfl Tryd.func23 (by kernel_rfl) rfl #[.string x, .bool (!sh)] rfl (by (try simp only [List.map_toArray, List.map_cons, List.map_nil]); first | done | rfl) ?_; (refine (ip_words.calls k x (!sh) p false _ (by exact GW_to hG VA.out.2.2.1) A2.out).mono ?_); rintro e w1 ⟨v1, rfl, hr, hb⟩; have VB := Aside0.mk (VA.out.below hb); obtain ⟨A, c, rfl, hA⟩ := ip_V6_row hr; have HA := Aside0.mk (show ip_V6_Row w1 (w.heap.size + 2) A p from ip_V6_base VA.out.2.2.2 hA); clear hA hr hb; refine ⟨_, rfl, ?_⟩) | (refine wpList_load_row rfl 27 (.tmp 4) rfl (w.heap.size + 1) rfl 27 (ip_V6_cells ip_V6_zeros) (0, 0) _ VB.out.2.1 hu8 rfl (by kernel_rfl) ?_; refine wpList_store_row rfl 27 (.tmp 2) (.tmp 26) rfl w.heap.size (ip_V6_cells ip_V6_zeros) ?x1 ?x2 27 (ip_V6_cells ip_V6_zeros) VB.out.1 ?x3 ?x4 ?x5 ?_; (case x1 => rfl); (case x2 => rfl); (case x3 => exact (show (Tryd.prog.info? 27).map (·.size) = some 8 by kernel_rfl)); (case x4 => rfl); (case x5 => exact ip_V6_one _)))
  refine bodyPost_ret (results_ct rfl _ _ w.heap.size 27 (ip_V6_cells ip_V6_zeros) (0, 0) _ rfl (setRow_heap _ _ _ _ _ _ VB.out.1) Tryd.underlying27 rfl (show (Tryd.prog.info? 27).map (·.size) = some 8 by kernel_rfl)) rfl ⟨rfl, ip_V6_row_below VB.out.2.2.1 (Nat.le_refl _) _⟩
set_option maxHeartbeats 1000000 in
set_option maxRecDepth 100000 in
theorem ip_V6_full (k : Nat) (a0 x y : ByteArray) (sh : Bool) (p q : List Int) (w : World) (hG : GW w) (hcut : strings_Cut.f a0 (⟨#[58, 58]⟩ : ByteArray) = some (x, y, false)) (hw : ip_words.f k x true = some (p, true)) (h8 : p.length = 8) :
    Calls Tryd.prog 9 #[.string a0] w fun e w' => e = .returned (.tuple #[.agg (ip_V6_cells (ip_V6_put ip_V6_zeros 0 p 8)), .bool true]) ∧ Below w.heap.size w w' := by
  have hu8 := Tryd.underlying27
  have A1 := Aside0.mk hcut
  have A2 := Aside0.mk hw
  clear hcut hw
  have t8 : ((p.length : Int) != 8) = false := by simp [h8]
  clear h8
  go_enter Tryd.func9, Tryd.ntmps9
  go_wp2_with (first | (go_at_call 22; (refine (strings_Cut.calls a0 ⟨#[58, 58]⟩ x y false _ (by exact GW_to hG (ip_V6_At.made w).2.2.1) A1.out).mono ?_); rintro e w' ⟨rfl, ⟨nd, rfl⟩⟩; generalize hW : World.drewN _ nd = W; have VA := Aside0.mk (show ip_V6_At w W ip_V6_zeros from by rw [← hW]; exact (ip_V6_At.made w).drewN nd); clear hW) | ((with_reducible refine gate_callee (f := 23) rfl ?_); refine goesL_ (some 21) rfl rfl Tryd.func23 (by kernel_rfl) rfl #[.string x, .bool true] rfl (by (try simp only [List.map_toArray, List.map_cons, List.map_nil]); first | done | rfl) ?_; (refine (ip_words.calls k x true p true _ (by exact GW_to hG VA.out.2.2.1) A2.out).mono ?_); rintro e w1 ⟨v1, rfl, hr, hb⟩; have VB := Aside0.mk (VA.out.below hb); obtain ⟨A, c, rfl, hA⟩ := ip_V6_row hr; have HA := Aside0.mk (show ip_V6_Row w1 (w.heap.size + 2) A p from ip_V6_base VA.out.2.2.2 hA); clear hA hr hb; refine ⟨_, rfl, ?_⟩) | (refine Lib.wpList_copy_run _ rfl (.tmp 29) (.tmp 30) 49 49 rfl (.slice (some ⟨w.heap.size + 1, 0, none⟩) 8 8) (.slice A p.length c) ?y1 ?y2 (ip_V6_copied (o := 0) (n := 8) VB.out HA.out ?y3 ?y4) ?_; (case y1 => rfl); (case y2 => rfl); (case y3 => first | rfl | exact ip_V6_put_len _ _ _ _ rfl (by omega)); (case y4 => omega); have VC := Aside0.mk (VB.out.copied (l' := (ip_V6_put ip_V6_zeros 0 p 8))); generalize World.setRow _ _ _ = W2 at VC ⊢) | (refine wpList_load_row rfl 27 (.tmp 4) rfl (w.heap.size + 1) rfl 27 (ip_V6_cells (ip_V6_put ip_V6_zeros 0 p 8)) (0, 0) _ VC.out.2.1 hu8 rfl (by kernel_rfl) ?_; refine wpList_store_row rfl 27 (.tmp 2) (.tmp 36) rfl w.heap.size (ip_V6_cells (ip_V6_put ip_V6_zeros 0 p 8)) ?x1 ?x2 27 (ip_V6_cells ip_V6_zeros) VC.out.1 ?x3 ?x4 ?x5 ?_; (case x1 => rfl); (case x2 => rfl); (case x3 => exact (show (Tryd.prog.info? 27).map (·.size) = some 8 by kernel_rfl)); (case x4 => rfl); (case x5 => exact ip_V6_one _)))
  refine bodyPost_ret (results_ct rfl _ _ w.heap.size 27 (ip_V6_cells (ip_V6_put ip_V6_zeros 0 p 8)) (0, 0) _ rfl (setRow_heap _ _ _ _ _ _ VC.out.1) Tryd.underlying27 rfl (show (Tryd.prog.info? 27).map (·.size) = some 8 by kernel_rfl)) rfl ⟨rfl, ip_V6_row_below VC.out.2.2.1 (Nat.le_refl _) _⟩
set_option maxHeartbeats 1000000 in
set_option maxRecDepth 100000 in
theorem ip_V6_few (k : Nat) (a0 x y : ByteArray) (sh : Bool) (p q : List Int) (w : World) (hG : GW w) (hcut : strings_Cut.f a0 (⟨#[58, 58]⟩ : ByteArray) = some (x, y, false)) (hw : ip_words.f k x true = some (p, true)) (h8 : ¬ p.length = 8) :
    Calls Tryd.prog 9 #[.string a0] w fun e w' => e = .returned (.tuple #[.agg (ip_V6_cells ip_V6_zeros), .bool false]) ∧ Below w.heap.size w w' := by
  have hu8 := Tryd.underlying27
  have A1 := Aside0.mk hcut
  have A2 := Aside0.mk hw
  clear hcut hw
  have t8 : ((p.length : Int) != 8) = true := by rw [bne_iff_ne]; omega
  clear h8
  go_enter Tryd.func9, Tryd.ntmps9
  go_wp2_with (first | (go_at_call 22; (refine (strings_Cut.calls a0 ⟨#[58, 58]⟩ x y false _ (by exact GW_to hG (ip_V6_At.made w).2.2.1) A1.out).mono ?_); rintro e w' ⟨rfl, ⟨nd, rfl⟩⟩; generalize hW : World.drewN _ nd = W; have VA := Aside0.mk (show ip_V6_At w W ip_V6_zeros from by rw [← hW]; exact (ip_V6_At.made w).drewN nd); clear hW) | ((with_reducible refine gate_callee (f := 23) rfl ?_); refine goesL_ (some 21) rfl rfl Tryd.func23 (by kernel_rfl) rfl #[.string x, .bool true] rfl (by (try simp only [List.map_toArray, List.map_cons, List.map_nil]); first | done | rfl) ?_; (refine (ip_words.calls k x true p true _ (by exact GW_to hG VA.out.2.2.1) A2.out).mono ?_); rintro e w1 ⟨v1, rfl, hr, hb⟩; have VB := Aside0.mk (VA.out.below hb); obtain ⟨A, c, rfl, hA⟩ := ip_V6_row hr; have HA := Aside0.mk (show ip_V6_Row w1 (w.heap.size + 2) A p from ip_V6_base VA.out.2.2.2 hA); clear hA hr hb; refine ⟨_, rfl, ?_⟩) | (refine Lib.wpList_copy_run _ rfl (.tmp 29) (.tmp 30) 49 49 rfl (.slice (some ⟨w.heap.size + 1, 0, none⟩) 8 8) (.slice A p.length c) ?y1 ?y2 (ip_V6_copied (o := 0) (n := 8) VB.out HA.out ?y3 ?y4) ?_; (case y1 => rfl); (case y2 => rfl); (case y3 => first | rfl | exact ip_V6_put_len _ _ _ _ rfl (by omega)); (case y4 => omega); have VC := Aside0.mk (VB.out.copied (l' := (ip_V6_put ip_V6_zeros 0 p 8))); generalize World.setRow _ _ _ = W2 at VC ⊢) | (refine wpList_store_row rfl 27 (.tmp 2) (.tmp 35) rfl w.heap.size (ip_V6_cells ip_V6_zeros) ?x1 ?x2 27 (ip_V6_cells ip_V6_zeros) VC.out.1 ?x3 ?x4 ?x5 ?_; (case x1 => rfl); (case x2 => rfl); (case x3 => exact (show (Tryd.prog.info? 27).map (·.size) = some 8 by kernel_rfl)); (case x4 => rfl); (case x5 => exact ip_V6_one _)))
  refine bodyPost_ret (results_ct rfl _ _ w.heap.size 27 (ip_V6_cells ip_V6_zeros) (0, 0) _ rfl (setRow_heap _ _ _ _ _ _ VC.out.1) Tryd.underlying27 rfl (show (Tryd.prog.info? 27).map (·.size) = some 8 by kernel_rfl)) rfl ⟨rfl, ip_V6_row_below VC.out.2.2.1 (Nat.le_refl _) _⟩
set_option maxHeartbeats 1000000 in
set_option maxRecDepth 100000 in
theorem ip_V6_no2 (k : Nat) (a0 x y : ByteArray) (sh : Bool) (p q : List Int) (w : World) (hG : GW w) (hcut : strings_Cut.f a0 (⟨#[58, 58]⟩ : ByteArray) = some (x, y, true)) (hw : ip_words.f k x false = some (p, true)) (hw2 : ip_words.f k y true = some (q, false)) :
    Calls Tryd.prog 9 #[.string a0] w fun e w' => e = .returned (.tuple #[.agg (ip_V6_cells ip_V6_zeros), .bool false]) ∧ Below w.heap.size w w' := by
  have hu8 := Tryd.underlying27
  have A1 := Aside0.mk hcut
  have A2 := Aside0.mk hw
  clear hcut hw
  have A3 := Aside0.mk hw2
  clear hw2
  go_enter Tryd.func9, Tryd.ntmps9
  go_wp2_with (first | (go_at_call 22; (refine (strings_Cut.calls a0 ⟨#[58, 58]⟩ x y true _ (by exact GW_to hG (ip_V6_At.made w).2.2.1) A1.out).mono ?_); rintro e w' ⟨rfl, ⟨nd, rfl⟩⟩; generalize hW : World.drewN _ nd = W; have VA := Aside0.mk (show ip_V6_At w W ip_V6_zeros from by rw [← hW]; exact (ip_V6_At.made w).drewN nd); clear hW) | ((with_reducible refine gate_callee (f := 23) rfl ?_); refine goesL_ (some 21) rfl rfl Tryd.func23 (by kernel_rfl) rfl #[.string x, .bool false] rfl (by (try simp only [List.map_toArray, List.map_cons, List.map_nil]); first | done | rfl) ?_; (refine (ip_words.calls k x false p true _ (by exact GW_to hG VA.out.2.2.1) A2.out).mono ?_); rintro e w1 ⟨v1, rfl, hr, hb⟩; have VB := Aside0.mk (VA.out.below hb); obtain ⟨A, c, rfl, hA⟩ := ip_V6_row hr; have HA := Aside0.mk (show ip_V6_Row w1 (w.heap.size + 2) A p from ip_V6_base VA.out.2.2.2 hA); clear hA hr hb; refine ⟨_, rfl, ?_⟩) | ((with_reducible refine gate_callee (f := 23) rfl ?_); refine goesL_ (some 39) rfl rfl Tryd.func23 (by kernel_rfl) rfl #[.string y, .bool true] rfl (by (try simp only [List.map_toArray, List.map_cons, List.map_nil]); first | done | rfl) ?_; (refine (ip_words.calls k y true q false _ (by exact GW_to hG VB.out.2.2.1) A3.out).mono ?_); rintro e w2 ⟨v2, rfl, hr, hb⟩; have VC := Aside0.mk (VB.out.below hb); have HB := Aside0.mk (HA.out.below hb); obtain ⟨A', c', rfl, hA⟩ := ip_V6_row hr; have HQ := Aside0.mk (show ip_V6_Row w2 (w.heap.size + 2) A' q from ip_V6_base VB.out.2.2.2 hA); clear hA hr hb; refine ⟨_, rfl, ?_⟩) | (refine wpList_load_row rfl 27 (.tmp 4) rfl (w.heap.size + 1) rfl 27 (ip_V6_cells ip_V6_zeros) (0, 0) _ VC.out.2.1 hu8 rfl (by kernel_rfl) ?_; refine wpList_store_row rfl 27 (.tmp 2) (.tmp 52) rfl w.heap.size (ip_V6_cells ip_V6_zeros) ?x1 ?x2 27 (ip_V6_cells ip_V6_zeros) VC.out.1 ?x3 ?x4 ?x5 ?_; (case x1 => rfl); (case x2 => rfl); (case x3 => exact (show (Tryd.prog.info? 27).map (·.size) = some 8 by kernel_rfl)); (case x4 => rfl); (case x5 => exact ip_V6_one _)))
  refine bodyPost_ret (results_ct rfl _ _ w.heap.size 27 (ip_V6_cells ip_V6_zeros) (0, 0) _ rfl (setRow_heap _ _ _ _ _ _ VC.out.1) Tryd.underlying27 rfl (show (Tryd.prog.info? 27).map (·.size) = some 8 by kernel_rfl)) rfl ⟨rfl, ip_V6_row_below VC.out.2.2.1 (Nat.le_refl _) _⟩
set_option maxHeartbeats 1000000 in
set_option maxRecDepth 100000 in
theorem ip_V6_many (k : Nat) (a0 x y : ByteArray) (sh : Bool) (p q : List Int) (w : World) (hG : GW w) (hcut : strings_Cut.f a0 (⟨#[58, 58]⟩ : ByteArray) = some (x, y, true)) (hw : ip_words.f k x false = some (p, true)) (hw2 : ip_words.f k y true = some (q, true)) (hm : 8 ≤ wrap64 ((p.length : Int) + q.length)) :
    Calls Tryd.prog 9 #[.string a0] w fun e w' => e = .returned (.tuple #[.agg (ip_V6_cells ip_V6_zeros), .bool false]) ∧ Below w.heap.size w w' := by
  have hu8 := Tryd.underlying27
  have A1 := Aside0.mk hcut
  have A2 := Aside0.mk hw
  clear hcut hw
  have A3 := Aside0.mk hw2
  clear hw2
  have t8 : decide (8 ≤ wrap64 ((p.length : Int) + q.length)) = true := decide_eq_true hm
  clear hm
  go_enter Tryd.func9, Tryd.ntmps9
  go_wp2_with (first | (go_at_call 22; (refine (strings_Cut.calls a0 ⟨#[58, 58]⟩ x y true _ (by exact GW_to hG (ip_V6_At.made w).2.2.1) A1.out).mono ?_); rintro e w' ⟨rfl, ⟨nd, rfl⟩⟩; generalize hW : World.drewN _ nd = W; have VA := Aside0.mk (show ip_V6_At w W ip_V6_zeros from by rw [← hW]; exact (ip_V6_At.made w).drewN nd); clear hW) | ((with_reducible refine gate_callee (f := 23) rfl ?_); refine goesL_ (some 21) rfl rfl Tryd.func23 (by kernel_rfl) rfl #[.string x, .bool false] rfl (by (try simp only [List.map_toArray, List.map_cons, List.map_nil]); first | done | rfl) ?_; (refine (ip_words.calls k x false p true _ (by exact GW_to hG VA.out.2.2.1) A2.out).mono ?_); rintro e w1 ⟨v1, rfl, hr, hb⟩; have VB := Aside0.mk (VA.out.below hb); obtain ⟨A, c, rfl, hA⟩ := ip_V6_row hr; have HA := Aside0.mk (show ip_V6_Row w1 (w.heap.size + 2) A p from ip_V6_base VA.out.2.2.2 hA); clear hA hr hb; refine ⟨_, rfl, ?_⟩) | ((with_reducible refine gate_callee (f := 23) rfl ?_); refine goesL_ (some 39) rfl rfl Tryd.func23 (by kernel_rfl) rfl #[.string y, .bool true] rfl (by (try simp only [List.map_toArray, List.map_cons, List.map_nil]); first | done | rfl) ?_; (refine (ip_words.calls k y true q true _ (by exact GW_to hG VB.out.2.2.1) A3.out).mono ?_); rintro e w2 ⟨v2, rfl, hr, hb⟩; have VC := Aside0.mk (VB.out.below hb); have HB := Aside0.mk (HA.out.below hb); obtain ⟨A', c', rfl, hA⟩ := ip_V6_row hr; have HQ := Aside0.mk (show ip_V6_Row w2 (w.heap.size + 2) A' q from ip_V6_base VB.out.2.2.2 hA); clear hA hr hb; refine ⟨_, rfl, ?_⟩) | (refine wpList_load_row rfl 27 (.tmp 4) rfl (w.heap.size + 1) rfl 27 (ip_V6_cells ip_V6_zeros) (0, 0) _ VC.out.2.1 hu8 rfl (by kernel_rfl) ?_; refine wpList_store_row rfl 27 (.tmp 2) (.tmp 52) rfl w.heap.size (ip_V6_cells ip_V6_zeros) ?x1 ?x2 27 (ip_V6_cells ip_V6_zeros) VC.out.1 ?x3 ?x4 ?x5 ?_; (case x1 => rfl); (case x2 => rfl); (case x3 => exact (show (Tryd.prog.info? 27).map (·.size) = some 8 by kernel_rfl)); (case x4 => rfl); (case x5 => exact ip_V6_one _)))
  refine bodyPost_ret (results_ct rfl _ _ w.heap.size 27 (ip_V6_cells ip_V6_zeros) (0, 0) _ rfl (setRow_heap _ _ _ _ _ _ VC.out.1) Tryd.underlying27 rfl (show (Tryd.prog.info? 27).map (·.size) = some 8 by kernel_rfl)) rfl ⟨rfl, ip_V6_row_below VC.out.2.2.1 (Nat.le_refl _) _⟩
set_option maxHeartbeats 1000000 in
set_option maxRecDepth 100000 in
theorem ip_V6_short (k : Nat) (a0 x y : ByteArray) (sh : Bool) (p q : List Int) (w : World) (hG : GW w) (hcut : strings_Cut.f a0 (⟨#[58, 58]⟩ : ByteArray) = some (x, y, true)) (hw : ip_words.f k x false = some (p, true)) (hw2 : ip_words.f k y true = some (q, true)) (hm : p.length + q.length < 8) (o : Nat) (ho : o + q.length = 8) (h8 : o < 8) :
    Calls Tryd.prog 9 #[.string a0] w fun e w' => e = .returned (.tuple #[.agg (ip_V6_cells (ip_V6_put (ip_V6_put ip_V6_zeros 0 p 8) o q (8 - o))), .bool true]) ∧ Below w.heap.size w w' := by
  have hu8 := Tryd.underlying27
  have A1 := Aside0.mk hcut
  have A2 := Aside0.mk hw
  clear hcut hw
  have A3 := Aside0.mk hw2
  clear hw2
  have t8 : decide (8 ≤ wrap64 ((p.length : Int) + q.length)) = false := decide_eq_false (by unfold wrap64; omega)
  have t9 : wrap64 (8 - (q.length : Int)) = (o : Int) := by unfold wrap64; omega
  have t12 : (o : Int) ≤ 8 := by omega
  have t13 : o ≤ 8 := by omega
  have t14 : ¬ 8 = o := by omega
  clear hm ho h8
  go_enter Tryd.func9, Tryd.ntmps9
  go_wp2_with (first | (go_at_call 22; (refine (strings_Cut.calls a0 ⟨#[58, 58]⟩ x y true _ (by exact GW_to hG (ip_V6_At.made w).2.2.1) A1.out).mono ?_); rintro e w' ⟨rfl, ⟨nd, rfl⟩⟩; generalize hW : World.drewN _ nd = W; have VA := Aside0.mk (show ip_V6_At w W ip_V6_zeros from by rw [← hW]; exact (ip_V6_At.made w).drewN nd); clear hW) | ((with_reducible refine gate_callee (f := 23) rfl ?_); refine goesL_ (some 21) rfl rfl Tryd.func23 (by kernel_rfl) rfl #[.string x, .bool false] rfl (by (try simp only [List.map_toArray, List.map_cons, List.map_nil]); first | done | rfl) ?_; (refine (ip_words.calls k x false p true _ (by exact GW_to hG VA.out.2.2.1) A2.out).mono ?_); rintro e w1 ⟨v1, rfl, hr, hb⟩; have VB := Aside0.mk (VA.out.below hb); obtain ⟨A, c, rfl, hA⟩ := ip_V6_row hr; have HA := Aside0.mk (show ip_V6_Row w1 (w.heap.size + 2) A p from ip_V6_base VA.out.2.2.2 hA); clear hA hr hb; refine ⟨_, rfl, ?_⟩) | ((with_reducible refine gate_callee (f := 23) rfl ?_); refine goesL_ (some 39) rfl rfl Tryd.func23 (by kernel_rfl) rfl #[.string y, .bool true] rfl (by (try simp only [List.map_toArray, List.map_cons, List.map_nil]); first | done | rfl) ?_; (refine (ip_words.calls k y true q true _ (by exact GW_to hG VB.out.2.2.1) A3.out).mono ?_); rintro e w2 ⟨v2, rfl, hr, hb⟩; have VC := Aside0.mk (VB.out.below hb); have HB := Aside0.mk (HA.out.below hb); obtain ⟨A', c', rfl, hA⟩ := ip_V6_row hr; have HQ := Aside0.mk (show ip_V6_Row w2 (w.heap.size + 2) A' q from ip_V6_base VB.out.2.2.2 hA); clear hA hr hb; refine ⟨_, rfl, ?_⟩) | (refine Lib.wpList_copy_run _ rfl (.tmp 53) (.tmp 54) 49 49 rfl (.slice (some ⟨w.heap.size + 1, 0, none⟩) 8 8) (.slice A p.length c) ?y1 ?y2 (ip_V6_copied (o := 0) (n := 8) VC.out HB.out ?y3 ?y4) ?_; (case y1 => rfl); (case y2 => rfl); (case y3 => first | rfl | exact ip_V6_put_len _ _ _ _ rfl (by omega)); (case y4 => omega); have HQ2 := Aside0.mk (HQ.out.setRow (Nat.lt_succ_self (w.heap.size + 1)) (ip_V6_cells (ip_V6_put ip_V6_zeros 0 p 8))); have VD := Aside0.mk (VC.out.copied (l' := (ip_V6_put ip_V6_zeros 0 p 8))); generalize World.setRow _ _ _ = W2 at VD HQ2 ⊢) | (refine Lib.wpList_copy_run _ rfl (.tmp 59) (.tmp 60) 49 49 rfl (.slice (some ⟨w.heap.size + 1, o, none⟩) (8 - o) (8 - o)) (.slice A' q.length c') ?y1 ?y2 (ip_V6_copied (o := o) (n := (8 - o)) VD.out HQ2.out ?y3 ?y4) ?_; (case y1 => rfl); (case y2 => rfl); (case y3 => first | rfl | exact ip_V6_put_len _ _ _ _ rfl (by omega)); (case y4 => omega); have VE := Aside0.mk (VD.out.copied (l' := (ip_V6_put (ip_V6_put ip_V6_zeros 0 p 8) o q (8 - o)))); generalize World.setRow _ _ _ = W3 at VE ⊢) | (refine wpList_load_row rfl 27 (.tmp 4) rfl (w.heap.size + 1) rfl 27 (ip_V6_cells (ip_V6_put (ip_V6_put ip_V6_zeros 0 p 8) o q (8 - o))) (0, 0) _ VE.out.2.1 hu8 rfl (by kernel_rfl) ?_; refine wpList_store_row rfl 27 (.tmp 2) (.tmp 62) rfl w.heap.size (ip_V6_cells (ip_V6_put (ip_V6_put ip_V6_zeros 0 p 8) o q (8 - o))) ?x1 ?x2 27 (ip_V6_cells ip_V6_zeros) VE.out.1 ?x3 ?x4 ?x5 ?_; (case x1 => rfl); (case x2 => rfl); (case x3 => exact (show (Tryd.prog.info? 27).map (·.size) = some 8 by kernel_rfl)); (case x4 => rfl); (case x5 => exact ip_V6_one _)))
  refine bodyPost_ret (results_ct rfl _ _ w.heap.size 27 (ip_V6_cells (ip_V6_put (ip_V6_put ip_V6_zeros 0 p 8) o q (8 - o))) (0, 0) _ rfl (setRow_heap _ _ _ _ _ _ VE.out.1) Tryd.underlying27 rfl (show (Tryd.prog.info? 27).map (·.size) = some 8 by kernel_rfl)) rfl ⟨rfl, ip_V6_row_below VE.out.2.2.1 (Nat.le_refl _) _⟩
set_option maxHeartbeats 1000000 in
set_option maxRecDepth 100000 in
theorem ip_V6_short8 (k : Nat) (a0 x y : ByteArray) (sh : Bool) (p q : List Int) (w : World) (hG : GW w) (hcut : strings_Cut.f a0 (⟨#[58, 58]⟩ : ByteArray) = some (x, y, true)) (hw : ip_words.f k x false = some (p, true)) (hw2 : ip_words.f k y true = some (q, true)) (hm : p.length < 8) (hq : q.length = 0) :
    Calls Tryd.prog 9 #[.string a0] w fun e w' => e = .returned (.tuple #[.agg (ip_V6_cells (ip_V6_put (ip_V6_put ip_V6_zeros 0 p 8) 0 q 0)), .bool true]) ∧ Below w.heap.size w w' := by
  have hu8 := Tryd.underlying27
  have A1 := Aside0.mk hcut
  have A2 := Aside0.mk hw
  clear hcut hw
  have A3 := Aside0.mk hw2
  clear hw2
  have t8 : decide (8 ≤ wrap64 ((p.length : Int) + q.length)) = false := decide_eq_false (by unfold wrap64; omega)
  have t9 : wrap64 (8 - (q.length : Int)) = 8 := by unfold wrap64; omega
  clear hm hq
  go_enter Tryd.func9, Tryd.ntmps9
  go_wp2_with (first | (go_at_call 22; (refine (strings_Cut.calls a0 ⟨#[58, 58]⟩ x y true _ (by exact GW_to hG (ip_V6_At.made w).2.2.1) A1.out).mono ?_); rintro e w' ⟨rfl, ⟨nd, rfl⟩⟩; generalize hW : World.drewN _ nd = W; have VA := Aside0.mk (show ip_V6_At w W ip_V6_zeros from by rw [← hW]; exact (ip_V6_At.made w).drewN nd); clear hW) | ((with_reducible refine gate_callee (f := 23) rfl ?_); refine goesL_ (some 21) rfl rfl Tryd.func23 (by kernel_rfl) rfl #[.string x, .bool false] rfl (by (try simp only [List.map_toArray, List.map_cons, List.map_nil]); first | done | rfl) ?_; (refine (ip_words.calls k x false p true _ (by exact GW_to hG VA.out.2.2.1) A2.out).mono ?_); rintro e w1 ⟨v1, rfl, hr, hb⟩; have VB := Aside0.mk (VA.out.below hb); obtain ⟨A, c, rfl, hA⟩ := ip_V6_row hr; have HA := Aside0.mk (show ip_V6_Row w1 (w.heap.size + 2) A p from ip_V6_base VA.out.2.2.2 hA); clear hA hr hb; refine ⟨_, rfl, ?_⟩) | ((with_reducible refine gate_callee (f := 23) rfl ?_); refine goesL_ (some 39) rfl rfl Tryd.func23 (by kernel_rfl) rfl #[.string y, .bool true] rfl (by (try simp only [List.map_toArray, List.map_cons, List.map_nil]); first | done | rfl) ?_; (refine (ip_words.calls k y true q true _ (by exact GW_to hG VB.out.2.2.1) A3.out).mono ?_); rintro e w2 ⟨v2, rfl, hr, hb⟩; have VC := Aside0.mk (VB.out.below hb); have HB := Aside0.mk (HA.out.below hb); obtain ⟨A', c', rfl, hA⟩ := ip_V6_row hr; have HQ := Aside0.mk (show ip_V6_Row w2 (w.heap.size + 2) A' q from ip_V6_base VB.out.2.2.2 hA); clear hA hr hb; refine ⟨_, rfl, ?_⟩) | (refine Lib.wpList_copy_run _ rfl (.tmp 53) (.tmp 54) 49 49 rfl (.slice (some ⟨w.heap.size + 1, 0, none⟩) 8 8) (.slice A p.length c) ?y1 ?y2 (ip_V6_copied (o := 0) (n := 8) VC.out HB.out ?y3 ?y4) ?_; (case y1 => rfl); (case y2 => rfl); (case y3 => first | rfl | exact ip_V6_put_len _ _ _ _ rfl (by omega)); (case y4 => omega); have HQ2 := Aside0.mk (HQ.out.setRow (Nat.lt_succ_self (w.heap.size + 1)) (ip_V6_cells (ip_V6_put ip_V6_zeros 0 p 8))); have VD := Aside0.mk (VC.out.copied (l' := (ip_V6_put ip_V6_zeros 0 p 8))); generalize World.setRow _ _ _ = W2 at VD HQ2 ⊢) | (refine Lib.wpList_copy_run _ rfl (.tmp 59) (.tmp 60) 49 49 rfl (.slice (some ⟨w.heap.size + 1, 0, none⟩) 0 0) (.slice A' q.length c') ?y1 ?y2 (ip_V6_copied (o := 0) (n := 0) VD.out HQ2.out ?y3 ?y4) ?_; (case y1 => rfl); (case y2 => rfl); (case y3 => first | rfl | exact ip_V6_put_len _ _ _ _ rfl (by omega)); (case y4 => omega); have VE := Aside0.mk (VD.out.copied (l' := (ip_V6_put (ip_V6_put ip_V6_zeros 0 p 8) 0 q 0))); generalize World.setRow _ _ _ = W3 at VE ⊢) | (refine wpList_load_row rfl 27 (.tmp 4) rfl (w.heap.size + 1) rfl 27 (ip_V6_cells (ip_V6_put (ip_V6_put ip_V6_zeros 0 p 8) 0 q 0)) (0, 0) _ VE.out.2.1 hu8 rfl (by kernel_rfl) ?_; refine wpList_store_row rfl 27 (.tmp 2) (.tmp 62) rfl w.heap.size (ip_V6_cells (ip_V6_put (ip_V6_put ip_V6_zeros 0 p 8) 0 q 0)) ?x1 ?x2 27 (ip_V6_cells ip_V6_zeros) VE.out.1 ?x3 ?x4 ?x5 ?_; (case x1 => rfl); (case x2 => rfl); (case x3 => exact (show (Tryd.prog.info? 27).map (·.size) = some 8 by kernel_rfl)); (case x4 => rfl); (case x5 => exact ip_V6_one _)))
  refine bodyPost_ret (results_ct rfl _ _ w.heap.size 27 (ip_V6_cells (ip_V6_put (ip_V6_put ip_V6_zeros 0 p 8) 0 q 0)) (0, 0) _ rfl (setRow_heap _ _ _ _ _ _ VE.out.1) Tryd.underlying27 rfl (show (Tryd.prog.info? 27).map (·.size) = some 8 by kernel_rfl)) rfl ⟨rfl, ip_V6_row_below VE.out.2.2.1 (Nat.le_refl _) _⟩
def ip_V6.f (k : Nat) (a0 : ByteArray) : Option (Int × Int × Int × Int × Int × Int × Int × Int × Bool) :=
  (strings_Cut.f a0 (⟨#[58, 58]⟩ : ByteArray)).bind fun c => (ip_words.f k c.1 (!c.2.2)).bind fun p =>
    if p.2 = false then some (ip_V6_tup ip_V6_zeros false)
    else if c.2.2 = false then (if p.1.length = 8 then some (ip_V6_tup (ip_V6_put ip_V6_zeros 0 p.1 8) true) else some (ip_V6_tup ip_V6_zeros false))
    else (ip_words.f k c.2.1 true).bind fun q =>
      if q.2 = false then some (ip_V6_tup ip_V6_zeros false)
      else if 8 ≤ wrap64 ((p.1.length : Int) + q.1.length) then some (ip_V6_tup ip_V6_zeros false)
      else if p.1.length + q.1.length < 8 then some (ip_V6_tup (ip_V6_put (ip_V6_put ip_V6_zeros 0 p.1 8) (8 - q.1.length) q.1 q.1.length) true) else none
theorem ip_V6.mono : ∀ a0 k, LeO (ip_V6.f k a0) (ip_V6.f (k + 1) a0) := by
  intro a0 k
  unfold ip_V6.f
  exact LeO.bind (LeO.refl _) (fun c => LeO.bind (ip_words.mono _ _ _) (fun p => LeO.ite (LeO.refl _) (LeO.ite (LeO.refl _) (LeO.bind (ip_words.mono _ _ _) (fun q => LeO.refl _)))))
theorem ip_V6_known {l : List Int} {b : Bool} {r1 r2 r3 r4 r5 r6 r7 r8 : Int} {r9 : Bool} (h : ip_V6_tup l b = (r1, r2, r3, r4, r5, r6, r7, r8, r9)) : ip_V6_cells l = #[.int .u16 r1, .int .u16 r2, .int .u16 r3, .int .u16 r4, .int .u16 r5, .int .u16 r6, .int .u16 r7, .int .u16 r8] ∧ b = r9 := by
  unfold ip_V6_tup at h
  simp only [Prod.mk.injEq] at h
  obtain ⟨rfl, rfl, rfl, rfl, rfl, rfl, rfl, rfl, rfl⟩ := h
  exact ⟨rfl, rfl⟩
theorem ip_V6.calls (k : Nat) (a0 : ByteArray) (r1 : Int) (r2 : Int) (r3 : Int) (r4 : Int) (r5 : Int) (r6 : Int) (r7 : Int) (r8 : Int) (r9 : Bool) (w : World) (hG : GW w) (h : ip_V6.f k a0 = some (r1, r2, r3, r4, r5, r6, r7, r8, r9)) :
    Calls Tryd.prog 9 #[.string a0] w fun e w' => e = .returned (.tuple #[.agg #[.int .u16 r1, .int .u16 r2, .int .u16 r3, .int .u16 r4, .int .u16 r5, .int .u16 r6, .int .u16 r7, .int .u16 r8], .bool r9]) ∧ Below w.heap.size w w' := by
  unfold ip_V6.f at h
  obtain ⟨⟨x, y, sh⟩, h1, h⟩ := Option.bind_eq_some_iff.1 h
  obtain ⟨⟨p, ok⟩, h2, h⟩ := Option.bind_eq_some_iff.1 h
  simp only at h2 h
  cases ok with
  | false =>
    rw [if_pos rfl] at h
    obtain ⟨e1, e2⟩ := ip_V6_known (Option.some.inj h)
    rw [← e1, ← e2]
    exact ip_V6_no1 k a0 x y sh p [] w hG h1 h2
  | true =>
    rw [if_neg (by simp)] at h
    cases sh with
    | false =>
      rw [if_pos rfl] at h
      by_cases h8 : p.length = 8
      · rw [if_pos h8] at h
        obtain ⟨e1, e2⟩ := ip_V6_known (Option.some.inj h)
        rw [← e1, ← e2]
        exact ip_V6_full k a0 x y false p [] w hG h1 h2 h8
      · rw [if_neg h8] at h
        obtain ⟨e1, e2⟩ := ip_V6_known (Option.some.inj h)
        rw [← e1, ← e2]
        exact ip_V6_few k a0 x y false p [] w hG h1 h2 h8
    | true =>
      rw [if_neg (by simp)] at h
      obtain ⟨⟨q, ok2⟩, h3, h⟩ := Option.bind_eq_some_iff.1 h
      simp only at h3 h
      cases ok2 with
      | false =>
        rw [if_pos rfl] at h
        obtain ⟨e1, e2⟩ := ip_V6_known (Option.some.inj h)
        rw [← e1, ← e2]
        exact ip_V6_no2 k a0 x y true p q w hG h1 h2 h3
      | true =>
        rw [if_neg (by simp)] at h
        by_cases hm : 8 ≤ wrap64 ((p.length : Int) + q.length)
        · rw [if_pos hm] at h
          obtain ⟨e1, e2⟩ := ip_V6_known (Option.some.inj h)
          rw [← e1, ← e2]
          exact ip_V6_many k a0 x y true p q w hG h1 h2 h3 hm
        · rw [if_neg hm] at h
          by_cases hl : p.length + q.length < 8
          · rw [if_pos hl] at h
            obtain ⟨e1, e2⟩ := ip_V6_known (Option.some.inj h)
            rw [← e1, ← e2]
            by_cases h0 : q.length = 0
            · have := ip_V6_short8 k a0 x y true p q w hG h1 h2 h3 (by omega) h0
              obtain rfl : q = [] := List.eq_nil_of_length_eq_zero h0
              have e : ip_V6_put (ip_V6_put ip_V6_zeros 0 p 8) (8 - 0) [] 0 = ip_V6_put (ip_V6_put ip_V6_zeros 0 p 8) 0 [] 0 := by
                generalize ip_V6_put ip_V6_zeros 0 p 8 = l
                unfold ip_V6_put
                simp
              simp only [List.length_nil]
              rw [e]
              exact this
            · have := ip_V6_short k a0 x y true p q w hG h1 h2 h3 hl (8 - q.length) (by omega) (by omega)
              rw [show 8 - (8 - q.length) = q.length from by omega] at this
              exact this
          · rw [if_neg hl] at h; cases h
def octet_Span.l0 : Nat → ByteArray → Int → Int → Int → Option (Int)
  | 0, _, _, _, _ => none
  | k + 1, x0, x1, x7, x8 => if x8 < x7 then (if 0 ≤ x8 then (if x8 < (x0.size : Int) then ((octet_Is.f k (bt x0 x8) x1).bind fun t142 => (if t142 = true then (octet_Span.l0 k x0 x1 x7 (wrap64 (x8 + 1))) else (some x8))) else (none)) else (none)) else (some (x0.size : Int))
def octet_Span.f (k : Nat) (a0 : ByteArray) (a1 : Int) : Option (Int) := octet_Span.l0 k a0 a1 (a0.size : Int) 0
theorem octet_Span.mono_l : ∀ k, (∀ y0 y1 y2 y3, LeO (octet_Span.l0 k y0 y1 y2 y3) (octet_Span.l0 (k + 1) y0 y1 y2 y3))
  | 0 => fun _ _ _ _ r h => by simp [octet_Span.l0] at h
  | k + 1 => by
    have ih0 := octet_Span.mono_l k
    have m0 := @octet_Is.mono
    · intro y0 y1 y2 y3
      unfold octet_Span.l0
      exact xmo
theorem octet_Span.mono : ∀ a0 a1 k, LeO (octet_Span.f k a0 a1) (octet_Span.f (k + 1) a0 a1) := by
  intro a0 a1 k
  have ih0 := octet_Span.mono_l k
  have m0 := @octet_Is.mono
  unfold octet_Span.f
  exact xmo
set_option maxHeartbeats 8000000 in
set_option maxRecDepth 100000 in
theorem octet_Span.calls (k : Nat) (a0 : ByteArray) (a1 : Int) (r : Int) (w : World) (h : octet_Span.f k a0 a1 = some r) :
    Calls Tryd.prog 27 #[.string a0, .int .i64 a1] w fun e w' => e = .returned (.int .i64 r) ∧ Drawn0 w w' := by
 have H : (octet_Span.l0 k a0 a1 (a0.size : Int) 0) = some r := h
 clear h
 have H' := Aside0.mk H
 clear H
 go_enter Tryd.func27, Tryd.ntmps27
 go_wp2
 go_loopg [8] k (fun kq v8 w' => ∃ (x8_1 : Int), v8 = .int .i64 x8_1 ∧ Aside0 (octet_Span.l0 kq a0 a1 (a0.size : Int) x8_1 = some r) ∧ Aside0 (kq ≤ k) ∧ Drawn0 w w')
 case atStart => exact ⟨(0), xrr, H', ⟨Nat.le_refl _⟩, xdr⟩
 case round =>
  clear H'
  obtain ⟨x8_1, rfl, HA, HK1, ⟨m1, rfl⟩⟩ := hrel
  cases gk with
  | zero => exact absurd HA.out (by simp [octet_Span.l0])
  | succ k1 =>
   have H := HA.out
   clear HA
   simp only [octet_Span.l0] at H
   by_cases c3 : x8_1 < (a0.size : Int)
   ·
    rw [if_pos c3] at H
    have c3b0 := decide_eq_true c3
    clear c3
    by_cases c4 : 0 ≤ x8_1
    ·
     rw [if_pos c4] at H
     have c4b0 := decide_eq_true c4
     clear c4
     by_cases c5 : x8_1 < (a0.size : Int)
     ·
      rw [if_pos c5] at H
      have c5b0 := decide_eq_true c5
      clear c5
      replace H := Option.bind_eq_some_iff.mp H
      obtain ⟨t142, A70, H⟩ := H
      try dsimp only at H
      have A7 := Aside0.mk A70
      clear A70
      by_cases c8 : t142 = true
      ·
       subst c8
       rw [if_pos rfl] at H
       have H' := Aside0.mk H
       clear H
       have p6 : 0 ≤ (x8_1 : Int) := xod
       have q6 : x8_1 < (a0.size : Int) := xod
       have hx6 := bt_at a0 x8_1
       replace p6 := eq_true p6
       replace q6 := eq_true q6
       try (have q6x := q6; simp only [ByteArray.size_extract, Nat.min_self] at q6x)
       go_wp2_with (first | ((with_reducible refine gate_callee (f := 40) rfl ?_); refine xgl 15 Tryd.func40 #[.int .u8 (bt a0 x8_1), .int .i64 a1] ?_; (with_reducible refine (octet_Is.calls k1 (bt a0 x8_1) a1 true _ A7.out).mono ?_); rintro e w' ⟨rfl, ⟨nd, rfl⟩⟩; refine ⟨_, rfl, ?_⟩))
       go_roundg k1
       case measure => have := HK1.out; omega
       case rel => exact ⟨(wrap64 (x8_1 + 1)), xrr, H', ⟨by have := HK1.out; omega⟩, xdr⟩
      ·
       replace c8 := Bool.eq_false_iff.mpr c8
       subst c8
       rw [if_neg (show ¬ (false = true) by decide)] at H
       obtain rfl := Option.some.inj H
       have p6 : 0 ≤ (x8_1 : Int) := xod
       have q6 : x8_1 < (a0.size : Int) := xod
       have hx6 := bt_at a0 x8_1
       replace p6 := eq_true p6
       replace q6 := eq_true q6
       try (have q6x := q6; simp only [ByteArray.size_extract, Nat.min_self] at q6x)
       go_wp2_with (first | ((with_reducible refine gate_callee (f := 40) rfl ?_); refine xgl 15 Tryd.func40 #[.int .u8 (bt a0 x8_1), .int .i64 a1] ?_; (with_reducible refine (octet_Is.calls k1 (bt a0 x8_1) a1 false _ A7.out).mono ?_); rintro e w' ⟨rfl, ⟨nd, rfl⟩⟩; refine ⟨_, rfl, ?_⟩))
       go_ret
       exact ⟨xrr, xdr⟩
     ·
      rw [if_neg c5] at H
      exact absurd H (by simp)
    ·
     rw [if_neg c4] at H
     exact absurd H (by simp)
   ·
    rw [if_neg c3] at H
    have c3b0 := decide_eq_false c3
    clear c3
    obtain rfl := Option.some.inj H
    go_wp2
    go_ret
    exact ⟨xrr, xdr⟩
def lexis_extra.f (a0 : Int) : Option (ByteArray × Bool) := if a0 = 1 then (some ((⟨#[58]⟩ : ByteArray), true)) else (if a0 = 2 then (some ((⟨#[]⟩ : ByteArray), true)) else (if a0 = 3 then (some ((⟨#[58, 64]⟩ : ByteArray), true)) else (if a0 = 4 then (some ((⟨#[64]⟩ : ByteArray), true)) else (if a0 = 5 then (some ((⟨#[58, 64, 47]⟩ : ByteArray), true)) else (if a0 = 6 then (some ((⟨#[58, 64, 47, 63]⟩ : ByteArray), true)) else (if a0 = 7 then (some ((⟨#[58, 64, 47, 63]⟩ : ByteArray), true)) else (some ((⟨#[]⟩ : ByteArray), false))))))))
set_option maxHeartbeats 8000000 in
set_option maxRecDepth 100000 in
theorem lexis_extra.calls (a0 : Int) (r1 : ByteArray) (r2 : Bool) (w : World) (h : lexis_extra.f a0 = some (r1, r2)) :
    Calls Tryd.prog 44 #[.int .i64 a0] w fun e w' => e = .returned (.tuple #[.string r1, .bool r2]) ∧ Drawn0 w w' := by
 have H : (if a0 = 1 then (some ((⟨#[58]⟩ : ByteArray), true)) else (if a0 = 2 then (some ((⟨#[]⟩ : ByteArray), true)) else (if a0 = 3 then (some ((⟨#[58, 64]⟩ : ByteArray), true)) else (if a0 = 4 then (some ((⟨#[64]⟩ : ByteArray), true)) else (if a0 = 5 then (some ((⟨#[58, 64, 47]⟩ : ByteArray), true)) else (if a0 = 6 then (some ((⟨#[58, 64, 47, 63]⟩ : ByteArray), true)) else (if a0 = 7 then (some ((⟨#[58, 64, 47, 63]⟩ : ByteArray), true)) else (some ((⟨#[]⟩ : ByteArray), false))))))))) = some (r1, r2) := h
 clear h
 by_cases c2 : a0 = 1
 ·
  rw [if_pos c2] at H
  have c2b0 : (a0 == 1) = true := beq_iff_eq.mpr c2
  have c2b1 : (a0 != 1) = false := bne_eq_false_iff_eq.mpr c2
  clear c2
  simp only [Option.some.injEq, Prod.mk.injEq] at H
  obtain ⟨rfl, rfl⟩ := H
  go_enter Tryd.func44, Tryd.ntmps44
  go_wp2
  go_ret2
  exact ⟨xrr, xdr⟩
 ·
  rw [if_neg c2] at H
  have c2b0 : (a0 == 1) = false := beq_eq_false_iff_ne.mpr c2
  have c2b1 : (a0 != 1) = true := bne_iff_ne.mpr c2
  by_cases c3 : a0 = 2
  ·
   rw [if_pos c3] at H
   have c3b0 : (a0 == 2) = true := beq_iff_eq.mpr c3
   have c3b1 : (a0 != 2) = false := bne_eq_false_iff_eq.mpr c3
   clear c3
   simp only [Option.some.injEq, Prod.mk.injEq] at H
   obtain ⟨rfl, rfl⟩ := H
   go_enter Tryd.func44, Tryd.ntmps44
   go_wp2
   go_ret2
   exact ⟨xrr, xdr⟩
  ·
   rw [if_neg c3] at H
   have c3b0 : (a0 == 2) = false := beq_eq_false_iff_ne.mpr c3
   have c3b1 : (a0 != 2) = true := bne_iff_ne.mpr c3
   by_cases c4 : a0 = 3
   ·
    rw [if_pos c4] at H
    have c4b0 : (a0 == 3) = true := beq_iff_eq.mpr c4
    have c4b1 : (a0 != 3) = false := bne_eq_false_iff_eq.mpr c4
    clear c4
    simp only [Option.some.injEq, Prod.mk.injEq] at H
    obtain ⟨rfl, rfl⟩ := H
    go_enter Tryd.func44, Tryd.ntmps44
    go_wp2
    go_ret2
    exact ⟨xrr, xdr⟩
   ·
    rw [if_neg c4] at H
    have c4b0 : (a0 == 3) = false := beq_eq_false_iff_ne.mpr c4
    have c4b1 : (a0 != 3) = true := bne_iff_ne.mpr c4
    by_cases c5 : a0 = 4
    ·
     rw [if_pos c5] at H
     have c5b0 : (a0 == 4) = true := beq_iff_eq.mpr c5
     have c5b1 : (a0 != 4) = false := bne_eq_false_iff_eq.mpr c5
     clear c5
     simp only [Option.some.injEq, Prod.mk.injEq] at H
     obtain ⟨rfl, rfl⟩ := H
     go_enter Tryd.func44, Tryd.ntmps44
     go_wp2
     go_ret2
     exact ⟨xrr, xdr⟩
    ·
     rw [if_neg c5] at H
     have c5b0 : (a0 == 4) = false := beq_eq_false_iff_ne.mpr c5
     have c5b1 : (a0 != 4) = true := bne_iff_ne.mpr c5
     by_cases c6 : a0 = 5
     ·
      rw [if_pos c6] at H
      have c6b0 : (a0 == 5) = true := beq_iff_eq.mpr c6
      have c6b1 : (a0 != 5) = false := bne_eq_false_iff_eq.mpr c6
      clear c6
      simp only [Option.some.injEq, Prod.mk.injEq] at H
      obtain ⟨rfl, rfl⟩ := H
      go_enter Tryd.func44, Tryd.ntmps44
      go_wp2
      go_ret2
      exact ⟨xrr, xdr⟩
     ·
      rw [if_neg c6] at H
      have c6b0 : (a0 == 5) = false := beq_eq_false_iff_ne.mpr c6
      have c6b1 : (a0 != 5) = true := bne_iff_ne.mpr c6
      by_cases c7 : a0 = 6
      ·
       rw [if_pos c7] at H
       have c7b0 : (a0 == 6) = true := beq_iff_eq.mpr c7
       have c7b1 : (a0 != 6) = false := bne_eq_false_iff_eq.mpr c7
       clear c7
       simp only [Option.some.injEq, Prod.mk.injEq] at H
       obtain ⟨rfl, rfl⟩ := H
       go_enter Tryd.func44, Tryd.ntmps44
       go_wp2
       go_ret2
       exact ⟨xrr, xdr⟩
      ·
       rw [if_neg c7] at H
       have c7b0 : (a0 == 6) = false := beq_eq_false_iff_ne.mpr c7
       have c7b1 : (a0 != 6) = true := bne_iff_ne.mpr c7
       by_cases c8 : a0 = 7
       ·
        rw [if_pos c8] at H
        have c8b0 : (a0 == 7) = true := beq_iff_eq.mpr c8
        have c8b1 : (a0 != 7) = false := bne_eq_false_iff_eq.mpr c8
        clear c8
        simp only [Option.some.injEq, Prod.mk.injEq] at H
        obtain ⟨rfl, rfl⟩ := H
        go_enter Tryd.func44, Tryd.ntmps44
        go_wp2
        go_ret2
        exact ⟨xrr, xdr⟩
       ·
        rw [if_neg c8] at H
        have c8b0 : (a0 == 7) = false := beq_eq_false_iff_ne.mpr c8
        have c8b1 : (a0 != 7) = true := bne_iff_ne.mpr c8
        simp only [Option.some.injEq, Prod.mk.injEq] at H
        obtain ⟨rfl, rfl⟩ := H
        go_enter Tryd.func44, Tryd.ntmps44
        go_wp2
        go_ret2
        exact ⟨xrr, xdr⟩
end Go.Proofs.YticohlbfolnmpaaDoor.X
