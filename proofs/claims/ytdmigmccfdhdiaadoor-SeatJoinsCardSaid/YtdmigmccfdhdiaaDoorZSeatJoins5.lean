/- Texts that the law's proof needs, joined by a program of this session. -/
import Derived.Test.YtdmigmccfdhdiaaDoorZSeatJoins1
import Derived.Test.YtdmigmccfdhdiaaDoorZSeatJoins2
import Derived.Test.YtdmigmccfdhdiaaDoorZSeatJoins3
import Derived.Test.YtdmigmccfdhdiaaDoorZSeatJoins4
namespace Go.Proofs.YtdmigmccfdhdiaaDoor.X
open Go.RowKit Go.Proofs.YtdmigmccfdhdiaaDoorW.PrintWords Go.Proofs.YtdmigmccfdhdiaaDoorW.PrintLast Go.Proofs.YtdmigmccfdhdiaaDoorW.PrintMore
attribute [local go_sem] max2_int min2_int max_two min_two max_three min_three max_four min_four
set_option linter.unusedVariables false
set_option linter.unusedSimpArgs false
mutual
def ip_words.l0 : Nat → Bool → List Int → List ByteArray → List ByteArray → Int → Int → Option (List Int × Bool)
  | 0, _, _, _, _, _, _ => none
  | k + 1, x1, x6, x7, x18, x19, x20 => if x20 < x19 then (if 0 ≤ x20 then (if x20 < (x18.length : Int) then ((ip_V4.f k (rdOf ByteArray.empty x18 x20)).bind fun bt182 => (if bt182.2.2.2.2 = true then (if x1 = true then (ip_words.j1 k x1 x6 x7 (rdOf ByteArray.empty x18 x20) x18 x19 x20 (x20 == (wrap64 ((x7.length : Int) - 1))) bt182.1 bt182.2.1 bt182.2.2.1 bt182.2.2.2.1) else (ip_words.j1 k x1 x6 x7 (rdOf ByteArray.empty x18 x20) x18 x19 x20 false bt182.1 bt182.2.1 bt182.2.2.1 bt182.2.2.2.1)) else (ip_words.j1 k x1 x6 x7 (rdOf ByteArray.empty x18 x20) x18 x19 x20 false bt182.1 bt182.2.1 bt182.2.2.1 bt182.2.2.2.1))) else (none)) else (none)) else (some (x6, true))
def ip_words.j1 : Nat → Bool → List Int → List ByteArray → ByteArray → List ByteArray → Int → Int → Bool → Int → Int → Int → Int → Option (List Int × Bool)
  | 0, _, _, _, _, _, _, _, _, _, _, _, _ => none
  | k + 1, x1, x6, x7, x9, x18, x19, x20, x40, x188000, x188001, x188002, x188003 => if x40 = true then ((some (([Go.bits .or .u16 (IntKind.u16.wrap ((IntKind.u16.wrap (x188000)) * 256)) (IntKind.u16.wrap (x188001)), Go.bits .or .u16 (IntKind.u16.wrap ((IntKind.u16.wrap (x188002)) * 256)) (IntKind.u16.wrap (x188003))] : List Int) : List Int)).bind fun y188 => (if x6.length + y188.length < 70368744177664 then (some ((x6 ++ y188), true)) else (none))) else ((ip_word.f k x9).bind fun bt194 => (if bt194.2 = true then (if x6.length < 70368744177664 then (ip_words.l0 k x1 (x6 ++ [bt194.1]) x7 x18 x19 (wrap64 (x20 + 1))) else (none)) else (some (([] : List Int), false))))
end
def ip_words.f (k : Nat) (a0 : ByteArray) (a1 : Bool) : Option (List Int × Bool) := if a0.toList = ([] : List UInt8) then (some (([] : List Int), true)) else ((strings_Split.f a0 (⟨#[58]⟩ : ByteArray)).bind fun t178 => (ip_words.l0 k a1 ([] : List Int) t178 t178 (t178.length : Int) 0))
theorem ip_words.mono_l : ∀ k, (∀ y0 y1 y2 y3 y4 y5, LeO (ip_words.l0 k y0 y1 y2 y3 y4 y5) (ip_words.l0 (k + 1) y0 y1 y2 y3 y4 y5)) ∧ (∀ y0 y1 y2 y3 y4 y5 y6 y7 y8 y9 y10 y11, LeO (ip_words.j1 k y0 y1 y2 y3 y4 y5 y6 y7 y8 y9 y10 y11) (ip_words.j1 (k + 1) y0 y1 y2 y3 y4 y5 y6 y7 y8 y9 y10 y11))
  | 0 => ⟨fun _ _ _ _ _ _ r h => by simp [ip_words.l0] at h, fun _ _ _ _ _ _ _ _ _ _ _ _ r h => by simp [ip_words.j1] at h⟩
  | k + 1 => by
    obtain ⟨ih0, ih1⟩ := ip_words.mono_l k
    have m0 := @ip_V4.mono; have m1 := @ip_word.mono
    refine ⟨?_, ?_⟩
    · intro y0 y1 y2 y3 y4 y5
      unfold ip_words.l0
      exact xmo
    · intro y0 y1 y2 y3 y4 y5 y6 y7 y8 y9 y10 y11
      unfold ip_words.j1
      exact xmo
theorem ip_words.mono : ∀ a0 a1 k, LeO (ip_words.f k a0 a1) (ip_words.f (k + 1) a0 a1) := by
  intro a0 a1 k
  obtain ⟨ih0, ih1⟩ := ip_words.mono_l k
  have m0 := @ip_V4.mono; have m1 := @ip_word.mono
  unfold ip_words.f
  exact xmo
set_option maxHeartbeats 8000000 in
set_option maxRecDepth 100000 in
theorem ip_words.calls (k : Nat) (a0 : ByteArray) (a1 : Bool) (r1 : List Int) (r2 : Bool) (w : World) (hG : GW w) (h : ip_words.f k a0 a1 = some (r1, r2)) :
    Calls Tryd.prog 47 #[.string a0, .bool a1] w fun e w' => ∃ v0_ : Value, e = .returned (.tuple #[v0_, .bool r2]) ∧ Kd.R (Kd.int .u16) 49 w' w.heap.size (fun _ => True) v0_ r1 ∧ Below w.heap.size w w' := by
 have hu53 := Tryd.underlying53
 have HB := Aside0.mk (Below.refl w.heap.size w)
 have H : (if a0.toList = ([] : List UInt8) then (some (([] : List Int), true)) else ((strings_Split.f a0 (⟨#[58]⟩ : ByteArray)).bind fun t178 => (ip_words.l0 k a1 ([] : List Int) t178 t178 (t178.length : Int) 0))) = some (r1, r2) := h
 clear h
 by_cases c3 : a0.toList = ([] : List UInt8)
 ·
  rw [if_pos c3] at H
  have c3b0 : (a0.toList == ([] : List UInt8)) = true := beq_iff_eq.mpr c3
  have c3b1 : (a0.toList != ([] : List UInt8)) = false := bne_eq_false_iff_eq.mpr c3
  clear c3
  simp only [Option.some.injEq, Prod.mk.injEq] at H
  obtain ⟨rfl, rfl⟩ := H
  go_enter Tryd.func47, Tryd.ntmps47
  go_wp2
  go_ret2
  exact ⟨_, by first | rfl | (simp [errW_none, errW_some] <;> first | rfl | (simp only [xp_isEmpty, bne, Bool.not_not]; done)) | (simp [*, errW_none, errW_some] <;> rfl), by first | exact Kd.R_nil _ _ _ _ _ | exact Kd.N_nil _ _ _ _ _ | exact Kd.V_nil _ _ _ _ _ | exact Kd.Q_nil _ _ _ _ _ | exact Kd.S_nil _ _ _ _ _, xbl⟩
 ·
  rw [if_neg c3] at H
  have c3b0 : (a0.toList == ([] : List UInt8)) = false := beq_eq_false_iff_ne.mpr c3
  have c3b1 : (a0.toList != ([] : List UInt8)) = true := bne_iff_ne.mpr c3
  replace H := Option.bind_eq_some_iff.mp H
  obtain ⟨t178, A40, H⟩ := H
  try dsimp only at H
  have A4 := Aside0.mk A40
  clear A40
  have H' := Aside0.mk H
  clear H
  go_enter Tryd.func47, Tryd.ntmps47
  go_wp2_with (first | ((with_reducible refine gate_callee (f := 49) rfl ?_); refine xgl 17 Tryd.func49 #[.string a0, .string (⟨#[58]⟩ : ByteArray)] ?_; (with_reducible refine (strings_Split.calls a0 (⟨#[58]⟩ : ByteArray) t178 _ ?side1 A4.out).mono ?_); (case side1 => first | exact hG | exact GW_to hG xbl); rintro e w5 ⟨v179, rfl, ho0, hb⟩; refine ⟨_, rfl, ?_⟩; have HO180 := Aside0.mk (Kd.R_lower ho0 (below_size xbl)); replace HB := xst hb; (try clear hb); (try clear ho0); obtain ⟨Ao6, co6, eo6⟩ := Kd.R_slice HO180.out; subst eo6))
  go_loopg [6, 20] k (fun kq v6 v20 w' => ∃ (x6_1 : List Int) (x20_1 : Int), v20 = .int .i64 x20_1 ∧ Aside0 (ip_words.l0 kq a1 x6_1 t178 t178 (t178.length : Int) x20_1 = some (r1, r2)) ∧ Aside0 (kq ≤ k) ∧ Aside0 (Kd.R (Kd.int .u16) 49 w' w.heap.size (fun _ => True) v6 x6_1) ∧ Aside0 (Kd.R Kd.string 9 w' w.heap.size (fun _ => True) (.slice Ao6 t178.length co6) t178) ∧ Aside0 (Kd.R Kd.string 9 w' w.heap.size (fun _ => True) (.slice Ao6 t178.length co6) t178) ∧ Aside0 (Below w.heap.size w w'))
  case atStart => exact ⟨(([] : List Int)), (0), xrr, H', ⟨Nat.le_refl _⟩, ⟨by first | exact Kd.R_nil _ _ _ _ _ | exact Kd.N_nil _ _ _ _ _ | exact Kd.V_nil _ _ _ _ _ | exact Kd.Q_nil _ _ _ _ _ | exact Kd.S_nil _ _ _ _ _⟩, ⟨xkd HO180⟩, ⟨xkd HO180⟩, ⟨xbl⟩⟩
  case round =>
   clear H'
   clear c3b0 c3b1
   obtain ⟨x6_1, x20_1, rfl, HA, HK1, HO_6, HO_7, HO_18, HB⟩ := hrel
   cases gk with
   | zero => exact absurd HA.out (by simp [ip_words.l0])
   | succ k1 =>
    have H := HA.out
    clear HA
    simp only [ip_words.l0] at H
    by_cases c7 : x20_1 < (t178.length : Int)
    ·
     rw [if_pos c7] at H
     have c7b0 := decide_eq_true c7
     clear c7
     by_cases c8 : 0 ≤ x20_1
     ·
      rw [if_pos c8] at H
      have c8b0 := decide_eq_true c8
      clear c8
      by_cases c9 : x20_1 < (t178.length : Int)
      ·
       rw [if_pos c9] at H
       have c9b0 := decide_eq_true c9
       clear c9
       replace H := Option.bind_eq_some_iff.mp H
       obtain ⟨⟨t182, t183, t184, t185, t186⟩, A100, H⟩ := H
       try dsimp only at H
       have A10 := Aside0.mk A100
       clear A100
       have HC11 := Aside0.mk H
       clear H
       have p181 : 0 ≤ (x20_1 : Int) := xod
       have q181 : x20_1 < (t178.length : Int) := xod
       obtain ⟨ad181, e181, hx181_0⟩ := Kd.at_string (Kd.R_reads' HO_18.out).2.2 x20_1 p181 q181
       cases e181
       replace p181 := eq_true p181
       replace q181 := eq_true q181
       try (have q181x := q181; simp only [ByteArray.size_extract, Nat.min_self] at q181x)
       go_upto_region 9 with (first | ((with_reducible refine gate_callee (f := 29) rfl ?_); refine xgl 27 Tryd.func29 #[.string (rdOf ByteArray.empty t178 x20_1)] ?_; (with_reducible refine (ip_V4.calls k1 (rdOf ByteArray.empty t178 x20_1) t182 t183 t184 t185 t186 _ ?side1 A10.out).mono ?_); (case side1 => first | exact hG | exact GW_to hG xbl); rintro e w12 ⟨rfl, hb⟩; refine ⟨_, rfl, ?_⟩; replace HO_6 := Aside0.mk (Kd.R_below (xkd HO_6) hb); replace HO_7 := Aside0.mk (Kd.R_below (xkd HO_7) hb); replace HO_18 := Aside0.mk (Kd.R_below (xkd HO_18) hb); replace HB := xst hb; (try clear hb)) | ((with_reducible refine gate_dst (N := 10) rfl ?_); (try (refine gate_guard (by rfl) ?_; dsimp only)); refine xev 10 #[.int .u8 0, .int .u8 0, .int .u8 0, .int .u8 0] 53 ?_; intro gb187 hg w13 hbox hb; have BK187 := Aside0.mk (hbox); have GW187 := xsz hg; have GE187 := GW187; replace HO_6 := Aside0.mk (Kd.R_below (xkd HO_6) hb); replace HO_7 := Aside0.mk (Kd.R_below (xkd HO_7) hb); replace HO_18 := Aside0.mk (Kd.R_below (xkd HO_18) hb); replace HB := xst hb; clear hb hbox hg; obtain ⟨hcz14_0, hcz14_1, hcz14_2, hcz14_3⟩ := xc4 BK187; have hfz14_0 := xf BK187 0; have hfz14_1 := xf BK187 1; have hfz14_2 := xf BK187 2; have hfz14_3 := xf BK187 3))
       (try simp only [Act.put, List.setIfInBounds_toArray, List.set_cons_zero, List.set_cons_succ])
       go_cut [40] (fun v40 wc => ∃ (kq : Nat) (x40_10 : Bool), v40 = .bool x40_10 ∧ Aside0 (ip_words.j1 kq a1 x6_1 t178 (rdOf ByteArray.empty t178 x20_1) t178 (t178.length : Int) x20_1 x40_10 t182 t183 t184 t185 = some (r1, r2)) ∧ Aside0 (kq ≤ k1) ∧ Aside0 (Kd.R (Kd.int .u16) 49 wc w.heap.size (fun _ => True) u6 x6_1) ∧ Aside0 (Kd.R Kd.string 9 wc w.heap.size (fun _ => True) (.slice (some ad181) t178.length co6) t178) ∧ Aside0 (Kd.R Kd.string 9 wc w.heap.size (fun _ => True) (.slice (some ad181) t178.length co6) t178) ∧ Aside0 (wc.heap[gb187]? = some (.cells #[.int .u8 t182, .int .u8 t183, .int .u8 t184, .int .u8 t185] 53 (0, 0))) ∧ Aside0 (Below w.heap.size w wc))
       case first =>
        have H := HC11.out
        clear HC11
        by_cases c15 : t186 = true
        ·
         subst c15
         rw [if_pos rfl] at H
         by_cases c16 : a1 = true
         ·
          subst c16
          rw [if_pos rfl] at H
          have H' := Aside0.mk H
          clear H
          go_wp2
          go_meet
          case rel => exact ⟨_, ((x20_1 == (wrap64 ((t178.length : Int) - 1)))), xrr, H', ⟨by have := HK1.out; first | omega | exact Nat.le_refl _⟩, ⟨by (with_reducible repeat (first | apply Kd.R_alloc | apply Kd.R_drewN | apply Kd.R_drew)); exact Kd.R_mono (Kd.R_far (p := ⟨gb187, 3, none⟩) (Kd.R_far (p := ⟨gb187, 2, none⟩) (Kd.R_far (p := ⟨gb187, 1, none⟩) (Kd.R_far (p := ⟨gb187, 0, none⟩) (Kd.R_types HO_6.out BK187.out (by decide)) (fun _ hk => hk.2) (.int .u8 t182)) (fun _ hk => hk.2) (.int .u8 t183)) (fun _ hk => hk.2) (.int .u8 t184)) (fun _ hk => hk.2) (.int .u8 t185)) (fun _ hk => trivial)⟩, ⟨by (with_reducible repeat (first | apply Kd.R_alloc | apply Kd.R_drewN | apply Kd.R_drew)); exact Kd.R_mono (Kd.R_far (p := ⟨gb187, 3, none⟩) (Kd.R_far (p := ⟨gb187, 2, none⟩) (Kd.R_far (p := ⟨gb187, 1, none⟩) (Kd.R_far (p := ⟨gb187, 0, none⟩) (Kd.R_types HO_7.out BK187.out (by decide)) (fun _ hk => hk.2) (.int .u8 t182)) (fun _ hk => hk.2) (.int .u8 t183)) (fun _ hk => hk.2) (.int .u8 t184)) (fun _ hk => hk.2) (.int .u8 t185)) (fun _ hk => trivial)⟩, ⟨by (with_reducible repeat (first | apply Kd.R_alloc | apply Kd.R_drewN | apply Kd.R_drew)); exact Kd.R_mono (Kd.R_far (p := ⟨gb187, 3, none⟩) (Kd.R_far (p := ⟨gb187, 2, none⟩) (Kd.R_far (p := ⟨gb187, 1, none⟩) (Kd.R_far (p := ⟨gb187, 0, none⟩) (Kd.R_types HO_18.out BK187.out (by decide)) (fun _ hk => hk.2) (.int .u8 t182)) (fun _ hk => hk.2) (.int .u8 t183)) (fun _ hk => hk.2) (.int .u8 t184)) (fun _ hk => hk.2) (.int .u8 t185)) (fun _ hk => trivial)⟩, ⟨by (with_reducible repeat (first | refine blk_drewN ?_ _ | refine blk_drew ?_ | refine blk_alloc ?_ _)); refine blk_put (cs := #[.int .u8 t182, .int .u8 t183, .int .u8 t184, .int .u8 0]) ?_ 3 _ rfl; (with_reducible repeat (first | refine blk_drewN ?_ _ | refine blk_drew ?_ | refine blk_alloc ?_ _)); refine blk_put (cs := #[.int .u8 t182, .int .u8 t183, .int .u8 0, .int .u8 0]) ?_ 2 _ rfl; (with_reducible repeat (first | refine blk_drewN ?_ _ | refine blk_drew ?_ | refine blk_alloc ?_ _)); refine blk_put (cs := #[.int .u8 t182, .int .u8 0, .int .u8 0, .int .u8 0]) ?_ 1 _ rfl; (with_reducible repeat (first | refine blk_drewN ?_ _ | refine blk_drew ?_ | refine blk_alloc ?_ _)); refine blk_put (cs := #[.int .u8 0, .int .u8 0, .int .u8 0, .int .u8 0]) ?_ 0 _ rfl; (with_reducible repeat (first | refine blk_drewN ?_ _ | refine blk_drew ?_ | refine blk_alloc ?_ _)); exact BK187.out⟩, ⟨xbl⟩⟩
         ·
          replace c16 := Bool.eq_false_iff.mpr c16
          subst c16
          rw [if_neg (show ¬ (false = true) by decide)] at H
          have H' := Aside0.mk H
          clear H
          go_wp2
          go_meet
          case rel => exact ⟨_, (false), xrr, H', ⟨by have := HK1.out; first | omega | exact Nat.le_refl _⟩, ⟨by (with_reducible repeat (first | apply Kd.R_alloc | apply Kd.R_drewN | apply Kd.R_drew)); exact Kd.R_mono (Kd.R_far (p := ⟨gb187, 3, none⟩) (Kd.R_far (p := ⟨gb187, 2, none⟩) (Kd.R_far (p := ⟨gb187, 1, none⟩) (Kd.R_far (p := ⟨gb187, 0, none⟩) (Kd.R_types HO_6.out BK187.out (by decide)) (fun _ hk => hk.2) (.int .u8 t182)) (fun _ hk => hk.2) (.int .u8 t183)) (fun _ hk => hk.2) (.int .u8 t184)) (fun _ hk => hk.2) (.int .u8 t185)) (fun _ hk => trivial)⟩, ⟨by (with_reducible repeat (first | apply Kd.R_alloc | apply Kd.R_drewN | apply Kd.R_drew)); exact Kd.R_mono (Kd.R_far (p := ⟨gb187, 3, none⟩) (Kd.R_far (p := ⟨gb187, 2, none⟩) (Kd.R_far (p := ⟨gb187, 1, none⟩) (Kd.R_far (p := ⟨gb187, 0, none⟩) (Kd.R_types HO_7.out BK187.out (by decide)) (fun _ hk => hk.2) (.int .u8 t182)) (fun _ hk => hk.2) (.int .u8 t183)) (fun _ hk => hk.2) (.int .u8 t184)) (fun _ hk => hk.2) (.int .u8 t185)) (fun _ hk => trivial)⟩, ⟨by (with_reducible repeat (first | apply Kd.R_alloc | apply Kd.R_drewN | apply Kd.R_drew)); exact Kd.R_mono (Kd.R_far (p := ⟨gb187, 3, none⟩) (Kd.R_far (p := ⟨gb187, 2, none⟩) (Kd.R_far (p := ⟨gb187, 1, none⟩) (Kd.R_far (p := ⟨gb187, 0, none⟩) (Kd.R_types HO_18.out BK187.out (by decide)) (fun _ hk => hk.2) (.int .u8 t182)) (fun _ hk => hk.2) (.int .u8 t183)) (fun _ hk => hk.2) (.int .u8 t184)) (fun _ hk => hk.2) (.int .u8 t185)) (fun _ hk => trivial)⟩, ⟨by (with_reducible repeat (first | refine blk_drewN ?_ _ | refine blk_drew ?_ | refine blk_alloc ?_ _)); refine blk_put (cs := #[.int .u8 t182, .int .u8 t183, .int .u8 t184, .int .u8 0]) ?_ 3 _ rfl; (with_reducible repeat (first | refine blk_drewN ?_ _ | refine blk_drew ?_ | refine blk_alloc ?_ _)); refine blk_put (cs := #[.int .u8 t182, .int .u8 t183, .int .u8 0, .int .u8 0]) ?_ 2 _ rfl; (with_reducible repeat (first | refine blk_drewN ?_ _ | refine blk_drew ?_ | refine blk_alloc ?_ _)); refine blk_put (cs := #[.int .u8 t182, .int .u8 0, .int .u8 0, .int .u8 0]) ?_ 1 _ rfl; (with_reducible repeat (first | refine blk_drewN ?_ _ | refine blk_drew ?_ | refine blk_alloc ?_ _)); refine blk_put (cs := #[.int .u8 0, .int .u8 0, .int .u8 0, .int .u8 0]) ?_ 0 _ rfl; (with_reducible repeat (first | refine blk_drewN ?_ _ | refine blk_drew ?_ | refine blk_alloc ?_ _)); exact BK187.out⟩, ⟨xbl⟩⟩
        ·
         replace c15 := Bool.eq_false_iff.mpr c15
         subst c15
         rw [if_neg (show ¬ (false = true) by decide)] at H
         have H' := Aside0.mk H
         clear H
         go_wp2
         go_meet
         case rel => exact ⟨_, (false), xrr, H', ⟨by have := HK1.out; first | omega | exact Nat.le_refl _⟩, ⟨by (with_reducible repeat (first | apply Kd.R_alloc | apply Kd.R_drewN | apply Kd.R_drew)); exact Kd.R_mono (Kd.R_far (p := ⟨gb187, 3, none⟩) (Kd.R_far (p := ⟨gb187, 2, none⟩) (Kd.R_far (p := ⟨gb187, 1, none⟩) (Kd.R_far (p := ⟨gb187, 0, none⟩) (Kd.R_types HO_6.out BK187.out (by decide)) (fun _ hk => hk.2) (.int .u8 t182)) (fun _ hk => hk.2) (.int .u8 t183)) (fun _ hk => hk.2) (.int .u8 t184)) (fun _ hk => hk.2) (.int .u8 t185)) (fun _ hk => trivial)⟩, ⟨by (with_reducible repeat (first | apply Kd.R_alloc | apply Kd.R_drewN | apply Kd.R_drew)); exact Kd.R_mono (Kd.R_far (p := ⟨gb187, 3, none⟩) (Kd.R_far (p := ⟨gb187, 2, none⟩) (Kd.R_far (p := ⟨gb187, 1, none⟩) (Kd.R_far (p := ⟨gb187, 0, none⟩) (Kd.R_types HO_7.out BK187.out (by decide)) (fun _ hk => hk.2) (.int .u8 t182)) (fun _ hk => hk.2) (.int .u8 t183)) (fun _ hk => hk.2) (.int .u8 t184)) (fun _ hk => hk.2) (.int .u8 t185)) (fun _ hk => trivial)⟩, ⟨by (with_reducible repeat (first | apply Kd.R_alloc | apply Kd.R_drewN | apply Kd.R_drew)); exact Kd.R_mono (Kd.R_far (p := ⟨gb187, 3, none⟩) (Kd.R_far (p := ⟨gb187, 2, none⟩) (Kd.R_far (p := ⟨gb187, 1, none⟩) (Kd.R_far (p := ⟨gb187, 0, none⟩) (Kd.R_types HO_18.out BK187.out (by decide)) (fun _ hk => hk.2) (.int .u8 t182)) (fun _ hk => hk.2) (.int .u8 t183)) (fun _ hk => hk.2) (.int .u8 t184)) (fun _ hk => hk.2) (.int .u8 t185)) (fun _ hk => trivial)⟩, ⟨by (with_reducible repeat (first | refine blk_drewN ?_ _ | refine blk_drew ?_ | refine blk_alloc ?_ _)); refine blk_put (cs := #[.int .u8 t182, .int .u8 t183, .int .u8 t184, .int .u8 0]) ?_ 3 _ rfl; (with_reducible repeat (first | refine blk_drewN ?_ _ | refine blk_drew ?_ | refine blk_alloc ?_ _)); refine blk_put (cs := #[.int .u8 t182, .int .u8 t183, .int .u8 0, .int .u8 0]) ?_ 2 _ rfl; (with_reducible repeat (first | refine blk_drewN ?_ _ | refine blk_drew ?_ | refine blk_alloc ?_ _)); refine blk_put (cs := #[.int .u8 t182, .int .u8 0, .int .u8 0, .int .u8 0]) ?_ 1 _ rfl; (with_reducible repeat (first | refine blk_drewN ?_ _ | refine blk_drew ?_ | refine blk_alloc ?_ _)); refine blk_put (cs := #[.int .u8 0, .int .u8 0, .int .u8 0, .int .u8 0]) ?_ 0 _ rfl; (with_reducible repeat (first | refine blk_drewN ?_ _ | refine blk_drew ?_ | refine blk_alloc ?_ _)); exact BK187.out⟩, ⟨xbl⟩⟩
       case rest =>
        clear HC11
        clear c7b0 c8b0 c9b0 p181 q181
        try clear hx181_0
        obtain ⟨kq, x40_10, rfl, HA, HJ10, HO_6, HO_7, HO_18, BK187, HB⟩ := hcut
        cases kq with
        | zero => exact absurd HA.out (by simp [ip_words.j1])
        | succ kj10 =>
         have H := HA.out
         clear HA
         simp only [ip_words.j1] at H
         by_cases c17 : x40_10 = true
         ·
          subst c17
          rw [if_pos rfl] at H
          obtain ⟨y188, hy188⟩ : ∃ y_ : List Int, y_ = (([Go.bits .or .u16 (IntKind.u16.wrap ((IntKind.u16.wrap (t182)) * 256)) (IntKind.u16.wrap (t183)), Go.bits .or .u16 (IntKind.u16.wrap ((IntKind.u16.wrap (t184)) * 256)) (IntKind.u16.wrap (t185))] : List Int)) := ⟨_, rfl⟩
          replace H : (if x6_1.length + y188.length < 70368744177664 then (some ((x6_1 ++ y188), true)) else (none)) = some (r1, r2) := by first | (rw [hy188]; with_reducible exact H) | (have H2_ := (Option.bind_some _ _).symm.trans H; rw [hy188]; with_reducible exact H2_) | (have H2_ := (Option.bind_some _ _).symm.trans H; with_reducible exact H2_) | with_reducible exact H | (rw [hy188]; exact H) | exact H
          have Ny188 := Aside0.mk hy188
          clear hy188
          by_cases c18 : x6_1.length + y188.length < 70368744177664
          ·
           rw [if_pos c18] at H
           have LMc18 := Aside0.mk c18
           clear c18
           obtain ⟨y191, hy191⟩ : ∃ y_ : List Int, y_ = (x6_1 ++ y188) := ⟨_, rfl⟩
           replace H : (some (y191, true)) = some (r1, r2) := by first | (rw [hy191]; with_reducible exact H) | (have H2_ := (Option.bind_some _ _).symm.trans H; rw [hy191]; with_reducible exact H2_) | (have H2_ := (Option.bind_some _ _).symm.trans H; with_reducible exact H2_) | with_reducible exact H | (rw [hy191]; exact H) | exact H
           have Ny191 := Aside0.mk hy191
           clear hy191
           simp only [Option.some.injEq, Prod.mk.injEq] at H
           obtain ⟨rfl, rfl⟩ := H
           obtain ⟨hcz19_0, hcz19_1, hcz19_2, hcz19_3⟩ := xc4 BK187
           have hfz19_0 := xf BK187 0
           have hfz19_1 := xf BK187 1
           have hfz19_2 := xf BK187 2
           have hfz19_3 := xf BK187 3
           go_wp2_with (first | ((with_reducible refine gate_dst (N := 58) rfl ?_); (try (refine gate_guard (by rfl) ?_; dsimp only)); refine Kd.R_lit (Kd.int .u16) _ 49 ?hg (N := 58) ?hd (xs := ([Go.bits .or .u16 (IntKind.u16.wrap ((IntKind.u16.wrap (t182)) * 256)) (IntKind.u16.wrap (t183)), Go.bits .or .u16 (IntKind.u16.wrap ((IntKind.u16.wrap (t184)) * 256)) (IntKind.u16.wrap (t185))] : List Int)) (inner := [.int .u16 (Go.bits .or .u16 (IntKind.u16.wrap ((IntKind.u16.wrap (t182)) * 256)) (IntKind.u16.wrap (t183))), .int .u16 (Go.bits .or .u16 (IntKind.u16.wrap ((IntKind.u16.wrap (t184)) * 256)) (IntKind.u16.wrap (t185)))]) (ok := fun _ => True) (okp := fun _ => True) ?hr ?hp (fun _ hk => hk) trivial (Below.refl _ _) (Nat.le_refl _) (by simp) ?_; (case hd => rfl); (case hg => rfl); (case hr => first | (go_simp; done) | (go_simp; rfl)); (case hp => exact (Reps.one (show Kd.M (Kd.int .u16) _ _ _ (Go.bits .or .u16 (IntKind.u16.wrap ((IntKind.u16.wrap (t182)) * 256)) (IntKind.u16.wrap (t183))) [.int .u16 (Go.bits .or .u16 (IntKind.u16.wrap ((IntKind.u16.wrap (t182)) * 256)) (IntKind.u16.wrap (t183)))] from rfl) (Reps.one (show Kd.M (Kd.int .u16) _ _ _ (Go.bits .or .u16 (IntKind.u16.wrap ((IntKind.u16.wrap (t184)) * 256)) (IntKind.u16.wrap (t185))) [.int .u16 (Go.bits .or .u16 (IntKind.u16.wrap ((IntKind.u16.wrap (t184)) * 256)) (IntKind.u16.wrap (t185)))] from rfl) (Reps.none _ _)))); intro v189 w20 ho21 hb hg_ hnew_; clear hg_ hnew_; (first | rw [← Ny188.out] at ho21 | (simp only [Int.reduceToNat] at ho21; rw [← Ny188.out] at ho21)); have HO190 := Aside0.mk (Kd.R_lower (Kd.R_new' ho21 (Kd.R_lt (xkd HO_6))) (below_size xbl)); replace HO_6 := Aside0.mk (Kd.R_elder' (xkd HO_6) (Kd.R_base ho21) hb); replace HO_7 := Aside0.mk (Kd.R_below (xkd HO_7) hb); replace HO_18 := Aside0.mk (Kd.R_below (xkd HO_18) hb); replace BK187 := xbb (g := gb187) (o := .cells #[.int .u8 t182, .int .u8 t183, .int .u8 t184, .int .u8 t185] 53 (0, 0)) hb; replace HB := xst hb; clear hb ho21; obtain ⟨Ao23, co23, eo23⟩ := Kd.R_slice HO190.out; subst eo23) | ((with_reducible refine gate_builtin (b := .append) (xs := #[.tmp 41, .tmp 58]) rfl ?_); (try (refine gate_guard (by rfl) ?_; dsimp only)); at_builtin; refine Kd.R_append_rows (Kd.int .u16) (w0 := w) w.heap.size rfl (.tmp 41) (.tmp 58) 78 49 (.int .u16 0) 2 rfl Tryd.underlying78 info49 rfl (by decide) (by omega) u6 x6_1 y188 _ _ _ (fun k_ => some k_ ≠ (.slice Ao23 y188.length co23 : Value).ownBlock) (fun _ => False) rfl rfl ?aO ?aR (fun _ _ h => h) (fun _ h => h.elim) ?aF ?aB ?aS ?aL ?_; (case aR => repeat (first | exact (Kd.R_reads' HO190.out).2.2 | (with_reducible refine Kd.C_alloc ?_ _) | (with_reducible refine Kd.C_drewN ?_ _) | (with_reducible refine Kd.C_drew ?_))); (case aB => exact xbl); (case aF => exact (fun k_ hk => Kd.fresh' (Kd.R_lt (xkd HO190)) k_ hk)); (case aO => exact (by (with_reducible repeat (first | apply Kd.R_alloc | apply Kd.R_drewN | apply Kd.R_drew)); exact Kd.R_mono HO_6.out (fun _ hk => hk.2))); (case aS => exact (below_size xbl)); (case aL => have := LMc18.out; omega); intro v192 w22 ho hb hg hat; rw [← Ny191.out] at ho; have n0_ := Aside0.mk (Kd.R_over' (xkd HO_7) (Kd.R_typed (xkd HO_6)) (by decide) hg); have n1_ := Aside0.mk (Kd.R_over' (xkd HO_18) (Kd.R_typed (xkd HO_6)) (by decide) hg); have n2_ := Aside0.mk (blk_grown (g := gb187) (o := .cells #[.int .u8 t182, .int .u8 t183, .int .u8 t184, .int .u8 t185] 53 (0, 0)) xbk hg (Kd.R_ne HO_6.out BK187.out (by decide))); have n3_ := Aside0.mk (Kd.R_after (ok := (fun _ => True)) (xkd HO190) hg hat); have n4_ := Aside0.mk (hb); have n5_ := Aside0.mk (ho); clear HO_7; clear HO_18; clear BK187; clear HO190; clear HB; clear HO_6; have HO_7 := n0_; have HO_18 := n1_; have BK187 := n2_; have HO190 := n3_; have HB := n4_; have HO193 := n5_; clear n0_ n1_ n2_ n3_ n4_ n5_; clear ho hb hg hat))
           go_ret2
           exact ⟨_, by first | rfl | (simp [errW_none, errW_some] <;> first | rfl | (simp only [xp_isEmpty, bne, Bool.not_not]; done)) | (simp [*, errW_none, errW_some] <;> rfl), by (with_reducible repeat (first | apply Kd.R_alloc | apply Kd.R_drewN | apply Kd.R_drew)); exact Kd.R_mono HO193.out (fun _ hk => trivial), xbl⟩
          ·
           rw [if_neg c18] at H
           exact absurd H (by simp)
         ·
          replace c17 := Bool.eq_false_iff.mpr c17
          subst c17
          rw [if_neg (show ¬ (false = true) by decide)] at H
          replace H := Option.bind_eq_some_iff.mp H
          obtain ⟨⟨t194, t195⟩, A240, H⟩ := H
          try dsimp only at H
          have A24 := Aside0.mk A240
          clear A240
          by_cases c25 : t195 = true
          ·
           subst c25
           rw [if_pos rfl] at H
           by_cases c26 : x6_1.length < 70368744177664
           ·
            rw [if_pos c26] at H
            have LMc26 := Aside0.mk c26
            clear c26
            obtain ⟨y196, hy196⟩ : ∃ y_ : List Int, y_ = (x6_1 ++ [t194]) := ⟨_, rfl⟩
            replace H : (ip_words.l0 kj10 a1 y196 t178 t178 (t178.length : Int) (wrap64 (x20_1 + 1))) = some (r1, r2) := by first | (rw [hy196]; with_reducible exact H) | (have H2_ := (Option.bind_some _ _).symm.trans H; rw [hy196]; with_reducible exact H2_) | (have H2_ := (Option.bind_some _ _).symm.trans H; with_reducible exact H2_) | with_reducible exact H | (rw [hy196]; exact H) | exact H
            have Ny196 := Aside0.mk hy196
            clear hy196
            have H' := Aside0.mk H
            clear H
            go_wp2_with (first | ((with_reducible refine gate_callee (f := 66) rfl ?_); refine xgl 62 Tryd.func66 #[.string (rdOf ByteArray.empty t178 x20_1)] ?_; (with_reducible refine (ip_word.calls kj10 (rdOf ByteArray.empty t178 x20_1) t194 true _ A24.out).mono ?_); rintro e w' ⟨rfl, ⟨nd, rfl⟩⟩; refine ⟨_, rfl, ?_⟩) | ((with_reducible refine gate_builtin (b := .append) (xs := #[.tmp 67, .tmp 69]) rfl ?_); (try (refine gate_guard (by rfl) ?_; dsimp only)); at_builtin; refine Kd.R_append (Kd.int .u16) (w0 := w) w.heap.size rfl (.tmp 67) (.tmp 69) 78 49 (.int .u16 0) 2 rfl Tryd.underlying78 info49 rfl (by decide) (by omega) u6 x6_1 t194 [.int .u16 t194] (fun _ => True) (fun _ => False) rfl rfl ?aP (fun _ hk => hk.elim) ?aF ?aO ?aB ?aS ?aL ?_; (case aP => exact rfl); (case aB => exact xbl); (case aF => exact (fun _ _ => trivial)); (case aO => exact (xkd HO_6)); (case aS => exact (below_size xbl)); (case aL => have := LMc26.out; omega); intro v197 w27 ho hb hg hat; rw [← Ny196.out] at ho; have n0_ := Aside0.mk (Kd.R_over' (xkd HO_7) (Kd.R_typed (xkd HO_6)) (by decide) hg); have n1_ := Aside0.mk (Kd.R_over' (xkd HO_18) (Kd.R_typed (xkd HO_6)) (by decide) hg); have n2_ := Aside0.mk (blk_grown (g := gb187) (o := .cells #[.int .u8 t182, .int .u8 t183, .int .u8 t184, .int .u8 t185] 53 (0, 0)) xbk hg (Kd.R_ne HO_6.out BK187.out (by decide))); have n3_ := Aside0.mk (hb); have n4_ := Aside0.mk (ho); clear HO_7; clear HO_18; clear BK187; clear HB; clear HO_6; have HO_7 := n0_; have HO_18 := n1_; have BK187 := n2_; have HB := n3_; have HO198 := n4_; clear n0_ n1_ n2_ n3_ n4_; clear ho hb hg hat))
            go_roundg kj10
            case measure => have := HK1.out; have := HJ10.out; omega
            case rel => exact ⟨(y196), (wrap64 (x20_1 + 1)), xrr, H', ⟨by have := HK1.out; have := HJ10.out; omega⟩, ⟨xkd HO198⟩, ⟨xkd HO_7⟩, ⟨xkd HO_18⟩, ⟨xbl⟩⟩
           ·
            rw [if_neg c26] at H
            exact absurd H (by simp)
          ·
           replace c25 := Bool.eq_false_iff.mpr c25
           subst c25
           rw [if_neg (show ¬ (false = true) by decide)] at H
           simp only [Option.some.injEq, Prod.mk.injEq] at H
           obtain ⟨rfl, rfl⟩ := H
           go_wp2_with (first | ((with_reducible refine gate_callee (f := 66) rfl ?_); refine xgl 62 Tryd.func66 #[.string (rdOf ByteArray.empty t178 x20_1)] ?_; (with_reducible refine (ip_word.calls kj10 (rdOf ByteArray.empty t178 x20_1) t194 false _ A24.out).mono ?_); rintro e w' ⟨rfl, ⟨nd, rfl⟩⟩; refine ⟨_, rfl, ?_⟩))
           go_ret2
           exact ⟨_, by first | rfl | (simp [errW_none, errW_some] <;> first | rfl | (simp only [xp_isEmpty, bne, Bool.not_not]; done)) | (simp [*, errW_none, errW_some] <;> rfl), by first | exact Kd.R_nil _ _ _ _ _ | exact Kd.N_nil _ _ _ _ _ | exact Kd.V_nil _ _ _ _ _ | exact Kd.Q_nil _ _ _ _ _ | exact Kd.S_nil _ _ _ _ _, xbl⟩
      ·
       rw [if_neg c9] at H
       exact absurd H (by simp)
     ·
      rw [if_neg c8] at H
      exact absurd H (by simp)
    ·
     rw [if_neg c7] at H
     have c7b0 := decide_eq_false c7
     clear c7
     simp only [Option.some.injEq, Prod.mk.injEq] at H
     obtain ⟨rfl, rfl⟩ := H
     go_wp2
     go_ret2
     exact ⟨_, by first | rfl | (simp [errW_none, errW_some] <;> first | rfl | (simp only [xp_isEmpty, bne, Bool.not_not]; done)) | (simp [*, errW_none, errW_some] <;> rfl), by (with_reducible repeat (first | apply Kd.R_alloc | apply Kd.R_drewN | apply Kd.R_drew)); exact HO_6.out, xbl⟩
theorem ip_V6_row {w : World} {e base : Nat} {ok : Nat → Prop} {v : Value} {xs : List Int} (h : Kd.R (Kd.int .u16) e w base ok v xs) :
    ∃ A c, v = .slice A xs.length c ∧ ((A = none ∧ xs = []) ∨ ∃ g cur, A = some ⟨g, 0, none⟩ ∧ base ≤ g ∧ w.heap[g]? = some (.cells cur e (0, 0)) ∧ cur.toList.take xs.length = xs.map (Value.int .u16)) := by
  have ho := Kd.own_of_R h
  obtain ⟨hl, h1 | ⟨g, cap, cur, rfl, hb, hh, _, _, _, ht⟩⟩ := ho
  · obtain ⟨rfl, hn⟩ := h1
    exact ⟨none, 0, by rw [hn], .inl ⟨rfl, List.eq_nil_of_length_eq_zero hn⟩⟩
  · refine ⟨some ⟨g, 0, none⟩, cap, rfl, .inr ⟨g, cur, rfl, hb, hh, ?_⟩⟩
    rw [Nat.mul_one] at ht
    exact ht
theorem ip_V6_copy {P : Program} {dT elem ty : TypeId} (hu : P.underlying dT = some (.slice elem)) (hs : (P.info? elem).map (·.size) = some 1) {w : World} {g o n : Nat} {cur : Array Value} {t : TypeId} (hg : w.heap[g]? = some (.cells cur t (0, 0)))
    {A : Option Addr} {c : Nat} {xs : List Int} {e base : Nat} (hA : (A = none ∧ xs = []) ∨ ∃ g' cur', A = some ⟨g', 0, none⟩ ∧ base ≤ g' ∧ w.heap[g']? = some (.cells cur' e (0, 0)) ∧ cur'.toList.take xs.length = xs.map (Value.int .u16))
    (hfit : o + n ≤ cur.size) :
    (Builtin.copy_ #[dT, dT] ty #[.slice (some ⟨g, o, none⟩) n n, .slice A xs.length c]).run P w =
      .ok (goInt ((xs.take n).map (Value.int .u16)).length) (w.setRow g (cur.toList.take o ++ (xs.take n).map (Value.int .u16) ++ cur.toList.drop (o + ((xs.take n).map (Value.int .u16)).length)).toArray) := by
  rcases hA with ⟨rfl, rfl⟩ | ⟨g', cur', rfl, _, hh, ht⟩
  · have e1 : (cur.toList.take o ++ (([] : List Int).take n).map (Value.int .u16) ++ cur.toList.drop (o + ((([] : List Int).take n).map (Value.int .u16)).length)).toArray = cur := by simp
    rw [e1, setRow_self w g cur t (0, 0) hg, List.take_nil]
    exact run_copy_none w dT dT ty elem (some ⟨g, o, none⟩) none n n 0 c hu hs (by simp)
  · refine run_copy_row P w dT dT ty elem g o n n ⟨g', 0, none⟩ xs.length c cur t ((xs.take n).map (Value.int .u16)) hu hs hg (by simp [Nat.min_comm]) ?_ (by simp; omega) (by
      intro v hv
      obtain ⟨x, _, rfl⟩ := List.mem_map.1 hv
      rfl)
    intro j v hj
    have hadd : (⟨g', 0, none⟩ : Addr).add j = ⟨g', j, none⟩ := by unfold Addr.add; split <;> simp_all
    rw [hadd, cell_of_row w g' j cur' e (0, 0) hh]
    have hj2 : (xs.map (Value.int .u16))[j]? = some v := by
      rw [List.getElem?_map, List.getElem?_take] at hj
      split at hj
      · rw [List.getElem?_map]; exact hj
      · cases hj
    rw [← ht, List.getElem?_take] at hj2
    split at hj2
    · simpa using hj2
    · cases hj2
def ip_V6_zeros : List Int := [0, 0, 0, 0, 0, 0, 0, 0]
def ip_V6_tup (l : List Int) (b : Bool) : Int × Int × Int × Int × Int × Int × Int × Int × Bool := (l.getD 0 0, l.getD 1 0, l.getD 2 0, l.getD 3 0, l.getD 4 0, l.getD 5 0, l.getD 6 0, l.getD 7 0, b)
def ip_V6_cells (l : List Int) : Array Value := #[.int .u16 (l.getD 0 0), .int .u16 (l.getD 1 0), .int .u16 (l.getD 2 0), .int .u16 (l.getD 3 0), .int .u16 (l.getD 4 0), .int .u16 (l.getD 5 0), .int .u16 (l.getD 6 0), .int .u16 (l.getD 7 0)]
theorem ip_V6_cells_eq : ∀ (l : List Int), l.length = 8 → ip_V6_cells l = (l.map (Value.int .u16)).toArray
  | [_, _, _, _, _, _, _, _], _ => rfl
theorem ip_V6_one (l : List Int) : (ip_V6_cells l).all (·.oneCell') = true := by simp [ip_V6_cells, Value.oneCell']
theorem ip_V6_splice (l xs : List Int) (o : Nat) (hl : l.length = 8) (ho : o + xs.length ≤ 8) :
    ((ip_V6_cells l).toList.take o ++ xs.map (Value.int .u16) ++ (ip_V6_cells l).toList.drop (o + (xs.map (Value.int .u16)).length)).toArray = ip_V6_cells (l.take o ++ xs ++ l.drop (o + xs.length)) := by
  rw [ip_V6_cells_eq l hl, ip_V6_cells_eq _ (by simp; omega)]
  simp
theorem ip_V6_row_below {b : Nat} {w w2 : World} (h : Below b w w2) {g : Nat} (hg : b ≤ g) (cs : Array Value) : Below b w (w2.setRow g cs) := below_setRow h hg cs
def ip_V6_At (w : World) (W : World) (l : List Int) : Prop := W.heap[w.heap.size]? = some (.cells (ip_V6_cells ip_V6_zeros) 50 (0, 0)) ∧ W.heap[w.heap.size + 1]? = some (.cells (ip_V6_cells l) 50 (0, 0)) ∧ Below w.heap.size w W ∧ w.heap.size + 2 ≤ W.heap.size
theorem ip_V6_At.made (w : World) : ip_V6_At w ((w.alloc (.cells (ip_V6_cells ip_V6_zeros) 50)).alloc (.cells (ip_V6_cells ip_V6_zeros) 50)) ip_V6_zeros :=
  ⟨heap_alloc2_old w _ _, heap_alloc2_new w _ _, ((Below.refl _ _).alloc (Nat.le_refl _) _).alloc (by simp) _, by simp⟩
theorem ip_V6_At.below {w W W' : World} {l : List Int} (h : ip_V6_At w W l) (hb : Below W.heap.size W W') : ip_V6_At w W' l :=
  ⟨(hb.block _ (by have := h.2.2.2; omega)).trans h.1, (hb.block _ (by have := h.2.2.2; omega)).trans h.2.1, h.2.2.1.trans (hb.mono (by have := h.2.2.2; omega)), by have := h.2.2.2; have := hb.size; omega⟩
theorem ip_V6_At.drewN {w W : World} {l : List Int} (h : ip_V6_At w W l) (n : Nat) : ip_V6_At w (W.drewN n) l := h.below (Drawn0.below ⟨n, rfl⟩)
theorem ip_V6_At.copied {w W : World} {l l' : List Int} (h : ip_V6_At w W l) : ip_V6_At w (W.setRow (w.heap.size + 1) (ip_V6_cells l')) l' :=
  ⟨by rw [setRow_other _ _ _ _ (by omega)]; exact h.1, setRow_heap _ _ _ _ _ _ h.2.1, ip_V6_row_below h.2.2.1 (by omega) _, by simpa using h.2.2.2⟩
def ip_V6_Row (W : World) (b : Nat) (A : Option Addr) (p : List Int) : Prop := (A = none ∧ p = []) ∨ ∃ g cur, A = some ⟨g, 0, none⟩ ∧ b ≤ g ∧ W.heap[g]? = some (.cells cur 49 (0, 0)) ∧ cur.toList.take p.length = p.map (Value.int .u16)
theorem ip_V6_Row.below {W W' : World} {b : Nat} {A : Option Addr} {p : List Int} (h : ip_V6_Row W b A p) (hb : Below W.heap.size W W') : ip_V6_Row W' b A p := by
  rcases h with h | ⟨g, cur, h1, h2, h3, h4⟩
  · exact .inl h
  · refine .inr ⟨g, cur, h1, h2, (hb.block _ ?_).trans h3, h4⟩
    rw [Array.getElem?_eq_some_iff] at h3
    exact h3.1
theorem ip_V6_Row.setRow {W : World} {b : Nat} {A : Option Addr} {p : List Int} (h : ip_V6_Row W b A p) {g : Nat} (hg : g < b) (cs : Array Value) : ip_V6_Row (W.setRow g cs) b A p := by
  rcases h with h | ⟨g', cur, h1, h2, h3, h4⟩
  · exact .inl h
  · exact .inr ⟨g', cur, h1, h2, by rw [setRow_other _ _ _ _ (by omega)]; exact h3, h4⟩
def ip_V6_put (l : List Int) (o : Nat) (xs : List Int) (n : Nat) : List Int := l.take o ++ xs.take n ++ l.drop (o + (xs.take n).length)
theorem ip_V6_put_len (l xs : List Int) (o n : Nat) (hl : l.length = 8) (h : o + n ≤ 8) : (ip_V6_put l o xs n).length = 8 := by
  unfold ip_V6_put; simp; omega
theorem ip_V6_copied {w W : World} {l p : List Int} {A : Option Addr} {b c : Nat} {o n : Nat} (h : ip_V6_At w W l) (hA : ip_V6_Row W b A p) (hl : l.length = 8) (ho : o + n ≤ 8) :
    (Builtin.copy_ #[78, 78] 3 #[.slice (some ⟨w.heap.size + 1, o, none⟩) n n, .slice A p.length c]).run Tryd.prog W =
      .ok (goInt (p.take n).length) (W.setRow (w.heap.size + 1) (ip_V6_cells (ip_V6_put l o p n))) := by
  have := ip_V6_copy (P := Tryd.prog) (dT := 78) (elem := 49) (ty := 3) Tryd.underlying78 (by kernel_rfl) (w := W) (o := o) (n := n) h.2.1 (c := c) hA (by have : (ip_V6_cells l).size = 8 := rfl; omega)
  rw [ip_V6_splice l (p.take n) o hl (by rw [List.length_take]; omega), List.length_map] at this
  exact this
theorem ip_V6_base {w W w1 : World} {A : Option Addr} {p : List Int} (h2 : w.heap.size + 2 ≤ W.heap.size) (h : (A = none ∧ p = []) ∨ ∃ g cur, A = some ⟨g, 0, none⟩ ∧ W.heap.size ≤ g ∧ w1.heap[g]? = some (.cells cur 49 (0, 0)) ∧ cur.toList.take p.length = p.map (Value.int .u16)) : ip_V6_Row w1 (w.heap.size + 2) A p := by
  rcases h with h | ⟨g, cur, h1, h3, h4⟩
  · exact .inl h
  · exact .inr ⟨g, cur, h1, by omega, h4⟩
set_option maxHeartbeats 1000000 in
set_option maxRecDepth 100000 in
theorem ip_V6_no1 (k : Nat) (a0 x y : ByteArray) (sh : Bool) (p q : List Int) (w : World) (hG : GW w) (hcut : strings_Cut.f a0 (⟨#[58, 58]⟩ : ByteArray) = some (x, y, sh)) (hw : ip_words.f k x (!sh) = some (p, false)) :
    Calls Tryd.prog 27 #[.string a0] w fun e w' => e = .returned (.tuple #[.agg (ip_V6_cells ip_V6_zeros), .bool false]) ∧ Below w.heap.size w w' := by
  have hu8 := Tryd.underlying50
  have A1 := Aside0.mk hcut
  have A2 := Aside0.mk hw
  clear hcut hw
  go_enter Tryd.func27, Tryd.ntmps27
  go_wp2_with (first | (go_at_call 46; (refine (strings_Cut.calls a0 ⟨#[58, 58]⟩ x y sh _ (by exact GW_to hG (ip_V6_At.made w).2.2.1) A1.out).mono ?_); rintro e w' ⟨rfl, ⟨nd, rfl⟩⟩; generalize hW : World.drewN _ nd = W; have VA := Aside0.mk (show ip_V6_At w W ip_V6_zeros from by rw [← hW]; exact (ip_V6_At.made w).drewN nd); clear hW) | ((with_reducible refine gate_callee (f := 47) rfl ?_); refine goesL_ (some 21) rfl rfl Tryd.func47 (by kernel_rfl) rfl #[.string x, .bool (!sh)] rfl (by (try simp only [List.map_toArray, List.map_cons, List.map_nil]); first | done | rfl) ?_; (refine (ip_words.calls k x (!sh) p false _ (by exact GW_to hG VA.out.2.2.1) A2.out).mono ?_); rintro e w1 ⟨v1, rfl, hr, hb⟩; have VB := Aside0.mk (VA.out.below hb); obtain ⟨A, c, rfl, hA⟩ := ip_V6_row hr; have HA := Aside0.mk (show ip_V6_Row w1 (w.heap.size + 2) A p from ip_V6_base VA.out.2.2.2 hA); clear hA hr hb; refine ⟨_, rfl, ?_⟩) | (refine wpList_load_row rfl 50 (.tmp 4) rfl (w.heap.size + 1) rfl 50 (ip_V6_cells ip_V6_zeros) (0, 0) _ VB.out.2.1 hu8 rfl (by kernel_rfl) ?_; refine wpList_store_row rfl 50 (.tmp 2) (.tmp 26) rfl w.heap.size (ip_V6_cells ip_V6_zeros) ?x1 ?x2 50 (ip_V6_cells ip_V6_zeros) VB.out.1 ?x3 ?x4 ?x5 ?_; (case x1 => rfl); (case x2 => rfl); (case x3 => exact (show (Tryd.prog.info? 50).map (·.size) = some 8 by kernel_rfl)); (case x4 => rfl); (case x5 => exact ip_V6_one _)))
  refine bodyPost_ret (results_ct rfl _ _ w.heap.size 50 (ip_V6_cells ip_V6_zeros) (0, 0) _ rfl (setRow_heap _ _ _ _ _ _ VB.out.1) Tryd.underlying50 rfl (show (Tryd.prog.info? 50).map (·.size) = some 8 by kernel_rfl)) rfl ⟨rfl, ip_V6_row_below VB.out.2.2.1 (Nat.le_refl _) _⟩
set_option maxHeartbeats 1000000 in
set_option maxRecDepth 100000 in
theorem ip_V6_full (k : Nat) (a0 x y : ByteArray) (sh : Bool) (p q : List Int) (w : World) (hG : GW w) (hcut : strings_Cut.f a0 (⟨#[58, 58]⟩ : ByteArray) = some (x, y, false)) (hw : ip_words.f k x true = some (p, true)) (h8 : p.length = 8) :
    Calls Tryd.prog 27 #[.string a0] w fun e w' => e = .returned (.tuple #[.agg (ip_V6_cells (ip_V6_put ip_V6_zeros 0 p 8)), .bool true]) ∧ Below w.heap.size w w' := by
  have hu8 := Tryd.underlying50
  have A1 := Aside0.mk hcut
  have A2 := Aside0.mk hw
  clear hcut hw
  have t8 : ((p.length : Int) != 8) = false := by simp [h8]
  clear h8
  go_enter Tryd.func27, Tryd.ntmps27
  go_wp2_with (first | (go_at_call 46; (refine (strings_Cut.calls a0 ⟨#[58, 58]⟩ x y false _ (by exact GW_to hG (ip_V6_At.made w).2.2.1) A1.out).mono ?_); rintro e w' ⟨rfl, ⟨nd, rfl⟩⟩; generalize hW : World.drewN _ nd = W; have VA := Aside0.mk (show ip_V6_At w W ip_V6_zeros from by rw [← hW]; exact (ip_V6_At.made w).drewN nd); clear hW) | ((with_reducible refine gate_callee (f := 47) rfl ?_); refine goesL_ (some 21) rfl rfl Tryd.func47 (by kernel_rfl) rfl #[.string x, .bool true] rfl (by (try simp only [List.map_toArray, List.map_cons, List.map_nil]); first | done | rfl) ?_; (refine (ip_words.calls k x true p true _ (by exact GW_to hG VA.out.2.2.1) A2.out).mono ?_); rintro e w1 ⟨v1, rfl, hr, hb⟩; have VB := Aside0.mk (VA.out.below hb); obtain ⟨A, c, rfl, hA⟩ := ip_V6_row hr; have HA := Aside0.mk (show ip_V6_Row w1 (w.heap.size + 2) A p from ip_V6_base VA.out.2.2.2 hA); clear hA hr hb; refine ⟨_, rfl, ?_⟩) | (refine Lib.wpList_copy_run _ rfl (.tmp 29) (.tmp 30) 78 78 rfl (.slice (some ⟨w.heap.size + 1, 0, none⟩) 8 8) (.slice A p.length c) ?y1 ?y2 (ip_V6_copied (o := 0) (n := 8) VB.out HA.out ?y3 ?y4) ?_; (case y1 => rfl); (case y2 => rfl); (case y3 => first | rfl | exact ip_V6_put_len _ _ _ _ rfl (by omega)); (case y4 => omega); have VC := Aside0.mk (VB.out.copied (l' := (ip_V6_put ip_V6_zeros 0 p 8))); generalize World.setRow _ _ _ = W2 at VC ⊢) | (refine wpList_load_row rfl 50 (.tmp 4) rfl (w.heap.size + 1) rfl 50 (ip_V6_cells (ip_V6_put ip_V6_zeros 0 p 8)) (0, 0) _ VC.out.2.1 hu8 rfl (by kernel_rfl) ?_; refine wpList_store_row rfl 50 (.tmp 2) (.tmp 36) rfl w.heap.size (ip_V6_cells (ip_V6_put ip_V6_zeros 0 p 8)) ?x1 ?x2 50 (ip_V6_cells ip_V6_zeros) VC.out.1 ?x3 ?x4 ?x5 ?_; (case x1 => rfl); (case x2 => rfl); (case x3 => exact (show (Tryd.prog.info? 50).map (·.size) = some 8 by kernel_rfl)); (case x4 => rfl); (case x5 => exact ip_V6_one _)))
  refine bodyPost_ret (results_ct rfl _ _ w.heap.size 50 (ip_V6_cells (ip_V6_put ip_V6_zeros 0 p 8)) (0, 0) _ rfl (setRow_heap _ _ _ _ _ _ VC.out.1) Tryd.underlying50 rfl (show (Tryd.prog.info? 50).map (·.size) = some 8 by kernel_rfl)) rfl ⟨rfl, ip_V6_row_below VC.out.2.2.1 (Nat.le_refl _) _⟩
set_option maxHeartbeats 1000000 in
set_option maxRecDepth 100000 in
theorem ip_V6_few (k : Nat) (a0 x y : ByteArray) (sh : Bool) (p q : List Int) (w : World) (hG : GW w) (hcut : strings_Cut.f a0 (⟨#[58, 58]⟩ : ByteArray) = some (x, y, false)) (hw : ip_words.f k x true = some (p, true)) (h8 : ¬ p.length = 8) :
    Calls Tryd.prog 27 #[.string a0] w fun e w' => e = .returned (.tuple #[.agg (ip_V6_cells ip_V6_zeros), .bool false]) ∧ Below w.heap.size w w' := by
  have hu8 := Tryd.underlying50
  have A1 := Aside0.mk hcut
  have A2 := Aside0.mk hw
  clear hcut hw
  have t8 : ((p.length : Int) != 8) = true := by rw [bne_iff_ne]; omega
  clear h8
  go_enter Tryd.func27, Tryd.ntmps27
  go_wp2_with (first | (go_at_call 46; (refine (strings_Cut.calls a0 ⟨#[58, 58]⟩ x y false _ (by exact GW_to hG (ip_V6_At.made w).2.2.1) A1.out).mono ?_); rintro e w' ⟨rfl, ⟨nd, rfl⟩⟩; generalize hW : World.drewN _ nd = W; have VA := Aside0.mk (show ip_V6_At w W ip_V6_zeros from by rw [← hW]; exact (ip_V6_At.made w).drewN nd); clear hW) | ((with_reducible refine gate_callee (f := 47) rfl ?_); refine goesL_ (some 21) rfl rfl Tryd.func47 (by kernel_rfl) rfl #[.string x, .bool true] rfl (by (try simp only [List.map_toArray, List.map_cons, List.map_nil]); first | done | rfl) ?_; (refine (ip_words.calls k x true p true _ (by exact GW_to hG VA.out.2.2.1) A2.out).mono ?_); rintro e w1 ⟨v1, rfl, hr, hb⟩; have VB := Aside0.mk (VA.out.below hb); obtain ⟨A, c, rfl, hA⟩ := ip_V6_row hr; have HA := Aside0.mk (show ip_V6_Row w1 (w.heap.size + 2) A p from ip_V6_base VA.out.2.2.2 hA); clear hA hr hb; refine ⟨_, rfl, ?_⟩) | (refine Lib.wpList_copy_run _ rfl (.tmp 29) (.tmp 30) 78 78 rfl (.slice (some ⟨w.heap.size + 1, 0, none⟩) 8 8) (.slice A p.length c) ?y1 ?y2 (ip_V6_copied (o := 0) (n := 8) VB.out HA.out ?y3 ?y4) ?_; (case y1 => rfl); (case y2 => rfl); (case y3 => first | rfl | exact ip_V6_put_len _ _ _ _ rfl (by omega)); (case y4 => omega); have VC := Aside0.mk (VB.out.copied (l' := (ip_V6_put ip_V6_zeros 0 p 8))); generalize World.setRow _ _ _ = W2 at VC ⊢) | (refine wpList_store_row rfl 50 (.tmp 2) (.tmp 35) rfl w.heap.size (ip_V6_cells ip_V6_zeros) ?x1 ?x2 50 (ip_V6_cells ip_V6_zeros) VC.out.1 ?x3 ?x4 ?x5 ?_; (case x1 => rfl); (case x2 => rfl); (case x3 => exact (show (Tryd.prog.info? 50).map (·.size) = some 8 by kernel_rfl)); (case x4 => rfl); (case x5 => exact ip_V6_one _)))
  refine bodyPost_ret (results_ct rfl _ _ w.heap.size 50 (ip_V6_cells ip_V6_zeros) (0, 0) _ rfl (setRow_heap _ _ _ _ _ _ VC.out.1) Tryd.underlying50 rfl (show (Tryd.prog.info? 50).map (·.size) = some 8 by kernel_rfl)) rfl ⟨rfl, ip_V6_row_below VC.out.2.2.1 (Nat.le_refl _) _⟩
set_option maxHeartbeats 1000000 in
set_option maxRecDepth 100000 in
theorem ip_V6_no2 (k : Nat) (a0 x y : ByteArray) (sh : Bool) (p q : List Int) (w : World) (hG : GW w) (hcut : strings_Cut.f a0 (⟨#[58, 58]⟩ : ByteArray) = some (x, y, true)) (hw : ip_words.f k x false = some (p, true)) (hw2 : ip_words.f k y true = some (q, false)) :
    Calls Tryd.prog 27 #[.string a0] w fun e w' => e = .returned (.tuple #[.agg (ip_V6_cells ip_V6_zeros), .bool false]) ∧ Below w.heap.size w w' := by
  have hu8 := Tryd.underlying50
  have A1 := Aside0.mk hcut
  have A2 := Aside0.mk hw
  clear hcut hw
  have A3 := Aside0.mk hw2
  clear hw2
  go_enter Tryd.func27, Tryd.ntmps27
  go_wp2_with (first | (go_at_call 46; (refine (strings_Cut.calls a0 ⟨#[58, 58]⟩ x y true _ (by exact GW_to hG (ip_V6_At.made w).2.2.1) A1.out).mono ?_); rintro e w' ⟨rfl, ⟨nd, rfl⟩⟩; generalize hW : World.drewN _ nd = W; have VA := Aside0.mk (show ip_V6_At w W ip_V6_zeros from by rw [← hW]; exact (ip_V6_At.made w).drewN nd); clear hW) | ((with_reducible refine gate_callee (f := 47) rfl ?_); refine goesL_ (some 21) rfl rfl Tryd.func47 (by kernel_rfl) rfl #[.string x, .bool false] rfl (by (try simp only [List.map_toArray, List.map_cons, List.map_nil]); first | done | rfl) ?_; (refine (ip_words.calls k x false p true _ (by exact GW_to hG VA.out.2.2.1) A2.out).mono ?_); rintro e w1 ⟨v1, rfl, hr, hb⟩; have VB := Aside0.mk (VA.out.below hb); obtain ⟨A, c, rfl, hA⟩ := ip_V6_row hr; have HA := Aside0.mk (show ip_V6_Row w1 (w.heap.size + 2) A p from ip_V6_base VA.out.2.2.2 hA); clear hA hr hb; refine ⟨_, rfl, ?_⟩) | ((with_reducible refine gate_callee (f := 47) rfl ?_); refine goesL_ (some 39) rfl rfl Tryd.func47 (by kernel_rfl) rfl #[.string y, .bool true] rfl (by (try simp only [List.map_toArray, List.map_cons, List.map_nil]); first | done | rfl) ?_; (refine (ip_words.calls k y true q false _ (by exact GW_to hG VB.out.2.2.1) A3.out).mono ?_); rintro e w2 ⟨v2, rfl, hr, hb⟩; have VC := Aside0.mk (VB.out.below hb); have HB := Aside0.mk (HA.out.below hb); obtain ⟨A', c', rfl, hA⟩ := ip_V6_row hr; have HQ := Aside0.mk (show ip_V6_Row w2 (w.heap.size + 2) A' q from ip_V6_base VB.out.2.2.2 hA); clear hA hr hb; refine ⟨_, rfl, ?_⟩) | (refine wpList_load_row rfl 50 (.tmp 4) rfl (w.heap.size + 1) rfl 50 (ip_V6_cells ip_V6_zeros) (0, 0) _ VC.out.2.1 hu8 rfl (by kernel_rfl) ?_; refine wpList_store_row rfl 50 (.tmp 2) (.tmp 52) rfl w.heap.size (ip_V6_cells ip_V6_zeros) ?x1 ?x2 50 (ip_V6_cells ip_V6_zeros) VC.out.1 ?x3 ?x4 ?x5 ?_; (case x1 => rfl); (case x2 => rfl); (case x3 => exact (show (Tryd.prog.info? 50).map (·.size) = some 8 by kernel_rfl)); (case x4 => rfl); (case x5 => exact ip_V6_one _)))
  refine bodyPost_ret (results_ct rfl _ _ w.heap.size 50 (ip_V6_cells ip_V6_zeros) (0, 0) _ rfl (setRow_heap _ _ _ _ _ _ VC.out.1) Tryd.underlying50 rfl (show (Tryd.prog.info? 50).map (·.size) = some 8 by kernel_rfl)) rfl ⟨rfl, ip_V6_row_below VC.out.2.2.1 (Nat.le_refl _) _⟩
set_option maxHeartbeats 1000000 in
set_option maxRecDepth 100000 in
theorem ip_V6_many (k : Nat) (a0 x y : ByteArray) (sh : Bool) (p q : List Int) (w : World) (hG : GW w) (hcut : strings_Cut.f a0 (⟨#[58, 58]⟩ : ByteArray) = some (x, y, true)) (hw : ip_words.f k x false = some (p, true)) (hw2 : ip_words.f k y true = some (q, true)) (hm : 8 ≤ wrap64 ((p.length : Int) + q.length)) :
    Calls Tryd.prog 27 #[.string a0] w fun e w' => e = .returned (.tuple #[.agg (ip_V6_cells ip_V6_zeros), .bool false]) ∧ Below w.heap.size w w' := by
  have hu8 := Tryd.underlying50
  have A1 := Aside0.mk hcut
  have A2 := Aside0.mk hw
  clear hcut hw
  have A3 := Aside0.mk hw2
  clear hw2
  have t8 : decide (8 ≤ wrap64 ((p.length : Int) + q.length)) = true := decide_eq_true hm
  clear hm
  go_enter Tryd.func27, Tryd.ntmps27
  go_wp2_with (first | (go_at_call 46; (refine (strings_Cut.calls a0 ⟨#[58, 58]⟩ x y true _ (by exact GW_to hG (ip_V6_At.made w).2.2.1) A1.out).mono ?_); rintro e w' ⟨rfl, ⟨nd, rfl⟩⟩; generalize hW : World.drewN _ nd = W; have VA := Aside0.mk (show ip_V6_At w W ip_V6_zeros from by rw [← hW]; exact (ip_V6_At.made w).drewN nd); clear hW) | ((with_reducible refine gate_callee (f := 47) rfl ?_); refine goesL_ (some 21) rfl rfl Tryd.func47 (by kernel_rfl) rfl #[.string x, .bool false] rfl (by (try simp only [List.map_toArray, List.map_cons, List.map_nil]); first | done | rfl) ?_; (refine (ip_words.calls k x false p true _ (by exact GW_to hG VA.out.2.2.1) A2.out).mono ?_); rintro e w1 ⟨v1, rfl, hr, hb⟩; have VB := Aside0.mk (VA.out.below hb); obtain ⟨A, c, rfl, hA⟩ := ip_V6_row hr; have HA := Aside0.mk (show ip_V6_Row w1 (w.heap.size + 2) A p from ip_V6_base VA.out.2.2.2 hA); clear hA hr hb; refine ⟨_, rfl, ?_⟩) | ((with_reducible refine gate_callee (f := 47) rfl ?_); refine goesL_ (some 39) rfl rfl Tryd.func47 (by kernel_rfl) rfl #[.string y, .bool true] rfl (by (try simp only [List.map_toArray, List.map_cons, List.map_nil]); first | done | rfl) ?_; (refine (ip_words.calls k y true q true _ (by exact GW_to hG VB.out.2.2.1) A3.out).mono ?_); rintro e w2 ⟨v2, rfl, hr, hb⟩; have VC := Aside0.mk (VB.out.below hb); have HB := Aside0.mk (HA.out.below hb); obtain ⟨A', c', rfl, hA⟩ := ip_V6_row hr; have HQ := Aside0.mk (show ip_V6_Row w2 (w.heap.size + 2) A' q from ip_V6_base VB.out.2.2.2 hA); clear hA hr hb; refine ⟨_, rfl, ?_⟩) | (refine wpList_load_row rfl 50 (.tmp 4) rfl (w.heap.size + 1) rfl 50 (ip_V6_cells ip_V6_zeros) (0, 0) _ VC.out.2.1 hu8 rfl (by kernel_rfl) ?_; refine wpList_store_row rfl 50 (.tmp 2) (.tmp 52) rfl w.heap.size (ip_V6_cells ip_V6_zeros) ?x1 ?x2 50 (ip_V6_cells ip_V6_zeros) VC.out.1 ?x3 ?x4 ?x5 ?_; (case x1 => rfl); (case x2 => rfl); (case x3 => exact (show (Tryd.prog.info? 50).map (·.size) = some 8 by kernel_rfl)); (case x4 => rfl); (case x5 => exact ip_V6_one _)))
  refine bodyPost_ret (results_ct rfl _ _ w.heap.size 50 (ip_V6_cells ip_V6_zeros) (0, 0) _ rfl (setRow_heap _ _ _ _ _ _ VC.out.1) Tryd.underlying50 rfl (show (Tryd.prog.info? 50).map (·.size) = some 8 by kernel_rfl)) rfl ⟨rfl, ip_V6_row_below VC.out.2.2.1 (Nat.le_refl _) _⟩
set_option maxHeartbeats 1000000 in
set_option maxRecDepth 100000 in
theorem ip_V6_short (k : Nat) (a0 x y : ByteArray) (sh : Bool) (p q : List Int) (w : World) (hG : GW w) (hcut : strings_Cut.f a0 (⟨#[58, 58]⟩ : ByteArray) = some (x, y, true)) (hw : ip_words.f k x false = some (p, true)) (hw2 : ip_words.f k y true = some (q, true)) (hm : p.length + q.length < 8) (o : Nat) (ho : o + q.length = 8) (h8 : o < 8) :
    Calls Tryd.prog 27 #[.string a0] w fun e w' => e = .returned (.tuple #[.agg (ip_V6_cells (ip_V6_put (ip_V6_put ip_V6_zeros 0 p 8) o q (8 - o))), .bool true]) ∧ Below w.heap.size w w' := by
  have hu8 := Tryd.underlying50
  have A1 := Aside0.mk hcut
  have A2 := Aside0.mk hw
  clear hcut hw
  have A3 := Aside0.mk hw2
  clear hw2
  have t8 : decide (8 ≤ wrap64 ((p.length : Int) + q.length)) = false := decide_eq_false (by unfold wrap64; omega)
  have t9 : wrap64 (8 - (q.length : Int)) = (o : Int) := by unfold wrap64; omega
  have t12 : (o : Int) ≤ 8 := by omega
  have t13 : o ≤ 8 := by omega
  have t14 : ¬ 8 = o := by omega
  clear hm ho h8
  go_enter Tryd.func27, Tryd.ntmps27
  go_wp2_with (first | (go_at_call 46; (refine (strings_Cut.calls a0 ⟨#[58, 58]⟩ x y true _ (by exact GW_to hG (ip_V6_At.made w).2.2.1) A1.out).mono ?_); rintro e w' ⟨rfl, ⟨nd, rfl⟩⟩; generalize hW : World.drewN _ nd = W; have VA := Aside0.mk (show ip_V6_At w W ip_V6_zeros from by rw [← hW]; exact (ip_V6_At.made w).drewN nd); clear hW) | ((with_reducible refine gate_callee (f := 47) rfl ?_); refine goesL_ (some 21) rfl rfl Tryd.func47 (by kernel_rfl) rfl #[.string x, .bool false] rfl (by (try simp only [List.map_toArray, List.map_cons, List.map_nil]); first | done | rfl) ?_; (refine (ip_words.calls k x false p true _ (by exact GW_to hG VA.out.2.2.1) A2.out).mono ?_); rintro e w1 ⟨v1, rfl, hr, hb⟩; have VB := Aside0.mk (VA.out.below hb); obtain ⟨A, c, rfl, hA⟩ := ip_V6_row hr; have HA := Aside0.mk (show ip_V6_Row w1 (w.heap.size + 2) A p from ip_V6_base VA.out.2.2.2 hA); clear hA hr hb; refine ⟨_, rfl, ?_⟩) | ((with_reducible refine gate_callee (f := 47) rfl ?_); refine goesL_ (some 39) rfl rfl Tryd.func47 (by kernel_rfl) rfl #[.string y, .bool true] rfl (by (try simp only [List.map_toArray, List.map_cons, List.map_nil]); first | done | rfl) ?_; (refine (ip_words.calls k y true q true _ (by exact GW_to hG VB.out.2.2.1) A3.out).mono ?_); rintro e w2 ⟨v2, rfl, hr, hb⟩; have VC := Aside0.mk (VB.out.below hb); have HB := Aside0.mk (HA.out.below hb); obtain ⟨A', c', rfl, hA⟩ := ip_V6_row hr; have HQ := Aside0.mk (show ip_V6_Row w2 (w.heap.size + 2) A' q from ip_V6_base VB.out.2.2.2 hA); clear hA hr hb; refine ⟨_, rfl, ?_⟩) | (refine Lib.wpList_copy_run _ rfl (.tmp 53) (.tmp 54) 78 78 rfl (.slice (some ⟨w.heap.size + 1, 0, none⟩) 8 8) (.slice A p.length c) ?y1 ?y2 (ip_V6_copied (o := 0) (n := 8) VC.out HB.out ?y3 ?y4) ?_; (case y1 => rfl); (case y2 => rfl); (case y3 => first | rfl | exact ip_V6_put_len _ _ _ _ rfl (by omega)); (case y4 => omega); have HQ2 := Aside0.mk (HQ.out.setRow (Nat.lt_succ_self (w.heap.size + 1)) (ip_V6_cells (ip_V6_put ip_V6_zeros 0 p 8))); have VD := Aside0.mk (VC.out.copied (l' := (ip_V6_put ip_V6_zeros 0 p 8))); generalize World.setRow _ _ _ = W2 at VD HQ2 ⊢) | (refine Lib.wpList_copy_run _ rfl (.tmp 59) (.tmp 60) 78 78 rfl (.slice (some ⟨w.heap.size + 1, o, none⟩) (8 - o) (8 - o)) (.slice A' q.length c') ?y1 ?y2 (ip_V6_copied (o := o) (n := (8 - o)) VD.out HQ2.out ?y3 ?y4) ?_; (case y1 => rfl); (case y2 => rfl); (case y3 => first | rfl | exact ip_V6_put_len _ _ _ _ rfl (by omega)); (case y4 => omega); have VE := Aside0.mk (VD.out.copied (l' := (ip_V6_put (ip_V6_put ip_V6_zeros 0 p 8) o q (8 - o)))); generalize World.setRow _ _ _ = W3 at VE ⊢) | (refine wpList_load_row rfl 50 (.tmp 4) rfl (w.heap.size + 1) rfl 50 (ip_V6_cells (ip_V6_put (ip_V6_put ip_V6_zeros 0 p 8) o q (8 - o))) (0, 0) _ VE.out.2.1 hu8 rfl (by kernel_rfl) ?_; refine wpList_store_row rfl 50 (.tmp 2) (.tmp 62) rfl w.heap.size (ip_V6_cells (ip_V6_put (ip_V6_put ip_V6_zeros 0 p 8) o q (8 - o))) ?x1 ?x2 50 (ip_V6_cells ip_V6_zeros) VE.out.1 ?x3 ?x4 ?x5 ?_; (case x1 => rfl); (case x2 => rfl); (case x3 => exact (show (Tryd.prog.info? 50).map (·.size) = some 8 by kernel_rfl)); (case x4 => rfl); (case x5 => exact ip_V6_one _)))
  refine bodyPost_ret (results_ct rfl _ _ w.heap.size 50 (ip_V6_cells (ip_V6_put (ip_V6_put ip_V6_zeros 0 p 8) o q (8 - o))) (0, 0) _ rfl (setRow_heap _ _ _ _ _ _ VE.out.1) Tryd.underlying50 rfl (show (Tryd.prog.info? 50).map (·.size) = some 8 by kernel_rfl)) rfl ⟨rfl, ip_V6_row_below VE.out.2.2.1 (Nat.le_refl _) _⟩
set_option maxHeartbeats 1000000 in
set_option maxRecDepth 100000 in
theorem ip_V6_short8 (k : Nat) (a0 x y : ByteArray) (sh : Bool) (p q : List Int) (w : World) (hG : GW w) (hcut : strings_Cut.f a0 (⟨#[58, 58]⟩ : ByteArray) = some (x, y, true)) (hw : ip_words.f k x false = some (p, true)) (hw2 : ip_words.f k y true = some (q, true)) (hm : p.length < 8) (hq : q.length = 0) :
    Calls Tryd.prog 27 #[.string a0] w fun e w' => e = .returned (.tuple #[.agg (ip_V6_cells (ip_V6_put (ip_V6_put ip_V6_zeros 0 p 8) 0 q 0)), .bool true]) ∧ Below w.heap.size w w' := by
  have hu8 := Tryd.underlying50
  have A1 := Aside0.mk hcut
  have A2 := Aside0.mk hw
  clear hcut hw
  have A3 := Aside0.mk hw2
  clear hw2
  have t8 : decide (8 ≤ wrap64 ((p.length : Int) + q.length)) = false := decide_eq_false (by unfold wrap64; omega)
  have t9 : wrap64 (8 - (q.length : Int)) = 8 := by unfold wrap64; omega
  clear hm hq
  go_enter Tryd.func27, Tryd.ntmps27
  go_wp2_with (first | (go_at_call 46; (refine (strings_Cut.calls a0 ⟨#[58, 58]⟩ x y true _ (by exact GW_to hG (ip_V6_At.made w).2.2.1) A1.out).mono ?_); rintro e w' ⟨rfl, ⟨nd, rfl⟩⟩; generalize hW : World.drewN _ nd = W; have VA := Aside0.mk (show ip_V6_At w W ip_V6_zeros from by rw [← hW]; exact (ip_V6_At.made w).drewN nd); clear hW) | ((with_reducible refine gate_callee (f := 47) rfl ?_); refine goesL_ (some 21) rfl rfl Tryd.func47 (by kernel_rfl) rfl #[.string x, .bool false] rfl (by (try simp only [List.map_toArray, List.map_cons, List.map_nil]); first | done | rfl) ?_; (refine (ip_words.calls k x false p true _ (by exact GW_to hG VA.out.2.2.1) A2.out).mono ?_); rintro e w1 ⟨v1, rfl, hr, hb⟩; have VB := Aside0.mk (VA.out.below hb); obtain ⟨A, c, rfl, hA⟩ := ip_V6_row hr; have HA := Aside0.mk (show ip_V6_Row w1 (w.heap.size + 2) A p from ip_V6_base VA.out.2.2.2 hA); clear hA hr hb; refine ⟨_, rfl, ?_⟩) | ((with_reducible refine gate_callee (f := 47) rfl ?_); refine goesL_ (some 39) rfl rfl Tryd.func47 (by kernel_rfl) rfl #[.string y, .bool true] rfl (by (try simp only [List.map_toArray, List.map_cons, List.map_nil]); first | done | rfl) ?_; (refine (ip_words.calls k y true q true _ (by exact GW_to hG VB.out.2.2.1) A3.out).mono ?_); rintro e w2 ⟨v2, rfl, hr, hb⟩; have VC := Aside0.mk (VB.out.below hb); have HB := Aside0.mk (HA.out.below hb); obtain ⟨A', c', rfl, hA⟩ := ip_V6_row hr; have HQ := Aside0.mk (show ip_V6_Row w2 (w.heap.size + 2) A' q from ip_V6_base VB.out.2.2.2 hA); clear hA hr hb; refine ⟨_, rfl, ?_⟩) | (refine Lib.wpList_copy_run _ rfl (.tmp 53) (.tmp 54) 78 78 rfl (.slice (some ⟨w.heap.size + 1, 0, none⟩) 8 8) (.slice A p.length c) ?y1 ?y2 (ip_V6_copied (o := 0) (n := 8) VC.out HB.out ?y3 ?y4) ?_; (case y1 => rfl); (case y2 => rfl); (case y3 => first | rfl | exact ip_V6_put_len _ _ _ _ rfl (by omega)); (case y4 => omega); have HQ2 := Aside0.mk (HQ.out.setRow (Nat.lt_succ_self (w.heap.size + 1)) (ip_V6_cells (ip_V6_put ip_V6_zeros 0 p 8))); have VD := Aside0.mk (VC.out.copied (l' := (ip_V6_put ip_V6_zeros 0 p 8))); generalize World.setRow _ _ _ = W2 at VD HQ2 ⊢) | (refine Lib.wpList_copy_run _ rfl (.tmp 59) (.tmp 60) 78 78 rfl (.slice (some ⟨w.heap.size + 1, 0, none⟩) 0 0) (.slice A' q.length c') ?y1 ?y2 (ip_V6_copied (o := 0) (n := 0) VD.out HQ2.out ?y3 ?y4) ?_; (case y1 => rfl); (case y2 => rfl); (case y3 => first | rfl | exact ip_V6_put_len _ _ _ _ rfl (by omega)); (case y4 => omega); have VE := Aside0.mk (VD.out.copied (l' := (ip_V6_put (ip_V6_put ip_V6_zeros 0 p 8) 0 q 0))); generalize World.setRow _ _ _ = W3 at VE ⊢) | (refine wpList_load_row rfl 50 (.tmp 4) rfl (w.heap.size + 1) rfl 50 (ip_V6_cells (ip_V6_put (ip_V6_put ip_V6_zeros 0 p 8) 0 q 0)) (0, 0) _ VE.out.2.1 hu8 rfl (by kernel_rfl) ?_; refine wpList_store_row rfl 50 (.tmp 2) (.tmp 62) rfl w.heap.size (ip_V6_cells (ip_V6_put (ip_V6_put ip_V6_zeros 0 p 8) 0 q 0)) ?x1 ?x2 50 (ip_V6_cells ip_V6_zeros) VE.out.1 ?x3 ?x4 ?x5 ?_; (case x1 => rfl); (case x2 => rfl); (case x3 => exact (show (Tryd.prog.info? 50).map (·.size) = some 8 by kernel_rfl)); (case x4 => rfl); (case x5 => exact ip_V6_one _)))
  refine bodyPost_ret (results_ct rfl _ _ w.heap.size 50 (ip_V6_cells (ip_V6_put (ip_V6_put ip_V6_zeros 0 p 8) 0 q 0)) (0, 0) _ rfl (setRow_heap _ _ _ _ _ _ VE.out.1) Tryd.underlying50 rfl (show (Tryd.prog.info? 50).map (·.size) = some 8 by kernel_rfl)) rfl ⟨rfl, ip_V6_row_below VE.out.2.2.1 (Nat.le_refl _) _⟩
def ip_V6.f (k : Nat) (a0 : ByteArray) : Option (Int × Int × Int × Int × Int × Int × Int × Int × Bool) :=
  (strings_Cut.f a0 (⟨#[58, 58]⟩ : ByteArray)).bind fun c => (ip_words.f k c.1 (!c.2.2)).bind fun p =>
    if p.2 = false then some (ip_V6_tup ip_V6_zeros false)
    else if c.2.2 = false then (if p.1.length = 8 then some (ip_V6_tup (ip_V6_put ip_V6_zeros 0 p.1 8) true) else some (ip_V6_tup ip_V6_zeros false))
    else (ip_words.f k c.2.1 true).bind fun q =>
      if q.2 = false then some (ip_V6_tup ip_V6_zeros false)
      else if 8 ≤ wrap64 ((p.1.length : Int) + q.1.length) then some (ip_V6_tup ip_V6_zeros false)
      else if p.1.length + q.1.length < 8 then some (ip_V6_tup (ip_V6_put (ip_V6_put ip_V6_zeros 0 p.1 8) (8 - q.1.length) q.1 q.1.length) true) else none
theorem ip_V6.mono : ∀ a0 k, LeO (ip_V6.f k a0) (ip_V6.f (k + 1) a0) := by
  intro a0 k
  unfold ip_V6.f
  exact LeO.bind (LeO.refl _) (fun c => LeO.bind (ip_words.mono _ _ _) (fun p => LeO.ite (LeO.refl _) (LeO.ite (LeO.refl _) (LeO.bind (ip_words.mono _ _ _) (fun q => LeO.refl _)))))
theorem ip_V6_known {l : List Int} {b : Bool} {r1 r2 r3 r4 r5 r6 r7 r8 : Int} {r9 : Bool} (h : ip_V6_tup l b = (r1, r2, r3, r4, r5, r6, r7, r8, r9)) : ip_V6_cells l = #[.int .u16 r1, .int .u16 r2, .int .u16 r3, .int .u16 r4, .int .u16 r5, .int .u16 r6, .int .u16 r7, .int .u16 r8] ∧ b = r9 := by
  unfold ip_V6_tup at h
  simp only [Prod.mk.injEq] at h
  obtain ⟨rfl, rfl, rfl, rfl, rfl, rfl, rfl, rfl, rfl⟩ := h
  exact ⟨rfl, rfl⟩
theorem ip_V6.calls (k : Nat) (a0 : ByteArray) (r1 : Int) (r2 : Int) (r3 : Int) (r4 : Int) (r5 : Int) (r6 : Int) (r7 : Int) (r8 : Int) (r9 : Bool) (w : World) (hG : GW w) (h : ip_V6.f k a0 = some (r1, r2, r3, r4, r5, r6, r7, r8, r9)) :
    Calls Tryd.prog 27 #[.string a0] w fun e w' => e = .returned (.tuple #[.agg #[.int .u16 r1, .int .u16 r2, .int .u16 r3, .int .u16 r4, .int .u16 r5, .int .u16 r6, .int .u16 r7, .int .u16 r8], .bool r9]) ∧ Below w.heap.size w w' := by
  unfold ip_V6.f at h
  obtain ⟨⟨x, y, sh⟩, h1, h⟩ := Option.bind_eq_some_iff.1 h
  obtain ⟨⟨p, ok⟩, h2, h⟩ := Option.bind_eq_some_iff.1 h
  simp only at h2 h
  cases ok with
  | false =>
    rw [if_pos rfl] at h
    obtain ⟨e1, e2⟩ := ip_V6_known (Option.some.inj h)
    rw [← e1, ← e2]
    exact ip_V6_no1 k a0 x y sh p [] w hG h1 h2
  | true =>
    rw [if_neg (by simp)] at h
    cases sh with
    | false =>
      rw [if_pos rfl] at h
      by_cases h8 : p.length = 8
      · rw [if_pos h8] at h
        obtain ⟨e1, e2⟩ := ip_V6_known (Option.some.inj h)
        rw [← e1, ← e2]
        exact ip_V6_full k a0 x y false p [] w hG h1 h2 h8
      · rw [if_neg h8] at h
        obtain ⟨e1, e2⟩ := ip_V6_known (Option.some.inj h)
        rw [← e1, ← e2]
        exact ip_V6_few k a0 x y false p [] w hG h1 h2 h8
    | true =>
      rw [if_neg (by simp)] at h
      obtain ⟨⟨q, ok2⟩, h3, h⟩ := Option.bind_eq_some_iff.1 h
      simp only at h3 h
      cases ok2 with
      | false =>
        rw [if_pos rfl] at h
        obtain ⟨e1, e2⟩ := ip_V6_known (Option.some.inj h)
        rw [← e1, ← e2]
        exact ip_V6_no2 k a0 x y true p q w hG h1 h2 h3
      | true =>
        rw [if_neg (by simp)] at h
        by_cases hm : 8 ≤ wrap64 ((p.length : Int) + q.length)
        · rw [if_pos hm] at h
          obtain ⟨e1, e2⟩ := ip_V6_known (Option.some.inj h)
          rw [← e1, ← e2]
          exact ip_V6_many k a0 x y true p q w hG h1 h2 h3 hm
        · rw [if_neg hm] at h
          by_cases hl : p.length + q.length < 8
          · rw [if_pos hl] at h
            obtain ⟨e1, e2⟩ := ip_V6_known (Option.some.inj h)
            rw [← e1, ← e2]
            by_cases h0 : q.length = 0
            · have := ip_V6_short8 k a0 x y true p q w hG h1 h2 h3 (by omega) h0
              obtain rfl : q = [] := List.eq_nil_of_length_eq_zero h0
              have e : ip_V6_put (ip_V6_put ip_V6_zeros 0 p 8) (8 - 0) [] 0 = ip_V6_put (ip_V6_put ip_V6_zeros 0 p 8) 0 [] 0 := by
                generalize ip_V6_put ip_V6_zeros 0 p 8 = l
                unfold ip_V6_put
                simp
              simp only [List.length_nil]
              rw [e]
              exact this
            · have := ip_V6_short k a0 x y true p q w hG h1 h2 h3 hl (8 - q.length) (by omega) (by omega)
              rw [show 8 - (8 - q.length) = q.length from by omega] at this
              exact this
          · rw [if_neg hl] at h; cases h
def octet_Span.l0 : Nat → ByteArray → Int → Int → Int → Option (Int)
  | 0, _, _, _, _ => none
  | k + 1, x0, x1, x7, x8 => if x8 < x7 then (if 0 ≤ x8 then (if x8 < (x0.size : Int) then ((octet_Is.f k (bt x0 x8) x1).bind fun t199 => (if t199 = true then (octet_Span.l0 k x0 x1 x7 (wrap64 (x8 + 1))) else (some x8))) else (none)) else (none)) else (some (x0.size : Int))
def octet_Span.f (k : Nat) (a0 : ByteArray) (a1 : Int) : Option (Int) := octet_Span.l0 k a0 a1 (a0.size : Int) 0
theorem octet_Span.mono_l : ∀ k, (∀ y0 y1 y2 y3, LeO (octet_Span.l0 k y0 y1 y2 y3) (octet_Span.l0 (k + 1) y0 y1 y2 y3))
  | 0 => fun _ _ _ _ r h => by simp [octet_Span.l0] at h
  | k + 1 => by
    have ih0 := octet_Span.mono_l k
    have m0 := @octet_Is.mono
    · intro y0 y1 y2 y3
      unfold octet_Span.l0
      exact xmo
theorem octet_Span.mono : ∀ a0 a1 k, LeO (octet_Span.f k a0 a1) (octet_Span.f (k + 1) a0 a1) := by
  intro a0 a1 k
  have ih0 := octet_Span.mono_l k
  have m0 := @octet_Is.mono
  unfold octet_Span.f
  exact xmo
set_option maxHeartbeats 8000000 in
set_option maxRecDepth 100000 in
theorem octet_Span.calls (k : Nat) (a0 : ByteArray) (a1 : Int) (r : Int) (w : World) (h : octet_Span.f k a0 a1 = some r) :
    Calls Tryd.prog 18 #[.string a0, .int .i64 a1] w fun e w' => e = .returned (.int .i64 r) ∧ Drawn0 w w' := by
 have H : (octet_Span.l0 k a0 a1 (a0.size : Int) 0) = some r := h
 clear h
 have H' := Aside0.mk H
 clear H
 go_enter Tryd.func18, Tryd.ntmps18
 go_wp2
 go_loopg [8] k (fun kq v8 w' => ∃ (x8_1 : Int), v8 = .int .i64 x8_1 ∧ Aside0 (octet_Span.l0 kq a0 a1 (a0.size : Int) x8_1 = some r) ∧ Aside0 (kq ≤ k) ∧ Drawn0 w w')
 case atStart => exact ⟨(0), xrr, H', ⟨Nat.le_refl _⟩, xdr⟩
 case round =>
  clear H'
  obtain ⟨x8_1, rfl, HA, HK1, ⟨m1, rfl⟩⟩ := hrel
  cases gk with
  | zero => exact absurd HA.out (by simp [octet_Span.l0])
  | succ k1 =>
   have H := HA.out
   clear HA
   simp only [octet_Span.l0] at H
   by_cases c3 : x8_1 < (a0.size : Int)
   ·
    rw [if_pos c3] at H
    have c3b0 := decide_eq_true c3
    clear c3
    by_cases c4 : 0 ≤ x8_1
    ·
     rw [if_pos c4] at H
     have c4b0 := decide_eq_true c4
     clear c4
     by_cases c5 : x8_1 < (a0.size : Int)
     ·
      rw [if_pos c5] at H
      have c5b0 := decide_eq_true c5
      clear c5
      replace H := Option.bind_eq_some_iff.mp H
      obtain ⟨t199, A70, H⟩ := H
      try dsimp only at H
      have A7 := Aside0.mk A70
      clear A70
      by_cases c8 : t199 = true
      ·
       subst c8
       rw [if_pos rfl] at H
       have H' := Aside0.mk H
       clear H
       have p6 : 0 ≤ (x8_1 : Int) := xod
       have q6 : x8_1 < (a0.size : Int) := xod
       have hx6 := bt_at a0 x8_1
       replace p6 := eq_true p6
       replace q6 := eq_true q6
       try (have q6x := q6; simp only [ByteArray.size_extract, Nat.min_self] at q6x)
       go_wp2_with (first | ((with_reducible refine gate_callee (f := 30) rfl ?_); refine xgl 15 Tryd.func30 #[.int .u8 (bt a0 x8_1), .int .i64 a1] ?_; (with_reducible refine (octet_Is.calls k1 (bt a0 x8_1) a1 true _ A7.out).mono ?_); rintro e w' ⟨rfl, ⟨nd, rfl⟩⟩; refine ⟨_, rfl, ?_⟩))
       go_roundg k1
       case measure => have := HK1.out; omega
       case rel => exact ⟨(wrap64 (x8_1 + 1)), xrr, H', ⟨by have := HK1.out; omega⟩, xdr⟩
      ·
       replace c8 := Bool.eq_false_iff.mpr c8
       subst c8
       rw [if_neg (show ¬ (false = true) by decide)] at H
       obtain rfl := Option.some.inj H
       have p6 : 0 ≤ (x8_1 : Int) := xod
       have q6 : x8_1 < (a0.size : Int) := xod
       have hx6 := bt_at a0 x8_1
       replace p6 := eq_true p6
       replace q6 := eq_true q6
       try (have q6x := q6; simp only [ByteArray.size_extract, Nat.min_self] at q6x)
       go_wp2_with (first | ((with_reducible refine gate_callee (f := 30) rfl ?_); refine xgl 15 Tryd.func30 #[.int .u8 (bt a0 x8_1), .int .i64 a1] ?_; (with_reducible refine (octet_Is.calls k1 (bt a0 x8_1) a1 false _ A7.out).mono ?_); rintro e w' ⟨rfl, ⟨nd, rfl⟩⟩; refine ⟨_, rfl, ?_⟩))
       go_ret
       exact ⟨xrr, xdr⟩
     ·
      rw [if_neg c5] at H
      exact absurd H (by simp)
    ·
     rw [if_neg c4] at H
     exact absurd H (by simp)
   ·
    rw [if_neg c3] at H
    have c3b0 := decide_eq_false c3
    clear c3
    obtain rfl := Option.some.inj H
    go_wp2
    go_ret
    exact ⟨xrr, xdr⟩
end Go.Proofs.YtdmigmccfdhdiaaDoor.X
namespace Go.Proofs.YtdmigmccfdhdiaaDoor.X
open Go.RowKit Go.Proofs.YtdmigmccfdhdiaaDoorW.PrintWords Go.Proofs.YtdmigmccfdhdiaaDoorW.PrintLast Go.Proofs.YtdmigmccfdhdiaaDoorW.PrintMore
attribute [local go_sem] max2_int min2_int max_two min_two max_three min_three max_four min_four
set_option linter.unusedVariables false
set_option linter.unusedSimpArgs false
mutual
def ip_Future.j0 : Nat → ByteArray → Bool → Option (Bool)
  | 0, _, _ => none
  | k + 1, x0, x13 => if x13 = true then (some false) else (if 1 ≤ (x0.size : Int) then ((octet_Span.f k (x0.extract 1 x0.size) 32).bind fun t200 => (if 0 ≤ (wrap64 (1 + t200)) then (if (wrap64 (1 + t200)) ≤ (x0.size : Int) then (if t200 = 0 then (ip_Future.j1 k (x0.extract ((wrap64 (1 + t200)) : Int).toNat x0.size) true) else (if ((x0.extract ((wrap64 (1 + t200)) : Int).toNat x0.size).size : Int) < 2 then (ip_Future.j1 k (x0.extract ((wrap64 (1 + t200)) : Int).toNat x0.size) true) else (if 0 < ((x0.extract ((wrap64 (1 + t200)) : Int).toNat x0.size).size : Int) then (ip_Future.j1 k (x0.extract ((wrap64 (1 + t200)) : Int).toNat x0.size) ((bt (x0.extract ((wrap64 (1 + t200)) : Int).toNat x0.size) 0) != 46)) else (none)))) else (none)) else (none))) else (none))
def ip_Future.j1 : Nat → ByteArray → Bool → Option (Bool)
  | 0, _, _ => none
  | k + 1, x4, x32 => if x32 = true then (some false) else (ip_Future.l0 k x4 1)
def ip_Future.l0 : Nat → ByteArray → Int → Option (Bool)
  | 0, _, _ => none
  | k + 1, x4, x5 => if x5 < (x4.size : Int) then (if 0 ≤ x5 then ((lexis_Plain.f k 1 (bt x4 x5)).bind fun t201 => (if t201 = true then (ip_Future.l0 k x4 (wrap64 (x5 + 1))) else (some false))) else (none)) else (some true)
end
def ip_Future.f (k : Nat) (a0 : ByteArray) : Option (Bool) := if a0.toList = ([] : List UInt8) then (ip_Future.j0 k a0 true) else (if 0 < (a0.size : Int) then (ip_Future.j0 k a0 ((Go.bits .or .u8 (bt a0 0) 32) != 118)) else (none))
theorem ip_Future.mono_l : ∀ k, (∀ y0 y1, LeO (ip_Future.j0 k y0 y1) (ip_Future.j0 (k + 1) y0 y1)) ∧ (∀ y0 y1, LeO (ip_Future.j1 k y0 y1) (ip_Future.j1 (k + 1) y0 y1)) ∧ (∀ y0 y1, LeO (ip_Future.l0 k y0 y1) (ip_Future.l0 (k + 1) y0 y1))
  | 0 => ⟨fun _ _ r h => by simp [ip_Future.j0] at h, fun _ _ r h => by simp [ip_Future.j1] at h, fun _ _ r h => by simp [ip_Future.l0] at h⟩
  | k + 1 => by
    obtain ⟨ih0, ih1, ih2⟩ := ip_Future.mono_l k
    have m0 := @lexis_Plain.mono; have m1 := @octet_Span.mono
    refine ⟨?_, ?_, ?_⟩
    · intro y0 y1
      unfold ip_Future.j0
      exact xmo
    · intro y0 y1
      unfold ip_Future.j1
      exact xmo
    · intro y0 y1
      unfold ip_Future.l0
      exact xmo
theorem ip_Future.mono : ∀ a0 k, LeO (ip_Future.f k a0) (ip_Future.f (k + 1) a0) := by
  intro a0 k
  obtain ⟨ih0, ih1, ih2⟩ := ip_Future.mono_l k
  have m0 := @lexis_Plain.mono; have m1 := @octet_Span.mono
  unfold ip_Future.f
  exact xmo
set_option maxHeartbeats 8000000 in
set_option maxRecDepth 100000 in
theorem ip_Future.calls (k : Nat) (a0 : ByteArray) (r : Bool) (w : World) (h : ip_Future.f k a0 = some r) :
    Calls Tryd.prog 28 #[.string a0] w fun e w' => e = .returned (.bool r) ∧ Below w.heap.size w w' := by
 have HB := Aside0.mk (Below.refl w.heap.size w)
 have H : (if a0.toList = ([] : List UInt8) then (ip_Future.j0 k a0 true) else (if 0 < (a0.size : Int) then (ip_Future.j0 k a0 ((Go.bits .or .u8 (bt a0 0) 32) != 118)) else (none))) = some r := h
 clear h
 have HC2 := Aside0.mk H
 clear H
 go_enter Tryd.func28, Tryd.ntmps28
 go_upto_region 1 with (fail)
 go_cut [13] (fun v13 wc => ∃ (kq : Nat) (x13_1 : Bool), v13 = .bool x13_1 ∧ Aside0 (ip_Future.j0 kq a0 x13_1 = some r) ∧ Aside0 (kq ≤ k) ∧ Aside0 (Below w.heap.size w wc))
 case first =>
  have H := HC2.out
  clear HC2
  by_cases c3 : a0.toList = ([] : List UInt8)
  ·
   rw [if_pos c3] at H
   have c3b0 : (a0.toList == ([] : List UInt8)) = true := beq_iff_eq.mpr c3
   have c3b1 : (a0.toList != ([] : List UInt8)) = false := bne_eq_false_iff_eq.mpr c3
   clear c3
   (first | rw [c3b0] | (simp only [i64_w, i32_w]; rw [c3b0]) | skip)
   have H' := Aside0.mk H
   clear H
   go_wp2
   go_meet
   case rel => exact ⟨_, (true), xrr, H', ⟨xom⟩, ⟨xbl⟩⟩
  ·
   rw [if_neg c3] at H
   have c3b0 : (a0.toList == ([] : List UInt8)) = false := beq_eq_false_iff_ne.mpr c3
   have c3b1 : (a0.toList != ([] : List UInt8)) = true := bne_iff_ne.mpr c3
   (first | rw [c3b0] | (simp only [i64_w, i32_w]; rw [c3b0]) | skip)
   by_cases c4 : 0 < (a0.size : Int)
   ·
    rw [if_pos c4] at H
    have c4b0 := decide_eq_true c4
    have c4b1 : decide (0 < a0.size) = true := decide_eq_true (by omega)
    clear c4
    have H' := Aside0.mk H
    clear H
    have p5 : 0 ≤ (0 : Int) := (by omega)
    have q5 : 0 < a0.size := (by have : (0 : Int) < (a0.size : Int) := xod; omega)
    have hx5 : ∀ h : 0 < a0.size, ((a0[0]'h).toNat : Int) = bt a0 0 := bt_at a0 0
    clear p5
    have qi5 : (0 < (a0.size : Int)) = True := eq_true (xod)
    replace q5 := eq_true q5
    try (have q5x := q5; simp only [ByteArray.size_extract, Nat.min_self] at q5x)
    go_wp2
    go_meet
    case rel => exact ⟨_, (((Go.bits .or .u8 (bt a0 0) 32) != 118)), xrr, H', ⟨xom⟩, ⟨xbl⟩⟩
   ·
    rw [if_neg c4] at H
    exact absurd H (by simp)
 case rest =>
  clear HC2
  obtain ⟨kq, x13_1, rfl, HA, HJ1, HB⟩ := hcut
  cases kq with
  | zero => exact absurd HA.out (by simp [ip_Future.j0])
  | succ kj1 =>
   have H := HA.out
   clear HA
   simp only [ip_Future.j0] at H
   by_cases c6 : x13_1 = true
   ·
    subst c6
    rw [if_pos rfl] at H
    obtain rfl := Option.some.inj H
    go_wp2
    go_ret
    exact ⟨xre, xbl⟩
   ·
    replace c6 := Bool.eq_false_iff.mpr c6
    subst c6
    rw [if_neg (show ¬ (false = true) by decide)] at H
    by_cases c7 : 1 ≤ (a0.size : Int)
    ·
     rw [if_pos c7] at H
     have c7b0 := eq_true c7
     have c7b1 := decide_eq_true c7
     clear c7
     obtain ⟨ji8, hji8⟩ : ∃ j_ : ByteArray, (a0.extract 1 a0.size) = j_ := ⟨_, rfl⟩
     try (have hji8x := hji8; simp only [Int.toNat_natCast, Int.toNat_ofNat] at hji8x)
     first | rw [hji8] at H | simp only [hji8] at H | skip
     replace H := Option.bind_eq_some_iff.mp H
     obtain ⟨t200, A90, H⟩ := H
     try dsimp only at H
     have A9 := Aside0.mk A90
     clear A90
     obtain ⟨ji10, hji10⟩ : ∃ j_ : Int, (wrap64 (1 + t200)) = j_ := ⟨_, rfl⟩
     first | rw [hji10] at H | simp only [hji10] at H | skip
     (try rw [hji10] at A9)
     have hji10w : (IntKind.i64.wrap (1 + t200)) = ji10 := (i64_w _).trans hji10
     by_cases c11 : 0 ≤ (ji10)
     ·
      rw [if_pos c11] at H
      have c11b0 := eq_true c11
      have c11b1 := decide_eq_true c11
      clear c11
      by_cases c12 : (ji10) ≤ (a0.size : Int)
      ·
       rw [if_pos c12] at H
       have c12b0 := eq_true c12
       have c12b1 := decide_eq_true c12
       clear c12
       obtain ⟨ji13, hji13⟩ : ∃ j_ : ByteArray, (a0.extract ((ji10) : Int).toNat a0.size) = j_ := ⟨_, rfl⟩
       try (have hji13x := hji13; simp only [Int.toNat_natCast, Int.toNat_ofNat] at hji13x)
       first | rw [hji13] at H | simp only [hji13] at H | skip
       (try rw [hji13] at A9)
       have HC14 := Aside0.mk H
       clear H
       go_upto_region 5 with (first | ((with_reducible refine gate_callee (f := 18) rfl ?_); refine goesL_ (some 16) rfl rfl Tryd.func18 (by kernel_rfl) rfl #[.string ji8, .int .i64 32] rfl (by (try simp only [List.map_toArray, List.map_cons, List.map_nil]); first | done | (simp only [hji8]; rfl) | rfl | (simp only [List.length_drop, List.length_take]; rfl)) ?_; (with_reducible refine (octet_Span.calls kj1 ji8 32 t200 _ A9.out).mono ?_); rintro e w' ⟨rfl, ⟨nd, rfl⟩⟩; refine ⟨_, rfl, ?_⟩))
       (try simp only [Act.put, List.setIfInBounds_toArray, List.set_cons_zero, List.set_cons_succ])
       go_cut [32] (fun v32 wc => ∃ (kq : Nat) (x32_13 : Bool), v32 = .bool x32_13 ∧ Aside0 (ip_Future.j1 kq ji13 x32_13 = some r) ∧ Aside0 (kq ≤ kj1) ∧ Aside0 (Below w.heap.size w wc))
       case first =>
        have H := HC14.out
        clear HC14
        by_cases c15 : t200 = 0
        ·
         rw [if_pos c15] at H
         have c15b0 : (t200 == 0) = true := beq_iff_eq.mpr c15
         have c15b1 : (t200 != 0) = false := bne_eq_false_iff_eq.mpr c15
         clear c15
         (first | rw [c15b0] | (simp only [i64_w, i32_w]; rw [c15b0]) | skip)
         have H' := Aside0.mk H
         clear H
         go_wp2
         go_meet
         case rel => exact ⟨_, (true), xrr, H', ⟨by have := HJ1.out; first | omega | exact Nat.le_refl _⟩, ⟨xbl⟩⟩
        ·
         rw [if_neg c15] at H
         have c15b0 : (t200 == 0) = false := beq_eq_false_iff_ne.mpr c15
         have c15b1 : (t200 != 0) = true := bne_iff_ne.mpr c15
         (first | rw [c15b0] | (simp only [i64_w, i32_w]; rw [c15b0]) | skip)
         by_cases c16 : ((ji13).size : Int) < 2
         ·
          rw [if_pos c16] at H
          have c16b0 := decide_eq_true c16
          have c16b1 : decide ((ji13).size < 2) = true := decide_eq_true (by omega)
          clear c16
          have H' := Aside0.mk H
          clear H
          go_wp2
          go_meet
          case rel => exact ⟨_, (true), xrr, H', ⟨by have := HJ1.out; first | omega | exact Nat.le_refl _⟩, ⟨xbl⟩⟩
         ·
          rw [if_neg c16] at H
          have c16b0 := decide_eq_false c16
          have c16b1 : decide ((ji13).size < 2) = false := decide_eq_false (by omega)
          clear c16
          by_cases c17 : 0 < ((ji13).size : Int)
          ·
           rw [if_pos c17] at H
           have c17b0 := decide_eq_true c17
           have c17b1 : decide (0 < (ji13).size) = true := decide_eq_true (by omega)
           clear c17
           have H' := Aside0.mk H
           clear H
           have p18 : 0 ≤ (0 : Int) := (by omega)
           have q18 : 0 < ji13.size := (by have : (0 : Int) < (ji13.size : Int) := xod; omega)
           have hx18 : ∀ h : 0 < ji13.size, ((ji13[0]'h).toNat : Int) = bt ji13 0 := bt_at ji13 0
           clear p18
           have qi18 : (0 < (ji13.size : Int)) = True := eq_true (xod)
           replace q18 := eq_true q18
           try (have q18x := q18; simp only [ByteArray.size_extract, Nat.min_self] at q18x)
           go_wp2
           go_meet
           case rel => exact ⟨_, (((bt (ji13) 0) != 46)), (by first | rfl | (simp; done) | (simp only [← hji13] <;> (first | rfl | simp)) | (simp [*]; done) | (simp [wrap64]; done)), H', ⟨by have := HJ1.out; first | omega | exact Nat.le_refl _⟩, ⟨xbl⟩⟩
          ·
           rw [if_neg c17] at H
           exact absurd H (by simp)
       case rest =>
        clear HC14
        clear c7b0 c7b1 c11b0 c11b1 c12b0 c12b1
        obtain ⟨kq, x32_13, rfl, HA, HJ13, HB⟩ := hcut
        cases kq with
        | zero => exact absurd HA.out (by simp [ip_Future.j1])
        | succ kj13 =>
         have H := HA.out
         clear HA
         simp only [ip_Future.j1] at H
         by_cases c19 : x32_13 = true
         ·
          subst c19
          rw [if_pos rfl] at H
          obtain rfl := Option.some.inj H
          go_wp2
          go_ret
          exact ⟨by first | rfl | (simp [errW_none, errW_some] <;> first | rfl | (simp only [xp_isEmpty, bne, Bool.not_not]; done)) | (simp only [← hji8, ← hji10, ← hji13]; first | rfl | (simp [errW_none, errW_some] <;> rfl)) | (simp [*, errW_none, errW_some] <;> rfl), xbl⟩
         ·
          replace c19 := Bool.eq_false_iff.mpr c19
          subst c19
          rw [if_neg (show ¬ (false = true) by decide)] at H
          have H' := Aside0.mk H
          clear H
          go_wp2
          go_loopg [5] kj13 (fun kq v5 w' => ∃ (x5_3 : Int), v5 = .int .i64 x5_3 ∧ Aside0 (ip_Future.l0 kq ji13 x5_3 = some r) ∧ Aside0 (kq ≤ kj13) ∧ Aside0 (Below w.heap.size w w'))
          case atStart => exact ⟨(1), xrr, H', ⟨Nat.le_refl _⟩, ⟨xbl⟩⟩
          case round =>
           clear H'
           obtain ⟨x5_3, rfl, HA, HK3, HB⟩ := hrel
           cases gk with
           | zero => exact absurd HA.out (by simp [ip_Future.l0])
           | succ k3 =>
            have H := HA.out
            clear HA
            simp only [ip_Future.l0] at H
            by_cases c20 : x5_3 < (ji13.size : Int)
            ·
             rw [if_pos c20] at H
             have c20b0 := decide_eq_true c20
             clear c20
             by_cases c21 : 0 ≤ x5_3
             ·
              rw [if_pos c21] at H
              have c21b0 := decide_eq_true c21
              clear c21
              replace H := Option.bind_eq_some_iff.mp H
              obtain ⟨t201, A230, H⟩ := H
              try dsimp only at H
              have A23 := Aside0.mk A230
              clear A230
              by_cases c24 : t201 = true
              ·
               subst c24
               rw [if_pos rfl] at H
               have H' := Aside0.mk H
               clear H
               have p22 : 0 ≤ (x5_3 : Int) := xod
               have q22 : x5_3 < (ji13.size : Int) := xod
               have hx22 := bt_at ji13 x5_3
               replace p22 := eq_true p22
               replace q22 := eq_true q22
               try (have q22x := q22; simp only [ByteArray.size_extract, Nat.min_self] at q22x)
               go_wp2_with (first | ((with_reducible refine gate_callee (f := 48) rfl ?_); refine goesL_ (some 42) rfl rfl Tryd.func48 (by kernel_rfl) rfl #[.int .i64 1, .int .u8 (bt ji13 x5_3)] rfl (by (try simp only [List.map_toArray, List.map_cons, List.map_nil]); first | done | (simp only [hji13]; rfl) | rfl | (simp only [List.length_drop, List.length_take]; rfl)) ?_; (with_reducible refine (lexis_Plain.calls k3 1 (bt ji13 x5_3) true _ A23.out).mono ?_); rintro e w25 ⟨rfl, hb⟩; refine ⟨_, rfl, ?_⟩; replace HB := xst hb; (try clear hb)))
               go_roundg k3
               case measure => have := HJ1.out; have := HJ13.out; have := HK3.out; omega
               case rel => exact ⟨(wrap64 (x5_3 + 1)), xrr, H', ⟨by have := HJ1.out; have := HJ13.out; have := HK3.out; omega⟩, ⟨xbl⟩⟩
              ·
               replace c24 := Bool.eq_false_iff.mpr c24
               subst c24
               rw [if_neg (show ¬ (false = true) by decide)] at H
               obtain rfl := Option.some.inj H
               have p22 : 0 ≤ (x5_3 : Int) := xod
               have q22 : x5_3 < (ji13.size : Int) := xod
               have hx22 := bt_at ji13 x5_3
               replace p22 := eq_true p22
               replace q22 := eq_true q22
               try (have q22x := q22; simp only [ByteArray.size_extract, Nat.min_self] at q22x)
               go_wp2_with (first | ((with_reducible refine gate_callee (f := 48) rfl ?_); refine goesL_ (some 42) rfl rfl Tryd.func48 (by kernel_rfl) rfl #[.int .i64 1, .int .u8 (bt ji13 x5_3)] rfl (by (try simp only [List.map_toArray, List.map_cons, List.map_nil]); first | done | (simp only [hji13]; rfl) | rfl | (simp only [List.length_drop, List.length_take]; rfl)) ?_; (with_reducible refine (lexis_Plain.calls k3 1 (bt ji13 x5_3) false _ A23.out).mono ?_); rintro e w26 ⟨rfl, hb⟩; refine ⟨_, rfl, ?_⟩; replace HB := xst hb; (try clear hb)))
               go_ret
               exact ⟨by first | rfl | (simp [errW_none, errW_some] <;> first | rfl | (simp only [xp_isEmpty, bne, Bool.not_not]; done)) | (simp only [← hji8, ← hji10, ← hji13]; first | rfl | (simp [errW_none, errW_some] <;> rfl)) | (simp [*, errW_none, errW_some] <;> rfl), xbl⟩
             ·
              rw [if_neg c21] at H
              exact absurd H (by simp)
            ·
             rw [if_neg c20] at H
             have c20b0 := decide_eq_false c20
             clear c20
             obtain rfl := Option.some.inj H
             go_wp2
             go_ret
             exact ⟨by first | rfl | (simp [errW_none, errW_some] <;> first | rfl | (simp only [xp_isEmpty, bne, Bool.not_not]; done)) | (simp only [← hji8, ← hji10, ← hji13]; first | rfl | (simp [errW_none, errW_some] <;> rfl)) | (simp [*, errW_none, errW_some] <;> rfl), xbl⟩
      ·
       rw [if_neg c12] at H
       exact absurd H (by simp)
     ·
      rw [if_neg c11] at H
      exact absurd H (by simp)
    ·
     rw [if_neg c7] at H
     exact absurd H (by simp)
def ip_Host.j0 : Nat → Bool → ByteArray → Int → Bool → Option (Int)
  | 0, _, _, _, _ => none
  | k + 1, x0, x1, x5, x25 => if x25 = true then (if 1 ≤ (wrap64 (x5 - 1)) then (if (wrap64 (x5 - 1)) ≤ (x1.size : Int) then ((ip_V6.f k (x1.extract 1 ((wrap64 (x5 - 1)) : Int).toNat)).bind fun bt202 => (if bt202.2.2.2.2.2.2.2.2 = true then (some 3) else ((ip_Future.f k (x1.extract 1 ((wrap64 (x5 - 1)) : Int).toNat)).bind fun t212 => (if t212 = true then (some 3) else (some 0))))) else (none)) else (none)) else ((ip_V4.f k x1).bind fun bt213 => (if bt213.2.2.2.2 = true then (some 1) else ((lexis_All.f k 2 x0 x1).bind fun t219 => (if t219 = true then (some 2) else (some 0)))))
def ip_Host.f (k : Nat) (a0 : Bool) (a1 : ByteArray) : Option (Int) := if (a1.size : Int) > 1 then (if 0 < (a1.size : Int) then (if (bt a1 0) = 91 then (if 0 ≤ (wrap64 ((a1.size : Int) - 1)) then (if (wrap64 ((a1.size : Int) - 1)) < (a1.size : Int) then (ip_Host.j0 k a0 a1 (a1.size : Int) ((bt a1 (wrap64 ((a1.size : Int) - 1))) == 93)) else (none)) else (none)) else (ip_Host.j0 k a0 a1 (a1.size : Int) false)) else (none)) else (ip_Host.j0 k a0 a1 (a1.size : Int) false)
theorem ip_Host.mono_l : ∀ k, (∀ y0 y1 y2 y3, LeO (ip_Host.j0 k y0 y1 y2 y3) (ip_Host.j0 (k + 1) y0 y1 y2 y3))
  | 0 => fun _ _ _ _ r h => by simp [ip_Host.j0] at h
  | k + 1 => by
    have ih0 := ip_Host.mono_l k
    have m0 := @ip_Future.mono; have m1 := @ip_V4.mono; have m2 := @ip_V6.mono; have m3 := @lexis_All.mono
    · intro y0 y1 y2 y3
      unfold ip_Host.j0
      exact xmo
theorem ip_Host.mono : ∀ a0 a1 k, LeO (ip_Host.f k a0 a1) (ip_Host.f (k + 1) a0 a1) := by
  intro a0 a1 k
  have ih0 := ip_Host.mono_l k
  have m0 := @ip_Future.mono; have m1 := @ip_V4.mono; have m2 := @ip_V6.mono; have m3 := @lexis_All.mono
  unfold ip_Host.f
  exact xmo
set_option maxHeartbeats 8000000 in
set_option maxRecDepth 100000 in
theorem ip_Host.calls (k : Nat) (a0 : Bool) (a1 : ByteArray) (r : Int) (w : World) (hG : GW w) (h : ip_Host.f k a0 a1 = some r) :
    Calls Tryd.prog 17 #[.bool a0, .string a1] w fun e w' => e = .returned (.int .i64 r) ∧ Below w.heap.size w w' := by
 have hu50 := Tryd.underlying50
 have hu53 := Tryd.underlying53
 have HB := Aside0.mk (Below.refl w.heap.size w)
 have H : (if (a1.size : Int) > 1 then (if 0 < (a1.size : Int) then (if (bt a1 0) = 91 then (if 0 ≤ (wrap64 ((a1.size : Int) - 1)) then (if (wrap64 ((a1.size : Int) - 1)) < (a1.size : Int) then (ip_Host.j0 k a0 a1 (a1.size : Int) ((bt a1 (wrap64 ((a1.size : Int) - 1))) == 93)) else (none)) else (none)) else (ip_Host.j0 k a0 a1 (a1.size : Int) false)) else (none)) else (ip_Host.j0 k a0 a1 (a1.size : Int) false)) = some r := h
 clear h
 have HC3 := Aside0.mk H
 clear H
 go_enter Tryd.func17, Tryd.ntmps17
 go_upto_region 2 with (fail)
 go_cut [25] (fun v25 wc => ∃ (kq : Nat) (x25_2 : Bool), v25 = .bool x25_2 ∧ Aside0 (ip_Host.j0 kq a0 a1 (a1.size : Int) x25_2 = some r) ∧ Aside0 (kq ≤ k) ∧ Aside0 (Below w.heap.size w wc))
 case first =>
  have H := HC3.out
  clear HC3
  by_cases c4 : (a1.size : Int) > 1
  ·
   rw [if_pos c4] at H
   have c4b0 := decide_eq_true c4
   have c4b1 : decide (1 < a1.size) = true := decide_eq_true (by omega)
   clear c4
   (first | rw [c4b0] | (simp only [i64_w, i32_w]; rw [c4b0]) | skip)
   by_cases c5 : 0 < (a1.size : Int)
   ·
    rw [if_pos c5] at H
    have c5b0 := decide_eq_true c5
    have c5b1 : decide (0 < a1.size) = true := decide_eq_true (by omega)
    clear c5
    by_cases c7 : (bt a1 0) = 91
    ·
     rw [if_pos c7] at H
     have c7b0 : ((bt a1 0) == 91) = true := beq_iff_eq.mpr c7
     have c7b1 : ((bt a1 0) != 91) = false := bne_eq_false_iff_eq.mpr c7
     clear c7
     obtain ⟨ji8, hji8⟩ : ∃ j_ : Int, (wrap64 ((a1.size : Int) - 1)) = j_ := ⟨_, rfl⟩
     first | rw [hji8] at H | simp only [hji8] at H | skip
     have hji8w : (IntKind.i64.wrap ((a1.size : Int) - 1)) = ji8 := (i64_w _).trans hji8
     by_cases c9 : 0 ≤ (ji8)
     ·
      rw [if_pos c9] at H
      have c9b0 := decide_eq_true c9
      clear c9
      by_cases c10 : (ji8) < (a1.size : Int)
      ·
       rw [if_pos c10] at H
       have c10b0 := decide_eq_true c10
       clear c10
       have H' := Aside0.mk H
       clear H
       have p6 : 0 ≤ (0 : Int) := (by omega)
       have q6 : 0 < a1.size := (by have : (0 : Int) < (a1.size : Int) := xod; omega)
       have hx6 : ∀ h : 0 < a1.size, ((a1[0]'h).toNat : Int) = bt a1 0 := bt_at a1 0
       clear p6
       have qi6 : (0 < (a1.size : Int)) = True := eq_true (xod)
       replace q6 := eq_true q6
       try (have q6x := q6; simp only [ByteArray.size_extract, Nat.min_self] at q6x)
       have p11 : 0 ≤ ((ji8) : Int) := xod
       have q11 : (ji8) < (a1.size : Int) := xod
       have hx11 := bt_at a1 (ji8)
       replace p11 := eq_true p11
       replace q11 := eq_true q11
       try (have q11x := q11; simp only [ByteArray.size_extract, Nat.min_self] at q11x)
       go_wp2
       go_meet
       case rel => exact ⟨_, (((bt a1 (ji8)) == 93)), (by first | rfl | (simp; done) | (simp only [← hji8] <;> (first | rfl | simp)) | (simp [*]; done) | (simp [wrap64]; done)), H', ⟨xom⟩, ⟨xbl⟩⟩
      ·
       rw [if_neg c10] at H
       exact absurd H (by simp)
     ·
      rw [if_neg c9] at H
      exact absurd H (by simp)
    ·
     rw [if_neg c7] at H
     have c7b0 : ((bt a1 0) == 91) = false := beq_eq_false_iff_ne.mpr c7
     have c7b1 : ((bt a1 0) != 91) = true := bne_iff_ne.mpr c7
     have H' := Aside0.mk H
     clear H
     have p6 : 0 ≤ (0 : Int) := (by omega)
     have q6 : 0 < a1.size := (by have : (0 : Int) < (a1.size : Int) := xod; omega)
     have hx6 : ∀ h : 0 < a1.size, ((a1[0]'h).toNat : Int) = bt a1 0 := bt_at a1 0
     clear p6
     have qi6 : (0 < (a1.size : Int)) = True := eq_true (xod)
     replace q6 := eq_true q6
     try (have q6x := q6; simp only [ByteArray.size_extract, Nat.min_self] at q6x)
     go_wp2
     go_meet
     case rel => exact ⟨_, (false), xrr, H', ⟨xom⟩, ⟨xbl⟩⟩
   ·
    rw [if_neg c5] at H
    exact absurd H (by simp)
  ·
   rw [if_neg c4] at H
   have c4b0 := decide_eq_false c4
   have c4b1 : decide (1 < a1.size) = false := decide_eq_false (by omega)
   clear c4
   (first | rw [c4b0] | (simp only [i64_w, i32_w]; rw [c4b0]) | skip)
   have H' := Aside0.mk H
   clear H
   go_wp2
   go_meet
   case rel => exact ⟨_, (false), xrr, H', ⟨xom⟩, ⟨xbl⟩⟩
 case rest =>
  clear HC3
  obtain ⟨kq, x25_2, rfl, HA, HJ2, HB⟩ := hcut
  cases kq with
  | zero => exact absurd HA.out (by simp [ip_Host.j0])
  | succ kj2 =>
   have H := HA.out
   clear HA
   simp only [ip_Host.j0] at H
   by_cases c12 : x25_2 = true
   ·
    subst c12
    rw [if_pos rfl] at H
    obtain ⟨ji13, hji13⟩ : ∃ j_ : Int, (wrap64 ((a1.size : Int) - 1)) = j_ := ⟨_, rfl⟩
    first | rw [hji13] at H | simp only [hji13] at H | skip
    have hji13w : (IntKind.i64.wrap ((a1.size : Int) - 1)) = ji13 := (i64_w _).trans hji13
    by_cases c14 : 1 ≤ (ji13)
    ·
     rw [if_pos c14] at H
     have c14b0 := eq_true c14
     have c14b1 := decide_eq_true c14
     clear c14
     by_cases c15 : (ji13) ≤ (a1.size : Int)
     ·
      rw [if_pos c15] at H
      have c15b0 := eq_true c15
      have c15b1 := decide_eq_true c15
      clear c15
      obtain ⟨ji16, hji16⟩ : ∃ j_ : ByteArray, (a1.extract 1 ((ji13) : Int).toNat) = j_ := ⟨_, rfl⟩
      try (have hji16x := hji16; simp only [Int.toNat_natCast, Int.toNat_ofNat] at hji16x)
      first | rw [hji16] at H | simp only [hji16] at H | skip
      replace H := Option.bind_eq_some_iff.mp H
      obtain ⟨⟨t202, t203, t204, t205, t206, t207, t208, t209, t210⟩, A170, H⟩ := H
      try dsimp only at H
      have A17 := Aside0.mk A170
      clear A170
      by_cases c18 : t210 = true
      ·
       subst c18
       rw [if_pos rfl] at H
       obtain rfl := Option.some.inj H
       go_wp2_with (first | ((with_reducible refine gate_callee (f := 27) rfl ?_); refine goesL_ (some 31) rfl rfl Tryd.func27 (by kernel_rfl) rfl #[.string ji16] rfl (by (try simp only [List.map_toArray, List.map_cons, List.map_nil]); first | done | (simp only [hji16]; rfl) | rfl | (simp only [List.length_drop, List.length_take]; rfl)) ?_; (with_reducible refine (ip_V6.calls kj2 ji16 t202 t203 t204 t205 t206 t207 t208 t209 true _ ?side1 A17.out).mono ?_); (case side1 => first | exact hG | exact GW_to hG xbl); rintro e w19 ⟨rfl, hb⟩; refine ⟨_, rfl, ?_⟩; replace HB := xst hb; (try clear hb)) | ((with_reducible refine gate_dst (N := 6) rfl ?_); refine xev 6 #[.int .u16 0, .int .u16 0, .int .u16 0, .int .u16 0, .int .u16 0, .int .u16 0, .int .u16 0, .int .u16 0] 50 ?_; intro gb211 hg w20 hbox hb; have BK211 := Aside0.mk (hbox); have GW211 := xsz hg; have GE211 := GW211; replace HB := xst hb; clear hb hbox hg; obtain ⟨hcz21_0, hcz21_1, hcz21_2, hcz21_3, hcz21_4, hcz21_5, hcz21_6, hcz21_7⟩ := xc8 BK211; have hfz21_0 := xf BK211 0; have hfz21_1 := xf BK211 1; have hfz21_2 := xf BK211 2; have hfz21_3 := xf BK211 3; have hfz21_4 := xf BK211 4; have hfz21_5 := xf BK211 5; have hfz21_6 := xf BK211 6; have hfz21_7 := xf BK211 7))
       go_ret
       exact ⟨by first | rfl | (simp [errW_none, errW_some] <;> first | rfl | (simp only [xp_isEmpty, bne, Bool.not_not]; done)) | (simp only [← hji13, ← hji16]; first | rfl | (simp [errW_none, errW_some] <;> rfl)) | (simp [*, errW_none, errW_some] <;> rfl), xbl⟩
      ·
       replace c18 := Bool.eq_false_iff.mpr c18
       subst c18
       rw [if_neg (show ¬ (false = true) by decide)] at H
       have c22b0 := eq_true (xod : 1 ≤ (ji13))
       have c23b0 := eq_true (xod : (ji13) ≤ (a1.size : Int))
       first | rw [hji16] at H | simp only [hji16] at H | skip
       (try rw [hji16] at A17)
       replace H := Option.bind_eq_some_iff.mp H
       obtain ⟨t212, A240, H⟩ := H
       try dsimp only at H
       have A24 := Aside0.mk A240
       clear A240
       by_cases c25 : t212 = true
       ·
        subst c25
        rw [if_pos rfl] at H
        obtain rfl := Option.some.inj H
        go_wp2_with (first | ((with_reducible refine gate_callee (f := 27) rfl ?_); refine goesL_ (some 31) rfl rfl Tryd.func27 (by kernel_rfl) rfl #[.string ji16] rfl (by (try simp only [List.map_toArray, List.map_cons, List.map_nil]); first | done | (simp only [hji16]; rfl) | rfl | (simp only [List.length_drop, List.length_take]; rfl)) ?_; (with_reducible refine (ip_V6.calls kj2 ji16 t202 t203 t204 t205 t206 t207 t208 t209 false _ ?side1 A17.out).mono ?_); (case side1 => first | exact hG | exact GW_to hG xbl); rintro e w26 ⟨rfl, hb⟩; refine ⟨_, rfl, ?_⟩; replace HB := xst hb; (try clear hb)) | ((with_reducible refine gate_dst (N := 6) rfl ?_); refine xev 6 #[.int .u16 0, .int .u16 0, .int .u16 0, .int .u16 0, .int .u16 0, .int .u16 0, .int .u16 0, .int .u16 0] 50 ?_; intro gb211 hg w27 hbox hb; have BK211 := Aside0.mk (hbox); have GW211 := xsz hg; have GE211 := GW211; replace HB := xst hb; clear hb hbox hg; obtain ⟨hcz28_0, hcz28_1, hcz28_2, hcz28_3, hcz28_4, hcz28_5, hcz28_6, hcz28_7⟩ := xc8 BK211; have hfz28_0 := xf BK211 0; have hfz28_1 := xf BK211 1; have hfz28_2 := xf BK211 2; have hfz28_3 := xf BK211 3; have hfz28_4 := xf BK211 4; have hfz28_5 := xf BK211 5; have hfz28_6 := xf BK211 6; have hfz28_7 := xf BK211 7) | (go_at_call 28; (with_reducible refine (ip_Future.calls kj2 ji16 true _ A24.out).mono ?_); rintro e w29 ⟨rfl, hb⟩; replace BK211 := xbb (g := gb211) (o := .cells #[.int .u16 t202, .int .u16 t203, .int .u16 t204, .int .u16 t205, .int .u16 t206, .int .u16 t207, .int .u16 t208, .int .u16 t209] 50 (0, 0)) hb; replace HB := xst hb; (try clear hb)))
        go_ret
        exact ⟨by first | rfl | (simp [errW_none, errW_some] <;> first | rfl | (simp only [xp_isEmpty, bne, Bool.not_not]; done)) | (simp only [← hji13, ← hji16, ← hji16]; first | rfl | (simp [errW_none, errW_some] <;> rfl)) | (simp [*, errW_none, errW_some] <;> rfl), xbl⟩
       ·
        replace c25 := Bool.eq_false_iff.mpr c25
        subst c25
        rw [if_neg (show ¬ (false = true) by decide)] at H
        obtain rfl := Option.some.inj H
        go_wp2_with (first | ((with_reducible refine gate_callee (f := 27) rfl ?_); refine goesL_ (some 31) rfl rfl Tryd.func27 (by kernel_rfl) rfl #[.string ji16] rfl (by (try simp only [List.map_toArray, List.map_cons, List.map_nil]); first | done | (simp only [hji16]; rfl) | rfl | (simp only [List.length_drop, List.length_take]; rfl)) ?_; (with_reducible refine (ip_V6.calls kj2 ji16 t202 t203 t204 t205 t206 t207 t208 t209 false _ ?side1 A17.out).mono ?_); (case side1 => first | exact hG | exact GW_to hG xbl); rintro e w30 ⟨rfl, hb⟩; refine ⟨_, rfl, ?_⟩; replace HB := xst hb; (try clear hb)) | ((with_reducible refine gate_dst (N := 6) rfl ?_); refine xev 6 #[.int .u16 0, .int .u16 0, .int .u16 0, .int .u16 0, .int .u16 0, .int .u16 0, .int .u16 0, .int .u16 0] 50 ?_; intro gb211 hg w31 hbox hb; have BK211 := Aside0.mk (hbox); have GW211 := xsz hg; have GE211 := GW211; replace HB := xst hb; clear hb hbox hg; obtain ⟨hcz32_0, hcz32_1, hcz32_2, hcz32_3, hcz32_4, hcz32_5, hcz32_6, hcz32_7⟩ := xc8 BK211; have hfz32_0 := xf BK211 0; have hfz32_1 := xf BK211 1; have hfz32_2 := xf BK211 2; have hfz32_3 := xf BK211 3; have hfz32_4 := xf BK211 4; have hfz32_5 := xf BK211 5; have hfz32_6 := xf BK211 6; have hfz32_7 := xf BK211 7) | (go_at_call 28; (with_reducible refine (ip_Future.calls kj2 ji16 false _ A24.out).mono ?_); rintro e w33 ⟨rfl, hb⟩; replace BK211 := xbb (g := gb211) (o := .cells #[.int .u16 t202, .int .u16 t203, .int .u16 t204, .int .u16 t205, .int .u16 t206, .int .u16 t207, .int .u16 t208, .int .u16 t209] 50 (0, 0)) hb; replace HB := xst hb; (try clear hb)))
        go_ret
        exact ⟨by first | rfl | (simp [errW_none, errW_some] <;> first | rfl | (simp only [xp_isEmpty, bne, Bool.not_not]; done)) | (simp only [← hji13, ← hji16, ← hji16]; first | rfl | (simp [errW_none, errW_some] <;> rfl)) | (simp [*, errW_none, errW_some] <;> rfl), xbl⟩
     ·
      rw [if_neg c15] at H
      exact absurd H (by simp)
    ·
     rw [if_neg c14] at H
     exact absurd H (by simp)
   ·
    replace c12 := Bool.eq_false_iff.mpr c12
    subst c12
    rw [if_neg (show ¬ (false = true) by decide)] at H
    replace H := Option.bind_eq_some_iff.mp H
    obtain ⟨⟨t213, t214, t215, t216, t217⟩, A340, H⟩ := H
    try dsimp only at H
    have A34 := Aside0.mk A340
    clear A340
    by_cases c35 : t217 = true
    ·
     subst c35
     rw [if_pos rfl] at H
     obtain rfl := Option.some.inj H
     go_wp2_with (first | ((with_reducible refine gate_callee (f := 29) rfl ?_); refine xgl 44 Tryd.func29 #[.string a1] ?_; (with_reducible refine (ip_V4.calls kj2 a1 t213 t214 t215 t216 true _ ?side1 A34.out).mono ?_); (case side1 => first | exact hG | exact GW_to hG xbl); rintro e w36 ⟨rfl, hb⟩; refine ⟨_, rfl, ?_⟩; replace HB := xst hb; (try clear hb)) | ((with_reducible refine gate_dst (N := 8) rfl ?_); refine xev 8 #[.int .u8 0, .int .u8 0, .int .u8 0, .int .u8 0] 53 ?_; intro gb218 hg w37 hbox hb; have BK218 := Aside0.mk (hbox); have GW218 := xsz hg; have GE218 := GW218; replace HB := xst hb; clear hb hbox hg; obtain ⟨hcz38_0, hcz38_1, hcz38_2, hcz38_3⟩ := xc4 BK218; have hfz38_0 := xf BK218 0; have hfz38_1 := xf BK218 1; have hfz38_2 := xf BK218 2; have hfz38_3 := xf BK218 3))
     go_ret
     exact ⟨xre, xbl⟩
    ·
     replace c35 := Bool.eq_false_iff.mpr c35
     subst c35
     rw [if_neg (show ¬ (false = true) by decide)] at H
     replace H := Option.bind_eq_some_iff.mp H
     obtain ⟨t219, A390, H⟩ := H
     try dsimp only at H
     have A39 := Aside0.mk A390
     clear A390
     by_cases c40 : t219 = true
     ·
      subst c40
      rw [if_pos rfl] at H
      obtain rfl := Option.some.inj H
      go_wp2_with (first | ((with_reducible refine gate_callee (f := 29) rfl ?_); refine xgl 44 Tryd.func29 #[.string a1] ?_; (with_reducible refine (ip_V4.calls kj2 a1 t213 t214 t215 t216 false _ ?side1 A34.out).mono ?_); (case side1 => first | exact hG | exact GW_to hG xbl); rintro e w41 ⟨rfl, hb⟩; refine ⟨_, rfl, ?_⟩; replace HB := xst hb; (try clear hb)) | ((with_reducible refine gate_dst (N := 8) rfl ?_); refine xev 8 #[.int .u8 0, .int .u8 0, .int .u8 0, .int .u8 0] 53 ?_; intro gb218 hg w42 hbox hb; have BK218 := Aside0.mk (hbox); have GW218 := xsz hg; have GE218 := GW218; replace HB := xst hb; clear hb hbox hg; obtain ⟨hcz43_0, hcz43_1, hcz43_2, hcz43_3⟩ := xc4 BK218; have hfz43_0 := xf BK218 0; have hfz43_1 := xf BK218 1; have hfz43_2 := xf BK218 2; have hfz43_3 := xf BK218 3) | ((with_reducible refine gate_callee (f := 16) rfl ?_); refine xgl 50 Tryd.func16 #[.int .i64 2, .bool a0, .string a1] ?_; (with_reducible refine (lexis_All.calls kj2 2 a0 a1 true _ A39.out).mono ?_); rintro e w44 ⟨rfl, hb⟩; refine ⟨_, rfl, ?_⟩; replace BK218 := xbb (g := gb218) (o := .cells #[.int .u8 t213, .int .u8 t214, .int .u8 t215, .int .u8 t216] 53 (0, 0)) hb; replace HB := xst hb; (try clear hb)))
      go_ret
      exact ⟨xre, xbl⟩
     ·
      replace c40 := Bool.eq_false_iff.mpr c40
      subst c40
      rw [if_neg (show ¬ (false = true) by decide)] at H
      obtain rfl := Option.some.inj H
      go_wp2_with (first | ((with_reducible refine gate_callee (f := 29) rfl ?_); refine xgl 44 Tryd.func29 #[.string a1] ?_; (with_reducible refine (ip_V4.calls kj2 a1 t213 t214 t215 t216 false _ ?side1 A34.out).mono ?_); (case side1 => first | exact hG | exact GW_to hG xbl); rintro e w45 ⟨rfl, hb⟩; refine ⟨_, rfl, ?_⟩; replace HB := xst hb; (try clear hb)) | ((with_reducible refine gate_dst (N := 8) rfl ?_); refine xev 8 #[.int .u8 0, .int .u8 0, .int .u8 0, .int .u8 0] 53 ?_; intro gb218 hg w46 hbox hb; have BK218 := Aside0.mk (hbox); have GW218 := xsz hg; have GE218 := GW218; replace HB := xst hb; clear hb hbox hg; obtain ⟨hcz47_0, hcz47_1, hcz47_2, hcz47_3⟩ := xc4 BK218; have hfz47_0 := xf BK218 0; have hfz47_1 := xf BK218 1; have hfz47_2 := xf BK218 2; have hfz47_3 := xf BK218 3) | ((with_reducible refine gate_callee (f := 16) rfl ?_); refine xgl 50 Tryd.func16 #[.int .i64 2, .bool a0, .string a1] ?_; (with_reducible refine (lexis_All.calls kj2 2 a0 a1 false _ A39.out).mono ?_); rintro e w48 ⟨rfl, hb⟩; refine ⟨_, rfl, ?_⟩; replace BK218 := xbb (g := gb218) (o := .cells #[.int .u8 t213, .int .u8 t214, .int .u8 t215, .int .u8 t216] 53 (0, 0)) hb; replace HB := xst hb; (try clear hb)))
      go_ret
      exact ⟨xre, xbl⟩
end Go.Proofs.YtdmigmccfdhdiaaDoor.X
