/- Texts that the law's proof needs, joined by a program of this session. -/
import Derived.Test.YticohlbfolnmpaaDoorZIpReads1
import Derived.Test.YticohlbfolnmpaaDoorZIpReads2
import Derived.Test.YticohlbfolnmpaaDoorZIpReads3
import Derived.Test.YticohlbfolnmpaaDoorZIpReads4
namespace Go.Proofs.YticohlbfolnmpaaDoor.X
open Go.RowKit Go.Proofs.YticohlbfolnmpaaDoorW.PrintWords Go.Proofs.YticohlbfolnmpaaDoorW.PrintLast Go.Proofs.YticohlbfolnmpaaDoorW.PrintMore
attribute [local go_sem] max2_int min2_int max_two min_two max_three min_three max_four min_four
set_option linter.unusedVariables false
set_option linter.unusedSimpArgs false
mutual
def utf_Decode.j0 : Nat → ByteArray → Int → Int → Bool → Option (Int × Int × Bool)
  | 0, _, _, _, _ => none
  | k + 1, x0, x5, x6, x20 => if x20 = true then (some (0, x5, false)) else (if 0 < (x0.size : Int) then (if 0 ≤ x6 then (if x6 = 0 then (utf_Decode.l0 k x0 (wrap32 (Go.bits .and .u8 (bt x0 0) 0)) x6 1) else (if x6 = 1 then (utf_Decode.l0 k x0 (wrap32 (Go.bits .and .u8 (bt x0 0) 127)) x6 1) else (if x6 = 2 then (utf_Decode.l0 k x0 (wrap32 (Go.bits .and .u8 (bt x0 0) 31)) x6 1) else (if x6 = 3 then (utf_Decode.l0 k x0 (wrap32 (Go.bits .and .u8 (bt x0 0) 15)) x6 1) else (if x6 = 4 then (utf_Decode.l0 k x0 (wrap32 (Go.bits .and .u8 (bt x0 0) 7)) x6 1) else (none)))))) else (none)) else (none))
def utf_Decode.l0 : Nat → ByteArray → Int → Int → Int → Option (Int × Int × Bool)
  | 0, _, _, _, _ => none
  | k + 1, x0, x2, x6, x8 => if x8 < x6 then (if 0 ≤ x8 then (if x8 < (x0.size : Int) then (utf_Decode.l0 k x0 (Go.bits .or .i32 (wrap32 (x2 * 64)) (wrap32 (Go.bits .and .u8 (bt x0 x8) 63))) x6 (wrap64 (x8 + 1))) else (none)) else (none)) else (some (x2, x6, true))
end
def utf_Decode.f (k : Nat) (a0 : ByteArray) : Option (Int × Int × Bool) := (utf_front.f k a0).bind fun bt159 => (if bt159.2 = 0 then (utf_Decode.j0 k a0 bt159.1 bt159.2 true) else (utf_Decode.j0 k a0 bt159.1 bt159.2 (decide (bt159.1 < bt159.2))))
theorem utf_Decode.mono_l : ∀ k, (∀ y0 y1 y2 y3, LeO (utf_Decode.j0 k y0 y1 y2 y3) (utf_Decode.j0 (k + 1) y0 y1 y2 y3)) ∧ (∀ y0 y1 y2 y3, LeO (utf_Decode.l0 k y0 y1 y2 y3) (utf_Decode.l0 (k + 1) y0 y1 y2 y3))
  | 0 => ⟨fun _ _ _ _ r h => by simp [utf_Decode.j0] at h, fun _ _ _ _ r h => by simp [utf_Decode.l0] at h⟩
  | k + 1 => by
    obtain ⟨ih0, ih1⟩ := utf_Decode.mono_l k
    have m0 := @utf_front.mono
    refine ⟨?_, ?_⟩
    · intro y0 y1 y2 y3
      unfold utf_Decode.j0
      exact xmo
    · intro y0 y1 y2 y3
      unfold utf_Decode.l0
      exact xmo
theorem utf_Decode.mono : ∀ a0 k, LeO (utf_Decode.f k a0) (utf_Decode.f (k + 1) a0) := by
  intro a0 k
  obtain ⟨ih0, ih1⟩ := utf_Decode.mono_l k
  have m0 := @utf_front.mono
  unfold utf_Decode.f
  exact xmo
set_option maxHeartbeats 8000000 in
set_option maxRecDepth 100000 in
theorem utf_Decode.calls (k : Nat) (a0 : ByteArray) (r1 : Int) (r2 : Int) (r3 : Bool) (w : World) (h : utf_Decode.f k a0 = some (r1, r2, r3)) :
    Calls Tryd.prog 61 #[.string a0] w fun e w' => e = .returned (.tuple #[.int .i32 r1, .int .i64 r2, .bool r3]) ∧ Below w.heap.size w w' := by
 have hu110 := Tryd.underlying110
 have HB := Aside0.mk (Below.refl w.heap.size w)
 have H : ((utf_front.f k a0).bind fun bt159 => (if bt159.2 = 0 then (utf_Decode.j0 k a0 bt159.1 bt159.2 true) else (utf_Decode.j0 k a0 bt159.1 bt159.2 (decide (bt159.1 < bt159.2))))) = some (r1, r2, r3) := h
 clear h
 replace H := Option.bind_eq_some_iff.mp H
 obtain ⟨⟨t159, t160⟩, A20, H⟩ := H
 try dsimp only at H
 have A2 := Aside0.mk A20
 clear A20
 have HC3 := Aside0.mk H
 clear H
 go_enter Tryd.func61, Tryd.ntmps61
 go_upto_region 2 with (first | (go_at_call 79; (with_reducible refine (utf_front.calls k a0 t159 t160 _ A2.out).mono ?_); rintro e w' ⟨rfl, ⟨nd, rfl⟩⟩; (try first | exact ⟨rfl, _, World.drewN_drewN _ _ _⟩ | exact ⟨rfl, _, Eq.trans (World.drewN_drewN _ _ _) (congrArg (World.drewN _) (Nat.add_assoc _ _ _))⟩)))
 repeat (go_quiet (first | (go_at_call 79; (with_reducible refine (utf_front.calls k a0 t159 t160 _ A2.out).mono ?_); rintro e w' ⟨rfl, ⟨nd, rfl⟩⟩; (try first | exact ⟨rfl, _, World.drewN_drewN _ _ _⟩ | exact ⟨rfl, _, Eq.trans (World.drewN_drewN _ _ _) (congrArg (World.drewN _) (Nat.add_assoc _ _ _))⟩))); go_upto_region 2 with (first | (go_at_call 79; (with_reducible refine (utf_front.calls k a0 t159 t160 _ A2.out).mono ?_); rintro e w' ⟨rfl, ⟨nd, rfl⟩⟩; (try first | exact ⟨rfl, _, World.drewN_drewN _ _ _⟩ | exact ⟨rfl, _, Eq.trans (World.drewN_drewN _ _ _) (congrArg (World.drewN _) (Nat.add_assoc _ _ _))⟩))))
 (try simp only [Act.put, List.setIfInBounds_toArray, List.set_cons_zero, List.set_cons_succ])
 go_cut [20] (fun v20 wc => ∃ (kq : Nat) (x20_2 : Bool), v20 = .bool x20_2 ∧ Aside0 (utf_Decode.j0 kq a0 t159 t160 x20_2 = some (r1, r2, r3)) ∧ Aside0 (kq ≤ k) ∧ Aside0 (Below w.heap.size w wc))
 case first =>
  have H := HC3.out
  clear HC3
  by_cases c4 : t160 = 0
  ·
   rw [if_pos c4] at H
   have c4b0 : (t160 == 0) = true := beq_iff_eq.mpr c4
   have c4b1 : (t160 != 0) = false := bne_eq_false_iff_eq.mpr c4
   clear c4
   (first | rw [c4b0] | (simp only [i64_w, i32_w]; rw [c4b0]) | skip)
   have H' := Aside0.mk H
   clear H
   go_wp2
   repeat (go_quiet (fail); try go_wp2)
   go_meet
   case rel => exact ⟨_, (true), xrr, H', ⟨xom⟩, ⟨xbl⟩⟩
  ·
   rw [if_neg c4] at H
   have c4b0 : (t160 == 0) = false := beq_eq_false_iff_ne.mpr c4
   have c4b1 : (t160 != 0) = true := bne_iff_ne.mpr c4
   (first | rw [c4b0] | (simp only [i64_w, i32_w]; rw [c4b0]) | skip)
   have H' := Aside0.mk H
   clear H
   go_wp2
   repeat (go_quiet (fail); try go_wp2)
   go_meet
   case rel => exact ⟨_, (decide (t159 < t160)), xrr, H', ⟨xom⟩, ⟨xbl⟩⟩
 case rest =>
  clear HC3
  obtain ⟨kq, x20_2, rfl, HA, HJ2, HB⟩ := hcut
  cases kq with
  | zero => exact absurd HA.out (by simp [utf_Decode.j0])
  | succ kj2 =>
   have H := HA.out
   clear HA
   simp only [utf_Decode.j0] at H
   by_cases c5 : x20_2 = true
   ·
    subst c5
    rw [if_pos rfl] at H
    simp only [Option.some.injEq, Prod.mk.injEq] at H
    obtain ⟨rfl, rfl, rfl⟩ := H
    go_wp2
    repeat (go_quiet (fail); try go_wp2)
    go_ret3
    exact ⟨xre, xbl⟩
   ·
    replace c5 := Bool.eq_false_iff.mpr c5
    subst c5
    rw [if_neg (show ¬ (false = true) by decide)] at H
    by_cases c6 : 0 < (a0.size : Int)
    ·
     rw [if_pos c6] at H
     have c6b0 := decide_eq_true c6
     have c6b1 : decide (0 < a0.size) = true := decide_eq_true (by omega)
     clear c6
     by_cases c8 : 0 ≤ t160
     ·
      rw [if_pos c8] at H
      have c8b0 := decide_eq_true c8
      clear c8
      by_cases c9 : t160 = 0
      ·
       subst c9
       rw [if_pos rfl] at H
       have H' := Aside0.mk H
       clear H
       go_wp2_with (first | ((with_reducible refine gate_dst (N := 7) rfl ?_); refine xev 7 #[.int .u8 0, .int .u8 0, .int .u8 0, .int .u8 0, .int .u8 0] 110 ?_; intro gb161 hg w10 hbox hb; have BK161 := Aside0.mk (hbox); have GW161 := xsz hg; have GE161 := GW161; replace HB := xst hb; clear hb hbox hg; obtain ⟨hcz11_0, hcz11_1, hcz11_2, hcz11_3, hcz11_4⟩ := xc5 BK161; have hfz11_0 := xf BK161 0; have hfz11_1 := xf BK161 1; have hfz11_2 := xf BK161 2; have hfz11_3 := xf BK161 3; have hfz11_4 := xf BK161 4; have p7 : 0 ≤ (0 : Int) := (by omega); have q7 : 0 < a0.size := (by have : (0 : Int) < (a0.size : Int) := xod; omega); have hx7 : ∀ h : 0 < a0.size, ((a0[0]'h).toNat : Int) = bt a0 0 := bt_at a0 0; clear p7; have qi7 : (0 < (a0.size : Int)) = True := eq_true (xod); replace q7 := eq_true q7))
       repeat (go_quiet (first | ((with_reducible refine gate_dst (N := 7) rfl ?_); refine xev 7 #[.int .u8 0, .int .u8 0, .int .u8 0, .int .u8 0, .int .u8 0] 110 ?_; intro gb161 hg w10 hbox hb; have BK161 := Aside0.mk (hbox); have GW161 := xsz hg; have GE161 := GW161; replace HB := xst hb; clear hb hbox hg; obtain ⟨hcz11_0, hcz11_1, hcz11_2, hcz11_3, hcz11_4⟩ := xc5 BK161; have hfz11_0 := xf BK161 0; have hfz11_1 := xf BK161 1; have hfz11_2 := xf BK161 2; have hfz11_3 := xf BK161 3; have hfz11_4 := xf BK161 4; have p7 : 0 ≤ (0 : Int) := (by omega); have q7 : 0 < a0.size := (by have : (0 : Int) < (a0.size : Int) := xod; omega); have hx7 : ∀ h : 0 < a0.size, ((a0[0]'h).toNat : Int) = bt a0 0 := bt_at a0 0; clear p7; have qi7 : (0 < (a0.size : Int)) = True := eq_true (xod); replace q7 := eq_true q7)); try go_wp2_with (first | ((with_reducible refine gate_dst (N := 7) rfl ?_); refine xev 7 #[.int .u8 0, .int .u8 0, .int .u8 0, .int .u8 0, .int .u8 0] 110 ?_; intro gb161 hg w10 hbox hb; have BK161 := Aside0.mk (hbox); have GW161 := xsz hg; have GE161 := GW161; replace HB := xst hb; clear hb hbox hg; obtain ⟨hcz11_0, hcz11_1, hcz11_2, hcz11_3, hcz11_4⟩ := xc5 BK161; have hfz11_0 := xf BK161 0; have hfz11_1 := xf BK161 1; have hfz11_2 := xf BK161 2; have hfz11_3 := xf BK161 3; have hfz11_4 := xf BK161 4; have p7 : 0 ≤ (0 : Int) := (by omega); have q7 : 0 < a0.size := (by have : (0 : Int) < (a0.size : Int) := xod; omega); have hx7 : ∀ h : 0 < a0.size, ((a0[0]'h).toNat : Int) = bt a0 0 := bt_at a0 0; clear p7; have qi7 : (0 < (a0.size : Int)) = True := eq_true (xod); replace q7 := eq_true q7)))
       go_loopg [2, 8] kj2 (fun kq v2 v8 w' => ∃ (x2_2 : Int) (x8_2 : Int), v2 = .int .i32 x2_2 ∧ v8 = .int .i64 x8_2 ∧ Aside0 (utf_Decode.l0 kq a0 x2_2 0 x8_2 = some (r1, r2, r3)) ∧ Aside0 (kq ≤ kj2) ∧ Aside0 (w'.heap[gb161]? = some (.cells #[.int .u8 0, .int .u8 127, .int .u8 31, .int .u8 15, .int .u8 7] 110 (0, 0))) ∧ Aside0 (Below w.heap.size w w'))
       case atStart => exact ⟨(wrap32 (Go.bits .and .u8 (bt a0 0) 0)), (1), xrr, xrr, H', ⟨Nat.le_refl _⟩, ⟨by (with_reducible repeat (first | refine blk_drewN ?_ _ | refine blk_drew ?_ | refine blk_alloc ?_ _)); refine blk_put (cs := #[.int .u8 0, .int .u8 127, .int .u8 31, .int .u8 15, .int .u8 0]) ?_ 4 _ rfl; (with_reducible repeat (first | refine blk_drewN ?_ _ | refine blk_drew ?_ | refine blk_alloc ?_ _)); refine blk_put (cs := #[.int .u8 0, .int .u8 127, .int .u8 31, .int .u8 0, .int .u8 0]) ?_ 3 _ rfl; (with_reducible repeat (first | refine blk_drewN ?_ _ | refine blk_drew ?_ | refine blk_alloc ?_ _)); refine blk_put (cs := #[.int .u8 0, .int .u8 127, .int .u8 0, .int .u8 0, .int .u8 0]) ?_ 2 _ rfl; (with_reducible repeat (first | refine blk_drewN ?_ _ | refine blk_drew ?_ | refine blk_alloc ?_ _)); refine blk_put (cs := #[.int .u8 0, .int .u8 0, .int .u8 0, .int .u8 0, .int .u8 0]) ?_ 1 _ rfl; (with_reducible repeat (first | refine blk_drewN ?_ _ | refine blk_drew ?_ | refine blk_alloc ?_ _)); refine blk_put (cs := #[.int .u8 0, .int .u8 0, .int .u8 0, .int .u8 0, .int .u8 0]) ?_ 0 _ rfl; (with_reducible repeat (first | refine blk_drewN ?_ _ | refine blk_drew ?_ | refine blk_alloc ?_ _)); exact BK161.out⟩, ⟨xbl⟩⟩
       case round =>
        clear H'
        clear c6b0 c6b1 c8b0
        try clear p7
        try clear q7
        try clear hx7
        try clear qi7
        obtain ⟨x2_2, x8_2, rfl, rfl, HA, HK2, BK161, HB⟩ := hrel
        cases gk with
        | zero => exact absurd HA.out (by simp [utf_Decode.l0])
        | succ k2 =>
         have H := HA.out
         clear HA
         simp only [utf_Decode.l0] at H
         by_cases c12 : x8_2 < 0
         ·
          rw [if_pos c12] at H
          have c12b0 := decide_eq_true c12
          clear c12
          by_cases c13 : 0 ≤ x8_2
          ·
           rw [if_pos c13] at H
           have c13b0 := decide_eq_true c13
           clear c13
           by_cases c14 : x8_2 < (a0.size : Int)
           ·
            rw [if_pos c14] at H
            have c14b0 := decide_eq_true c14
            clear c14
            have H' := Aside0.mk H
            clear H
            have p15 : 0 ≤ (x8_2 : Int) := xod
            have q15 : x8_2 < (a0.size : Int) := xod
            have hx15 := bt_at a0 x8_2
            replace p15 := eq_true p15
            replace q15 := eq_true q15
            try (have q15x := q15; simp only [ByteArray.size_extract, Nat.min_self] at q15x)
            go_wp2
            repeat (go_quiet (fail); try go_wp2)
            go_roundg k2
            case measure => have := HJ2.out; have := HK2.out; omega
            case rel => exact ⟨(Go.bits .or .i32 (wrap32 (x2_2 * 64)) (wrap32 (Go.bits .and .u8 (bt a0 x8_2) 63))), (wrap64 (x8_2 + 1)), xrr, xrr, H', ⟨by have := HJ2.out; have := HK2.out; omega⟩, ⟨xbk⟩, ⟨xbl⟩⟩
           ·
            rw [if_neg c14] at H
            exact absurd H (by simp)
          ·
           rw [if_neg c13] at H
           exact absurd H (by simp)
         ·
          rw [if_neg c12] at H
          have c12b0 := decide_eq_false c12
          clear c12
          simp only [Option.some.injEq, Prod.mk.injEq] at H
          obtain ⟨rfl, rfl, rfl⟩ := H
          go_wp2
          repeat (go_quiet (fail); try go_wp2)
          go_ret3
          exact ⟨xre, xbl⟩
      ·
       rw [if_neg c9] at H
       clear c9
       by_cases c16 : t160 = 1
       ·
        subst c16
        rw [if_pos rfl] at H
        have H' := Aside0.mk H
        clear H
        go_wp2_with (first | ((with_reducible refine gate_dst (N := 7) rfl ?_); refine xev 7 #[.int .u8 0, .int .u8 0, .int .u8 0, .int .u8 0, .int .u8 0] 110 ?_; intro gb161 hg w17 hbox hb; have BK161 := Aside0.mk (hbox); have GW161 := xsz hg; have GE161 := GW161; replace HB := xst hb; clear hb hbox hg; obtain ⟨hcz18_0, hcz18_1, hcz18_2, hcz18_3, hcz18_4⟩ := xc5 BK161; have hfz18_0 := xf BK161 0; have hfz18_1 := xf BK161 1; have hfz18_2 := xf BK161 2; have hfz18_3 := xf BK161 3; have hfz18_4 := xf BK161 4; have p7 : 0 ≤ (0 : Int) := (by omega); have q7 : 0 < a0.size := (by have : (0 : Int) < (a0.size : Int) := xod; omega); have hx7 : ∀ h : 0 < a0.size, ((a0[0]'h).toNat : Int) = bt a0 0 := bt_at a0 0; clear p7; have qi7 : (0 < (a0.size : Int)) = True := eq_true (xod); replace q7 := eq_true q7))
        repeat (go_quiet (first | ((with_reducible refine gate_dst (N := 7) rfl ?_); refine xev 7 #[.int .u8 0, .int .u8 0, .int .u8 0, .int .u8 0, .int .u8 0] 110 ?_; intro gb161 hg w17 hbox hb; have BK161 := Aside0.mk (hbox); have GW161 := xsz hg; have GE161 := GW161; replace HB := xst hb; clear hb hbox hg; obtain ⟨hcz18_0, hcz18_1, hcz18_2, hcz18_3, hcz18_4⟩ := xc5 BK161; have hfz18_0 := xf BK161 0; have hfz18_1 := xf BK161 1; have hfz18_2 := xf BK161 2; have hfz18_3 := xf BK161 3; have hfz18_4 := xf BK161 4; have p7 : 0 ≤ (0 : Int) := (by omega); have q7 : 0 < a0.size := (by have : (0 : Int) < (a0.size : Int) := xod; omega); have hx7 : ∀ h : 0 < a0.size, ((a0[0]'h).toNat : Int) = bt a0 0 := bt_at a0 0; clear p7; have qi7 : (0 < (a0.size : Int)) = True := eq_true (xod); replace q7 := eq_true q7)); try go_wp2_with (first | ((with_reducible refine gate_dst (N := 7) rfl ?_); refine xev 7 #[.int .u8 0, .int .u8 0, .int .u8 0, .int .u8 0, .int .u8 0] 110 ?_; intro gb161 hg w17 hbox hb; have BK161 := Aside0.mk (hbox); have GW161 := xsz hg; have GE161 := GW161; replace HB := xst hb; clear hb hbox hg; obtain ⟨hcz18_0, hcz18_1, hcz18_2, hcz18_3, hcz18_4⟩ := xc5 BK161; have hfz18_0 := xf BK161 0; have hfz18_1 := xf BK161 1; have hfz18_2 := xf BK161 2; have hfz18_3 := xf BK161 3; have hfz18_4 := xf BK161 4; have p7 : 0 ≤ (0 : Int) := (by omega); have q7 : 0 < a0.size := (by have : (0 : Int) < (a0.size : Int) := xod; omega); have hx7 : ∀ h : 0 < a0.size, ((a0[0]'h).toNat : Int) = bt a0 0 := bt_at a0 0; clear p7; have qi7 : (0 < (a0.size : Int)) = True := eq_true (xod); replace q7 := eq_true q7)))
        go_loopg [2, 8] kj2 (fun kq v2 v8 w' => ∃ (x2_2 : Int) (x8_2 : Int), v2 = .int .i32 x2_2 ∧ v8 = .int .i64 x8_2 ∧ Aside0 (utf_Decode.l0 kq a0 x2_2 1 x8_2 = some (r1, r2, r3)) ∧ Aside0 (kq ≤ kj2) ∧ Aside0 (w'.heap[gb161]? = some (.cells #[.int .u8 0, .int .u8 127, .int .u8 31, .int .u8 15, .int .u8 7] 110 (0, 0))) ∧ Aside0 (Below w.heap.size w w'))
        case atStart => exact ⟨(wrap32 (Go.bits .and .u8 (bt a0 0) 127)), (1), xrr, xrr, H', ⟨Nat.le_refl _⟩, ⟨by (with_reducible repeat (first | refine blk_drewN ?_ _ | refine blk_drew ?_ | refine blk_alloc ?_ _)); refine blk_put (cs := #[.int .u8 0, .int .u8 127, .int .u8 31, .int .u8 15, .int .u8 0]) ?_ 4 _ rfl; (with_reducible repeat (first | refine blk_drewN ?_ _ | refine blk_drew ?_ | refine blk_alloc ?_ _)); refine blk_put (cs := #[.int .u8 0, .int .u8 127, .int .u8 31, .int .u8 0, .int .u8 0]) ?_ 3 _ rfl; (with_reducible repeat (first | refine blk_drewN ?_ _ | refine blk_drew ?_ | refine blk_alloc ?_ _)); refine blk_put (cs := #[.int .u8 0, .int .u8 127, .int .u8 0, .int .u8 0, .int .u8 0]) ?_ 2 _ rfl; (with_reducible repeat (first | refine blk_drewN ?_ _ | refine blk_drew ?_ | refine blk_alloc ?_ _)); refine blk_put (cs := #[.int .u8 0, .int .u8 0, .int .u8 0, .int .u8 0, .int .u8 0]) ?_ 1 _ rfl; (with_reducible repeat (first | refine blk_drewN ?_ _ | refine blk_drew ?_ | refine blk_alloc ?_ _)); refine blk_put (cs := #[.int .u8 0, .int .u8 0, .int .u8 0, .int .u8 0, .int .u8 0]) ?_ 0 _ rfl; (with_reducible repeat (first | refine blk_drewN ?_ _ | refine blk_drew ?_ | refine blk_alloc ?_ _)); exact BK161.out⟩, ⟨xbl⟩⟩
        case round =>
         clear H'
         try clear p7
         try clear q7
         try clear hx7
         try clear qi7
         obtain ⟨x2_2, x8_2, rfl, rfl, HA, HK2, BK161, HB⟩ := hrel
         cases gk with
         | zero => exact absurd HA.out (by simp [utf_Decode.l0])
         | succ k2 =>
          have H := HA.out
          clear HA
          simp only [utf_Decode.l0] at H
          by_cases c19 : x8_2 < 1
          ·
           rw [if_pos c19] at H
           have c19b0 := decide_eq_true c19
           clear c19
           by_cases c20 : 0 ≤ x8_2
           ·
            rw [if_pos c20] at H
            have c20b0 := decide_eq_true c20
            clear c20
            by_cases c21 : x8_2 < (a0.size : Int)
            ·
             rw [if_pos c21] at H
             have c21b0 := decide_eq_true c21
             clear c21
             have H' := Aside0.mk H
             clear H
             have p22 : 0 ≤ (x8_2 : Int) := xod
             have q22 : x8_2 < (a0.size : Int) := xod
             have hx22 := bt_at a0 x8_2
             replace p22 := eq_true p22
             replace q22 := eq_true q22
             try (have q22x := q22; simp only [ByteArray.size_extract, Nat.min_self] at q22x)
             go_wp2
             repeat (go_quiet (fail); try go_wp2)
             go_roundg k2
             case measure => have := HJ2.out; have := HK2.out; omega
             case rel => exact ⟨(Go.bits .or .i32 (wrap32 (x2_2 * 64)) (wrap32 (Go.bits .and .u8 (bt a0 x8_2) 63))), (wrap64 (x8_2 + 1)), xrr, xrr, H', ⟨by have := HJ2.out; have := HK2.out; omega⟩, ⟨xbk⟩, ⟨xbl⟩⟩
            ·
             rw [if_neg c21] at H
             exact absurd H (by simp)
           ·
            rw [if_neg c20] at H
            exact absurd H (by simp)
          ·
           rw [if_neg c19] at H
           have c19b0 := decide_eq_false c19
           clear c19
           simp only [Option.some.injEq, Prod.mk.injEq] at H
           obtain ⟨rfl, rfl, rfl⟩ := H
           go_wp2
           repeat (go_quiet (fail); try go_wp2)
           go_ret3
           exact ⟨xre, xbl⟩
       ·
        rw [if_neg c16] at H
        clear c16
        by_cases c23 : t160 = 2
        ·
         subst c23
         rw [if_pos rfl] at H
         have H' := Aside0.mk H
         clear H
         go_wp2_with (first | ((with_reducible refine gate_dst (N := 7) rfl ?_); refine xev 7 #[.int .u8 0, .int .u8 0, .int .u8 0, .int .u8 0, .int .u8 0] 110 ?_; intro gb161 hg w24 hbox hb; have BK161 := Aside0.mk (hbox); have GW161 := xsz hg; have GE161 := GW161; replace HB := xst hb; clear hb hbox hg; obtain ⟨hcz25_0, hcz25_1, hcz25_2, hcz25_3, hcz25_4⟩ := xc5 BK161; have hfz25_0 := xf BK161 0; have hfz25_1 := xf BK161 1; have hfz25_2 := xf BK161 2; have hfz25_3 := xf BK161 3; have hfz25_4 := xf BK161 4; have p7 : 0 ≤ (0 : Int) := (by omega); have q7 : 0 < a0.size := (by have : (0 : Int) < (a0.size : Int) := xod; omega); have hx7 : ∀ h : 0 < a0.size, ((a0[0]'h).toNat : Int) = bt a0 0 := bt_at a0 0; clear p7; have qi7 : (0 < (a0.size : Int)) = True := eq_true (xod); replace q7 := eq_true q7))
         repeat (go_quiet (first | ((with_reducible refine gate_dst (N := 7) rfl ?_); refine xev 7 #[.int .u8 0, .int .u8 0, .int .u8 0, .int .u8 0, .int .u8 0] 110 ?_; intro gb161 hg w24 hbox hb; have BK161 := Aside0.mk (hbox); have GW161 := xsz hg; have GE161 := GW161; replace HB := xst hb; clear hb hbox hg; obtain ⟨hcz25_0, hcz25_1, hcz25_2, hcz25_3, hcz25_4⟩ := xc5 BK161; have hfz25_0 := xf BK161 0; have hfz25_1 := xf BK161 1; have hfz25_2 := xf BK161 2; have hfz25_3 := xf BK161 3; have hfz25_4 := xf BK161 4; have p7 : 0 ≤ (0 : Int) := (by omega); have q7 : 0 < a0.size := (by have : (0 : Int) < (a0.size : Int) := xod; omega); have hx7 : ∀ h : 0 < a0.size, ((a0[0]'h).toNat : Int) = bt a0 0 := bt_at a0 0; clear p7; have qi7 : (0 < (a0.size : Int)) = True := eq_true (xod); replace q7 := eq_true q7)); try go_wp2_with (first | ((with_reducible refine gate_dst (N := 7) rfl ?_); refine xev 7 #[.int .u8 0, .int .u8 0, .int .u8 0, .int .u8 0, .int .u8 0] 110 ?_; intro gb161 hg w24 hbox hb; have BK161 := Aside0.mk (hbox); have GW161 := xsz hg; have GE161 := GW161; replace HB := xst hb; clear hb hbox hg; obtain ⟨hcz25_0, hcz25_1, hcz25_2, hcz25_3, hcz25_4⟩ := xc5 BK161; have hfz25_0 := xf BK161 0; have hfz25_1 := xf BK161 1; have hfz25_2 := xf BK161 2; have hfz25_3 := xf BK161 3; have hfz25_4 := xf BK161 4; have p7 : 0 ≤ (0 : Int) := (by omega); have q7 : 0 < a0.size := (by have : (0 : Int) < (a0.size : Int) := xod; omega); have hx7 : ∀ h : 0 < a0.size, ((a0[0]'h).toNat : Int) = bt a0 0 := bt_at a0 0; clear p7; have qi7 : (0 < (a0.size : Int)) = True := eq_true (xod); replace q7 := eq_true q7)))
         go_loopg [2, 8] kj2 (fun kq v2 v8 w' => ∃ (x2_2 : Int) (x8_2 : Int), v2 = .int .i32 x2_2 ∧ v8 = .int .i64 x8_2 ∧ Aside0 (utf_Decode.l0 kq a0 x2_2 2 x8_2 = some (r1, r2, r3)) ∧ Aside0 (kq ≤ kj2) ∧ Aside0 (w'.heap[gb161]? = some (.cells #[.int .u8 0, .int .u8 127, .int .u8 31, .int .u8 15, .int .u8 7] 110 (0, 0))) ∧ Aside0 (Below w.heap.size w w'))
         case atStart => exact ⟨(wrap32 (Go.bits .and .u8 (bt a0 0) 31)), (1), xrr, xrr, H', ⟨Nat.le_refl _⟩, ⟨by (with_reducible repeat (first | refine blk_drewN ?_ _ | refine blk_drew ?_ | refine blk_alloc ?_ _)); refine blk_put (cs := #[.int .u8 0, .int .u8 127, .int .u8 31, .int .u8 15, .int .u8 0]) ?_ 4 _ rfl; (with_reducible repeat (first | refine blk_drewN ?_ _ | refine blk_drew ?_ | refine blk_alloc ?_ _)); refine blk_put (cs := #[.int .u8 0, .int .u8 127, .int .u8 31, .int .u8 0, .int .u8 0]) ?_ 3 _ rfl; (with_reducible repeat (first | refine blk_drewN ?_ _ | refine blk_drew ?_ | refine blk_alloc ?_ _)); refine blk_put (cs := #[.int .u8 0, .int .u8 127, .int .u8 0, .int .u8 0, .int .u8 0]) ?_ 2 _ rfl; (with_reducible repeat (first | refine blk_drewN ?_ _ | refine blk_drew ?_ | refine blk_alloc ?_ _)); refine blk_put (cs := #[.int .u8 0, .int .u8 0, .int .u8 0, .int .u8 0, .int .u8 0]) ?_ 1 _ rfl; (with_reducible repeat (first | refine blk_drewN ?_ _ | refine blk_drew ?_ | refine blk_alloc ?_ _)); refine blk_put (cs := #[.int .u8 0, .int .u8 0, .int .u8 0, .int .u8 0, .int .u8 0]) ?_ 0 _ rfl; (with_reducible repeat (first | refine blk_drewN ?_ _ | refine blk_drew ?_ | refine blk_alloc ?_ _)); exact BK161.out⟩, ⟨xbl⟩⟩
         case round =>
          clear H'
          try clear p7
          try clear q7
          try clear hx7
          try clear qi7
          obtain ⟨x2_2, x8_2, rfl, rfl, HA, HK2, BK161, HB⟩ := hrel
          cases gk with
          | zero => exact absurd HA.out (by simp [utf_Decode.l0])
          | succ k2 =>
           have H := HA.out
           clear HA
           simp only [utf_Decode.l0] at H
           by_cases c26 : x8_2 < 2
           ·
            rw [if_pos c26] at H
            have c26b0 := decide_eq_true c26
            clear c26
            by_cases c27 : 0 ≤ x8_2
            ·
             rw [if_pos c27] at H
             have c27b0 := decide_eq_true c27
             clear c27
             by_cases c28 : x8_2 < (a0.size : Int)
             ·
              rw [if_pos c28] at H
              have c28b0 := decide_eq_true c28
              clear c28
              have H' := Aside0.mk H
              clear H
              have p29 : 0 ≤ (x8_2 : Int) := xod
              have q29 : x8_2 < (a0.size : Int) := xod
              have hx29 := bt_at a0 x8_2
              replace p29 := eq_true p29
              replace q29 := eq_true q29
              try (have q29x := q29; simp only [ByteArray.size_extract, Nat.min_self] at q29x)
              go_wp2
              repeat (go_quiet (fail); try go_wp2)
              go_roundg k2
              case measure => have := HJ2.out; have := HK2.out; omega
              case rel => exact ⟨(Go.bits .or .i32 (wrap32 (x2_2 * 64)) (wrap32 (Go.bits .and .u8 (bt a0 x8_2) 63))), (wrap64 (x8_2 + 1)), xrr, xrr, H', ⟨by have := HJ2.out; have := HK2.out; omega⟩, ⟨xbk⟩, ⟨xbl⟩⟩
             ·
              rw [if_neg c28] at H
              exact absurd H (by simp)
            ·
             rw [if_neg c27] at H
             exact absurd H (by simp)
           ·
            rw [if_neg c26] at H
            have c26b0 := decide_eq_false c26
            clear c26
            simp only [Option.some.injEq, Prod.mk.injEq] at H
            obtain ⟨rfl, rfl, rfl⟩ := H
            go_wp2
            repeat (go_quiet (fail); try go_wp2)
            go_ret3
            exact ⟨xre, xbl⟩
        ·
         rw [if_neg c23] at H
         clear c23
         by_cases c30 : t160 = 3
         ·
          subst c30
          rw [if_pos rfl] at H
          have H' := Aside0.mk H
          clear H
          go_wp2_with (first | ((with_reducible refine gate_dst (N := 7) rfl ?_); refine xev 7 #[.int .u8 0, .int .u8 0, .int .u8 0, .int .u8 0, .int .u8 0] 110 ?_; intro gb161 hg w31 hbox hb; have BK161 := Aside0.mk (hbox); have GW161 := xsz hg; have GE161 := GW161; replace HB := xst hb; clear hb hbox hg; obtain ⟨hcz32_0, hcz32_1, hcz32_2, hcz32_3, hcz32_4⟩ := xc5 BK161; have hfz32_0 := xf BK161 0; have hfz32_1 := xf BK161 1; have hfz32_2 := xf BK161 2; have hfz32_3 := xf BK161 3; have hfz32_4 := xf BK161 4; have p7 : 0 ≤ (0 : Int) := (by omega); have q7 : 0 < a0.size := (by have : (0 : Int) < (a0.size : Int) := xod; omega); have hx7 : ∀ h : 0 < a0.size, ((a0[0]'h).toNat : Int) = bt a0 0 := bt_at a0 0; clear p7; have qi7 : (0 < (a0.size : Int)) = True := eq_true (xod); replace q7 := eq_true q7))
          repeat (go_quiet (first | ((with_reducible refine gate_dst (N := 7) rfl ?_); refine xev 7 #[.int .u8 0, .int .u8 0, .int .u8 0, .int .u8 0, .int .u8 0] 110 ?_; intro gb161 hg w31 hbox hb; have BK161 := Aside0.mk (hbox); have GW161 := xsz hg; have GE161 := GW161; replace HB := xst hb; clear hb hbox hg; obtain ⟨hcz32_0, hcz32_1, hcz32_2, hcz32_3, hcz32_4⟩ := xc5 BK161; have hfz32_0 := xf BK161 0; have hfz32_1 := xf BK161 1; have hfz32_2 := xf BK161 2; have hfz32_3 := xf BK161 3; have hfz32_4 := xf BK161 4; have p7 : 0 ≤ (0 : Int) := (by omega); have q7 : 0 < a0.size := (by have : (0 : Int) < (a0.size : Int) := xod; omega); have hx7 : ∀ h : 0 < a0.size, ((a0[0]'h).toNat : Int) = bt a0 0 := bt_at a0 0; clear p7; have qi7 : (0 < (a0.size : Int)) = True := eq_true (xod); replace q7 := eq_true q7)); try go_wp2_with (first | ((with_reducible refine gate_dst (N := 7) rfl ?_); refine xev 7 #[.int .u8 0, .int .u8 0, .int .u8 0, .int .u8 0, .int .u8 0] 110 ?_; intro gb161 hg w31 hbox hb; have BK161 := Aside0.mk (hbox); have GW161 := xsz hg; have GE161 := GW161; replace HB := xst hb; clear hb hbox hg; obtain ⟨hcz32_0, hcz32_1, hcz32_2, hcz32_3, hcz32_4⟩ := xc5 BK161; have hfz32_0 := xf BK161 0; have hfz32_1 := xf BK161 1; have hfz32_2 := xf BK161 2; have hfz32_3 := xf BK161 3; have hfz32_4 := xf BK161 4; have p7 : 0 ≤ (0 : Int) := (by omega); have q7 : 0 < a0.size := (by have : (0 : Int) < (a0.size : Int) := xod; omega); have hx7 : ∀ h : 0 < a0.size, ((a0[0]'h).toNat : Int) = bt a0 0 := bt_at a0 0; clear p7; have qi7 : (0 < (a0.size : Int)) = True := eq_true (xod); replace q7 := eq_true q7)))
          go_loopg [2, 8] kj2 (fun kq v2 v8 w' => ∃ (x2_2 : Int) (x8_2 : Int), v2 = .int .i32 x2_2 ∧ v8 = .int .i64 x8_2 ∧ Aside0 (utf_Decode.l0 kq a0 x2_2 3 x8_2 = some (r1, r2, r3)) ∧ Aside0 (kq ≤ kj2) ∧ Aside0 (w'.heap[gb161]? = some (.cells #[.int .u8 0, .int .u8 127, .int .u8 31, .int .u8 15, .int .u8 7] 110 (0, 0))) ∧ Aside0 (Below w.heap.size w w'))
          case atStart => exact ⟨(wrap32 (Go.bits .and .u8 (bt a0 0) 15)), (1), xrr, xrr, H', ⟨Nat.le_refl _⟩, ⟨by (with_reducible repeat (first | refine blk_drewN ?_ _ | refine blk_drew ?_ | refine blk_alloc ?_ _)); refine blk_put (cs := #[.int .u8 0, .int .u8 127, .int .u8 31, .int .u8 15, .int .u8 0]) ?_ 4 _ rfl; (with_reducible repeat (first | refine blk_drewN ?_ _ | refine blk_drew ?_ | refine blk_alloc ?_ _)); refine blk_put (cs := #[.int .u8 0, .int .u8 127, .int .u8 31, .int .u8 0, .int .u8 0]) ?_ 3 _ rfl; (with_reducible repeat (first | refine blk_drewN ?_ _ | refine blk_drew ?_ | refine blk_alloc ?_ _)); refine blk_put (cs := #[.int .u8 0, .int .u8 127, .int .u8 0, .int .u8 0, .int .u8 0]) ?_ 2 _ rfl; (with_reducible repeat (first | refine blk_drewN ?_ _ | refine blk_drew ?_ | refine blk_alloc ?_ _)); refine blk_put (cs := #[.int .u8 0, .int .u8 0, .int .u8 0, .int .u8 0, .int .u8 0]) ?_ 1 _ rfl; (with_reducible repeat (first | refine blk_drewN ?_ _ | refine blk_drew ?_ | refine blk_alloc ?_ _)); refine blk_put (cs := #[.int .u8 0, .int .u8 0, .int .u8 0, .int .u8 0, .int .u8 0]) ?_ 0 _ rfl; (with_reducible repeat (first | refine blk_drewN ?_ _ | refine blk_drew ?_ | refine blk_alloc ?_ _)); exact BK161.out⟩, ⟨xbl⟩⟩
          case round =>
           clear H'
           try clear p7
           try clear q7
           try clear hx7
           try clear qi7
           obtain ⟨x2_2, x8_2, rfl, rfl, HA, HK2, BK161, HB⟩ := hrel
           cases gk with
           | zero => exact absurd HA.out (by simp [utf_Decode.l0])
           | succ k2 =>
            have H := HA.out
            clear HA
            simp only [utf_Decode.l0] at H
            by_cases c33 : x8_2 < 3
            ·
             rw [if_pos c33] at H
             have c33b0 := decide_eq_true c33
             clear c33
             by_cases c34 : 0 ≤ x8_2
             ·
              rw [if_pos c34] at H
              have c34b0 := decide_eq_true c34
              clear c34
              by_cases c35 : x8_2 < (a0.size : Int)
              ·
               rw [if_pos c35] at H
               have c35b0 := decide_eq_true c35
               clear c35
               have H' := Aside0.mk H
               clear H
               have p36 : 0 ≤ (x8_2 : Int) := xod
               have q36 : x8_2 < (a0.size : Int) := xod
               have hx36 := bt_at a0 x8_2
               replace p36 := eq_true p36
               replace q36 := eq_true q36
               try (have q36x := q36; simp only [ByteArray.size_extract, Nat.min_self] at q36x)
               go_wp2
               repeat (go_quiet (fail); try go_wp2)
               go_roundg k2
               case measure => have := HJ2.out; have := HK2.out; omega
               case rel => exact ⟨(Go.bits .or .i32 (wrap32 (x2_2 * 64)) (wrap32 (Go.bits .and .u8 (bt a0 x8_2) 63))), (wrap64 (x8_2 + 1)), xrr, xrr, H', ⟨by have := HJ2.out; have := HK2.out; omega⟩, ⟨xbk⟩, ⟨xbl⟩⟩
              ·
               rw [if_neg c35] at H
               exact absurd H (by simp)
             ·
              rw [if_neg c34] at H
              exact absurd H (by simp)
            ·
             rw [if_neg c33] at H
             have c33b0 := decide_eq_false c33
             clear c33
             simp only [Option.some.injEq, Prod.mk.injEq] at H
             obtain ⟨rfl, rfl, rfl⟩ := H
             go_wp2
             repeat (go_quiet (fail); try go_wp2)
             go_ret3
             exact ⟨xre, xbl⟩
         ·
          rw [if_neg c30] at H
          clear c30
          by_cases c37 : t160 = 4
          ·
           subst c37
           rw [if_pos rfl] at H
           have H' := Aside0.mk H
           clear H
           go_wp2_with (first | ((with_reducible refine gate_dst (N := 7) rfl ?_); refine xev 7 #[.int .u8 0, .int .u8 0, .int .u8 0, .int .u8 0, .int .u8 0] 110 ?_; intro gb161 hg w38 hbox hb; have BK161 := Aside0.mk (hbox); have GW161 := xsz hg; have GE161 := GW161; replace HB := xst hb; clear hb hbox hg; obtain ⟨hcz39_0, hcz39_1, hcz39_2, hcz39_3, hcz39_4⟩ := xc5 BK161; have hfz39_0 := xf BK161 0; have hfz39_1 := xf BK161 1; have hfz39_2 := xf BK161 2; have hfz39_3 := xf BK161 3; have hfz39_4 := xf BK161 4; have p7 : 0 ≤ (0 : Int) := (by omega); have q7 : 0 < a0.size := (by have : (0 : Int) < (a0.size : Int) := xod; omega); have hx7 : ∀ h : 0 < a0.size, ((a0[0]'h).toNat : Int) = bt a0 0 := bt_at a0 0; clear p7; have qi7 : (0 < (a0.size : Int)) = True := eq_true (xod); replace q7 := eq_true q7))
           repeat (go_quiet (first | ((with_reducible refine gate_dst (N := 7) rfl ?_); refine xev 7 #[.int .u8 0, .int .u8 0, .int .u8 0, .int .u8 0, .int .u8 0] 110 ?_; intro gb161 hg w38 hbox hb; have BK161 := Aside0.mk (hbox); have GW161 := xsz hg; have GE161 := GW161; replace HB := xst hb; clear hb hbox hg; obtain ⟨hcz39_0, hcz39_1, hcz39_2, hcz39_3, hcz39_4⟩ := xc5 BK161; have hfz39_0 := xf BK161 0; have hfz39_1 := xf BK161 1; have hfz39_2 := xf BK161 2; have hfz39_3 := xf BK161 3; have hfz39_4 := xf BK161 4; have p7 : 0 ≤ (0 : Int) := (by omega); have q7 : 0 < a0.size := (by have : (0 : Int) < (a0.size : Int) := xod; omega); have hx7 : ∀ h : 0 < a0.size, ((a0[0]'h).toNat : Int) = bt a0 0 := bt_at a0 0; clear p7; have qi7 : (0 < (a0.size : Int)) = True := eq_true (xod); replace q7 := eq_true q7)); try go_wp2_with (first | ((with_reducible refine gate_dst (N := 7) rfl ?_); refine xev 7 #[.int .u8 0, .int .u8 0, .int .u8 0, .int .u8 0, .int .u8 0] 110 ?_; intro gb161 hg w38 hbox hb; have BK161 := Aside0.mk (hbox); have GW161 := xsz hg; have GE161 := GW161; replace HB := xst hb; clear hb hbox hg; obtain ⟨hcz39_0, hcz39_1, hcz39_2, hcz39_3, hcz39_4⟩ := xc5 BK161; have hfz39_0 := xf BK161 0; have hfz39_1 := xf BK161 1; have hfz39_2 := xf BK161 2; have hfz39_3 := xf BK161 3; have hfz39_4 := xf BK161 4; have p7 : 0 ≤ (0 : Int) := (by omega); have q7 : 0 < a0.size := (by have : (0 : Int) < (a0.size : Int) := xod; omega); have hx7 : ∀ h : 0 < a0.size, ((a0[0]'h).toNat : Int) = bt a0 0 := bt_at a0 0; clear p7; have qi7 : (0 < (a0.size : Int)) = True := eq_true (xod); replace q7 := eq_true q7)))
           go_loopg [2, 8] kj2 (fun kq v2 v8 w' => ∃ (x2_2 : Int) (x8_2 : Int), v2 = .int .i32 x2_2 ∧ v8 = .int .i64 x8_2 ∧ Aside0 (utf_Decode.l0 kq a0 x2_2 4 x8_2 = some (r1, r2, r3)) ∧ Aside0 (kq ≤ kj2) ∧ Aside0 (w'.heap[gb161]? = some (.cells #[.int .u8 0, .int .u8 127, .int .u8 31, .int .u8 15, .int .u8 7] 110 (0, 0))) ∧ Aside0 (Below w.heap.size w w'))
           case atStart => exact ⟨(wrap32 (Go.bits .and .u8 (bt a0 0) 7)), (1), xrr, xrr, H', ⟨Nat.le_refl _⟩, ⟨by (with_reducible repeat (first | refine blk_drewN ?_ _ | refine blk_drew ?_ | refine blk_alloc ?_ _)); refine blk_put (cs := #[.int .u8 0, .int .u8 127, .int .u8 31, .int .u8 15, .int .u8 0]) ?_ 4 _ rfl; (with_reducible repeat (first | refine blk_drewN ?_ _ | refine blk_drew ?_ | refine blk_alloc ?_ _)); refine blk_put (cs := #[.int .u8 0, .int .u8 127, .int .u8 31, .int .u8 0, .int .u8 0]) ?_ 3 _ rfl; (with_reducible repeat (first | refine blk_drewN ?_ _ | refine blk_drew ?_ | refine blk_alloc ?_ _)); refine blk_put (cs := #[.int .u8 0, .int .u8 127, .int .u8 0, .int .u8 0, .int .u8 0]) ?_ 2 _ rfl; (with_reducible repeat (first | refine blk_drewN ?_ _ | refine blk_drew ?_ | refine blk_alloc ?_ _)); refine blk_put (cs := #[.int .u8 0, .int .u8 0, .int .u8 0, .int .u8 0, .int .u8 0]) ?_ 1 _ rfl; (with_reducible repeat (first | refine blk_drewN ?_ _ | refine blk_drew ?_ | refine blk_alloc ?_ _)); refine blk_put (cs := #[.int .u8 0, .int .u8 0, .int .u8 0, .int .u8 0, .int .u8 0]) ?_ 0 _ rfl; (with_reducible repeat (first | refine blk_drewN ?_ _ | refine blk_drew ?_ | refine blk_alloc ?_ _)); exact BK161.out⟩, ⟨xbl⟩⟩
           case round =>
            clear H'
            try clear p7
            try clear q7
            try clear hx7
            try clear qi7
            obtain ⟨x2_2, x8_2, rfl, rfl, HA, HK2, BK161, HB⟩ := hrel
            cases gk with
            | zero => exact absurd HA.out (by simp [utf_Decode.l0])
            | succ k2 =>
             have H := HA.out
             clear HA
             simp only [utf_Decode.l0] at H
             by_cases c40 : x8_2 < 4
             ·
              rw [if_pos c40] at H
              have c40b0 := decide_eq_true c40
              clear c40
              by_cases c41 : 0 ≤ x8_2
              ·
               rw [if_pos c41] at H
               have c41b0 := decide_eq_true c41
               clear c41
               by_cases c42 : x8_2 < (a0.size : Int)
               ·
                rw [if_pos c42] at H
                have c42b0 := decide_eq_true c42
                clear c42
                have H' := Aside0.mk H
                clear H
                have p43 : 0 ≤ (x8_2 : Int) := xod
                have q43 : x8_2 < (a0.size : Int) := xod
                have hx43 := bt_at a0 x8_2
                replace p43 := eq_true p43
                replace q43 := eq_true q43
                try (have q43x := q43; simp only [ByteArray.size_extract, Nat.min_self] at q43x)
                go_wp2
                repeat (go_quiet (fail); try go_wp2)
                go_roundg k2
                case measure => have := HJ2.out; have := HK2.out; omega
                case rel => exact ⟨(Go.bits .or .i32 (wrap32 (x2_2 * 64)) (wrap32 (Go.bits .and .u8 (bt a0 x8_2) 63))), (wrap64 (x8_2 + 1)), xrr, xrr, H', ⟨by have := HJ2.out; have := HK2.out; omega⟩, ⟨xbk⟩, ⟨xbl⟩⟩
               ·
                rw [if_neg c42] at H
                exact absurd H (by simp)
              ·
               rw [if_neg c41] at H
               exact absurd H (by simp)
             ·
              rw [if_neg c40] at H
              have c40b0 := decide_eq_false c40
              clear c40
              simp only [Option.some.injEq, Prod.mk.injEq] at H
              obtain ⟨rfl, rfl, rfl⟩ := H
              go_wp2
              repeat (go_quiet (fail); try go_wp2)
              go_ret3
              exact ⟨xre, xbl⟩
          ·
           rw [if_neg c37] at H
           clear c37
           exact absurd H (by simp)
     ·
      rw [if_neg c8] at H
      exact absurd H (by simp)
    ·
     rw [if_neg c6] at H
     exact absurd H (by simp)
def lexis_Common.j0 : Nat → Int → Bool → Option (Bool)
  | 0, _, _ => none
  | k + 1, x0, x6 => if x6 = true then (some true) else (if x0 < 65536 then (some false) else (if x0 > 983037 then (some false) else (if (Go.bits .and .i32 x0 65535) ≤ 65533 then (if x0 < 917504 then (some true) else (some (decide (x0 ≥ 921600)))) else (some false))))
def lexis_Common.f (k : Nat) (a0 : Int) : Option (Bool) := if a0 < 160 then (some false) else (if a0 ≤ 55295 then (lexis_Common.j0 k a0 (decide (a0 ≤ 55295))) else (if a0 ≥ 63744 then (if a0 ≤ 64975 then (lexis_Common.j0 k a0 (decide (a0 ≤ 64975))) else (if a0 ≥ 65008 then (lexis_Common.j0 k a0 (decide (a0 ≤ 65519))) else (lexis_Common.j0 k a0 false))) else (if a0 ≥ 65008 then (lexis_Common.j0 k a0 (decide (a0 ≤ 65519))) else (lexis_Common.j0 k a0 false))))
theorem lexis_Common.mono_l : ∀ k, (∀ y0 y1, LeO (lexis_Common.j0 k y0 y1) (lexis_Common.j0 (k + 1) y0 y1))
  | 0 => fun _ _ r h => by simp [lexis_Common.j0] at h
  | k + 1 => by
    have ih0 := lexis_Common.mono_l k
    · intro y0 y1
      unfold lexis_Common.j0
      exact xmo
theorem lexis_Common.mono : ∀ a0 k, LeO (lexis_Common.f k a0) (lexis_Common.f (k + 1) a0) := by
  intro a0 k
  have ih0 := lexis_Common.mono_l k
  unfold lexis_Common.f
  exact xmo
set_option maxHeartbeats 8000000 in
set_option maxRecDepth 100000 in
theorem lexis_Common.calls (k : Nat) (a0 : Int) (r : Bool) (w : World) (h : lexis_Common.f k a0 = some r) :
    Calls Tryd.prog 80 #[.int .i32 a0] w fun e w' => e = .returned (.bool r) ∧ Drawn0 w w' := by
 have H : (if a0 < 160 then (some false) else (if a0 ≤ 55295 then (lexis_Common.j0 k a0 (decide (a0 ≤ 55295))) else (if a0 ≥ 63744 then (if a0 ≤ 64975 then (lexis_Common.j0 k a0 (decide (a0 ≤ 64975))) else (if a0 ≥ 65008 then (lexis_Common.j0 k a0 (decide (a0 ≤ 65519))) else (lexis_Common.j0 k a0 false))) else (if a0 ≥ 65008 then (lexis_Common.j0 k a0 (decide (a0 ≤ 65519))) else (lexis_Common.j0 k a0 false))))) = some r := h
 clear h
 by_cases c2 : a0 < 160
 ·
  rw [if_pos c2] at H
  have c2b0 := decide_eq_true c2
  clear c2
  obtain rfl := Option.some.inj H
  go_enter Tryd.func80, Tryd.ntmps80
  go_wp2
  go_ret
  exact ⟨xrr, xdr⟩
 ·
  rw [if_neg c2] at H
  have c2b0 := decide_eq_false c2
  clear c2
  have HC3 := Aside0.mk H
  clear H
  go_enter Tryd.func80, Tryd.ntmps80
  go_upto_if 6 with (fail)
  go_cut [6] (fun v6 wc => ∃ (kq : Nat) (x6_2 : Bool), v6 = .bool x6_2 ∧ Aside0 (lexis_Common.j0 kq a0 x6_2 = some r) ∧ Aside0 (kq ≤ k) ∧ Drawn0 w wc)
  case first =>
   have H := HC3.out
   clear HC3
   by_cases c4 : a0 ≤ 55295
   ·
    rw [if_pos c4] at H
    have c4b0 := decide_eq_true c4
    clear c4
    (first | rw [c4b0] | (simp only [i64_w, i32_w]; rw [c4b0]) | skip)
    have H' := Aside0.mk H
    clear H
    go_wp2
    go_meet
    case rel => exact ⟨_, (decide (a0 ≤ 55295)), xrr, H', ⟨xom⟩, xdr⟩
   ·
    rw [if_neg c4] at H
    have c4b0 := decide_eq_false c4
    clear c4
    (first | rw [c4b0] | (simp only [i64_w, i32_w]; rw [c4b0]) | skip)
    by_cases c5 : a0 ≥ 63744
    ·
     rw [if_pos c5] at H
     have c5b0 := decide_eq_true c5
     clear c5
     by_cases c6 : a0 ≤ 64975
     ·
      rw [if_pos c6] at H
      have c6b0 := decide_eq_true c6
      clear c6
      have H' := Aside0.mk H
      clear H
      go_wp2
      go_meet
      case rel => exact ⟨_, (decide (a0 ≤ 64975)), xrr, H', ⟨xom⟩, xdr⟩
     ·
      rw [if_neg c6] at H
      have c6b0 := decide_eq_false c6
      clear c6
      by_cases c7 : a0 ≥ 65008
      ·
       rw [if_pos c7] at H
       have c7b0 := decide_eq_true c7
       clear c7
       have H' := Aside0.mk H
       clear H
       go_wp2
       go_meet
       case rel => exact ⟨_, (decide (a0 ≤ 65519)), xrr, H', ⟨xom⟩, xdr⟩
      ·
       rw [if_neg c7] at H
       have c7b0 := decide_eq_false c7
       clear c7
       have H' := Aside0.mk H
       clear H
       go_wp2
       go_meet
       case rel => exact ⟨_, (false), xrr, H', ⟨xom⟩, xdr⟩
    ·
     rw [if_neg c5] at H
     have c5b0 := decide_eq_false c5
     clear c5
     by_cases c8 : a0 ≥ 65008
     ·
      rw [if_pos c8] at H
      have c8b0 := decide_eq_true c8
      clear c8
      have H' := Aside0.mk H
      clear H
      go_wp2
      go_meet
      case rel => exact ⟨_, (decide (a0 ≤ 65519)), xrr, H', ⟨xom⟩, xdr⟩
     ·
      rw [if_neg c8] at H
      have c8b0 := decide_eq_false c8
      clear c8
      have H' := Aside0.mk H
      clear H
      go_wp2
      go_meet
      case rel => exact ⟨_, (false), xrr, H', ⟨xom⟩, xdr⟩
  case rest =>
   clear HC3
   clear c2b0
   obtain ⟨kq, x6_2, rfl, HA, HJ2, ⟨mc2, rfl⟩⟩ := hcut
   cases kq with
   | zero => exact absurd HA.out (by simp [lexis_Common.j0])
   | succ kj2 =>
    have H := HA.out
    clear HA
    simp only [lexis_Common.j0] at H
    by_cases c9 : x6_2 = true
    ·
     subst c9
     rw [if_pos rfl] at H
     obtain rfl := Option.some.inj H
     go_wp2
     go_ret
     exact ⟨xrr, xdr⟩
    ·
     replace c9 := Bool.eq_false_iff.mpr c9
     subst c9
     rw [if_neg (show ¬ (false = true) by decide)] at H
     by_cases c10 : a0 < 65536
     ·
      rw [if_pos c10] at H
      have c10b0 := decide_eq_true c10
      clear c10
      obtain rfl := Option.some.inj H
      go_wp2
      go_ret
      exact ⟨xrr, xdr⟩
     ·
      rw [if_neg c10] at H
      have c10b0 := decide_eq_false c10
      clear c10
      by_cases c11 : a0 > 983037
      ·
       rw [if_pos c11] at H
       have c11b0 := decide_eq_true c11
       clear c11
       obtain rfl := Option.some.inj H
       go_wp2
       go_ret
       exact ⟨xrr, xdr⟩
      ·
       rw [if_neg c11] at H
       have c11b0 := decide_eq_false c11
       clear c11
       by_cases c12 : (Go.bits .and .i32 a0 65535) ≤ 65533
       ·
        rw [if_pos c12] at H
        have c12b0 := decide_eq_true c12
        clear c12
        by_cases c13 : a0 < 917504
        ·
         rw [if_pos c13] at H
         have c13b0 := decide_eq_true c13
         clear c13
         obtain rfl := Option.some.inj H
         go_wp2
         go_ret
         exact ⟨xrr, xdr⟩
        ·
         rw [if_neg c13] at H
         have c13b0 := decide_eq_false c13
         clear c13
         obtain rfl := Option.some.inj H
         go_wp2
         go_ret
         exact ⟨xrr, xdr⟩
       ·
        rw [if_neg c12] at H
        have c12b0 := decide_eq_false c12
        clear c12
        obtain rfl := Option.some.inj H
        go_wp2
        go_ret
        exact ⟨xrr, xdr⟩
def lexis_Private.f (a0 : Int) : Option (Bool) := if a0 ≥ 57344 then (if a0 ≤ 63743 then (some true) else (if a0 ≥ 983040 then (if a0 ≤ 1048573 then (some true) else (if a0 ≥ 1048576 then (some (decide (a0 ≤ 1114109))) else (some false))) else (if a0 ≥ 1048576 then (some (decide (a0 ≤ 1114109))) else (some false)))) else (if a0 ≥ 983040 then (if a0 ≤ 1048573 then (some true) else (if a0 ≥ 1048576 then (some (decide (a0 ≤ 1114109))) else (some false))) else (if a0 ≥ 1048576 then (some (decide (a0 ≤ 1114109))) else (some false)))
set_option maxHeartbeats 8000000 in
set_option maxRecDepth 100000 in
theorem lexis_Private.calls (a0 : Int) (r : Bool) (w : World) (h : lexis_Private.f a0 = some r) :
    Calls Tryd.prog 81 #[.int .i32 a0] w fun e w' => e = .returned (.bool r) ∧ Drawn0 w w' := by
 have H : (if a0 ≥ 57344 then (if a0 ≤ 63743 then (some true) else (if a0 ≥ 983040 then (if a0 ≤ 1048573 then (some true) else (if a0 ≥ 1048576 then (some (decide (a0 ≤ 1114109))) else (some false))) else (if a0 ≥ 1048576 then (some (decide (a0 ≤ 1114109))) else (some false)))) else (if a0 ≥ 983040 then (if a0 ≤ 1048573 then (some true) else (if a0 ≥ 1048576 then (some (decide (a0 ≤ 1114109))) else (some false))) else (if a0 ≥ 1048576 then (some (decide (a0 ≤ 1114109))) else (some false)))) = some r := h
 clear h
 by_cases c2 : a0 ≥ 57344
 ·
  rw [if_pos c2] at H
  have c2b0 := decide_eq_true c2
  clear c2
  by_cases c3 : a0 ≤ 63743
  ·
   rw [if_pos c3] at H
   have c3b0 := decide_eq_true c3
   clear c3
   obtain rfl := Option.some.inj H
   go_enter Tryd.func81, Tryd.ntmps81
   go_wp2
   go_ret
   exact ⟨xrr, xdr⟩
  ·
   rw [if_neg c3] at H
   have c3b0 := decide_eq_false c3
   clear c3
   by_cases c4 : a0 ≥ 983040
   ·
    rw [if_pos c4] at H
    have c4b0 := decide_eq_true c4
    clear c4
    by_cases c5 : a0 ≤ 1048573
    ·
     rw [if_pos c5] at H
     have c5b0 := decide_eq_true c5
     clear c5
     obtain rfl := Option.some.inj H
     go_enter Tryd.func81, Tryd.ntmps81
     go_wp2
     go_ret
     exact ⟨xrr, xdr⟩
    ·
     rw [if_neg c5] at H
     have c5b0 := decide_eq_false c5
     clear c5
     by_cases c6 : a0 ≥ 1048576
     ·
      rw [if_pos c6] at H
      have c6b0 := decide_eq_true c6
      clear c6
      obtain rfl := Option.some.inj H
      go_enter Tryd.func81, Tryd.ntmps81
      go_wp2
      go_ret
      exact ⟨xrr, xdr⟩
     ·
      rw [if_neg c6] at H
      have c6b0 := decide_eq_false c6
      clear c6
      obtain rfl := Option.some.inj H
      go_enter Tryd.func81, Tryd.ntmps81
      go_wp2
      go_ret
      exact ⟨xrr, xdr⟩
   ·
    rw [if_neg c4] at H
    have c4b0 := decide_eq_false c4
    clear c4
    by_cases c7 : a0 ≥ 1048576
    ·
     rw [if_pos c7] at H
     have c7b0 := decide_eq_true c7
     clear c7
     obtain rfl := Option.some.inj H
     go_enter Tryd.func81, Tryd.ntmps81
     go_wp2
     go_ret
     exact ⟨xrr, xdr⟩
    ·
     rw [if_neg c7] at H
     have c7b0 := decide_eq_false c7
     clear c7
     obtain rfl := Option.some.inj H
     go_enter Tryd.func81, Tryd.ntmps81
     go_wp2
     go_ret
     exact ⟨xrr, xdr⟩
 ·
  rw [if_neg c2] at H
  have c2b0 := decide_eq_false c2
  clear c2
  by_cases c8 : a0 ≥ 983040
  ·
   rw [if_pos c8] at H
   have c8b0 := decide_eq_true c8
   clear c8
   by_cases c9 : a0 ≤ 1048573
   ·
    rw [if_pos c9] at H
    have c9b0 := decide_eq_true c9
    clear c9
    obtain rfl := Option.some.inj H
    go_enter Tryd.func81, Tryd.ntmps81
    go_wp2
    go_ret
    exact ⟨xrr, xdr⟩
   ·
    rw [if_neg c9] at H
    have c9b0 := decide_eq_false c9
    clear c9
    by_cases c10 : a0 ≥ 1048576
    ·
     rw [if_pos c10] at H
     have c10b0 := decide_eq_true c10
     clear c10
     obtain rfl := Option.some.inj H
     go_enter Tryd.func81, Tryd.ntmps81
     go_wp2
     go_ret
     exact ⟨xrr, xdr⟩
    ·
     rw [if_neg c10] at H
     have c10b0 := decide_eq_false c10
     clear c10
     obtain rfl := Option.some.inj H
     go_enter Tryd.func81, Tryd.ntmps81
     go_wp2
     go_ret
     exact ⟨xrr, xdr⟩
  ·
   rw [if_neg c8] at H
   have c8b0 := decide_eq_false c8
   clear c8
   by_cases c11 : a0 ≥ 1048576
   ·
    rw [if_pos c11] at H
    have c11b0 := decide_eq_true c11
    clear c11
    obtain rfl := Option.some.inj H
    go_enter Tryd.func81, Tryd.ntmps81
    go_wp2
    go_ret
    exact ⟨xrr, xdr⟩
   ·
    rw [if_neg c11] at H
    have c11b0 := decide_eq_false c11
    clear c11
    obtain rfl := Option.some.inj H
    go_enter Tryd.func81, Tryd.ntmps81
    go_wp2
    go_ret
    exact ⟨xrr, xdr⟩
end Go.Proofs.YticohlbfolnmpaaDoor.X
namespace Go.Proofs.YticohlbfolnmpaaDoor.X
open Go.RowKit Go.Proofs.YticohlbfolnmpaaDoorW.PrintWords Go.Proofs.YticohlbfolnmpaaDoorW.PrintLast Go.Proofs.YticohlbfolnmpaaDoorW.PrintMore
attribute [local go_sem] max2_int min2_int max_two min_two max_three min_three max_four min_four
set_option linter.unusedVariables false
set_option linter.unusedSimpArgs false
mutual
def lexis_May.j0 : Nat → Int → Bool → Int → Bool → Option (Bool)
  | 0, _, _, _, _ => none
  | k + 1, x0, x1, x2, x14 => if x14 = true then ((lexis_Plain.f k x0 ((x2) % 256)).bind fun t162 => (some t162)) else ((lexis_extra.f x0).bind fun bt163 => (if bt163.2 = true then (lexis_May.j1 k x0 x2 (!x1)) else (lexis_May.j1 k x0 x2 true)))
def lexis_May.j1 : Nat → Int → Int → Bool → Option (Bool)
  | 0, _, _, _ => none
  | k + 1, x0, x2, x29 => if x29 = true then (some false) else ((lexis_Common.f k x2).bind fun t165 => (if t165 = true then (some true) else (if x0 = 6 then ((lexis_Private.f x2).bind fun t166 => (some t166)) else (some false))))
end
def lexis_May.f (k : Nat) (a0 : Int) (a1 : Bool) (a2 : Int) : Option (Bool) := if a2 ≥ 0 then (lexis_May.j0 k a0 a1 a2 (decide (a2 < 128))) else (lexis_May.j0 k a0 a1 a2 false)
theorem lexis_May.mono_l : ∀ k, (∀ y0 y1 y2 y3, LeO (lexis_May.j0 k y0 y1 y2 y3) (lexis_May.j0 (k + 1) y0 y1 y2 y3)) ∧ (∀ y0 y1 y2, LeO (lexis_May.j1 k y0 y1 y2) (lexis_May.j1 (k + 1) y0 y1 y2))
  | 0 => ⟨fun _ _ _ _ r h => by simp [lexis_May.j0] at h, fun _ _ _ r h => by simp [lexis_May.j1] at h⟩
  | k + 1 => by
    obtain ⟨ih0, ih1⟩ := lexis_May.mono_l k
    have m0 := @lexis_Common.mono; have m1 := @lexis_Plain.mono
    refine ⟨?_, ?_⟩
    · intro y0 y1 y2 y3
      unfold lexis_May.j0
      exact xmo
    · intro y0 y1 y2
      unfold lexis_May.j1
      exact xmo
theorem lexis_May.mono : ∀ a0 a1 a2 k, LeO (lexis_May.f k a0 a1 a2) (lexis_May.f (k + 1) a0 a1 a2) := by
  intro a0 a1 a2 k
  obtain ⟨ih0, ih1⟩ := lexis_May.mono_l k
  have m0 := @lexis_Common.mono; have m1 := @lexis_Plain.mono
  unfold lexis_May.f
  exact xmo
set_option maxHeartbeats 8000000 in
set_option maxRecDepth 100000 in
theorem lexis_May.calls (k : Nat) (a0 : Int) (a1 : Bool) (a2 : Int) (r : Bool) (w : World) (h : lexis_May.f k a0 a1 a2 = some r) :
    Calls Tryd.prog 62 #[.int .i64 a0, .bool a1, .int .i32 a2] w fun e w' => e = .returned (.bool r) ∧ Below w.heap.size w w' := by
 have HB := Aside0.mk (Below.refl w.heap.size w)
 have H : (if a2 ≥ 0 then (lexis_May.j0 k a0 a1 a2 (decide (a2 < 128))) else (lexis_May.j0 k a0 a1 a2 false)) = some r := h
 clear h
 have HC4 := Aside0.mk H
 clear H
 go_enter Tryd.func62, Tryd.ntmps62
 go_upto_region 1 with (fail)
 go_cut [14] (fun v14 wc => ∃ (kq : Nat) (x14_3 : Bool), v14 = .bool x14_3 ∧ Aside0 (lexis_May.j0 kq a0 a1 a2 x14_3 = some r) ∧ Aside0 (kq ≤ k) ∧ Aside0 (Below w.heap.size w wc))
 case first =>
  have H := HC4.out
  clear HC4
  by_cases c5 : a2 ≥ 0
  ·
   rw [if_pos c5] at H
   have c5b0 := decide_eq_true c5
   clear c5
   (first | rw [c5b0] | (simp only [i64_w, i32_w]; rw [c5b0]) | skip)
   have H' := Aside0.mk H
   clear H
   go_wp2
   go_meet
   case rel => exact ⟨_, (decide (a2 < 128)), xrr, H', ⟨xom⟩, ⟨xbl⟩⟩
  ·
   rw [if_neg c5] at H
   have c5b0 := decide_eq_false c5
   clear c5
   (first | rw [c5b0] | (simp only [i64_w, i32_w]; rw [c5b0]) | skip)
   have H' := Aside0.mk H
   clear H
   go_wp2
   go_meet
   case rel => exact ⟨_, (false), xrr, H', ⟨xom⟩, ⟨xbl⟩⟩
 case rest =>
  clear HC4
  obtain ⟨kq, x14_3, rfl, HA, HJ3, HB⟩ := hcut
  cases kq with
  | zero => exact absurd HA.out (by simp [lexis_May.j0])
  | succ kj3 =>
   have H := HA.out
   clear HA
   simp only [lexis_May.j0] at H
   by_cases c6 : x14_3 = true
   ·
    subst c6
    rw [if_pos rfl] at H
    replace H := Option.bind_eq_some_iff.mp H
    obtain ⟨t162, A70, H⟩ := H
    try dsimp only at H
    have A7 := Aside0.mk A70
    clear A70
    obtain rfl := Option.some.inj H
    go_wp2_with (first | ((with_reducible refine gate_callee (f := 28) rfl ?_); refine xgl 18 Tryd.func28 #[.int .i64 a0, .int .u8 ((a2) % 256)] ?_; (with_reducible refine (lexis_Plain.calls kj3 a0 ((a2) % 256) t162 _ A7.out).mono ?_); rintro e w8 ⟨rfl, hb⟩; refine ⟨_, rfl, ?_⟩; replace HB := xst hb; (try clear hb)))
    go_ret
    exact ⟨xre, xbl⟩
   ·
    replace c6 := Bool.eq_false_iff.mpr c6
    subst c6
    rw [if_neg (show ¬ (false = true) by decide)] at H
    replace H := Option.bind_eq_some_iff.mp H
    obtain ⟨⟨t163, t164⟩, A90, H⟩ := H
    try dsimp only at H
    have A9 := Aside0.mk A90
    clear A90
    have HC10 := Aside0.mk H
    clear H
    go_upto_region 4 with (first | ((with_reducible refine gate_callee (f := 44) rfl ?_); refine xgl 21 Tryd.func44 #[.int .i64 a0] ?_; (with_reducible refine (lexis_extra.calls a0 t163 t164 _ A9.out).mono ?_); rintro e w' ⟨rfl, ⟨nd, rfl⟩⟩; refine ⟨_, rfl, ?_⟩))
    (try simp only [Act.put, List.setIfInBounds_toArray, List.set_cons_zero, List.set_cons_succ])
    go_cut [29] (fun v29 wc => ∃ (kq : Nat) (x29_9 : Bool), v29 = .bool x29_9 ∧ Aside0 (lexis_May.j1 kq a0 a2 x29_9 = some r) ∧ Aside0 (kq ≤ kj3) ∧ Aside0 (Below w.heap.size w wc))
    case first =>
     have H := HC10.out
     clear HC10
     by_cases c11 : t164 = true
     ·
      subst c11
      rw [if_pos rfl] at H
      have H' := Aside0.mk H
      clear H
      go_wp2
      go_meet
      case rel => exact ⟨_, (!a1), xrr, H', ⟨by have := HJ3.out; first | omega | exact Nat.le_refl _⟩, ⟨xbl⟩⟩
     ·
      replace c11 := Bool.eq_false_iff.mpr c11
      subst c11
      rw [if_neg (show ¬ (false = true) by decide)] at H
      have H' := Aside0.mk H
      clear H
      go_wp2
      go_meet
      case rel => exact ⟨_, (true), xrr, H', ⟨by have := HJ3.out; first | omega | exact Nat.le_refl _⟩, ⟨xbl⟩⟩
    case rest =>
     clear HC10
     obtain ⟨kq, x29_9, rfl, HA, HJ9, HB⟩ := hcut
     cases kq with
     | zero => exact absurd HA.out (by simp [lexis_May.j1])
     | succ kj9 =>
      have H := HA.out
      clear HA
      simp only [lexis_May.j1] at H
      by_cases c12 : x29_9 = true
      ·
       subst c12
       rw [if_pos rfl] at H
       obtain rfl := Option.some.inj H
       go_wp2
       go_ret
       exact ⟨xre, xbl⟩
      ·
       replace c12 := Bool.eq_false_iff.mpr c12
       subst c12
       rw [if_neg (show ¬ (false = true) by decide)] at H
       replace H := Option.bind_eq_some_iff.mp H
       obtain ⟨t165, A130, H⟩ := H
       try dsimp only at H
       have A13 := Aside0.mk A130
       clear A130
       by_cases c14 : t165 = true
       ·
        subst c14
        rw [if_pos rfl] at H
        obtain rfl := Option.some.inj H
        go_wp2_with (first | ((with_reducible refine gate_callee (f := 80) rfl ?_); refine xgl 31 Tryd.func80 #[.int .i32 a2] ?_; (with_reducible refine (lexis_Common.calls kj9 a2 true _ A13.out).mono ?_); rintro e w' ⟨rfl, ⟨nd, rfl⟩⟩; refine ⟨_, rfl, ?_⟩))
        go_ret
        exact ⟨xre, xbl⟩
       ·
        replace c14 := Bool.eq_false_iff.mpr c14
        subst c14
        rw [if_neg (show ¬ (false = true) by decide)] at H
        by_cases c15 : a0 = 6
        ·
         rw [if_pos c15] at H
         have c15b0 : (a0 == 6) = true := beq_iff_eq.mpr c15
         have c15b1 : (a0 != 6) = false := bne_eq_false_iff_eq.mpr c15
         clear c15
         replace H := Option.bind_eq_some_iff.mp H
         obtain ⟨t166, A160, H⟩ := H
         try dsimp only at H
         have A16 := Aside0.mk A160
         clear A160
         obtain rfl := Option.some.inj H
         go_wp2_with (first | ((with_reducible refine gate_callee (f := 80) rfl ?_); refine xgl 31 Tryd.func80 #[.int .i32 a2] ?_; (with_reducible refine (lexis_Common.calls kj9 a2 false _ A13.out).mono ?_); rintro e w' ⟨rfl, ⟨nd, rfl⟩⟩; refine ⟨_, rfl, ?_⟩) | (go_at_call 81; (with_reducible refine (lexis_Private.calls a2 t166 _ A16.out).mono ?_); rintro e w' ⟨rfl, ⟨nd, rfl⟩⟩))
         go_ret
         exact ⟨xre, xbl⟩
        ·
         rw [if_neg c15] at H
         have c15b0 : (a0 == 6) = false := beq_eq_false_iff_ne.mpr c15
         have c15b1 : (a0 != 6) = true := bne_iff_ne.mpr c15
         obtain rfl := Option.some.inj H
         go_wp2_with (first | ((with_reducible refine gate_callee (f := 80) rfl ?_); refine xgl 31 Tryd.func80 #[.int .i32 a2] ?_; (with_reducible refine (lexis_Common.calls kj9 a2 false _ A13.out).mono ?_); rintro e w' ⟨rfl, ⟨nd, rfl⟩⟩; refine ⟨_, rfl, ?_⟩))
         go_ret
         exact ⟨xre, xbl⟩
def lexis_Span.l0 : Nat → Int → Bool → ByteArray → Int → Option (Int)
  | 0, _, _, _, _ => none
  | k + 1, x0, x1, x2, x7 => if x7 < (x2.size : Int) then ((lexis_extra.f x0).bind fun bt167 => (if bt167.2 = true then ((escape_At.f k x2 x7).bind fun bt169 => (if bt169.2 = true then (lexis_Span.l0 k x0 x1 x2 (wrap64 (x7 + 3))) else (if 0 ≤ x7 then (if x7 ≤ (x2.size : Int) then ((utf_Decode.f k (x2.extract (x7 : Int).toNat x2.size)).bind fun bt171 => (if bt171.2.2 = true then ((lexis_May.f k x0 x1 bt171.1).bind fun t174 => (if t174 = true then (lexis_Span.l0 k x0 x1 x2 (wrap64 (x7 + bt171.2.1))) else (some x7))) else (some x7))) else (none)) else (none)))) else (some 0))) else (some x7)
def lexis_Span.f (k : Nat) (a0 : Int) (a1 : Bool) (a2 : ByteArray) : Option (Int) := lexis_Span.l0 k a0 a1 a2 0
theorem lexis_Span.mono_l : ∀ k, (∀ y0 y1 y2 y3, LeO (lexis_Span.l0 k y0 y1 y2 y3) (lexis_Span.l0 (k + 1) y0 y1 y2 y3))
  | 0 => fun _ _ _ _ r h => by simp [lexis_Span.l0] at h
  | k + 1 => by
    have ih0 := lexis_Span.mono_l k
    have m0 := @escape_At.mono; have m1 := @lexis_May.mono; have m2 := @utf_Decode.mono
    · intro y0 y1 y2 y3
      unfold lexis_Span.l0
      exact xmo
theorem lexis_Span.mono : ∀ a0 a1 a2 k, LeO (lexis_Span.f k a0 a1 a2) (lexis_Span.f (k + 1) a0 a1 a2) := by
  intro a0 a1 a2 k
  have ih0 := lexis_Span.mono_l k
  have m0 := @escape_At.mono; have m1 := @lexis_May.mono; have m2 := @utf_Decode.mono
  unfold lexis_Span.f
  exact xmo
set_option maxHeartbeats 8000000 in
set_option maxRecDepth 100000 in
theorem lexis_Span.calls (k : Nat) (a0 : Int) (a1 : Bool) (a2 : ByteArray) (r : Int) (w : World) (h : lexis_Span.f k a0 a1 a2 = some r) :
    Calls Tryd.prog 46 #[.int .i64 a0, .bool a1, .string a2] w fun e w' => e = .returned (.int .i64 r) ∧ Below w.heap.size w w' := by
 have HB := Aside0.mk (Below.refl w.heap.size w)
 have H : (lexis_Span.l0 k a0 a1 a2 0) = some r := h
 clear h
 have H' := Aside0.mk H
 clear H
 go_enter Tryd.func46, Tryd.ntmps46
 go_wp2
 go_loopg [7] k (fun kq v7 w' => ∃ (x7_1 : Int), v7 = .int .i64 x7_1 ∧ Aside0 (lexis_Span.l0 kq a0 a1 a2 x7_1 = some r) ∧ Aside0 (kq ≤ k) ∧ Aside0 (Below w.heap.size w w'))
 case atStart => exact ⟨(0), xrr, H', ⟨Nat.le_refl _⟩, ⟨xbl⟩⟩
 case round =>
  clear H'
  obtain ⟨x7_1, rfl, HA, HK1, HB⟩ := hrel
  cases gk with
  | zero => exact absurd HA.out (by simp [lexis_Span.l0])
  | succ k1 =>
   have H := HA.out
   clear HA
   simp only [lexis_Span.l0] at H
   by_cases c4 : x7_1 < (a2.size : Int)
   ·
    rw [if_pos c4] at H
    have c4b0 := decide_eq_true c4
    clear c4
    replace H := Option.bind_eq_some_iff.mp H
    obtain ⟨⟨t167, t168⟩, A50, H⟩ := H
    try dsimp only at H
    have A5 := Aside0.mk A50
    clear A50
    by_cases c6 : t168 = true
    ·
     subst c6
     rw [if_pos rfl] at H
     replace H := Option.bind_eq_some_iff.mp H
     obtain ⟨⟨t169, t170⟩, A70, H⟩ := H
     try dsimp only at H
     have A7 := Aside0.mk A70
     clear A70
     by_cases c8 : t170 = true
     ·
      subst c8
      rw [if_pos rfl] at H
      have H' := Aside0.mk H
      clear H
      go_wp2_with (first | ((with_reducible refine gate_callee (f := 44) rfl ?_); refine xgl 21 Tryd.func44 #[.int .i64 a0] ?_; (with_reducible refine (lexis_extra.calls a0 t167 true _ A5.out).mono ?_); rintro e w' ⟨rfl, ⟨nd, rfl⟩⟩; refine ⟨_, rfl, ?_⟩) | ((with_reducible refine gate_callee (f := 60) rfl ?_); refine xgl 29 Tryd.func60 #[.string a2, .int .i64 x7_1] ?_; (with_reducible refine (escape_At.calls k1 a2 x7_1 t169 true _ A7.out).mono ?_); rintro e w' ⟨rfl, ⟨nd, rfl⟩⟩; refine ⟨_, rfl, ?_⟩))
      go_roundg k1
      case measure => have := HK1.out; omega
      case rel => exact ⟨(wrap64 (x7_1 + 3)), xrr, H', ⟨by have := HK1.out; omega⟩, ⟨xbl⟩⟩
     ·
      replace c8 := Bool.eq_false_iff.mpr c8
      subst c8
      rw [if_neg (show ¬ (false = true) by decide)] at H
      by_cases c9 : 0 ≤ x7_1
      ·
       rw [if_pos c9] at H
       have c9b0 := eq_true c9
       have c9b1 := decide_eq_true c9
       clear c9
       by_cases c10 : x7_1 ≤ (a2.size : Int)
       ·
        rw [if_pos c10] at H
        have c10b0 := eq_true c10
        have c10b1 := decide_eq_true c10
        clear c10
        obtain ⟨ji11, hji11⟩ : ∃ j_ : ByteArray, (a2.extract (x7_1 : Int).toNat a2.size) = j_ := ⟨_, rfl⟩
        try (have hji11x := hji11; simp only [Int.toNat_natCast, Int.toNat_ofNat] at hji11x)
        first | rw [hji11] at H | simp only [hji11] at H | skip
        (try rw [hji11] at A5)
        (try rw [hji11] at A7)
        replace H := Option.bind_eq_some_iff.mp H
        obtain ⟨⟨t171, t172, t173⟩, A120, H⟩ := H
        try dsimp only at H
        have A12 := Aside0.mk A120
        clear A120
        by_cases c13 : t173 = true
        ·
         subst c13
         rw [if_pos rfl] at H
         replace H := Option.bind_eq_some_iff.mp H
         obtain ⟨t174, A140, H⟩ := H
         try dsimp only at H
         have A14 := Aside0.mk A140
         clear A140
         by_cases c15 : t174 = true
         ·
          subst c15
          rw [if_pos rfl] at H
          have H' := Aside0.mk H
          clear H
          go_wp2_with (first | ((with_reducible refine gate_callee (f := 44) rfl ?_); refine xgl 21 Tryd.func44 #[.int .i64 a0] ?_; (with_reducible refine (lexis_extra.calls a0 t167 true _ A5.out).mono ?_); rintro e w' ⟨rfl, ⟨nd, rfl⟩⟩; refine ⟨_, rfl, ?_⟩) | ((with_reducible refine gate_callee (f := 60) rfl ?_); refine xgl 29 Tryd.func60 #[.string a2, .int .i64 x7_1] ?_; (with_reducible refine (escape_At.calls k1 a2 x7_1 t169 false _ A7.out).mono ?_); rintro e w' ⟨rfl, ⟨nd, rfl⟩⟩; refine ⟨_, rfl, ?_⟩) | ((with_reducible refine gate_callee (f := 61) rfl ?_); refine goesL_ (some 39) rfl rfl Tryd.func61 (by kernel_rfl) rfl #[.string ji11] rfl (by (try simp only [List.map_toArray, List.map_cons, List.map_nil]); first | done | (simp only [hji11]; rfl) | rfl | (simp only [List.length_drop, List.length_take]; rfl)) ?_; (with_reducible refine (utf_Decode.calls k1 ji11 t171 t172 true _ A12.out).mono ?_); rintro e w16 ⟨rfl, hb⟩; refine ⟨_, rfl, ?_⟩; replace HB := xst hb; (try clear hb)) | (go_at_call 62; (with_reducible refine (lexis_May.calls k1 a0 a1 t171 true _ A14.out).mono ?_); rintro e w17 ⟨rfl, hb⟩; replace HB := xst hb; (try clear hb)))
          first | go_roundg k1 | (simp only [← hji11]; go_roundg k1)
          case measure => have := HK1.out; omega
          case rel => exact ⟨(wrap64 (x7_1 + t172)), xrr, H', ⟨by have := HK1.out; omega⟩, ⟨xbl⟩⟩
         ·
          replace c15 := Bool.eq_false_iff.mpr c15
          subst c15
          rw [if_neg (show ¬ (false = true) by decide)] at H
          obtain rfl := Option.some.inj H
          go_wp2_with (first | ((with_reducible refine gate_callee (f := 44) rfl ?_); refine xgl 21 Tryd.func44 #[.int .i64 a0] ?_; (with_reducible refine (lexis_extra.calls a0 t167 true _ A5.out).mono ?_); rintro e w' ⟨rfl, ⟨nd, rfl⟩⟩; refine ⟨_, rfl, ?_⟩) | ((with_reducible refine gate_callee (f := 60) rfl ?_); refine xgl 29 Tryd.func60 #[.string a2, .int .i64 x7_1] ?_; (with_reducible refine (escape_At.calls k1 a2 x7_1 t169 false _ A7.out).mono ?_); rintro e w' ⟨rfl, ⟨nd, rfl⟩⟩; refine ⟨_, rfl, ?_⟩) | ((with_reducible refine gate_callee (f := 61) rfl ?_); refine goesL_ (some 39) rfl rfl Tryd.func61 (by kernel_rfl) rfl #[.string ji11] rfl (by (try simp only [List.map_toArray, List.map_cons, List.map_nil]); first | done | (simp only [hji11]; rfl) | rfl | (simp only [List.length_drop, List.length_take]; rfl)) ?_; (with_reducible refine (utf_Decode.calls k1 ji11 t171 t172 true _ A12.out).mono ?_); rintro e w18 ⟨rfl, hb⟩; refine ⟨_, rfl, ?_⟩; replace HB := xst hb; (try clear hb)) | (go_at_call 62; (with_reducible refine (lexis_May.calls k1 a0 a1 t171 false _ A14.out).mono ?_); rintro e w19 ⟨rfl, hb⟩; replace HB := xst hb; (try clear hb)))
          go_ret
          exact ⟨by first | rfl | (simp [errW_none, errW_some] <;> first | rfl | (simp only [xp_isEmpty, bne, Bool.not_not]; done)) | (simp only [← hji11]; first | rfl | (simp [errW_none, errW_some] <;> rfl)) | (simp [*, errW_none, errW_some] <;> rfl), xbl⟩
        ·
         replace c13 := Bool.eq_false_iff.mpr c13
         subst c13
         rw [if_neg (show ¬ (false = true) by decide)] at H
         obtain rfl := Option.some.inj H
         go_wp2_with (first | ((with_reducible refine gate_callee (f := 44) rfl ?_); refine xgl 21 Tryd.func44 #[.int .i64 a0] ?_; (with_reducible refine (lexis_extra.calls a0 t167 true _ A5.out).mono ?_); rintro e w' ⟨rfl, ⟨nd, rfl⟩⟩; refine ⟨_, rfl, ?_⟩) | ((with_reducible refine gate_callee (f := 60) rfl ?_); refine xgl 29 Tryd.func60 #[.string a2, .int .i64 x7_1] ?_; (with_reducible refine (escape_At.calls k1 a2 x7_1 t169 false _ A7.out).mono ?_); rintro e w' ⟨rfl, ⟨nd, rfl⟩⟩; refine ⟨_, rfl, ?_⟩) | ((with_reducible refine gate_callee (f := 61) rfl ?_); refine goesL_ (some 39) rfl rfl Tryd.func61 (by kernel_rfl) rfl #[.string ji11] rfl (by (try simp only [List.map_toArray, List.map_cons, List.map_nil]); first | done | (simp only [hji11]; rfl) | rfl | (simp only [List.length_drop, List.length_take]; rfl)) ?_; (with_reducible refine (utf_Decode.calls k1 ji11 t171 t172 false _ A12.out).mono ?_); rintro e w20 ⟨rfl, hb⟩; refine ⟨_, rfl, ?_⟩; replace HB := xst hb; (try clear hb)))
         go_ret
         exact ⟨by first | rfl | (simp [errW_none, errW_some] <;> first | rfl | (simp only [xp_isEmpty, bne, Bool.not_not]; done)) | (simp only [← hji11]; first | rfl | (simp [errW_none, errW_some] <;> rfl)) | (simp [*, errW_none, errW_some] <;> rfl), xbl⟩
       ·
        rw [if_neg c10] at H
        exact absurd H (by simp)
      ·
       rw [if_neg c9] at H
       exact absurd H (by simp)
    ·
     replace c6 := Bool.eq_false_iff.mpr c6
     subst c6
     rw [if_neg (show ¬ (false = true) by decide)] at H
     obtain rfl := Option.some.inj H
     go_wp2_with (first | ((with_reducible refine gate_callee (f := 44) rfl ?_); refine xgl 21 Tryd.func44 #[.int .i64 a0] ?_; (with_reducible refine (lexis_extra.calls a0 t167 false _ A5.out).mono ?_); rintro e w' ⟨rfl, ⟨nd, rfl⟩⟩; refine ⟨_, rfl, ?_⟩))
     go_ret
     exact ⟨xre, xbl⟩
   ·
    rw [if_neg c4] at H
    have c4b0 := decide_eq_false c4
    clear c4
    obtain rfl := Option.some.inj H
    go_wp2
    go_ret
    exact ⟨xre, xbl⟩
def lexis_All.f (k : Nat) (a0 : Int) (a1 : Bool) (a2 : ByteArray) : Option (Bool) := (lexis_Span.f k a0 a1 a2).bind fun t175 => (some (t175 == (a2.size : Int)))
theorem lexis_All.mono : ∀ a0 a1 a2 k, LeO (lexis_All.f k a0 a1 a2) (lexis_All.f (k + 1) a0 a1 a2) := by
  intro a0 a1 a2 k
  have m0 := @lexis_Span.mono
  unfold lexis_All.f
  exact xmo
set_option maxHeartbeats 8000000 in
set_option maxRecDepth 100000 in
theorem lexis_All.calls (k : Nat) (a0 : Int) (a1 : Bool) (a2 : ByteArray) (r : Bool) (w : World) (h : lexis_All.f k a0 a1 a2 = some r) :
    Calls Tryd.prog 31 #[.int .i64 a0, .bool a1, .string a2] w fun e w' => e = .returned (.bool r) ∧ Below w.heap.size w w' := by
 have HB := Aside0.mk (Below.refl w.heap.size w)
 have H : ((lexis_Span.f k a0 a1 a2).bind fun t175 => (some (t175 == (a2.size : Int)))) = some r := h
 clear h
 replace H := Option.bind_eq_some_iff.mp H
 obtain ⟨t175, A40, H⟩ := H
 try dsimp only at H
 have A4 := Aside0.mk A40
 clear A40
 obtain rfl := Option.some.inj H
 go_enter Tryd.func31, Tryd.ntmps31
 go_wp2_with (first | ((with_reducible refine gate_callee (f := 46) rfl ?_); refine xgl 10 Tryd.func46 #[.int .i64 a0, .bool a1, .string a2] ?_; (with_reducible refine (lexis_Span.calls k a0 a1 a2 t175 _ A4.out).mono ?_); rintro e w5 ⟨rfl, hb⟩; refine ⟨_, rfl, ?_⟩; replace HB := xst hb; (try clear hb)))
 go_ret
 exact ⟨xre, xbl⟩
def ip_Host.j0 : Nat → Bool → ByteArray → Int → Bool → Option (Int)
  | 0, _, _, _, _ => none
  | k + 1, x0, x1, x5, x25 => if x25 = true then (if 1 ≤ (wrap64 (x5 - 1)) then (if (wrap64 (x5 - 1)) ≤ (x1.size : Int) then ((ip_V6.f k (x1.extract 1 ((wrap64 (x5 - 1)) : Int).toNat)).bind fun bt176 => (if bt176.2.2.2.2.2.2.2.2 = true then (some 3) else ((ip_Future.f k (x1.extract 1 ((wrap64 (x5 - 1)) : Int).toNat)).bind fun t186 => (if t186 = true then (some 3) else (some 0))))) else (none)) else (none)) else ((ip_V4.f k x1).bind fun bt187 => (if bt187.2.2.2.2 = true then (some 1) else ((lexis_All.f k 2 x0 x1).bind fun t193 => (if t193 = true then (some 2) else (some 0)))))
def ip_Host.f (k : Nat) (a0 : Bool) (a1 : ByteArray) : Option (Int) := if (a1.size : Int) > 1 then (if 0 < (a1.size : Int) then (if (bt a1 0) = 91 then (if 0 ≤ (wrap64 ((a1.size : Int) - 1)) then (if (wrap64 ((a1.size : Int) - 1)) < (a1.size : Int) then (ip_Host.j0 k a0 a1 (a1.size : Int) ((bt a1 (wrap64 ((a1.size : Int) - 1))) == 93)) else (none)) else (none)) else (ip_Host.j0 k a0 a1 (a1.size : Int) false)) else (none)) else (ip_Host.j0 k a0 a1 (a1.size : Int) false)
theorem ip_Host.mono_l : ∀ k, (∀ y0 y1 y2 y3, LeO (ip_Host.j0 k y0 y1 y2 y3) (ip_Host.j0 (k + 1) y0 y1 y2 y3))
  | 0 => fun _ _ _ _ r h => by simp [ip_Host.j0] at h
  | k + 1 => by
    have ih0 := ip_Host.mono_l k
    have m0 := @ip_Future.mono; have m1 := @ip_V4.mono; have m2 := @ip_V6.mono; have m3 := @lexis_All.mono
    · intro y0 y1 y2 y3
      unfold ip_Host.j0
      exact xmo
theorem ip_Host.mono : ∀ a0 a1 k, LeO (ip_Host.f k a0 a1) (ip_Host.f (k + 1) a0 a1) := by
  intro a0 a1 k
  have ih0 := ip_Host.mono_l k
  have m0 := @ip_Future.mono; have m1 := @ip_V4.mono; have m2 := @ip_V6.mono; have m3 := @lexis_All.mono
  unfold ip_Host.f
  exact xmo
set_option maxHeartbeats 8000000 in
set_option maxRecDepth 100000 in
theorem ip_Host.calls (k : Nat) (a0 : Bool) (a1 : ByteArray) (r : Int) (w : World) (hG : GW w) (h : ip_Host.f k a0 a1 = some r) :
    Calls Tryd.prog 14 #[.bool a0, .string a1] w fun e w' => e = .returned (.int .i64 r) ∧ Below w.heap.size w w' := by
 have hu27 := Tryd.underlying27
 have hu23 := Tryd.underlying23
 have HB := Aside0.mk (Below.refl w.heap.size w)
 have H : (if (a1.size : Int) > 1 then (if 0 < (a1.size : Int) then (if (bt a1 0) = 91 then (if 0 ≤ (wrap64 ((a1.size : Int) - 1)) then (if (wrap64 ((a1.size : Int) - 1)) < (a1.size : Int) then (ip_Host.j0 k a0 a1 (a1.size : Int) ((bt a1 (wrap64 ((a1.size : Int) - 1))) == 93)) else (none)) else (none)) else (ip_Host.j0 k a0 a1 (a1.size : Int) false)) else (none)) else (ip_Host.j0 k a0 a1 (a1.size : Int) false)) = some r := h
 clear h
 have HC3 := Aside0.mk H
 clear H
 go_enter Tryd.func14, Tryd.ntmps14
 go_upto_region 2 with (fail)
 go_cut [25] (fun v25 wc => ∃ (kq : Nat) (x25_2 : Bool), v25 = .bool x25_2 ∧ Aside0 (ip_Host.j0 kq a0 a1 (a1.size : Int) x25_2 = some r) ∧ Aside0 (kq ≤ k) ∧ Aside0 (Below w.heap.size w wc))
 case first =>
  have H := HC3.out
  clear HC3
  by_cases c4 : (a1.size : Int) > 1
  ·
   rw [if_pos c4] at H
   have c4b0 := decide_eq_true c4
   have c4b1 : decide (1 < a1.size) = true := decide_eq_true (by omega)
   clear c4
   (first | rw [c4b0] | (simp only [i64_w, i32_w]; rw [c4b0]) | skip)
   by_cases c5 : 0 < (a1.size : Int)
   ·
    rw [if_pos c5] at H
    have c5b0 := decide_eq_true c5
    have c5b1 : decide (0 < a1.size) = true := decide_eq_true (by omega)
    clear c5
    by_cases c7 : (bt a1 0) = 91
    ·
     rw [if_pos c7] at H
     have c7b0 : ((bt a1 0) == 91) = true := beq_iff_eq.mpr c7
     have c7b1 : ((bt a1 0) != 91) = false := bne_eq_false_iff_eq.mpr c7
     clear c7
     obtain ⟨ji8, hji8⟩ : ∃ j_ : Int, (wrap64 ((a1.size : Int) - 1)) = j_ := ⟨_, rfl⟩
     first | rw [hji8] at H | simp only [hji8] at H | skip
     have hji8w : (IntKind.i64.wrap ((a1.size : Int) - 1)) = ji8 := (i64_w _).trans hji8
     by_cases c9 : 0 ≤ (ji8)
     ·
      rw [if_pos c9] at H
      have c9b0 := decide_eq_true c9
      clear c9
      by_cases c10 : (ji8) < (a1.size : Int)
      ·
       rw [if_pos c10] at H
       have c10b0 := decide_eq_true c10
       clear c10
       have H' := Aside0.mk H
       clear H
       have p6 : 0 ≤ (0 : Int) := (by omega)
       have q6 : 0 < a1.size := (by have : (0 : Int) < (a1.size : Int) := xod; omega)
       have hx6 : ∀ h : 0 < a1.size, ((a1[0]'h).toNat : Int) = bt a1 0 := bt_at a1 0
       clear p6
       have qi6 : (0 < (a1.size : Int)) = True := eq_true (xod)
       replace q6 := eq_true q6
       try (have q6x := q6; simp only [ByteArray.size_extract, Nat.min_self] at q6x)
       have p11 : 0 ≤ ((ji8) : Int) := xod
       have q11 : (ji8) < (a1.size : Int) := xod
       have hx11 := bt_at a1 (ji8)
       replace p11 := eq_true p11
       replace q11 := eq_true q11
       try (have q11x := q11; simp only [ByteArray.size_extract, Nat.min_self] at q11x)
       go_wp2
       go_meet
       case rel => exact ⟨_, (((bt a1 (ji8)) == 93)), (by first | rfl | (simp; done) | (simp only [← hji8] <;> (first | rfl | simp)) | (simp [*]; done) | (simp [wrap64]; done)), H', ⟨xom⟩, ⟨xbl⟩⟩
      ·
       rw [if_neg c10] at H
       exact absurd H (by simp)
     ·
      rw [if_neg c9] at H
      exact absurd H (by simp)
    ·
     rw [if_neg c7] at H
     have c7b0 : ((bt a1 0) == 91) = false := beq_eq_false_iff_ne.mpr c7
     have c7b1 : ((bt a1 0) != 91) = true := bne_iff_ne.mpr c7
     have H' := Aside0.mk H
     clear H
     have p6 : 0 ≤ (0 : Int) := (by omega)
     have q6 : 0 < a1.size := (by have : (0 : Int) < (a1.size : Int) := xod; omega)
     have hx6 : ∀ h : 0 < a1.size, ((a1[0]'h).toNat : Int) = bt a1 0 := bt_at a1 0
     clear p6
     have qi6 : (0 < (a1.size : Int)) = True := eq_true (xod)
     replace q6 := eq_true q6
     try (have q6x := q6; simp only [ByteArray.size_extract, Nat.min_self] at q6x)
     go_wp2
     go_meet
     case rel => exact ⟨_, (false), xrr, H', ⟨xom⟩, ⟨xbl⟩⟩
   ·
    rw [if_neg c5] at H
    exact absurd H (by simp)
  ·
   rw [if_neg c4] at H
   have c4b0 := decide_eq_false c4
   have c4b1 : decide (1 < a1.size) = false := decide_eq_false (by omega)
   clear c4
   (first | rw [c4b0] | (simp only [i64_w, i32_w]; rw [c4b0]) | skip)
   have H' := Aside0.mk H
   clear H
   go_wp2
   go_meet
   case rel => exact ⟨_, (false), xrr, H', ⟨xom⟩, ⟨xbl⟩⟩
 case rest =>
  clear HC3
  obtain ⟨kq, x25_2, rfl, HA, HJ2, HB⟩ := hcut
  cases kq with
  | zero => exact absurd HA.out (by simp [ip_Host.j0])
  | succ kj2 =>
   have H := HA.out
   clear HA
   simp only [ip_Host.j0] at H
   by_cases c12 : x25_2 = true
   ·
    subst c12
    rw [if_pos rfl] at H
    obtain ⟨ji13, hji13⟩ : ∃ j_ : Int, (wrap64 ((a1.size : Int) - 1)) = j_ := ⟨_, rfl⟩
    first | rw [hji13] at H | simp only [hji13] at H | skip
    have hji13w : (IntKind.i64.wrap ((a1.size : Int) - 1)) = ji13 := (i64_w _).trans hji13
    by_cases c14 : 1 ≤ (ji13)
    ·
     rw [if_pos c14] at H
     have c14b0 := eq_true c14
     have c14b1 := decide_eq_true c14
     clear c14
     by_cases c15 : (ji13) ≤ (a1.size : Int)
     ·
      rw [if_pos c15] at H
      have c15b0 := eq_true c15
      have c15b1 := decide_eq_true c15
      clear c15
      obtain ⟨ji16, hji16⟩ : ∃ j_ : ByteArray, (a1.extract 1 ((ji13) : Int).toNat) = j_ := ⟨_, rfl⟩
      try (have hji16x := hji16; simp only [Int.toNat_natCast, Int.toNat_ofNat] at hji16x)
      first | rw [hji16] at H | simp only [hji16] at H | skip
      replace H := Option.bind_eq_some_iff.mp H
      obtain ⟨⟨t176, t177, t178, t179, t180, t181, t182, t183, t184⟩, A170, H⟩ := H
      try dsimp only at H
      have A17 := Aside0.mk A170
      clear A170
      by_cases c18 : t184 = true
      ·
       subst c18
       rw [if_pos rfl] at H
       obtain rfl := Option.some.inj H
       go_wp2_with (first | ((with_reducible refine gate_callee (f := 9) rfl ?_); refine goesL_ (some 31) rfl rfl Tryd.func9 (by kernel_rfl) rfl #[.string ji16] rfl (by (try simp only [List.map_toArray, List.map_cons, List.map_nil]); first | done | (simp only [hji16]; rfl) | rfl | (simp only [List.length_drop, List.length_take]; rfl)) ?_; (with_reducible refine (ip_V6.calls kj2 ji16 t176 t177 t178 t179 t180 t181 t182 t183 true _ ?side1 A17.out).mono ?_); (case side1 => first | (with_reducible exact hG) | exact GW_to hG xbl); rintro e w19 ⟨rfl, hb⟩; refine ⟨_, rfl, ?_⟩; replace HB := xst hb; (try clear hb)) | ((with_reducible refine gate_dst (N := 6) rfl ?_); refine xev 6 #[.int .u16 0, .int .u16 0, .int .u16 0, .int .u16 0, .int .u16 0, .int .u16 0, .int .u16 0, .int .u16 0] 27 ?_; intro gb185 hg w20 hbox hb; have BK185 := Aside0.mk (hbox); have GW185 := xsz hg; have GE185 := GW185; replace HB := xst hb; clear hb hbox hg; obtain ⟨hcz21_0, hcz21_1, hcz21_2, hcz21_3, hcz21_4, hcz21_5, hcz21_6, hcz21_7⟩ := xc8 BK185; have hfz21_0 := xf BK185 0; have hfz21_1 := xf BK185 1; have hfz21_2 := xf BK185 2; have hfz21_3 := xf BK185 3; have hfz21_4 := xf BK185 4; have hfz21_5 := xf BK185 5; have hfz21_6 := xf BK185 6; have hfz21_7 := xf BK185 7))
       go_ret
       exact ⟨by first | rfl | (simp [errW_none, errW_some] <;> first | rfl | (simp only [xp_isEmpty, bne, Bool.not_not]; done)) | (simp only [← hji13, ← hji16]; first | rfl | (simp [errW_none, errW_some] <;> rfl)) | (simp [*, errW_none, errW_some] <;> rfl), xbl⟩
      ·
       replace c18 := Bool.eq_false_iff.mpr c18
       subst c18
       rw [if_neg (show ¬ (false = true) by decide)] at H
       have c22b0 := eq_true (xod : 1 ≤ (ji13))
       have c23b0 := eq_true (xod : (ji13) ≤ (a1.size : Int))
       first | rw [hji16] at H | simp only [hji16] at H | skip
       (try rw [hji16] at A17)
       replace H := Option.bind_eq_some_iff.mp H
       obtain ⟨t186, A240, H⟩ := H
       try dsimp only at H
       have A24 := Aside0.mk A240
       clear A240
       by_cases c25 : t186 = true
       ·
        subst c25
        rw [if_pos rfl] at H
        obtain rfl := Option.some.inj H
        go_wp2_with (first | ((with_reducible refine gate_callee (f := 9) rfl ?_); refine goesL_ (some 31) rfl rfl Tryd.func9 (by kernel_rfl) rfl #[.string ji16] rfl (by (try simp only [List.map_toArray, List.map_cons, List.map_nil]); first | done | (simp only [hji16]; rfl) | rfl | (simp only [List.length_drop, List.length_take]; rfl)) ?_; (with_reducible refine (ip_V6.calls kj2 ji16 t176 t177 t178 t179 t180 t181 t182 t183 false _ ?side1 A17.out).mono ?_); (case side1 => first | (with_reducible exact hG) | exact GW_to hG xbl); rintro e w26 ⟨rfl, hb⟩; refine ⟨_, rfl, ?_⟩; replace HB := xst hb; (try clear hb)) | ((with_reducible refine gate_dst (N := 6) rfl ?_); refine xev 6 #[.int .u16 0, .int .u16 0, .int .u16 0, .int .u16 0, .int .u16 0, .int .u16 0, .int .u16 0, .int .u16 0] 27 ?_; intro gb185 hg w27 hbox hb; have BK185 := Aside0.mk (hbox); have GW185 := xsz hg; have GE185 := GW185; replace HB := xst hb; clear hb hbox hg; obtain ⟨hcz28_0, hcz28_1, hcz28_2, hcz28_3, hcz28_4, hcz28_5, hcz28_6, hcz28_7⟩ := xc8 BK185; have hfz28_0 := xf BK185 0; have hfz28_1 := xf BK185 1; have hfz28_2 := xf BK185 2; have hfz28_3 := xf BK185 3; have hfz28_4 := xf BK185 4; have hfz28_5 := xf BK185 5; have hfz28_6 := xf BK185 6; have hfz28_7 := xf BK185 7) | (go_at_call 12; (with_reducible refine (ip_Future.calls kj2 ji16 true _ A24.out).mono ?_); rintro e w29 ⟨rfl, hb⟩; replace BK185 := xbb (g := gb185) (o := .cells #[.int .u16 t176, .int .u16 t177, .int .u16 t178, .int .u16 t179, .int .u16 t180, .int .u16 t181, .int .u16 t182, .int .u16 t183] 27 (0, 0)) hb; replace HB := xst hb; (try clear hb)))
        go_ret
        exact ⟨by first | rfl | (simp [errW_none, errW_some] <;> first | rfl | (simp only [xp_isEmpty, bne, Bool.not_not]; done)) | (simp only [← hji13, ← hji16, ← hji16]; first | rfl | (simp [errW_none, errW_some] <;> rfl)) | (simp [*, errW_none, errW_some] <;> rfl), xbl⟩
       ·
        replace c25 := Bool.eq_false_iff.mpr c25
        subst c25
        rw [if_neg (show ¬ (false = true) by decide)] at H
        obtain rfl := Option.some.inj H
        go_wp2_with (first | ((with_reducible refine gate_callee (f := 9) rfl ?_); refine goesL_ (some 31) rfl rfl Tryd.func9 (by kernel_rfl) rfl #[.string ji16] rfl (by (try simp only [List.map_toArray, List.map_cons, List.map_nil]); first | done | (simp only [hji16]; rfl) | rfl | (simp only [List.length_drop, List.length_take]; rfl)) ?_; (with_reducible refine (ip_V6.calls kj2 ji16 t176 t177 t178 t179 t180 t181 t182 t183 false _ ?side1 A17.out).mono ?_); (case side1 => first | (with_reducible exact hG) | exact GW_to hG xbl); rintro e w30 ⟨rfl, hb⟩; refine ⟨_, rfl, ?_⟩; replace HB := xst hb; (try clear hb)) | ((with_reducible refine gate_dst (N := 6) rfl ?_); refine xev 6 #[.int .u16 0, .int .u16 0, .int .u16 0, .int .u16 0, .int .u16 0, .int .u16 0, .int .u16 0, .int .u16 0] 27 ?_; intro gb185 hg w31 hbox hb; have BK185 := Aside0.mk (hbox); have GW185 := xsz hg; have GE185 := GW185; replace HB := xst hb; clear hb hbox hg; obtain ⟨hcz32_0, hcz32_1, hcz32_2, hcz32_3, hcz32_4, hcz32_5, hcz32_6, hcz32_7⟩ := xc8 BK185; have hfz32_0 := xf BK185 0; have hfz32_1 := xf BK185 1; have hfz32_2 := xf BK185 2; have hfz32_3 := xf BK185 3; have hfz32_4 := xf BK185 4; have hfz32_5 := xf BK185 5; have hfz32_6 := xf BK185 6; have hfz32_7 := xf BK185 7) | (go_at_call 12; (with_reducible refine (ip_Future.calls kj2 ji16 false _ A24.out).mono ?_); rintro e w33 ⟨rfl, hb⟩; replace BK185 := xbb (g := gb185) (o := .cells #[.int .u16 t176, .int .u16 t177, .int .u16 t178, .int .u16 t179, .int .u16 t180, .int .u16 t181, .int .u16 t182, .int .u16 t183] 27 (0, 0)) hb; replace HB := xst hb; (try clear hb)))
        go_ret
        exact ⟨by first | rfl | (simp [errW_none, errW_some] <;> first | rfl | (simp only [xp_isEmpty, bne, Bool.not_not]; done)) | (simp only [← hji13, ← hji16, ← hji16]; first | rfl | (simp [errW_none, errW_some] <;> rfl)) | (simp [*, errW_none, errW_some] <;> rfl), xbl⟩
     ·
      rw [if_neg c15] at H
      exact absurd H (by simp)
    ·
     rw [if_neg c14] at H
     exact absurd H (by simp)
   ·
    replace c12 := Bool.eq_false_iff.mpr c12
    subst c12
    rw [if_neg (show ¬ (false = true) by decide)] at H
    replace H := Option.bind_eq_some_iff.mp H
    obtain ⟨⟨t187, t188, t189, t190, t191⟩, A340, H⟩ := H
    try dsimp only at H
    have A34 := Aside0.mk A340
    clear A340
    by_cases c35 : t191 = true
    ·
     subst c35
     rw [if_pos rfl] at H
     obtain rfl := Option.some.inj H
     go_wp2_with (first | ((with_reducible refine gate_callee (f := 8) rfl ?_); refine xgl 44 Tryd.func8 #[.string a1] ?_; (with_reducible refine (ip_V4.calls kj2 a1 t187 t188 t189 t190 true _ ?side1 A34.out).mono ?_); (case side1 => first | (with_reducible exact hG) | exact GW_to hG xbl); rintro e w36 ⟨rfl, hb⟩; refine ⟨_, rfl, ?_⟩; replace HB := xst hb; (try clear hb)) | ((with_reducible refine gate_dst (N := 8) rfl ?_); refine xev 8 #[.int .u8 0, .int .u8 0, .int .u8 0, .int .u8 0] 23 ?_; intro gb192 hg w37 hbox hb; have BK192 := Aside0.mk (hbox); have GW192 := xsz hg; have GE192 := GW192; replace HB := xst hb; clear hb hbox hg; obtain ⟨hcz38_0, hcz38_1, hcz38_2, hcz38_3⟩ := xc4 BK192; have hfz38_0 := xf BK192 0; have hfz38_1 := xf BK192 1; have hfz38_2 := xf BK192 2; have hfz38_3 := xf BK192 3))
     go_ret
     exact ⟨xre, xbl⟩
    ·
     replace c35 := Bool.eq_false_iff.mpr c35
     subst c35
     rw [if_neg (show ¬ (false = true) by decide)] at H
     replace H := Option.bind_eq_some_iff.mp H
     obtain ⟨t193, A390, H⟩ := H
     try dsimp only at H
     have A39 := Aside0.mk A390
     clear A390
     by_cases c40 : t193 = true
     ·
      subst c40
      rw [if_pos rfl] at H
      obtain rfl := Option.some.inj H
      go_wp2_with (first | ((with_reducible refine gate_callee (f := 8) rfl ?_); refine xgl 44 Tryd.func8 #[.string a1] ?_; (with_reducible refine (ip_V4.calls kj2 a1 t187 t188 t189 t190 false _ ?side1 A34.out).mono ?_); (case side1 => first | (with_reducible exact hG) | exact GW_to hG xbl); rintro e w41 ⟨rfl, hb⟩; refine ⟨_, rfl, ?_⟩; replace HB := xst hb; (try clear hb)) | ((with_reducible refine gate_dst (N := 8) rfl ?_); refine xev 8 #[.int .u8 0, .int .u8 0, .int .u8 0, .int .u8 0] 23 ?_; intro gb192 hg w42 hbox hb; have BK192 := Aside0.mk (hbox); have GW192 := xsz hg; have GE192 := GW192; replace HB := xst hb; clear hb hbox hg; obtain ⟨hcz43_0, hcz43_1, hcz43_2, hcz43_3⟩ := xc4 BK192; have hfz43_0 := xf BK192 0; have hfz43_1 := xf BK192 1; have hfz43_2 := xf BK192 2; have hfz43_3 := xf BK192 3) | ((with_reducible refine gate_callee (f := 31) rfl ?_); refine xgl 50 Tryd.func31 #[.int .i64 2, .bool a0, .string a1] ?_; (with_reducible refine (lexis_All.calls kj2 2 a0 a1 true _ A39.out).mono ?_); rintro e w44 ⟨rfl, hb⟩; refine ⟨_, rfl, ?_⟩; replace BK192 := xbb (g := gb192) (o := .cells #[.int .u8 t187, .int .u8 t188, .int .u8 t189, .int .u8 t190] 23 (0, 0)) hb; replace HB := xst hb; (try clear hb)))
      go_ret
      exact ⟨xre, xbl⟩
     ·
      replace c40 := Bool.eq_false_iff.mpr c40
      subst c40
      rw [if_neg (show ¬ (false = true) by decide)] at H
      obtain rfl := Option.some.inj H
      go_wp2_with (first | ((with_reducible refine gate_callee (f := 8) rfl ?_); refine xgl 44 Tryd.func8 #[.string a1] ?_; (with_reducible refine (ip_V4.calls kj2 a1 t187 t188 t189 t190 false _ ?side1 A34.out).mono ?_); (case side1 => first | (with_reducible exact hG) | exact GW_to hG xbl); rintro e w45 ⟨rfl, hb⟩; refine ⟨_, rfl, ?_⟩; replace HB := xst hb; (try clear hb)) | ((with_reducible refine gate_dst (N := 8) rfl ?_); refine xev 8 #[.int .u8 0, .int .u8 0, .int .u8 0, .int .u8 0] 23 ?_; intro gb192 hg w46 hbox hb; have BK192 := Aside0.mk (hbox); have GW192 := xsz hg; have GE192 := GW192; replace HB := xst hb; clear hb hbox hg; obtain ⟨hcz47_0, hcz47_1, hcz47_2, hcz47_3⟩ := xc4 BK192; have hfz47_0 := xf BK192 0; have hfz47_1 := xf BK192 1; have hfz47_2 := xf BK192 2; have hfz47_3 := xf BK192 3) | ((with_reducible refine gate_callee (f := 31) rfl ?_); refine xgl 50 Tryd.func31 #[.int .i64 2, .bool a0, .string a1] ?_; (with_reducible refine (lexis_All.calls kj2 2 a0 a1 false _ A39.out).mono ?_); rintro e w48 ⟨rfl, hb⟩; refine ⟨_, rfl, ?_⟩; replace BK192 := xbb (g := gb192) (o := .cells #[.int .u8 t187, .int .u8 t188, .int .u8 t189, .int .u8 t190] 23 (0, 0)) hb; replace HB := xst hb; (try clear hb)))
      go_ret
      exact ⟨xre, xbl⟩
end Go.Proofs.YticohlbfolnmpaaDoor.X
