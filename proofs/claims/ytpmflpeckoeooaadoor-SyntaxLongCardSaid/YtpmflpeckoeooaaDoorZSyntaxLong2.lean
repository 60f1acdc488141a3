/- Texts that the law's proof needs, joined by a program of this session. -/
import Derived.Test.YtpmflpeckoeooaaDoorZSyntaxLong1
namespace Go.Proofs.YtpmflpeckoeooaaDoor.X
open Go.RowKit Go.Proofs.YtpmflpeckoeooaaDoorW.PrintWords Go.Proofs.YtpmflpeckoeooaaDoorW.PrintLast Go.Proofs.YtpmflpeckoeooaaDoorW.PrintMore
attribute [local go_sem] xj_then_goto xj_block_goto xj_normal xj_exit xj_ret xj_panic xj_goto max2_int min2_int max_two min_two max_three min_three max_four min_four
set_option linter.unusedVariables false
set_option linter.unusedSimpArgs false
mutual
def utf_Decode.j0 : Nat → ByteArray → Int → Int → Bool → Option (Int × Int × Bool)
  | 0, _, _, _, _ => none
  | k + 1, x0, x5, x6, x20 => if x20 = true then (some (0, x5, false)) else (if 0 < (x0.size : Int) then (if 0 ≤ x6 then (if x6 = 0 then (utf_Decode.l0 k x0 (wrap32 (Go.bits .and .u8 (bt x0 0) 0)) x6 1) else (if x6 = 1 then (utf_Decode.l0 k x0 (wrap32 (Go.bits .and .u8 (bt x0 0) 127)) x6 1) else (if x6 = 2 then (utf_Decode.l0 k x0 (wrap32 (Go.bits .and .u8 (bt x0 0) 31)) x6 1) else (if x6 = 3 then (utf_Decode.l0 k x0 (wrap32 (Go.bits .and .u8 (bt x0 0) 15)) x6 1) else (if x6 = 4 then (utf_Decode.l0 k x0 (wrap32 (Go.bits .and .u8 (bt x0 0) 7)) x6 1) else (none)))))) else (none)) else (none))
def utf_Decode.l0 : Nat → ByteArray → Int → Int → Int → Option (Int × Int × Bool)
  | 0, _, _, _, _ => none
  | k + 1, x0, x2, x6, x8 => if x8 < x6 then (if 0 ≤ x8 then (if x8 < (x0.size : Int) then (utf_Decode.l0 k x0 (Go.bits .or .i32 (wrap32 (x2 * 64)) (wrap32 (Go.bits .and .u8 (bt x0 x8) 63))) x6 (wrap64 (x8 + 1))) else (none)) else (none)) else (some (x2, x6, true))
end
def utf_Decode.f (k : Nat) (a0 : ByteArray) : Option (Int × Int × Bool) := (utf_front.f k a0).bind fun bt104 => (if bt104.2 = 0 then (utf_Decode.j0 k a0 bt104.1 bt104.2 true) else (utf_Decode.j0 k a0 bt104.1 bt104.2 (decide (bt104.1 < bt104.2))))
theorem utf_Decode.mono_l : ∀ k, (∀ y0 y1 y2 y3, LeO (utf_Decode.j0 k y0 y1 y2 y3) (utf_Decode.j0 (k + 1) y0 y1 y2 y3)) ∧ (∀ y0 y1 y2 y3, LeO (utf_Decode.l0 k y0 y1 y2 y3) (utf_Decode.l0 (k + 1) y0 y1 y2 y3))
  | 0 => ⟨fun _ _ _ _ r h => by simp [utf_Decode.j0] at h, fun _ _ _ _ r h => by simp [utf_Decode.l0] at h⟩
  | k + 1 => by
    obtain ⟨ih0, ih1⟩ := utf_Decode.mono_l k
    have m0 := @utf_front.mono
    refine ⟨?_, ?_⟩
    · intro y0 y1 y2 y3
      unfold utf_Decode.j0
      exact xmo
    · intro y0 y1 y2 y3
      unfold utf_Decode.l0
      exact xmo
theorem utf_Decode.mono : ∀ a0 k, LeO (utf_Decode.f k a0) (utf_Decode.f (k + 1) a0) := by
  intro a0 k
  obtain ⟨ih0, ih1⟩ := utf_Decode.mono_l k
  have m0 := @utf_front.mono
  unfold utf_Decode.f
  exact xmo
set_option maxHeartbeats 8000000 in
set_option maxRecDepth 100000 in
theorem utf_Decode.calls (k : Nat) (a0 : ByteArray) (r1 : Int) (r2 : Int) (r3 : Bool) (w : World) (h : utf_Decode.f k a0 = some (r1, r2, r3)) :
    Calls Tryd.prog 16 #[.string a0] w fun e w' => e = .returned (.tuple #[.int .i32 r1, .int .i64 r2, .bool r3]) ∧ Below w.heap.size w w' := by
 have hu51 := Tryd.underlying51
 have HB := Aside0.mk (Below.refl w.heap.size w)
 have H : ((utf_front.f k a0).bind fun bt104 => (if bt104.2 = 0 then (utf_Decode.j0 k a0 bt104.1 bt104.2 true) else (utf_Decode.j0 k a0 bt104.1 bt104.2 (decide (bt104.1 < bt104.2))))) = some (r1, r2, r3) := h
 clear h
 replace H := Option.bind_eq_some_iff.mp H
 obtain ⟨⟨t104, t105⟩, A20, H⟩ := H
 try dsimp only at H
 have A2 := Aside0.mk A20
 clear A20
 have HC3 := Aside0.mk H
 clear H
 go_enter Tryd.func16, Tryd.ntmps16
 go_upto_region 2 with (first | (go_at_call 23; (with_reducible refine (utf_front.calls k a0 t104 t105 _ A2.out).mono ?_); rintro e w' ⟨rfl, ⟨nd, rfl⟩⟩; (try first | exact ⟨rfl, _, World.drewN_drewN _ _ _⟩ | exact ⟨rfl, _, Eq.trans (World.drewN_drewN _ _ _) (congrArg (World.drewN _) (Nat.add_assoc _ _ _))⟩)))
 repeat (go_quiet (first | (go_at_call 23; (with_reducible refine (utf_front.calls k a0 t104 t105 _ A2.out).mono ?_); rintro e w' ⟨rfl, ⟨nd, rfl⟩⟩; (try first | exact ⟨rfl, _, World.drewN_drewN _ _ _⟩ | exact ⟨rfl, _, Eq.trans (World.drewN_drewN _ _ _) (congrArg (World.drewN _) (Nat.add_assoc _ _ _))⟩))); go_upto_region 2 with (first | (go_at_call 23; (with_reducible refine (utf_front.calls k a0 t104 t105 _ A2.out).mono ?_); rintro e w' ⟨rfl, ⟨nd, rfl⟩⟩; (try first | exact ⟨rfl, _, World.drewN_drewN _ _ _⟩ | exact ⟨rfl, _, Eq.trans (World.drewN_drewN _ _ _) (congrArg (World.drewN _) (Nat.add_assoc _ _ _))⟩))))
 (try simp only [Act.put, List.setIfInBounds_toArray, List.set_cons_zero, List.set_cons_succ])
 go_cut [20] (fun v20 wc => ∃ (kq : Nat) (x20_2 : Bool), v20 = .bool x20_2 ∧ Aside0 (utf_Decode.j0 kq a0 t104 t105 x20_2 = some (r1, r2, r3)) ∧ Aside0 (kq ≤ k) ∧ Aside0 (Below w.heap.size w wc))
 case first =>
  have H := HC3.out
  clear HC3
  by_cases c4 : t105 = 0
  ·
   rw [if_pos c4] at H
   have c4b0 : (t105 == 0) = true := beq_iff_eq.mpr c4
   have c4b1 : (t105 != 0) = false := bne_eq_false_iff_eq.mpr c4
   clear c4
   (first | rw [c4b0] | (simp only [i64_w, i32_w]; rw [c4b0]) | (rw [c4b2]; (try simp only [Bool.not_false, Bool.not_true])) | (rw [c4b3]; (try simp only [Bool.not_false, Bool.not_true])) | skip)
   have H' := Aside0.mk H
   clear H
   go_wp2
   repeat (go_quiet (fail); try go_wp2)
   go_meet
   case rel => exact ⟨_, (true), xrr, H', ⟨xom⟩, ⟨xbl⟩⟩
  ·
   rw [if_neg c4] at H
   have c4b0 : (t105 == 0) = false := beq_eq_false_iff_ne.mpr c4
   have c4b1 : (t105 != 0) = true := bne_iff_ne.mpr c4
   (first | rw [c4b0] | (simp only [i64_w, i32_w]; rw [c4b0]) | (rw [c4b2]; (try simp only [Bool.not_false, Bool.not_true])) | (rw [c4b3]; (try simp only [Bool.not_false, Bool.not_true])) | skip)
   have H' := Aside0.mk H
   clear H
   go_wp2
   repeat (go_quiet (fail); try go_wp2)
   go_meet
   case rel => exact ⟨_, (decide (t104 < t105)), xrr, H', ⟨xom⟩, ⟨xbl⟩⟩
 case rest =>
  clear HC3
  obtain ⟨kq, x20_2, rfl, HA, HJ2, HB⟩ := hcut
  cases kq with
  | zero => exact absurd HA.out (by simp [utf_Decode.j0])
  | succ kj2 =>
   have H := HA.out
   clear HA
   simp only [utf_Decode.j0] at H
   by_cases c5 : x20_2 = true
   ·
    subst c5
    rw [if_pos rfl] at H
    simp only [Option.some.injEq, Prod.mk.injEq] at H
    obtain ⟨rfl, rfl, rfl⟩ := H
    go_wp2
    repeat (go_quiet (fail); try go_wp2)
    go_ret3
    exact ⟨xre, xbl⟩
   ·
    replace c5 := Bool.eq_false_iff.mpr c5
    subst c5
    rw [if_neg (show ¬ (false = true) by decide)] at H
    by_cases c6 : 0 < (a0.size : Int)
    ·
     rw [if_pos c6] at H
     have c6b0 := decide_eq_true c6
     have c6b1 : decide (0 < a0.size) = true := decide_eq_true (by omega)
     clear c6
     by_cases c8 : 0 ≤ t105
     ·
      rw [if_pos c8] at H
      have c8b0 := decide_eq_true c8
      clear c8
      by_cases c9 : t105 = 0
      ·
       subst c9
       rw [if_pos rfl] at H
       have H' := Aside0.mk H
       clear H
       go_wp2_with (first | ((with_reducible refine gate_dst (N := 7) rfl ?_); refine xev 7 #[.int .u8 0, .int .u8 0, .int .u8 0, .int .u8 0, .int .u8 0] 51 ?_; intro gb106 hg w10 hbox hb; have BK106 := Aside0.mk (hbox); have GW106 := xsz hg; have GE106 := GW106; replace HB := xst hb; clear hb hbox hg; obtain ⟨hcz11_0, hcz11_1, hcz11_2, hcz11_3, hcz11_4⟩ := xc5 BK106; have hfz11_0 := xf BK106 0; have hfz11_1 := xf BK106 1; have hfz11_2 := xf BK106 2; have hfz11_3 := xf BK106 3; have hfz11_4 := xf BK106 4; have p7 : 0 ≤ (0 : Int) := (by omega); have q7 : 0 < a0.size := (by have : (0 : Int) < (a0.size : Int) := xod; omega); have hx7 : ∀ h : 0 < a0.size, ((a0[0]'h).toNat : Int) = bt a0 0 := bt_at a0 0; clear p7; have qi7 : (0 < (a0.size : Int)) = True := eq_true (xod); replace q7 := eq_true q7))
       repeat (go_quiet (first | ((with_reducible refine gate_dst (N := 7) rfl ?_); refine xev 7 #[.int .u8 0, .int .u8 0, .int .u8 0, .int .u8 0, .int .u8 0] 51 ?_; intro gb106 hg w10 hbox hb; have BK106 := Aside0.mk (hbox); have GW106 := xsz hg; have GE106 := GW106; replace HB := xst hb; clear hb hbox hg; obtain ⟨hcz11_0, hcz11_1, hcz11_2, hcz11_3, hcz11_4⟩ := xc5 BK106; have hfz11_0 := xf BK106 0; have hfz11_1 := xf BK106 1; have hfz11_2 := xf BK106 2; have hfz11_3 := xf BK106 3; have hfz11_4 := xf BK106 4; have p7 : 0 ≤ (0 : Int) := (by omega); have q7 : 0 < a0.size := (by have : (0 : Int) < (a0.size : Int) := xod; omega); have hx7 : ∀ h : 0 < a0.size, ((a0[0]'h).toNat : Int) = bt a0 0 := bt_at a0 0; clear p7; have qi7 : (0 < (a0.size : Int)) = True := eq_true (xod); replace q7 := eq_true q7)); try go_wp2_with (first | ((with_reducible refine gate_dst (N := 7) rfl ?_); refine xev 7 #[.int .u8 0, .int .u8 0, .int .u8 0, .int .u8 0, .int .u8 0] 51 ?_; intro gb106 hg w10 hbox hb; have BK106 := Aside0.mk (hbox); have GW106 := xsz hg; have GE106 := GW106; replace HB := xst hb; clear hb hbox hg; obtain ⟨hcz11_0, hcz11_1, hcz11_2, hcz11_3, hcz11_4⟩ := xc5 BK106; have hfz11_0 := xf BK106 0; have hfz11_1 := xf BK106 1; have hfz11_2 := xf BK106 2; have hfz11_3 := xf BK106 3; have hfz11_4 := xf BK106 4; have p7 : 0 ≤ (0 : Int) := (by omega); have q7 : 0 < a0.size := (by have : (0 : Int) < (a0.size : Int) := xod; omega); have hx7 : ∀ h : 0 < a0.size, ((a0[0]'h).toNat : Int) = bt a0 0 := bt_at a0 0; clear p7; have qi7 : (0 < (a0.size : Int)) = True := eq_true (xod); replace q7 := eq_true q7)))
       go_loopg [2, 8] kj2 (fun kq v2 v8 w' => ∃ (x2_2 : Int) (x8_2 : Int), v2 = .int .i32 x2_2 ∧ v8 = .int .i64 x8_2 ∧ Aside0 (utf_Decode.l0 kq a0 x2_2 0 x8_2 = some (r1, r2, r3)) ∧ Aside0 (kq ≤ kj2) ∧ Aside0 (w'.heap[gb106]? = some (.cells #[.int .u8 0, .int .u8 127, .int .u8 31, .int .u8 15, .int .u8 7] 51 (0, 0))) ∧ Aside0 (Below w.heap.size w w'))
       case atStart => exact ⟨(wrap32 (Go.bits .and .u8 (bt a0 0) 0)), (1), xrr, xrr, H', ⟨Nat.le_refl _⟩, ⟨by (with_reducible repeat (first | refine blk_drewN ?_ _ | refine blk_drew ?_ | refine blk_alloc ?_ _)); refine blk_put (cs := #[.int .u8 0, .int .u8 127, .int .u8 31, .int .u8 15, .int .u8 0]) ?_ 4 _ rfl; (with_reducible repeat (first | refine blk_drewN ?_ _ | refine blk_drew ?_ | refine blk_alloc ?_ _)); refine blk_put (cs := #[.int .u8 0, .int .u8 127, .int .u8 31, .int .u8 0, .int .u8 0]) ?_ 3 _ rfl; (with_reducible repeat (first | refine blk_drewN ?_ _ | refine blk_drew ?_ | refine blk_alloc ?_ _)); refine blk_put (cs := #[.int .u8 0, .int .u8 127, .int .u8 0, .int .u8 0, .int .u8 0]) ?_ 2 _ rfl; (with_reducible repeat (first | refine blk_drewN ?_ _ | refine blk_drew ?_ | refine blk_alloc ?_ _)); refine blk_put (cs := #[.int .u8 0, .int .u8 0, .int .u8 0, .int .u8 0, .int .u8 0]) ?_ 1 _ rfl; (with_reducible repeat (first | refine blk_drewN ?_ _ | refine blk_drew ?_ | refine blk_alloc ?_ _)); refine blk_put (cs := #[.int .u8 0, .int .u8 0, .int .u8 0, .int .u8 0, .int .u8 0]) ?_ 0 _ rfl; (with_reducible repeat (first | refine blk_drewN ?_ _ | refine blk_drew ?_ | refine blk_alloc ?_ _)); exact BK106.out⟩, ⟨xbl⟩⟩
       case round =>
        clear H'
        clear c6b0 c6b1 c8b0
        try clear p7
        try clear q7
        try clear hx7
        try clear qi7
        obtain ⟨x2_2, x8_2, rfl, rfl, HA, HK2, BK106, HB⟩ := hrel
        cases gk with
        | zero => exact absurd HA.out (by simp [utf_Decode.l0])
        | succ k2 =>
         have H := HA.out
         clear HA
         simp only [utf_Decode.l0] at H
         by_cases c12 : x8_2 < 0
         ·
          rw [if_pos c12] at H
          have c12b0 := decide_eq_true c12
          clear c12
          by_cases c13 : 0 ≤ x8_2
          ·
           rw [if_pos c13] at H
           have c13b0 := decide_eq_true c13
           clear c13
           by_cases c14 : x8_2 < (a0.size : Int)
           ·
            rw [if_pos c14] at H
            have c14b0 := decide_eq_true c14
            clear c14
            have H' := Aside0.mk H
            clear H
            have p15 : 0 ≤ (x8_2 : Int) := xod
            have q15 : x8_2 < (a0.size : Int) := xod
            have hx15 := bt_at a0 x8_2
            replace p15 := eq_true p15
            replace q15 := eq_true q15
            try (have q15x := q15; simp only [ByteArray.size_extract, Nat.min_self] at q15x)
            go_wp2
            repeat (go_quiet (fail); try go_wp2)
            go_roundg k2
            case measure => have := HJ2.out; have := HK2.out; omega
            case rel => exact ⟨(Go.bits .or .i32 (wrap32 (x2_2 * 64)) (wrap32 (Go.bits .and .u8 (bt a0 x8_2) 63))), (wrap64 (x8_2 + 1)), xrr, xrr, H', ⟨by have := HJ2.out; have := HK2.out; omega⟩, ⟨xbk⟩, ⟨xbl⟩⟩
           ·
            rw [if_neg c14] at H
            exact absurd H (by simp)
          ·
           rw [if_neg c13] at H
           exact absurd H (by simp)
         ·
          rw [if_neg c12] at H
          have c12b0 := decide_eq_false c12
          clear c12
          simp only [Option.some.injEq, Prod.mk.injEq] at H
          obtain ⟨rfl, rfl, rfl⟩ := H
          go_wp2
          repeat (go_quiet (fail); try go_wp2)
          go_ret3
          exact ⟨xre, xbl⟩
      ·
       rw [if_neg c9] at H
       clear c9
       by_cases c16 : t105 = 1
       ·
        subst c16
        rw [if_pos rfl] at H
        have H' := Aside0.mk H
        clear H
        go_wp2_with (first | ((with_reducible refine gate_dst (N := 7) rfl ?_); refine xev 7 #[.int .u8 0, .int .u8 0, .int .u8 0, .int .u8 0, .int .u8 0] 51 ?_; intro gb106 hg w17 hbox hb; have BK106 := Aside0.mk (hbox); have GW106 := xsz hg; have GE106 := GW106; replace HB := xst hb; clear hb hbox hg; obtain ⟨hcz18_0, hcz18_1, hcz18_2, hcz18_3, hcz18_4⟩ := xc5 BK106; have hfz18_0 := xf BK106 0; have hfz18_1 := xf BK106 1; have hfz18_2 := xf BK106 2; have hfz18_3 := xf BK106 3; have hfz18_4 := xf BK106 4; have p7 : 0 ≤ (0 : Int) := (by omega); have q7 : 0 < a0.size := (by have : (0 : Int) < (a0.size : Int) := xod; omega); have hx7 : ∀ h : 0 < a0.size, ((a0[0]'h).toNat : Int) = bt a0 0 := bt_at a0 0; clear p7; have qi7 : (0 < (a0.size : Int)) = True := eq_true (xod); replace q7 := eq_true q7))
        repeat (go_quiet (first | ((with_reducible refine gate_dst (N := 7) rfl ?_); refine xev 7 #[.int .u8 0, .int .u8 0, .int .u8 0, .int .u8 0, .int .u8 0] 51 ?_; intro gb106 hg w17 hbox hb; have BK106 := Aside0.mk (hbox); have GW106 := xsz hg; have GE106 := GW106; replace HB := xst hb; clear hb hbox hg; obtain ⟨hcz18_0, hcz18_1, hcz18_2, hcz18_3, hcz18_4⟩ := xc5 BK106; have hfz18_0 := xf BK106 0; have hfz18_1 := xf BK106 1; have hfz18_2 := xf BK106 2; have hfz18_3 := xf BK106 3; have hfz18_4 := xf BK106 4; have p7 : 0 ≤ (0 : Int) := (by omega); have q7 : 0 < a0.size := (by have : (0 : Int) < (a0.size : Int) := xod; omega); have hx7 : ∀ h : 0 < a0.size, ((a0[0]'h).toNat : Int) = bt a0 0 := bt_at a0 0; clear p7; have qi7 : (0 < (a0.size : Int)) = True := eq_true (xod); replace q7 := eq_true q7)); try go_wp2_with (first | ((with_reducible refine gate_dst (N := 7) rfl ?_); refine xev 7 #[.int .u8 0, .int .u8 0, .int .u8 0, .int .u8 0, .int .u8 0] 51 ?_; intro gb106 hg w17 hbox hb; have BK106 := Aside0.mk (hbox); have GW106 := xsz hg; have GE106 := GW106; replace HB := xst hb; clear hb hbox hg; obtain ⟨hcz18_0, hcz18_1, hcz18_2, hcz18_3, hcz18_4⟩ := xc5 BK106; have hfz18_0 := xf BK106 0; have hfz18_1 := xf BK106 1; have hfz18_2 := xf BK106 2; have hfz18_3 := xf BK106 3; have hfz18_4 := xf BK106 4; have p7 : 0 ≤ (0 : Int) := (by omega); have q7 : 0 < a0.size := (by have : (0 : Int) < (a0.size : Int) := xod; omega); have hx7 : ∀ h : 0 < a0.size, ((a0[0]'h).toNat : Int) = bt a0 0 := bt_at a0 0; clear p7; have qi7 : (0 < (a0.size : Int)) = True := eq_true (xod); replace q7 := eq_true q7)))
        go_loopg [2, 8] kj2 (fun kq v2 v8 w' => ∃ (x2_2 : Int) (x8_2 : Int), v2 = .int .i32 x2_2 ∧ v8 = .int .i64 x8_2 ∧ Aside0 (utf_Decode.l0 kq a0 x2_2 1 x8_2 = some (r1, r2, r3)) ∧ Aside0 (kq ≤ kj2) ∧ Aside0 (w'.heap[gb106]? = some (.cells #[.int .u8 0, .int .u8 127, .int .u8 31, .int .u8 15, .int .u8 7] 51 (0, 0))) ∧ Aside0 (Below w.heap.size w w'))
        case atStart => exact ⟨(wrap32 (Go.bits .and .u8 (bt a0 0) 127)), (1), xrr, xrr, H', ⟨Nat.le_refl _⟩, ⟨by (with_reducible repeat (first | refine blk_drewN ?_ _ | refine blk_drew ?_ | refine blk_alloc ?_ _)); refine blk_put (cs := #[.int .u8 0, .int .u8 127, .int .u8 31, .int .u8 15, .int .u8 0]) ?_ 4 _ rfl; (with_reducible repeat (first | refine blk_drewN ?_ _ | refine blk_drew ?_ | refine blk_alloc ?_ _)); refine blk_put (cs := #[.int .u8 0, .int .u8 127, .int .u8 31, .int .u8 0, .int .u8 0]) ?_ 3 _ rfl; (with_reducible repeat (first | refine blk_drewN ?_ _ | refine blk_drew ?_ | refine blk_alloc ?_ _)); refine blk_put (cs := #[.int .u8 0, .int .u8 127, .int .u8 0, .int .u8 0, .int .u8 0]) ?_ 2 _ rfl; (with_reducible repeat (first | refine blk_drewN ?_ _ | refine blk_drew ?_ | refine blk_alloc ?_ _)); refine blk_put (cs := #[.int .u8 0, .int .u8 0, .int .u8 0, .int .u8 0, .int .u8 0]) ?_ 1 _ rfl; (with_reducible repeat (first | refine blk_drewN ?_ _ | refine blk_drew ?_ | refine blk_alloc ?_ _)); refine blk_put (cs := #[.int .u8 0, .int .u8 0, .int .u8 0, .int .u8 0, .int .u8 0]) ?_ 0 _ rfl; (with_reducible repeat (first | refine blk_drewN ?_ _ | refine blk_drew ?_ | refine blk_alloc ?_ _)); exact BK106.out⟩, ⟨xbl⟩⟩
        case round =>
         clear H'
         try clear p7
         try clear q7
         try clear hx7
         try clear qi7
         obtain ⟨x2_2, x8_2, rfl, rfl, HA, HK2, BK106, HB⟩ := hrel
         cases gk with
         | zero => exact absurd HA.out (by simp [utf_Decode.l0])
         | succ k2 =>
          have H := HA.out
          clear HA
          simp only [utf_Decode.l0] at H
          by_cases c19 : x8_2 < 1
          ·
           rw [if_pos c19] at H
           have c19b0 := decide_eq_true c19
           clear c19
           by_cases c20 : 0 ≤ x8_2
           ·
            rw [if_pos c20] at H
            have c20b0 := decide_eq_true c20
            clear c20
            by_cases c21 : x8_2 < (a0.size : Int)
            ·
             rw [if_pos c21] at H
             have c21b0 := decide_eq_true c21
             clear c21
             have H' := Aside0.mk H
             clear H
             have p22 : 0 ≤ (x8_2 : Int) := xod
             have q22 : x8_2 < (a0.size : Int) := xod
             have hx22 := bt_at a0 x8_2
             replace p22 := eq_true p22
             replace q22 := eq_true q22
             try (have q22x := q22; simp only [ByteArray.size_extract, Nat.min_self] at q22x)
             go_wp2
             repeat (go_quiet (fail); try go_wp2)
             go_roundg k2
             case measure => have := HJ2.out; have := HK2.out; omega
             case rel => exact ⟨(Go.bits .or .i32 (wrap32 (x2_2 * 64)) (wrap32 (Go.bits .and .u8 (bt a0 x8_2) 63))), (wrap64 (x8_2 + 1)), xrr, xrr, H', ⟨by have := HJ2.out; have := HK2.out; omega⟩, ⟨xbk⟩, ⟨xbl⟩⟩
            ·
             rw [if_neg c21] at H
             exact absurd H (by simp)
           ·
            rw [if_neg c20] at H
            exact absurd H (by simp)
          ·
           rw [if_neg c19] at H
           have c19b0 := decide_eq_false c19
           clear c19
           simp only [Option.some.injEq, Prod.mk.injEq] at H
           obtain ⟨rfl, rfl, rfl⟩ := H
           go_wp2
           repeat (go_quiet (fail); try go_wp2)
           go_ret3
           exact ⟨xre, xbl⟩
       ·
        rw [if_neg c16] at H
        clear c16
        by_cases c23 : t105 = 2
        ·
         subst c23
         rw [if_pos rfl] at H
         have H' := Aside0.mk H
         clear H
         go_wp2_with (first | ((with_reducible refine gate_dst (N := 7) rfl ?_); refine xev 7 #[.int .u8 0, .int .u8 0, .int .u8 0, .int .u8 0, .int .u8 0] 51 ?_; intro gb106 hg w24 hbox hb; have BK106 := Aside0.mk (hbox); have GW106 := xsz hg; have GE106 := GW106; replace HB := xst hb; clear hb hbox hg; obtain ⟨hcz25_0, hcz25_1, hcz25_2, hcz25_3, hcz25_4⟩ := xc5 BK106; have hfz25_0 := xf BK106 0; have hfz25_1 := xf BK106 1; have hfz25_2 := xf BK106 2; have hfz25_3 := xf BK106 3; have hfz25_4 := xf BK106 4; have p7 : 0 ≤ (0 : Int) := (by omega); have q7 : 0 < a0.size := (by have : (0 : Int) < (a0.size : Int) := xod; omega); have hx7 : ∀ h : 0 < a0.size, ((a0[0]'h).toNat : Int) = bt a0 0 := bt_at a0 0; clear p7; have qi7 : (0 < (a0.size : Int)) = True := eq_true (xod); replace q7 := eq_true q7))
         repeat (go_quiet (first | ((with_reducible refine gate_dst (N := 7) rfl ?_); refine xev 7 #[.int .u8 0, .int .u8 0, .int .u8 0, .int .u8 0, .int .u8 0] 51 ?_; intro gb106 hg w24 hbox hb; have BK106 := Aside0.mk (hbox); have GW106 := xsz hg; have GE106 := GW106; replace HB := xst hb; clear hb hbox hg; obtain ⟨hcz25_0, hcz25_1, hcz25_2, hcz25_3, hcz25_4⟩ := xc5 BK106; have hfz25_0 := xf BK106 0; have hfz25_1 := xf BK106 1; have hfz25_2 := xf BK106 2; have hfz25_3 := xf BK106 3; have hfz25_4 := xf BK106 4; have p7 : 0 ≤ (0 : Int) := (by omega); have q7 : 0 < a0.size := (by have : (0 : Int) < (a0.size : Int) := xod; omega); have hx7 : ∀ h : 0 < a0.size, ((a0[0]'h).toNat : Int) = bt a0 0 := bt_at a0 0; clear p7; have qi7 : (0 < (a0.size : Int)) = True := eq_true (xod); replace q7 := eq_true q7)); try go_wp2_with (first | ((with_reducible refine gate_dst (N := 7) rfl ?_); refine xev 7 #[.int .u8 0, .int .u8 0, .int .u8 0, .int .u8 0, .int .u8 0] 51 ?_; intro gb106 hg w24 hbox hb; have BK106 := Aside0.mk (hbox); have GW106 := xsz hg; have GE106 := GW106; replace HB := xst hb; clear hb hbox hg; obtain ⟨hcz25_0, hcz25_1, hcz25_2, hcz25_3, hcz25_4⟩ := xc5 BK106; have hfz25_0 := xf BK106 0; have hfz25_1 := xf BK106 1; have hfz25_2 := xf BK106 2; have hfz25_3 := xf BK106 3; have hfz25_4 := xf BK106 4; have p7 : 0 ≤ (0 : Int) := (by omega); have q7 : 0 < a0.size := (by have : (0 : Int) < (a0.size : Int) := xod; omega); have hx7 : ∀ h : 0 < a0.size, ((a0[0]'h).toNat : Int) = bt a0 0 := bt_at a0 0; clear p7; have qi7 : (0 < (a0.size : Int)) = True := eq_true (xod); replace q7 := eq_true q7)))
         go_loopg [2, 8] kj2 (fun kq v2 v8 w' => ∃ (x2_2 : Int) (x8_2 : Int), v2 = .int .i32 x2_2 ∧ v8 = .int .i64 x8_2 ∧ Aside0 (utf_Decode.l0 kq a0 x2_2 2 x8_2 = some (r1, r2, r3)) ∧ Aside0 (kq ≤ kj2) ∧ Aside0 (w'.heap[gb106]? = some (.cells #[.int .u8 0, .int .u8 127, .int .u8 31, .int .u8 15, .int .u8 7] 51 (0, 0))) ∧ Aside0 (Below w.heap.size w w'))
         case atStart => exact ⟨(wrap32 (Go.bits .and .u8 (bt a0 0) 31)), (1), xrr, xrr, H', ⟨Nat.le_refl _⟩, ⟨by (with_reducible repeat (first | refine blk_drewN ?_ _ | refine blk_drew ?_ | refine blk_alloc ?_ _)); refine blk_put (cs := #[.int .u8 0, .int .u8 127, .int .u8 31, .int .u8 15, .int .u8 0]) ?_ 4 _ rfl; (with_reducible repeat (first | refine blk_drewN ?_ _ | refine blk_drew ?_ | refine blk_alloc ?_ _)); refine blk_put (cs := #[.int .u8 0, .int .u8 127, .int .u8 31, .int .u8 0, .int .u8 0]) ?_ 3 _ rfl; (with_reducible repeat (first | refine blk_drewN ?_ _ | refine blk_drew ?_ | refine blk_alloc ?_ _)); refine blk_put (cs := #[.int .u8 0, .int .u8 127, .int .u8 0, .int .u8 0, .int .u8 0]) ?_ 2 _ rfl; (with_reducible repeat (first | refine blk_drewN ?_ _ | refine blk_drew ?_ | refine blk_alloc ?_ _)); refine blk_put (cs := #[.int .u8 0, .int .u8 0, .int .u8 0, .int .u8 0, .int .u8 0]) ?_ 1 _ rfl; (with_reducible repeat (first | refine blk_drewN ?_ _ | refine blk_drew ?_ | refine blk_alloc ?_ _)); refine blk_put (cs := #[.int .u8 0, .int .u8 0, .int .u8 0, .int .u8 0, .int .u8 0]) ?_ 0 _ rfl; (with_reducible repeat (first | refine blk_drewN ?_ _ | refine blk_drew ?_ | refine blk_alloc ?_ _)); exact BK106.out⟩, ⟨xbl⟩⟩
         case round =>
          clear H'
          try clear p7
          try clear q7
          try clear hx7
          try clear qi7
          obtain ⟨x2_2, x8_2, rfl, rfl, HA, HK2, BK106, HB⟩ := hrel
          cases gk with
          | zero => exact absurd HA.out (by simp [utf_Decode.l0])
          | succ k2 =>
           have H := HA.out
           clear HA
           simp only [utf_Decode.l0] at H
           by_cases c26 : x8_2 < 2
           ·
            rw [if_pos c26] at H
            have c26b0 := decide_eq_true c26
            clear c26
            by_cases c27 : 0 ≤ x8_2
            ·
             rw [if_pos c27] at H
             have c27b0 := decide_eq_true c27
             clear c27
             by_cases c28 : x8_2 < (a0.size : Int)
             ·
              rw [if_pos c28] at H
              have c28b0 := decide_eq_true c28
              clear c28
              have H' := Aside0.mk H
              clear H
              have p29 : 0 ≤ (x8_2 : Int) := xod
              have q29 : x8_2 < (a0.size : Int) := xod
              have hx29 := bt_at a0 x8_2
              replace p29 := eq_true p29
              replace q29 := eq_true q29
              try (have q29x := q29; simp only [ByteArray.size_extract, Nat.min_self] at q29x)
              go_wp2
              repeat (go_quiet (fail); try go_wp2)
              go_roundg k2
              case measure => have := HJ2.out; have := HK2.out; omega
              case rel => exact ⟨(Go.bits .or .i32 (wrap32 (x2_2 * 64)) (wrap32 (Go.bits .and .u8 (bt a0 x8_2) 63))), (wrap64 (x8_2 + 1)), xrr, xrr, H', ⟨by have := HJ2.out; have := HK2.out; omega⟩, ⟨xbk⟩, ⟨xbl⟩⟩
             ·
              rw [if_neg c28] at H
              exact absurd H (by simp)
            ·
             rw [if_neg c27] at H
             exact absurd H (by simp)
           ·
            rw [if_neg c26] at H
            have c26b0 := decide_eq_false c26
            clear c26
            simp only [Option.some.injEq, Prod.mk.injEq] at H
            obtain ⟨rfl, rfl, rfl⟩ := H
            go_wp2
            repeat (go_quiet (fail); try go_wp2)
            go_ret3
            exact ⟨xre, xbl⟩
        ·
         rw [if_neg c23] at H
         clear c23
         by_cases c30 : t105 = 3
         ·
          subst c30
          rw [if_pos rfl] at H
          have H' := Aside0.mk H
          clear H
          go_wp2_with (first | ((with_reducible refine gate_dst (N := 7) rfl ?_); refine xev 7 #[.int .u8 0, .int .u8 0, .int .u8 0, .int .u8 0, .int .u8 0] 51 ?_; intro gb106 hg w31 hbox hb; have BK106 := Aside0.mk (hbox); have GW106 := xsz hg; have GE106 := GW106; replace HB := xst hb; clear hb hbox hg; obtain ⟨hcz32_0, hcz32_1, hcz32_2, hcz32_3, hcz32_4⟩ := xc5 BK106; have hfz32_0 := xf BK106 0; have hfz32_1 := xf BK106 1; have hfz32_2 := xf BK106 2; have hfz32_3 := xf BK106 3; have hfz32_4 := xf BK106 4; have p7 : 0 ≤ (0 : Int) := (by omega); have q7 : 0 < a0.size := (by have : (0 : Int) < (a0.size : Int) := xod; omega); have hx7 : ∀ h : 0 < a0.size, ((a0[0]'h).toNat : Int) = bt a0 0 := bt_at a0 0; clear p7; have qi7 : (0 < (a0.size : Int)) = True := eq_true (xod); replace q7 := eq_true q7))
          repeat (go_quiet (first | ((with_reducible refine gate_dst (N := 7) rfl ?_); refine xev 7 #[.int .u8 0, .int .u8 0, .int .u8 0, .int .u8 0, .int .u8 0] 51 ?_; intro gb106 hg w31 hbox hb; have BK106 := Aside0.mk (hbox); have GW106 := xsz hg; have GE106 := GW106; replace HB := xst hb; clear hb hbox hg; obtain ⟨hcz32_0, hcz32_1, hcz32_2, hcz32_3, hcz32_4⟩ := xc5 BK106; have hfz32_0 := xf BK106 0; have hfz32_1 := xf BK106 1; have hfz32_2 := xf BK106 2; have hfz32_3 := xf BK106 3; have hfz32_4 := xf BK106 4; have p7 : 0 ≤ (0 : Int) := (by omega); have q7 : 0 < a0.size := (by have : (0 : Int) < (a0.size : Int) := xod; omega); have hx7 : ∀ h : 0 < a0.size, ((a0[0]'h).toNat : Int) = bt a0 0 := bt_at a0 0; clear p7; have qi7 : (0 < (a0.size : Int)) = True := eq_true (xod); replace q7 := eq_true q7)); try go_wp2_with (first | ((with_reducible refine gate_dst (N := 7) rfl ?_); refine xev 7 #[.int .u8 0, .int .u8 0, .int .u8 0, .int .u8 0, .int .u8 0] 51 ?_; intro gb106 hg w31 hbox hb; have BK106 := Aside0.mk (hbox); have GW106 := xsz hg; have GE106 := GW106; replace HB := xst hb; clear hb hbox hg; obtain ⟨hcz32_0, hcz32_1, hcz32_2, hcz32_3, hcz32_4⟩ := xc5 BK106; have hfz32_0 := xf BK106 0; have hfz32_1 := xf BK106 1; have hfz32_2 := xf BK106 2; have hfz32_3 := xf BK106 3; have hfz32_4 := xf BK106 4; have p7 : 0 ≤ (0 : Int) := (by omega); have q7 : 0 < a0.size := (by have : (0 : Int) < (a0.size : Int) := xod; omega); have hx7 : ∀ h : 0 < a0.size, ((a0[0]'h).toNat : Int) = bt a0 0 := bt_at a0 0; clear p7; have qi7 : (0 < (a0.size : Int)) = True := eq_true (xod); replace q7 := eq_true q7)))
          go_loopg [2, 8] kj2 (fun kq v2 v8 w' => ∃ (x2_2 : Int) (x8_2 : Int), v2 = .int .i32 x2_2 ∧ v8 = .int .i64 x8_2 ∧ Aside0 (utf_Decode.l0 kq a0 x2_2 3 x8_2 = some (r1, r2, r3)) ∧ Aside0 (kq ≤ kj2) ∧ Aside0 (w'.heap[gb106]? = some (.cells #[.int .u8 0, .int .u8 127, .int .u8 31, .int .u8 15, .int .u8 7] 51 (0, 0))) ∧ Aside0 (Below w.heap.size w w'))
          case atStart => exact ⟨(wrap32 (Go.bits .and .u8 (bt a0 0) 15)), (1), xrr, xrr, H', ⟨Nat.le_refl _⟩, ⟨by (with_reducible repeat (first | refine blk_drewN ?_ _ | refine blk_drew ?_ | refine blk_alloc ?_ _)); refine blk_put (cs := #[.int .u8 0, .int .u8 127, .int .u8 31, .int .u8 15, .int .u8 0]) ?_ 4 _ rfl; (with_reducible repeat (first | refine blk_drewN ?_ _ | refine blk_drew ?_ | refine blk_alloc ?_ _)); refine blk_put (cs := #[.int .u8 0, .int .u8 127, .int .u8 31, .int .u8 0, .int .u8 0]) ?_ 3 _ rfl; (with_reducible repeat (first | refine blk_drewN ?_ _ | refine blk_drew ?_ | refine blk_alloc ?_ _)); refine blk_put (cs := #[.int .u8 0, .int .u8 127, .int .u8 0, .int .u8 0, .int .u8 0]) ?_ 2 _ rfl; (with_reducible repeat (first | refine blk_drewN ?_ _ | refine blk_drew ?_ | refine blk_alloc ?_ _)); refine blk_put (cs := #[.int .u8 0, .int .u8 0, .int .u8 0, .int .u8 0, .int .u8 0]) ?_ 1 _ rfl; (with_reducible repeat (first | refine blk_drewN ?_ _ | refine blk_drew ?_ | refine blk_alloc ?_ _)); refine blk_put (cs := #[.int .u8 0, .int .u8 0, .int .u8 0, .int .u8 0, .int .u8 0]) ?_ 0 _ rfl; (with_reducible repeat (first | refine blk_drewN ?_ _ | refine blk_drew ?_ | refine blk_alloc ?_ _)); exact BK106.out⟩, ⟨xbl⟩⟩
          case round =>
           clear H'
           try clear p7
           try clear q7
           try clear hx7
           try clear qi7
           obtain ⟨x2_2, x8_2, rfl, rfl, HA, HK2, BK106, HB⟩ := hrel
           cases gk with
           | zero => exact absurd HA.out (by simp [utf_Decode.l0])
           | succ k2 =>
            have H := HA.out
            clear HA
            simp only [utf_Decode.l0] at H
            by_cases c33 : x8_2 < 3
            ·
             rw [if_pos c33] at H
             have c33b0 := decide_eq_true c33
             clear c33
             by_cases c34 : 0 ≤ x8_2
             ·
              rw [if_pos c34] at H
              have c34b0 := decide_eq_true c34
              clear c34
              by_cases c35 : x8_2 < (a0.size : Int)
              ·
               rw [if_pos c35] at H
               have c35b0 := decide_eq_true c35
               clear c35
               have H' := Aside0.mk H
               clear H
               have p36 : 0 ≤ (x8_2 : Int) := xod
               have q36 : x8_2 < (a0.size : Int) := xod
               have hx36 := bt_at a0 x8_2
               replace p36 := eq_true p36
               replace q36 := eq_true q36
               try (have q36x := q36; simp only [ByteArray.size_extract, Nat.min_self] at q36x)
               go_wp2
               repeat (go_quiet (fail); try go_wp2)
               go_roundg k2
               case measure => have := HJ2.out; have := HK2.out; omega
               case rel => exact ⟨(Go.bits .or .i32 (wrap32 (x2_2 * 64)) (wrap32 (Go.bits .and .u8 (bt a0 x8_2) 63))), (wrap64 (x8_2 + 1)), xrr, xrr, H', ⟨by have := HJ2.out; have := HK2.out; omega⟩, ⟨xbk⟩, ⟨xbl⟩⟩
              ·
               rw [if_neg c35] at H
               exact absurd H (by simp)
             ·
              rw [if_neg c34] at H
              exact absurd H (by simp)
            ·
             rw [if_neg c33] at H
             have c33b0 := decide_eq_false c33
             clear c33
             simp only [Option.some.injEq, Prod.mk.injEq] at H
             obtain ⟨rfl, rfl, rfl⟩ := H
             go_wp2
             repeat (go_quiet (fail); try go_wp2)
             go_ret3
             exact ⟨xre, xbl⟩
         ·
          rw [if_neg c30] at H
          clear c30
          by_cases c37 : t105 = 4
          ·
           subst c37
           rw [if_pos rfl] at H
           have H' := Aside0.mk H
           clear H
           go_wp2_with (first | ((with_reducible refine gate_dst (N := 7) rfl ?_); refine xev 7 #[.int .u8 0, .int .u8 0, .int .u8 0, .int .u8 0, .int .u8 0] 51 ?_; intro gb106 hg w38 hbox hb; have BK106 := Aside0.mk (hbox); have GW106 := xsz hg; have GE106 := GW106; replace HB := xst hb; clear hb hbox hg; obtain ⟨hcz39_0, hcz39_1, hcz39_2, hcz39_3, hcz39_4⟩ := xc5 BK106; have hfz39_0 := xf BK106 0; have hfz39_1 := xf BK106 1; have hfz39_2 := xf BK106 2; have hfz39_3 := xf BK106 3; have hfz39_4 := xf BK106 4; have p7 : 0 ≤ (0 : Int) := (by omega); have q7 : 0 < a0.size := (by have : (0 : Int) < (a0.size : Int) := xod; omega); have hx7 : ∀ h : 0 < a0.size, ((a0[0]'h).toNat : Int) = bt a0 0 := bt_at a0 0; clear p7; have qi7 : (0 < (a0.size : Int)) = True := eq_true (xod); replace q7 := eq_true q7))
           repeat (go_quiet (first | ((with_reducible refine gate_dst (N := 7) rfl ?_); refine xev 7 #[.int .u8 0, .int .u8 0, .int .u8 0, .int .u8 0, .int .u8 0] 51 ?_; intro gb106 hg w38 hbox hb; have BK106 := Aside0.mk (hbox); have GW106 := xsz hg; have GE106 := GW106; replace HB := xst hb; clear hb hbox hg; obtain ⟨hcz39_0, hcz39_1, hcz39_2, hcz39_3, hcz39_4⟩ := xc5 BK106; have hfz39_0 := xf BK106 0; have hfz39_1 := xf BK106 1; have hfz39_2 := xf BK106 2; have hfz39_3 := xf BK106 3; have hfz39_4 := xf BK106 4; have p7 : 0 ≤ (0 : Int) := (by omega); have q7 : 0 < a0.size := (by have : (0 : Int) < (a0.size : Int) := xod; omega); have hx7 : ∀ h : 0 < a0.size, ((a0[0]'h).toNat : Int) = bt a0 0 := bt_at a0 0; clear p7; have qi7 : (0 < (a0.size : Int)) = True := eq_true (xod); replace q7 := eq_true q7)); try go_wp2_with (first | ((with_reducible refine gate_dst (N := 7) rfl ?_); refine xev 7 #[.int .u8 0, .int .u8 0, .int .u8 0, .int .u8 0, .int .u8 0] 51 ?_; intro gb106 hg w38 hbox hb; have BK106 := Aside0.mk (hbox); have GW106 := xsz hg; have GE106 := GW106; replace HB := xst hb; clear hb hbox hg; obtain ⟨hcz39_0, hcz39_1, hcz39_2, hcz39_3, hcz39_4⟩ := xc5 BK106; have hfz39_0 := xf BK106 0; have hfz39_1 := xf BK106 1; have hfz39_2 := xf BK106 2; have hfz39_3 := xf BK106 3; have hfz39_4 := xf BK106 4; have p7 : 0 ≤ (0 : Int) := (by omega); have q7 : 0 < a0.size := (by have : (0 : Int) < (a0.size : Int) := xod; omega); have hx7 : ∀ h : 0 < a0.size, ((a0[0]'h).toNat : Int) = bt a0 0 := bt_at a0 0; clear p7; have qi7 : (0 < (a0.size : Int)) = True := eq_true (xod); replace q7 := eq_true q7)))
           go_loopg [2, 8] kj2 (fun kq v2 v8 w' => ∃ (x2_2 : Int) (x8_2 : Int), v2 = .int .i32 x2_2 ∧ v8 = .int .i64 x8_2 ∧ Aside0 (utf_Decode.l0 kq a0 x2_2 4 x8_2 = some (r1, r2, r3)) ∧ Aside0 (kq ≤ kj2) ∧ Aside0 (w'.heap[gb106]? = some (.cells #[.int .u8 0, .int .u8 127, .int .u8 31, .int .u8 15, .int .u8 7] 51 (0, 0))) ∧ Aside0 (Below w.heap.size w w'))
           case atStart => exact ⟨(wrap32 (Go.bits .and .u8 (bt a0 0) 7)), (1), xrr, xrr, H', ⟨Nat.le_refl _⟩, ⟨by (with_reducible repeat (first | refine blk_drewN ?_ _ | refine blk_drew ?_ | refine blk_alloc ?_ _)); refine blk_put (cs := #[.int .u8 0, .int .u8 127, .int .u8 31, .int .u8 15, .int .u8 0]) ?_ 4 _ rfl; (with_reducible repeat (first | refine blk_drewN ?_ _ | refine blk_drew ?_ | refine blk_alloc ?_ _)); refine blk_put (cs := #[.int .u8 0, .int .u8 127, .int .u8 31, .int .u8 0, .int .u8 0]) ?_ 3 _ rfl; (with_reducible repeat (first | refine blk_drewN ?_ _ | refine blk_drew ?_ | refine blk_alloc ?_ _)); refine blk_put (cs := #[.int .u8 0, .int .u8 127, .int .u8 0, .int .u8 0, .int .u8 0]) ?_ 2 _ rfl; (with_reducible repeat (first | refine blk_drewN ?_ _ | refine blk_drew ?_ | refine blk_alloc ?_ _)); refine blk_put (cs := #[.int .u8 0, .int .u8 0, .int .u8 0, .int .u8 0, .int .u8 0]) ?_ 1 _ rfl; (with_reducible repeat (first | refine blk_drewN ?_ _ | refine blk_drew ?_ | refine blk_alloc ?_ _)); refine blk_put (cs := #[.int .u8 0, .int .u8 0, .int .u8 0, .int .u8 0, .int .u8 0]) ?_ 0 _ rfl; (with_reducible repeat (first | refine blk_drewN ?_ _ | refine blk_drew ?_ | refine blk_alloc ?_ _)); exact BK106.out⟩, ⟨xbl⟩⟩
           case round =>
            clear H'
            try clear p7
            try clear q7
            try clear hx7
            try clear qi7
            obtain ⟨x2_2, x8_2, rfl, rfl, HA, HK2, BK106, HB⟩ := hrel
            cases gk with
            | zero => exact absurd HA.out (by simp [utf_Decode.l0])
            | succ k2 =>
             have H := HA.out
             clear HA
             simp only [utf_Decode.l0] at H
             by_cases c40 : x8_2 < 4
             ·
              rw [if_pos c40] at H
              have c40b0 := decide_eq_true c40
              clear c40
              by_cases c41 : 0 ≤ x8_2
              ·
               rw [if_pos c41] at H
               have c41b0 := decide_eq_true c41
               clear c41
               by_cases c42 : x8_2 < (a0.size : Int)
               ·
                rw [if_pos c42] at H
                have c42b0 := decide_eq_true c42
                clear c42
                have H' := Aside0.mk H
                clear H
                have p43 : 0 ≤ (x8_2 : Int) := xod
                have q43 : x8_2 < (a0.size : Int) := xod
                have hx43 := bt_at a0 x8_2
                replace p43 := eq_true p43
                replace q43 := eq_true q43
                try (have q43x := q43; simp only [ByteArray.size_extract, Nat.min_self] at q43x)
                go_wp2
                repeat (go_quiet (fail); try go_wp2)
                go_roundg k2
                case measure => have := HJ2.out; have := HK2.out; omega
                case rel => exact ⟨(Go.bits .or .i32 (wrap32 (x2_2 * 64)) (wrap32 (Go.bits .and .u8 (bt a0 x8_2) 63))), (wrap64 (x8_2 + 1)), xrr, xrr, H', ⟨by have := HJ2.out; have := HK2.out; omega⟩, ⟨xbk⟩, ⟨xbl⟩⟩
               ·
                rw [if_neg c42] at H
                exact absurd H (by simp)
              ·
               rw [if_neg c41] at H
               exact absurd H (by simp)
             ·
              rw [if_neg c40] at H
              have c40b0 := decide_eq_false c40
              clear c40
              simp only [Option.some.injEq, Prod.mk.injEq] at H
              obtain ⟨rfl, rfl, rfl⟩ := H
              go_wp2
              repeat (go_quiet (fail); try go_wp2)
              go_ret3
              exact ⟨xre, xbl⟩
          ·
           rw [if_neg c37] at H
           clear c37
           exact absurd H (by simp)
     ·
      rw [if_neg c8] at H
      exact absurd H (by simp)
    ·
     rw [if_neg c6] at H
     exact absurd H (by simp)
def utf_Fault.l0 : Nat → ByteArray → Nat → Option Int
  | 0, _, _ => none
  | k + 1, s, pos => if pos < s.size then (if ((Utf8.decode s pos).1 : Int) = 65533 then (utf_Decode.f k (s.extract pos s.size)).bind fun d => (if d.2.2 = true then utf_Fault.l0 k s (pos + (Utf8.decode s pos).2) else some (pos : Int)) else utf_Fault.l0 k s (pos + (Utf8.decode s pos).2)) else some (-1)
def utf_Fault.f (k : Nat) (a0 : ByteArray) : Option Int := utf_Fault.l0 k a0 0
theorem utf_Fault.mono_l : ∀ k y0 y1, LeO (utf_Fault.l0 k y0 y1) (utf_Fault.l0 (k + 1) y0 y1)
  | 0 => fun _ _ r h => by simp [utf_Fault.l0] at h
  | k + 1 => by
    intro y0 y1
    unfold utf_Fault.l0
    exact LeO.ite (LeO.ite (LeO.bind (utf_Decode.mono _ _) (fun d => LeO.ite (utf_Fault.mono_l k _ _) (LeO.refl _))) (utf_Fault.mono_l k _ _)) (LeO.refl _)
theorem utf_Fault.mono : ∀ a0 k, LeO (utf_Fault.f k a0) (utf_Fault.f (k + 1) a0) := fun a0 k => utf_Fault.mono_l k a0 0
set_option maxHeartbeats 4000000 in
set_option maxRecDepth 100000 in
theorem utf_Fault.calls (k : Nat) (a0 : ByteArray) (r : Int) (w : World) (h : utf_Fault.f k a0 = some r) :
    Calls Tryd.prog 11 #[.string a0] w fun e w' => e = .returned (.int .i64 r) ∧ Below w.heap.size w w' := by
  have H' := Aside0.mk (show utf_Fault.l0 k a0 0 = some r from h)
  clear h
  go_enter Tryd.func11, Tryd.ntmps11
  go_wp2
  go_loopg [3] k (fun kq v3 wr => ∃ pos : Nat, Aside0 (utf_Fault.l0 kq a0 pos = some r) ∧ Aside0 (kq ≤ k) ∧ Aside0 (wr.heap[w.heap.size]? = some (.stringIter a0 pos)) ∧ Aside0 (Below w.heap.size w wr))
  case atStart => exact ⟨0, H', ⟨Nat.le_refl _⟩, ⟨World.iter_heap w a0 0⟩, ⟨(Below.refl _ _).alloc (Nat.le_refl _) _⟩⟩
  case round =>
    clear H'
    obtain ⟨pos, HA, HK, HI, HB⟩ := hrel
    cases gk with
    | zero => exact absurd HA.out (by simp [utf_Fault.l0])
    | succ k1 =>
      have H := HA.out
      clear HA
      simp only [utf_Fault.l0] at H
      by_cases hp : pos < a0.size
      · rw [if_pos hp] at H
        have hnx : ∀ ty, (Instr.next (.pointer (some ⟨w.heap.size, 0, none⟩)) true ty).run Tryd.prog wr = _ := fun ty => Lib.run_next_any_at wr w.heap.size a0 pos ty HI.out hp
        have HI2 := Aside0.mk (Lib.iterAt_heap wr w.heap.size a0 pos (pos + (Utf8.decode a0 pos).2) HI.out)
        have HB2 := Aside0.mk (Lib.below_iterAt HB.out (k := w.heap.size) (Nat.le_refl _) a0 (pos + (Utf8.decode a0 pos).2))
        obtain ⟨W1, hW1⟩ : ∃ W1, W1 = wr.iterAt w.heap.size a0 (pos + (Utf8.decode a0 pos).2) := ⟨_, rfl⟩
        rw [← hW1] at hnx HI2 HB2
        clear hW1 HI HB
        by_cases hc : ((Utf8.decode a0 pos).1 : Int) = 65533
        · rw [if_pos hc] at H
          obtain ⟨⟨d1, d2, d3⟩, HD0, H⟩ := Option.bind_eq_some_iff.1 H
          simp only at H
          have HD := Aside0.mk HD0
          clear HD0
          have hq0 : (0 : Int) ≤ (pos : Int) := Int.natCast_nonneg _
          have hq1 : (pos : Int) ≤ (a0.size : Int) := by omega
          have hb0 : (((Utf8.decode a0 pos).1 : Int) == 65533) = true := beq_iff_eq.2 hc
          have hb1 : (((Utf8.decode a0 pos).1 : Int) != 65533) = false := by rw [bne, hb0]; rfl
          generalize ((Utf8.decode a0 pos).1 : Int) = cc at hnx hb0 hb1
          clear hc
          cases d3 with
          | true =>
            rw [if_pos rfl] at H
            have H' := Aside0.mk H
            clear H
            go_wp2_with (first | (go_at_call 16; (with_reducible refine (utf_Decode.calls k1 (a0.extract pos a0.size) d1 d2 true _ HD.out).mono ?_); rintro e w2 ⟨rfl, hb⟩; replace HI2 := Aside0.mk ((hb.block _ (by have := (Array.getElem?_eq_some_iff.1 HI2.out).1; omega)).trans HI2.out); replace HB2 := Aside0.mk (HB2.out.trans (hb.mono HB2.out.size)); clear hb))
            go_roundg k1
            case measure => have := HK.out; omega
            case rel => exact ⟨_, H', ⟨by have := HK.out; omega⟩, HI2, HB2⟩
          | false =>
            rw [if_neg (by simp)] at H
            obtain rfl := Option.some.inj H
            go_wp2_with (first | (go_at_call 16; (with_reducible refine (utf_Decode.calls k1 (a0.extract pos a0.size) d1 d2 false _ HD.out).mono ?_); rintro e w2 ⟨rfl, hb⟩; replace HB2 := Aside0.mk (HB2.out.trans (hb.mono HB2.out.size)); clear hb))
            go_ret
            exact ⟨rfl, HB2.out⟩
        · rw [if_neg hc] at H
          have hb0 : (((Utf8.decode a0 pos).1 : Int) == 65533) = false := by simpa using hc
          have hb1 : (((Utf8.decode a0 pos).1 : Int) != 65533) = true := by rw [bne, hb0]; rfl
          generalize ((Utf8.decode a0 pos).1 : Int) = cc at hnx hb0 hb1
          clear hc
          have H' := Aside0.mk H
          clear H
          go_wp2
          go_roundg k1
          case measure => have := HK.out; omega
          case rel => exact ⟨_, H', ⟨by have := HK.out; omega⟩, HI2, HB2⟩
      · rw [if_neg hp] at H
        obtain rfl := Option.some.inj H
        have hnx : ∀ ty, (Instr.next (.pointer (some ⟨w.heap.size, 0, none⟩)) true ty).run Tryd.prog wr = _ := fun ty => Lib.run_next_end_at wr w.heap.size a0 pos ty HI.out hp
        go_wp2
        go_ret
        exact ⟨rfl, HB.out⟩
def utf_Valid.f (k : Nat) (a0 : ByteArray) : Option (Bool) := (utf_Fault.f k a0).bind fun t107 => (some (decide (t107 < 0)))
theorem utf_Valid.mono : ∀ a0 k, LeO (utf_Valid.f k a0) (utf_Valid.f (k + 1) a0) := by
  intro a0 k
  have m0 := @utf_Fault.mono
  unfold utf_Valid.f
  exact xmo
set_option maxHeartbeats 8000000 in
set_option maxRecDepth 100000 in
theorem utf_Valid.calls (k : Nat) (a0 : ByteArray) (r : Bool) (w : World) (h : utf_Valid.f k a0 = some r) :
    Calls Tryd.prog 7 #[.string a0] w fun e w' => e = .returned (.bool r) ∧ Below w.heap.size w w' := by
 have HB := Aside0.mk (Below.refl w.heap.size w)
 have H : ((utf_Fault.f k a0).bind fun t107 => (some (decide (t107 < 0)))) = some r := h
 clear h
 replace H := Option.bind_eq_some_iff.mp H
 obtain ⟨t107, A20, H⟩ := H
 try dsimp only at H
 have A2 := Aside0.mk A20
 clear A20
 obtain rfl := Option.some.inj H
 go_enter Tryd.func7, Tryd.ntmps7
 go_wp2_with (first | ((with_reducible refine gate_callee (f := 11) rfl ?_); refine xgl 4 Tryd.func11 #[.string a0] ?_; (with_reducible refine (utf_Fault.calls k a0 t107 _ A2.out).mono ?_); rintro e w3 ⟨rfl, hb⟩; refine ⟨_, rfl, ?_⟩; replace HB := xst hb; (try clear hb)))
 go_ret
 exact ⟨xre, xbl⟩
mutual
def octet_Find.l0 : Nat → ByteArray → ByteArray → Int → Option (Int)
  | 0, _, _, _ => none
  | k + 1, x0, x2, x7 => if x7 < (x0.size : Int) then (octet_Find.l1 k x0 x2 x7 (x2.size : Int) 0) else (some (-1))
def octet_Find.l1 : Nat → ByteArray → ByteArray → Int → Int → Int → Option (Int)
  | 0, _, _, _, _, _ => none
  | k + 1, x0, x2, x7, x18, x19 => if x19 < x18 then (if 0 ≤ x7 then (if x7 < (x0.size : Int) then (if 0 ≤ x19 then (if x19 < (x2.size : Int) then (if (bt x0 x7) = (bt x2 x19) then (some x7) else (octet_Find.l1 k x0 x2 x7 x18 (wrap64 (x19 + 1)))) else (none)) else (none)) else (none)) else (none)) else (octet_Find.l0 k x0 x2 (wrap64 (x7 + 1)))
end
def octet_Find.f (k : Nat) (a0 : ByteArray) (a1 : Int) (a2 : ByteArray) : Option (Int) := octet_Find.l0 k a0 a2 (mx a1 0)
theorem octet_Find.mono_l : ∀ k, (∀ y0 y1 y2, LeO (octet_Find.l0 k y0 y1 y2) (octet_Find.l0 (k + 1) y0 y1 y2)) ∧ (∀ y0 y1 y2 y3 y4, LeO (octet_Find.l1 k y0 y1 y2 y3 y4) (octet_Find.l1 (k + 1) y0 y1 y2 y3 y4))
  | 0 => ⟨fun _ _ _ r h => by simp [octet_Find.l0] at h, fun _ _ _ _ _ r h => by simp [octet_Find.l1] at h⟩
  | k + 1 => by
    obtain ⟨ih0, ih1⟩ := octet_Find.mono_l k
    refine ⟨?_, ?_⟩
    · intro y0 y1 y2
      unfold octet_Find.l0
      exact xmo
    · intro y0 y1 y2 y3 y4
      unfold octet_Find.l1
      exact xmo
theorem octet_Find.mono : ∀ a0 a1 a2 k, LeO (octet_Find.f k a0 a1 a2) (octet_Find.f (k + 1) a0 a1 a2) := by
  intro a0 a1 a2 k
  obtain ⟨ih0, ih1⟩ := octet_Find.mono_l k
  unfold octet_Find.f
  exact xmo
set_option maxHeartbeats 8000000 in
set_option maxRecDepth 100000 in
theorem octet_Find.calls (k : Nat) (a0 : ByteArray) (a1 : Int) (a2 : ByteArray) (r : Int) (w : World) (h : octet_Find.f k a0 a1 a2 = some r) :
    Calls Tryd.prog 17 #[.string a0, .int .i64 a1, .string a2] w fun e w' => e = .returned (.int .i64 r) ∧ Below w.heap.size w w' := by
 have HB := Aside0.mk (Below.refl w.heap.size w)
 have H : (octet_Find.l0 k a0 a2 (mx a1 0)) = some r := h
 clear h
 obtain ⟨ji4, hji4⟩ : ∃ j_ : Int, (mx a1 0) = j_ := ⟨_, rfl⟩
 first | rw [hji4] at H | simp only [hji4] at H | skip
 (try (have hji4l : 0 ≤ ji4 := by (rw [← hji4]; unfold mx; (repeat' split) <;> omega)))
 (try (have hji4m : 0 ≤ ji4 := by omega))
 have hji4_ : (if a1 < 0 then 0 else a1) = ji4 := hji4
 have H' := Aside0.mk H
 clear H
 go_enter Tryd.func17, Tryd.ntmps17
 go_wp2
 repeat (go_quiet (fail); try go_wp2)
 go_loopg [7] k (fun kq v7 w' => ∃ (x7_1 : Int), v7 = .int .i64 x7_1 ∧ Aside0 (octet_Find.l0 kq a0 a2 x7_1 = some r) ∧ Aside0 (kq ≤ k) ∧ Aside0 (Below w.heap.size w w'))
 case atStart => exact ⟨(ji4), (by first | rfl | (simp; done) | (simp only [← hji4] <;> (first | rfl | simp)) | (simp [*]; done) | (simp [wrap64]; done)), H', ⟨Nat.le_refl _⟩, ⟨xbl⟩⟩
 case round =>
  clear H'
  obtain ⟨x7_1, rfl, HA, HK1, HB⟩ := hrel
  cases gk with
  | zero => exact absurd HA.out (by simp [octet_Find.l0])
  | succ k1 =>
   have H := HA.out
   clear HA
   simp only [octet_Find.l0] at H
   by_cases c5 : x7_1 < (a0.size : Int)
   ·
    rw [if_pos c5] at H
    have c5b0 := decide_eq_true c5
    clear c5
    have H' := Aside0.mk H
    clear H
    go_wp2
    repeat (go_quiet (fail); try go_wp2)
    go_loopg [19] k1 (fun kq v19 w' => ∃ (x19_2 : Int), v19 = .int .i64 x19_2 ∧ Aside0 (octet_Find.l1 kq a0 a2 x7_1 (a2.size : Int) x19_2 = some r) ∧ Aside0 (kq ≤ k1) ∧ Aside0 (Below w.heap.size w w'))
    case atStart => exact ⟨(0), xrr, H', ⟨Nat.le_refl _⟩, ⟨xbl⟩⟩
    case round =>
     clear H'
     clear c5b0
     obtain ⟨x19_2, rfl, HA, HK2, HB⟩ := hrel
     cases gk with
     | zero => exact absurd HA.out (by simp [octet_Find.l1])
     | succ k2 =>
      have H := HA.out
      clear HA
      simp only [octet_Find.l1] at H
      by_cases c6 : x19_2 < (a2.size : Int)
      ·
       rw [if_pos c6] at H
       have c6b0 := decide_eq_true c6
       clear c6
       by_cases c7 : 0 ≤ x7_1
       ·
        rw [if_pos c7] at H
        have c7b0 := decide_eq_true c7
        clear c7
        by_cases c8 : x7_1 < (a0.size : Int)
        ·
         rw [if_pos c8] at H
         have c8b0 := decide_eq_true c8
         clear c8
         by_cases c10 : 0 ≤ x19_2
         ·
          rw [if_pos c10] at H
          have c10b0 := decide_eq_true c10
          clear c10
          by_cases c11 : x19_2 < (a2.size : Int)
          ·
           rw [if_pos c11] at H
           have c11b0 := decide_eq_true c11
           clear c11
           by_cases c13 : (bt a0 x7_1) = (bt a2 x19_2)
           ·
            rw [if_pos c13] at H
            have c13b0 : ((bt a0 x7_1) == (bt a2 x19_2)) = true := beq_iff_eq.mpr c13
            have c13b1 : ((bt a0 x7_1) != (bt a2 x19_2)) = false := bne_eq_false_iff_eq.mpr c13
            clear c13
            obtain rfl := Option.some.inj H
            have p9 : 0 ≤ (x7_1 : Int) := xod
            have q9 : x7_1 < (a0.size : Int) := xod
            have hx9 := bt_at a0 x7_1
            replace p9 := eq_true p9
            replace q9 := eq_true q9
            try (have q9x := q9; simp only [ByteArray.size_extract, Nat.min_self] at q9x)
            have p12 : 0 ≤ (x19_2 : Int) := xod
            have q12 : x19_2 < (a2.size : Int) := xod
            have hx12 := bt_at a2 x19_2
            replace p12 := eq_true p12
            replace q12 := eq_true q12
            try (have q12x := q12; simp only [ByteArray.size_extract, Nat.min_self] at q12x)
            go_wp2
            repeat (go_quiet (fail); try go_wp2)
            go_ret
            exact ⟨by first | rfl | (simp [errW_none, errW_some] <;> first | rfl | (simp only [xp_isEmpty, bne, Bool.not_not]; done)) | (simp only [← hji4]; first | rfl | (simp [errW_none, errW_some] <;> rfl)) | (simp [*, errW_none, errW_some] <;> rfl), xbl⟩
           ·
            rw [if_neg c13] at H
            have c13b0 : ((bt a0 x7_1) == (bt a2 x19_2)) = false := beq_eq_false_iff_ne.mpr c13
            have c13b1 : ((bt a0 x7_1) != (bt a2 x19_2)) = true := bne_iff_ne.mpr c13
            have H' := Aside0.mk H
            clear H
            have p9 : 0 ≤ (x7_1 : Int) := xod
            have q9 : x7_1 < (a0.size : Int) := xod
            have hx9 := bt_at a0 x7_1
            replace p9 := eq_true p9
            replace q9 := eq_true q9
            try (have q9x := q9; simp only [ByteArray.size_extract, Nat.min_self] at q9x)
            have p12 : 0 ≤ (x19_2 : Int) := xod
            have q12 : x19_2 < (a2.size : Int) := xod
            have hx12 := bt_at a2 x19_2
            replace p12 := eq_true p12
            replace q12 := eq_true q12
            try (have q12x := q12; simp only [ByteArray.size_extract, Nat.min_self] at q12x)
            go_wp2
            repeat (go_quiet (fail); try go_wp2)
            go_roundg k2
            case measure => have := HK1.out; have := HK2.out; omega
            case rel => exact ⟨(wrap64 (x19_2 + 1)), xrr, H', ⟨by have := HK1.out; have := HK2.out; omega⟩, ⟨xbl⟩⟩
          ·
           rw [if_neg c11] at H
           exact absurd H (by simp)
         ·
          rw [if_neg c10] at H
          exact absurd H (by simp)
        ·
         rw [if_neg c8] at H
         exact absurd H (by simp)
       ·
        rw [if_neg c7] at H
        exact absurd H (by simp)
      ·
       rw [if_neg c6] at H
       have c6b0 := decide_eq_false c6
       clear c6
       have H' := Aside0.mk H
       clear H
       go_wp2
       repeat (go_quiet (fail); try go_wp2)
       go_roundg k2
       case measure => have := HK1.out; have := HK2.out; omega
       case rel => exact ⟨(wrap64 (x7_1 + 1)), xrr, H', ⟨by have := HK1.out; have := HK2.out; omega⟩, ⟨xbl⟩⟩
   ·
    rw [if_neg c5] at H
    have c5b0 := decide_eq_false c5
    clear c5
    obtain rfl := Option.some.inj H
    go_wp2
    repeat (go_quiet (fail); try go_wp2)
    go_ret
    exact ⟨by first | rfl | (simp [errW_none, errW_some] <;> first | rfl | (simp only [xp_isEmpty, bne, Bool.not_not]; done)) | (simp only [← hji4]; first | rfl | (simp [errW_none, errW_some] <;> rfl)) | (simp [*, errW_none, errW_some] <;> rfl), xbl⟩
end Go.Proofs.YtpmflpeckoeooaaDoor.X
namespace Go.Proofs.YtpmflpeckoeooaaDoor.X
open Go.RowKit Go.Proofs.YtpmflpeckoeooaaDoorW.PrintWords Go.Proofs.YtpmflpeckoeooaaDoorW.PrintLast Go.Proofs.YtpmflpeckoeooaaDoorW.PrintMore
attribute [local go_sem] xj_then_goto xj_block_goto xj_normal xj_exit xj_ret xj_panic xj_goto max2_int min2_int max_two min_two max_three min_three max_four min_four
set_option linter.unusedVariables false
set_option linter.unusedSimpArgs false
mutual
def octet_sign.j0 : Nat → Int → Bool → Option (Int)
  | 0, _, _ => none
  | k + 1, x3, x4 => if x4 = true then (some 4) else (if x3 = 33 then (octet_sign.j1 k x3 (x3 == 33)) else (if x3 = 36 then (octet_sign.j1 k x3 (x3 == 36)) else (if x3 = 38 then (octet_sign.j1 k x3 (x3 == 38)) else (if x3 = 39 then (octet_sign.j1 k x3 (x3 == 39)) else (if x3 = 40 then (octet_sign.j1 k x3 (x3 == 40)) else (if x3 = 41 then (octet_sign.j1 k x3 (x3 == 41)) else (if x3 = 42 then (octet_sign.j1 k x3 (x3 == 42)) else (if x3 = 43 then (octet_sign.j1 k x3 (x3 == 43)) else (if x3 = 44 then (octet_sign.j1 k x3 (x3 == 44)) else (if x3 = 59 then (octet_sign.j1 k x3 (x3 == 59)) else (octet_sign.j1 k x3 (x3 == 61))))))))))))
def octet_sign.j1 : Nat → Int → Bool → Option (Int)
  | 0, _, _ => none
  | k + 1, x3, x9 => if x9 = true then (some 8) else (if x3 = 58 then (some 16) else (if x3 = 47 then (some 16) else (if x3 = 63 then (some 16) else (if x3 = 35 then (some 16) else (if x3 = 91 then (some 16) else (if x3 = 93 then (some 16) else (if x3 = 64 then (some 16) else (some 0))))))))
end
def octet_sign.f (k : Nat) (a0 : Int) : Option (Int) := if a0 = 45 then (octet_sign.j0 k a0 (a0 == 45)) else (if a0 = 46 then (octet_sign.j0 k a0 (a0 == 46)) else (if a0 = 95 then (octet_sign.j0 k a0 (a0 == 95)) else (octet_sign.j0 k a0 (a0 == 126))))
theorem octet_sign.mono_l : ∀ k, (∀ y0 y1, LeO (octet_sign.j0 k y0 y1) (octet_sign.j0 (k + 1) y0 y1)) ∧ (∀ y0 y1, LeO (octet_sign.j1 k y0 y1) (octet_sign.j1 (k + 1) y0 y1))
  | 0 => ⟨fun _ _ r h => by simp [octet_sign.j0] at h, fun _ _ r h => by simp [octet_sign.j1] at h⟩
  | k + 1 => by
    obtain ⟨ih0, ih1⟩ := octet_sign.mono_l k
    refine ⟨?_, ?_⟩
    · intro y0 y1
      unfold octet_sign.j0
      exact xmo
    · intro y0 y1
      unfold octet_sign.j1
      exact xmo
theorem octet_sign.mono : ∀ a0 k, LeO (octet_sign.f k a0) (octet_sign.f (k + 1) a0) := by
  intro a0 k
  obtain ⟨ih0, ih1⟩ := octet_sign.mono_l k
  unfold octet_sign.f
  exact xmo
set_option maxHeartbeats 8000000 in
set_option maxRecDepth 100000 in
theorem octet_sign.calls (k : Nat) (a0 : Int) (r : Int) (w : World) (h : octet_sign.f k a0 = some r) :
    Calls Tryd.prog 39 #[.int .u8 a0] w fun e w' => e = .returned (.int .i64 r) ∧ Drawn0 w w' := by
 have H : (if a0 = 45 then (octet_sign.j0 k a0 (a0 == 45)) else (if a0 = 46 then (octet_sign.j0 k a0 (a0 == 46)) else (if a0 = 95 then (octet_sign.j0 k a0 (a0 == 95)) else (octet_sign.j0 k a0 (a0 == 126))))) = some r := h
 clear h
 have HC2 := Aside0.mk H
 clear H
 go_enter Tryd.func39, Tryd.ntmps39
 go_upto_if 4 with (fail)
 go_cut [4] (fun v4 wc => ∃ (kq : Nat) (x4_1 : Bool), v4 = .bool x4_1 ∧ Aside0 (octet_sign.j0 kq a0 x4_1 = some r) ∧ Aside0 (kq ≤ k) ∧ Drawn0 w wc)
 case first =>
  have H := HC2.out
  clear HC2
  by_cases c3 : a0 = 45
  ·
   rw [if_pos c3] at H
   have c3b0 : (a0 == 45) = true := beq_iff_eq.mpr c3
   have c3b1 : (a0 != 45) = false := bne_eq_false_iff_eq.mpr c3
   clear c3
   (first | rw [c3b0] | (simp only [i64_w, i32_w]; rw [c3b0]) | (rw [c3b2]; (try simp only [Bool.not_false, Bool.not_true])) | (rw [c3b3]; (try simp only [Bool.not_false, Bool.not_true])) | skip)
   have H' := Aside0.mk H
   clear H
   go_wp2
   go_meet
   case rel => exact ⟨_, ((a0 == 45)), xrr, H', ⟨xom⟩, xdr⟩
  ·
   rw [if_neg c3] at H
   have c3b0 : (a0 == 45) = false := beq_eq_false_iff_ne.mpr c3
   have c3b1 : (a0 != 45) = true := bne_iff_ne.mpr c3
   (first | rw [c3b0] | (simp only [i64_w, i32_w]; rw [c3b0]) | (rw [c3b2]; (try simp only [Bool.not_false, Bool.not_true])) | (rw [c3b3]; (try simp only [Bool.not_false, Bool.not_true])) | skip)
   by_cases c4 : a0 = 46
   ·
    rw [if_pos c4] at H
    have c4b0 : (a0 == 46) = true := beq_iff_eq.mpr c4
    have c4b1 : (a0 != 46) = false := bne_eq_false_iff_eq.mpr c4
    clear c4
    have H' := Aside0.mk H
    clear H
    go_wp2
    go_meet
    case rel => exact ⟨_, ((a0 == 46)), xrr, H', ⟨xom⟩, xdr⟩
   ·
    rw [if_neg c4] at H
    have c4b0 : (a0 == 46) = false := beq_eq_false_iff_ne.mpr c4
    have c4b1 : (a0 != 46) = true := bne_iff_ne.mpr c4
    by_cases c5 : a0 = 95
    ·
     rw [if_pos c5] at H
     have c5b0 : (a0 == 95) = true := beq_iff_eq.mpr c5
     have c5b1 : (a0 != 95) = false := bne_eq_false_iff_eq.mpr c5
     clear c5
     have H' := Aside0.mk H
     clear H
     go_wp2
     go_meet
     case rel => exact ⟨_, ((a0 == 95)), xrr, H', ⟨xom⟩, xdr⟩
    ·
     rw [if_neg c5] at H
     have c5b0 : (a0 == 95) = false := beq_eq_false_iff_ne.mpr c5
     have c5b1 : (a0 != 95) = true := bne_iff_ne.mpr c5
     have H' := Aside0.mk H
     clear H
     go_wp2
     go_meet
     case rel => exact ⟨_, ((a0 == 126)), xrr, H', ⟨xom⟩, xdr⟩
 case rest =>
  clear HC2
  obtain ⟨kq, x4_1, rfl, HA, HJ1, ⟨mc1, rfl⟩⟩ := hcut
  cases kq with
  | zero => exact absurd HA.out (by simp [octet_sign.j0])
  | succ kj1 =>
   have H := HA.out
   clear HA
   simp only [octet_sign.j0] at H
   by_cases c6 : x4_1 = true
   ·
    subst c6
    rw [if_pos rfl] at H
    obtain rfl := Option.some.inj H
    go_wp2
    go_ret
    exact ⟨xrr, xdr⟩
   ·
    replace c6 := Bool.eq_false_iff.mpr c6
    subst c6
    rw [if_neg (show ¬ (false = true) by decide)] at H
    have HC7 := Aside0.mk H
    clear H
    go_upto_if 9 with (fail)
    go_cut [9] (fun v9 wc => ∃ (kq : Nat) (x9_6 : Bool), v9 = .bool x9_6 ∧ Aside0 (octet_sign.j1 kq a0 x9_6 = some r) ∧ Aside0 (kq ≤ kj1) ∧ Drawn0 w wc)
    case first =>
     have H := HC7.out
     clear HC7
     by_cases c8 : a0 = 33
     ·
      rw [if_pos c8] at H
      have c8b0 : (a0 == 33) = true := beq_iff_eq.mpr c8
      have c8b1 : (a0 != 33) = false := bne_eq_false_iff_eq.mpr c8
      clear c8
      (first | rw [c8b0] | (simp only [i64_w, i32_w]; rw [c8b0]) | (rw [c8b2]; (try simp only [Bool.not_false, Bool.not_true])) | (rw [c8b3]; (try simp only [Bool.not_false, Bool.not_true])) | skip)
      have H' := Aside0.mk H
      clear H
      go_wp2
      go_meet
      case rel => exact ⟨_, ((a0 == 33)), xrr, H', ⟨by have := HJ1.out; first | omega | exact Nat.le_refl _⟩, xdr⟩
     ·
      rw [if_neg c8] at H
      have c8b0 : (a0 == 33) = false := beq_eq_false_iff_ne.mpr c8
      have c8b1 : (a0 != 33) = true := bne_iff_ne.mpr c8
      (first | rw [c8b0] | (simp only [i64_w, i32_w]; rw [c8b0]) | (rw [c8b2]; (try simp only [Bool.not_false, Bool.not_true])) | (rw [c8b3]; (try simp only [Bool.not_false, Bool.not_true])) | skip)
      by_cases c9 : a0 = 36
      ·
       rw [if_pos c9] at H
       have c9b0 : (a0 == 36) = true := beq_iff_eq.mpr c9
       have c9b1 : (a0 != 36) = false := bne_eq_false_iff_eq.mpr c9
       clear c9
       have H' := Aside0.mk H
       clear H
       go_wp2
       go_meet
       case rel => exact ⟨_, ((a0 == 36)), xrr, H', ⟨by have := HJ1.out; first | omega | exact Nat.le_refl _⟩, xdr⟩
      ·
       rw [if_neg c9] at H
       have c9b0 : (a0 == 36) = false := beq_eq_false_iff_ne.mpr c9
       have c9b1 : (a0 != 36) = true := bne_iff_ne.mpr c9
       by_cases c10 : a0 = 38
       ·
        rw [if_pos c10] at H
        have c10b0 : (a0 == 38) = true := beq_iff_eq.mpr c10
        have c10b1 : (a0 != 38) = false := bne_eq_false_iff_eq.mpr c10
        clear c10
        have H' := Aside0.mk H
        clear H
        go_wp2
        go_meet
        case rel => exact ⟨_, ((a0 == 38)), xrr, H', ⟨by have := HJ1.out; first | omega | exact Nat.le_refl _⟩, xdr⟩
       ·
        rw [if_neg c10] at H
        have c10b0 : (a0 == 38) = false := beq_eq_false_iff_ne.mpr c10
        have c10b1 : (a0 != 38) = true := bne_iff_ne.mpr c10
        by_cases c11 : a0 = 39
        ·
         rw [if_pos c11] at H
         have c11b0 : (a0 == 39) = true := beq_iff_eq.mpr c11
         have c11b1 : (a0 != 39) = false := bne_eq_false_iff_eq.mpr c11
         clear c11
         have H' := Aside0.mk H
         clear H
         go_wp2
         go_meet
         case rel => exact ⟨_, ((a0 == 39)), xrr, H', ⟨by have := HJ1.out; first | omega | exact Nat.le_refl _⟩, xdr⟩
        ·
         rw [if_neg c11] at H
         have c11b0 : (a0 == 39) = false := beq_eq_false_iff_ne.mpr c11
         have c11b1 : (a0 != 39) = true := bne_iff_ne.mpr c11
         by_cases c12 : a0 = 40
         ·
          rw [if_pos c12] at H
          have c12b0 : (a0 == 40) = true := beq_iff_eq.mpr c12
          have c12b1 : (a0 != 40) = false := bne_eq_false_iff_eq.mpr c12
          clear c12
          have H' := Aside0.mk H
          clear H
          go_wp2
          go_meet
          case rel => exact ⟨_, ((a0 == 40)), xrr, H', ⟨by have := HJ1.out; first | omega | exact Nat.le_refl _⟩, xdr⟩
         ·
          rw [if_neg c12] at H
          have c12b0 : (a0 == 40) = false := beq_eq_false_iff_ne.mpr c12
          have c12b1 : (a0 != 40) = true := bne_iff_ne.mpr c12
          by_cases c13 : a0 = 41
          ·
           rw [if_pos c13] at H
           have c13b0 : (a0 == 41) = true := beq_iff_eq.mpr c13
           have c13b1 : (a0 != 41) = false := bne_eq_false_iff_eq.mpr c13
           clear c13
           have H' := Aside0.mk H
           clear H
           go_wp2
           go_meet
           case rel => exact ⟨_, ((a0 == 41)), xrr, H', ⟨by have := HJ1.out; first | omega | exact Nat.le_refl _⟩, xdr⟩
          ·
           rw [if_neg c13] at H
           have c13b0 : (a0 == 41) = false := beq_eq_false_iff_ne.mpr c13
           have c13b1 : (a0 != 41) = true := bne_iff_ne.mpr c13
           by_cases c14 : a0 = 42
           ·
            rw [if_pos c14] at H
            have c14b0 : (a0 == 42) = true := beq_iff_eq.mpr c14
            have c14b1 : (a0 != 42) = false := bne_eq_false_iff_eq.mpr c14
            clear c14
            have H' := Aside0.mk H
            clear H
            go_wp2
            go_meet
            case rel => exact ⟨_, ((a0 == 42)), xrr, H', ⟨by have := HJ1.out; first | omega | exact Nat.le_refl _⟩, xdr⟩
           ·
            rw [if_neg c14] at H
            have c14b0 : (a0 == 42) = false := beq_eq_false_iff_ne.mpr c14
            have c14b1 : (a0 != 42) = true := bne_iff_ne.mpr c14
            by_cases c15 : a0 = 43
            ·
             rw [if_pos c15] at H
             have c15b0 : (a0 == 43) = true := beq_iff_eq.mpr c15
             have c15b1 : (a0 != 43) = false := bne_eq_false_iff_eq.mpr c15
             clear c15
             have H' := Aside0.mk H
             clear H
             go_wp2
             go_meet
             case rel => exact ⟨_, ((a0 == 43)), xrr, H', ⟨by have := HJ1.out; first | omega | exact Nat.le_refl _⟩, xdr⟩
            ·
             rw [if_neg c15] at H
             have c15b0 : (a0 == 43) = false := beq_eq_false_iff_ne.mpr c15
             have c15b1 : (a0 != 43) = true := bne_iff_ne.mpr c15
             by_cases c16 : a0 = 44
             ·
              rw [if_pos c16] at H
              have c16b0 : (a0 == 44) = true := beq_iff_eq.mpr c16
              have c16b1 : (a0 != 44) = false := bne_eq_false_iff_eq.mpr c16
              clear c16
              have H' := Aside0.mk H
              clear H
              go_wp2
              go_meet
              case rel => exact ⟨_, ((a0 == 44)), xrr, H', ⟨by have := HJ1.out; first | omega | exact Nat.le_refl _⟩, xdr⟩
             ·
              rw [if_neg c16] at H
              have c16b0 : (a0 == 44) = false := beq_eq_false_iff_ne.mpr c16
              have c16b1 : (a0 != 44) = true := bne_iff_ne.mpr c16
              by_cases c17 : a0 = 59
              ·
               rw [if_pos c17] at H
               have c17b0 : (a0 == 59) = true := beq_iff_eq.mpr c17
               have c17b1 : (a0 != 59) = false := bne_eq_false_iff_eq.mpr c17
               clear c17
               have H' := Aside0.mk H
               clear H
               go_wp2
               go_meet
               case rel => exact ⟨_, ((a0 == 59)), xrr, H', ⟨by have := HJ1.out; first | omega | exact Nat.le_refl _⟩, xdr⟩
              ·
               rw [if_neg c17] at H
               have c17b0 : (a0 == 59) = false := beq_eq_false_iff_ne.mpr c17
               have c17b1 : (a0 != 59) = true := bne_iff_ne.mpr c17
               have H' := Aside0.mk H
               clear H
               go_wp2
               go_meet
               case rel => exact ⟨_, ((a0 == 61)), xrr, H', ⟨by have := HJ1.out; first | omega | exact Nat.le_refl _⟩, xdr⟩
    case rest =>
     clear HC7
     obtain ⟨kq, x9_6, rfl, HA, HJ6, ⟨mc6, rfl⟩⟩ := hcut
     cases kq with
     | zero => exact absurd HA.out (by simp [octet_sign.j1])
     | succ kj6 =>
      have H := HA.out
      clear HA
      simp only [octet_sign.j1] at H
      by_cases c18 : x9_6 = true
      ·
       subst c18
       rw [if_pos rfl] at H
       obtain rfl := Option.some.inj H
       go_wp2
       go_ret
       exact ⟨xrr, xdr⟩
      ·
       replace c18 := Bool.eq_false_iff.mpr c18
       subst c18
       rw [if_neg (show ¬ (false = true) by decide)] at H
       by_cases c19 : a0 = 58
       ·
        rw [if_pos c19] at H
        have c19b0 : (a0 == 58) = true := beq_iff_eq.mpr c19
        have c19b1 : (a0 != 58) = false := bne_eq_false_iff_eq.mpr c19
        clear c19
        obtain rfl := Option.some.inj H
        go_wp2
        go_ret
        exact ⟨xrr, xdr⟩
       ·
        rw [if_neg c19] at H
        have c19b0 : (a0 == 58) = false := beq_eq_false_iff_ne.mpr c19
        have c19b1 : (a0 != 58) = true := bne_iff_ne.mpr c19
        by_cases c20 : a0 = 47
        ·
         rw [if_pos c20] at H
         have c20b0 : (a0 == 47) = true := beq_iff_eq.mpr c20
         have c20b1 : (a0 != 47) = false := bne_eq_false_iff_eq.mpr c20
         clear c20
         obtain rfl := Option.some.inj H
         go_wp2
         go_ret
         exact ⟨xrr, xdr⟩
        ·
         rw [if_neg c20] at H
         have c20b0 : (a0 == 47) = false := beq_eq_false_iff_ne.mpr c20
         have c20b1 : (a0 != 47) = true := bne_iff_ne.mpr c20
         by_cases c21 : a0 = 63
         ·
          rw [if_pos c21] at H
          have c21b0 : (a0 == 63) = true := beq_iff_eq.mpr c21
          have c21b1 : (a0 != 63) = false := bne_eq_false_iff_eq.mpr c21
          clear c21
          obtain rfl := Option.some.inj H
          go_wp2
          go_ret
          exact ⟨xrr, xdr⟩
         ·
          rw [if_neg c21] at H
          have c21b0 : (a0 == 63) = false := beq_eq_false_iff_ne.mpr c21
          have c21b1 : (a0 != 63) = true := bne_iff_ne.mpr c21
          by_cases c22 : a0 = 35
          ·
           rw [if_pos c22] at H
           have c22b0 : (a0 == 35) = true := beq_iff_eq.mpr c22
           have c22b1 : (a0 != 35) = false := bne_eq_false_iff_eq.mpr c22
           clear c22
           obtain rfl := Option.some.inj H
           go_wp2
           go_ret
           exact ⟨xrr, xdr⟩
          ·
           rw [if_neg c22] at H
           have c22b0 : (a0 == 35) = false := beq_eq_false_iff_ne.mpr c22
           have c22b1 : (a0 != 35) = true := bne_iff_ne.mpr c22
           by_cases c23 : a0 = 91
           ·
            rw [if_pos c23] at H
            have c23b0 : (a0 == 91) = true := beq_iff_eq.mpr c23
            have c23b1 : (a0 != 91) = false := bne_eq_false_iff_eq.mpr c23
            clear c23
            obtain rfl := Option.some.inj H
            go_wp2
            go_ret
            exact ⟨xrr, xdr⟩
           ·
            rw [if_neg c23] at H
            have c23b0 : (a0 == 91) = false := beq_eq_false_iff_ne.mpr c23
            have c23b1 : (a0 != 91) = true := bne_iff_ne.mpr c23
            by_cases c24 : a0 = 93
            ·
             rw [if_pos c24] at H
             have c24b0 : (a0 == 93) = true := beq_iff_eq.mpr c24
             have c24b1 : (a0 != 93) = false := bne_eq_false_iff_eq.mpr c24
             clear c24
             obtain rfl := Option.some.inj H
             go_wp2
             go_ret
             exact ⟨xrr, xdr⟩
            ·
             rw [if_neg c24] at H
             have c24b0 : (a0 == 93) = false := beq_eq_false_iff_ne.mpr c24
             have c24b1 : (a0 != 93) = true := bne_iff_ne.mpr c24
             by_cases c25 : a0 = 64
             ·
              rw [if_pos c25] at H
              have c25b0 : (a0 == 64) = true := beq_iff_eq.mpr c25
              have c25b1 : (a0 != 64) = false := bne_eq_false_iff_eq.mpr c25
              clear c25
              obtain rfl := Option.some.inj H
              go_wp2
              go_ret
              exact ⟨xrr, xdr⟩
             ·
              rw [if_neg c25] at H
              have c25b0 : (a0 == 64) = false := beq_eq_false_iff_ne.mpr c25
              have c25b1 : (a0 != 64) = true := bne_iff_ne.mpr c25
              obtain rfl := Option.some.inj H
              go_wp2
              go_ret
              exact ⟨xrr, xdr⟩
mutual
def octet_Class.j0 : Nat → Int → Bool → Option (Int)
  | 0, _, _ => none
  | k + 1, x0, x3 => if x3 = true then (some 34) else (if x0 ≥ 97 then (octet_Class.j1 k x0 (decide (x0 ≤ 102))) else (octet_Class.j1 k x0 false))
def octet_Class.j1 : Nat → Int → Bool → Option (Int)
  | 0, _, _ => none
  | k + 1, x0, x10 => if x10 = true then (octet_Class.j2 k x0 x10) else (if x0 ≥ 65 then (octet_Class.j2 k x0 (decide (x0 ≤ 70))) else (octet_Class.j2 k x0 false))
def octet_Class.j2 : Nat → Int → Bool → Option (Int)
  | 0, _, _ => none
  | k + 1, x0, x10 => if x10 = true then (some 33) else (if x0 ≥ 103 then (octet_Class.j3 k x0 (decide (x0 ≤ 122))) else (octet_Class.j3 k x0 false))
def octet_Class.j3 : Nat → Int → Bool → Option (Int)
  | 0, _, _ => none
  | k + 1, x0, x23 => if x23 = true then (some 1) else (if x0 ≥ 71 then (if x0 ≤ 90 then (some 1) else ((octet_sign.f k x0).bind fun t108 => (some t108))) else ((octet_sign.f k x0).bind fun t109 => (some t109)))
end
def octet_Class.f (k : Nat) (a0 : Int) : Option (Int) := if a0 ≥ 48 then (octet_Class.j0 k a0 (decide (a0 ≤ 57))) else (octet_Class.j0 k a0 false)
theorem octet_Class.mono_l : ∀ k, (∀ y0 y1, LeO (octet_Class.j0 k y0 y1) (octet_Class.j0 (k + 1) y0 y1)) ∧ (∀ y0 y1, LeO (octet_Class.j1 k y0 y1) (octet_Class.j1 (k + 1) y0 y1)) ∧ (∀ y0 y1, LeO (octet_Class.j2 k y0 y1) (octet_Class.j2 (k + 1) y0 y1)) ∧ (∀ y0 y1, LeO (octet_Class.j3 k y0 y1) (octet_Class.j3 (k + 1) y0 y1))
  | 0 => ⟨fun _ _ r h => by simp [octet_Class.j0] at h, fun _ _ r h => by simp [octet_Class.j1] at h, fun _ _ r h => by simp [octet_Class.j2] at h, fun _ _ r h => by simp [octet_Class.j3] at h⟩
  | k + 1 => by
    obtain ⟨ih0, ih1, ih2, ih3⟩ := octet_Class.mono_l k
    have m0 := @octet_sign.mono
    refine ⟨?_, ?_, ?_, ?_⟩
    · intro y0 y1
      unfold octet_Class.j0
      exact xmo
    · intro y0 y1
      unfold octet_Class.j1
      exact xmo
    · intro y0 y1
      unfold octet_Class.j2
      exact xmo
    · intro y0 y1
      unfold octet_Class.j3
      exact xmo
theorem octet_Class.mono : ∀ a0 k, LeO (octet_Class.f k a0) (octet_Class.f (k + 1) a0) := by
  intro a0 k
  obtain ⟨ih0, ih1, ih2, ih3⟩ := octet_Class.mono_l k
  have m0 := @octet_sign.mono
  unfold octet_Class.f
  exact xmo
set_option maxHeartbeats 8000000 in
set_option maxRecDepth 100000 in
theorem octet_Class.calls (k : Nat) (a0 : Int) (r : Int) (w : World) (h : octet_Class.f k a0 = some r) :
    Calls Tryd.prog 30 #[.int .u8 a0] w fun e w' => e = .returned (.int .i64 r) ∧ Drawn0 w w' := by
 have H : (if a0 ≥ 48 then (octet_Class.j0 k a0 (decide (a0 ≤ 57))) else (octet_Class.j0 k a0 false)) = some r := h
 clear h
 have HC2 := Aside0.mk H
 clear H
 go_enter Tryd.func30, Tryd.ntmps30
 go_upto_region 1 with (fail)
 go_cut [3] (fun v3 wc => ∃ (kq : Nat) (x3_1 : Bool), v3 = .bool x3_1 ∧ Aside0 (octet_Class.j0 kq a0 x3_1 = some r) ∧ Aside0 (kq ≤ k) ∧ Drawn0 w wc)
 case first =>
  have H := HC2.out
  clear HC2
  by_cases c3 : a0 ≥ 48
  ·
   rw [if_pos c3] at H
   have c3b0 := decide_eq_true c3
   clear c3
   (first | rw [c3b0] | (simp only [i64_w, i32_w]; rw [c3b0]) | (rw [c3b2]; (try simp only [Bool.not_false, Bool.not_true])) | (rw [c3b3]; (try simp only [Bool.not_false, Bool.not_true])) | skip)
   have H' := Aside0.mk H
   clear H
   go_wp2
   go_meet
   case rel => exact ⟨_, (decide (a0 ≤ 57)), xrr, H', ⟨xom⟩, xdr⟩
  ·
   rw [if_neg c3] at H
   have c3b0 := decide_eq_false c3
   clear c3
   (first | rw [c3b0] | (simp only [i64_w, i32_w]; rw [c3b0]) | (rw [c3b2]; (try simp only [Bool.not_false, Bool.not_true])) | (rw [c3b3]; (try simp only [Bool.not_false, Bool.not_true])) | skip)
   have H' := Aside0.mk H
   clear H
   go_wp2
   go_meet
   case rel => exact ⟨_, (false), xrr, H', ⟨xom⟩, xdr⟩
 case rest =>
  clear HC2
  obtain ⟨kq, x3_1, rfl, HA, HJ1, ⟨mc1, rfl⟩⟩ := hcut
  cases kq with
  | zero => exact absurd HA.out (by simp [octet_Class.j0])
  | succ kj1 =>
   have H := HA.out
   clear HA
   simp only [octet_Class.j0] at H
   by_cases c4 : x3_1 = true
   ·
    subst c4
    rw [if_pos rfl] at H
    obtain rfl := Option.some.inj H
    go_wp2
    go_ret
    exact ⟨xrr, xdr⟩
   ·
    replace c4 := Bool.eq_false_iff.mpr c4
    subst c4
    rw [if_neg (show ¬ (false = true) by decide)] at H
    have HC5 := Aside0.mk H
    clear H
    go_upto_region 3 with (fail)
    go_cut [10] (fun v10 wc => ∃ (kq : Nat) (x10_4 : Bool), v10 = .bool x10_4 ∧ Aside0 (octet_Class.j1 kq a0 x10_4 = some r) ∧ Aside0 (kq ≤ kj1) ∧ Drawn0 w wc)
    case first =>
     have H := HC5.out
     clear HC5
     by_cases c6 : a0 ≥ 97
     ·
      rw [if_pos c6] at H
      have c6b0 := decide_eq_true c6
      clear c6
      (first | rw [c6b0] | (simp only [i64_w, i32_w]; rw [c6b0]) | (rw [c6b2]; (try simp only [Bool.not_false, Bool.not_true])) | (rw [c6b3]; (try simp only [Bool.not_false, Bool.not_true])) | skip)
      have H' := Aside0.mk H
      clear H
      go_wp2
      go_meet
      case rel => exact ⟨_, (decide (a0 ≤ 102)), xrr, H', ⟨by have := HJ1.out; first | omega | exact Nat.le_refl _⟩, xdr⟩
     ·
      rw [if_neg c6] at H
      have c6b0 := decide_eq_false c6
      clear c6
      (first | rw [c6b0] | (simp only [i64_w, i32_w]; rw [c6b0]) | (rw [c6b2]; (try simp only [Bool.not_false, Bool.not_true])) | (rw [c6b3]; (try simp only [Bool.not_false, Bool.not_true])) | skip)
      have H' := Aside0.mk H
      clear H
      go_wp2
      go_meet
      case rel => exact ⟨_, (false), xrr, H', ⟨by have := HJ1.out; first | omega | exact Nat.le_refl _⟩, xdr⟩
    case rest =>
     clear HC5
     obtain ⟨kq, x10_4, rfl, HA, HJ4, ⟨mc4, rfl⟩⟩ := hcut
     cases kq with
     | zero => exact absurd HA.out (by simp [octet_Class.j1])
     | succ kj4 =>
      have H := HA.out
      clear HA
      simp only [octet_Class.j1] at H
      have HC7 := Aside0.mk H
      clear H
      go_upto_if 10 with (fail)
      go_cut [10] (fun v10 wc => ∃ (kq : Nat) (x10_6 : Bool), v10 = .bool x10_6 ∧ Aside0 (octet_Class.j2 kq a0 x10_6 = some r) ∧ Aside0 (kq ≤ kj4) ∧ Drawn0 w wc)
      case first =>
       have H := HC7.out
       clear HC7
       by_cases c8 : x10_4 = true
       ·
        subst c8
        rw [if_pos rfl] at H
        have H' := Aside0.mk H
        clear H
        go_wp2
        go_meet
        case rel => exact ⟨_, (true), xrr, H', ⟨by have := HJ1.out; have := HJ4.out; first | omega | exact Nat.le_refl _⟩, xdr⟩
       ·
        replace c8 := Bool.eq_false_iff.mpr c8
        subst c8
        rw [if_neg (show ¬ (false = true) by decide)] at H
        by_cases c9 : a0 ≥ 65
        ·
         rw [if_pos c9] at H
         have c9b0 := decide_eq_true c9
         clear c9
         (first | rw [c9b0] | (simp only [i64_w, i32_w]; rw [c9b0]) | (rw [c9b2]; (try simp only [Bool.not_false, Bool.not_true])) | (rw [c9b3]; (try simp only [Bool.not_false, Bool.not_true])) | skip)
         have H' := Aside0.mk H
         clear H
         go_wp2
         go_meet
         case rel => exact ⟨_, (decide (a0 ≤ 70)), xrr, H', ⟨by have := HJ1.out; have := HJ4.out; first | omega | exact Nat.le_refl _⟩, xdr⟩
        ·
         rw [if_neg c9] at H
         have c9b0 := decide_eq_false c9
         clear c9
         (first | rw [c9b0] | (simp only [i64_w, i32_w]; rw [c9b0]) | (rw [c9b2]; (try simp only [Bool.not_false, Bool.not_true])) | (rw [c9b3]; (try simp only [Bool.not_false, Bool.not_true])) | skip)
         have H' := Aside0.mk H
         clear H
         go_wp2
         go_meet
         case rel => exact ⟨_, (false), xrr, H', ⟨by have := HJ1.out; have := HJ4.out; first | omega | exact Nat.le_refl _⟩, xdr⟩
      case rest =>
       clear HC7
       obtain ⟨kq, x10_6, rfl, HA, HJ6, ⟨mc6, rfl⟩⟩ := hcut
       cases kq with
       | zero => exact absurd HA.out (by simp [octet_Class.j2])
       | succ kj6 =>
        have H := HA.out
        clear HA
        simp only [octet_Class.j2] at H
        by_cases c10 : x10_6 = true
        ·
         subst c10
         rw [if_pos rfl] at H
         obtain rfl := Option.some.inj H
         go_wp2
         go_ret
         exact ⟨xrr, xdr⟩
        ·
         replace c10 := Bool.eq_false_iff.mpr c10
         subst c10
         rw [if_neg (show ¬ (false = true) by decide)] at H
         have HC11 := Aside0.mk H
         clear H
         go_upto_region 6 with (fail)
         go_cut [23] (fun v23 wc => ∃ (kq : Nat) (x23_10 : Bool), v23 = .bool x23_10 ∧ Aside0 (octet_Class.j3 kq a0 x23_10 = some r) ∧ Aside0 (kq ≤ kj6) ∧ Drawn0 w wc)
         case first =>
          have H := HC11.out
          clear HC11
          by_cases c12 : a0 ≥ 103
          ·
           rw [if_pos c12] at H
           have c12b0 := decide_eq_true c12
           clear c12
           (first | rw [c12b0] | (simp only [i64_w, i32_w]; rw [c12b0]) | (rw [c12b2]; (try simp only [Bool.not_false, Bool.not_true])) | (rw [c12b3]; (try simp only [Bool.not_false, Bool.not_true])) | skip)
           have H' := Aside0.mk H
           clear H
           go_wp2
           go_meet
           case rel => exact ⟨_, (decide (a0 ≤ 122)), xrr, H', ⟨by have := HJ1.out; have := HJ4.out; have := HJ6.out; first | omega | exact Nat.le_refl _⟩, xdr⟩
          ·
           rw [if_neg c12] at H
           have c12b0 := decide_eq_false c12
           clear c12
           (first | rw [c12b0] | (simp only [i64_w, i32_w]; rw [c12b0]) | (rw [c12b2]; (try simp only [Bool.not_false, Bool.not_true])) | (rw [c12b3]; (try simp only [Bool.not_false, Bool.not_true])) | skip)
           have H' := Aside0.mk H
           clear H
           go_wp2
           go_meet
           case rel => exact ⟨_, (false), xrr, H', ⟨by have := HJ1.out; have := HJ4.out; have := HJ6.out; first | omega | exact Nat.le_refl _⟩, xdr⟩
         case rest =>
          clear HC11
          obtain ⟨kq, x23_10, rfl, HA, HJ10, ⟨mc10, rfl⟩⟩ := hcut
          cases kq with
          | zero => exact absurd HA.out (by simp [octet_Class.j3])
          | succ kj10 =>
           have H := HA.out
           clear HA
           simp only [octet_Class.j3] at H
           by_cases c13 : x23_10 = true
           ·
            subst c13
            rw [if_pos rfl] at H
            obtain rfl := Option.some.inj H
            go_wp2
            go_ret
            exact ⟨xrr, xdr⟩
           ·
            replace c13 := Bool.eq_false_iff.mpr c13
            subst c13
            rw [if_neg (show ¬ (false = true) by decide)] at H
            by_cases c14 : a0 ≥ 71
            ·
             rw [if_pos c14] at H
             have c14b0 := decide_eq_true c14
             clear c14
             by_cases c15 : a0 ≤ 90
             ·
              rw [if_pos c15] at H
              have c15b0 := decide_eq_true c15
              clear c15
              obtain rfl := Option.some.inj H
              go_wp2
              go_ret
              exact ⟨xrr, xdr⟩
             ·
              rw [if_neg c15] at H
              have c15b0 := decide_eq_false c15
              clear c15
              replace H := Option.bind_eq_some_iff.mp H
              obtain ⟨t108, A160, H⟩ := H
              try dsimp only at H
              have A16 := Aside0.mk A160
              clear A160
              obtain rfl := Option.some.inj H
              go_wp2_with (first | ((with_reducible refine gate_callee (f := 39) rfl ?_); refine xgl 37 Tryd.func39 #[.int .u8 a0] ?_; (with_reducible refine (octet_sign.calls kj10 a0 t108 _ A16.out).mono ?_); rintro e w' ⟨rfl, ⟨nd, rfl⟩⟩; refine ⟨_, rfl, ?_⟩))
              go_ret
              exact ⟨xrr, xdr⟩
            ·
             rw [if_neg c14] at H
             have c14b0 := decide_eq_false c14
             clear c14
             replace H := Option.bind_eq_some_iff.mp H
             obtain ⟨t109, A170, H⟩ := H
             try dsimp only at H
             have A17 := Aside0.mk A170
             clear A170
             obtain rfl := Option.some.inj H
             go_wp2_with (first | ((with_reducible refine gate_callee (f := 39) rfl ?_); refine xgl 37 Tryd.func39 #[.int .u8 a0] ?_; (with_reducible refine (octet_sign.calls kj10 a0 t109 _ A17.out).mono ?_); rintro e w' ⟨rfl, ⟨nd, rfl⟩⟩; refine ⟨_, rfl, ?_⟩))
             go_ret
             exact ⟨xrr, xdr⟩
def octet_Is.f (k : Nat) (a0 : Int) (a1 : Int) : Option (Bool) := (octet_Class.f k a0).bind fun t110 => (some ((Go.bits .and .i64 t110 a1) != 0))
theorem octet_Is.mono : ∀ a0 a1 k, LeO (octet_Is.f k a0 a1) (octet_Is.f (k + 1) a0 a1) := by
  intro a0 a1 k
  have m0 := @octet_Class.mono
  unfold octet_Is.f
  exact xmo
set_option maxHeartbeats 8000000 in
set_option maxRecDepth 100000 in
theorem octet_Is.calls (k : Nat) (a0 : Int) (a1 : Int) (r : Bool) (w : World) (h : octet_Is.f k a0 a1 = some r) :
    Calls Tryd.prog 24 #[.int .u8 a0, .int .i64 a1] w fun e w' => e = .returned (.bool r) ∧ Drawn0 w w' := by
 have H : ((octet_Class.f k a0).bind fun t110 => (some ((Go.bits .and .i64 t110 a1) != 0))) = some r := h
 clear h
 replace H := Option.bind_eq_some_iff.mp H
 obtain ⟨t110, A30, H⟩ := H
 try dsimp only at H
 have A3 := Aside0.mk A30
 clear A30
 obtain rfl := Option.some.inj H
 go_enter Tryd.func24, Tryd.ntmps24
 go_wp2_with (first | ((with_reducible refine gate_callee (f := 30) rfl ?_); refine xgl 6 Tryd.func30 #[.int .u8 a0] ?_; (with_reducible refine (octet_Class.calls k a0 t110 _ A3.out).mono ?_); rintro e w' ⟨rfl, ⟨nd, rfl⟩⟩; refine ⟨_, rfl, ?_⟩))
 go_ret
 exact ⟨xrr, xdr⟩
end Go.Proofs.YtpmflpeckoeooaaDoor.X
