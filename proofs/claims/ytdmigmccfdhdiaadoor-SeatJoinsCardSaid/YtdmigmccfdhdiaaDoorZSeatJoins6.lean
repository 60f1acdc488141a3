/- Texts that the law's proof needs, joined by a program of this session. -/
import Derived.Test.YtdmigmccfdhdiaaDoorZSeatJoins1
import Derived.Test.YtdmigmccfdhdiaaDoorZSeatJoins2
import Derived.Test.YtdmigmccfdhdiaaDoorZSeatJoins4
import Derived.Test.YtdmigmccfdhdiaaDoorZSeatJoins5
namespace Go.Proofs.YtdmigmccfdhdiaaDoor.X
open Go.RowKit Go.Proofs.YtdmigmccfdhdiaaDoorW.PrintWords Go.Proofs.YtdmigmccfdhdiaaDoorW.PrintLast Go.Proofs.YtdmigmccfdhdiaaDoorW.PrintMore
attribute [local go_sem] max2_int min2_int max_two min_two max_three min_three max_four min_four
set_option linter.unusedVariables false
set_option linter.unusedSimpArgs false
def seat_Right.j0 : Nat → Bool → Bool → Bool → ByteArray → ByteArray → Bool → ByteArray → Option (Bool)
  | 0, _, _, _, _, _, _, _ => none
  | k + 1, x0, x5, x221000, x221001, x221002, x221003, x221004 => if x5 = true then (some false) else ((ip_Host.f k x0 x221002).bind fun t222 => (if t222 = 0 then (some false) else (if x221003 = true then ((octet_Span.f k x221004 2).bind fun t223 => (some (t223 == (x221004.size : Int)))) else (some true))))
def seat_Right.f (k : Nat) (a0 : Bool) (a1_0 : Bool) (a1_1 : ByteArray) (a1_2 : ByteArray) (a1_3 : Bool) (a1_4 : ByteArray) : Option (Bool) := if a1_0 = true then ((lexis_All.f k 1 a0 a1_1).bind fun t221 => (seat_Right.j0 k a0 (!t221) a1_0 a1_1 a1_2 a1_3 a1_4)) else (seat_Right.j0 k a0 false a1_0 a1_1 a1_2 a1_3 a1_4)
theorem seat_Right.mono_l : ∀ k, (∀ y0 y1 y2 y3 y4 y5 y6, LeO (seat_Right.j0 k y0 y1 y2 y3 y4 y5 y6) (seat_Right.j0 (k + 1) y0 y1 y2 y3 y4 y5 y6))
  | 0 => fun _ _ _ _ _ _ _ r h => by simp [seat_Right.j0] at h
  | k + 1 => by
    have ih0 := seat_Right.mono_l k
    have m0 := @ip_Host.mono; have m1 := @lexis_All.mono; have m2 := @octet_Span.mono
    · intro y0 y1 y2 y3 y4 y5 y6
      unfold seat_Right.j0
      exact xmo
theorem seat_Right.mono : ∀ a0 a1 a2 a3 a4 a5 k, LeO (seat_Right.f k a0 a1 a2 a3 a4 a5) (seat_Right.f (k + 1) a0 a1 a2 a3 a4 a5) := by
  intro a0 a1 a2 a3 a4 a5 k
  have ih0 := seat_Right.mono_l k
  have m0 := @ip_Host.mono; have m1 := @lexis_All.mono; have m2 := @octet_Span.mono
  unfold seat_Right.f
  exact xmo
set_option maxHeartbeats 8000000 in
set_option maxRecDepth 100000 in
theorem seat_Right.calls (k : Nat) (a0 : Bool) (a1_0 : Bool) (a1_1 : ByteArray) (a1_2 : ByteArray) (a1_3 : Bool) (a1_4 : ByteArray) (r : Bool) (w : World) (hG : GW w) (h : seat_Right.f k a0 a1_0 a1_1 a1_2 a1_3 a1_4 = some r) :
    Calls Tryd.prog 9 #[.bool a0, .agg #[.bool a1_0, .string a1_1, .string a1_2, .bool a1_3, .string a1_4]] w fun e w' => e = .returned (.bool r) ∧ Below w.heap.size w w' := by
 have hu24 := Tryd.underlying24
 have HB := Aside0.mk (Below.refl w.heap.size w)
 have H : (if a1_0 = true then ((lexis_All.f k 1 a0 a1_1).bind fun t221 => (seat_Right.j0 k a0 (!t221) a1_0 a1_1 a1_2 a1_3 a1_4)) else (seat_Right.j0 k a0 false a1_0 a1_1 a1_2 a1_3 a1_4)) = some r := h
 clear h
 have HC3 := Aside0.mk H
 clear H
 go_enter Tryd.func9, Tryd.ntmps9
 go_upto_region 1 with (first | ((with_reducible refine gate_dst (N := 3) rfl ?_); (try (refine gate_guard (by rfl) ?_; dsimp only)); refine xev 3 #[.bool a1_0, .string a1_1, .string a1_2, .bool a1_3, .string a1_4] 24 ?_; intro gb220 hg w4 hbox hb; have BK220 := Aside0.mk (hbox); have GW220 := xsz hg; have GE220 := GW220; replace HB := xst hb; clear hb hbox hg))
 repeat (go_quiet (first | ((with_reducible refine gate_dst (N := 3) rfl ?_); (try (refine gate_guard (by rfl) ?_; dsimp only)); refine xev 3 #[.bool a1_0, .string a1_1, .string a1_2, .bool a1_3, .string a1_4] 24 ?_; intro gb220 hg w4 hbox hb; have BK220 := Aside0.mk (hbox); have GW220 := xsz hg; have GE220 := GW220; replace HB := xst hb; clear hb hbox hg)); go_upto_region 1 with (first | ((with_reducible refine gate_dst (N := 3) rfl ?_); (try (refine gate_guard (by rfl) ?_; dsimp only)); refine xev 3 #[.bool a1_0, .string a1_1, .string a1_2, .bool a1_3, .string a1_4] 24 ?_; intro gb220 hg w4 hbox hb; have BK220 := Aside0.mk (hbox); have GW220 := xsz hg; have GE220 := GW220; replace HB := xst hb; clear hb hbox hg)))
 (try simp only [Act.put, List.setIfInBounds_toArray, List.set_cons_zero, List.set_cons_succ])
 go_cut [5] (fun v5 wc => ∃ (kq : Nat) (x5_2 : Bool), v5 = .bool x5_2 ∧ Aside0 (seat_Right.j0 kq a0 x5_2 a1_0 a1_1 a1_2 a1_3 a1_4 = some r) ∧ Aside0 (kq ≤ k) ∧ Aside0 (wc.heap[gb220]? = some (.cells #[.bool a1_0, .string a1_1, .string a1_2, .bool a1_3, .string a1_4] 24 (0, 0))) ∧ Aside0 (Below w.heap.size w wc))
 case first =>
  have H := HC3.out
  clear HC3
  by_cases c5 : a1_0 = true
  ·
   subst c5
   rw [if_pos rfl] at H
   replace H := Option.bind_eq_some_iff.mp H
   obtain ⟨t221, A60, H⟩ := H
   try dsimp only at H
   have A6 := Aside0.mk A60
   clear A60
   have H' := Aside0.mk H
   clear H
   obtain ⟨hcz7_0, hcz7_1, hcz7_2, hcz7_3, hcz7_4⟩ := xc5 BK220
   have hfz7_0 := xf BK220 0
   have hfz7_1 := xf BK220 1
   have hfz7_2 := xf BK220 2
   have hfz7_3 := xf BK220 3
   have hfz7_4 := xf BK220 4
   go_wp2_with (first | (go_at_call 16; (with_reducible refine (lexis_All.calls k 1 a0 a1_1 t221 _ A6.out).mono ?_); rintro e w8 ⟨rfl, hb⟩; replace BK220 := xbb (g := gb220) (o := .cells #[.bool true, .string a1_1, .string a1_2, .bool a1_3, .string a1_4] 24 (0, 0)) hb; replace HB := xst hb; (try clear hb)))
   repeat (go_quiet (first | (go_at_call 16; (with_reducible refine (lexis_All.calls k 1 a0 a1_1 t221 _ A6.out).mono ?_); rintro e w8 ⟨rfl, hb⟩; replace BK220 := xbb (g := gb220) (o := .cells #[.bool true, .string a1_1, .string a1_2, .bool a1_3, .string a1_4] 24 (0, 0)) hb; replace HB := xst hb; (try clear hb))); try go_wp2_with (first | (go_at_call 16; (with_reducible refine (lexis_All.calls k 1 a0 a1_1 t221 _ A6.out).mono ?_); rintro e w8 ⟨rfl, hb⟩; replace BK220 := xbb (g := gb220) (o := .cells #[.bool true, .string a1_1, .string a1_2, .bool a1_3, .string a1_4] 24 (0, 0)) hb; replace HB := xst hb; (try clear hb))))
   go_meet
   case rel => exact ⟨_, (!t221), xrr, H', ⟨xom⟩, ⟨xbk⟩, ⟨xbl⟩⟩
  ·
   replace c5 := Bool.eq_false_iff.mpr c5
   subst c5
   rw [if_neg (show ¬ (false = true) by decide)] at H
   have H' := Aside0.mk H
   clear H
   obtain ⟨hcz9_0, hcz9_1, hcz9_2, hcz9_3, hcz9_4⟩ := xc5 BK220
   have hfz9_0 := xf BK220 0
   have hfz9_1 := xf BK220 1
   have hfz9_2 := xf BK220 2
   have hfz9_3 := xf BK220 3
   have hfz9_4 := xf BK220 4
   go_wp2
   repeat (go_quiet (fail); try go_wp2)
   go_meet
   case rel => exact ⟨_, (false), xrr, H', ⟨xom⟩, ⟨xbk⟩, ⟨xbl⟩⟩
 case rest =>
  clear HC3
  obtain ⟨kq, x5_2, rfl, HA, HJ2, BK220, HB⟩ := hcut
  cases kq with
  | zero => exact absurd HA.out (by simp [seat_Right.j0])
  | succ kj2 =>
   have H := HA.out
   clear HA
   simp only [seat_Right.j0] at H
   by_cases c10 : x5_2 = true
   ·
    subst c10
    rw [if_pos rfl] at H
    obtain rfl := Option.some.inj H
    go_wp2
    repeat (go_quiet (fail); try go_wp2)
    go_ret
    exact ⟨xre, xbl⟩
   ·
    replace c10 := Bool.eq_false_iff.mpr c10
    subst c10
    rw [if_neg (show ¬ (false = true) by decide)] at H
    replace H := Option.bind_eq_some_iff.mp H
    obtain ⟨t222, A110, H⟩ := H
    try dsimp only at H
    have A11 := Aside0.mk A110
    clear A110
    by_cases c12 : t222 = 0
    ·
     rw [if_pos c12] at H
     have c12b0 : (t222 == 0) = true := beq_iff_eq.mpr c12
     have c12b1 : (t222 != 0) = false := bne_eq_false_iff_eq.mpr c12
     clear c12
     obtain rfl := Option.some.inj H
     obtain ⟨hcz13_0, hcz13_1, hcz13_2, hcz13_3, hcz13_4⟩ := xc5 BK220
     have hfz13_0 := xf BK220 0
     have hfz13_1 := xf BK220 1
     have hfz13_2 := xf BK220 2
     have hfz13_3 := xf BK220 3
     have hfz13_4 := xf BK220 4
     go_wp2_with (first | (go_at_call 17; (with_reducible refine (ip_Host.calls kj2 a0 a1_2 t222 _ ?side1 A11.out).mono ?_); (case side1 => first | exact hG | exact GW_to hG xbl); rintro e w14 ⟨rfl, hb⟩; replace BK220 := xbb (g := gb220) (o := .cells #[.bool a1_0, .string a1_1, .string a1_2, .bool a1_3, .string a1_4] 24 (0, 0)) hb; replace HB := xst hb; (try clear hb)))
     repeat (go_quiet (first | (go_at_call 17; (with_reducible refine (ip_Host.calls kj2 a0 a1_2 t222 _ ?side1 A11.out).mono ?_); (case side1 => first | exact hG | exact GW_to hG xbl); rintro e w14 ⟨rfl, hb⟩; replace BK220 := xbb (g := gb220) (o := .cells #[.bool a1_0, .string a1_1, .string a1_2, .bool a1_3, .string a1_4] 24 (0, 0)) hb; replace HB := xst hb; (try clear hb))); try go_wp2_with (first | (go_at_call 17; (with_reducible refine (ip_Host.calls kj2 a0 a1_2 t222 _ ?side1 A11.out).mono ?_); (case side1 => first | exact hG | exact GW_to hG xbl); rintro e w14 ⟨rfl, hb⟩; replace BK220 := xbb (g := gb220) (o := .cells #[.bool a1_0, .string a1_1, .string a1_2, .bool a1_3, .string a1_4] 24 (0, 0)) hb; replace HB := xst hb; (try clear hb))))
     go_ret
     exact ⟨xre, xbl⟩
    ·
     rw [if_neg c12] at H
     have c12b0 : (t222 == 0) = false := beq_eq_false_iff_ne.mpr c12
     have c12b1 : (t222 != 0) = true := bne_iff_ne.mpr c12
     by_cases c15 : a1_3 = true
     ·
      subst c15
      rw [if_pos rfl] at H
      replace H := Option.bind_eq_some_iff.mp H
      obtain ⟨t223, A160, H⟩ := H
      try dsimp only at H
      have A16 := Aside0.mk A160
      clear A160
      obtain rfl := Option.some.inj H
      obtain ⟨hcz17_0, hcz17_1, hcz17_2, hcz17_3, hcz17_4⟩ := xc5 BK220
      have hfz17_0 := xf BK220 0
      have hfz17_1 := xf BK220 1
      have hfz17_2 := xf BK220 2
      have hfz17_3 := xf BK220 3
      have hfz17_4 := xf BK220 4
      go_wp2_with (first | (go_at_call 17; (with_reducible refine (ip_Host.calls kj2 a0 a1_2 t222 _ ?side1 A11.out).mono ?_); (case side1 => first | exact hG | exact GW_to hG xbl); rintro e w18 ⟨rfl, hb⟩; replace BK220 := xbb (g := gb220) (o := .cells #[.bool a1_0, .string a1_1, .string a1_2, .bool true, .string a1_4] 24 (0, 0)) hb; replace HB := xst hb; (try clear hb); obtain ⟨hcz19_0, hcz19_1, hcz19_2, hcz19_3, hcz19_4⟩ := xc5 BK220; have hfz19_0 := xf BK220 0; have hfz19_1 := xf BK220 1; have hfz19_2 := xf BK220 2; have hfz19_3 := xf BK220 3; have hfz19_4 := xf BK220 4) | (go_at_call 18; (with_reducible refine (octet_Span.calls kj2 a1_4 2 t223 _ A16.out).mono ?_); rintro e w' ⟨rfl, ⟨nd, rfl⟩⟩; (try first | exact ⟨rfl, _, World.drewN_drewN _ _ _⟩ | exact ⟨rfl, _, Eq.trans (World.drewN_drewN _ _ _) (congrArg (World.drewN _) (Nat.add_assoc _ _ _))⟩)))
      repeat (go_quiet (first | (go_at_call 17; (with_reducible refine (ip_Host.calls kj2 a0 a1_2 t222 _ ?side1 A11.out).mono ?_); (case side1 => first | exact hG | exact GW_to hG xbl); rintro e w18 ⟨rfl, hb⟩; replace BK220 := xbb (g := gb220) (o := .cells #[.bool a1_0, .string a1_1, .string a1_2, .bool true, .string a1_4] 24 (0, 0)) hb; replace HB := xst hb; (try clear hb); obtain ⟨hcz19_0, hcz19_1, hcz19_2, hcz19_3, hcz19_4⟩ := xc5 BK220; have hfz19_0 := xf BK220 0; have hfz19_1 := xf BK220 1; have hfz19_2 := xf BK220 2; have hfz19_3 := xf BK220 3; have hfz19_4 := xf BK220 4) | (go_at_call 18; (with_reducible refine (octet_Span.calls kj2 a1_4 2 t223 _ A16.out).mono ?_); rintro e w' ⟨rfl, ⟨nd, rfl⟩⟩; (try first | exact ⟨rfl, _, World.drewN_drewN _ _ _⟩ | exact ⟨rfl, _, Eq.trans (World.drewN_drewN _ _ _) (congrArg (World.drewN _) (Nat.add_assoc _ _ _))⟩))); try go_wp2_with (first | (go_at_call 17; (with_reducible refine (ip_Host.calls kj2 a0 a1_2 t222 _ ?side1 A11.out).mono ?_); (case side1 => first | exact hG | exact GW_to hG xbl); rintro e w18 ⟨rfl, hb⟩; replace BK220 := xbb (g := gb220) (o := .cells #[.bool a1_0, .string a1_1, .string a1_2, .bool true, .string a1_4] 24 (0, 0)) hb; replace HB := xst hb; (try clear hb); obtain ⟨hcz19_0, hcz19_1, hcz19_2, hcz19_3, hcz19_4⟩ := xc5 BK220; have hfz19_0 := xf BK220 0; have hfz19_1 := xf BK220 1; have hfz19_2 := xf BK220 2; have hfz19_3 := xf BK220 3; have hfz19_4 := xf BK220 4) | (go_at_call 18; (with_reducible refine (octet_Span.calls kj2 a1_4 2 t223 _ A16.out).mono ?_); rintro e w' ⟨rfl, ⟨nd, rfl⟩⟩; (try first | exact ⟨rfl, _, World.drewN_drewN _ _ _⟩ | exact ⟨rfl, _, Eq.trans (World.drewN_drewN _ _ _) (congrArg (World.drewN _) (Nat.add_assoc _ _ _))⟩))))
      go_ret
      exact ⟨xre, xbl⟩
     ·
      replace c15 := Bool.eq_false_iff.mpr c15
      subst c15
      rw [if_neg (show ¬ (false = true) by decide)] at H
      obtain rfl := Option.some.inj H
      obtain ⟨hcz20_0, hcz20_1, hcz20_2, hcz20_3, hcz20_4⟩ := xc5 BK220
      have hfz20_0 := xf BK220 0
      have hfz20_1 := xf BK220 1
      have hfz20_2 := xf BK220 2
      have hfz20_3 := xf BK220 3
      have hfz20_4 := xf BK220 4
      go_wp2_with (first | (go_at_call 17; (with_reducible refine (ip_Host.calls kj2 a0 a1_2 t222 _ ?side1 A11.out).mono ?_); (case side1 => first | exact hG | exact GW_to hG xbl); rintro e w21 ⟨rfl, hb⟩; replace BK220 := xbb (g := gb220) (o := .cells #[.bool a1_0, .string a1_1, .string a1_2, .bool false, .string a1_4] 24 (0, 0)) hb; replace HB := xst hb; (try clear hb); obtain ⟨hcz22_0, hcz22_1, hcz22_2, hcz22_3, hcz22_4⟩ := xc5 BK220; have hfz22_0 := xf BK220 0; have hfz22_1 := xf BK220 1; have hfz22_2 := xf BK220 2; have hfz22_3 := xf BK220 3; have hfz22_4 := xf BK220 4))
      repeat (go_quiet (first | (go_at_call 17; (with_reducible refine (ip_Host.calls kj2 a0 a1_2 t222 _ ?side1 A11.out).mono ?_); (case side1 => first | exact hG | exact GW_to hG xbl); rintro e w21 ⟨rfl, hb⟩; replace BK220 := xbb (g := gb220) (o := .cells #[.bool a1_0, .string a1_1, .string a1_2, .bool false, .string a1_4] 24 (0, 0)) hb; replace HB := xst hb; (try clear hb); obtain ⟨hcz22_0, hcz22_1, hcz22_2, hcz22_3, hcz22_4⟩ := xc5 BK220; have hfz22_0 := xf BK220 0; have hfz22_1 := xf BK220 1; have hfz22_2 := xf BK220 2; have hfz22_3 := xf BK220 3; have hfz22_4 := xf BK220 4)); try go_wp2_with (first | (go_at_call 17; (with_reducible refine (ip_Host.calls kj2 a0 a1_2 t222 _ ?side1 A11.out).mono ?_); (case side1 => first | exact hG | exact GW_to hG xbl); rintro e w21 ⟨rfl, hb⟩; replace BK220 := xbb (g := gb220) (o := .cells #[.bool a1_0, .string a1_1, .string a1_2, .bool false, .string a1_4] 24 (0, 0)) hb; replace HB := xst hb; (try clear hb); obtain ⟨hcz22_0, hcz22_1, hcz22_2, hcz22_3, hcz22_4⟩ := xc5 BK220; have hfz22_0 := xf BK220 0; have hfz22_1 := xf BK220 1; have hfz22_2 := xf BK220 2; have hfz22_3 := xf BK220 3; have hfz22_4 := xf BK220 4)))
      go_ret
      exact ⟨xre, xbl⟩
def seat_Parse.f (k : Nat) (a0 : Bool) (a1 : ByteArray) : Option (Bool × ByteArray × ByteArray × Bool × ByteArray × Bool) := (seat_Part.f k a1).bind fun bt225 => ((seat_Right.f k a0 bt225.1 bt225.2.1 bt225.2.2.1 bt225.2.2.2.1 bt225.2.2.2.2).bind fun t231 => (if t231 = true then (some (bt225.1, bt225.2.1, bt225.2.2.1, bt225.2.2.2.1, bt225.2.2.2.2, true)) else (some (false, (⟨#[]⟩ : ByteArray), (⟨#[]⟩ : ByteArray), false, (⟨#[]⟩ : ByteArray), false))))
theorem seat_Parse.mono : ∀ a0 a1 k, LeO (seat_Parse.f k a0 a1) (seat_Parse.f (k + 1) a0 a1) := by
  intro a0 a1 k
  have m0 := @seat_Part.mono; have m1 := @seat_Right.mono
  unfold seat_Parse.f
  exact xmo
set_option maxHeartbeats 8000000 in
set_option maxRecDepth 100000 in
theorem seat_Parse.calls (k : Nat) (a0 : Bool) (a1 : ByteArray) (r1 : Bool) (r2 : ByteArray) (r3 : ByteArray) (r4 : Bool) (r5 : ByteArray) (r6 : Bool) (w : World) (hG : GW w) (h : seat_Parse.f k a0 a1 = some (r1, r2, r3, r4, r5, r6)) :
    Calls Tryd.prog 6 #[.bool a0, .string a1] w fun e w' => e = .returned (.tuple #[.agg #[.bool r1, .string r2, .string r3, .bool r4, .string r5], .bool r6]) ∧ Below w.heap.size w w' := by
 have hu24 := Tryd.underlying24
 have HB := Aside0.mk (Below.refl w.heap.size w)
 have H : ((seat_Part.f k a1).bind fun bt225 => ((seat_Right.f k a0 bt225.1 bt225.2.1 bt225.2.2.1 bt225.2.2.2.1 bt225.2.2.2.2).bind fun t231 => (if t231 = true then (some (bt225.1, bt225.2.1, bt225.2.2.1, bt225.2.2.2.1, bt225.2.2.2.2, true)) else (some (false, (⟨#[]⟩ : ByteArray), (⟨#[]⟩ : ByteArray), false, (⟨#[]⟩ : ByteArray), false))))) = some (r1, r2, r3, r4, r5, r6) := h
 clear h
 replace H := Option.bind_eq_some_iff.mp H
 obtain ⟨⟨t225, t226, t227, t228, t229⟩, A30, H⟩ := H
 try dsimp only at H
 have A3 := Aside0.mk A30
 clear A30
 replace H := Option.bind_eq_some_iff.mp H
 obtain ⟨t231, A40, H⟩ := H
 try dsimp only at H
 have A4 := Aside0.mk A40
 clear A40
 by_cases c5 : t231 = true
 ·
  subst c5
  rw [if_pos rfl] at H
  simp only [Option.some.injEq, Prod.mk.injEq] at H
  obtain ⟨rfl, rfl, rfl, rfl, rfl, rfl⟩ := H
  go_enter Tryd.func6, Tryd.ntmps6
  go_wp2_with (first | ((with_reducible refine gate_dst (N := 4) rfl ?_); refine xev 4 #[.bool false, .string (⟨#[]⟩ : ByteArray), .string (⟨#[]⟩ : ByteArray), .bool false, .string (⟨#[]⟩ : ByteArray)] 24 ?_; intro gb224 hg w6 hbox hb; have BK224 := Aside0.mk (hbox); have GW224 := xsz hg; have GE224 := GW224; replace HB := xst hb; clear hb hbox hg) | ((with_reducible refine gate_callee (f := 12) rfl ?_); refine xgl 8 Tryd.func12 #[.string a1] ?_; (with_reducible refine (seat_Part.calls k a1 t225 t226 t227 t228 t229 _ A3.out).mono ?_); rintro e w7 ⟨rfl, hb⟩; refine ⟨_, rfl, ?_⟩; replace BK224 := xbb (g := gb224) (o := .cells #[.bool false, .string (⟨#[]⟩ : ByteArray), .string (⟨#[]⟩ : ByteArray), .bool false, .string (⟨#[]⟩ : ByteArray)] 24 (0, 0)) hb; replace HB := xst hb; (try clear hb)) | ((with_reducible refine gate_dst (N := 6) rfl ?_); refine xev 6 #[.bool false, .string (⟨#[]⟩ : ByteArray), .string (⟨#[]⟩ : ByteArray), .bool false, .string (⟨#[]⟩ : ByteArray)] 24 ?_; intro gb230 hg w8 hbox hb; have BK230 := Aside0.mk (hbox); have GW230 := xsz hg; have GE230 := GW230; have NB224_230 := xlt (g := gb224) hg; have NB230_224 := xgt (g := gb224) hg; replace BK224 := xbb (g := gb224) (o := .cells #[.bool false, .string (⟨#[]⟩ : ByteArray), .string (⟨#[]⟩ : ByteArray), .bool false, .string (⟨#[]⟩ : ByteArray)] 24 (0, 0)) hb; replace HB := xst hb; clear hb hbox hg; have hnb9 := NB230_224.out; have hnc9 := NB224_230.out; obtain ⟨hcz10_0, hcz10_1, hcz10_2, hcz10_3, hcz10_4⟩ := xc5 BK230; have hfz10_0 := xf BK230 0; have hfz10_1 := xf BK230 1; have hfz10_2 := xf BK230 2; have hfz10_3 := xf BK230 3; have hfz10_4 := xf BK230 4) | ((with_reducible refine gate_callee (f := 9) rfl ?_); refine xgl 11 Tryd.func9 #[.bool a0, .agg #[.bool t225, .string t226, .string t227, .bool t228, .string t229]] ?_; (with_reducible refine (seat_Right.calls k a0 t225 t226 t227 t228 t229 true _ ?side1 A4.out).mono ?_); (case side1 => first | exact hG | exact GW_to hG xbl); rintro e w11 ⟨rfl, hb⟩; refine ⟨_, rfl, ?_⟩; replace BK224 := xbb (g := gb224) (o := .cells #[.bool false, .string (⟨#[]⟩ : ByteArray), .string (⟨#[]⟩ : ByteArray), .bool false, .string (⟨#[]⟩ : ByteArray)] 24 (0, 0)) hb; replace BK230 := xbb (g := gb230) (o := .cells #[.bool t225, .string t226, .string t227, .bool t228, .string t229] 24 (0, 0)) hb; replace HB := xst hb; (try clear hb); obtain ⟨hcz12_0, hcz12_1, hcz12_2, hcz12_3, hcz12_4⟩ := xc5 BK230; have hfz12_0 := xf BK230 0; have hfz12_1 := xf BK230 1; have hfz12_2 := xf BK230 2; have hfz12_3 := xf BK230 3; have hfz12_4 := xf BK230 4; obtain ⟨hcz13_0, hcz13_1, hcz13_2, hcz13_3, hcz13_4⟩ := xc5 BK224; have hfz13_0 := xf BK224 0; have hfz13_1 := xf BK224 1; have hfz13_2 := xf BK224 2; have hfz13_3 := xf BK224 3; have hfz13_4 := xf BK224 4))
  refine bodyPost_ret (results_ct rfl _ _ gb224 24 #[.bool t225, .string t226, .string t227, .bool t228, .string t229] (0, 0) _ rfl xbk Tryd.underlying24 rfl (by kernel_rfl)) rfl ?_
  exact ⟨xre, xbl⟩
 ·
  replace c5 := Bool.eq_false_iff.mpr c5
  subst c5
  rw [if_neg (show ¬ (false = true) by decide)] at H
  simp only [Option.some.injEq, Prod.mk.injEq] at H
  obtain ⟨rfl, rfl, rfl, rfl, rfl, rfl⟩ := H
  go_enter Tryd.func6, Tryd.ntmps6
  go_wp2_with (first | ((with_reducible refine gate_dst (N := 4) rfl ?_); refine xev 4 #[.bool false, .string (⟨#[]⟩ : ByteArray), .string (⟨#[]⟩ : ByteArray), .bool false, .string (⟨#[]⟩ : ByteArray)] 24 ?_; intro gb224 hg w14 hbox hb; have BK224 := Aside0.mk (hbox); have GW224 := xsz hg; have GE224 := GW224; replace HB := xst hb; clear hb hbox hg) | ((with_reducible refine gate_callee (f := 12) rfl ?_); refine xgl 8 Tryd.func12 #[.string a1] ?_; (with_reducible refine (seat_Part.calls k a1 t225 t226 t227 t228 t229 _ A3.out).mono ?_); rintro e w15 ⟨rfl, hb⟩; refine ⟨_, rfl, ?_⟩; replace BK224 := xbb (g := gb224) (o := .cells #[.bool false, .string (⟨#[]⟩ : ByteArray), .string (⟨#[]⟩ : ByteArray), .bool false, .string (⟨#[]⟩ : ByteArray)] 24 (0, 0)) hb; replace HB := xst hb; (try clear hb)) | ((with_reducible refine gate_dst (N := 6) rfl ?_); refine xev 6 #[.bool false, .string (⟨#[]⟩ : ByteArray), .string (⟨#[]⟩ : ByteArray), .bool false, .string (⟨#[]⟩ : ByteArray)] 24 ?_; intro gb230 hg w16 hbox hb; have BK230 := Aside0.mk (hbox); have GW230 := xsz hg; have GE230 := GW230; have NB224_230 := xlt (g := gb224) hg; have NB230_224 := xgt (g := gb224) hg; replace BK224 := xbb (g := gb224) (o := .cells #[.bool false, .string (⟨#[]⟩ : ByteArray), .string (⟨#[]⟩ : ByteArray), .bool false, .string (⟨#[]⟩ : ByteArray)] 24 (0, 0)) hb; replace HB := xst hb; clear hb hbox hg; have hnb17 := NB230_224.out; have hnc17 := NB224_230.out; obtain ⟨hcz18_0, hcz18_1, hcz18_2, hcz18_3, hcz18_4⟩ := xc5 BK230; have hfz18_0 := xf BK230 0; have hfz18_1 := xf BK230 1; have hfz18_2 := xf BK230 2; have hfz18_3 := xf BK230 3; have hfz18_4 := xf BK230 4) | ((with_reducible refine gate_callee (f := 9) rfl ?_); refine xgl 11 Tryd.func9 #[.bool a0, .agg #[.bool t225, .string t226, .string t227, .bool t228, .string t229]] ?_; (with_reducible refine (seat_Right.calls k a0 t225 t226 t227 t228 t229 false _ ?side1 A4.out).mono ?_); (case side1 => first | exact hG | exact GW_to hG xbl); rintro e w19 ⟨rfl, hb⟩; refine ⟨_, rfl, ?_⟩; replace BK224 := xbb (g := gb224) (o := .cells #[.bool false, .string (⟨#[]⟩ : ByteArray), .string (⟨#[]⟩ : ByteArray), .bool false, .string (⟨#[]⟩ : ByteArray)] 24 (0, 0)) hb; replace BK230 := xbb (g := gb230) (o := .cells #[.bool t225, .string t226, .string t227, .bool t228, .string t229] 24 (0, 0)) hb; replace HB := xst hb; (try clear hb); obtain ⟨hcz20_0, hcz20_1, hcz20_2, hcz20_3, hcz20_4⟩ := xc5 BK224; have hfz20_0 := xf BK224 0; have hfz20_1 := xf BK224 1; have hfz20_2 := xf BK224 2; have hfz20_3 := xf BK224 3; have hfz20_4 := xf BK224 4))
  refine bodyPost_ret (results_ct rfl _ _ gb224 24 #[.bool false, .string (⟨#[]⟩ : ByteArray), .string (⟨#[]⟩ : ByteArray), .bool false, .string (⟨#[]⟩ : ByteArray)] (0, 0) _ rfl xbk Tryd.underlying24 rfl (by kernel_rfl)) rfl ?_
  exact ⟨xre, xbl⟩
def monikerref01_Value.l0 : Nat → Int → Int → Option (Int)
  | 0, _, _ => none
  | k + 1, x0, x3 => if x3 < 16 then (if 0 ≤ x3 then (if x0 = (bt (⟨#[48, 49, 50, 51, 52, 53, 54, 55, 56, 57, 65, 66, 67, 68, 69, 70]⟩ : ByteArray) x3) then (some x3) else (if x0 = (bt (⟨#[48, 49, 50, 51, 52, 53, 54, 55, 56, 57, 97, 98, 99, 100, 101, 102]⟩ : ByteArray) x3) then (some x3) else (monikerref01_Value.l0 k x0 (wrap64 (x3 + 1))))) else (none)) else (some (-1))
def monikerref01_Value.f (k : Nat) (a0 : Int) : Option (Int) := monikerref01_Value.l0 k a0 0
theorem monikerref01_Value.mono_l : ∀ k, (∀ y0 y1, LeO (monikerref01_Value.l0 k y0 y1) (monikerref01_Value.l0 (k + 1) y0 y1))
  | 0 => fun _ _ r h => by simp [monikerref01_Value.l0] at h
  | k + 1 => by
    have ih0 := monikerref01_Value.mono_l k
    · intro y0 y1
      unfold monikerref01_Value.l0
      exact xmo
theorem monikerref01_Value.mono : ∀ a0 k, LeO (monikerref01_Value.f k a0) (monikerref01_Value.f (k + 1) a0) := by
  intro a0 k
  have ih0 := monikerref01_Value.mono_l k
  unfold monikerref01_Value.f
  exact xmo
set_option maxHeartbeats 8000000 in
set_option maxRecDepth 100000 in
theorem monikerref01_Value.calls (k : Nat) (a0 : Int) (r : Int) (w : World) (h : monikerref01_Value.f k a0 = some r) :
    Calls Tryd.prog 39 #[.int .u8 a0] w fun e w' => e = .returned (.int .i64 r) ∧ Drawn0 w w' := by
 have H : (monikerref01_Value.l0 k a0 0) = some r := h
 clear h
 have H' := Aside0.mk H
 clear H
 go_enter Tryd.func39, Tryd.ntmps39
 go_wp2
 go_loopg [3] k (fun kq v3 w' => ∃ (x3_1 : Int), v3 = .int .i64 x3_1 ∧ Aside0 (monikerref01_Value.l0 kq a0 x3_1 = some r) ∧ Aside0 (kq ≤ k) ∧ Drawn0 w w')
 case atStart => exact ⟨(0), xrr, H', ⟨Nat.le_refl _⟩, xdr⟩
 case round =>
  clear H'
  obtain ⟨x3_1, rfl, HA, HK1, ⟨m1, rfl⟩⟩ := hrel
  cases gk with
  | zero => exact absurd HA.out (by simp [monikerref01_Value.l0])
  | succ k1 =>
   have H := HA.out
   clear HA
   simp only [monikerref01_Value.l0] at H
   by_cases c2 : x3_1 < 16
   ·
    rw [if_pos c2] at H
    have c2b0 := decide_eq_true c2
    clear c2
    by_cases c3 : 0 ≤ x3_1
    ·
     rw [if_pos c3] at H
     have c3b0 := decide_eq_true c3
     clear c3
     by_cases c5 : a0 = (bt (⟨#[48, 49, 50, 51, 52, 53, 54, 55, 56, 57, 65, 66, 67, 68, 69, 70]⟩ : ByteArray) x3_1)
     ·
      rw [if_pos c5] at H
      have c5b0 : (a0 == (bt (⟨#[48, 49, 50, 51, 52, 53, 54, 55, 56, 57, 65, 66, 67, 68, 69, 70]⟩ : ByteArray) x3_1)) = true := beq_iff_eq.mpr c5
      have c5b1 : (a0 != (bt (⟨#[48, 49, 50, 51, 52, 53, 54, 55, 56, 57, 65, 66, 67, 68, 69, 70]⟩ : ByteArray) x3_1)) = false := bne_eq_false_iff_eq.mpr c5
      clear c5
      obtain rfl := Option.some.inj H
      have p4 : 0 ≤ (x3_1 : Int) := xod
      have q4 : x3_1 < (16 : Int) := xod
      have hx4 := bt_at (⟨#[48, 49, 50, 51, 52, 53, 54, 55, 56, 57, 65, 66, 67, 68, 69, 70]⟩ : ByteArray) x3_1
      replace p4 := eq_true p4
      replace q4 := eq_true q4
      try (have q4x := q4; simp only [ByteArray.size_extract, Nat.min_self] at q4x)
      go_wp2
      go_ret
      exact ⟨xrr, xdr⟩
     ·
      rw [if_neg c5] at H
      have c5b0 : (a0 == (bt (⟨#[48, 49, 50, 51, 52, 53, 54, 55, 56, 57, 65, 66, 67, 68, 69, 70]⟩ : ByteArray) x3_1)) = false := beq_eq_false_iff_ne.mpr c5
      have c5b1 : (a0 != (bt (⟨#[48, 49, 50, 51, 52, 53, 54, 55, 56, 57, 65, 66, 67, 68, 69, 70]⟩ : ByteArray) x3_1)) = true := bne_iff_ne.mpr c5
      by_cases c7 : a0 = (bt (⟨#[48, 49, 50, 51, 52, 53, 54, 55, 56, 57, 97, 98, 99, 100, 101, 102]⟩ : ByteArray) x3_1)
      ·
       rw [if_pos c7] at H
       have c7b0 : (a0 == (bt (⟨#[48, 49, 50, 51, 52, 53, 54, 55, 56, 57, 97, 98, 99, 100, 101, 102]⟩ : ByteArray) x3_1)) = true := beq_iff_eq.mpr c7
       have c7b1 : (a0 != (bt (⟨#[48, 49, 50, 51, 52, 53, 54, 55, 56, 57, 97, 98, 99, 100, 101, 102]⟩ : ByteArray) x3_1)) = false := bne_eq_false_iff_eq.mpr c7
       clear c7
       obtain rfl := Option.some.inj H
       have p4 : 0 ≤ (x3_1 : Int) := xod
       have q4 : x3_1 < (16 : Int) := xod
       have hx4 := bt_at (⟨#[48, 49, 50, 51, 52, 53, 54, 55, 56, 57, 65, 66, 67, 68, 69, 70]⟩ : ByteArray) x3_1
       replace p4 := eq_true p4
       replace q4 := eq_true q4
       try (have q4x := q4; simp only [ByteArray.size_extract, Nat.min_self] at q4x)
       have p6 : 0 ≤ (x3_1 : Int) := xod
       have q6 : x3_1 < (16 : Int) := xod
       have hx6 := bt_at (⟨#[48, 49, 50, 51, 52, 53, 54, 55, 56, 57, 97, 98, 99, 100, 101, 102]⟩ : ByteArray) x3_1
       replace p6 := eq_true p6
       replace q6 := eq_true q6
       try (have q6x := q6; simp only [ByteArray.size_extract, Nat.min_self] at q6x)
       go_wp2
       go_ret
       exact ⟨xrr, xdr⟩
      ·
       rw [if_neg c7] at H
       have c7b0 : (a0 == (bt (⟨#[48, 49, 50, 51, 52, 53, 54, 55, 56, 57, 97, 98, 99, 100, 101, 102]⟩ : ByteArray) x3_1)) = false := beq_eq_false_iff_ne.mpr c7
       have c7b1 : (a0 != (bt (⟨#[48, 49, 50, 51, 52, 53, 54, 55, 56, 57, 97, 98, 99, 100, 101, 102]⟩ : ByteArray) x3_1)) = true := bne_iff_ne.mpr c7
       have H' := Aside0.mk H
       clear H
       have p4 : 0 ≤ (x3_1 : Int) := xod
       have q4 : x3_1 < (16 : Int) := xod
       have hx4 := bt_at (⟨#[48, 49, 50, 51, 52, 53, 54, 55, 56, 57, 65, 66, 67, 68, 69, 70]⟩ : ByteArray) x3_1
       replace p4 := eq_true p4
       replace q4 := eq_true q4
       try (have q4x := q4; simp only [ByteArray.size_extract, Nat.min_self] at q4x)
       have p6 : 0 ≤ (x3_1 : Int) := xod
       have q6 : x3_1 < (16 : Int) := xod
       have hx6 := bt_at (⟨#[48, 49, 50, 51, 52, 53, 54, 55, 56, 57, 97, 98, 99, 100, 101, 102]⟩ : ByteArray) x3_1
       replace p6 := eq_true p6
       replace q6 := eq_true q6
       try (have q6x := q6; simp only [ByteArray.size_extract, Nat.min_self] at q6x)
       go_wp2
       go_roundg k1
       case measure => have := HK1.out; omega
       case rel => exact ⟨(wrap64 (x3_1 + 1)), xrr, H', ⟨by have := HK1.out; omega⟩, xdr⟩
    ·
     rw [if_neg c3] at H
     exact absurd H (by simp)
   ·
    rw [if_neg c2] at H
    have c2b0 := decide_eq_false c2
    clear c2
    obtain rfl := Option.some.inj H
    go_wp2
    go_ret
    exact ⟨xrr, xdr⟩
def monikerref04_At.j0 : Nat → ByteArray → Int → Bool → Option (Int)
  | 0, _, _, _ => none
  | k + 1, x0, x1, x27 => if x27 = true then (some (-1)) else (if 0 ≤ (wrap64 (x1 + 1)) then (if (wrap64 (x1 + 1)) < (x0.size : Int) then ((monikerref01_Value.f k (bt x0 (wrap64 (x1 + 1)))).bind fun t232 => (if 0 ≤ (wrap64 (x1 + 2)) then (if (wrap64 (x1 + 2)) < (x0.size : Int) then ((monikerref01_Value.f k (bt x0 (wrap64 (x1 + 2)))).bind fun t233 => (if t232 < 0 then (some (-1)) else (if t233 < 0 then (some (-1)) else (some (wrap64 ((wrap64 (16 * t232)) + t233)))))) else (none)) else (none))) else (none)) else (none))
def monikerref04_At.f (k : Nat) (a0 : ByteArray) (a1 : Int) : Option (Int) := if a1 < 0 then (monikerref04_At.j0 k a0 a1 true) else (if a1 ≥ (a0.size : Int) then (monikerref04_At.j0 k a0 a1 true) else (if (wrap64 ((a0.size : Int) - a1)) < 3 then (monikerref04_At.j0 k a0 a1 true) else (if 0 ≤ a1 then (if a1 < (a0.size : Int) then (monikerref04_At.j0 k a0 a1 ((bt a0 a1) != 37)) else (none)) else (none))))
theorem monikerref04_At.mono_l : ∀ k, (∀ y0 y1 y2, LeO (monikerref04_At.j0 k y0 y1 y2) (monikerref04_At.j0 (k + 1) y0 y1 y2))
  | 0 => fun _ _ _ r h => by simp [monikerref04_At.j0] at h
  | k + 1 => by
    have ih0 := monikerref04_At.mono_l k
    have m0 := @monikerref01_Value.mono
    · intro y0 y1 y2
      unfold monikerref04_At.j0
      exact xmo
theorem monikerref04_At.mono : ∀ a0 a1 k, LeO (monikerref04_At.f k a0 a1) (monikerref04_At.f (k + 1) a0 a1) := by
  intro a0 a1 k
  have ih0 := monikerref04_At.mono_l k
  have m0 := @monikerref01_Value.mono
  unfold monikerref04_At.f
  exact xmo
set_option maxHeartbeats 8000000 in
set_option maxRecDepth 100000 in
theorem monikerref04_At.calls (k : Nat) (a0 : ByteArray) (a1 : Int) (r : Int) (w : World) (h : monikerref04_At.f k a0 a1 = some r) :
    Calls Tryd.prog 34 #[.string a0, .int .i64 a1] w fun e w' => e = .returned (.int .i64 r) ∧ Drawn0 w w' := by
 have H : (if a1 < 0 then (monikerref04_At.j0 k a0 a1 true) else (if a1 ≥ (a0.size : Int) then (monikerref04_At.j0 k a0 a1 true) else (if (wrap64 ((a0.size : Int) - a1)) < 3 then (monikerref04_At.j0 k a0 a1 true) else (if 0 ≤ a1 then (if a1 < (a0.size : Int) then (monikerref04_At.j0 k a0 a1 ((bt a0 a1) != 37)) else (none)) else (none))))) = some r := h
 clear h
 have HC3 := Aside0.mk H
 clear H
 go_enter Tryd.func34, Tryd.ntmps34
 go_upto_region 1 with (fail)
 repeat (go_quiet (fail); go_upto_region 1 with (fail))
 go_cut [27] (fun v27 wc => ∃ (kq : Nat) (x27_2 : Bool), v27 = .bool x27_2 ∧ Aside0 (monikerref04_At.j0 kq a0 a1 x27_2 = some r) ∧ Aside0 (kq ≤ k) ∧ Drawn0 w wc)
 case first =>
  have H := HC3.out
  clear HC3
  by_cases c4 : a1 < 0
  ·
   rw [if_pos c4] at H
   have c4b0 := decide_eq_true c4
   clear c4
   (first | rw [c4b0] | (simp only [i64_w, i32_w]; rw [c4b0]) | skip)
   have H' := Aside0.mk H
   clear H
   go_wp2
   repeat (go_quiet (fail); try go_wp2)
   go_meet
   case rel => exact ⟨_, (true), xrr, H', ⟨xom⟩, xdr⟩
  ·
   rw [if_neg c4] at H
   have c4b0 := decide_eq_false c4
   clear c4
   (first | rw [c4b0] | (simp only [i64_w, i32_w]; rw [c4b0]) | skip)
   by_cases c5 : a1 ≥ (a0.size : Int)
   ·
    rw [if_pos c5] at H
    have c5b0 := decide_eq_true c5
    clear c5
    have H' := Aside0.mk H
    clear H
    go_wp2
    repeat (go_quiet (fail); try go_wp2)
    go_meet
    case rel => exact ⟨_, (true), xrr, H', ⟨xom⟩, xdr⟩
   ·
    rw [if_neg c5] at H
    have c5b0 := decide_eq_false c5
    clear c5
    by_cases c6 : (wrap64 ((a0.size : Int) - a1)) < 3
    ·
     rw [if_pos c6] at H
     have c6b0 := decide_eq_true c6
     clear c6
     have H' := Aside0.mk H
     clear H
     go_wp2
     repeat (go_quiet (fail); try go_wp2)
     go_meet
     case rel => exact ⟨_, (true), xrr, H', ⟨xom⟩, xdr⟩
    ·
     rw [if_neg c6] at H
     have c6b0 := decide_eq_false c6
     clear c6
     by_cases c7 : 0 ≤ a1
     ·
      rw [if_pos c7] at H
      have c7b0 := decide_eq_true c7
      clear c7
      by_cases c8 : a1 < (a0.size : Int)
      ·
       rw [if_pos c8] at H
       have c8b0 := decide_eq_true c8
       clear c8
       have H' := Aside0.mk H
       clear H
       have p9 : 0 ≤ (a1 : Int) := xod
       have q9 : a1 < (a0.size : Int) := xod
       have hx9 := bt_at a0 a1
       replace p9 := eq_true p9
       replace q9 := eq_true q9
       try (have q9x := q9; simp only [ByteArray.size_extract, Nat.min_self] at q9x)
       go_wp2
       repeat (go_quiet (fail); try go_wp2)
       go_meet
       case rel => exact ⟨_, (((bt a0 a1) != 37)), xrr, H', ⟨xom⟩, xdr⟩
      ·
       rw [if_neg c8] at H
       exact absurd H (by simp)
     ·
      rw [if_neg c7] at H
      exact absurd H (by simp)
 case rest =>
  clear HC3
  obtain ⟨kq, x27_2, rfl, HA, HJ2, ⟨mc2, rfl⟩⟩ := hcut
  cases kq with
  | zero => exact absurd HA.out (by simp [monikerref04_At.j0])
  | succ kj2 =>
   have H := HA.out
   clear HA
   simp only [monikerref04_At.j0] at H
   by_cases c10 : x27_2 = true
   ·
    subst c10
    rw [if_pos rfl] at H
    obtain rfl := Option.some.inj H
    go_wp2
    repeat (go_quiet (fail); try go_wp2)
    go_ret
    exact ⟨xrr, xdr⟩
   ·
    replace c10 := Bool.eq_false_iff.mpr c10
    subst c10
    rw [if_neg (show ¬ (false = true) by decide)] at H
    obtain ⟨ji11, hji11⟩ : ∃ j_ : Int, (wrap64 (a1 + 1)) = j_ := ⟨_, rfl⟩
    first | rw [hji11] at H | simp only [hji11] at H | skip
    have hji11w : (IntKind.i64.wrap (a1 + 1)) = ji11 := (i64_w _).trans hji11
    by_cases c12 : 0 ≤ (ji11)
    ·
     rw [if_pos c12] at H
     have c12b0 := decide_eq_true c12
     clear c12
     by_cases c13 : (ji11) < (a0.size : Int)
     ·
      rw [if_pos c13] at H
      have c13b0 := decide_eq_true c13
      clear c13
      replace H := Option.bind_eq_some_iff.mp H
      obtain ⟨t232, A150, H⟩ := H
      try dsimp only at H
      have A15 := Aside0.mk A150
      clear A150
      obtain ⟨ji16, hji16⟩ : ∃ j_ : Int, (wrap64 (a1 + 2)) = j_ := ⟨_, rfl⟩
      first | rw [hji16] at H | simp only [hji16] at H | skip
      (try rw [hji16] at A15)
      have hji16w : (IntKind.i64.wrap (a1 + 2)) = ji16 := (i64_w _).trans hji16
      by_cases c17 : 0 ≤ (ji16)
      ·
       rw [if_pos c17] at H
       have c17b0 := decide_eq_true c17
       clear c17
       by_cases c18 : (ji16) < (a0.size : Int)
       ·
        rw [if_pos c18] at H
        have c18b0 := decide_eq_true c18
        clear c18
        replace H := Option.bind_eq_some_iff.mp H
        obtain ⟨t233, A200, H⟩ := H
        try dsimp only at H
        have A20 := Aside0.mk A200
        clear A200
        by_cases c21 : t232 < 0
        ·
         rw [if_pos c21] at H
         have c21b0 := decide_eq_true c21
         clear c21
         obtain rfl := Option.some.inj H
         have p14 : 0 ≤ ((ji11) : Int) := xod
         have q14 : (ji11) < (a0.size : Int) := xod
         have hx14 := bt_at a0 (ji11)
         replace p14 := eq_true p14
         replace q14 := eq_true q14
         try (have q14x := q14; simp only [ByteArray.size_extract, Nat.min_self] at q14x)
         go_wp2_with (first | (go_at_call 39; (with_reducible refine (monikerref01_Value.calls kj2 (bt a0 (ji11)) t232 _ A15.out).mono ?_); rintro e w' ⟨rfl, ⟨nd, rfl⟩⟩; (try first | exact ⟨rfl, _, World.drewN_drewN _ _ _⟩ | exact ⟨rfl, _, Eq.trans (World.drewN_drewN _ _ _) (congrArg (World.drewN _) (Nat.add_assoc _ _ _))⟩); have p19 : 0 ≤ ((ji16) : Int) := xod; have q19 : (ji16) < (a0.size : Int) := xod; have hx19 := bt_at a0 (ji16); replace p19 := eq_true p19; replace q19 := eq_true q19) | (go_at_call 39; (with_reducible refine (monikerref01_Value.calls kj2 (bt a0 (ji16)) t233 _ A20.out).mono ?_); rintro e w' ⟨rfl, ⟨nd, rfl⟩⟩; (try first | exact ⟨rfl, _, World.drewN_drewN _ _ _⟩ | exact ⟨rfl, _, Eq.trans (World.drewN_drewN _ _ _) (congrArg (World.drewN _) (Nat.add_assoc _ _ _))⟩)))
         repeat (go_quiet (first | (go_at_call 39; (with_reducible refine (monikerref01_Value.calls kj2 (bt a0 (ji11)) t232 _ A15.out).mono ?_); rintro e w' ⟨rfl, ⟨nd, rfl⟩⟩; (try first | exact ⟨rfl, _, World.drewN_drewN _ _ _⟩ | exact ⟨rfl, _, Eq.trans (World.drewN_drewN _ _ _) (congrArg (World.drewN _) (Nat.add_assoc _ _ _))⟩); have p19 : 0 ≤ ((ji16) : Int) := xod; have q19 : (ji16) < (a0.size : Int) := xod; have hx19 := bt_at a0 (ji16); replace p19 := eq_true p19; replace q19 := eq_true q19) | (go_at_call 39; (with_reducible refine (monikerref01_Value.calls kj2 (bt a0 (ji16)) t233 _ A20.out).mono ?_); rintro e w' ⟨rfl, ⟨nd, rfl⟩⟩; (try first | exact ⟨rfl, _, World.drewN_drewN _ _ _⟩ | exact ⟨rfl, _, Eq.trans (World.drewN_drewN _ _ _) (congrArg (World.drewN _) (Nat.add_assoc _ _ _))⟩))); try go_wp2_with (first | (go_at_call 39; (with_reducible refine (monikerref01_Value.calls kj2 (bt a0 (ji11)) t232 _ A15.out).mono ?_); rintro e w' ⟨rfl, ⟨nd, rfl⟩⟩; (try first | exact ⟨rfl, _, World.drewN_drewN _ _ _⟩ | exact ⟨rfl, _, Eq.trans (World.drewN_drewN _ _ _) (congrArg (World.drewN _) (Nat.add_assoc _ _ _))⟩); have p19 : 0 ≤ ((ji16) : Int) := xod; have q19 : (ji16) < (a0.size : Int) := xod; have hx19 := bt_at a0 (ji16); replace p19 := eq_true p19; replace q19 := eq_true q19) | (go_at_call 39; (with_reducible refine (monikerref01_Value.calls kj2 (bt a0 (ji16)) t233 _ A20.out).mono ?_); rintro e w' ⟨rfl, ⟨nd, rfl⟩⟩; (try first | exact ⟨rfl, _, World.drewN_drewN _ _ _⟩ | exact ⟨rfl, _, Eq.trans (World.drewN_drewN _ _ _) (congrArg (World.drewN _) (Nat.add_assoc _ _ _))⟩))))
         go_ret
         exact ⟨by first | rfl | (simp; done) | (simp only [← hji11, ← hji16] <;> (first | rfl | simp)) | (simp [*]; done) | (simp [wrap64]; done), xdr⟩
        ·
         rw [if_neg c21] at H
         have c21b0 := decide_eq_false c21
         clear c21
         by_cases c22 : t233 < 0
         ·
          rw [if_pos c22] at H
          have c22b0 := decide_eq_true c22
          clear c22
          obtain rfl := Option.some.inj H
          have p14 : 0 ≤ ((ji11) : Int) := xod
          have q14 : (ji11) < (a0.size : Int) := xod
          have hx14 := bt_at a0 (ji11)
          replace p14 := eq_true p14
          replace q14 := eq_true q14
          try (have q14x := q14; simp only [ByteArray.size_extract, Nat.min_self] at q14x)
          go_wp2_with (first | (go_at_call 39; (with_reducible refine (monikerref01_Value.calls kj2 (bt a0 (ji11)) t232 _ A15.out).mono ?_); rintro e w' ⟨rfl, ⟨nd, rfl⟩⟩; (try first | exact ⟨rfl, _, World.drewN_drewN _ _ _⟩ | exact ⟨rfl, _, Eq.trans (World.drewN_drewN _ _ _) (congrArg (World.drewN _) (Nat.add_assoc _ _ _))⟩); have p19 : 0 ≤ ((ji16) : Int) := xod; have q19 : (ji16) < (a0.size : Int) := xod; have hx19 := bt_at a0 (ji16); replace p19 := eq_true p19; replace q19 := eq_true q19) | (go_at_call 39; (with_reducible refine (monikerref01_Value.calls kj2 (bt a0 (ji16)) t233 _ A20.out).mono ?_); rintro e w' ⟨rfl, ⟨nd, rfl⟩⟩; (try first | exact ⟨rfl, _, World.drewN_drewN _ _ _⟩ | exact ⟨rfl, _, Eq.trans (World.drewN_drewN _ _ _) (congrArg (World.drewN _) (Nat.add_assoc _ _ _))⟩)))
          repeat (go_quiet (first | (go_at_call 39; (with_reducible refine (monikerref01_Value.calls kj2 (bt a0 (ji11)) t232 _ A15.out).mono ?_); rintro e w' ⟨rfl, ⟨nd, rfl⟩⟩; (try first | exact ⟨rfl, _, World.drewN_drewN _ _ _⟩ | exact ⟨rfl, _, Eq.trans (World.drewN_drewN _ _ _) (congrArg (World.drewN _) (Nat.add_assoc _ _ _))⟩); have p19 : 0 ≤ ((ji16) : Int) := xod; have q19 : (ji16) < (a0.size : Int) := xod; have hx19 := bt_at a0 (ji16); replace p19 := eq_true p19; replace q19 := eq_true q19) | (go_at_call 39; (with_reducible refine (monikerref01_Value.calls kj2 (bt a0 (ji16)) t233 _ A20.out).mono ?_); rintro e w' ⟨rfl, ⟨nd, rfl⟩⟩; (try first | exact ⟨rfl, _, World.drewN_drewN _ _ _⟩ | exact ⟨rfl, _, Eq.trans (World.drewN_drewN _ _ _) (congrArg (World.drewN _) (Nat.add_assoc _ _ _))⟩))); try go_wp2_with (first | (go_at_call 39; (with_reducible refine (monikerref01_Value.calls kj2 (bt a0 (ji11)) t232 _ A15.out).mono ?_); rintro e w' ⟨rfl, ⟨nd, rfl⟩⟩; (try first | exact ⟨rfl, _, World.drewN_drewN _ _ _⟩ | exact ⟨rfl, _, Eq.trans (World.drewN_drewN _ _ _) (congrArg (World.drewN _) (Nat.add_assoc _ _ _))⟩); have p19 : 0 ≤ ((ji16) : Int) := xod; have q19 : (ji16) < (a0.size : Int) := xod; have hx19 := bt_at a0 (ji16); replace p19 := eq_true p19; replace q19 := eq_true q19) | (go_at_call 39; (with_reducible refine (monikerref01_Value.calls kj2 (bt a0 (ji16)) t233 _ A20.out).mono ?_); rintro e w' ⟨rfl, ⟨nd, rfl⟩⟩; (try first | exact ⟨rfl, _, World.drewN_drewN _ _ _⟩ | exact ⟨rfl, _, Eq.trans (World.drewN_drewN _ _ _) (congrArg (World.drewN _) (Nat.add_assoc _ _ _))⟩))))
          go_ret
          exact ⟨by first | rfl | (simp; done) | (simp only [← hji11, ← hji16] <;> (first | rfl | simp)) | (simp [*]; done) | (simp [wrap64]; done), xdr⟩
         ·
          rw [if_neg c22] at H
          have c22b0 := decide_eq_false c22
          clear c22
          obtain rfl := Option.some.inj H
          have p14 : 0 ≤ ((ji11) : Int) := xod
          have q14 : (ji11) < (a0.size : Int) := xod
          have hx14 := bt_at a0 (ji11)
          replace p14 := eq_true p14
          replace q14 := eq_true q14
          try (have q14x := q14; simp only [ByteArray.size_extract, Nat.min_self] at q14x)
          go_wp2_with (first | (go_at_call 39; (with_reducible refine (monikerref01_Value.calls kj2 (bt a0 (ji11)) t232 _ A15.out).mono ?_); rintro e w' ⟨rfl, ⟨nd, rfl⟩⟩; (try first | exact ⟨rfl, _, World.drewN_drewN _ _ _⟩ | exact ⟨rfl, _, Eq.trans (World.drewN_drewN _ _ _) (congrArg (World.drewN _) (Nat.add_assoc _ _ _))⟩); have p19 : 0 ≤ ((ji16) : Int) := xod; have q19 : (ji16) < (a0.size : Int) := xod; have hx19 := bt_at a0 (ji16); replace p19 := eq_true p19; replace q19 := eq_true q19) | (go_at_call 39; (with_reducible refine (monikerref01_Value.calls kj2 (bt a0 (ji16)) t233 _ A20.out).mono ?_); rintro e w' ⟨rfl, ⟨nd, rfl⟩⟩; (try first | exact ⟨rfl, _, World.drewN_drewN _ _ _⟩ | exact ⟨rfl, _, Eq.trans (World.drewN_drewN _ _ _) (congrArg (World.drewN _) (Nat.add_assoc _ _ _))⟩)))
          repeat (go_quiet (first | (go_at_call 39; (with_reducible refine (monikerref01_Value.calls kj2 (bt a0 (ji11)) t232 _ A15.out).mono ?_); rintro e w' ⟨rfl, ⟨nd, rfl⟩⟩; (try first | exact ⟨rfl, _, World.drewN_drewN _ _ _⟩ | exact ⟨rfl, _, Eq.trans (World.drewN_drewN _ _ _) (congrArg (World.drewN _) (Nat.add_assoc _ _ _))⟩); have p19 : 0 ≤ ((ji16) : Int) := xod; have q19 : (ji16) < (a0.size : Int) := xod; have hx19 := bt_at a0 (ji16); replace p19 := eq_true p19; replace q19 := eq_true q19) | (go_at_call 39; (with_reducible refine (monikerref01_Value.calls kj2 (bt a0 (ji16)) t233 _ A20.out).mono ?_); rintro e w' ⟨rfl, ⟨nd, rfl⟩⟩; (try first | exact ⟨rfl, _, World.drewN_drewN _ _ _⟩ | exact ⟨rfl, _, Eq.trans (World.drewN_drewN _ _ _) (congrArg (World.drewN _) (Nat.add_assoc _ _ _))⟩))); try go_wp2_with (first | (go_at_call 39; (with_reducible refine (monikerref01_Value.calls kj2 (bt a0 (ji11)) t232 _ A15.out).mono ?_); rintro e w' ⟨rfl, ⟨nd, rfl⟩⟩; (try first | exact ⟨rfl, _, World.drewN_drewN _ _ _⟩ | exact ⟨rfl, _, Eq.trans (World.drewN_drewN _ _ _) (congrArg (World.drewN _) (Nat.add_assoc _ _ _))⟩); have p19 : 0 ≤ ((ji16) : Int) := xod; have q19 : (ji16) < (a0.size : Int) := xod; have hx19 := bt_at a0 (ji16); replace p19 := eq_true p19; replace q19 := eq_true q19) | (go_at_call 39; (with_reducible refine (monikerref01_Value.calls kj2 (bt a0 (ji16)) t233 _ A20.out).mono ?_); rintro e w' ⟨rfl, ⟨nd, rfl⟩⟩; (try first | exact ⟨rfl, _, World.drewN_drewN _ _ _⟩ | exact ⟨rfl, _, Eq.trans (World.drewN_drewN _ _ _) (congrArg (World.drewN _) (Nat.add_assoc _ _ _))⟩))))
          go_ret
          exact ⟨by first | rfl | (simp; done) | (simp only [← hji11, ← hji16] <;> (first | rfl | simp)) | (simp [*]; done) | (simp [wrap64]; done), xdr⟩
       ·
        rw [if_neg c18] at H
        exact absurd H (by simp)
      ·
       rw [if_neg c17] at H
       exact absurd H (by simp)
     ·
      rw [if_neg c13] at H
      exact absurd H (by simp)
    ·
     rw [if_neg c12] at H
     exact absurd H (by simp)
def monikerref02_row_nums : List Int := [0, 127, 0, 0, 1, 194, 223, 128, 191, 2, 224, 224, 160, 191, 3, 225, 236, 128, 191, 3, 237, 237, 128, 159, 3, 238, 239, 128, 191, 3, 240, 240, 144, 191, 4, 241, 243, 128, 191, 4, 244, 244, 128, 143, 4]
def monikerref02_row_cells : Array Value := (monikerref02_row_nums.map (Value.int .i64)).toArray
def monikerref02_row_zeros : Array Value := #[.int .i64 0, .int .i64 0, .int .i64 0, .int .i64 0, .int .i64 0]
def monikerref02_row_at (i j : Nat) : Int := monikerref02_row_nums.getD (i * 5 + j) 0
theorem monikerref02_row_cell {w : World} {g : Nat} (h : w.heap[g]? = some (.cells monikerref02_row_cells 101 (0, 0))) (i j : Nat) (hi : i < 9) (hj : j < 5) : w.cell? ⟨g, i * 5 + j, none⟩ = some (.int .i64 (monikerref02_row_at i j)) := by
  rw [cell_of_row w g _ _ _ _ h]
  unfold monikerref02_row_cells monikerref02_row_at
  have hl : i * 5 + j < monikerref02_row_nums.length := by show i * 5 + j < 45; omega
  simp [List.getElem?_eq_getElem hl, List.getD_eq_getElem?_getD]
theorem monikerref02_row_setRow_other (w : World) (g i : Nat) (cs : Array Value) (h : i ≠ g) : (w.setRow g cs).heap[i]? = w.heap[i]? := by
  simp only [World.setRow, Array.getElem?_modify, if_neg (Ne.symm h)]
theorem monikerref02_row_below {b : Nat} {w w2 : World} (h : Below b w w2) {g : Nat} (hg : b ≤ g) (cs : Array Value) : Below b w (w2.setRow g cs) :=
  h.trans ⟨rfl, rfl, rfl, by simp, fun k hk => monikerref02_row_setRow_other _ _ _ _ (by omega)⟩
theorem monikerref02_row_two (w : World) (a b c : Array Value) (s t : TypeId) :
    let w2 := ((w.alloc (.cells a s)).alloc (.cells b t)).setRow (w.heap.size + 1) c
    w2.heap[w.heap.size]? = some (.cells a s (0, 0)) ∧ w2.heap[w.heap.size + 1]? = some (.cells c t (0, 0)) ∧ Below w.heap.size w w2 := by
  intro w2
  refine ⟨?_, setRow_heap _ _ _ _ _ _ (heap_alloc2_new w _ _), ?_⟩
  · rw [monikerref02_row_setRow_other _ _ _ _ (by omega)]
    exact heap_alloc2_old w _ _
  · exact monikerref02_row_below (((Below.refl _ _).alloc (Nat.le_refl _) _).alloc (by simp) _) (by omega) _
set_option maxHeartbeats 2000000 in
set_option maxRecDepth 100000 in
theorem monikerref02_row_any (i : Nat) (hi : i < 9) (w : World) : Calls Tryd.prog 54 #[.int .i64 i] w fun e w' => e = .returned (.agg #[.int .i64 (monikerref02_row_at i 0), .int .i64 (monikerref02_row_at i 1), .int .i64 (monikerref02_row_at i 2), .int .i64 (monikerref02_row_at i 3), .int .i64 (monikerref02_row_at i 4)]) ∧ Below w.heap.size w w' := by
  have hu5 := Tryd.underlying84
  have hu9 := Tryd.underlying101
  go_enter Tryd.func54, Tryd.ntmps54
  go_wp2_with (refine wpList_store_row rfl 101 (.tmp 3) (.tmp 13) rfl (w.heap.size + 1) monikerref02_row_cells (by as_aux_lemma => rfl) (by as_aux_lemma => rfl) 101 (Array.replicate 45 (.int .i64 0)) (by as_aux_lemma => exact heap_alloc2_new _ _ _) (by as_aux_lemma => kernel_rfl) (by as_aux_lemma => kernel_rfl) (by as_aux_lemma => kernel_rfl) ?_; have h2 := monikerref02_row_two w monikerref02_row_zeros (Array.replicate 45 (.int .i64 0)) monikerref02_row_cells 84 101; generalize hg : World.setRow _ _ _ = w2; have h3 : w2.heap[w.heap.size]? = some (.cells monikerref02_row_zeros 84 (0, 0)) ∧ w2.heap[w.heap.size + 1]? = some (.cells monikerref02_row_cells 101 (0, 0)) ∧ Below w.heap.size w w2 := hg ▸ h2; clear hg h2; obtain ⟨b1, b2, b3⟩ := h3; have hB1 := Aside0.mk b1; have hB2 := Aside0.mk b2; have hB3 := Aside0.mk b3; have c0 : w2.cell? ⟨w.heap.size + 1, i * 5, none⟩ = some (.int .i64 (monikerref02_row_at i 0)) := monikerref02_row_cell b2 i 0 hi (by omega); have c1 := monikerref02_row_cell b2 i 1 hi (by omega); have c2 := monikerref02_row_cell b2 i 2 hi (by omega); have c3 := monikerref02_row_cell b2 i 3 hi (by omega); have c4 := monikerref02_row_cell b2 i 4 hi (by omega); clear b1 b2 b3; have z0 : w2.cell? ⟨w.heap.size, 0, none⟩ = some (.int .i64 0) := (blk_cell hB1.out 0).trans rfl; have z1 : w2.cell? ⟨w.heap.size, 1, none⟩ = some (.int .i64 0) := (blk_cell hB1.out 1).trans rfl; have z2 : w2.cell? ⟨w.heap.size, 2, none⟩ = some (.int .i64 0) := (blk_cell hB1.out 2).trans rfl; have z3 : w2.cell? ⟨w.heap.size, 3, none⟩ = some (.int .i64 0) := (blk_cell hB1.out 3).trans rfl; have z4 : w2.cell? ⟨w.heap.size, 4, none⟩ = some (.int .i64 0) := (blk_cell hB1.out 4).trans rfl; have f0 := xf hB1 0; have f1 := xf hB1 1; have f2 := xf hB1 2; have f3 := xf hB1 3; have f4 := xf hB1 4; generalize hg : w.heap.size = g at *; have hG := Aside0.mk hg; clear hg)
  refine bodyPost_ret (results_cell_row rfl _ _ g 84 #[.int .i64 (monikerref02_row_at i 0), .int .i64 (monikerref02_row_at i 1), .int .i64 (monikerref02_row_at i 2), .int .i64 (monikerref02_row_at i 3), .int .i64 (monikerref02_row_at i 4)] (0, 0) _ rfl (by refine blk_put (cs := #[.int .i64 (monikerref02_row_at i 0), .int .i64 (monikerref02_row_at i 1), .int .i64 (monikerref02_row_at i 2), .int .i64 (monikerref02_row_at i 3), .int .i64 0]) ?_ 4 _ rfl; refine blk_put (cs := #[.int .i64 (monikerref02_row_at i 0), .int .i64 (monikerref02_row_at i 1), .int .i64 (monikerref02_row_at i 2), .int .i64 0, .int .i64 0]) ?_ 3 _ rfl; refine blk_put (cs := #[.int .i64 (monikerref02_row_at i 0), .int .i64 (monikerref02_row_at i 1), .int .i64 0, .int .i64 0, .int .i64 0]) ?_ 2 _ rfl; refine blk_put (cs := #[.int .i64 (monikerref02_row_at i 0), .int .i64 0, .int .i64 0, .int .i64 0, .int .i64 0]) ?_ 1 _ rfl; refine blk_put (cs := #[.int .i64 0, .int .i64 0, .int .i64 0, .int .i64 0, .int .i64 0]) ?_ 0 _ rfl; exact hB1.out) Tryd.underlying84 rfl (by kernel_rfl)) rfl ⟨rfl, ?_⟩
  have hB4 : Below w.heap.size w w2 := by rw [hG.out]; exact hB3.out
  repeat (first | exact hB4 | refine below_set ?_ (Nat.le_of_eq hG.out))
def monikerref02_row.f (a0 : Int) : Option (Int × Int × Int × Int × Int) := if 0 ≤ a0 ∧ a0 < 9 then some (monikerref02_row_at a0.toNat 0, monikerref02_row_at a0.toNat 1, monikerref02_row_at a0.toNat 2, monikerref02_row_at a0.toNat 3, monikerref02_row_at a0.toNat 4) else none
theorem monikerref02_row.calls (a0 : Int) (r1 : Int) (r2 : Int) (r3 : Int) (r4 : Int) (r5 : Int) (w : World) (h : monikerref02_row.f a0 = some (r1, r2, r3, r4, r5)) :
    Calls Tryd.prog 54 #[.int .i64 a0] w fun e w' => e = .returned (.agg #[.int .i64 r1, .int .i64 r2, .int .i64 r3, .int .i64 r4, .int .i64 r5]) ∧ Below w.heap.size w w' := by
  unfold monikerref02_row.f at h
  by_cases hc : 0 ≤ a0 ∧ a0 < 9
  · rw [if_pos hc] at h
    simp only [Option.some.injEq, Prod.mk.injEq] at h
    obtain ⟨rfl, rfl, rfl, rfl, rfl⟩ := h
    have := monikerref02_row_any a0.toNat (by omega) w
    rw [Int.toNat_of_nonneg hc.1] at this
    exact this
  · rw [if_neg hc] at h; cases h
end Go.Proofs.YtdmigmccfdhdiaaDoor.X
namespace Go.Proofs.YtdmigmccfdhdiaaDoor.X
open Go.RowKit Go.Proofs.YtdmigmccfdhdiaaDoorW.PrintWords Go.Proofs.YtdmigmccfdhdiaaDoorW.PrintLast Go.Proofs.YtdmigmccfdhdiaaDoorW.PrintMore
attribute [local go_sem] max2_int min2_int max_two min_two max_three min_three max_four min_four
set_option linter.unusedVariables false
set_option linter.unusedSimpArgs false
mutual
def monikerref02_fits.l0 : Nat → ByteArray → Int → Int → Int → Int → Int → Int → Option (Int)
  | 0, _, _, _, _, _, _, _ => none
  | k + 1, x0, x5, x235000, x235001, x235002, x235003, x235004 => if x5 < (x0.size : Int) then (monikerref02_fits.j1 k x0 x5 (decide (x5 < x235004)) x235000 x235001 x235002 x235003 x235004) else (monikerref02_fits.j1 k x0 x5 false x235000 x235001 x235002 x235003 x235004)
def monikerref02_fits.j1 : Nat → ByteArray → Int → Bool → Int → Int → Int → Int → Int → Option (Int)
  | 0, _, _, _, _, _, _, _, _ => none
  | k + 1, x0, x5, x17, x235000, x235001, x235002, x235003, x235004 => if x17 = true then (if x5 = 0 then (monikerref02_fits.j2 k x0 x5 x235000 x235001 x235000 x235001 x235002 x235003 x235004) else (monikerref02_fits.j2 k x0 x5 128 191 x235000 x235001 x235002 x235003 x235004)) else (some x5)
def monikerref02_fits.j2 : Nat → ByteArray → Int → Int → Int → Int → Int → Int → Int → Int → Option (Int)
  | 0, _, _, _, _, _, _, _, _, _ => none
  | k + 1, x0, x5, x6, x7, x235000, x235001, x235002, x235003, x235004 => if x5 = 1 then (if 0 ≤ x5 then (if x5 < (x0.size : Int) then (if (wrap64 (bt x0 x5)) < x235002 then (some x5) else (if (wrap64 (bt x0 x5)) > x235003 then (some x5) else (monikerref02_fits.l0 k x0 (wrap64 (x5 + 1)) x235000 x235001 x235002 x235003 x235004))) else (none)) else (none)) else (if 0 ≤ x5 then (if x5 < (x0.size : Int) then (if (wrap64 (bt x0 x5)) < x6 then (some x5) else (if (wrap64 (bt x0 x5)) > x7 then (some x5) else (monikerref02_fits.l0 k x0 (wrap64 (x5 + 1)) x235000 x235001 x235002 x235003 x235004))) else (none)) else (none))
end
def monikerref02_fits.f (k : Nat) (a0 : ByteArray) (a1_0 : Int) (a1_1 : Int) (a1_2 : Int) (a1_3 : Int) (a1_4 : Int) : Option (Int) := monikerref02_fits.l0 k a0 0 a1_0 a1_1 a1_2 a1_3 a1_4
theorem monikerref02_fits.mono_l : ∀ k, (∀ y0 y1 y2 y3 y4 y5 y6, LeO (monikerref02_fits.l0 k y0 y1 y2 y3 y4 y5 y6) (monikerref02_fits.l0 (k + 1) y0 y1 y2 y3 y4 y5 y6)) ∧ (∀ y0 y1 y2 y3 y4 y5 y6 y7, LeO (monikerref02_fits.j1 k y0 y1 y2 y3 y4 y5 y6 y7) (monikerref02_fits.j1 (k + 1) y0 y1 y2 y3 y4 y5 y6 y7)) ∧ (∀ y0 y1 y2 y3 y4 y5 y6 y7 y8, LeO (monikerref02_fits.j2 k y0 y1 y2 y3 y4 y5 y6 y7 y8) (monikerref02_fits.j2 (k + 1) y0 y1 y2 y3 y4 y5 y6 y7 y8))
  | 0 => ⟨fun _ _ _ _ _ _ _ r h => by simp [monikerref02_fits.l0] at h, fun _ _ _ _ _ _ _ _ r h => by simp [monikerref02_fits.j1] at h, fun _ _ _ _ _ _ _ _ _ r h => by simp [monikerref02_fits.j2] at h⟩
  | k + 1 => by
    obtain ⟨ih0, ih1, ih2⟩ := monikerref02_fits.mono_l k
    refine ⟨?_, ?_, ?_⟩
    · intro y0 y1 y2 y3 y4 y5 y6
      unfold monikerref02_fits.l0
      exact xmo
    · intro y0 y1 y2 y3 y4 y5 y6 y7
      unfold monikerref02_fits.j1
      exact xmo
    · intro y0 y1 y2 y3 y4 y5 y6 y7 y8
      unfold monikerref02_fits.j2
      exact xmo
theorem monikerref02_fits.mono : ∀ a0 a1 a2 a3 a4 a5 k, LeO (monikerref02_fits.f k a0 a1 a2 a3 a4 a5) (monikerref02_fits.f (k + 1) a0 a1 a2 a3 a4 a5) := by
  intro a0 a1 a2 a3 a4 a5 k
  obtain ⟨ih0, ih1, ih2⟩ := monikerref02_fits.mono_l k
  unfold monikerref02_fits.f
  exact xmo
set_option maxHeartbeats 8000000 in
set_option maxRecDepth 100000 in
theorem monikerref02_fits.calls (k : Nat) (a0 : ByteArray) (a1_0 : Int) (a1_1 : Int) (a1_2 : Int) (a1_3 : Int) (a1_4 : Int) (r : Int) (w : World) (h : monikerref02_fits.f k a0 a1_0 a1_1 a1_2 a1_3 a1_4 = some r) :
    Calls Tryd.prog 55 #[.string a0, .agg #[.int .i64 a1_0, .int .i64 a1_1, .int .i64 a1_2, .int .i64 a1_3, .int .i64 a1_4]] w fun e w' => e = .returned (.int .i64 r) ∧ Below w.heap.size w w' := by
 have hu84 := Tryd.underlying84
 have HB := Aside0.mk (Below.refl w.heap.size w)
 have H : (monikerref02_fits.l0 k a0 0 a1_0 a1_1 a1_2 a1_3 a1_4) = some r := h
 clear h
 have H' := Aside0.mk H
 clear H
 go_enter Tryd.func55, Tryd.ntmps55
 go_wp2_with (first | ((with_reducible refine gate_dst (N := 3) rfl ?_); refine xev 3 #[.int .i64 a1_0, .int .i64 a1_1, .int .i64 a1_2, .int .i64 a1_3, .int .i64 a1_4] 84 ?_; intro gb234 hg w3 hbox hb; have BK234 := Aside0.mk (hbox); have GW234 := xsz hg; have GE234 := GW234; replace HB := xst hb; clear hb hbox hg))
 go_loopg [5] k (fun kq v5 w' => ∃ (x5_1 : Int), v5 = .int .i64 x5_1 ∧ Aside0 (monikerref02_fits.l0 kq a0 x5_1 a1_0 a1_1 a1_2 a1_3 a1_4 = some r) ∧ Aside0 (kq ≤ k) ∧ Aside0 (w'.heap[gb234]? = some (.cells #[.int .i64 a1_0, .int .i64 a1_1, .int .i64 a1_2, .int .i64 a1_3, .int .i64 a1_4] 84 (0, 0))) ∧ Aside0 (Below w.heap.size w w'))
 case atStart => exact ⟨(0), xrr, H', ⟨Nat.le_refl _⟩, ⟨xbk⟩, ⟨xbl⟩⟩
 case round =>
  clear H'
  obtain ⟨x5_1, rfl, HA, HK1, BK234, HB⟩ := hrel
  cases gk with
  | zero => exact absurd HA.out (by simp [monikerref02_fits.l0])
  | succ k1 =>
   have H := HA.out
   clear HA
   simp only [monikerref02_fits.l0] at H
   have HC4 := Aside0.mk H
   clear H
   go_upto_region 2 with (fail)
   go_cut [17] (fun v17 wc => ∃ (kq : Nat) (x17_3 : Bool), v17 = .bool x17_3 ∧ Aside0 (monikerref02_fits.j1 kq a0 x5_1 x17_3 a1_0 a1_1 a1_2 a1_3 a1_4 = some r) ∧ Aside0 (kq ≤ k1) ∧ Aside0 (wc.heap[gb234]? = some (.cells #[.int .i64 a1_0, .int .i64 a1_1, .int .i64 a1_2, .int .i64 a1_3, .int .i64 a1_4] 84 (0, 0))) ∧ Aside0 (Below w.heap.size w wc))
   case first =>
    have H := HC4.out
    clear HC4
    by_cases c5 : x5_1 < (a0.size : Int)
    ·
     rw [if_pos c5] at H
     have c5b0 := decide_eq_true c5
     clear c5
     (first | rw [c5b0] | (simp only [i64_w, i32_w]; rw [c5b0]) | skip)
     have H' := Aside0.mk H
     clear H
     obtain ⟨hcz6_0, hcz6_1, hcz6_2, hcz6_3, hcz6_4⟩ := xc5 BK234
     have hfz6_0 := xf BK234 0
     have hfz6_1 := xf BK234 1
     have hfz6_2 := xf BK234 2
     have hfz6_3 := xf BK234 3
     have hfz6_4 := xf BK234 4
     go_wp2
     go_meet
     case rel => exact ⟨_, (decide (x5_1 < a1_4)), xrr, H', ⟨by have := HK1.out; first | omega | exact Nat.le_refl _⟩, ⟨xbk⟩, ⟨xbl⟩⟩
    ·
     rw [if_neg c5] at H
     have c5b0 := decide_eq_false c5
     clear c5
     (first | rw [c5b0] | (simp only [i64_w, i32_w]; rw [c5b0]) | skip)
     have H' := Aside0.mk H
     clear H
     go_wp2
     go_meet
     case rel => exact ⟨_, (false), xrr, H', ⟨by have := HK1.out; first | omega | exact Nat.le_refl _⟩, ⟨xbk⟩, ⟨xbl⟩⟩
   case rest =>
    clear HC4
    obtain ⟨kq, x17_3, rfl, HA, HJ3, BK234, HB⟩ := hcut
    cases kq with
    | zero => exact absurd HA.out (by simp [monikerref02_fits.j1])
    | succ kj3 =>
     have H := HA.out
     clear HA
     simp only [monikerref02_fits.j1] at H
     by_cases c7 : x17_3 = true
     ·
      subst c7
      rw [if_pos rfl] at H
      have HC8 := Aside0.mk H
      clear H
      go_upto_if 19 with (fail)
      go_cut [6, 7] (fun v6 v7 wc => ∃ (kq : Nat) (x6_7 : Int) (x7_7 : Int), v6 = .int .i64 x6_7 ∧ v7 = .int .i64 x7_7 ∧ Aside0 (monikerref02_fits.j2 kq a0 x5_1 x6_7 x7_7 a1_0 a1_1 a1_2 a1_3 a1_4 = some r) ∧ Aside0 (kq ≤ kj3) ∧ Aside0 (wc.heap[gb234]? = some (.cells #[.int .i64 a1_0, .int .i64 a1_1, .int .i64 a1_2, .int .i64 a1_3, .int .i64 a1_4] 84 (0, 0))) ∧ Aside0 (Below w.heap.size w wc))
      case first =>
       have H := HC8.out
       clear HC8
       by_cases c9 : x5_1 = 0
       ·
        rw [if_pos c9] at H
        have c9b0 : (x5_1 == 0) = true := beq_iff_eq.mpr c9
        have c9b1 : (x5_1 != 0) = false := bne_eq_false_iff_eq.mpr c9
        clear c9
        (first | rw [c9b0] | (simp only [i64_w, i32_w]; rw [c9b0]) | skip)
        have H' := Aside0.mk H
        clear H
        obtain ⟨hcz10_0, hcz10_1, hcz10_2, hcz10_3, hcz10_4⟩ := xc5 BK234
        have hfz10_0 := xf BK234 0
        have hfz10_1 := xf BK234 1
        have hfz10_2 := xf BK234 2
        have hfz10_3 := xf BK234 3
        have hfz10_4 := xf BK234 4
        go_wp2
        go_meet
        case rel => exact ⟨_, (a1_0), (a1_1), xrr, xrr, H', ⟨by have := HK1.out; have := HJ3.out; first | omega | exact Nat.le_refl _⟩, ⟨xbk⟩, ⟨xbl⟩⟩
       ·
        rw [if_neg c9] at H
        have c9b0 : (x5_1 == 0) = false := beq_eq_false_iff_ne.mpr c9
        have c9b1 : (x5_1 != 0) = true := bne_iff_ne.mpr c9
        (first | rw [c9b0] | (simp only [i64_w, i32_w]; rw [c9b0]) | skip)
        have H' := Aside0.mk H
        clear H
        go_wp2
        go_meet
        case rel => exact ⟨_, (128), (191), xrr, xrr, H', ⟨by have := HK1.out; have := HJ3.out; first | omega | exact Nat.le_refl _⟩, ⟨xbk⟩, ⟨xbl⟩⟩
      case rest =>
       clear HC8
       obtain ⟨kq, x6_7, x7_7, rfl, rfl, HA, HJ7, BK234, HB⟩ := hcut
       cases kq with
       | zero => exact absurd HA.out (by simp [monikerref02_fits.j2])
       | succ kj7 =>
        have H := HA.out
        clear HA
        simp only [monikerref02_fits.j2] at H
        by_cases c11 : x5_1 = 1
        ·
         rw [if_pos c11] at H
         have c11b0 : (x5_1 == 1) = true := beq_iff_eq.mpr c11
         have c11b1 : (x5_1 != 1) = false := bne_eq_false_iff_eq.mpr c11
         clear c11
         by_cases c12 : 0 ≤ x5_1
         ·
          rw [if_pos c12] at H
          have c12b0 := decide_eq_true c12
          clear c12
          by_cases c13 : x5_1 < (a0.size : Int)
          ·
           rw [if_pos c13] at H
           have c13b0 := decide_eq_true c13
           clear c13
           by_cases c15 : (wrap64 (bt a0 x5_1)) < a1_2
           ·
            rw [if_pos c15] at H
            have c15b0 := decide_eq_true c15
            clear c15
            obtain rfl := Option.some.inj H
            obtain ⟨hcz16_0, hcz16_1, hcz16_2, hcz16_3, hcz16_4⟩ := xc5 BK234
            have hfz16_0 := xf BK234 0
            have hfz16_1 := xf BK234 1
            have hfz16_2 := xf BK234 2
            have hfz16_3 := xf BK234 3
            have hfz16_4 := xf BK234 4
            have p14 : 0 ≤ (x5_1 : Int) := xod
            have q14 : x5_1 < (a0.size : Int) := xod
            have hx14 := bt_at a0 x5_1
            replace p14 := eq_true p14
            replace q14 := eq_true q14
            try (have q14x := q14; simp only [ByteArray.size_extract, Nat.min_self] at q14x)
            go_wp2
            go_ret
            exact ⟨xre, xbl⟩
           ·
            rw [if_neg c15] at H
            have c15b0 := decide_eq_false c15
            clear c15
            by_cases c18 : (wrap64 (bt a0 x5_1)) > a1_3
            ·
             rw [if_pos c18] at H
             have c18b0 := decide_eq_true c18
             clear c18
             obtain rfl := Option.some.inj H
             obtain ⟨hcz19_0, hcz19_1, hcz19_2, hcz19_3, hcz19_4⟩ := xc5 BK234
             have hfz19_0 := xf BK234 0
             have hfz19_1 := xf BK234 1
             have hfz19_2 := xf BK234 2
             have hfz19_3 := xf BK234 3
             have hfz19_4 := xf BK234 4
             have p14 : 0 ≤ (x5_1 : Int) := xod
             have q14 : x5_1 < (a0.size : Int) := xod
             have hx14 := bt_at a0 x5_1
             replace p14 := eq_true p14
             replace q14 := eq_true q14
             try (have q14x := q14; simp only [ByteArray.size_extract, Nat.min_self] at q14x)
             have p17 : 0 ≤ (x5_1 : Int) := xod
             have q17 : x5_1 < (a0.size : Int) := xod
             have hx17 := bt_at a0 x5_1
             replace p17 := eq_true p17
             replace q17 := eq_true q17
             try (have q17x := q17; simp only [ByteArray.size_extract, Nat.min_self] at q17x)
             go_wp2
             go_ret
             exact ⟨xre, xbl⟩
            ·
             rw [if_neg c18] at H
             have c18b0 := decide_eq_false c18
             clear c18
             have H' := Aside0.mk H
             clear H
             obtain ⟨hcz20_0, hcz20_1, hcz20_2, hcz20_3, hcz20_4⟩ := xc5 BK234
             have hfz20_0 := xf BK234 0
             have hfz20_1 := xf BK234 1
             have hfz20_2 := xf BK234 2
             have hfz20_3 := xf BK234 3
             have hfz20_4 := xf BK234 4
             have p14 : 0 ≤ (x5_1 : Int) := xod
             have q14 : x5_1 < (a0.size : Int) := xod
             have hx14 := bt_at a0 x5_1
             replace p14 := eq_true p14
             replace q14 := eq_true q14
             try (have q14x := q14; simp only [ByteArray.size_extract, Nat.min_self] at q14x)
             have p17 : 0 ≤ (x5_1 : Int) := xod
             have q17 : x5_1 < (a0.size : Int) := xod
             have hx17 := bt_at a0 x5_1
             replace p17 := eq_true p17
             replace q17 := eq_true q17
             try (have q17x := q17; simp only [ByteArray.size_extract, Nat.min_self] at q17x)
             go_wp2
             go_roundg kj7
             case measure => have := HK1.out; have := HJ3.out; have := HJ7.out; omega
             case rel => exact ⟨(wrap64 (x5_1 + 1)), xrr, H', ⟨by have := HK1.out; have := HJ3.out; have := HJ7.out; omega⟩, ⟨xbk⟩, ⟨xbl⟩⟩
          ·
           rw [if_neg c13] at H
           exact absurd H (by simp)
         ·
          rw [if_neg c12] at H
          exact absurd H (by simp)
        ·
         rw [if_neg c11] at H
         have c11b0 : (x5_1 == 1) = false := beq_eq_false_iff_ne.mpr c11
         have c11b1 : (x5_1 != 1) = true := bne_iff_ne.mpr c11
         by_cases c21 : 0 ≤ x5_1
         ·
          rw [if_pos c21] at H
          have c21b0 := decide_eq_true c21
          clear c21
          by_cases c22 : x5_1 < (a0.size : Int)
          ·
           rw [if_pos c22] at H
           have c22b0 := decide_eq_true c22
           clear c22
           by_cases c24 : (wrap64 (bt a0 x5_1)) < x6_7
           ·
            rw [if_pos c24] at H
            have c24b0 := decide_eq_true c24
            clear c24
            obtain rfl := Option.some.inj H
            have p23 : 0 ≤ (x5_1 : Int) := xod
            have q23 : x5_1 < (a0.size : Int) := xod
            have hx23 := bt_at a0 x5_1
            replace p23 := eq_true p23
            replace q23 := eq_true q23
            try (have q23x := q23; simp only [ByteArray.size_extract, Nat.min_self] at q23x)
            go_wp2
            go_ret
            exact ⟨xre, xbl⟩
           ·
            rw [if_neg c24] at H
            have c24b0 := decide_eq_false c24
            clear c24
            by_cases c26 : (wrap64 (bt a0 x5_1)) > x7_7
            ·
             rw [if_pos c26] at H
             have c26b0 := decide_eq_true c26
             clear c26
             obtain rfl := Option.some.inj H
             have p23 : 0 ≤ (x5_1 : Int) := xod
             have q23 : x5_1 < (a0.size : Int) := xod
             have hx23 := bt_at a0 x5_1
             replace p23 := eq_true p23
             replace q23 := eq_true q23
             try (have q23x := q23; simp only [ByteArray.size_extract, Nat.min_self] at q23x)
             have p25 : 0 ≤ (x5_1 : Int) := xod
             have q25 : x5_1 < (a0.size : Int) := xod
             have hx25 := bt_at a0 x5_1
             replace p25 := eq_true p25
             replace q25 := eq_true q25
             try (have q25x := q25; simp only [ByteArray.size_extract, Nat.min_self] at q25x)
             go_wp2
             go_ret
             exact ⟨xre, xbl⟩
            ·
             rw [if_neg c26] at H
             have c26b0 := decide_eq_false c26
             clear c26
             have H' := Aside0.mk H
             clear H
             have p23 : 0 ≤ (x5_1 : Int) := xod
             have q23 : x5_1 < (a0.size : Int) := xod
             have hx23 := bt_at a0 x5_1
             replace p23 := eq_true p23
             replace q23 := eq_true q23
             try (have q23x := q23; simp only [ByteArray.size_extract, Nat.min_self] at q23x)
             have p25 : 0 ≤ (x5_1 : Int) := xod
             have q25 : x5_1 < (a0.size : Int) := xod
             have hx25 := bt_at a0 x5_1
             replace p25 := eq_true p25
             replace q25 := eq_true q25
             try (have q25x := q25; simp only [ByteArray.size_extract, Nat.min_self] at q25x)
             go_wp2
             go_roundg kj7
             case measure => have := HK1.out; have := HJ3.out; have := HJ7.out; omega
             case rel => exact ⟨(wrap64 (x5_1 + 1)), xrr, H', ⟨by have := HK1.out; have := HJ3.out; have := HJ7.out; omega⟩, ⟨xbk⟩, ⟨xbl⟩⟩
          ·
           rw [if_neg c22] at H
           exact absurd H (by simp)
         ·
          rw [if_neg c21] at H
          exact absurd H (by simp)
     ·
      replace c7 := Bool.eq_false_iff.mpr c7
      subst c7
      rw [if_neg (show ¬ (false = true) by decide)] at H
      obtain rfl := Option.some.inj H
      go_wp2
      go_ret
      exact ⟨xre, xbl⟩
mutual
def monikerref02_value.j0 : Nat → ByteArray → Int → Option (Int)
  | 0, _, _ => none
  | k + 1, x0, x3 => if (x0.size : Int) = 4 then (if 0 < (x0.size : Int) then (monikerref02_value.j1 k x0 (wrap64 ((wrap64 (bt x0 0)) - 240))) else (none)) else (monikerref02_value.j1 k x0 x3)
def monikerref02_value.j1 : Nat → ByteArray → Int → Option (Int)
  | 0, _, _ => none
  | k + 1, x0, x3 => monikerref02_value.l0 k x0 x3 1
def monikerref02_value.l0 : Nat → ByteArray → Int → Int → Option (Int)
  | 0, _, _, _ => none
  | k + 1, x0, x3, x4 => if x4 < (x0.size : Int) then (if 0 ≤ x4 then (monikerref02_value.l0 k x0 (wrap64 ((wrap64 ((wrap64 (x3 * 64)) + (wrap64 (bt x0 x4)))) - 128)) (wrap64 (x4 + 1))) else (none)) else (some x3)
end
def monikerref02_value.f (k : Nat) (a0 : ByteArray) : Option (Int) := if (a0.size : Int) = 1 then (if 0 < (a0.size : Int) then (some (wrap64 (bt a0 0))) else (none)) else (if 0 < (a0.size : Int) then (if (a0.size : Int) = 3 then (monikerref02_value.j0 k a0 (wrap64 ((wrap64 (bt a0 0)) - 224))) else (monikerref02_value.j0 k a0 (wrap64 ((wrap64 (bt a0 0)) - 192)))) else (none))
theorem monikerref02_value.mono_l : ∀ k, (∀ y0 y1, LeO (monikerref02_value.j0 k y0 y1) (monikerref02_value.j0 (k + 1) y0 y1)) ∧ (∀ y0 y1, LeO (monikerref02_value.j1 k y0 y1) (monikerref02_value.j1 (k + 1) y0 y1)) ∧ (∀ y0 y1 y2, LeO (monikerref02_value.l0 k y0 y1 y2) (monikerref02_value.l0 (k + 1) y0 y1 y2))
  | 0 => ⟨fun _ _ r h => by simp [monikerref02_value.j0] at h, fun _ _ r h => by simp [monikerref02_value.j1] at h, fun _ _ _ r h => by simp [monikerref02_value.l0] at h⟩
  | k + 1 => by
    obtain ⟨ih0, ih1, ih2⟩ := monikerref02_value.mono_l k
    refine ⟨?_, ?_, ?_⟩
    · intro y0 y1
      unfold monikerref02_value.j0
      exact xmo
    · intro y0 y1
      unfold monikerref02_value.j1
      exact xmo
    · intro y0 y1 y2
      unfold monikerref02_value.l0
      exact xmo
theorem monikerref02_value.mono : ∀ a0 k, LeO (monikerref02_value.f k a0) (monikerref02_value.f (k + 1) a0) := by
  intro a0 k
  obtain ⟨ih0, ih1, ih2⟩ := monikerref02_value.mono_l k
  unfold monikerref02_value.f
  exact xmo
set_option maxHeartbeats 8000000 in
set_option maxRecDepth 100000 in
theorem monikerref02_value.calls (k : Nat) (a0 : ByteArray) (r : Int) (w : World) (h : monikerref02_value.f k a0 = some r) :
    Calls Tryd.prog 56 #[.string a0] w fun e w' => e = .returned (.int .i64 r) ∧ Drawn0 w w' := by
 have H : (if (a0.size : Int) = 1 then (if 0 < (a0.size : Int) then (some (wrap64 (bt a0 0))) else (none)) else (if 0 < (a0.size : Int) then (if (a0.size : Int) = 3 then (monikerref02_value.j0 k a0 (wrap64 ((wrap64 (bt a0 0)) - 224))) else (monikerref02_value.j0 k a0 (wrap64 ((wrap64 (bt a0 0)) - 192)))) else (none))) = some r := h
 clear h
 by_cases c2 : (a0.size : Int) = 1
 ·
  rw [if_pos c2] at H
  have c2b0 : ((a0.size : Int) == 1) = true := beq_iff_eq.mpr c2
  have c2b1 : ((a0.size : Int) != 1) = false := bne_eq_false_iff_eq.mpr c2
  clear c2
  by_cases c3 : 0 < (a0.size : Int)
  ·
   rw [if_pos c3] at H
   have c3b0 := decide_eq_true c3
   have c3b1 : decide (0 < a0.size) = true := decide_eq_true (by omega)
   clear c3
   obtain rfl := Option.some.inj H
   have p4 : 0 ≤ (0 : Int) := (by omega)
   have q4 : 0 < a0.size := (by have : (0 : Int) < (a0.size : Int) := xod; omega)
   have hx4 : ∀ h : 0 < a0.size, ((a0[0]'h).toNat : Int) = bt a0 0 := bt_at a0 0
   clear p4
   have qi4 : (0 < (a0.size : Int)) = True := eq_true (xod)
   replace q4 := eq_true q4
   try (have q4x := q4; simp only [ByteArray.size_extract, Nat.min_self] at q4x)
   go_enter Tryd.func56, Tryd.ntmps56
   go_wp2
   go_ret
   exact ⟨xrr, xdr⟩
  ·
   rw [if_neg c3] at H
   exact absurd H (by simp)
 ·
  rw [if_neg c2] at H
  have c2b0 : ((a0.size : Int) == 1) = false := beq_eq_false_iff_ne.mpr c2
  have c2b1 : ((a0.size : Int) != 1) = true := bne_iff_ne.mpr c2
  by_cases c5 : 0 < (a0.size : Int)
  ·
   rw [if_pos c5] at H
   have c5b0 := decide_eq_true c5
   have c5b1 : decide (0 < a0.size) = true := decide_eq_true (by omega)
   clear c5
   have HC7 := Aside0.mk H
   clear H
   have p6 : 0 ≤ (0 : Int) := (by omega)
   have q6 : 0 < a0.size := (by have : (0 : Int) < (a0.size : Int) := xod; omega)
   have hx6 : ∀ h : 0 < a0.size, ((a0[0]'h).toNat : Int) = bt a0 0 := bt_at a0 0
   clear p6
   have qi6 : (0 < (a0.size : Int)) = True := eq_true (xod)
   replace q6 := eq_true q6
   try (have q6x := q6; simp only [ByteArray.size_extract, Nat.min_self] at q6x)
   go_enter Tryd.func56, Tryd.ntmps56
   go_upto_if 17 with (fail)
   go_cut [3] (fun v3 wc => ∃ (kq : Nat) (x3_6 : Int), v3 = .int .i64 x3_6 ∧ Aside0 (monikerref02_value.j0 kq a0 x3_6 = some r) ∧ Aside0 (kq ≤ k) ∧ Drawn0 w wc)
   case first =>
    have H := HC7.out
    clear HC7
    by_cases c8 : (a0.size : Int) = 3
    ·
     rw [if_pos c8] at H
     have c8b0 : ((a0.size : Int) == 3) = true := beq_iff_eq.mpr c8
     have c8b1 : ((a0.size : Int) != 3) = false := bne_eq_false_iff_eq.mpr c8
     clear c8
     (first | rw [c8b0] | (simp only [i64_w, i32_w]; rw [c8b0]) | skip)
     have H' := Aside0.mk H
     clear H
     have p9 : 0 ≤ (0 : Int) := (by omega)
     have q9 : 0 < a0.size := (by have : (0 : Int) < (a0.size : Int) := xod; omega)
     have hx9 : ∀ h : 0 < a0.size, ((a0[0]'h).toNat : Int) = bt a0 0 := bt_at a0 0
     clear p9
     have qi9 : (0 < (a0.size : Int)) = True := eq_true (xod)
     replace q9 := eq_true q9
     try (have q9x := q9; simp only [ByteArray.size_extract, Nat.min_self] at q9x)
     go_wp2
     go_meet
     case rel => exact ⟨_, (wrap64 ((wrap64 (bt a0 0)) - 224)), xrr, H', ⟨xom⟩, xdr⟩
    ·
     rw [if_neg c8] at H
     have c8b0 : ((a0.size : Int) == 3) = false := beq_eq_false_iff_ne.mpr c8
     have c8b1 : ((a0.size : Int) != 3) = true := bne_iff_ne.mpr c8
     (first | rw [c8b0] | (simp only [i64_w, i32_w]; rw [c8b0]) | skip)
     have H' := Aside0.mk H
     clear H
     go_wp2
     go_meet
     case rel => exact ⟨_, (wrap64 ((wrap64 (bt a0 0)) - 192)), xrr, H', ⟨xom⟩, xdr⟩
   case rest =>
    clear HC7
    clear c2b0 c2b1 c5b0 c5b1 q6 hx6 qi6
    obtain ⟨kq, x3_6, rfl, HA, HJ6, ⟨mc6, rfl⟩⟩ := hcut
    cases kq with
    | zero => exact absurd HA.out (by simp [monikerref02_value.j0])
    | succ kj6 =>
     have H := HA.out
     clear HA
     simp only [monikerref02_value.j0] at H
     have HC10 := Aside0.mk H
     clear H
     go_upto_if 24 with (fail)
     go_cut [3] (fun v3 wc => ∃ (kq : Nat) (x3_9 : Int), v3 = .int .i64 x3_9 ∧ Aside0 (monikerref02_value.j1 kq a0 x3_9 = some r) ∧ Aside0 (kq ≤ kj6) ∧ Drawn0 w wc)
     case first =>
      have H := HC10.out
      clear HC10
      by_cases c11 : (a0.size : Int) = 4
      ·
       rw [if_pos c11] at H
       have c11b0 : ((a0.size : Int) == 4) = true := beq_iff_eq.mpr c11
       have c11b1 : ((a0.size : Int) != 4) = false := bne_eq_false_iff_eq.mpr c11
       clear c11
       (first | rw [c11b0] | (simp only [i64_w, i32_w]; rw [c11b0]) | skip)
       by_cases c12 : 0 < (a0.size : Int)
       ·
        rw [if_pos c12] at H
        have c12b0 := decide_eq_true c12
        have c12b1 : decide (0 < a0.size) = true := decide_eq_true (by omega)
        clear c12
        have H' := Aside0.mk H
        clear H
        have p13 : 0 ≤ (0 : Int) := (by omega)
        have q13 : 0 < a0.size := (by have : (0 : Int) < (a0.size : Int) := xod; omega)
        have hx13 : ∀ h : 0 < a0.size, ((a0[0]'h).toNat : Int) = bt a0 0 := bt_at a0 0
        clear p13
        have qi13 : (0 < (a0.size : Int)) = True := eq_true (xod)
        replace q13 := eq_true q13
        try (have q13x := q13; simp only [ByteArray.size_extract, Nat.min_self] at q13x)
        go_wp2
        go_meet
        case rel => exact ⟨_, (wrap64 ((wrap64 (bt a0 0)) - 240)), xrr, H', ⟨by have := HJ6.out; first | omega | exact Nat.le_refl _⟩, xdr⟩
       ·
        rw [if_neg c12] at H
        exact absurd H (by simp)
      ·
       rw [if_neg c11] at H
       have c11b0 : ((a0.size : Int) == 4) = false := beq_eq_false_iff_ne.mpr c11
       have c11b1 : ((a0.size : Int) != 4) = true := bne_iff_ne.mpr c11
       (first | rw [c11b0] | (simp only [i64_w, i32_w]; rw [c11b0]) | skip)
       have H' := Aside0.mk H
       clear H
       go_wp2
       go_meet
       case rel => exact ⟨_, (x3_6), xrr, H', ⟨by have := HJ6.out; first | omega | exact Nat.le_refl _⟩, xdr⟩
     case rest =>
      clear HC10
      obtain ⟨kq, x3_9, rfl, HA, HJ9, ⟨mc9, rfl⟩⟩ := hcut
      cases kq with
      | zero => exact absurd HA.out (by simp [monikerref02_value.j1])
      | succ kj9 =>
       have H := HA.out
       clear HA
       simp only [monikerref02_value.j1] at H
       have H' := Aside0.mk H
       clear H
       go_wp2
       go_loopg [3, 4] kj9 (fun kq v3 v4 w' => ∃ (x3_3 : Int) (x4_3 : Int), v3 = .int .i64 x3_3 ∧ v4 = .int .i64 x4_3 ∧ Aside0 (monikerref02_value.l0 kq a0 x3_3 x4_3 = some r) ∧ Aside0 (kq ≤ kj9) ∧ Drawn0 w w')
       case atStart => exact ⟨(x3_9), (1), xrr, xrr, H', ⟨Nat.le_refl _⟩, xdr⟩
       case round =>
        clear H'
        obtain ⟨x3_3, x4_3, rfl, rfl, HA, HK3, ⟨m3, rfl⟩⟩ := hrel
        cases gk with
        | zero => exact absurd HA.out (by simp [monikerref02_value.l0])
        | succ k3 =>
         have H := HA.out
         clear HA
         simp only [monikerref02_value.l0] at H
         by_cases c14 : x4_3 < (a0.size : Int)
         ·
          rw [if_pos c14] at H
          have c14b0 := decide_eq_true c14
          clear c14
          by_cases c15 : 0 ≤ x4_3
          ·
           rw [if_pos c15] at H
           have c15b0 := decide_eq_true c15
           clear c15
           have H' := Aside0.mk H
           clear H
           have p16 : 0 ≤ (x4_3 : Int) := xod
           have q16 : x4_3 < (a0.size : Int) := xod
           have hx16 := bt_at a0 x4_3
           replace p16 := eq_true p16
           replace q16 := eq_true q16
           try (have q16x := q16; simp only [ByteArray.size_extract, Nat.min_self] at q16x)
           go_wp2
           go_roundg k3
           case measure => have := HJ6.out; have := HJ9.out; have := HK3.out; omega
           case rel => exact ⟨(wrap64 ((wrap64 ((wrap64 (x3_3 * 64)) + (wrap64 (bt a0 x4_3)))) - 128)), (wrap64 (x4_3 + 1)), xrr, xrr, H', ⟨by have := HJ6.out; have := HJ9.out; have := HK3.out; omega⟩, xdr⟩
          ·
           rw [if_neg c15] at H
           exact absurd H (by simp)
         ·
          rw [if_neg c14] at H
          have c14b0 := decide_eq_false c14
          clear c14
          obtain rfl := Option.some.inj H
          go_wp2
          go_ret
          exact ⟨xrr, xdr⟩
  ·
   rw [if_neg c5] at H
   exact absurd H (by simp)
end Go.Proofs.YtdmigmccfdhdiaaDoor.X
