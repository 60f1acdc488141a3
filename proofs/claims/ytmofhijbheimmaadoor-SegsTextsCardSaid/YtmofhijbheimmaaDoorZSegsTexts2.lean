/- Texts that the law's proof needs, joined by a program of this session. -/
import Derived.Test.YtmofhijbheimmaaDoorZSegsTexts1
set_option maxHeartbeats 8000000
set_option maxRecDepth 100000
set_option linter.unusedSimpArgs false
set_option linter.unusedVariables false
namespace Go.Proofs.YtmofhijbheimmaaDoor.X
open Go.RowKit Go.Proofs.YtmofhijbheimmaaDoorW.PrintWords Go.Proofs.YtmofhijbheimmaaDoorW.PrintLast Go.Proofs.YtmofhijbheimmaaDoorW.PrintMore
attribute [local go_sem] dg cP eb fs gc eQ ft eI eK fo fp dS dT eJ eL
mutual
def bg : Nat → ByteArray → Int → Int → Bool → Option (Int × Int × Bool)
  | 0, _, _, _, _ => none
  | k + 1, x0, x5, x6, x20 => if x20 = true then (some (0, x5, false)) else (if 0 < (x0.size : Int) then (if 0 ≤ x6 then (if x6 = 0 then (ao k x0 (wrap32 (Go.bits .and .u8 (bt x0 0) 0)) x6 1) else (if x6 = 1 then (ao k x0 (wrap32 (Go.bits .and .u8 (bt x0 0) 127)) x6 1) else (if x6 = 2 then (ao k x0 (wrap32 (Go.bits .and .u8 (bt x0 0) 31)) x6 1) else (if x6 = 3 then (ao k x0 (wrap32 (Go.bits .and .u8 (bt x0 0) 15)) x6 1) else (if x6 = 4 then (ao k x0 (wrap32 (Go.bits .and .u8 (bt x0 0) 7)) x6 1) else (none)))))) else (none)) else (none))
def ao : Nat → ByteArray → Int → Int → Int → Option (Int × Int × Bool)
  | 0, _, _, _, _ => none
  | k + 1, x0, x2, x6, x8 => if x8 < x6 then (if 0 ≤ x8 then (if x8 < (x0.size : Int) then (ao k x0 (Go.bits .or .i32 (wrap32 (x2 * 64)) (wrap32 (Go.bits .and .u8 (bt x0 x8) 63))) x6 (wrap64 (x8 + 1))) else (none)) else (none)) else (some (x2, x6, true))
end
def cJ (k : Nat) (a0 : ByteArray) : Option (Int × Int × Bool) := (cD k a0).bind fun Aa => (if Aa.2 = 0 then (bg k a0 Aa.1 Aa.2 true) else (bg k a0 Aa.1 Aa.2 (decide (Aa.1 < Aa.2))))
theorem ff : ∀ k, (∀ y0 y1 y2 y3, LeO (bg k y0 y1 y2 y3) (bg (k + 1) y0 y1 y2 y3)) ∧ (∀ y0 y1 y2 y3, LeO (ao k y0 y1 y2 y3) (ao (k + 1) y0 y1 y2 y3))
  | 0 => ⟨fun _ _ _ _ r h => by simp [bg] at h, fun _ _ _ _ r h => by simp [ao] at h⟩
  | k + 1 => by
    obtain ⟨ih0, ih1⟩ := ff k
    have m0 := @ga
    refine ⟨?_, ?_⟩
    · intro y0 y1 y2 y3
      unfold bg
      exact xmo
    · intro y0 y1 y2 y3
      unfold ao
      exact xmo
theorem fQ : ∀ a0 k, LeO (cJ k a0) (cJ (k + 1) a0) := by
  intro a0 k
  obtain ⟨ih0, ih1⟩ := ff k
  have m0 := @ga
  unfold cJ
  exact xmo
theorem dQ (k : Nat) (a0 : ByteArray) (r1 : Int) (r2 : Int) (r3 : Bool) (w : World) (h : cJ k a0 = some (r1, r2, r3)) :
    Calls Tryd.prog 57 #[.string a0] w fun e w' => e = .returned (.tuple #[.int .i32 r1, .int .i64 r2, .bool r3]) ∧ Below w.heap.size w w' := by
 have hu104 := Tryd.underlying104
 have HB := Zz.mk (Below.refl w.heap.size w)
 have H : ((cD k a0).bind fun Ah => (if Ah.2 = 0 then (bg k a0 Ah.1 Ah.2 true) else (bg k a0 Ah.1 Ah.2 (decide (Ah.1 < Ah.2))))) = some (r1, r2, r3) := h
 clear h
 replace H := Option.bind_eq_some_iff.mp H
 obtain ⟨⟨Ak, Ag⟩, A20, H⟩ := H
 try dsimp only at H
 have A2 := Zz.mk A20
 clear A20
 have Ar := Zz.mk H
 clear H
 go_enter Tryd.func57, Tryd.ntmps57
 go_upto_region 2 with (first | (go_at_call 76; (with_reducible refine (ex k a0 Ak Ag _ A2.out).mono ?_); rintro e w' ⟨rfl, ⟨nd, rfl⟩⟩; (try first | exact ⟨rfl, _, World.drewN_drewN _ _ _⟩ | exact ⟨rfl, _, Eq.trans (World.drewN_drewN _ _ _) (congrArg (World.drewN _) (Nat.add_assoc _ _ _))⟩)))
 repeat (go_quiet (first | (go_at_call 76; (with_reducible refine (ex k a0 Ak Ag _ A2.out).mono ?_); rintro e w' ⟨rfl, ⟨nd, rfl⟩⟩; (try first | exact ⟨rfl, _, World.drewN_drewN _ _ _⟩ | exact ⟨rfl, _, Eq.trans (World.drewN_drewN _ _ _) (congrArg (World.drewN _) (Nat.add_assoc _ _ _))⟩))); go_upto_region 2 with (first | (go_at_call 76; (with_reducible refine (ex k a0 Ak Ag _ A2.out).mono ?_); rintro e w' ⟨rfl, ⟨nd, rfl⟩⟩; (try first | exact ⟨rfl, _, World.drewN_drewN _ _ _⟩ | exact ⟨rfl, _, Eq.trans (World.drewN_drewN _ _ _) (congrArg (World.drewN _) (Nat.add_assoc _ _ _))⟩))))
 (try simp only [Act.put, List.setIfInBounds_toArray, List.set_cons_zero, List.set_cons_succ])
 go_cut [20] (fun v20 wc => ∃ (kq : Nat) (Aj : Bool), v20 = .bool Aj ∧ Zz (bg kq a0 Ak Ag Aj = some (r1, r2, r3)) ∧ Zz (kq ≤ k) ∧ Zz (Below w.heap.size w wc))
 case first =>
  have H := Ar.out
  clear Ar
  by_cases c4 : Ag = 0
  ·
   rw [if_pos c4] at H
   have Al : (Ag == 0) = true := beq_iff_eq.mpr c4
   have As : (Ag != 0) = false := bne_eq_false_iff_eq.mpr c4
   clear c4
   (first | rw [Al] | (simp only [an, au]; rw [Al]) | (rw [At]; (try simp only [Bool.not_false, Bool.not_true])) | (rw [Au]; (try simp only [Bool.not_false, Bool.not_true])) | skip)
   have H' := Zz.mk H
   clear H
   go_wp2
   repeat (go_quiet (fail); try go_wp2)
   go_meet
   case rel => exact ⟨_, (true), xrr, H', ⟨xom⟩, ⟨xbl⟩⟩
  ·
   rw [if_neg c4] at H
   have Al : (Ag == 0) = false := beq_eq_false_iff_ne.mpr c4
   have As : (Ag != 0) = true := bne_iff_ne.mpr c4
   (first | rw [Al] | (simp only [an, au]; rw [Al]) | (rw [At]; (try simp only [Bool.not_false, Bool.not_true])) | (rw [Au]; (try simp only [Bool.not_false, Bool.not_true])) | skip)
   have H' := Zz.mk H
   clear H
   go_wp2
   repeat (go_quiet (fail); try go_wp2)
   go_meet
   case rel => exact ⟨_, (decide (Ak < Ag)), xrr, H', ⟨xom⟩, ⟨xbl⟩⟩
 case rest =>
  clear Ar
  obtain ⟨kq, Aj, rfl, HA, HJ2, HB⟩ := hcut
  cases kq with
  | zero => exact absurd HA.out (by simp [bg])
  | succ kj2 =>
   have H := HA.out
   clear HA
   simp only [bg] at H
   by_cases c5 : Aj = true
   ·
    subst c5
    rw [if_pos rfl] at H
    simp only [Option.some.injEq, Prod.mk.injEq] at H
    obtain ⟨rfl, rfl, rfl⟩ := H
    go_wp2
    repeat (go_quiet (fail); try go_wp2)
    go_ret3
    exact ⟨xre, xbl⟩
   ·
    replace c5 := Bool.eq_false_iff.mpr c5
    subst c5
    rw [if_neg (show ¬ (false = true) by decide)] at H
    by_cases c6 : 0 < (a0.size : Int)
    ·
     rw [if_pos c6] at H
     have Av := decide_eq_true c6
     have Aw : decide (0 < a0.size) = true := decide_eq_true (by omega)
     clear c6
     by_cases c8 : 0 ≤ Ag
     ·
      rw [if_pos c8] at H
      have Ax := decide_eq_true c8
      clear c8
      by_cases c9 : Ag = 0
      ·
       subst c9
       rw [if_pos rfl] at H
       have H' := Zz.mk H
       clear H
       go_wp2_with (first | ((with_reducible refine ak (N := 7) rfl ?_); refine xev 7 #[.int .u8 0, .int .u8 0, .int .u8 0, .int .u8 0, .int .u8 0] 104 ?_; intro Ad hg w10 hbox hb; have Aa := Zz.mk (hbox); have Ac := xsz hg; have Af := Ac; replace HB := xst hb; clear hb hbox hg; obtain ⟨hcz11_0, hcz11_1, hcz11_2, hcz11_3, hcz11_4⟩ := xc5 Aa; have hfz11_0 := xf Aa 0; have hfz11_1 := xf Aa 1; have hfz11_2 := xf Aa 2; have hfz11_3 := xf Aa 3; have hfz11_4 := xf Aa 4; have p7 : 0 ≤ (0 : Int) := (by omega); have q7 : 0 < a0.size := (by have : (0 : Int) < (a0.size : Int) := xod; omega); have hx7 : ∀ h : 0 < a0.size, ((a0[0]'h).toNat : Int) = bt a0 0 := aD a0 0; clear p7; have Ai : (0 < (a0.size : Int)) = True := eq_true (xod); replace q7 := eq_true q7))
       repeat (go_quiet (first | ((with_reducible refine ak (N := 7) rfl ?_); refine xev 7 #[.int .u8 0, .int .u8 0, .int .u8 0, .int .u8 0, .int .u8 0] 104 ?_; intro Ad hg w10 hbox hb; have Aa := Zz.mk (hbox); have Ac := xsz hg; have Af := Ac; replace HB := xst hb; clear hb hbox hg; obtain ⟨hcz11_0, hcz11_1, hcz11_2, hcz11_3, hcz11_4⟩ := xc5 Aa; have hfz11_0 := xf Aa 0; have hfz11_1 := xf Aa 1; have hfz11_2 := xf Aa 2; have hfz11_3 := xf Aa 3; have hfz11_4 := xf Aa 4; have p7 : 0 ≤ (0 : Int) := (by omega); have q7 : 0 < a0.size := (by have : (0 : Int) < (a0.size : Int) := xod; omega); have hx7 : ∀ h : 0 < a0.size, ((a0[0]'h).toNat : Int) = bt a0 0 := aD a0 0; clear p7; have Ai : (0 < (a0.size : Int)) = True := eq_true (xod); replace q7 := eq_true q7)); try go_wp2_with (first | ((with_reducible refine ak (N := 7) rfl ?_); refine xev 7 #[.int .u8 0, .int .u8 0, .int .u8 0, .int .u8 0, .int .u8 0] 104 ?_; intro Ad hg w10 hbox hb; have Aa := Zz.mk (hbox); have Ac := xsz hg; have Af := Ac; replace HB := xst hb; clear hb hbox hg; obtain ⟨hcz11_0, hcz11_1, hcz11_2, hcz11_3, hcz11_4⟩ := xc5 Aa; have hfz11_0 := xf Aa 0; have hfz11_1 := xf Aa 1; have hfz11_2 := xf Aa 2; have hfz11_3 := xf Aa 3; have hfz11_4 := xf Aa 4; have p7 : 0 ≤ (0 : Int) := (by omega); have q7 : 0 < a0.size := (by have : (0 : Int) < (a0.size : Int) := xod; omega); have hx7 : ∀ h : 0 < a0.size, ((a0[0]'h).toNat : Int) = bt a0 0 := aD a0 0; clear p7; have Ai : (0 < (a0.size : Int)) = True := eq_true (xod); replace q7 := eq_true q7)))
       go_loopg [2, 8] kj2 (fun kq v2 v8 w' => ∃ (Ae : Int) (Ab : Int), v2 = .int .i32 Ae ∧ v8 = .int .i64 Ab ∧ Zz (ao kq a0 Ae 0 Ab = some (r1, r2, r3)) ∧ Zz (kq ≤ kj2) ∧ Zz (w'.heap[Ad]? = some (.cells #[.int .u8 0, .int .u8 127, .int .u8 31, .int .u8 15, .int .u8 7] 104 (0, 0))) ∧ Zz (Below w.heap.size w w'))
       case atStart => exact ⟨(wrap32 (Go.bits .and .u8 (bt a0 0) 0)), (1), xrr, xrr, H', ⟨Nat.le_refl _⟩, ⟨by (with_reducible repeat (first | refine ai ?_ _ | refine aj ?_ | refine ah ?_ _)); refine ag (cs := #[.int .u8 0, .int .u8 127, .int .u8 31, .int .u8 15, .int .u8 0]) ?_ 4 _ rfl; (with_reducible repeat (first | refine ai ?_ _ | refine aj ?_ | refine ah ?_ _)); refine ag (cs := #[.int .u8 0, .int .u8 127, .int .u8 31, .int .u8 0, .int .u8 0]) ?_ 3 _ rfl; (with_reducible repeat (first | refine ai ?_ _ | refine aj ?_ | refine ah ?_ _)); refine ag (cs := #[.int .u8 0, .int .u8 127, .int .u8 0, .int .u8 0, .int .u8 0]) ?_ 2 _ rfl; (with_reducible repeat (first | refine ai ?_ _ | refine aj ?_ | refine ah ?_ _)); refine ag (cs := #[.int .u8 0, .int .u8 0, .int .u8 0, .int .u8 0, .int .u8 0]) ?_ 1 _ rfl; (with_reducible repeat (first | refine ai ?_ _ | refine aj ?_ | refine ah ?_ _)); refine ag (cs := #[.int .u8 0, .int .u8 0, .int .u8 0, .int .u8 0, .int .u8 0]) ?_ 0 _ rfl; (with_reducible repeat (first | refine ai ?_ _ | refine aj ?_ | refine ah ?_ _)); exact Aa.out⟩, ⟨xbl⟩⟩
       case round =>
        clear H'
        clear Av Aw Ax
        try clear p7
        try clear q7
        try clear hx7
        try clear Ai
        obtain ⟨Ae, Ab, rfl, rfl, HA, HK2, Aa, HB⟩ := hrel
        cases gk with
        | zero => exact absurd HA.out (by simp [ao])
        | succ k2 =>
         have H := HA.out
         clear HA
         simp only [ao] at H
         by_cases c12 : Ab < 0
         ·
          rw [if_pos c12] at H
          have Am := decide_eq_true c12
          clear c12
          by_cases c13 : 0 ≤ Ab
          ·
           rw [if_pos c13] at H
           have AD := decide_eq_true c13
           clear c13
           by_cases c14 : Ab < (a0.size : Int)
           ·
            rw [if_pos c14] at H
            have AE := decide_eq_true c14
            clear c14
            have H' := Zz.mk H
            clear H
            have p15 : 0 ≤ (Ab : Int) := xod
            have q15 : Ab < (a0.size : Int) := xod
            have hx15 := aD a0 Ab
            replace p15 := eq_true p15
            replace q15 := eq_true q15
            try (have Ay := q15; simp only [ByteArray.size_extract, Nat.min_self] at Ay)
            go_wp2
            repeat (go_quiet (fail); try go_wp2)
            go_roundg k2
            case measure => have := HJ2.out; have := HK2.out; omega
            case rel => exact ⟨(Go.bits .or .i32 (wrap32 (Ae * 64)) (wrap32 (Go.bits .and .u8 (bt a0 Ab) 63))), (wrap64 (Ab + 1)), xrr, xrr, H', ⟨by have := HJ2.out; have := HK2.out; omega⟩, ⟨xbk⟩, ⟨xbl⟩⟩
           ·
            rw [if_neg c14] at H
            exact absurd H (by simp)
          ·
           rw [if_neg c13] at H
           exact absurd H (by simp)
         ·
          rw [if_neg c12] at H
          have Am := decide_eq_false c12
          clear c12
          simp only [Option.some.injEq, Prod.mk.injEq] at H
          obtain ⟨rfl, rfl, rfl⟩ := H
          go_wp2
          repeat (go_quiet (fail); try go_wp2)
          go_ret3
          exact ⟨xre, xbl⟩
      ·
       rw [if_neg c9] at H
       clear c9
       by_cases c16 : Ag = 1
       ·
        subst c16
        rw [if_pos rfl] at H
        have H' := Zz.mk H
        clear H
        go_wp2_with (first | ((with_reducible refine ak (N := 7) rfl ?_); refine xev 7 #[.int .u8 0, .int .u8 0, .int .u8 0, .int .u8 0, .int .u8 0] 104 ?_; intro Ad hg w17 hbox hb; have Aa := Zz.mk (hbox); have Ac := xsz hg; have Af := Ac; replace HB := xst hb; clear hb hbox hg; obtain ⟨hcz18_0, hcz18_1, hcz18_2, hcz18_3, hcz18_4⟩ := xc5 Aa; have hfz18_0 := xf Aa 0; have hfz18_1 := xf Aa 1; have hfz18_2 := xf Aa 2; have hfz18_3 := xf Aa 3; have hfz18_4 := xf Aa 4; have p7 : 0 ≤ (0 : Int) := (by omega); have q7 : 0 < a0.size := (by have : (0 : Int) < (a0.size : Int) := xod; omega); have hx7 : ∀ h : 0 < a0.size, ((a0[0]'h).toNat : Int) = bt a0 0 := aD a0 0; clear p7; have Ai : (0 < (a0.size : Int)) = True := eq_true (xod); replace q7 := eq_true q7))
        repeat (go_quiet (first | ((with_reducible refine ak (N := 7) rfl ?_); refine xev 7 #[.int .u8 0, .int .u8 0, .int .u8 0, .int .u8 0, .int .u8 0] 104 ?_; intro Ad hg w17 hbox hb; have Aa := Zz.mk (hbox); have Ac := xsz hg; have Af := Ac; replace HB := xst hb; clear hb hbox hg; obtain ⟨hcz18_0, hcz18_1, hcz18_2, hcz18_3, hcz18_4⟩ := xc5 Aa; have hfz18_0 := xf Aa 0; have hfz18_1 := xf Aa 1; have hfz18_2 := xf Aa 2; have hfz18_3 := xf Aa 3; have hfz18_4 := xf Aa 4; have p7 : 0 ≤ (0 : Int) := (by omega); have q7 : 0 < a0.size := (by have : (0 : Int) < (a0.size : Int) := xod; omega); have hx7 : ∀ h : 0 < a0.size, ((a0[0]'h).toNat : Int) = bt a0 0 := aD a0 0; clear p7; have Ai : (0 < (a0.size : Int)) = True := eq_true (xod); replace q7 := eq_true q7)); try go_wp2_with (first | ((with_reducible refine ak (N := 7) rfl ?_); refine xev 7 #[.int .u8 0, .int .u8 0, .int .u8 0, .int .u8 0, .int .u8 0] 104 ?_; intro Ad hg w17 hbox hb; have Aa := Zz.mk (hbox); have Ac := xsz hg; have Af := Ac; replace HB := xst hb; clear hb hbox hg; obtain ⟨hcz18_0, hcz18_1, hcz18_2, hcz18_3, hcz18_4⟩ := xc5 Aa; have hfz18_0 := xf Aa 0; have hfz18_1 := xf Aa 1; have hfz18_2 := xf Aa 2; have hfz18_3 := xf Aa 3; have hfz18_4 := xf Aa 4; have p7 : 0 ≤ (0 : Int) := (by omega); have q7 : 0 < a0.size := (by have : (0 : Int) < (a0.size : Int) := xod; omega); have hx7 : ∀ h : 0 < a0.size, ((a0[0]'h).toNat : Int) = bt a0 0 := aD a0 0; clear p7; have Ai : (0 < (a0.size : Int)) = True := eq_true (xod); replace q7 := eq_true q7)))
        go_loopg [2, 8] kj2 (fun kq v2 v8 w' => ∃ (Ae : Int) (Ab : Int), v2 = .int .i32 Ae ∧ v8 = .int .i64 Ab ∧ Zz (ao kq a0 Ae 1 Ab = some (r1, r2, r3)) ∧ Zz (kq ≤ kj2) ∧ Zz (w'.heap[Ad]? = some (.cells #[.int .u8 0, .int .u8 127, .int .u8 31, .int .u8 15, .int .u8 7] 104 (0, 0))) ∧ Zz (Below w.heap.size w w'))
        case atStart => exact ⟨(wrap32 (Go.bits .and .u8 (bt a0 0) 127)), (1), xrr, xrr, H', ⟨Nat.le_refl _⟩, ⟨by (with_reducible repeat (first | refine ai ?_ _ | refine aj ?_ | refine ah ?_ _)); refine ag (cs := #[.int .u8 0, .int .u8 127, .int .u8 31, .int .u8 15, .int .u8 0]) ?_ 4 _ rfl; (with_reducible repeat (first | refine ai ?_ _ | refine aj ?_ | refine ah ?_ _)); refine ag (cs := #[.int .u8 0, .int .u8 127, .int .u8 31, .int .u8 0, .int .u8 0]) ?_ 3 _ rfl; (with_reducible repeat (first | refine ai ?_ _ | refine aj ?_ | refine ah ?_ _)); refine ag (cs := #[.int .u8 0, .int .u8 127, .int .u8 0, .int .u8 0, .int .u8 0]) ?_ 2 _ rfl; (with_reducible repeat (first | refine ai ?_ _ | refine aj ?_ | refine ah ?_ _)); refine ag (cs := #[.int .u8 0, .int .u8 0, .int .u8 0, .int .u8 0, .int .u8 0]) ?_ 1 _ rfl; (with_reducible repeat (first | refine ai ?_ _ | refine aj ?_ | refine ah ?_ _)); refine ag (cs := #[.int .u8 0, .int .u8 0, .int .u8 0, .int .u8 0, .int .u8 0]) ?_ 0 _ rfl; (with_reducible repeat (first | refine ai ?_ _ | refine aj ?_ | refine ah ?_ _)); exact Aa.out⟩, ⟨xbl⟩⟩
        case round =>
         clear H'
         try clear p7
         try clear q7
         try clear hx7
         try clear Ai
         obtain ⟨Ae, Ab, rfl, rfl, HA, HK2, Aa, HB⟩ := hrel
         cases gk with
         | zero => exact absurd HA.out (by simp [ao])
         | succ k2 =>
          have H := HA.out
          clear HA
          simp only [ao] at H
          by_cases c19 : Ab < 1
          ·
           rw [if_pos c19] at H
           have An := decide_eq_true c19
           clear c19
           by_cases c20 : 0 ≤ Ab
           ·
            rw [if_pos c20] at H
            have AF := decide_eq_true c20
            clear c20
            by_cases c21 : Ab < (a0.size : Int)
            ·
             rw [if_pos c21] at H
             have AG := decide_eq_true c21
             clear c21
             have H' := Zz.mk H
             clear H
             have p22 : 0 ≤ (Ab : Int) := xod
             have q22 : Ab < (a0.size : Int) := xod
             have hx22 := aD a0 Ab
             replace p22 := eq_true p22
             replace q22 := eq_true q22
             try (have Az := q22; simp only [ByteArray.size_extract, Nat.min_self] at Az)
             go_wp2
             repeat (go_quiet (fail); try go_wp2)
             go_roundg k2
             case measure => have := HJ2.out; have := HK2.out; omega
             case rel => exact ⟨(Go.bits .or .i32 (wrap32 (Ae * 64)) (wrap32 (Go.bits .and .u8 (bt a0 Ab) 63))), (wrap64 (Ab + 1)), xrr, xrr, H', ⟨by have := HJ2.out; have := HK2.out; omega⟩, ⟨xbk⟩, ⟨xbl⟩⟩
            ·
             rw [if_neg c21] at H
             exact absurd H (by simp)
           ·
            rw [if_neg c20] at H
            exact absurd H (by simp)
          ·
           rw [if_neg c19] at H
           have An := decide_eq_false c19
           clear c19
           simp only [Option.some.injEq, Prod.mk.injEq] at H
           obtain ⟨rfl, rfl, rfl⟩ := H
           go_wp2
           repeat (go_quiet (fail); try go_wp2)
           go_ret3
           exact ⟨xre, xbl⟩
       ·
        rw [if_neg c16] at H
        clear c16
        by_cases c23 : Ag = 2
        ·
         subst c23
         rw [if_pos rfl] at H
         have H' := Zz.mk H
         clear H
         go_wp2_with (first | ((with_reducible refine ak (N := 7) rfl ?_); refine xev 7 #[.int .u8 0, .int .u8 0, .int .u8 0, .int .u8 0, .int .u8 0] 104 ?_; intro Ad hg w24 hbox hb; have Aa := Zz.mk (hbox); have Ac := xsz hg; have Af := Ac; replace HB := xst hb; clear hb hbox hg; obtain ⟨hcz25_0, hcz25_1, hcz25_2, hcz25_3, hcz25_4⟩ := xc5 Aa; have hfz25_0 := xf Aa 0; have hfz25_1 := xf Aa 1; have hfz25_2 := xf Aa 2; have hfz25_3 := xf Aa 3; have hfz25_4 := xf Aa 4; have p7 : 0 ≤ (0 : Int) := (by omega); have q7 : 0 < a0.size := (by have : (0 : Int) < (a0.size : Int) := xod; omega); have hx7 : ∀ h : 0 < a0.size, ((a0[0]'h).toNat : Int) = bt a0 0 := aD a0 0; clear p7; have Ai : (0 < (a0.size : Int)) = True := eq_true (xod); replace q7 := eq_true q7))
         repeat (go_quiet (first | ((with_reducible refine ak (N := 7) rfl ?_); refine xev 7 #[.int .u8 0, .int .u8 0, .int .u8 0, .int .u8 0, .int .u8 0] 104 ?_; intro Ad hg w24 hbox hb; have Aa := Zz.mk (hbox); have Ac := xsz hg; have Af := Ac; replace HB := xst hb; clear hb hbox hg; obtain ⟨hcz25_0, hcz25_1, hcz25_2, hcz25_3, hcz25_4⟩ := xc5 Aa; have hfz25_0 := xf Aa 0; have hfz25_1 := xf Aa 1; have hfz25_2 := xf Aa 2; have hfz25_3 := xf Aa 3; have hfz25_4 := xf Aa 4; have p7 : 0 ≤ (0 : Int) := (by omega); have q7 : 0 < a0.size := (by have : (0 : Int) < (a0.size : Int) := xod; omega); have hx7 : ∀ h : 0 < a0.size, ((a0[0]'h).toNat : Int) = bt a0 0 := aD a0 0; clear p7; have Ai : (0 < (a0.size : Int)) = True := eq_true (xod); replace q7 := eq_true q7)); try go_wp2_with (first | ((with_reducible refine ak (N := 7) rfl ?_); refine xev 7 #[.int .u8 0, .int .u8 0, .int .u8 0, .int .u8 0, .int .u8 0] 104 ?_; intro Ad hg w24 hbox hb; have Aa := Zz.mk (hbox); have Ac := xsz hg; have Af := Ac; replace HB := xst hb; clear hb hbox hg; obtain ⟨hcz25_0, hcz25_1, hcz25_2, hcz25_3, hcz25_4⟩ := xc5 Aa; have hfz25_0 := xf Aa 0; have hfz25_1 := xf Aa 1; have hfz25_2 := xf Aa 2; have hfz25_3 := xf Aa 3; have hfz25_4 := xf Aa 4; have p7 : 0 ≤ (0 : Int) := (by omega); have q7 : 0 < a0.size := (by have : (0 : Int) < (a0.size : Int) := xod; omega); have hx7 : ∀ h : 0 < a0.size, ((a0[0]'h).toNat : Int) = bt a0 0 := aD a0 0; clear p7; have Ai : (0 < (a0.size : Int)) = True := eq_true (xod); replace q7 := eq_true q7)))
         go_loopg [2, 8] kj2 (fun kq v2 v8 w' => ∃ (Ae : Int) (Ab : Int), v2 = .int .i32 Ae ∧ v8 = .int .i64 Ab ∧ Zz (ao kq a0 Ae 2 Ab = some (r1, r2, r3)) ∧ Zz (kq ≤ kj2) ∧ Zz (w'.heap[Ad]? = some (.cells #[.int .u8 0, .int .u8 127, .int .u8 31, .int .u8 15, .int .u8 7] 104 (0, 0))) ∧ Zz (Below w.heap.size w w'))
         case atStart => exact ⟨(wrap32 (Go.bits .and .u8 (bt a0 0) 31)), (1), xrr, xrr, H', ⟨Nat.le_refl _⟩, ⟨by (with_reducible repeat (first | refine ai ?_ _ | refine aj ?_ | refine ah ?_ _)); refine ag (cs := #[.int .u8 0, .int .u8 127, .int .u8 31, .int .u8 15, .int .u8 0]) ?_ 4 _ rfl; (with_reducible repeat (first | refine ai ?_ _ | refine aj ?_ | refine ah ?_ _)); refine ag (cs := #[.int .u8 0, .int .u8 127, .int .u8 31, .int .u8 0, .int .u8 0]) ?_ 3 _ rfl; (with_reducible repeat (first | refine ai ?_ _ | refine aj ?_ | refine ah ?_ _)); refine ag (cs := #[.int .u8 0, .int .u8 127, .int .u8 0, .int .u8 0, .int .u8 0]) ?_ 2 _ rfl; (with_reducible repeat (first | refine ai ?_ _ | refine aj ?_ | refine ah ?_ _)); refine ag (cs := #[.int .u8 0, .int .u8 0, .int .u8 0, .int .u8 0, .int .u8 0]) ?_ 1 _ rfl; (with_reducible repeat (first | refine ai ?_ _ | refine aj ?_ | refine ah ?_ _)); refine ag (cs := #[.int .u8 0, .int .u8 0, .int .u8 0, .int .u8 0, .int .u8 0]) ?_ 0 _ rfl; (with_reducible repeat (first | refine ai ?_ _ | refine aj ?_ | refine ah ?_ _)); exact Aa.out⟩, ⟨xbl⟩⟩
         case round =>
          clear H'
          try clear p7
          try clear q7
          try clear hx7
          try clear Ai
          obtain ⟨Ae, Ab, rfl, rfl, HA, HK2, Aa, HB⟩ := hrel
          cases gk with
          | zero => exact absurd HA.out (by simp [ao])
          | succ k2 =>
           have H := HA.out
           clear HA
           simp only [ao] at H
           by_cases c26 : Ab < 2
           ·
            rw [if_pos c26] at H
            have Ao := decide_eq_true c26
            clear c26
            by_cases c27 : 0 ≤ Ab
            ·
             rw [if_pos c27] at H
             have AH := decide_eq_true c27
             clear c27
             by_cases c28 : Ab < (a0.size : Int)
             ·
              rw [if_pos c28] at H
              have AI := decide_eq_true c28
              clear c28
              have H' := Zz.mk H
              clear H
              have p29 : 0 ≤ (Ab : Int) := xod
              have q29 : Ab < (a0.size : Int) := xod
              have hx29 := aD a0 Ab
              replace p29 := eq_true p29
              replace q29 := eq_true q29
              try (have AA := q29; simp only [ByteArray.size_extract, Nat.min_self] at AA)
              go_wp2
              repeat (go_quiet (fail); try go_wp2)
              go_roundg k2
              case measure => have := HJ2.out; have := HK2.out; omega
              case rel => exact ⟨(Go.bits .or .i32 (wrap32 (Ae * 64)) (wrap32 (Go.bits .and .u8 (bt a0 Ab) 63))), (wrap64 (Ab + 1)), xrr, xrr, H', ⟨by have := HJ2.out; have := HK2.out; omega⟩, ⟨xbk⟩, ⟨xbl⟩⟩
             ·
              rw [if_neg c28] at H
              exact absurd H (by simp)
            ·
             rw [if_neg c27] at H
             exact absurd H (by simp)
           ·
            rw [if_neg c26] at H
            have Ao := decide_eq_false c26
            clear c26
            simp only [Option.some.injEq, Prod.mk.injEq] at H
            obtain ⟨rfl, rfl, rfl⟩ := H
            go_wp2
            repeat (go_quiet (fail); try go_wp2)
            go_ret3
            exact ⟨xre, xbl⟩
        ·
         rw [if_neg c23] at H
         clear c23
         by_cases c30 : Ag = 3
         ·
          subst c30
          rw [if_pos rfl] at H
          have H' := Zz.mk H
          clear H
          go_wp2_with (first | ((with_reducible refine ak (N := 7) rfl ?_); refine xev 7 #[.int .u8 0, .int .u8 0, .int .u8 0, .int .u8 0, .int .u8 0] 104 ?_; intro Ad hg w31 hbox hb; have Aa := Zz.mk (hbox); have Ac := xsz hg; have Af := Ac; replace HB := xst hb; clear hb hbox hg; obtain ⟨hcz32_0, hcz32_1, hcz32_2, hcz32_3, hcz32_4⟩ := xc5 Aa; have hfz32_0 := xf Aa 0; have hfz32_1 := xf Aa 1; have hfz32_2 := xf Aa 2; have hfz32_3 := xf Aa 3; have hfz32_4 := xf Aa 4; have p7 : 0 ≤ (0 : Int) := (by omega); have q7 : 0 < a0.size := (by have : (0 : Int) < (a0.size : Int) := xod; omega); have hx7 : ∀ h : 0 < a0.size, ((a0[0]'h).toNat : Int) = bt a0 0 := aD a0 0; clear p7; have Ai : (0 < (a0.size : Int)) = True := eq_true (xod); replace q7 := eq_true q7))
          repeat (go_quiet (first | ((with_reducible refine ak (N := 7) rfl ?_); refine xev 7 #[.int .u8 0, .int .u8 0, .int .u8 0, .int .u8 0, .int .u8 0] 104 ?_; intro Ad hg w31 hbox hb; have Aa := Zz.mk (hbox); have Ac := xsz hg; have Af := Ac; replace HB := xst hb; clear hb hbox hg; obtain ⟨hcz32_0, hcz32_1, hcz32_2, hcz32_3, hcz32_4⟩ := xc5 Aa; have hfz32_0 := xf Aa 0; have hfz32_1 := xf Aa 1; have hfz32_2 := xf Aa 2; have hfz32_3 := xf Aa 3; have hfz32_4 := xf Aa 4; have p7 : 0 ≤ (0 : Int) := (by omega); have q7 : 0 < a0.size := (by have : (0 : Int) < (a0.size : Int) := xod; omega); have hx7 : ∀ h : 0 < a0.size, ((a0[0]'h).toNat : Int) = bt a0 0 := aD a0 0; clear p7; have Ai : (0 < (a0.size : Int)) = True := eq_true (xod); replace q7 := eq_true q7)); try go_wp2_with (first | ((with_reducible refine ak (N := 7) rfl ?_); refine xev 7 #[.int .u8 0, .int .u8 0, .int .u8 0, .int .u8 0, .int .u8 0] 104 ?_; intro Ad hg w31 hbox hb; have Aa := Zz.mk (hbox); have Ac := xsz hg; have Af := Ac; replace HB := xst hb; clear hb hbox hg; obtain ⟨hcz32_0, hcz32_1, hcz32_2, hcz32_3, hcz32_4⟩ := xc5 Aa; have hfz32_0 := xf Aa 0; have hfz32_1 := xf Aa 1; have hfz32_2 := xf Aa 2; have hfz32_3 := xf Aa 3; have hfz32_4 := xf Aa 4; have p7 : 0 ≤ (0 : Int) := (by omega); have q7 : 0 < a0.size := (by have : (0 : Int) < (a0.size : Int) := xod; omega); have hx7 : ∀ h : 0 < a0.size, ((a0[0]'h).toNat : Int) = bt a0 0 := aD a0 0; clear p7; have Ai : (0 < (a0.size : Int)) = True := eq_true (xod); replace q7 := eq_true q7)))
          go_loopg [2, 8] kj2 (fun kq v2 v8 w' => ∃ (Ae : Int) (Ab : Int), v2 = .int .i32 Ae ∧ v8 = .int .i64 Ab ∧ Zz (ao kq a0 Ae 3 Ab = some (r1, r2, r3)) ∧ Zz (kq ≤ kj2) ∧ Zz (w'.heap[Ad]? = some (.cells #[.int .u8 0, .int .u8 127, .int .u8 31, .int .u8 15, .int .u8 7] 104 (0, 0))) ∧ Zz (Below w.heap.size w w'))
          case atStart => exact ⟨(wrap32 (Go.bits .and .u8 (bt a0 0) 15)), (1), xrr, xrr, H', ⟨Nat.le_refl _⟩, ⟨by (with_reducible repeat (first | refine ai ?_ _ | refine aj ?_ | refine ah ?_ _)); refine ag (cs := #[.int .u8 0, .int .u8 127, .int .u8 31, .int .u8 15, .int .u8 0]) ?_ 4 _ rfl; (with_reducible repeat (first | refine ai ?_ _ | refine aj ?_ | refine ah ?_ _)); refine ag (cs := #[.int .u8 0, .int .u8 127, .int .u8 31, .int .u8 0, .int .u8 0]) ?_ 3 _ rfl; (with_reducible repeat (first | refine ai ?_ _ | refine aj ?_ | refine ah ?_ _)); refine ag (cs := #[.int .u8 0, .int .u8 127, .int .u8 0, .int .u8 0, .int .u8 0]) ?_ 2 _ rfl; (with_reducible repeat (first | refine ai ?_ _ | refine aj ?_ | refine ah ?_ _)); refine ag (cs := #[.int .u8 0, .int .u8 0, .int .u8 0, .int .u8 0, .int .u8 0]) ?_ 1 _ rfl; (with_reducible repeat (first | refine ai ?_ _ | refine aj ?_ | refine ah ?_ _)); refine ag (cs := #[.int .u8 0, .int .u8 0, .int .u8 0, .int .u8 0, .int .u8 0]) ?_ 0 _ rfl; (with_reducible repeat (first | refine ai ?_ _ | refine aj ?_ | refine ah ?_ _)); exact Aa.out⟩, ⟨xbl⟩⟩
          case round =>
           clear H'
           try clear p7
           try clear q7
           try clear hx7
           try clear Ai
           obtain ⟨Ae, Ab, rfl, rfl, HA, HK2, Aa, HB⟩ := hrel
           cases gk with
           | zero => exact absurd HA.out (by simp [ao])
           | succ k2 =>
            have H := HA.out
            clear HA
            simp only [ao] at H
            by_cases c33 : Ab < 3
            ·
             rw [if_pos c33] at H
             have Ap := decide_eq_true c33
             clear c33
             by_cases c34 : 0 ≤ Ab
             ·
              rw [if_pos c34] at H
              have AJ := decide_eq_true c34
              clear c34
              by_cases c35 : Ab < (a0.size : Int)
              ·
               rw [if_pos c35] at H
               have AK := decide_eq_true c35
               clear c35
               have H' := Zz.mk H
               clear H
               have p36 : 0 ≤ (Ab : Int) := xod
               have q36 : Ab < (a0.size : Int) := xod
               have hx36 := aD a0 Ab
               replace p36 := eq_true p36
               replace q36 := eq_true q36
               try (have AB := q36; simp only [ByteArray.size_extract, Nat.min_self] at AB)
               go_wp2
               repeat (go_quiet (fail); try go_wp2)
               go_roundg k2
               case measure => have := HJ2.out; have := HK2.out; omega
               case rel => exact ⟨(Go.bits .or .i32 (wrap32 (Ae * 64)) (wrap32 (Go.bits .and .u8 (bt a0 Ab) 63))), (wrap64 (Ab + 1)), xrr, xrr, H', ⟨by have := HJ2.out; have := HK2.out; omega⟩, ⟨xbk⟩, ⟨xbl⟩⟩
              ·
               rw [if_neg c35] at H
               exact absurd H (by simp)
             ·
              rw [if_neg c34] at H
              exact absurd H (by simp)
            ·
             rw [if_neg c33] at H
             have Ap := decide_eq_false c33
             clear c33
             simp only [Option.some.injEq, Prod.mk.injEq] at H
             obtain ⟨rfl, rfl, rfl⟩ := H
             go_wp2
             repeat (go_quiet (fail); try go_wp2)
             go_ret3
             exact ⟨xre, xbl⟩
         ·
          rw [if_neg c30] at H
          clear c30
          by_cases c37 : Ag = 4
          ·
           subst c37
           rw [if_pos rfl] at H
           have H' := Zz.mk H
           clear H
           go_wp2_with (first | ((with_reducible refine ak (N := 7) rfl ?_); refine xev 7 #[.int .u8 0, .int .u8 0, .int .u8 0, .int .u8 0, .int .u8 0] 104 ?_; intro Ad hg w38 hbox hb; have Aa := Zz.mk (hbox); have Ac := xsz hg; have Af := Ac; replace HB := xst hb; clear hb hbox hg; obtain ⟨hcz39_0, hcz39_1, hcz39_2, hcz39_3, hcz39_4⟩ := xc5 Aa; have hfz39_0 := xf Aa 0; have hfz39_1 := xf Aa 1; have hfz39_2 := xf Aa 2; have hfz39_3 := xf Aa 3; have hfz39_4 := xf Aa 4; have p7 : 0 ≤ (0 : Int) := (by omega); have q7 : 0 < a0.size := (by have : (0 : Int) < (a0.size : Int) := xod; omega); have hx7 : ∀ h : 0 < a0.size, ((a0[0]'h).toNat : Int) = bt a0 0 := aD a0 0; clear p7; have Ai : (0 < (a0.size : Int)) = True := eq_true (xod); replace q7 := eq_true q7))
           repeat (go_quiet (first | ((with_reducible refine ak (N := 7) rfl ?_); refine xev 7 #[.int .u8 0, .int .u8 0, .int .u8 0, .int .u8 0, .int .u8 0] 104 ?_; intro Ad hg w38 hbox hb; have Aa := Zz.mk (hbox); have Ac := xsz hg; have Af := Ac; replace HB := xst hb; clear hb hbox hg; obtain ⟨hcz39_0, hcz39_1, hcz39_2, hcz39_3, hcz39_4⟩ := xc5 Aa; have hfz39_0 := xf Aa 0; have hfz39_1 := xf Aa 1; have hfz39_2 := xf Aa 2; have hfz39_3 := xf Aa 3; have hfz39_4 := xf Aa 4; have p7 : 0 ≤ (0 : Int) := (by omega); have q7 : 0 < a0.size := (by have : (0 : Int) < (a0.size : Int) := xod; omega); have hx7 : ∀ h : 0 < a0.size, ((a0[0]'h).toNat : Int) = bt a0 0 := aD a0 0; clear p7; have Ai : (0 < (a0.size : Int)) = True := eq_true (xod); replace q7 := eq_true q7)); try go_wp2_with (first | ((with_reducible refine ak (N := 7) rfl ?_); refine xev 7 #[.int .u8 0, .int .u8 0, .int .u8 0, .int .u8 0, .int .u8 0] 104 ?_; intro Ad hg w38 hbox hb; have Aa := Zz.mk (hbox); have Ac := xsz hg; have Af := Ac; replace HB := xst hb; clear hb hbox hg; obtain ⟨hcz39_0, hcz39_1, hcz39_2, hcz39_3, hcz39_4⟩ := xc5 Aa; have hfz39_0 := xf Aa 0; have hfz39_1 := xf Aa 1; have hfz39_2 := xf Aa 2; have hfz39_3 := xf Aa 3; have hfz39_4 := xf Aa 4; have p7 : 0 ≤ (0 : Int) := (by omega); have q7 : 0 < a0.size := (by have : (0 : Int) < (a0.size : Int) := xod; omega); have hx7 : ∀ h : 0 < a0.size, ((a0[0]'h).toNat : Int) = bt a0 0 := aD a0 0; clear p7; have Ai : (0 < (a0.size : Int)) = True := eq_true (xod); replace q7 := eq_true q7)))
           go_loopg [2, 8] kj2 (fun kq v2 v8 w' => ∃ (Ae : Int) (Ab : Int), v2 = .int .i32 Ae ∧ v8 = .int .i64 Ab ∧ Zz (ao kq a0 Ae 4 Ab = some (r1, r2, r3)) ∧ Zz (kq ≤ kj2) ∧ Zz (w'.heap[Ad]? = some (.cells #[.int .u8 0, .int .u8 127, .int .u8 31, .int .u8 15, .int .u8 7] 104 (0, 0))) ∧ Zz (Below w.heap.size w w'))
           case atStart => exact ⟨(wrap32 (Go.bits .and .u8 (bt a0 0) 7)), (1), xrr, xrr, H', ⟨Nat.le_refl _⟩, ⟨by (with_reducible repeat (first | refine ai ?_ _ | refine aj ?_ | refine ah ?_ _)); refine ag (cs := #[.int .u8 0, .int .u8 127, .int .u8 31, .int .u8 15, .int .u8 0]) ?_ 4 _ rfl; (with_reducible repeat (first | refine ai ?_ _ | refine aj ?_ | refine ah ?_ _)); refine ag (cs := #[.int .u8 0, .int .u8 127, .int .u8 31, .int .u8 0, .int .u8 0]) ?_ 3 _ rfl; (with_reducible repeat (first | refine ai ?_ _ | refine aj ?_ | refine ah ?_ _)); refine ag (cs := #[.int .u8 0, .int .u8 127, .int .u8 0, .int .u8 0, .int .u8 0]) ?_ 2 _ rfl; (with_reducible repeat (first | refine ai ?_ _ | refine aj ?_ | refine ah ?_ _)); refine ag (cs := #[.int .u8 0, .int .u8 0, .int .u8 0, .int .u8 0, .int .u8 0]) ?_ 1 _ rfl; (with_reducible repeat (first | refine ai ?_ _ | refine aj ?_ | refine ah ?_ _)); refine ag (cs := #[.int .u8 0, .int .u8 0, .int .u8 0, .int .u8 0, .int .u8 0]) ?_ 0 _ rfl; (with_reducible repeat (first | refine ai ?_ _ | refine aj ?_ | refine ah ?_ _)); exact Aa.out⟩, ⟨xbl⟩⟩
           case round =>
            clear H'
            try clear p7
            try clear q7
            try clear hx7
            try clear Ai
            obtain ⟨Ae, Ab, rfl, rfl, HA, HK2, Aa, HB⟩ := hrel
            cases gk with
            | zero => exact absurd HA.out (by simp [ao])
            | succ k2 =>
             have H := HA.out
             clear HA
             simp only [ao] at H
             by_cases c40 : Ab < 4
             ·
              rw [if_pos c40] at H
              have Aq := decide_eq_true c40
              clear c40
              by_cases c41 : 0 ≤ Ab
              ·
               rw [if_pos c41] at H
               have AL := decide_eq_true c41
               clear c41
               by_cases c42 : Ab < (a0.size : Int)
               ·
                rw [if_pos c42] at H
                have AM := decide_eq_true c42
                clear c42
                have H' := Zz.mk H
                clear H
                have p43 : 0 ≤ (Ab : Int) := xod
                have q43 : Ab < (a0.size : Int) := xod
                have hx43 := aD a0 Ab
                replace p43 := eq_true p43
                replace q43 := eq_true q43
                try (have AC := q43; simp only [ByteArray.size_extract, Nat.min_self] at AC)
                go_wp2
                repeat (go_quiet (fail); try go_wp2)
                go_roundg k2
                case measure => have := HJ2.out; have := HK2.out; omega
                case rel => exact ⟨(Go.bits .or .i32 (wrap32 (Ae * 64)) (wrap32 (Go.bits .and .u8 (bt a0 Ab) 63))), (wrap64 (Ab + 1)), xrr, xrr, H', ⟨by have := HJ2.out; have := HK2.out; omega⟩, ⟨xbk⟩, ⟨xbl⟩⟩
               ·
                rw [if_neg c42] at H
                exact absurd H (by simp)
              ·
               rw [if_neg c41] at H
               exact absurd H (by simp)
             ·
              rw [if_neg c40] at H
              have Aq := decide_eq_false c40
              clear c40
              simp only [Option.some.injEq, Prod.mk.injEq] at H
              obtain ⟨rfl, rfl, rfl⟩ := H
              go_wp2
              repeat (go_quiet (fail); try go_wp2)
              go_ret3
              exact ⟨xre, xbl⟩
          ·
           rw [if_neg c37] at H
           clear c37
           exact absurd H (by simp)
     ·
      rw [if_neg c8] at H
      exact absurd H (by simp)
    ·
     rw [if_neg c6] at H
     exact absurd H (by simp)
mutual
def bq : Nat → ByteArray → ByteArray → Int → Option (Int)
  | 0, _, _, _ => none
  | k + 1, x0, x2, x7 => if x7 < (x0.size : Int) then (bN k x0 x2 x7 (x2.size : Int) 0) else (some (-1))
def bN : Nat → ByteArray → ByteArray → Int → Int → Int → Option (Int)
  | 0, _, _, _, _, _ => none
  | k + 1, x0, x2, x7, x18, x19 => if x19 < x18 then (if 0 ≤ x7 then (if x7 < (x0.size : Int) then (if 0 ≤ x19 then (if x19 < (x2.size : Int) then (if (bt x0 x7) = (bt x2 x19) then (some x7) else (bN k x0 x2 x7 x18 (wrap64 (x19 + 1)))) else (none)) else (none)) else (none)) else (none)) else (bq k x0 x2 (wrap64 (x7 + 1)))
end
def bE (k : Nat) (a0 : ByteArray) (a1 : Int) (a2 : ByteArray) : Option (Int) := bq k a0 a2 (mx a1 0)
theorem fc : ∀ k, (∀ y0 y1 y2, LeO (bq k y0 y1 y2) (bq (k + 1) y0 y1 y2)) ∧ (∀ y0 y1 y2 y3 y4, LeO (bN k y0 y1 y2 y3 y4) (bN (k + 1) y0 y1 y2 y3 y4))
  | 0 => ⟨fun _ _ _ r h => by simp [bq] at h, fun _ _ _ _ _ r h => by simp [bN] at h⟩
  | k + 1 => by
    obtain ⟨ih0, ih1⟩ := fc k
    refine ⟨?_, ?_⟩
    · intro y0 y1 y2
      unfold bq
      exact xmo
    · intro y0 y1 y2 y3 y4
      unfold bN
      exact xmo
theorem es : ∀ a0 a1 a2 k, LeO (bE k a0 a1 a2) (bE (k + 1) a0 a1 a2) := by
  intro a0 a1 a2 k
  obtain ⟨ih0, ih1⟩ := fc k
  unfold bE
  exact xmo
theorem dj (k : Nat) (a0 : ByteArray) (a1 : Int) (a2 : ByteArray) (r : Int) (w : World) (h : bE k a0 a1 a2 = some r) :
    Calls Tryd.prog 63 #[.string a0, .int .i64 a1, .string a2] w fun e w' => e = .returned (.int .i64 r) ∧ Below w.heap.size w w' := by
 have HB := Zz.mk (Below.refl w.heap.size w)
 have H : (bq k a0 a2 (mx a1 0)) = some r := h
 clear h
 obtain ⟨Ah, Ac⟩ : ∃ j_ : Int, (mx a1 0) = j_ := ⟨_, rfl⟩
 first | rw [Ac] at H | simp only [Ac] at H | skip
 (try (have Ak : 0 ≤ Ah := by (rw [← Ac]; unfold mx; (repeat' split) <;> omega)))
 (try (have Al : 0 ≤ Ah := by omega))
 have hji4_ : (if a1 < 0 then 0 else a1) = Ah := Ac
 have H' := Zz.mk H
 clear H
 go_enter Tryd.func63, Tryd.ntmps63
 go_wp2
 repeat (go_quiet (fail); try go_wp2)
 go_loopg [7] k (fun kq v7 w' => ∃ (Ab : Int), v7 = .int .i64 Ab ∧ Zz (bq kq a0 a2 Ab = some r) ∧ Zz (kq ≤ k) ∧ Zz (Below w.heap.size w w'))
 case atStart => exact ⟨(Ah), (by first | rfl | (simp; done) | (simp only [← Ac] <;> (first | rfl | simp)) | (simp [*]; done) | (simp [wrap64]; done)), H', ⟨Nat.le_refl _⟩, ⟨xbl⟩⟩
 case round =>
  clear H'
  obtain ⟨Ab, rfl, HA, HK1, HB⟩ := hrel
  cases gk with
  | zero => exact absurd HA.out (by simp [bq])
  | succ k1 =>
   have H := HA.out
   clear HA
   simp only [bq] at H
   by_cases c5 : Ab < (a0.size : Int)
   ·
    rw [if_pos c5] at H
    have Ae := decide_eq_true c5
    clear c5
    have H' := Zz.mk H
    clear H
    go_wp2
    repeat (go_quiet (fail); try go_wp2)
    go_loopg [19] k1 (fun kq v19 w' => ∃ (Aa : Int), v19 = .int .i64 Aa ∧ Zz (bN kq a0 a2 Ab (a2.size : Int) Aa = some r) ∧ Zz (kq ≤ k1) ∧ Zz (Below w.heap.size w w'))
    case atStart => exact ⟨(0), xrr, H', ⟨Nat.le_refl _⟩, ⟨xbl⟩⟩
    case round =>
     clear H'
     clear Ae
     obtain ⟨Aa, rfl, HA, HK2, HB⟩ := hrel
     cases gk with
     | zero => exact absurd HA.out (by simp [bN])
     | succ k2 =>
      have H := HA.out
      clear HA
      simp only [bN] at H
      by_cases c6 : Aa < (a2.size : Int)
      ·
       rw [if_pos c6] at H
       have Ai := decide_eq_true c6
       clear c6
       by_cases c7 : 0 ≤ Ab
       ·
        rw [if_pos c7] at H
        have Ao := decide_eq_true c7
        clear c7
        by_cases c8 : Ab < (a0.size : Int)
        ·
         rw [if_pos c8] at H
         have Ap := decide_eq_true c8
         clear c8
         by_cases c10 : 0 ≤ Aa
         ·
          rw [if_pos c10] at H
          have Am := decide_eq_true c10
          clear c10
          by_cases c11 : Aa < (a2.size : Int)
          ·
           rw [if_pos c11] at H
           have An := decide_eq_true c11
           clear c11
           by_cases c13 : (bt a0 Ab) = (bt a2 Aa)
           ·
            rw [if_pos c13] at H
            have Af : ((bt a0 Ab) == (bt a2 Aa)) = true := beq_iff_eq.mpr c13
            have Ag : ((bt a0 Ab) != (bt a2 Aa)) = false := bne_eq_false_iff_eq.mpr c13
            clear c13
            obtain rfl := Option.some.inj H
            have p9 : 0 ≤ (Ab : Int) := xod
            have q9 : Ab < (a0.size : Int) := xod
            have hx9 := aD a0 Ab
            replace p9 := eq_true p9
            replace q9 := eq_true q9
            try (have Aj := q9; simp only [ByteArray.size_extract, Nat.min_self] at Aj)
            have p12 : 0 ≤ (Aa : Int) := xod
            have q12 : Aa < (a2.size : Int) := xod
            have hx12 := aD a2 Aa
            replace p12 := eq_true p12
            replace q12 := eq_true q12
            try (have Ad := q12; simp only [ByteArray.size_extract, Nat.min_self] at Ad)
            go_wp2
            repeat (go_quiet (fail); try go_wp2)
            go_ret
            exact ⟨by first | rfl | (simp [aN, aQ] <;> first | rfl | (simp only [ck, bne, Bool.not_not]; done)) | (simp only [← Ac]; first | rfl | (simp [aN, aQ] <;> rfl)) | (simp [*, aN, aQ] <;> rfl), xbl⟩
           ·
            rw [if_neg c13] at H
            have Af : ((bt a0 Ab) == (bt a2 Aa)) = false := beq_eq_false_iff_ne.mpr c13
            have Ag : ((bt a0 Ab) != (bt a2 Aa)) = true := bne_iff_ne.mpr c13
            have H' := Zz.mk H
            clear H
            have p9 : 0 ≤ (Ab : Int) := xod
            have q9 : Ab < (a0.size : Int) := xod
            have hx9 := aD a0 Ab
            replace p9 := eq_true p9
            replace q9 := eq_true q9
            try (have Aj := q9; simp only [ByteArray.size_extract, Nat.min_self] at Aj)
            have p12 : 0 ≤ (Aa : Int) := xod
            have q12 : Aa < (a2.size : Int) := xod
            have hx12 := aD a2 Aa
            replace p12 := eq_true p12
            replace q12 := eq_true q12
            try (have Ad := q12; simp only [ByteArray.size_extract, Nat.min_self] at Ad)
            go_wp2
            repeat (go_quiet (fail); try go_wp2)
            go_roundg k2
            case measure => have := HK1.out; have := HK2.out; omega
            case rel => exact ⟨(wrap64 (Aa + 1)), xrr, H', ⟨by have := HK1.out; have := HK2.out; omega⟩, ⟨xbl⟩⟩
          ·
           rw [if_neg c11] at H
           exact absurd H (by simp)
         ·
          rw [if_neg c10] at H
          exact absurd H (by simp)
        ·
         rw [if_neg c8] at H
         exact absurd H (by simp)
       ·
        rw [if_neg c7] at H
        exact absurd H (by simp)
      ·
       rw [if_neg c6] at H
       have Ai := decide_eq_false c6
       clear c6
       have H' := Zz.mk H
       clear H
       go_wp2
       repeat (go_quiet (fail); try go_wp2)
       go_roundg k2
       case measure => have := HK1.out; have := HK2.out; omega
       case rel => exact ⟨(wrap64 (Ab + 1)), xrr, H', ⟨by have := HK1.out; have := HK2.out; omega⟩, ⟨xbl⟩⟩
   ·
    rw [if_neg c5] at H
    have Ae := decide_eq_false c5
    clear c5
    obtain rfl := Option.some.inj H
    go_wp2
    repeat (go_quiet (fail); try go_wp2)
    go_ret
    exact ⟨by first | rfl | (simp [aN, aQ] <;> first | rfl | (simp only [ck, bne, Bool.not_not]; done)) | (simp only [← Ac]; first | rfl | (simp [aN, aQ] <;> rfl)) | (simp [*, aN, aQ] <;> rfl), xbl⟩
def bW (k : Nat) (a0 : Int) (a1 : Int) : Option (Bool) := (cr a0).bind fun bt116 => (if bt116.2 = true then ((cy k a1 15).bind fun t118 => (if t118 = true then (some true) else ((bE k bt116.1 0 (strOfNums (([a1] : List Int)))).bind fun t122 => (some (decide (t122 ≥ 0)))))) else (some false))
theorem dL : ∀ a0 a1 k, LeO (bW k a0 a1) (bW (k + 1) a0 a1) := by
  intro a0 a1 k
  have m0 := @es; have m1 := @dl
  unfold bW
  exact xmo
theorem g9 (k : Nat) (a0 : Int) (a1 : Int) (r : Bool) (w : World) (h : bW k a0 a1 = some r) :
    Calls Tryd.prog 77 #[.int .i64 a0, .int .u8 a1] w fun e w' => e = .returned (.bool r) ∧ Below w.heap.size w w' := by
 have HB := Zz.mk (Below.refl w.heap.size w)
 have H : ((cr a0).bind fun Ae => (if Ae.2 = true then ((cy k a1 15).bind fun Ag => (if Ag = true then (some true) else ((bE k Ae.1 0 (strOfNums (([a1] : List Int)))).bind fun Ab => (some (decide (Ab ≥ 0)))))) else (some false))) = some r := h
 clear h
 replace H := Option.bind_eq_some_iff.mp H
 obtain ⟨⟨Ac, Ai⟩, A30, H⟩ := H
 try dsimp only at H
 have A3 := Zz.mk A30
 clear A30
 by_cases c4 : Ai = true
 ·
  subst c4
  rw [if_pos rfl] at H
  replace H := Option.bind_eq_some_iff.mp H
  obtain ⟨Ag, A50, H⟩ := H
  try dsimp only at H
  have A5 := Zz.mk A50
  clear A50
  by_cases c6 : Ag = true
  ·
   subst c6
   rw [if_pos rfl] at H
   obtain rfl := Option.some.inj H
   go_enter Tryd.func77, Tryd.ntmps77
   go_wp2_with (first | ((with_reducible refine ae (f := 55) rfl ?_); refine xgl 9 Tryd.func55 #[.int .i64 a0] ?_; (with_reducible refine (bp a0 Ac true _ A3.out).mono ?_); rintro e w' ⟨rfl, ⟨nd, rfl⟩⟩; refine ⟨_, rfl, ?_⟩) | ((with_reducible refine ae (f := 47) rfl ?_); refine xgl 15 Tryd.func47 #[.int .u8 a1, .int .i64 15] ?_; (with_reducible refine (bY k a1 15 true _ A5.out).mono ?_); rintro e w' ⟨rfl, ⟨nd, rfl⟩⟩; refine ⟨_, rfl, ?_⟩))
   go_ret
   exact ⟨xre, xbl⟩
  ·
   replace c6 := Bool.eq_false_iff.mpr c6
   subst c6
   rw [if_neg (show ¬ (false = true) by decide)] at H
   obtain ⟨Ah, Aa⟩ : ∃ y_ : List Int, y_ = (([a1] : List Int)) := ⟨_, rfl⟩
   replace H : ((bE k Ac 0 (strOfNums Ah)).bind fun Ab => (some (decide (Ab ≥ 0)))) = some r := by first | (rw [Aa]; with_reducible exact H) | (have H2_ := (Option.bind_some _ _).symm.trans H; rw [Aa]; with_reducible exact H2_) | (have H2_ := (Option.bind_some _ _).symm.trans H; with_reducible exact H2_) | with_reducible exact H | (rw [Aa]; exact H) | exact H
   have Af := Zz.mk Aa
   clear Aa
   replace H := Option.bind_eq_some_iff.mp H
   obtain ⟨Ab, A70, H⟩ := H
   try dsimp only at H
   have A7 := Zz.mk A70
   clear A70
   obtain rfl := Option.some.inj H
   go_enter Tryd.func77, Tryd.ntmps77
   go_wp2_with (first | ((with_reducible refine ae (f := 55) rfl ?_); refine xgl 9 Tryd.func55 #[.int .i64 a0] ?_; (with_reducible refine (bp a0 Ac true _ A3.out).mono ?_); rintro e w' ⟨rfl, ⟨nd, rfl⟩⟩; refine ⟨_, rfl, ?_⟩) | ((with_reducible refine ae (f := 47) rfl ?_); refine xgl 15 Tryd.func47 #[.int .u8 a1, .int .i64 15] ?_; (with_reducible refine (bY k a1 15 false _ A5.out).mono ?_); rintro e w' ⟨rfl, ⟨nd, rfl⟩⟩; refine ⟨_, rfl, ?_⟩) | ((with_reducible refine ak (N := 19) rfl ?_); (try (refine cQ (by rfl) ?_; dsimp only)); refine Kd.R_lit (Kd.int .u8) _ 5 ?hg (N := 19) ?hd (xs := ([a1] : List Int)) (inner := [.int .u8 a1]) (ok := fun _ => True) (okp := fun _ => True) ?hr ?hp (fun _ hk => hk) trivial (Below.refl _ _) (Nat.le_refl _) (by simp) ?_; (case hd => rfl); (case hg => rfl); (case hr => first | (go_simp; done) | (go_simp; rfl)); (case hp => exact (Reps.one (show Kd.M (Kd.int .u8) _ _ _ a1 [.int .u8 a1] from rfl) (Reps.none _ _))); intro v120 w8 ho9 hb hg_ hnew_; clear hg_ hnew_; (first | rw [← Af.out] at ho9 | (simp only [Int.reduceToNat] at ho9; rw [← Af.out] at ho9)); have Ad := Zz.mk (Kd.R_lower ho9 (bh xbl)); replace HB := xst hb; clear hb ho9; have hcv10 := et (P := Tryd.prog) Tryd.underlying60 Tryd.underlying5 Tryd.underlying9 (Kd.own_of_R Ad.out)) | (go_at_call 63; (with_reducible refine (dj k Ac 0 (strOfNums Ah) Ab _ A7.out).mono ?_); rintro e w11 ⟨rfl, hb⟩; replace Ad := Zz.mk (Kd.R_below (xkd Ad) hb); replace HB := xst hb; (try clear hb)))
   go_ret
   exact ⟨xre, xbl⟩
 ·
  replace c4 := Bool.eq_false_iff.mpr c4
  subst c4
  rw [if_neg (show ¬ (false = true) by decide)] at H
  obtain rfl := Option.some.inj H
  go_enter Tryd.func77, Tryd.ntmps77
  go_wp2_with (first | ((with_reducible refine ae (f := 55) rfl ?_); refine xgl 9 Tryd.func55 #[.int .i64 a0] ?_; (with_reducible refine (bp a0 Ac false _ A3.out).mono ?_); rintro e w' ⟨rfl, ⟨nd, rfl⟩⟩; refine ⟨_, rfl, ?_⟩))
  go_ret
  exact ⟨xre, xbl⟩
def av : Nat → Int → Bool → Option (Bool)
  | 0, _, _ => none
  | k + 1, x0, x6 => if x6 = true then (some true) else (if x0 < 65536 then (some false) else (if x0 > 983037 then (some false) else (if (Go.bits .and .i32 x0 65535) ≤ 65533 then (if x0 < 917504 then (some true) else (some (decide (x0 ≥ 921600)))) else (some false))))
def cj (k : Nat) (a0 : Int) : Option (Bool) := if a0 < 160 then (some false) else (if a0 ≤ 55295 then (av k a0 (decide (a0 ≤ 55295))) else (if a0 ≥ 63744 then (if a0 ≤ 64975 then (av k a0 (decide (a0 ≤ 64975))) else (if a0 ≥ 65008 then (av k a0 (decide (a0 ≤ 65519))) else (av k a0 false))) else (if a0 ≥ 65008 then (av k a0 (decide (a0 ≤ 65519))) else (av k a0 false))))
theorem ey : ∀ k, (∀ y0 y1, LeO (av k y0 y1) (av (k + 1) y0 y1))
  | 0 => fun _ _ r h => by simp [av] at h
  | k + 1 => by
    have ih0 := ey k
    · intro y0 y1
      unfold av
      exact xmo
theorem e9 : ∀ a0 k, LeO (cj k a0) (cj (k + 1) a0) := by
  intro a0 k
  have ih0 := ey k
  unfold cj
  exact xmo
theorem dx (k : Nat) (a0 : Int) (r : Bool) (w : World) (h : cj k a0 = some r) :
    Calls Tryd.prog 78 #[.int .i32 a0] w fun e w' => e = .returned (.bool r) ∧ Drawn0 w w' := by
 have H : (if a0 < 160 then (some false) else (if a0 ≤ 55295 then (av k a0 (decide (a0 ≤ 55295))) else (if a0 ≥ 63744 then (if a0 ≤ 64975 then (av k a0 (decide (a0 ≤ 64975))) else (if a0 ≥ 65008 then (av k a0 (decide (a0 ≤ 65519))) else (av k a0 false))) else (if a0 ≥ 65008 then (av k a0 (decide (a0 ≤ 65519))) else (av k a0 false))))) = some r := h
 clear h
 by_cases c2 : a0 < 160
 ·
  rw [if_pos c2] at H
  have Ac := decide_eq_true c2
  clear c2
  obtain rfl := Option.some.inj H
  go_enter Tryd.func78, Tryd.ntmps78
  go_wp2
  go_ret
  exact ⟨xrr, xdr⟩
 ·
  rw [if_neg c2] at H
  have Ac := decide_eq_false c2
  clear c2
  have Ah := Zz.mk H
  clear H
  go_enter Tryd.func78, Tryd.ntmps78
  go_upto_if 6 with (fail)
  go_cut [6] (fun v6 wc => ∃ (kq : Nat) (Ab : Bool), v6 = .bool Ab ∧ Zz (av kq a0 Ab = some r) ∧ Zz (kq ≤ k) ∧ Drawn0 w wc)
  case first =>
   have H := Ah.out
   clear Ah
   by_cases c4 : a0 ≤ 55295
   ·
    rw [if_pos c4] at H
    have Aa := decide_eq_true c4
    clear c4
    (first | rw [Aa] | (simp only [an, au]; rw [Aa]) | (rw [Ai]; (try simp only [Bool.not_false, Bool.not_true])) | (rw [Aj]; (try simp only [Bool.not_false, Bool.not_true])) | skip)
    have H' := Zz.mk H
    clear H
    go_wp2
    go_meet
    case rel => exact ⟨_, (decide (a0 ≤ 55295)), xrr, H', ⟨xom⟩, xdr⟩
   ·
    rw [if_neg c4] at H
    have Aa := decide_eq_false c4
    clear c4
    (first | rw [Aa] | (simp only [an, au]; rw [Aa]) | (rw [Ai]; (try simp only [Bool.not_false, Bool.not_true])) | (rw [Aj]; (try simp only [Bool.not_false, Bool.not_true])) | skip)
    by_cases c5 : a0 ≥ 63744
    ·
     rw [if_pos c5] at H
     have Ak := decide_eq_true c5
     clear c5
     by_cases c6 : a0 ≤ 64975
     ·
      rw [if_pos c6] at H
      have Al := decide_eq_true c6
      clear c6
      have H' := Zz.mk H
      clear H
      go_wp2
      go_meet
      case rel => exact ⟨_, (decide (a0 ≤ 64975)), xrr, H', ⟨xom⟩, xdr⟩
     ·
      rw [if_neg c6] at H
      have Al := decide_eq_false c6
      clear c6
      by_cases c7 : a0 ≥ 65008
      ·
       rw [if_pos c7] at H
       have Am := decide_eq_true c7
       clear c7
       have H' := Zz.mk H
       clear H
       go_wp2
       go_meet
       case rel => exact ⟨_, (decide (a0 ≤ 65519)), xrr, H', ⟨xom⟩, xdr⟩
      ·
       rw [if_neg c7] at H
       have Am := decide_eq_false c7
       clear c7
       have H' := Zz.mk H
       clear H
       go_wp2
       go_meet
       case rel => exact ⟨_, (false), xrr, H', ⟨xom⟩, xdr⟩
    ·
     rw [if_neg c5] at H
     have Ak := decide_eq_false c5
     clear c5
     by_cases c8 : a0 ≥ 65008
     ·
      rw [if_pos c8] at H
      have An := decide_eq_true c8
      clear c8
      have H' := Zz.mk H
      clear H
      go_wp2
      go_meet
      case rel => exact ⟨_, (decide (a0 ≤ 65519)), xrr, H', ⟨xom⟩, xdr⟩
     ·
      rw [if_neg c8] at H
      have An := decide_eq_false c8
      clear c8
      have H' := Zz.mk H
      clear H
      go_wp2
      go_meet
      case rel => exact ⟨_, (false), xrr, H', ⟨xom⟩, xdr⟩
  case rest =>
   clear Ah
   clear Ac
   obtain ⟨kq, Ab, rfl, HA, HJ2, ⟨mc2, rfl⟩⟩ := hcut
   cases kq with
   | zero => exact absurd HA.out (by simp [av])
   | succ kj2 =>
    have H := HA.out
    clear HA
    simp only [av] at H
    by_cases c9 : Ab = true
    ·
     subst c9
     rw [if_pos rfl] at H
     obtain rfl := Option.some.inj H
     go_wp2
     go_ret
     exact ⟨xrr, xdr⟩
    ·
     replace c9 := Bool.eq_false_iff.mpr c9
     subst c9
     rw [if_neg (show ¬ (false = true) by decide)] at H
     by_cases c10 : a0 < 65536
     ·
      rw [if_pos c10] at H
      have Ad := decide_eq_true c10
      clear c10
      obtain rfl := Option.some.inj H
      go_wp2
      go_ret
      exact ⟨xrr, xdr⟩
     ·
      rw [if_neg c10] at H
      have Ad := decide_eq_false c10
      clear c10
      by_cases c11 : a0 > 983037
      ·
       rw [if_pos c11] at H
       have Ae := decide_eq_true c11
       clear c11
       obtain rfl := Option.some.inj H
       go_wp2
       go_ret
       exact ⟨xrr, xdr⟩
      ·
       rw [if_neg c11] at H
       have Ae := decide_eq_false c11
       clear c11
       by_cases c12 : (Go.bits .and .i32 a0 65535) ≤ 65533
       ·
        rw [if_pos c12] at H
        have Af := decide_eq_true c12
        clear c12
        by_cases c13 : a0 < 917504
        ·
         rw [if_pos c13] at H
         have Ag := decide_eq_true c13
         clear c13
         obtain rfl := Option.some.inj H
         go_wp2
         go_ret
         exact ⟨xrr, xdr⟩
        ·
         rw [if_neg c13] at H
         have Ag := decide_eq_false c13
         clear c13
         obtain rfl := Option.some.inj H
         go_wp2
         go_ret
         exact ⟨xrr, xdr⟩
       ·
        rw [if_neg c12] at H
        have Af := decide_eq_false c12
        clear c12
        obtain rfl := Option.some.inj H
        go_wp2
        go_ret
        exact ⟨xrr, xdr⟩
def dp (a0 : Int) : Option (Bool) := if a0 ≥ 57344 then (if a0 ≤ 63743 then (some true) else (if a0 ≥ 983040 then (if a0 ≤ 1048573 then (some true) else (if a0 ≥ 1048576 then (some (decide (a0 ≤ 1114109))) else (some false))) else (if a0 ≥ 1048576 then (some (decide (a0 ≤ 1114109))) else (some false)))) else (if a0 ≥ 983040 then (if a0 ≤ 1048573 then (some true) else (if a0 ≥ 1048576 then (some (decide (a0 ≤ 1114109))) else (some false))) else (if a0 ≥ 1048576 then (some (decide (a0 ≤ 1114109))) else (some false)))
theorem gB (a0 : Int) (r : Bool) (w : World) (h : dp a0 = some r) :
    Calls Tryd.prog 79 #[.int .i32 a0] w fun e w' => e = .returned (.bool r) ∧ Drawn0 w w' := by
 have H : (if a0 ≥ 57344 then (if a0 ≤ 63743 then (some true) else (if a0 ≥ 983040 then (if a0 ≤ 1048573 then (some true) else (if a0 ≥ 1048576 then (some (decide (a0 ≤ 1114109))) else (some false))) else (if a0 ≥ 1048576 then (some (decide (a0 ≤ 1114109))) else (some false)))) else (if a0 ≥ 983040 then (if a0 ≤ 1048573 then (some true) else (if a0 ≥ 1048576 then (some (decide (a0 ≤ 1114109))) else (some false))) else (if a0 ≥ 1048576 then (some (decide (a0 ≤ 1114109))) else (some false)))) = some r := h
 clear h
 by_cases c2 : a0 ≥ 57344
 ·
  rw [if_pos c2] at H
  have Ac := decide_eq_true c2
  clear c2
  by_cases c3 : a0 ≤ 63743
  ·
   rw [if_pos c3] at H
   have Ad := decide_eq_true c3
   clear c3
   obtain rfl := Option.some.inj H
   go_enter Tryd.func79, Tryd.ntmps79
   go_wp2
   go_ret
   exact ⟨xrr, xdr⟩
  ·
   rw [if_neg c3] at H
   have Ad := decide_eq_false c3
   clear c3
   by_cases c4 : a0 ≥ 983040
   ·
    rw [if_pos c4] at H
    have Ae := decide_eq_true c4
    clear c4
    by_cases c5 : a0 ≤ 1048573
    ·
     rw [if_pos c5] at H
     have Af := decide_eq_true c5
     clear c5
     obtain rfl := Option.some.inj H
     go_enter Tryd.func79, Tryd.ntmps79
     go_wp2
     go_ret
     exact ⟨xrr, xdr⟩
    ·
     rw [if_neg c5] at H
     have Af := decide_eq_false c5
     clear c5
     by_cases c6 : a0 ≥ 1048576
     ·
      rw [if_pos c6] at H
      have Ag := decide_eq_true c6
      clear c6
      obtain rfl := Option.some.inj H
      go_enter Tryd.func79, Tryd.ntmps79
      go_wp2
      go_ret
      exact ⟨xrr, xdr⟩
     ·
      rw [if_neg c6] at H
      have Ag := decide_eq_false c6
      clear c6
      obtain rfl := Option.some.inj H
      go_enter Tryd.func79, Tryd.ntmps79
      go_wp2
      go_ret
      exact ⟨xrr, xdr⟩
   ·
    rw [if_neg c4] at H
    have Ae := decide_eq_false c4
    clear c4
    by_cases c7 : a0 ≥ 1048576
    ·
     rw [if_pos c7] at H
     have Ah := decide_eq_true c7
     clear c7
     obtain rfl := Option.some.inj H
     go_enter Tryd.func79, Tryd.ntmps79
     go_wp2
     go_ret
     exact ⟨xrr, xdr⟩
    ·
     rw [if_neg c7] at H
     have Ah := decide_eq_false c7
     clear c7
     obtain rfl := Option.some.inj H
     go_enter Tryd.func79, Tryd.ntmps79
     go_wp2
     go_ret
     exact ⟨xrr, xdr⟩
 ·
  rw [if_neg c2] at H
  have Ac := decide_eq_false c2
  clear c2
  by_cases c8 : a0 ≥ 983040
  ·
   rw [if_pos c8] at H
   have Ai := decide_eq_true c8
   clear c8
   by_cases c9 : a0 ≤ 1048573
   ·
    rw [if_pos c9] at H
    have Aj := decide_eq_true c9
    clear c9
    obtain rfl := Option.some.inj H
    go_enter Tryd.func79, Tryd.ntmps79
    go_wp2
    go_ret
    exact ⟨xrr, xdr⟩
   ·
    rw [if_neg c9] at H
    have Aj := decide_eq_false c9
    clear c9
    by_cases c10 : a0 ≥ 1048576
    ·
     rw [if_pos c10] at H
     have Aa := decide_eq_true c10
     clear c10
     obtain rfl := Option.some.inj H
     go_enter Tryd.func79, Tryd.ntmps79
     go_wp2
     go_ret
     exact ⟨xrr, xdr⟩
    ·
     rw [if_neg c10] at H
     have Aa := decide_eq_false c10
     clear c10
     obtain rfl := Option.some.inj H
     go_enter Tryd.func79, Tryd.ntmps79
     go_wp2
     go_ret
     exact ⟨xrr, xdr⟩
  ·
   rw [if_neg c8] at H
   have Ai := decide_eq_false c8
   clear c8
   by_cases c11 : a0 ≥ 1048576
   ·
    rw [if_pos c11] at H
    have Ab := decide_eq_true c11
    clear c11
    obtain rfl := Option.some.inj H
    go_enter Tryd.func79, Tryd.ntmps79
    go_wp2
    go_ret
    exact ⟨xrr, xdr⟩
   ·
    rw [if_neg c11] at H
    have Ab := decide_eq_false c11
    clear c11
    obtain rfl := Option.some.inj H
    go_enter Tryd.func79, Tryd.ntmps79
    go_wp2
    go_ret
    exact ⟨xrr, xdr⟩
mutual
def bC : Nat → Int → Bool → Int → Bool → Option (Bool)
  | 0, _, _, _, _ => none
  | k + 1, x0, x1, x2, x14 => if x14 = true then ((bW k x0 ((x2) % 256)).bind fun t123 => (some t123)) else ((cr x0).bind fun bt124 => (if bt124.2 = true then (bJ k x0 x2 (!x1)) else (bJ k x0 x2 true)))
def bJ : Nat → Int → Int → Bool → Option (Bool)
  | 0, _, _, _ => none
  | k + 1, x0, x2, x29 => if x29 = true then (some false) else ((cj k x2).bind fun t126 => (if t126 = true then (some true) else (if x0 = 6 then ((dp x2).bind fun t127 => (some t127)) else (some false))))
end
def cX (k : Nat) (a0 : Int) (a1 : Bool) (a2 : Int) : Option (Bool) := if a2 ≥ 0 then (bC k a0 a1 a2 (decide (a2 < 128))) else (bC k a0 a1 a2 false)
theorem fw : ∀ k, (∀ y0 y1 y2 y3, LeO (bC k y0 y1 y2 y3) (bC (k + 1) y0 y1 y2 y3)) ∧ (∀ y0 y1 y2, LeO (bJ k y0 y1 y2) (bJ (k + 1) y0 y1 y2))
  | 0 => ⟨fun _ _ _ _ r h => by simp [bC] at h, fun _ _ _ r h => by simp [bJ] at h⟩
  | k + 1 => by
    obtain ⟨ih0, ih1⟩ := fw k
    have m0 := @e9; have m1 := @dL
    refine ⟨?_, ?_⟩
    · intro y0 y1 y2 y3
      unfold bC
      exact xmo
    · intro y0 y1 y2
      unfold bJ
      exact xmo
theorem f3 : ∀ a0 a1 a2 k, LeO (cX k a0 a1 a2) (cX (k + 1) a0 a1 a2) := by
  intro a0 a1 a2 k
  obtain ⟨ih0, ih1⟩ := fw k
  have m0 := @e9; have m1 := @dL
  unfold cX
  exact xmo
theorem fL (k : Nat) (a0 : Int) (a1 : Bool) (a2 : Int) (r : Bool) (w : World) (h : cX k a0 a1 a2 = some r) :
    Calls Tryd.prog 58 #[.int .i64 a0, .bool a1, .int .i32 a2] w fun e w' => e = .returned (.bool r) ∧ Below w.heap.size w w' := by
 have HB := Zz.mk (Below.refl w.heap.size w)
 have H : (if a2 ≥ 0 then (bC k a0 a1 a2 (decide (a2 < 128))) else (bC k a0 a1 a2 false)) = some r := h
 clear h
 have Ah := Zz.mk H
 clear H
 go_enter Tryd.func58, Tryd.ntmps58
 go_upto_region 1 with (fail)
 go_cut [14] (fun v14 wc => ∃ (kq : Nat) (Aa : Bool), v14 = .bool Aa ∧ Zz (bC kq a0 a1 a2 Aa = some r) ∧ Zz (kq ≤ k) ∧ Zz (Below w.heap.size w wc))
 case first =>
  have H := Ah.out
  clear Ah
  by_cases c5 : a2 ≥ 0
  ·
   rw [if_pos c5] at H
   have Ac := decide_eq_true c5
   clear c5
   (first | rw [Ac] | (simp only [an, au]; rw [Ac]) | (rw [Ai]; (try simp only [Bool.not_false, Bool.not_true])) | (rw [Aj]; (try simp only [Bool.not_false, Bool.not_true])) | skip)
   have H' := Zz.mk H
   clear H
   go_wp2
   go_meet
   case rel => exact ⟨_, (decide (a2 < 128)), xrr, H', ⟨xom⟩, ⟨xbl⟩⟩
  ·
   rw [if_neg c5] at H
   have Ac := decide_eq_false c5
   clear c5
   (first | rw [Ac] | (simp only [an, au]; rw [Ac]) | (rw [Ai]; (try simp only [Bool.not_false, Bool.not_true])) | (rw [Aj]; (try simp only [Bool.not_false, Bool.not_true])) | skip)
   have H' := Zz.mk H
   clear H
   go_wp2
   go_meet
   case rel => exact ⟨_, (false), xrr, H', ⟨xom⟩, ⟨xbl⟩⟩
 case rest =>
  clear Ah
  obtain ⟨kq, Aa, rfl, HA, HJ3, HB⟩ := hcut
  cases kq with
  | zero => exact absurd HA.out (by simp [bC])
  | succ kj3 =>
   have H := HA.out
   clear HA
   simp only [bC] at H
   by_cases c6 : Aa = true
   ·
    subst c6
    rw [if_pos rfl] at H
    replace H := Option.bind_eq_some_iff.mp H
    obtain ⟨Ak, A70, H⟩ := H
    try dsimp only at H
    have A7 := Zz.mk A70
    clear A70
    obtain rfl := Option.some.inj H
    go_wp2_with (first | ((with_reducible refine ae (f := 77) rfl ?_); refine xgl 18 Tryd.func77 #[.int .i64 a0, .int .u8 ((a2) % 256)] ?_; (with_reducible refine (g9 kj3 a0 ((a2) % 256) Ak _ A7.out).mono ?_); rintro e w8 ⟨rfl, hb⟩; refine ⟨_, rfl, ?_⟩; replace HB := xst hb; (try clear hb)))
    go_ret
    exact ⟨xre, xbl⟩
   ·
    replace c6 := Bool.eq_false_iff.mpr c6
    subst c6
    rw [if_neg (show ¬ (false = true) by decide)] at H
    replace H := Option.bind_eq_some_iff.mp H
    obtain ⟨⟨Al, Ae⟩, A90, H⟩ := H
    try dsimp only at H
    have A9 := Zz.mk A90
    clear A90
    have Ad := Zz.mk H
    clear H
    go_upto_region 4 with (first | ((with_reducible refine ae (f := 55) rfl ?_); refine xgl 21 Tryd.func55 #[.int .i64 a0] ?_; (with_reducible refine (bp a0 Al Ae _ A9.out).mono ?_); rintro e w' ⟨rfl, ⟨nd, rfl⟩⟩; refine ⟨_, rfl, ?_⟩))
    (try simp only [Act.put, List.setIfInBounds_toArray, List.set_cons_zero, List.set_cons_succ])
    go_cut [29] (fun v29 wc => ∃ (kq : Nat) (Ab : Bool), v29 = .bool Ab ∧ Zz (bJ kq a0 a2 Ab = some r) ∧ Zz (kq ≤ kj3) ∧ Zz (Below w.heap.size w wc))
    case first =>
     have H := Ad.out
     clear Ad
     by_cases c11 : Ae = true
     ·
      subst c11
      rw [if_pos rfl] at H
      have H' := Zz.mk H
      clear H
      go_wp2
      go_meet
      case rel => exact ⟨_, (!a1), xrr, H', ⟨by have := HJ3.out; first | omega | exact Nat.le_refl _⟩, ⟨xbl⟩⟩
     ·
      replace c11 := Bool.eq_false_iff.mpr c11
      subst c11
      rw [if_neg (show ¬ (false = true) by decide)] at H
      have H' := Zz.mk H
      clear H
      go_wp2
      go_meet
      case rel => exact ⟨_, (true), xrr, H', ⟨by have := HJ3.out; first | omega | exact Nat.le_refl _⟩, ⟨xbl⟩⟩
    case rest =>
     clear Ad
     obtain ⟨kq, Ab, rfl, HA, HJ9, HB⟩ := hcut
     cases kq with
     | zero => exact absurd HA.out (by simp [bJ])
     | succ kj9 =>
      have H := HA.out
      clear HA
      simp only [bJ] at H
      by_cases c12 : Ab = true
      ·
       subst c12
       rw [if_pos rfl] at H
       obtain rfl := Option.some.inj H
       go_wp2
       go_ret
       exact ⟨xre, xbl⟩
      ·
       replace c12 := Bool.eq_false_iff.mpr c12
       subst c12
       rw [if_neg (show ¬ (false = true) by decide)] at H
       replace H := Option.bind_eq_some_iff.mp H
       obtain ⟨Am, A130, H⟩ := H
       try dsimp only at H
       have A13 := Zz.mk A130
       clear A130
       by_cases c14 : Am = true
       ·
        subst c14
        rw [if_pos rfl] at H
        obtain rfl := Option.some.inj H
        go_wp2_with (first | ((with_reducible refine ae (f := 78) rfl ?_); refine xgl 31 Tryd.func78 #[.int .i32 a2] ?_; (with_reducible refine (dx kj9 a2 true _ A13.out).mono ?_); rintro e w' ⟨rfl, ⟨nd, rfl⟩⟩; refine ⟨_, rfl, ?_⟩))
        go_ret
        exact ⟨xre, xbl⟩
       ·
        replace c14 := Bool.eq_false_iff.mpr c14
        subst c14
        rw [if_neg (show ¬ (false = true) by decide)] at H
        by_cases c15 : a0 = 6
        ·
         rw [if_pos c15] at H
         have Af : (a0 == 6) = true := beq_iff_eq.mpr c15
         have Ag : (a0 != 6) = false := bne_eq_false_iff_eq.mpr c15
         clear c15
         replace H := Option.bind_eq_some_iff.mp H
         obtain ⟨An, A160, H⟩ := H
         try dsimp only at H
         have A16 := Zz.mk A160
         clear A160
         obtain rfl := Option.some.inj H
         go_wp2_with (first | ((with_reducible refine ae (f := 78) rfl ?_); refine xgl 31 Tryd.func78 #[.int .i32 a2] ?_; (with_reducible refine (dx kj9 a2 false _ A13.out).mono ?_); rintro e w' ⟨rfl, ⟨nd, rfl⟩⟩; refine ⟨_, rfl, ?_⟩) | (go_at_call 79; (with_reducible refine (gB a2 An _ A16.out).mono ?_); rintro e w' ⟨rfl, ⟨nd, rfl⟩⟩))
         go_ret
         exact ⟨xre, xbl⟩
        ·
         rw [if_neg c15] at H
         have Af : (a0 == 6) = false := beq_eq_false_iff_ne.mpr c15
         have Ag : (a0 != 6) = true := bne_iff_ne.mpr c15
         obtain rfl := Option.some.inj H
         go_wp2_with (first | ((with_reducible refine ae (f := 78) rfl ?_); refine xgl 31 Tryd.func78 #[.int .i32 a2] ?_; (with_reducible refine (dx kj9 a2 false _ A13.out).mono ?_); rintro e w' ⟨rfl, ⟨nd, rfl⟩⟩; refine ⟨_, rfl, ?_⟩))
         go_ret
         exact ⟨xre, xbl⟩
def bf : Nat → Int → Bool → ByteArray → Int → Option (Int)
  | 0, _, _, _, _ => none
  | k + 1, x0, x1, x2, x7 => if x7 < (x2.size : Int) then ((cr x0).bind fun Ab => (if Ab.2 = true then ((cB k x2 x7).bind fun Ac => (if Ac.2 = true then (bf k x0 x1 x2 (wrap64 (x7 + 3))) else (if 0 ≤ x7 then (if x7 ≤ (x2.size : Int) then ((cJ k (x2.extract (x7 : Int).toNat x2.size)).bind fun Aa => (if Aa.2.2 = true then ((cX k x0 x1 Aa.1).bind fun Ad => (if Ad = true then (bf k x0 x1 x2 (wrap64 (x7 + Aa.2.1))) else (some x7))) else (some x7))) else (none)) else (none)))) else (some 0))) else (some x7)
def cm (k : Nat) (a0 : Int) (a1 : Bool) (a2 : ByteArray) : Option (Int) := bf k a0 a1 a2 0
theorem fa : ∀ k, (∀ y0 y1 y2 y3, LeO (bf k y0 y1 y2 y3) (bf (k + 1) y0 y1 y2 y3))
  | 0 => fun _ _ _ _ r h => by simp [bf] at h
  | k + 1 => by
    have ih0 := fa k
    have m0 := @eG; have m1 := @f3; have m2 := @fQ
    · intro y0 y1 y2 y3
      unfold bf
      exact xmo
theorem iB : ∀ a0 a1 a2 k, LeO (cm k a0 a1 a2) (cm (k + 1) a0 a1 a2) := by
  intro a0 a1 a2 k
  have ih0 := fa k
  have m0 := @eG; have m1 := @f3; have m2 := @fQ
  unfold cm
  exact xmo
theorem ip (k : Nat) (a0 : Int) (a1 : Bool) (a2 : ByteArray) (r : Int) (w : World) (h : cm k a0 a1 a2 = some r) :
    Calls Tryd.prog 39 #[.int .i64 a0, .bool a1, .string a2] w fun e w' => e = .returned (.int .i64 r) ∧ Below w.heap.size w w' := by
 have HB := Zz.mk (Below.refl w.heap.size w)
 have H : (bf k a0 a1 a2 0) = some r := h
 clear h
 have H' := Zz.mk H
 clear H
 go_enter Tryd.func39, Tryd.ntmps39
 go_wp2
 go_loopg [7] k (fun kq v7 w' => ∃ (Aa : Int), v7 = .int .i64 Aa ∧ Zz (bf kq a0 a1 a2 Aa = some r) ∧ Zz (kq ≤ k) ∧ Zz (Below w.heap.size w w'))
 case atStart => exact ⟨(0), xrr, H', ⟨Nat.le_refl _⟩, ⟨xbl⟩⟩
 case round =>
  clear H'
  obtain ⟨Aa, rfl, HA, HK1, HB⟩ := hrel
  cases gk with
  | zero => exact absurd HA.out (by simp [bf])
  | succ k1 =>
   have H := HA.out
   clear HA
   simp only [bf] at H
   by_cases c4 : Aa < (a2.size : Int)
   ·
    rw [if_pos c4] at H
    have Ai := decide_eq_true c4
    clear c4
    replace H := Option.bind_eq_some_iff.mp H
    obtain ⟨⟨Ad, Aj⟩, A50, H⟩ := H
    try dsimp only at H
    have A5 := Zz.mk A50
    clear A50
    by_cases c6 : Aj = true
    ·
     subst c6
     rw [if_pos rfl] at H
     replace H := Option.bind_eq_some_iff.mp H
     obtain ⟨⟨Af, Ak⟩, A70, H⟩ := H
     try dsimp only at H
     have A7 := Zz.mk A70
     clear A70
     by_cases c8 : Ak = true
     ·
      subst c8
      rw [if_pos rfl] at H
      have H' := Zz.mk H
      clear H
      go_wp2_with (first | ((with_reducible refine ae (f := 55) rfl ?_); refine xgl 21 Tryd.func55 #[.int .i64 a0] ?_; (with_reducible refine (bp a0 Ad true _ A5.out).mono ?_); rintro e w' ⟨rfl, ⟨nd, rfl⟩⟩; refine ⟨_, rfl, ?_⟩) | ((with_reducible refine ae (f := 56) rfl ?_); refine xgl 29 Tryd.func56 #[.string a2, .int .i64 Aa] ?_; (with_reducible refine (co k1 a2 Aa Af true _ A7.out).mono ?_); rintro e w' ⟨rfl, ⟨nd, rfl⟩⟩; refine ⟨_, rfl, ?_⟩))
      go_roundg k1
      case measure => have := HK1.out; omega
      case rel => exact ⟨(wrap64 (Aa + 3)), xrr, H', ⟨by have := HK1.out; omega⟩, ⟨xbl⟩⟩
     ·
      replace c8 := Bool.eq_false_iff.mpr c8
      subst c8
      rw [if_neg (show ¬ (false = true) by decide)] at H
      by_cases c9 : 0 ≤ Aa
      ·
       rw [if_pos c9] at H
       have Ap := eq_true c9
       have Aq := decide_eq_true c9
       clear c9
       by_cases c10 : Aa ≤ (a2.size : Int)
       ·
        rw [if_pos c10] at H
        have An := eq_true c10
        have Ao := decide_eq_true c10
        clear c10
        obtain ⟨Ac, Ab⟩ : ∃ j_ : ByteArray, (a2.extract (Aa : Int).toNat a2.size) = j_ := ⟨_, rfl⟩
        try (have Ah := Ab; simp only [Int.toNat_natCast] at Ah)
        first | rw [Ab] at H | simp only [Ab] at H | skip
        (try rw [Ab] at A5)
        (try rw [Ab] at A7)
        replace H := Option.bind_eq_some_iff.mp H
        obtain ⟨⟨Ae, Ag, Al⟩, A120, H⟩ := H
        try dsimp only at H
        have A12 := Zz.mk A120
        clear A120
        by_cases c13 : Al = true
        ·
         subst c13
         rw [if_pos rfl] at H
         replace H := Option.bind_eq_some_iff.mp H
         obtain ⟨Am, A140, H⟩ := H
         try dsimp only at H
         have A14 := Zz.mk A140
         clear A140
         by_cases c15 : Am = true
         ·
          subst c15
          rw [if_pos rfl] at H
          have H' := Zz.mk H
          clear H
          go_wp2_with (first | ((with_reducible refine ae (f := 55) rfl ?_); refine xgl 21 Tryd.func55 #[.int .i64 a0] ?_; (with_reducible refine (bp a0 Ad true _ A5.out).mono ?_); rintro e w' ⟨rfl, ⟨nd, rfl⟩⟩; refine ⟨_, rfl, ?_⟩) | ((with_reducible refine ae (f := 56) rfl ?_); refine xgl 29 Tryd.func56 #[.string a2, .int .i64 Aa] ?_; (with_reducible refine (co k1 a2 Aa Af false _ A7.out).mono ?_); rintro e w' ⟨rfl, ⟨nd, rfl⟩⟩; refine ⟨_, rfl, ?_⟩) | ((with_reducible refine ae (f := 57) rfl ?_); refine dF (some 39) rfl rfl Tryd.func57 (by kernel_rfl) rfl #[.string Ac] rfl (by (try simp only [List.map_toArray, List.map_cons, List.map_nil]); first | done | (simp only [Ab]; rfl) | rfl | (simp only [List.length_drop, List.length_take]; rfl)) ?_; (with_reducible refine (dQ k1 Ac Ae Ag true _ A12.out).mono ?_); rintro e w16 ⟨rfl, hb⟩; refine ⟨_, rfl, ?_⟩; replace HB := xst hb; (try clear hb)) | (go_at_call 58; (with_reducible refine (fL k1 a0 a1 Ae true _ A14.out).mono ?_); rintro e w17 ⟨rfl, hb⟩; replace HB := xst hb; (try clear hb)))
          first | go_roundg k1 | (simp only [← Ab]; go_roundg k1)
          case measure => have := HK1.out; omega
          case rel => exact ⟨(wrap64 (Aa + Ag)), xrr, H', ⟨by have := HK1.out; omega⟩, ⟨xbl⟩⟩
         ·
          replace c15 := Bool.eq_false_iff.mpr c15
          subst c15
          rw [if_neg (show ¬ (false = true) by decide)] at H
          obtain rfl := Option.some.inj H
          go_wp2_with (first | ((with_reducible refine ae (f := 55) rfl ?_); refine xgl 21 Tryd.func55 #[.int .i64 a0] ?_; (with_reducible refine (bp a0 Ad true _ A5.out).mono ?_); rintro e w' ⟨rfl, ⟨nd, rfl⟩⟩; refine ⟨_, rfl, ?_⟩) | ((with_reducible refine ae (f := 56) rfl ?_); refine xgl 29 Tryd.func56 #[.string a2, .int .i64 Aa] ?_; (with_reducible refine (co k1 a2 Aa Af false _ A7.out).mono ?_); rintro e w' ⟨rfl, ⟨nd, rfl⟩⟩; refine ⟨_, rfl, ?_⟩) | ((with_reducible refine ae (f := 57) rfl ?_); refine dF (some 39) rfl rfl Tryd.func57 (by kernel_rfl) rfl #[.string Ac] rfl (by (try simp only [List.map_toArray, List.map_cons, List.map_nil]); first | done | (simp only [Ab]; rfl) | rfl | (simp only [List.length_drop, List.length_take]; rfl)) ?_; (with_reducible refine (dQ k1 Ac Ae Ag true _ A12.out).mono ?_); rintro e w18 ⟨rfl, hb⟩; refine ⟨_, rfl, ?_⟩; replace HB := xst hb; (try clear hb)) | (go_at_call 58; (with_reducible refine (fL k1 a0 a1 Ae false _ A14.out).mono ?_); rintro e w19 ⟨rfl, hb⟩; replace HB := xst hb; (try clear hb)))
          go_ret
          exact ⟨by first | rfl | (simp [aN, aQ] <;> first | rfl | (simp only [ck, bne, Bool.not_not]; done)) | (simp only [← Ab]; first | rfl | (simp [aN, aQ] <;> rfl)) | (simp [*, aN, aQ] <;> rfl), xbl⟩
        ·
         replace c13 := Bool.eq_false_iff.mpr c13
         subst c13
         rw [if_neg (show ¬ (false = true) by decide)] at H
         obtain rfl := Option.some.inj H
         go_wp2_with (first | ((with_reducible refine ae (f := 55) rfl ?_); refine xgl 21 Tryd.func55 #[.int .i64 a0] ?_; (with_reducible refine (bp a0 Ad true _ A5.out).mono ?_); rintro e w' ⟨rfl, ⟨nd, rfl⟩⟩; refine ⟨_, rfl, ?_⟩) | ((with_reducible refine ae (f := 56) rfl ?_); refine xgl 29 Tryd.func56 #[.string a2, .int .i64 Aa] ?_; (with_reducible refine (co k1 a2 Aa Af false _ A7.out).mono ?_); rintro e w' ⟨rfl, ⟨nd, rfl⟩⟩; refine ⟨_, rfl, ?_⟩) | ((with_reducible refine ae (f := 57) rfl ?_); refine dF (some 39) rfl rfl Tryd.func57 (by kernel_rfl) rfl #[.string Ac] rfl (by (try simp only [List.map_toArray, List.map_cons, List.map_nil]); first | done | (simp only [Ab]; rfl) | rfl | (simp only [List.length_drop, List.length_take]; rfl)) ?_; (with_reducible refine (dQ k1 Ac Ae Ag false _ A12.out).mono ?_); rintro e w20 ⟨rfl, hb⟩; refine ⟨_, rfl, ?_⟩; replace HB := xst hb; (try clear hb)))
         go_ret
         exact ⟨by first | rfl | (simp [aN, aQ] <;> first | rfl | (simp only [ck, bne, Bool.not_not]; done)) | (simp only [← Ab]; first | rfl | (simp [aN, aQ] <;> rfl)) | (simp [*, aN, aQ] <;> rfl), xbl⟩
       ·
        rw [if_neg c10] at H
        exact absurd H (by simp)
      ·
       rw [if_neg c9] at H
       exact absurd H (by simp)
    ·
     replace c6 := Bool.eq_false_iff.mpr c6
     subst c6
     rw [if_neg (show ¬ (false = true) by decide)] at H
     obtain rfl := Option.some.inj H
     go_wp2_with (first | ((with_reducible refine ae (f := 55) rfl ?_); refine xgl 21 Tryd.func55 #[.int .i64 a0] ?_; (with_reducible refine (bp a0 Ad false _ A5.out).mono ?_); rintro e w' ⟨rfl, ⟨nd, rfl⟩⟩; refine ⟨_, rfl, ?_⟩))
     go_ret
     exact ⟨xre, xbl⟩
   ·
    rw [if_neg c4] at H
    have Ai := decide_eq_false c4
    clear c4
    obtain rfl := Option.some.inj H
    go_wp2
    go_ret
    exact ⟨xre, xbl⟩
def cC (k : Nat) (a0 : Int) (a1 : Bool) (a2 : ByteArray) : Option (Bool) := (cm k a0 a1 a2).bind fun t136 => (some (t136 == (a2.size : Int)))
theorem fZ : ∀ a0 a1 a2 k, LeO (cC k a0 a1 a2) (cC (k + 1) a0 a1 a2) := by
  intro a0 a1 a2 k
  have m0 := @iB
  unfold cC
  exact xmo
theorem ef (k : Nat) (a0 : Int) (a1 : Bool) (a2 : ByteArray) (r : Bool) (w : World) (h : cC k a0 a1 a2 = some r) :
    Calls Tryd.prog 25 #[.int .i64 a0, .bool a1, .string a2] w fun e w' => e = .returned (.bool r) ∧ Below w.heap.size w w' := by
 have HB := Zz.mk (Below.refl w.heap.size w)
 have H : ((cm k a0 a1 a2).bind fun t136 => (some (t136 == (a2.size : Int)))) = some r := h
 clear h
 replace H := Option.bind_eq_some_iff.mp H
 obtain ⟨t136, A40, H⟩ := H
 try dsimp only at H
 have A4 := Zz.mk A40
 clear A40
 obtain rfl := Option.some.inj H
 go_enter Tryd.func25, Tryd.ntmps25
 go_wp2_with (first | ((with_reducible refine ae (f := 39) rfl ?_); refine xgl 10 Tryd.func39 #[.int .i64 a0, .bool a1, .string a2] ?_; (with_reducible refine (ip k a0 a1 a2 t136 _ A4.out).mono ?_); rintro e w5 ⟨rfl, hb⟩; refine ⟨_, rfl, ?_⟩; replace HB := xst hb; (try clear hb)))
 go_ret
 exact ⟨xre, xbl⟩
def cT (a0 : ByteArray) (a1 : ByteArray) : Option (List ByteArray) := if a0.size < 4294967281 ∧ 1 ≤ a1.size then some (Go.Lib.splitB a1 0 (Go.Lib.countB a0 a1) a0) else none
theorem gH (a0 : ByteArray) (a1 : ByteArray) (r : List ByteArray) (w : World) (hG : GW w) (h : cT a0 a1 = some r) :
    Calls Tryd.prog 26 #[.string a0, .string a1] w fun e w' => ∃ v0_ : Value, e = .returned (v0_) ∧ Kd.R Kd.string 9 w' w.heap.size (fun _ => True) v0_ r ∧ Below w.heap.size w w' := by
  unfold cT at h
  by_cases hs : a0.size < 4294967281 ∧ 1 ≤ a1.size
  · rw [if_pos hs] at h
    obtain rfl := Option.some.inj h
    obtain ⟨m, hm⟩ := hG.maxLen
    refine (Tryd.strings_Split a0 a1 m w hs.1 hm hs.2).mono ?_
    rintro e w' ⟨rfl, rfl⟩
    have hl := Go.Lib.splitB_all a1 hs.2 0 _ a0 rfl
    have hc := Go.Lib.countB_le a1 hs.2 a0.size a0 (Nat.le_refl _)
    refine ⟨_, rfl, ?_, (Below.refl _ _).alloc (Nat.le_refl _) _⟩
    refine Kd.R_of_own ⟨by simp [eF], .inr ⟨w.heap.size, _, _, by rw [hl], Nat.le_refl _, heap_alloc_new _ _, by rw [hl]; exact Nat.le_refl _, ?_, ?_, ?_⟩⟩ (fun _ _ => trivial)
    · have : maxLen = 9223372036854775807 := rfl
      omega
    · simp [hl]
    · simp only [eF, Nat.mul_one, List.toList_toArray]
      exact List.take_of_length_le (by simp)
  · rw [if_neg hs] at h; cases h
end Go.Proofs.YtmofhijbheimmaaDoor.X
