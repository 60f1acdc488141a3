/- Texts that the law's proof needs, joined by a program of this session. -/
import Derived.Test.YticohlbfolnmpaaDoorZIpShort1
import Derived.Test.YticohlbfolnmpaaDoorZIpShort2
import Derived.Test.YticohlbfolnmpaaDoorZIpShort3
import Derived.Test.YticohlbfolnmpaaDoorZIpShort4
set_option maxHeartbeats 8000000
set_option maxRecDepth 100000
set_option linter.unusedSimpArgs false
set_option linter.unusedVariables false
namespace Go.Proofs.YticohlbfolnmpaaDoor.X
open Go.RowKit Go.Proofs.YticohlbfolnmpaaDoorW.PrintWords Go.Proofs.YticohlbfolnmpaaDoorW.PrintLast Go.Proofs.YticohlbfolnmpaaDoorW.PrintMore
attribute [local go_sem] bA bn cl dg dO cA dh cu cw cY cZ ci cj cv cx
mutual
def bm : Nat → ByteArray → Int → Int → Bool → Option (Int × Int × Bool)
  | 0, _, _, _, _ => none
  | k + 1, x0, x5, x6, x20 => if x20 = true then (some (0, x5, false)) else (if 0 < (x0.size : Int) then (if 0 ≤ x6 then (if x6 = 0 then (ar k x0 (wrap32 (Go.bits .and .u8 (bt x0 0) 0)) x6 1) else (if x6 = 1 then (ar k x0 (wrap32 (Go.bits .and .u8 (bt x0 0) 127)) x6 1) else (if x6 = 2 then (ar k x0 (wrap32 (Go.bits .and .u8 (bt x0 0) 31)) x6 1) else (if x6 = 3 then (ar k x0 (wrap32 (Go.bits .and .u8 (bt x0 0) 15)) x6 1) else (if x6 = 4 then (ar k x0 (wrap32 (Go.bits .and .u8 (bt x0 0) 7)) x6 1) else (none)))))) else (none)) else (none))
def ar : Nat → ByteArray → Int → Int → Int → Option (Int × Int × Bool)
  | 0, _, _, _, _ => none
  | k + 1, x0, x2, x6, x8 => if x8 < x6 then (if 0 ≤ x8 then (if x8 < (x0.size : Int) then (ar k x0 (Go.bits .or .i32 (wrap32 (x2 * 64)) (wrap32 (Go.bits .and .u8 (bt x0 x8) 63))) x6 (wrap64 (x8 + 1))) else (none)) else (none)) else (some (x2, x6, true))
end
def dN (k : Nat) (a0 : ByteArray) : Option (Int × Int × Bool) := (dy k a0).bind fun Aa => (if Aa.2 = 0 then (bm k a0 Aa.1 Aa.2 true) else (bm k a0 Aa.1 Aa.2 (decide (Aa.1 < Aa.2))))
theorem eX : ∀ k, (∀ y0 y1 y2 y3, LeO (bm k y0 y1 y2 y3) (bm (k + 1) y0 y1 y2 y3)) ∧ (∀ y0 y1 y2 y3, LeO (ar k y0 y1 y2 y3) (ar (k + 1) y0 y1 y2 y3))
  | 0 => ⟨fun _ _ _ _ r h => by simp [bm] at h, fun _ _ _ _ r h => by simp [ar] at h⟩
  | k + 1 => by
    obtain ⟨ih0, ih1⟩ := eX k
    have m0 := @fV
    refine ⟨?_, ?_⟩
    · intro y0 y1 y2 y3
      unfold bm
      exact xmo
    · intro y0 y1 y2 y3
      unfold ar
      exact xmo
theorem fx : ∀ a0 k, LeO (dN k a0) (dN (k + 1) a0) := by
  intro a0 k
  obtain ⟨ih0, ih1⟩ := eX k
  have m0 := @fV
  unfold dN
  exact xmo
theorem d1 (k : Nat) (a0 : ByteArray) (r1 : Int) (r2 : Int) (r3 : Bool) (w : World) (h : dN k a0 = some (r1, r2, r3)) :
    Calls Tryd.prog 61 #[.string a0] w fun e w' => e = .returned (.tuple #[.int .i32 r1, .int .i64 r2, .bool r3]) ∧ Below w.heap.size w w' := by
 have hu110 := Tryd.underlying110
 have HB := Zz.mk (Below.refl w.heap.size w)
 have H : ((dy k a0).bind fun Ah => (if Ah.2 = 0 then (bm k a0 Ah.1 Ah.2 true) else (bm k a0 Ah.1 Ah.2 (decide (Ah.1 < Ah.2))))) = some (r1, r2, r3) := h
 clear h
 replace H := Option.bind_eq_some_iff.mp H
 obtain ⟨⟨Ak, Ag⟩, A20, H⟩ := H
 try dsimp only at H
 have A2 := Zz.mk A20
 clear A20
 have Ar := Zz.mk H
 clear H
 go_enter Tryd.func61, Tryd.ntmps61
 go_upto_region 2 with (first | (go_at_call 79; (with_reducible refine (ep k a0 Ak Ag _ A2.out).mono ?_); rintro e w' ⟨rfl, ⟨nd, rfl⟩⟩; (try first | exact ⟨rfl, _, World.drewN_drewN _ _ _⟩ | exact ⟨rfl, _, Eq.trans (World.drewN_drewN _ _ _) (congrArg (World.drewN _) (Nat.add_assoc _ _ _))⟩)))
 repeat (go_quiet (first | (go_at_call 79; (with_reducible refine (ep k a0 Ak Ag _ A2.out).mono ?_); rintro e w' ⟨rfl, ⟨nd, rfl⟩⟩; (try first | exact ⟨rfl, _, World.drewN_drewN _ _ _⟩ | exact ⟨rfl, _, Eq.trans (World.drewN_drewN _ _ _) (congrArg (World.drewN _) (Nat.add_assoc _ _ _))⟩))); go_upto_region 2 with (first | (go_at_call 79; (with_reducible refine (ep k a0 Ak Ag _ A2.out).mono ?_); rintro e w' ⟨rfl, ⟨nd, rfl⟩⟩; (try first | exact ⟨rfl, _, World.drewN_drewN _ _ _⟩ | exact ⟨rfl, _, Eq.trans (World.drewN_drewN _ _ _) (congrArg (World.drewN _) (Nat.add_assoc _ _ _))⟩))))
 (try simp only [Act.put, List.setIfInBounds_toArray, List.set_cons_zero, List.set_cons_succ])
 go_cut [20] (fun v20 wc => ∃ (kq : Nat) (Aj : Bool), v20 = .bool Aj ∧ Zz (bm kq a0 Ak Ag Aj = some (r1, r2, r3)) ∧ Zz (kq ≤ k) ∧ Zz (Below w.heap.size w wc))
 case first =>
  have H := Ar.out
  clear Ar
  by_cases c4 : Ag = 0
  ·
   rw [if_pos c4] at H
   have Al : (Ag == 0) = true := beq_iff_eq.mpr c4
   have As : (Ag != 0) = false := bne_eq_false_iff_eq.mpr c4
   clear c4
   (first | rw [Al] | (simp only [aC, aI]; rw [Al]) | (rw [At]; (try simp only [Bool.not_false, Bool.not_true])) | (rw [Au]; (try simp only [Bool.not_false, Bool.not_true])) | skip)
   have H' := Zz.mk H
   clear H
   go_wp2
   repeat (go_quiet (fail); try go_wp2)
   go_meet
   case rel => exact ⟨_, (true), xrr, H', ⟨xom⟩, ⟨xbl⟩⟩
  ·
   rw [if_neg c4] at H
   have Al : (Ag == 0) = false := beq_eq_false_iff_ne.mpr c4
   have As : (Ag != 0) = true := bne_iff_ne.mpr c4
   (first | rw [Al] | (simp only [aC, aI]; rw [Al]) | (rw [At]; (try simp only [Bool.not_false, Bool.not_true])) | (rw [Au]; (try simp only [Bool.not_false, Bool.not_true])) | skip)
   have H' := Zz.mk H
   clear H
   go_wp2
   repeat (go_quiet (fail); try go_wp2)
   go_meet
   case rel => exact ⟨_, (decide (Ak < Ag)), xrr, H', ⟨xom⟩, ⟨xbl⟩⟩
 case rest =>
  clear Ar
  obtain ⟨kq, Aj, rfl, HA, HJ2, HB⟩ := hcut
  cases kq with
  | zero => exact absurd HA.out (by simp [bm])
  | succ kj2 =>
   have H := HA.out
   clear HA
   simp only [bm] at H
   by_cases c5 : Aj = true
   ·
    subst c5
    rw [if_pos rfl] at H
    simp only [Option.some.injEq, Prod.mk.injEq] at H
    obtain ⟨rfl, rfl, rfl⟩ := H
    go_wp2
    repeat (go_quiet (fail); try go_wp2)
    go_ret3
    exact ⟨xre, xbl⟩
   ·
    replace c5 := Bool.eq_false_iff.mpr c5
    subst c5
    rw [if_neg (show ¬ (false = true) by decide)] at H
    by_cases c6 : 0 < (a0.size : Int)
    ·
     rw [if_pos c6] at H
     have Av := decide_eq_true c6
     have Aw : decide (0 < a0.size) = true := decide_eq_true (by omega)
     clear c6
     by_cases c8 : 0 ≤ Ag
     ·
      rw [if_pos c8] at H
      have Ax := decide_eq_true c8
      clear c8
      by_cases c9 : Ag = 0
      ·
       subst c9
       rw [if_pos rfl] at H
       have H' := Zz.mk H
       clear H
       go_wp2_with (first | ((with_reducible refine ay (N := 7) rfl ?_); refine xev 7 #[.int .u8 0, .int .u8 0, .int .u8 0, .int .u8 0, .int .u8 0] 110 ?_; intro Ad hg w10 hbox hb; have Aa := Zz.mk (hbox); have Ac := xsz hg; have Af := Ac; replace HB := xst hb; clear hb hbox hg; obtain ⟨hcz11_0, hcz11_1, hcz11_2, hcz11_3, hcz11_4⟩ := xc5 Aa; have hfz11_0 := xf Aa 0; have hfz11_1 := xf Aa 1; have hfz11_2 := xf Aa 2; have hfz11_3 := xf Aa 3; have hfz11_4 := xf Aa 4; have p7 : 0 ≤ (0 : Int) := (by omega); have q7 : 0 < a0.size := (by have : (0 : Int) < (a0.size : Int) := xod; omega); have hx7 : ∀ h : 0 < a0.size, ((a0[0]'h).toNat : Int) = bt a0 0 := ax a0 0; clear p7; have Ai : (0 < (a0.size : Int)) = True := eq_true (xod); replace q7 := eq_true q7))
       repeat (go_quiet (first | ((with_reducible refine ay (N := 7) rfl ?_); refine xev 7 #[.int .u8 0, .int .u8 0, .int .u8 0, .int .u8 0, .int .u8 0] 110 ?_; intro Ad hg w10 hbox hb; have Aa := Zz.mk (hbox); have Ac := xsz hg; have Af := Ac; replace HB := xst hb; clear hb hbox hg; obtain ⟨hcz11_0, hcz11_1, hcz11_2, hcz11_3, hcz11_4⟩ := xc5 Aa; have hfz11_0 := xf Aa 0; have hfz11_1 := xf Aa 1; have hfz11_2 := xf Aa 2; have hfz11_3 := xf Aa 3; have hfz11_4 := xf Aa 4; have p7 : 0 ≤ (0 : Int) := (by omega); have q7 : 0 < a0.size := (by have : (0 : Int) < (a0.size : Int) := xod; omega); have hx7 : ∀ h : 0 < a0.size, ((a0[0]'h).toNat : Int) = bt a0 0 := ax a0 0; clear p7; have Ai : (0 < (a0.size : Int)) = True := eq_true (xod); replace q7 := eq_true q7)); try go_wp2_with (first | ((with_reducible refine ay (N := 7) rfl ?_); refine xev 7 #[.int .u8 0, .int .u8 0, .int .u8 0, .int .u8 0, .int .u8 0] 110 ?_; intro Ad hg w10 hbox hb; have Aa := Zz.mk (hbox); have Ac := xsz hg; have Af := Ac; replace HB := xst hb; clear hb hbox hg; obtain ⟨hcz11_0, hcz11_1, hcz11_2, hcz11_3, hcz11_4⟩ := xc5 Aa; have hfz11_0 := xf Aa 0; have hfz11_1 := xf Aa 1; have hfz11_2 := xf Aa 2; have hfz11_3 := xf Aa 3; have hfz11_4 := xf Aa 4; have p7 : 0 ≤ (0 : Int) := (by omega); have q7 : 0 < a0.size := (by have : (0 : Int) < (a0.size : Int) := xod; omega); have hx7 : ∀ h : 0 < a0.size, ((a0[0]'h).toNat : Int) = bt a0 0 := ax a0 0; clear p7; have Ai : (0 < (a0.size : Int)) = True := eq_true (xod); replace q7 := eq_true q7)))
       go_loopg [2, 8] kj2 (fun kq v2 v8 w' => ∃ (Ae : Int) (Ab : Int), v2 = .int .i32 Ae ∧ v8 = .int .i64 Ab ∧ Zz (ar kq a0 Ae 0 Ab = some (r1, r2, r3)) ∧ Zz (kq ≤ kj2) ∧ Zz (w'.heap[Ad]? = some (.cells #[.int .u8 0, .int .u8 127, .int .u8 31, .int .u8 15, .int .u8 7] 110 (0, 0))) ∧ Zz (Below w.heap.size w w'))
       case atStart => exact ⟨(wrap32 (Go.bits .and .u8 (bt a0 0) 0)), (1), xrr, xrr, H', ⟨Nat.le_refl _⟩, ⟨by (with_reducible repeat (first | refine ai ?_ _ | refine aj ?_ | refine ah ?_ _)); refine ag (cs := #[.int .u8 0, .int .u8 127, .int .u8 31, .int .u8 15, .int .u8 0]) ?_ 4 _ rfl; (with_reducible repeat (first | refine ai ?_ _ | refine aj ?_ | refine ah ?_ _)); refine ag (cs := #[.int .u8 0, .int .u8 127, .int .u8 31, .int .u8 0, .int .u8 0]) ?_ 3 _ rfl; (with_reducible repeat (first | refine ai ?_ _ | refine aj ?_ | refine ah ?_ _)); refine ag (cs := #[.int .u8 0, .int .u8 127, .int .u8 0, .int .u8 0, .int .u8 0]) ?_ 2 _ rfl; (with_reducible repeat (first | refine ai ?_ _ | refine aj ?_ | refine ah ?_ _)); refine ag (cs := #[.int .u8 0, .int .u8 0, .int .u8 0, .int .u8 0, .int .u8 0]) ?_ 1 _ rfl; (with_reducible repeat (first | refine ai ?_ _ | refine aj ?_ | refine ah ?_ _)); refine ag (cs := #[.int .u8 0, .int .u8 0, .int .u8 0, .int .u8 0, .int .u8 0]) ?_ 0 _ rfl; (with_reducible repeat (first | refine ai ?_ _ | refine aj ?_ | refine ah ?_ _)); exact Aa.out⟩, ⟨xbl⟩⟩
       case round =>
        clear H'
        clear Av Aw Ax
        try clear p7
        try clear q7
        try clear hx7
        try clear Ai
        obtain ⟨Ae, Ab, rfl, rfl, HA, HK2, Aa, HB⟩ := hrel
        cases gk with
        | zero => exact absurd HA.out (by simp [ar])
        | succ k2 =>
         have H := HA.out
         clear HA
         simp only [ar] at H
         by_cases c12 : Ab < 0
         ·
          rw [if_pos c12] at H
          have Am := decide_eq_true c12
          clear c12
          by_cases c13 : 0 ≤ Ab
          ·
           rw [if_pos c13] at H
           have AD := decide_eq_true c13
           clear c13
           by_cases c14 : Ab < (a0.size : Int)
           ·
            rw [if_pos c14] at H
            have AE := decide_eq_true c14
            clear c14
            have H' := Zz.mk H
            clear H
            have p15 : 0 ≤ (Ab : Int) := xod
            have q15 : Ab < (a0.size : Int) := xod
            have hx15 := ax a0 Ab
            replace p15 := eq_true p15
            replace q15 := eq_true q15
            try (have Ay := q15; simp only [ByteArray.size_extract, Nat.min_self] at Ay)
            go_wp2
            repeat (go_quiet (fail); try go_wp2)
            go_roundg k2
            case measure => have := HJ2.out; have := HK2.out; omega
            case rel => exact ⟨(Go.bits .or .i32 (wrap32 (Ae * 64)) (wrap32 (Go.bits .and .u8 (bt a0 Ab) 63))), (wrap64 (Ab + 1)), xrr, xrr, H', ⟨by have := HJ2.out; have := HK2.out; omega⟩, ⟨xbk⟩, ⟨xbl⟩⟩
           ·
            rw [if_neg c14] at H
            exact absurd H (by simp)
          ·
           rw [if_neg c13] at H
           exact absurd H (by simp)
         ·
          rw [if_neg c12] at H
          have Am := decide_eq_false c12
          clear c12
          simp only [Option.some.injEq, Prod.mk.injEq] at H
          obtain ⟨rfl, rfl, rfl⟩ := H
          go_wp2
          repeat (go_quiet (fail); try go_wp2)
          go_ret3
          exact ⟨xre, xbl⟩
      ·
       rw [if_neg c9] at H
       clear c9
       by_cases c16 : Ag = 1
       ·
        subst c16
        rw [if_pos rfl] at H
        have H' := Zz.mk H
        clear H
        go_wp2_with (first | ((with_reducible refine ay (N := 7) rfl ?_); refine xev 7 #[.int .u8 0, .int .u8 0, .int .u8 0, .int .u8 0, .int .u8 0] 110 ?_; intro Ad hg w17 hbox hb; have Aa := Zz.mk (hbox); have Ac := xsz hg; have Af := Ac; replace HB := xst hb; clear hb hbox hg; obtain ⟨hcz18_0, hcz18_1, hcz18_2, hcz18_3, hcz18_4⟩ := xc5 Aa; have hfz18_0 := xf Aa 0; have hfz18_1 := xf Aa 1; have hfz18_2 := xf Aa 2; have hfz18_3 := xf Aa 3; have hfz18_4 := xf Aa 4; have p7 : 0 ≤ (0 : Int) := (by omega); have q7 : 0 < a0.size := (by have : (0 : Int) < (a0.size : Int) := xod; omega); have hx7 : ∀ h : 0 < a0.size, ((a0[0]'h).toNat : Int) = bt a0 0 := ax a0 0; clear p7; have Ai : (0 < (a0.size : Int)) = True := eq_true (xod); replace q7 := eq_true q7))
        repeat (go_quiet (first | ((with_reducible refine ay (N := 7) rfl ?_); refine xev 7 #[.int .u8 0, .int .u8 0, .int .u8 0, .int .u8 0, .int .u8 0] 110 ?_; intro Ad hg w17 hbox hb; have Aa := Zz.mk (hbox); have Ac := xsz hg; have Af := Ac; replace HB := xst hb; clear hb hbox hg; obtain ⟨hcz18_0, hcz18_1, hcz18_2, hcz18_3, hcz18_4⟩ := xc5 Aa; have hfz18_0 := xf Aa 0; have hfz18_1 := xf Aa 1; have hfz18_2 := xf Aa 2; have hfz18_3 := xf Aa 3; have hfz18_4 := xf Aa 4; have p7 : 0 ≤ (0 : Int) := (by omega); have q7 : 0 < a0.size := (by have : (0 : Int) < (a0.size : Int) := xod; omega); have hx7 : ∀ h : 0 < a0.size, ((a0[0]'h).toNat : Int) = bt a0 0 := ax a0 0; clear p7; have Ai : (0 < (a0.size : Int)) = True := eq_true (xod); replace q7 := eq_true q7)); try go_wp2_with (first | ((with_reducible refine ay (N := 7) rfl ?_); refine xev 7 #[.int .u8 0, .int .u8 0, .int .u8 0, .int .u8 0, .int .u8 0] 110 ?_; intro Ad hg w17 hbox hb; have Aa := Zz.mk (hbox); have Ac := xsz hg; have Af := Ac; replace HB := xst hb; clear hb hbox hg; obtain ⟨hcz18_0, hcz18_1, hcz18_2, hcz18_3, hcz18_4⟩ := xc5 Aa; have hfz18_0 := xf Aa 0; have hfz18_1 := xf Aa 1; have hfz18_2 := xf Aa 2; have hfz18_3 := xf Aa 3; have hfz18_4 := xf Aa 4; have p7 : 0 ≤ (0 : Int) := (by omega); have q7 : 0 < a0.size := (by have : (0 : Int) < (a0.size : Int) := xod; omega); have hx7 : ∀ h : 0 < a0.size, ((a0[0]'h).toNat : Int) = bt a0 0 := ax a0 0; clear p7; have Ai : (0 < (a0.size : Int)) = True := eq_true (xod); replace q7 := eq_true q7)))
        go_loopg [2, 8] kj2 (fun kq v2 v8 w' => ∃ (Ae : Int) (Ab : Int), v2 = .int .i32 Ae ∧ v8 = .int .i64 Ab ∧ Zz (ar kq a0 Ae 1 Ab = some (r1, r2, r3)) ∧ Zz (kq ≤ kj2) ∧ Zz (w'.heap[Ad]? = some (.cells #[.int .u8 0, .int .u8 127, .int .u8 31, .int .u8 15, .int .u8 7] 110 (0, 0))) ∧ Zz (Below w.heap.size w w'))
        case atStart => exact ⟨(wrap32 (Go.bits .and .u8 (bt a0 0) 127)), (1), xrr, xrr, H', ⟨Nat.le_refl _⟩, ⟨by (with_reducible repeat (first | refine ai ?_ _ | refine aj ?_ | refine ah ?_ _)); refine ag (cs := #[.int .u8 0, .int .u8 127, .int .u8 31, .int .u8 15, .int .u8 0]) ?_ 4 _ rfl; (with_reducible repeat (first | refine ai ?_ _ | refine aj ?_ | refine ah ?_ _)); refine ag (cs := #[.int .u8 0, .int .u8 127, .int .u8 31, .int .u8 0, .int .u8 0]) ?_ 3 _ rfl; (with_reducible repeat (first | refine ai ?_ _ | refine aj ?_ | refine ah ?_ _)); refine ag (cs := #[.int .u8 0, .int .u8 127, .int .u8 0, .int .u8 0, .int .u8 0]) ?_ 2 _ rfl; (with_reducible repeat (first | refine ai ?_ _ | refine aj ?_ | refine ah ?_ _)); refine ag (cs := #[.int .u8 0, .int .u8 0, .int .u8 0, .int .u8 0, .int .u8 0]) ?_ 1 _ rfl; (with_reducible repeat (first | refine ai ?_ _ | refine aj ?_ | refine ah ?_ _)); refine ag (cs := #[.int .u8 0, .int .u8 0, .int .u8 0, .int .u8 0, .int .u8 0]) ?_ 0 _ rfl; (with_reducible repeat (first | refine ai ?_ _ | refine aj ?_ | refine ah ?_ _)); exact Aa.out⟩, ⟨xbl⟩⟩
        case round =>
         clear H'
         try clear p7
         try clear q7
         try clear hx7
         try clear Ai
         obtain ⟨Ae, Ab, rfl, rfl, HA, HK2, Aa, HB⟩ := hrel
         cases gk with
         | zero => exact absurd HA.out (by simp [ar])
         | succ k2 =>
          have H := HA.out
          clear HA
          simp only [ar] at H
          by_cases c19 : Ab < 1
          ·
           rw [if_pos c19] at H
           have An := decide_eq_true c19
           clear c19
           by_cases c20 : 0 ≤ Ab
           ·
            rw [if_pos c20] at H
            have AF := decide_eq_true c20
            clear c20
            by_cases c21 : Ab < (a0.size : Int)
            ·
             rw [if_pos c21] at H
             have AG := decide_eq_true c21
             clear c21
             have H' := Zz.mk H
             clear H
             have p22 : 0 ≤ (Ab : Int) := xod
             have q22 : Ab < (a0.size : Int) := xod
             have hx22 := ax a0 Ab
             replace p22 := eq_true p22
             replace q22 := eq_true q22
             try (have Az := q22; simp only [ByteArray.size_extract, Nat.min_self] at Az)
             go_wp2
             repeat (go_quiet (fail); try go_wp2)
             go_roundg k2
             case measure => have := HJ2.out; have := HK2.out; omega
             case rel => exact ⟨(Go.bits .or .i32 (wrap32 (Ae * 64)) (wrap32 (Go.bits .and .u8 (bt a0 Ab) 63))), (wrap64 (Ab + 1)), xrr, xrr, H', ⟨by have := HJ2.out; have := HK2.out; omega⟩, ⟨xbk⟩, ⟨xbl⟩⟩
            ·
             rw [if_neg c21] at H
             exact absurd H (by simp)
           ·
            rw [if_neg c20] at H
            exact absurd H (by simp)
          ·
           rw [if_neg c19] at H
           have An := decide_eq_false c19
           clear c19
           simp only [Option.some.injEq, Prod.mk.injEq] at H
           obtain ⟨rfl, rfl, rfl⟩ := H
           go_wp2
           repeat (go_quiet (fail); try go_wp2)
           go_ret3
           exact ⟨xre, xbl⟩
       ·
        rw [if_neg c16] at H
        clear c16
        by_cases c23 : Ag = 2
        ·
         subst c23
         rw [if_pos rfl] at H
         have H' := Zz.mk H
         clear H
         go_wp2_with (first | ((with_reducible refine ay (N := 7) rfl ?_); refine xev 7 #[.int .u8 0, .int .u8 0, .int .u8 0, .int .u8 0, .int .u8 0] 110 ?_; intro Ad hg w24 hbox hb; have Aa := Zz.mk (hbox); have Ac := xsz hg; have Af := Ac; replace HB := xst hb; clear hb hbox hg; obtain ⟨hcz25_0, hcz25_1, hcz25_2, hcz25_3, hcz25_4⟩ := xc5 Aa; have hfz25_0 := xf Aa 0; have hfz25_1 := xf Aa 1; have hfz25_2 := xf Aa 2; have hfz25_3 := xf Aa 3; have hfz25_4 := xf Aa 4; have p7 : 0 ≤ (0 : Int) := (by omega); have q7 : 0 < a0.size := (by have : (0 : Int) < (a0.size : Int) := xod; omega); have hx7 : ∀ h : 0 < a0.size, ((a0[0]'h).toNat : Int) = bt a0 0 := ax a0 0; clear p7; have Ai : (0 < (a0.size : Int)) = True := eq_true (xod); replace q7 := eq_true q7))
         repeat (go_quiet (first | ((with_reducible refine ay (N := 7) rfl ?_); refine xev 7 #[.int .u8 0, .int .u8 0, .int .u8 0, .int .u8 0, .int .u8 0] 110 ?_; intro Ad hg w24 hbox hb; have Aa := Zz.mk (hbox); have Ac := xsz hg; have Af := Ac; replace HB := xst hb; clear hb hbox hg; obtain ⟨hcz25_0, hcz25_1, hcz25_2, hcz25_3, hcz25_4⟩ := xc5 Aa; have hfz25_0 := xf Aa 0; have hfz25_1 := xf Aa 1; have hfz25_2 := xf Aa 2; have hfz25_3 := xf Aa 3; have hfz25_4 := xf Aa 4; have p7 : 0 ≤ (0 : Int) := (by omega); have q7 : 0 < a0.size := (by have : (0 : Int) < (a0.size : Int) := xod; omega); have hx7 : ∀ h : 0 < a0.size, ((a0[0]'h).toNat : Int) = bt a0 0 := ax a0 0; clear p7; have Ai : (0 < (a0.size : Int)) = True := eq_true (xod); replace q7 := eq_true q7)); try go_wp2_with (first | ((with_reducible refine ay (N := 7) rfl ?_); refine xev 7 #[.int .u8 0, .int .u8 0, .int .u8 0, .int .u8 0, .int .u8 0] 110 ?_; intro Ad hg w24 hbox hb; have Aa := Zz.mk (hbox); have Ac := xsz hg; have Af := Ac; replace HB := xst hb; clear hb hbox hg; obtain ⟨hcz25_0, hcz25_1, hcz25_2, hcz25_3, hcz25_4⟩ := xc5 Aa; have hfz25_0 := xf Aa 0; have hfz25_1 := xf Aa 1; have hfz25_2 := xf Aa 2; have hfz25_3 := xf Aa 3; have hfz25_4 := xf Aa 4; have p7 : 0 ≤ (0 : Int) := (by omega); have q7 : 0 < a0.size := (by have : (0 : Int) < (a0.size : Int) := xod; omega); have hx7 : ∀ h : 0 < a0.size, ((a0[0]'h).toNat : Int) = bt a0 0 := ax a0 0; clear p7; have Ai : (0 < (a0.size : Int)) = True := eq_true (xod); replace q7 := eq_true q7)))
         go_loopg [2, 8] kj2 (fun kq v2 v8 w' => ∃ (Ae : Int) (Ab : Int), v2 = .int .i32 Ae ∧ v8 = .int .i64 Ab ∧ Zz (ar kq a0 Ae 2 Ab = some (r1, r2, r3)) ∧ Zz (kq ≤ kj2) ∧ Zz (w'.heap[Ad]? = some (.cells #[.int .u8 0, .int .u8 127, .int .u8 31, .int .u8 15, .int .u8 7] 110 (0, 0))) ∧ Zz (Below w.heap.size w w'))
         case atStart => exact ⟨(wrap32 (Go.bits .and .u8 (bt a0 0) 31)), (1), xrr, xrr, H', ⟨Nat.le_refl _⟩, ⟨by (with_reducible repeat (first | refine ai ?_ _ | refine aj ?_ | refine ah ?_ _)); refine ag (cs := #[.int .u8 0, .int .u8 127, .int .u8 31, .int .u8 15, .int .u8 0]) ?_ 4 _ rfl; (with_reducible repeat (first | refine ai ?_ _ | refine aj ?_ | refine ah ?_ _)); refine ag (cs := #[.int .u8 0, .int .u8 127, .int .u8 31, .int .u8 0, .int .u8 0]) ?_ 3 _ rfl; (with_reducible repeat (first | refine ai ?_ _ | refine aj ?_ | refine ah ?_ _)); refine ag (cs := #[.int .u8 0, .int .u8 127, .int .u8 0, .int .u8 0, .int .u8 0]) ?_ 2 _ rfl; (with_reducible repeat (first | refine ai ?_ _ | refine aj ?_ | refine ah ?_ _)); refine ag (cs := #[.int .u8 0, .int .u8 0, .int .u8 0, .int .u8 0, .int .u8 0]) ?_ 1 _ rfl; (with_reducible repeat (first | refine ai ?_ _ | refine aj ?_ | refine ah ?_ _)); refine ag (cs := #[.int .u8 0, .int .u8 0, .int .u8 0, .int .u8 0, .int .u8 0]) ?_ 0 _ rfl; (with_reducible repeat (first | refine ai ?_ _ | refine aj ?_ | refine ah ?_ _)); exact Aa.out⟩, ⟨xbl⟩⟩
         case round =>
          clear H'
          try clear p7
          try clear q7
          try clear hx7
          try clear Ai
          obtain ⟨Ae, Ab, rfl, rfl, HA, HK2, Aa, HB⟩ := hrel
          cases gk with
          | zero => exact absurd HA.out (by simp [ar])
          | succ k2 =>
           have H := HA.out
           clear HA
           simp only [ar] at H
           by_cases c26 : Ab < 2
           ·
            rw [if_pos c26] at H
            have Ao := decide_eq_true c26
            clear c26
            by_cases c27 : 0 ≤ Ab
            ·
             rw [if_pos c27] at H
             have AH := decide_eq_true c27
             clear c27
             by_cases c28 : Ab < (a0.size : Int)
             ·
              rw [if_pos c28] at H
              have AI := decide_eq_true c28
              clear c28
              have H' := Zz.mk H
              clear H
              have p29 : 0 ≤ (Ab : Int) := xod
              have q29 : Ab < (a0.size : Int) := xod
              have hx29 := ax a0 Ab
              replace p29 := eq_true p29
              replace q29 := eq_true q29
              try (have AA := q29; simp only [ByteArray.size_extract, Nat.min_self] at AA)
              go_wp2
              repeat (go_quiet (fail); try go_wp2)
              go_roundg k2
              case measure => have := HJ2.out; have := HK2.out; omega
              case rel => exact ⟨(Go.bits .or .i32 (wrap32 (Ae * 64)) (wrap32 (Go.bits .and .u8 (bt a0 Ab) 63))), (wrap64 (Ab + 1)), xrr, xrr, H', ⟨by have := HJ2.out; have := HK2.out; omega⟩, ⟨xbk⟩, ⟨xbl⟩⟩
             ·
              rw [if_neg c28] at H
              exact absurd H (by simp)
            ·
             rw [if_neg c27] at H
             exact absurd H (by simp)
           ·
            rw [if_neg c26] at H
            have Ao := decide_eq_false c26
            clear c26
            simp only [Option.some.injEq, Prod.mk.injEq] at H
            obtain ⟨rfl, rfl, rfl⟩ := H
            go_wp2
            repeat (go_quiet (fail); try go_wp2)
            go_ret3
            exact ⟨xre, xbl⟩
        ·
         rw [if_neg c23] at H
         clear c23
         by_cases c30 : Ag = 3
         ·
          subst c30
          rw [if_pos rfl] at H
          have H' := Zz.mk H
          clear H
          go_wp2_with (first | ((with_reducible refine ay (N := 7) rfl ?_); refine xev 7 #[.int .u8 0, .int .u8 0, .int .u8 0, .int .u8 0, .int .u8 0] 110 ?_; intro Ad hg w31 hbox hb; have Aa := Zz.mk (hbox); have Ac := xsz hg; have Af := Ac; replace HB := xst hb; clear hb hbox hg; obtain ⟨hcz32_0, hcz32_1, hcz32_2, hcz32_3, hcz32_4⟩ := xc5 Aa; have hfz32_0 := xf Aa 0; have hfz32_1 := xf Aa 1; have hfz32_2 := xf Aa 2; have hfz32_3 := xf Aa 3; have hfz32_4 := xf Aa 4; have p7 : 0 ≤ (0 : Int) := (by omega); have q7 : 0 < a0.size := (by have : (0 : Int) < (a0.size : Int) := xod; omega); have hx7 : ∀ h : 0 < a0.size, ((a0[0]'h).toNat : Int) = bt a0 0 := ax a0 0; clear p7; have Ai : (0 < (a0.size : Int)) = True := eq_true (xod); replace q7 := eq_true q7))
          repeat (go_quiet (first | ((with_reducible refine ay (N := 7) rfl ?_); refine xev 7 #[.int .u8 0, .int .u8 0, .int .u8 0, .int .u8 0, .int .u8 0] 110 ?_; intro Ad hg w31 hbox hb; have Aa := Zz.mk (hbox); have Ac := xsz hg; have Af := Ac; replace HB := xst hb; clear hb hbox hg; obtain ⟨hcz32_0, hcz32_1, hcz32_2, hcz32_3, hcz32_4⟩ := xc5 Aa; have hfz32_0 := xf Aa 0; have hfz32_1 := xf Aa 1; have hfz32_2 := xf Aa 2; have hfz32_3 := xf Aa 3; have hfz32_4 := xf Aa 4; have p7 : 0 ≤ (0 : Int) := (by omega); have q7 : 0 < a0.size := (by have : (0 : Int) < (a0.size : Int) := xod; omega); have hx7 : ∀ h : 0 < a0.size, ((a0[0]'h).toNat : Int) = bt a0 0 := ax a0 0; clear p7; have Ai : (0 < (a0.size : Int)) = True := eq_true (xod); replace q7 := eq_true q7)); try go_wp2_with (first | ((with_reducible refine ay (N := 7) rfl ?_); refine xev 7 #[.int .u8 0, .int .u8 0, .int .u8 0, .int .u8 0, .int .u8 0] 110 ?_; intro Ad hg w31 hbox hb; have Aa := Zz.mk (hbox); have Ac := xsz hg; have Af := Ac; replace HB := xst hb; clear hb hbox hg; obtain ⟨hcz32_0, hcz32_1, hcz32_2, hcz32_3, hcz32_4⟩ := xc5 Aa; have hfz32_0 := xf Aa 0; have hfz32_1 := xf Aa 1; have hfz32_2 := xf Aa 2; have hfz32_3 := xf Aa 3; have hfz32_4 := xf Aa 4; have p7 : 0 ≤ (0 : Int) := (by omega); have q7 : 0 < a0.size := (by have : (0 : Int) < (a0.size : Int) := xod; omega); have hx7 : ∀ h : 0 < a0.size, ((a0[0]'h).toNat : Int) = bt a0 0 := ax a0 0; clear p7; have Ai : (0 < (a0.size : Int)) = True := eq_true (xod); replace q7 := eq_true q7)))
          go_loopg [2, 8] kj2 (fun kq v2 v8 w' => ∃ (Ae : Int) (Ab : Int), v2 = .int .i32 Ae ∧ v8 = .int .i64 Ab ∧ Zz (ar kq a0 Ae 3 Ab = some (r1, r2, r3)) ∧ Zz (kq ≤ kj2) ∧ Zz (w'.heap[Ad]? = some (.cells #[.int .u8 0, .int .u8 127, .int .u8 31, .int .u8 15, .int .u8 7] 110 (0, 0))) ∧ Zz (Below w.heap.size w w'))
          case atStart => exact ⟨(wrap32 (Go.bits .and .u8 (bt a0 0) 15)), (1), xrr, xrr, H', ⟨Nat.le_refl _⟩, ⟨by (with_reducible repeat (first | refine ai ?_ _ | refine aj ?_ | refine ah ?_ _)); refine ag (cs := #[.int .u8 0, .int .u8 127, .int .u8 31, .int .u8 15, .int .u8 0]) ?_ 4 _ rfl; (with_reducible repeat (first | refine ai ?_ _ | refine aj ?_ | refine ah ?_ _)); refine ag (cs := #[.int .u8 0, .int .u8 127, .int .u8 31, .int .u8 0, .int .u8 0]) ?_ 3 _ rfl; (with_reducible repeat (first | refine ai ?_ _ | refine aj ?_ | refine ah ?_ _)); refine ag (cs := #[.int .u8 0, .int .u8 127, .int .u8 0, .int .u8 0, .int .u8 0]) ?_ 2 _ rfl; (with_reducible repeat (first | refine ai ?_ _ | refine aj ?_ | refine ah ?_ _)); refine ag (cs := #[.int .u8 0, .int .u8 0, .int .u8 0, .int .u8 0, .int .u8 0]) ?_ 1 _ rfl; (with_reducible repeat (first | refine ai ?_ _ | refine aj ?_ | refine ah ?_ _)); refine ag (cs := #[.int .u8 0, .int .u8 0, .int .u8 0, .int .u8 0, .int .u8 0]) ?_ 0 _ rfl; (with_reducible repeat (first | refine ai ?_ _ | refine aj ?_ | refine ah ?_ _)); exact Aa.out⟩, ⟨xbl⟩⟩
          case round =>
           clear H'
           try clear p7
           try clear q7
           try clear hx7
           try clear Ai
           obtain ⟨Ae, Ab, rfl, rfl, HA, HK2, Aa, HB⟩ := hrel
           cases gk with
           | zero => exact absurd HA.out (by simp [ar])
           | succ k2 =>
            have H := HA.out
            clear HA
            simp only [ar] at H
            by_cases c33 : Ab < 3
            ·
             rw [if_pos c33] at H
             have Ap := decide_eq_true c33
             clear c33
             by_cases c34 : 0 ≤ Ab
             ·
              rw [if_pos c34] at H
              have AJ := decide_eq_true c34
              clear c34
              by_cases c35 : Ab < (a0.size : Int)
              ·
               rw [if_pos c35] at H
               have AK := decide_eq_true c35
               clear c35
               have H' := Zz.mk H
               clear H
               have p36 : 0 ≤ (Ab : Int) := xod
               have q36 : Ab < (a0.size : Int) := xod
               have hx36 := ax a0 Ab
               replace p36 := eq_true p36
               replace q36 := eq_true q36
               try (have AB := q36; simp only [ByteArray.size_extract, Nat.min_self] at AB)
               go_wp2
               repeat (go_quiet (fail); try go_wp2)
               go_roundg k2
               case measure => have := HJ2.out; have := HK2.out; omega
               case rel => exact ⟨(Go.bits .or .i32 (wrap32 (Ae * 64)) (wrap32 (Go.bits .and .u8 (bt a0 Ab) 63))), (wrap64 (Ab + 1)), xrr, xrr, H', ⟨by have := HJ2.out; have := HK2.out; omega⟩, ⟨xbk⟩, ⟨xbl⟩⟩
              ·
               rw [if_neg c35] at H
               exact absurd H (by simp)
             ·
              rw [if_neg c34] at H
              exact absurd H (by simp)
            ·
             rw [if_neg c33] at H
             have Ap := decide_eq_false c33
             clear c33
             simp only [Option.some.injEq, Prod.mk.injEq] at H
             obtain ⟨rfl, rfl, rfl⟩ := H
             go_wp2
             repeat (go_quiet (fail); try go_wp2)
             go_ret3
             exact ⟨xre, xbl⟩
         ·
          rw [if_neg c30] at H
          clear c30
          by_cases c37 : Ag = 4
          ·
           subst c37
           rw [if_pos rfl] at H
           have H' := Zz.mk H
           clear H
           go_wp2_with (first | ((with_reducible refine ay (N := 7) rfl ?_); refine xev 7 #[.int .u8 0, .int .u8 0, .int .u8 0, .int .u8 0, .int .u8 0] 110 ?_; intro Ad hg w38 hbox hb; have Aa := Zz.mk (hbox); have Ac := xsz hg; have Af := Ac; replace HB := xst hb; clear hb hbox hg; obtain ⟨hcz39_0, hcz39_1, hcz39_2, hcz39_3, hcz39_4⟩ := xc5 Aa; have hfz39_0 := xf Aa 0; have hfz39_1 := xf Aa 1; have hfz39_2 := xf Aa 2; have hfz39_3 := xf Aa 3; have hfz39_4 := xf Aa 4; have p7 : 0 ≤ (0 : Int) := (by omega); have q7 : 0 < a0.size := (by have : (0 : Int) < (a0.size : Int) := xod; omega); have hx7 : ∀ h : 0 < a0.size, ((a0[0]'h).toNat : Int) = bt a0 0 := ax a0 0; clear p7; have Ai : (0 < (a0.size : Int)) = True := eq_true (xod); replace q7 := eq_true q7))
           repeat (go_quiet (first | ((with_reducible refine ay (N := 7) rfl ?_); refine xev 7 #[.int .u8 0, .int .u8 0, .int .u8 0, .int .u8 0, .int .u8 0] 110 ?_; intro Ad hg w38 hbox hb; have Aa := Zz.mk (hbox); have Ac := xsz hg; have Af := Ac; replace HB := xst hb; clear hb hbox hg; obtain ⟨hcz39_0, hcz39_1, hcz39_2, hcz39_3, hcz39_4⟩ := xc5 Aa; have hfz39_0 := xf Aa 0; have hfz39_1 := xf Aa 1; have hfz39_2 := xf Aa 2; have hfz39_3 := xf Aa 3; have hfz39_4 := xf Aa 4; have p7 : 0 ≤ (0 : Int) := (by omega); have q7 : 0 < a0.size := (by have : (0 : Int) < (a0.size : Int) := xod; omega); have hx7 : ∀ h : 0 < a0.size, ((a0[0]'h).toNat : Int) = bt a0 0 := ax a0 0; clear p7; have Ai : (0 < (a0.size : Int)) = True := eq_true (xod); replace q7 := eq_true q7)); try go_wp2_with (first | ((with_reducible refine ay (N := 7) rfl ?_); refine xev 7 #[.int .u8 0, .int .u8 0, .int .u8 0, .int .u8 0, .int .u8 0] 110 ?_; intro Ad hg w38 hbox hb; have Aa := Zz.mk (hbox); have Ac := xsz hg; have Af := Ac; replace HB := xst hb; clear hb hbox hg; obtain ⟨hcz39_0, hcz39_1, hcz39_2, hcz39_3, hcz39_4⟩ := xc5 Aa; have hfz39_0 := xf Aa 0; have hfz39_1 := xf Aa 1; have hfz39_2 := xf Aa 2; have hfz39_3 := xf Aa 3; have hfz39_4 := xf Aa 4; have p7 : 0 ≤ (0 : Int) := (by omega); have q7 : 0 < a0.size := (by have : (0 : Int) < (a0.size : Int) := xod; omega); have hx7 : ∀ h : 0 < a0.size, ((a0[0]'h).toNat : Int) = bt a0 0 := ax a0 0; clear p7; have Ai : (0 < (a0.size : Int)) = True := eq_true (xod); replace q7 := eq_true q7)))
           go_loopg [2, 8] kj2 (fun kq v2 v8 w' => ∃ (Ae : Int) (Ab : Int), v2 = .int .i32 Ae ∧ v8 = .int .i64 Ab ∧ Zz (ar kq a0 Ae 4 Ab = some (r1, r2, r3)) ∧ Zz (kq ≤ kj2) ∧ Zz (w'.heap[Ad]? = some (.cells #[.int .u8 0, .int .u8 127, .int .u8 31, .int .u8 15, .int .u8 7] 110 (0, 0))) ∧ Zz (Below w.heap.size w w'))
           case atStart => exact ⟨(wrap32 (Go.bits .and .u8 (bt a0 0) 7)), (1), xrr, xrr, H', ⟨Nat.le_refl _⟩, ⟨by (with_reducible repeat (first | refine ai ?_ _ | refine aj ?_ | refine ah ?_ _)); refine ag (cs := #[.int .u8 0, .int .u8 127, .int .u8 31, .int .u8 15, .int .u8 0]) ?_ 4 _ rfl; (with_reducible repeat (first | refine ai ?_ _ | refine aj ?_ | refine ah ?_ _)); refine ag (cs := #[.int .u8 0, .int .u8 127, .int .u8 31, .int .u8 0, .int .u8 0]) ?_ 3 _ rfl; (with_reducible repeat (first | refine ai ?_ _ | refine aj ?_ | refine ah ?_ _)); refine ag (cs := #[.int .u8 0, .int .u8 127, .int .u8 0, .int .u8 0, .int .u8 0]) ?_ 2 _ rfl; (with_reducible repeat (first | refine ai ?_ _ | refine aj ?_ | refine ah ?_ _)); refine ag (cs := #[.int .u8 0, .int .u8 0, .int .u8 0, .int .u8 0, .int .u8 0]) ?_ 1 _ rfl; (with_reducible repeat (first | refine ai ?_ _ | refine aj ?_ | refine ah ?_ _)); refine ag (cs := #[.int .u8 0, .int .u8 0, .int .u8 0, .int .u8 0, .int .u8 0]) ?_ 0 _ rfl; (with_reducible repeat (first | refine ai ?_ _ | refine aj ?_ | refine ah ?_ _)); exact Aa.out⟩, ⟨xbl⟩⟩
           case round =>
            clear H'
            try clear p7
            try clear q7
            try clear hx7
            try clear Ai
            obtain ⟨Ae, Ab, rfl, rfl, HA, HK2, Aa, HB⟩ := hrel
            cases gk with
            | zero => exact absurd HA.out (by simp [ar])
            | succ k2 =>
             have H := HA.out
             clear HA
             simp only [ar] at H
             by_cases c40 : Ab < 4
             ·
              rw [if_pos c40] at H
              have Aq := decide_eq_true c40
              clear c40
              by_cases c41 : 0 ≤ Ab
              ·
               rw [if_pos c41] at H
               have AL := decide_eq_true c41
               clear c41
               by_cases c42 : Ab < (a0.size : Int)
               ·
                rw [if_pos c42] at H
                have AM := decide_eq_true c42
                clear c42
                have H' := Zz.mk H
                clear H
                have p43 : 0 ≤ (Ab : Int) := xod
                have q43 : Ab < (a0.size : Int) := xod
                have hx43 := ax a0 Ab
                replace p43 := eq_true p43
                replace q43 := eq_true q43
                try (have AC := q43; simp only [ByteArray.size_extract, Nat.min_self] at AC)
                go_wp2
                repeat (go_quiet (fail); try go_wp2)
                go_roundg k2
                case measure => have := HJ2.out; have := HK2.out; omega
                case rel => exact ⟨(Go.bits .or .i32 (wrap32 (Ae * 64)) (wrap32 (Go.bits .and .u8 (bt a0 Ab) 63))), (wrap64 (Ab + 1)), xrr, xrr, H', ⟨by have := HJ2.out; have := HK2.out; omega⟩, ⟨xbk⟩, ⟨xbl⟩⟩
               ·
                rw [if_neg c42] at H
                exact absurd H (by simp)
              ·
               rw [if_neg c41] at H
               exact absurd H (by simp)
             ·
              rw [if_neg c40] at H
              have Aq := decide_eq_false c40
              clear c40
              simp only [Option.some.injEq, Prod.mk.injEq] at H
              obtain ⟨rfl, rfl, rfl⟩ := H
              go_wp2
              repeat (go_quiet (fail); try go_wp2)
              go_ret3
              exact ⟨xre, xbl⟩
          ·
           rw [if_neg c37] at H
           clear c37
           exact absurd H (by simp)
     ·
      rw [if_neg c8] at H
      exact absurd H (by simp)
    ·
     rw [if_neg c6] at H
     exact absurd H (by simp)
def au : Nat → Int → Bool → Option (Bool)
  | 0, _, _ => none
  | k + 1, x0, x6 => if x6 = true then (some true) else (if x0 < 65536 then (some false) else (if x0 > 983037 then (some false) else (if (Go.bits .and .i32 x0 65535) ≤ 65533 then (if x0 < 917504 then (some true) else (some (decide (x0 ≥ 921600)))) else (some false))))
def cW (k : Nat) (a0 : Int) : Option (Bool) := if a0 < 160 then (some false) else (if a0 ≤ 55295 then (au k a0 (decide (a0 ≤ 55295))) else (if a0 ≥ 63744 then (if a0 ≤ 64975 then (au k a0 (decide (a0 ≤ 64975))) else (if a0 ≥ 65008 then (au k a0 (decide (a0 ≤ 65519))) else (au k a0 false))) else (if a0 ≥ 65008 then (au k a0 (decide (a0 ≤ 65519))) else (au k a0 false))))
theorem eq : ∀ k, (∀ y0 y1, LeO (au k y0 y1) (au (k + 1) y0 y1))
  | 0 => fun _ _ r h => by simp [au] at h
  | k + 1 => by
    have ih0 := eq k
    · intro y0 y1
      unfold au
      exact xmo
theorem eR : ∀ a0 k, LeO (cW k a0) (cW (k + 1) a0) := by
  intro a0 k
  have ih0 := eq k
  unfold cW
  exact xmo
theorem dI (k : Nat) (a0 : Int) (r : Bool) (w : World) (h : cW k a0 = some r) :
    Calls Tryd.prog 80 #[.int .i32 a0] w fun e w' => e = .returned (.bool r) ∧ Drawn0 w w' := by
 have H : (if a0 < 160 then (some false) else (if a0 ≤ 55295 then (au k a0 (decide (a0 ≤ 55295))) else (if a0 ≥ 63744 then (if a0 ≤ 64975 then (au k a0 (decide (a0 ≤ 64975))) else (if a0 ≥ 65008 then (au k a0 (decide (a0 ≤ 65519))) else (au k a0 false))) else (if a0 ≥ 65008 then (au k a0 (decide (a0 ≤ 65519))) else (au k a0 false))))) = some r := h
 clear h
 by_cases c2 : a0 < 160
 ·
  rw [if_pos c2] at H
  have Ac := decide_eq_true c2
  clear c2
  obtain rfl := Option.some.inj H
  go_enter Tryd.func80, Tryd.ntmps80
  go_wp2
  go_ret
  exact ⟨xrr, xdr⟩
 ·
  rw [if_neg c2] at H
  have Ac := decide_eq_false c2
  clear c2
  have Ah := Zz.mk H
  clear H
  go_enter Tryd.func80, Tryd.ntmps80
  go_upto_if 6 with (fail)
  go_cut [6] (fun v6 wc => ∃ (kq : Nat) (Ab : Bool), v6 = .bool Ab ∧ Zz (au kq a0 Ab = some r) ∧ Zz (kq ≤ k) ∧ Drawn0 w wc)
  case first =>
   have H := Ah.out
   clear Ah
   by_cases c4 : a0 ≤ 55295
   ·
    rw [if_pos c4] at H
    have Aa := decide_eq_true c4
    clear c4
    (first | rw [Aa] | (simp only [aC, aI]; rw [Aa]) | (rw [Ai]; (try simp only [Bool.not_false, Bool.not_true])) | (rw [Aj]; (try simp only [Bool.not_false, Bool.not_true])) | skip)
    have H' := Zz.mk H
    clear H
    go_wp2
    go_meet
    case rel => exact ⟨_, (decide (a0 ≤ 55295)), xrr, H', ⟨xom⟩, xdr⟩
   ·
    rw [if_neg c4] at H
    have Aa := decide_eq_false c4
    clear c4
    (first | rw [Aa] | (simp only [aC, aI]; rw [Aa]) | (rw [Ai]; (try simp only [Bool.not_false, Bool.not_true])) | (rw [Aj]; (try simp only [Bool.not_false, Bool.not_true])) | skip)
    by_cases c5 : a0 ≥ 63744
    ·
     rw [if_pos c5] at H
     have Ak := decide_eq_true c5
     clear c5
     by_cases c6 : a0 ≤ 64975
     ·
      rw [if_pos c6] at H
      have Al := decide_eq_true c6
      clear c6
      have H' := Zz.mk H
      clear H
      go_wp2
      go_meet
      case rel => exact ⟨_, (decide (a0 ≤ 64975)), xrr, H', ⟨xom⟩, xdr⟩
     ·
      rw [if_neg c6] at H
      have Al := decide_eq_false c6
      clear c6
      by_cases c7 : a0 ≥ 65008
      ·
       rw [if_pos c7] at H
       have Am := decide_eq_true c7
       clear c7
       have H' := Zz.mk H
       clear H
       go_wp2
       go_meet
       case rel => exact ⟨_, (decide (a0 ≤ 65519)), xrr, H', ⟨xom⟩, xdr⟩
      ·
       rw [if_neg c7] at H
       have Am := decide_eq_false c7
       clear c7
       have H' := Zz.mk H
       clear H
       go_wp2
       go_meet
       case rel => exact ⟨_, (false), xrr, H', ⟨xom⟩, xdr⟩
    ·
     rw [if_neg c5] at H
     have Ak := decide_eq_false c5
     clear c5
     by_cases c8 : a0 ≥ 65008
     ·
      rw [if_pos c8] at H
      have An := decide_eq_true c8
      clear c8
      have H' := Zz.mk H
      clear H
      go_wp2
      go_meet
      case rel => exact ⟨_, (decide (a0 ≤ 65519)), xrr, H', ⟨xom⟩, xdr⟩
     ·
      rw [if_neg c8] at H
      have An := decide_eq_false c8
      clear c8
      have H' := Zz.mk H
      clear H
      go_wp2
      go_meet
      case rel => exact ⟨_, (false), xrr, H', ⟨xom⟩, xdr⟩
  case rest =>
   clear Ah
   clear Ac
   obtain ⟨kq, Ab, rfl, HA, HJ2, ⟨mc2, rfl⟩⟩ := hcut
   cases kq with
   | zero => exact absurd HA.out (by simp [au])
   | succ kj2 =>
    have H := HA.out
    clear HA
    simp only [au] at H
    by_cases c9 : Ab = true
    ·
     subst c9
     rw [if_pos rfl] at H
     obtain rfl := Option.some.inj H
     go_wp2
     go_ret
     exact ⟨xrr, xdr⟩
    ·
     replace c9 := Bool.eq_false_iff.mpr c9
     subst c9
     rw [if_neg (show ¬ (false = true) by decide)] at H
     by_cases c10 : a0 < 65536
     ·
      rw [if_pos c10] at H
      have Ad := decide_eq_true c10
      clear c10
      obtain rfl := Option.some.inj H
      go_wp2
      go_ret
      exact ⟨xrr, xdr⟩
     ·
      rw [if_neg c10] at H
      have Ad := decide_eq_false c10
      clear c10
      by_cases c11 : a0 > 983037
      ·
       rw [if_pos c11] at H
       have Ae := decide_eq_true c11
       clear c11
       obtain rfl := Option.some.inj H
       go_wp2
       go_ret
       exact ⟨xrr, xdr⟩
      ·
       rw [if_neg c11] at H
       have Ae := decide_eq_false c11
       clear c11
       by_cases c12 : (Go.bits .and .i32 a0 65535) ≤ 65533
       ·
        rw [if_pos c12] at H
        have Af := decide_eq_true c12
        clear c12
        by_cases c13 : a0 < 917504
        ·
         rw [if_pos c13] at H
         have Ag := decide_eq_true c13
         clear c13
         obtain rfl := Option.some.inj H
         go_wp2
         go_ret
         exact ⟨xrr, xdr⟩
        ·
         rw [if_neg c13] at H
         have Ag := decide_eq_false c13
         clear c13
         obtain rfl := Option.some.inj H
         go_wp2
         go_ret
         exact ⟨xrr, xdr⟩
       ·
        rw [if_neg c12] at H
        have Af := decide_eq_false c12
        clear c12
        obtain rfl := Option.some.inj H
        go_wp2
        go_ret
        exact ⟨xrr, xdr⟩
def ft (a0 : Int) : Option (Bool) := if a0 ≥ 57344 then (if a0 ≤ 63743 then (some true) else (if a0 ≥ 983040 then (if a0 ≤ 1048573 then (some true) else (if a0 ≥ 1048576 then (some (decide (a0 ≤ 1114109))) else (some false))) else (if a0 ≥ 1048576 then (some (decide (a0 ≤ 1114109))) else (some false)))) else (if a0 ≥ 983040 then (if a0 ≤ 1048573 then (some true) else (if a0 ≥ 1048576 then (some (decide (a0 ≤ 1114109))) else (some false))) else (if a0 ≥ 1048576 then (some (decide (a0 ≤ 1114109))) else (some false)))
theorem gg (a0 : Int) (r : Bool) (w : World) (h : ft a0 = some r) :
    Calls Tryd.prog 81 #[.int .i32 a0] w fun e w' => e = .returned (.bool r) ∧ Drawn0 w w' := by
 have H : (if a0 ≥ 57344 then (if a0 ≤ 63743 then (some true) else (if a0 ≥ 983040 then (if a0 ≤ 1048573 then (some true) else (if a0 ≥ 1048576 then (some (decide (a0 ≤ 1114109))) else (some false))) else (if a0 ≥ 1048576 then (some (decide (a0 ≤ 1114109))) else (some false)))) else (if a0 ≥ 983040 then (if a0 ≤ 1048573 then (some true) else (if a0 ≥ 1048576 then (some (decide (a0 ≤ 1114109))) else (some false))) else (if a0 ≥ 1048576 then (some (decide (a0 ≤ 1114109))) else (some false)))) = some r := h
 clear h
 by_cases c2 : a0 ≥ 57344
 ·
  rw [if_pos c2] at H
  have Ac := decide_eq_true c2
  clear c2
  by_cases c3 : a0 ≤ 63743
  ·
   rw [if_pos c3] at H
   have Ad := decide_eq_true c3
   clear c3
   obtain rfl := Option.some.inj H
   go_enter Tryd.func81, Tryd.ntmps81
   go_wp2
   go_ret
   exact ⟨xrr, xdr⟩
  ·
   rw [if_neg c3] at H
   have Ad := decide_eq_false c3
   clear c3
   by_cases c4 : a0 ≥ 983040
   ·
    rw [if_pos c4] at H
    have Ae := decide_eq_true c4
    clear c4
    by_cases c5 : a0 ≤ 1048573
    ·
     rw [if_pos c5] at H
     have Af := decide_eq_true c5
     clear c5
     obtain rfl := Option.some.inj H
     go_enter Tryd.func81, Tryd.ntmps81
     go_wp2
     go_ret
     exact ⟨xrr, xdr⟩
    ·
     rw [if_neg c5] at H
     have Af := decide_eq_false c5
     clear c5
     by_cases c6 : a0 ≥ 1048576
     ·
      rw [if_pos c6] at H
      have Ag := decide_eq_true c6
      clear c6
      obtain rfl := Option.some.inj H
      go_enter Tryd.func81, Tryd.ntmps81
      go_wp2
      go_ret
      exact ⟨xrr, xdr⟩
     ·
      rw [if_neg c6] at H
      have Ag := decide_eq_false c6
      clear c6
      obtain rfl := Option.some.inj H
      go_enter Tryd.func81, Tryd.ntmps81
      go_wp2
      go_ret
      exact ⟨xrr, xdr⟩
   ·
    rw [if_neg c4] at H
    have Ae := decide_eq_false c4
    clear c4
    by_cases c7 : a0 ≥ 1048576
    ·
     rw [if_pos c7] at H
     have Ah := decide_eq_true c7
     clear c7
     obtain rfl := Option.some.inj H
     go_enter Tryd.func81, Tryd.ntmps81
     go_wp2
     go_ret
     exact ⟨xrr, xdr⟩
    ·
     rw [if_neg c7] at H
     have Ah := decide_eq_false c7
     clear c7
     obtain rfl := Option.some.inj H
     go_enter Tryd.func81, Tryd.ntmps81
     go_wp2
     go_ret
     exact ⟨xrr, xdr⟩
 ·
  rw [if_neg c2] at H
  have Ac := decide_eq_false c2
  clear c2
  by_cases c8 : a0 ≥ 983040
  ·
   rw [if_pos c8] at H
   have Ai := decide_eq_true c8
   clear c8
   by_cases c9 : a0 ≤ 1048573
   ·
    rw [if_pos c9] at H
    have Aj := decide_eq_true c9
    clear c9
    obtain rfl := Option.some.inj H
    go_enter Tryd.func81, Tryd.ntmps81
    go_wp2
    go_ret
    exact ⟨xrr, xdr⟩
   ·
    rw [if_neg c9] at H
    have Aj := decide_eq_false c9
    clear c9
    by_cases c10 : a0 ≥ 1048576
    ·
     rw [if_pos c10] at H
     have Aa := decide_eq_true c10
     clear c10
     obtain rfl := Option.some.inj H
     go_enter Tryd.func81, Tryd.ntmps81
     go_wp2
     go_ret
     exact ⟨xrr, xdr⟩
    ·
     rw [if_neg c10] at H
     have Aa := decide_eq_false c10
     clear c10
     obtain rfl := Option.some.inj H
     go_enter Tryd.func81, Tryd.ntmps81
     go_wp2
     go_ret
     exact ⟨xrr, xdr⟩
  ·
   rw [if_neg c8] at H
   have Ai := decide_eq_false c8
   clear c8
   by_cases c11 : a0 ≥ 1048576
   ·
    rw [if_pos c11] at H
    have Ab := decide_eq_true c11
    clear c11
    obtain rfl := Option.some.inj H
    go_enter Tryd.func81, Tryd.ntmps81
    go_wp2
    go_ret
    exact ⟨xrr, xdr⟩
   ·
    rw [if_neg c11] at H
    have Ab := decide_eq_false c11
    clear c11
    obtain rfl := Option.some.inj H
    go_enter Tryd.func81, Tryd.ntmps81
    go_wp2
    go_ret
    exact ⟨xrr, xdr⟩
mutual
def bw : Nat → Int → Bool → Int → Bool → Option (Bool)
  | 0, _, _, _, _ => none
  | k + 1, x0, x1, x2, x14 => if x14 = true then ((cG k x0 ((x2) % 256)).bind fun t162 => (some t162)) else ((dv x0).bind fun bt163 => (if bt163.2 = true then (bX k x0 x2 (!x1)) else (bX k x0 x2 true)))
def bX : Nat → Int → Int → Bool → Option (Bool)
  | 0, _, _, _ => none
  | k + 1, x0, x2, x29 => if x29 = true then (some false) else ((cW k x2).bind fun t165 => (if t165 = true then (some true) else (if x0 = 6 then ((ft x2).bind fun t166 => (some t166)) else (some false))))
end
def dW (k : Nat) (a0 : Int) (a1 : Bool) (a2 : Int) : Option (Bool) := if a2 ≥ 0 then (bw k a0 a1 a2 (decide (a2 < 128))) else (bw k a0 a1 a2 false)
theorem fd : ∀ k, (∀ y0 y1 y2 y3, LeO (bw k y0 y1 y2 y3) (bw (k + 1) y0 y1 y2 y3)) ∧ (∀ y0 y1 y2, LeO (bX k y0 y1 y2) (bX (k + 1) y0 y1 y2))
  | 0 => ⟨fun _ _ _ _ r h => by simp [bw] at h, fun _ _ _ r h => by simp [bX] at h⟩
  | k + 1 => by
    obtain ⟨ih0, ih1⟩ := fd k
    have m0 := @eR; have m1 := @dq
    refine ⟨?_, ?_⟩
    · intro y0 y1 y2 y3
      unfold bw
      exact xmo
    · intro y0 y1 y2
      unfold bX
      exact xmo
theorem fO : ∀ a0 a1 a2 k, LeO (dW k a0 a1 a2) (dW (k + 1) a0 a1 a2) := by
  intro a0 a1 a2 k
  obtain ⟨ih0, ih1⟩ := fd k
  have m0 := @eR; have m1 := @dq
  unfold dW
  exact xmo
theorem fs (k : Nat) (a0 : Int) (a1 : Bool) (a2 : Int) (r : Bool) (w : World) (h : dW k a0 a1 a2 = some r) :
    Calls Tryd.prog 62 #[.int .i64 a0, .bool a1, .int .i32 a2] w fun e w' => e = .returned (.bool r) ∧ Below w.heap.size w w' := by
 have HB := Zz.mk (Below.refl w.heap.size w)
 have H : (if a2 ≥ 0 then (bw k a0 a1 a2 (decide (a2 < 128))) else (bw k a0 a1 a2 false)) = some r := h
 clear h
 have Ah := Zz.mk H
 clear H
 go_enter Tryd.func62, Tryd.ntmps62
 go_upto_region 1 with (fail)
 go_cut [14] (fun v14 wc => ∃ (kq : Nat) (Aa : Bool), v14 = .bool Aa ∧ Zz (bw kq a0 a1 a2 Aa = some r) ∧ Zz (kq ≤ k) ∧ Zz (Below w.heap.size w wc))
 case first =>
  have H := Ah.out
  clear Ah
  by_cases c5 : a2 ≥ 0
  ·
   rw [if_pos c5] at H
   have Ac := decide_eq_true c5
   clear c5
   (first | rw [Ac] | (simp only [aC, aI]; rw [Ac]) | (rw [Ai]; (try simp only [Bool.not_false, Bool.not_true])) | (rw [Aj]; (try simp only [Bool.not_false, Bool.not_true])) | skip)
   have H' := Zz.mk H
   clear H
   go_wp2
   go_meet
   case rel => exact ⟨_, (decide (a2 < 128)), xrr, H', ⟨xom⟩, ⟨xbl⟩⟩
  ·
   rw [if_neg c5] at H
   have Ac := decide_eq_false c5
   clear c5
   (first | rw [Ac] | (simp only [aC, aI]; rw [Ac]) | (rw [Ai]; (try simp only [Bool.not_false, Bool.not_true])) | (rw [Aj]; (try simp only [Bool.not_false, Bool.not_true])) | skip)
   have H' := Zz.mk H
   clear H
   go_wp2
   go_meet
   case rel => exact ⟨_, (false), xrr, H', ⟨xom⟩, ⟨xbl⟩⟩
 case rest =>
  clear Ah
  obtain ⟨kq, Aa, rfl, HA, HJ3, HB⟩ := hcut
  cases kq with
  | zero => exact absurd HA.out (by simp [bw])
  | succ kj3 =>
   have H := HA.out
   clear HA
   simp only [bw] at H
   by_cases c6 : Aa = true
   ·
    subst c6
    rw [if_pos rfl] at H
    replace H := Option.bind_eq_some_iff.mp H
    obtain ⟨Ak, A70, H⟩ := H
    try dsimp only at H
    have A7 := Zz.mk A70
    clear A70
    obtain rfl := Option.some.inj H
    go_wp2_with (first | ((with_reducible refine ae (f := 28) rfl ?_); refine xgl 18 Tryd.func28 #[.int .i64 a0, .int .u8 ((a2) % 256)] ?_; (with_reducible refine (dR kj3 a0 ((a2) % 256) Ak _ A7.out).mono ?_); rintro e w8 ⟨rfl, hb⟩; refine ⟨_, rfl, ?_⟩; replace HB := xst hb; (try clear hb)))
    go_ret
    exact ⟨xre, xbl⟩
   ·
    replace c6 := Bool.eq_false_iff.mpr c6
    subst c6
    rw [if_neg (show ¬ (false = true) by decide)] at H
    replace H := Option.bind_eq_some_iff.mp H
    obtain ⟨⟨Al, Ae⟩, A90, H⟩ := H
    try dsimp only at H
    have A9 := Zz.mk A90
    clear A90
    have Ad := Zz.mk H
    clear H
    go_upto_region 4 with (first | ((with_reducible refine ae (f := 44) rfl ?_); refine xgl 21 Tryd.func44 #[.int .i64 a0] ?_; (with_reducible refine (aZ a0 Al Ae _ A9.out).mono ?_); rintro e w' ⟨rfl, ⟨nd, rfl⟩⟩; refine ⟨_, rfl, ?_⟩))
    (try simp only [Act.put, List.setIfInBounds_toArray, List.set_cons_zero, List.set_cons_succ])
    go_cut [29] (fun v29 wc => ∃ (kq : Nat) (Ab : Bool), v29 = .bool Ab ∧ Zz (bX kq a0 a2 Ab = some r) ∧ Zz (kq ≤ kj3) ∧ Zz (Below w.heap.size w wc))
    case first =>
     have H := Ad.out
     clear Ad
     by_cases c11 : Ae = true
     ·
      subst c11
      rw [if_pos rfl] at H
      have H' := Zz.mk H
      clear H
      go_wp2
      go_meet
      case rel => exact ⟨_, (!a1), xrr, H', ⟨by have := HJ3.out; first | omega | exact Nat.le_refl _⟩, ⟨xbl⟩⟩
     ·
      replace c11 := Bool.eq_false_iff.mpr c11
      subst c11
      rw [if_neg (show ¬ (false = true) by decide)] at H
      have H' := Zz.mk H
      clear H
      go_wp2
      go_meet
      case rel => exact ⟨_, (true), xrr, H', ⟨by have := HJ3.out; first | omega | exact Nat.le_refl _⟩, ⟨xbl⟩⟩
    case rest =>
     clear Ad
     obtain ⟨kq, Ab, rfl, HA, HJ9, HB⟩ := hcut
     cases kq with
     | zero => exact absurd HA.out (by simp [bX])
     | succ kj9 =>
      have H := HA.out
      clear HA
      simp only [bX] at H
      by_cases c12 : Ab = true
      ·
       subst c12
       rw [if_pos rfl] at H
       obtain rfl := Option.some.inj H
       go_wp2
       go_ret
       exact ⟨xre, xbl⟩
      ·
       replace c12 := Bool.eq_false_iff.mpr c12
       subst c12
       rw [if_neg (show ¬ (false = true) by decide)] at H
       replace H := Option.bind_eq_some_iff.mp H
       obtain ⟨Am, A130, H⟩ := H
       try dsimp only at H
       have A13 := Zz.mk A130
       clear A130
       by_cases c14 : Am = true
       ·
        subst c14
        rw [if_pos rfl] at H
        obtain rfl := Option.some.inj H
        go_wp2_with (first | ((with_reducible refine ae (f := 80) rfl ?_); refine xgl 31 Tryd.func80 #[.int .i32 a2] ?_; (with_reducible refine (dI kj9 a2 true _ A13.out).mono ?_); rintro e w' ⟨rfl, ⟨nd, rfl⟩⟩; refine ⟨_, rfl, ?_⟩))
        go_ret
        exact ⟨xre, xbl⟩
       ·
        replace c14 := Bool.eq_false_iff.mpr c14
        subst c14
        rw [if_neg (show ¬ (false = true) by decide)] at H
        by_cases c15 : a0 = 6
        ·
         rw [if_pos c15] at H
         have Af : (a0 == 6) = true := beq_iff_eq.mpr c15
         have Ag : (a0 != 6) = false := bne_eq_false_iff_eq.mpr c15
         clear c15
         replace H := Option.bind_eq_some_iff.mp H
         obtain ⟨An, A160, H⟩ := H
         try dsimp only at H
         have A16 := Zz.mk A160
         clear A160
         obtain rfl := Option.some.inj H
         go_wp2_with (first | ((with_reducible refine ae (f := 80) rfl ?_); refine xgl 31 Tryd.func80 #[.int .i32 a2] ?_; (with_reducible refine (dI kj9 a2 false _ A13.out).mono ?_); rintro e w' ⟨rfl, ⟨nd, rfl⟩⟩; refine ⟨_, rfl, ?_⟩) | (go_at_call 81; (with_reducible refine (gg a2 An _ A16.out).mono ?_); rintro e w' ⟨rfl, ⟨nd, rfl⟩⟩))
         go_ret
         exact ⟨xre, xbl⟩
        ·
         rw [if_neg c15] at H
         have Af : (a0 == 6) = false := beq_eq_false_iff_ne.mpr c15
         have Ag : (a0 != 6) = true := bne_iff_ne.mpr c15
         obtain rfl := Option.some.inj H
         go_wp2_with (first | ((with_reducible refine ae (f := 80) rfl ?_); refine xgl 31 Tryd.func80 #[.int .i32 a2] ?_; (with_reducible refine (dI kj9 a2 false _ A13.out).mono ?_); rintro e w' ⟨rfl, ⟨nd, rfl⟩⟩; refine ⟨_, rfl, ?_⟩))
         go_ret
         exact ⟨xre, xbl⟩
def bj : Nat → Int → Bool → ByteArray → Int → Option (Int)
  | 0, _, _, _, _ => none
  | k + 1, x0, x1, x2, x7 => if x7 < (x2.size : Int) then ((dv x0).bind fun Ab => (if Ab.2 = true then ((dS k x2 x7).bind fun Ac => (if Ac.2 = true then (bj k x0 x1 x2 (wrap64 (x7 + 3))) else (if 0 ≤ x7 then (if x7 ≤ (x2.size : Int) then ((dN k (x2.extract (x7 : Int).toNat x2.size)).bind fun Aa => (if Aa.2.2 = true then ((dW k x0 x1 Aa.1).bind fun Ad => (if Ad = true then (bj k x0 x1 x2 (wrap64 (x7 + Aa.2.1))) else (some x7))) else (some x7))) else (none)) else (none)))) else (some 0))) else (some x7)
def cX (k : Nat) (a0 : Int) (a1 : Bool) (a2 : ByteArray) : Option (Int) := bj k a0 a1 a2 0
theorem eS : ∀ k, (∀ y0 y1 y2 y3, LeO (bj k y0 y1 y2 y3) (bj (k + 1) y0 y1 y2 y3))
  | 0 => fun _ _ _ _ r h => by simp [bj] at h
  | k + 1 => by
    have ih0 := eS k
    have m0 := @fI; have m1 := @fO; have m2 := @fx
    · intro y0 y1 y2 y3
      unfold bj
      exact xmo
theorem g0 : ∀ a0 a1 a2 k, LeO (cX k a0 a1 a2) (cX (k + 1) a0 a1 a2) := by
  intro a0 a1 a2 k
  have ih0 := eS k
  have m0 := @fI; have m1 := @fO; have m2 := @fx
  unfold cX
  exact xmo
theorem gT (k : Nat) (a0 : Int) (a1 : Bool) (a2 : ByteArray) (r : Int) (w : World) (h : cX k a0 a1 a2 = some r) :
    Calls Tryd.prog 46 #[.int .i64 a0, .bool a1, .string a2] w fun e w' => e = .returned (.int .i64 r) ∧ Below w.heap.size w w' := by
 have HB := Zz.mk (Below.refl w.heap.size w)
 have H : (bj k a0 a1 a2 0) = some r := h
 clear h
 have H' := Zz.mk H
 clear H
 go_enter Tryd.func46, Tryd.ntmps46
 go_wp2
 go_loopg [7] k (fun kq v7 w' => ∃ (Aa : Int), v7 = .int .i64 Aa ∧ Zz (bj kq a0 a1 a2 Aa = some r) ∧ Zz (kq ≤ k) ∧ Zz (Below w.heap.size w w'))
 case atStart => exact ⟨(0), xrr, H', ⟨Nat.le_refl _⟩, ⟨xbl⟩⟩
 case round =>
  clear H'
  obtain ⟨Aa, rfl, HA, HK1, HB⟩ := hrel
  cases gk with
  | zero => exact absurd HA.out (by simp [bj])
  | succ k1 =>
   have H := HA.out
   clear HA
   simp only [bj] at H
   by_cases c4 : Aa < (a2.size : Int)
   ·
    rw [if_pos c4] at H
    have Ai := decide_eq_true c4
    clear c4
    replace H := Option.bind_eq_some_iff.mp H
    obtain ⟨⟨Ad, Aj⟩, A50, H⟩ := H
    try dsimp only at H
    have A5 := Zz.mk A50
    clear A50
    by_cases c6 : Aj = true
    ·
     subst c6
     rw [if_pos rfl] at H
     replace H := Option.bind_eq_some_iff.mp H
     obtain ⟨⟨Af, Ak⟩, A70, H⟩ := H
     try dsimp only at H
     have A7 := Zz.mk A70
     clear A70
     by_cases c8 : Ak = true
     ·
      subst c8
      rw [if_pos rfl] at H
      have H' := Zz.mk H
      clear H
      go_wp2_with (first | ((with_reducible refine ae (f := 44) rfl ?_); refine xgl 21 Tryd.func44 #[.int .i64 a0] ?_; (with_reducible refine (aZ a0 Ad true _ A5.out).mono ?_); rintro e w' ⟨rfl, ⟨nd, rfl⟩⟩; refine ⟨_, rfl, ?_⟩) | ((with_reducible refine ae (f := 60) rfl ?_); refine xgl 29 Tryd.func60 #[.string a2, .int .i64 Aa] ?_; (with_reducible refine (dC k1 a2 Aa Af true _ A7.out).mono ?_); rintro e w' ⟨rfl, ⟨nd, rfl⟩⟩; refine ⟨_, rfl, ?_⟩))
      go_roundg k1
      case measure => have := HK1.out; omega
      case rel => exact ⟨(wrap64 (Aa + 3)), xrr, H', ⟨by have := HK1.out; omega⟩, ⟨xbl⟩⟩
     ·
      replace c8 := Bool.eq_false_iff.mpr c8
      subst c8
      rw [if_neg (show ¬ (false = true) by decide)] at H
      by_cases c9 : 0 ≤ Aa
      ·
       rw [if_pos c9] at H
       have Ap := eq_true c9
       have Aq := decide_eq_true c9
       clear c9
       by_cases c10 : Aa ≤ (a2.size : Int)
       ·
        rw [if_pos c10] at H
        have An := eq_true c10
        have Ao := decide_eq_true c10
        clear c10
        obtain ⟨Ac, Ab⟩ : ∃ j_ : ByteArray, (a2.extract (Aa : Int).toNat a2.size) = j_ := ⟨_, rfl⟩
        try (have Ah := Ab; simp only [Int.toNat_natCast] at Ah)
        first | rw [Ab] at H | simp only [Ab] at H | skip
        (try rw [Ab] at A5)
        (try rw [Ab] at A7)
        replace H := Option.bind_eq_some_iff.mp H
        obtain ⟨⟨Ae, Ag, Al⟩, A120, H⟩ := H
        try dsimp only at H
        have A12 := Zz.mk A120
        clear A120
        by_cases c13 : Al = true
        ·
         subst c13
         rw [if_pos rfl] at H
         replace H := Option.bind_eq_some_iff.mp H
         obtain ⟨Am, A140, H⟩ := H
         try dsimp only at H
         have A14 := Zz.mk A140
         clear A140
         by_cases c15 : Am = true
         ·
          subst c15
          rw [if_pos rfl] at H
          have H' := Zz.mk H
          clear H
          go_wp2_with (first | ((with_reducible refine ae (f := 44) rfl ?_); refine xgl 21 Tryd.func44 #[.int .i64 a0] ?_; (with_reducible refine (aZ a0 Ad true _ A5.out).mono ?_); rintro e w' ⟨rfl, ⟨nd, rfl⟩⟩; refine ⟨_, rfl, ?_⟩) | ((with_reducible refine ae (f := 60) rfl ?_); refine xgl 29 Tryd.func60 #[.string a2, .int .i64 Aa] ?_; (with_reducible refine (dC k1 a2 Aa Af false _ A7.out).mono ?_); rintro e w' ⟨rfl, ⟨nd, rfl⟩⟩; refine ⟨_, rfl, ?_⟩) | ((with_reducible refine ae (f := 61) rfl ?_); refine bc (some 39) rfl rfl Tryd.func61 (by kernel_rfl) rfl #[.string Ac] rfl (by (try simp only [List.map_toArray, List.map_cons, List.map_nil]); first | done | (simp only [Ab]; rfl) | rfl | (simp only [List.length_drop, List.length_take]; rfl)) ?_; (with_reducible refine (d1 k1 Ac Ae Ag true _ A12.out).mono ?_); rintro e w16 ⟨rfl, hb⟩; refine ⟨_, rfl, ?_⟩; replace HB := xst hb; (try clear hb)) | (go_at_call 62; (with_reducible refine (fs k1 a0 a1 Ae true _ A14.out).mono ?_); rintro e w17 ⟨rfl, hb⟩; replace HB := xst hb; (try clear hb)))
          first | go_roundg k1 | (simp only [← Ab]; go_roundg k1)
          case measure => have := HK1.out; omega
          case rel => exact ⟨(wrap64 (Aa + Ag)), xrr, H', ⟨by have := HK1.out; omega⟩, ⟨xbl⟩⟩
         ·
          replace c15 := Bool.eq_false_iff.mpr c15
          subst c15
          rw [if_neg (show ¬ (false = true) by decide)] at H
          obtain rfl := Option.some.inj H
          go_wp2_with (first | ((with_reducible refine ae (f := 44) rfl ?_); refine xgl 21 Tryd.func44 #[.int .i64 a0] ?_; (with_reducible refine (aZ a0 Ad true _ A5.out).mono ?_); rintro e w' ⟨rfl, ⟨nd, rfl⟩⟩; refine ⟨_, rfl, ?_⟩) | ((with_reducible refine ae (f := 60) rfl ?_); refine xgl 29 Tryd.func60 #[.string a2, .int .i64 Aa] ?_; (with_reducible refine (dC k1 a2 Aa Af false _ A7.out).mono ?_); rintro e w' ⟨rfl, ⟨nd, rfl⟩⟩; refine ⟨_, rfl, ?_⟩) | ((with_reducible refine ae (f := 61) rfl ?_); refine bc (some 39) rfl rfl Tryd.func61 (by kernel_rfl) rfl #[.string Ac] rfl (by (try simp only [List.map_toArray, List.map_cons, List.map_nil]); first | done | (simp only [Ab]; rfl) | rfl | (simp only [List.length_drop, List.length_take]; rfl)) ?_; (with_reducible refine (d1 k1 Ac Ae Ag true _ A12.out).mono ?_); rintro e w18 ⟨rfl, hb⟩; refine ⟨_, rfl, ?_⟩; replace HB := xst hb; (try clear hb)) | (go_at_call 62; (with_reducible refine (fs k1 a0 a1 Ae false _ A14.out).mono ?_); rintro e w19 ⟨rfl, hb⟩; replace HB := xst hb; (try clear hb)))
          go_ret
          exact ⟨by first | rfl | (simp [ap, aq] <;> first | rfl | (simp only [bi, bne, Bool.not_not]; done)) | (simp only [← Ab]; first | rfl | (simp [ap, aq] <;> rfl)) | (simp [*, ap, aq] <;> rfl), xbl⟩
        ·
         replace c13 := Bool.eq_false_iff.mpr c13
         subst c13
         rw [if_neg (show ¬ (false = true) by decide)] at H
         obtain rfl := Option.some.inj H
         go_wp2_with (first | ((with_reducible refine ae (f := 44) rfl ?_); refine xgl 21 Tryd.func44 #[.int .i64 a0] ?_; (with_reducible refine (aZ a0 Ad true _ A5.out).mono ?_); rintro e w' ⟨rfl, ⟨nd, rfl⟩⟩; refine ⟨_, rfl, ?_⟩) | ((with_reducible refine ae (f := 60) rfl ?_); refine xgl 29 Tryd.func60 #[.string a2, .int .i64 Aa] ?_; (with_reducible refine (dC k1 a2 Aa Af false _ A7.out).mono ?_); rintro e w' ⟨rfl, ⟨nd, rfl⟩⟩; refine ⟨_, rfl, ?_⟩) | ((with_reducible refine ae (f := 61) rfl ?_); refine bc (some 39) rfl rfl Tryd.func61 (by kernel_rfl) rfl #[.string Ac] rfl (by (try simp only [List.map_toArray, List.map_cons, List.map_nil]); first | done | (simp only [Ab]; rfl) | rfl | (simp only [List.length_drop, List.length_take]; rfl)) ?_; (with_reducible refine (d1 k1 Ac Ae Ag false _ A12.out).mono ?_); rintro e w20 ⟨rfl, hb⟩; refine ⟨_, rfl, ?_⟩; replace HB := xst hb; (try clear hb)))
         go_ret
         exact ⟨by first | rfl | (simp [ap, aq] <;> first | rfl | (simp only [bi, bne, Bool.not_not]; done)) | (simp only [← Ab]; first | rfl | (simp [ap, aq] <;> rfl)) | (simp [*, ap, aq] <;> rfl), xbl⟩
       ·
        rw [if_neg c10] at H
        exact absurd H (by simp)
      ·
       rw [if_neg c9] at H
       exact absurd H (by simp)
    ·
     replace c6 := Bool.eq_false_iff.mpr c6
     subst c6
     rw [if_neg (show ¬ (false = true) by decide)] at H
     obtain rfl := Option.some.inj H
     go_wp2_with (first | ((with_reducible refine ae (f := 44) rfl ?_); refine xgl 21 Tryd.func44 #[.int .i64 a0] ?_; (with_reducible refine (aZ a0 Ad false _ A5.out).mono ?_); rintro e w' ⟨rfl, ⟨nd, rfl⟩⟩; refine ⟨_, rfl, ?_⟩))
     go_ret
     exact ⟨xre, xbl⟩
   ·
    rw [if_neg c4] at H
    have Ai := decide_eq_false c4
    clear c4
    obtain rfl := Option.some.inj H
    go_wp2
    go_ret
    exact ⟨xre, xbl⟩
def dV (k : Nat) (a0 : Int) (a1 : Bool) (a2 : ByteArray) : Option (Bool) := (cX k a0 a1 a2).bind fun t175 => (some (t175 == (a2.size : Int)))
theorem fN : ∀ a0 a1 a2 k, LeO (dV k a0 a1 a2) (dV (k + 1) a0 a1 a2) := by
  intro a0 a1 a2 k
  have m0 := @g0
  unfold dV
  exact xmo
theorem fq (k : Nat) (a0 : Int) (a1 : Bool) (a2 : ByteArray) (r : Bool) (w : World) (h : dV k a0 a1 a2 = some r) :
    Calls Tryd.prog 31 #[.int .i64 a0, .bool a1, .string a2] w fun e w' => e = .returned (.bool r) ∧ Below w.heap.size w w' := by
 have HB := Zz.mk (Below.refl w.heap.size w)
 have H : ((cX k a0 a1 a2).bind fun t175 => (some (t175 == (a2.size : Int)))) = some r := h
 clear h
 replace H := Option.bind_eq_some_iff.mp H
 obtain ⟨t175, A40, H⟩ := H
 try dsimp only at H
 have A4 := Zz.mk A40
 clear A40
 obtain rfl := Option.some.inj H
 go_enter Tryd.func31, Tryd.ntmps31
 go_wp2_with (first | ((with_reducible refine ae (f := 46) rfl ?_); refine xgl 10 Tryd.func46 #[.int .i64 a0, .bool a1, .string a2] ?_; (with_reducible refine (gT k a0 a1 a2 t175 _ A4.out).mono ?_); rintro e w5 ⟨rfl, hb⟩; refine ⟨_, rfl, ?_⟩; replace HB := xst hb; (try clear hb)))
 go_ret
 exact ⟨xre, xbl⟩
def bD : Nat → Bool → ByteArray → Int → Bool → Option (Int)
  | 0, _, _, _, _ => none
  | k + 1, x0, x1, x5, Ae => if Ae = true then (if 1 ≤ (wrap64 (x5 - 1)) then (if (wrap64 (x5 - 1)) ≤ (x1.size : Int) then ((cE k (x1.extract 1 ((wrap64 (x5 - 1)) : Int).toNat)).bind fun Aa => (if Aa.2.2.2.2.2.2.2.2 = true then (some 3) else ((dU k (x1.extract 1 ((wrap64 (x5 - 1)) : Int).toNat)).bind fun Ac => (if Ac = true then (some 3) else (some 0))))) else (none)) else (none)) else ((d2 k x1).bind fun Ab => (if Ab.2.2.2.2 = true then (some 1) else ((dV k 2 x0 x1).bind fun Ad => (if Ad = true then (some 2) else (some 0)))))
def di (k : Nat) (a0 : Bool) (a1 : ByteArray) : Option (Int) := if (a1.size : Int) > 1 then (if 0 < (a1.size : Int) then (if (bt a1 0) = 91 then (if 0 ≤ (wrap64 ((a1.size : Int) - 1)) then (if (wrap64 ((a1.size : Int) - 1)) < (a1.size : Int) then (bD k a0 a1 (a1.size : Int) ((bt a1 (wrap64 ((a1.size : Int) - 1))) == 93)) else (none)) else (none)) else (bD k a0 a1 (a1.size : Int) false)) else (none)) else (bD k a0 a1 (a1.size : Int) false)
theorem fK : ∀ k, (∀ y0 y1 y2 y3, LeO (bD k y0 y1 y2 y3) (bD (k + 1) y0 y1 y2 y3))
  | 0 => fun _ _ _ _ r h => by simp [bD] at h
  | k + 1 => by
    have ih0 := fK k
    have m0 := @fJ; have m1 := @eZ; have m2 := @f1; have m3 := @fN
    · intro y0 y1 y2 y3
      unfold bD
      exact xmo
theorem iu : ∀ a0 a1 k, LeO (di k a0 a1) (di (k + 1) a0 a1) := by
  intro a0 a1 k
  have ih0 := fK k
  have m0 := @fJ; have m1 := @eZ; have m2 := @f1; have m3 := @fN
  unfold di
  exact xmo
theorem ij (k : Nat) (a0 : Bool) (a1 : ByteArray) (r : Int) (w : World) (hG : GW w) (h : di k a0 a1 = some r) :
    Calls Tryd.prog 14 #[.bool a0, .string a1] w fun e w' => e = .returned (.int .i64 r) ∧ Below w.heap.size w w' := by
 have hu27 := Tryd.underlying27
 have hu23 := Tryd.underlying23
 have HB := Zz.mk (Below.refl w.heap.size w)
 have H : (if (a1.size : Int) > 1 then (if 0 < (a1.size : Int) then (if (bt a1 0) = 91 then (if 0 ≤ (wrap64 ((a1.size : Int) - 1)) then (if (wrap64 ((a1.size : Int) - 1)) < (a1.size : Int) then (bD k a0 a1 (a1.size : Int) ((bt a1 (wrap64 ((a1.size : Int) - 1))) == 93)) else (none)) else (none)) else (bD k a0 a1 (a1.size : Int) false)) else (none)) else (bD k a0 a1 (a1.size : Int) false)) = some r := h
 clear h
 have AD := Zz.mk H
 clear H
 go_enter Tryd.func14, Tryd.ntmps14
 go_upto_region 2 with (fail)
 go_cut [25] (fun v25 wc => ∃ (kq : Nat) (Ah : Bool), v25 = .bool Ah ∧ Zz (bD kq a0 a1 (a1.size : Int) Ah = some r) ∧ Zz (kq ≤ k) ∧ Zz (Below w.heap.size w wc))
 case first =>
  have H := AD.out
  clear AD
  by_cases c4 : (a1.size : Int) > 1
  ·
   rw [if_pos c4] at H
   have Al := decide_eq_true c4
   have AE : decide (1 < a1.size) = true := decide_eq_true (by omega)
   clear c4
   (first | rw [Al] | (simp only [aC, aI]; rw [Al]) | (rw [AF]; (try simp only [Bool.not_false, Bool.not_true])) | (rw [AG]; (try simp only [Bool.not_false, Bool.not_true])) | skip)
   by_cases c5 : 0 < (a1.size : Int)
   ·
    rw [if_pos c5] at H
    have AY := decide_eq_true c5
    have AZ : decide (0 < a1.size) = true := decide_eq_true (by omega)
    clear c5
    by_cases c7 : (bt a1 0) = 91
    ·
     rw [if_pos c7] at H
     have AH : ((bt a1 0) == 91) = true := beq_iff_eq.mpr c7
     have AI : ((bt a1 0) != 91) = false := bne_eq_false_iff_eq.mpr c7
     clear c7
     obtain ⟨AB, Ay⟩ : ∃ j_ : Int, (wrap64 ((a1.size : Int) - 1)) = j_ := ⟨_, rfl⟩
     first | rw [Ay] at H | simp only [Ay] at H | skip
     have AQ : (IntKind.i64.wrap ((a1.size : Int) - 1)) = AB := (aC _).trans Ay
     by_cases c9 : 0 ≤ (AB)
     ·
      rw [if_pos c9] at H
      have A0 := decide_eq_true c9
      clear c9
      by_cases c10 : (AB) < (a1.size : Int)
      ·
       rw [if_pos c10] at H
       have AR := decide_eq_true c10
       clear c10
       have H' := Zz.mk H
       clear H
       have p6 : 0 ≤ (0 : Int) := (by omega)
       have q6 : 0 < a1.size := (by have : (0 : Int) < (a1.size : Int) := xod; omega)
       have hx6 : ∀ h : 0 < a1.size, ((a1[0]'h).toNat : Int) = bt a1 0 := ax a1 0
       clear p6
       have A1 : (0 < (a1.size : Int)) = True := eq_true (xod)
       replace q6 := eq_true q6
       try (have AJ := q6; simp only [ByteArray.size_extract, Nat.min_self] at AJ)
       have p11 : 0 ≤ ((AB) : Int) := xod
       have q11 : (AB) < (a1.size : Int) := xod
       have hx11 := ax a1 (AB)
       replace p11 := eq_true p11
       replace q11 := eq_true q11
       try (have AK := q11; simp only [ByteArray.size_extract, Nat.min_self] at AK)
       go_wp2
       go_meet
       case rel => exact ⟨_, (((bt a1 (AB)) == 93)), (by first | rfl | (simp; done) | (simp only [← Ay] <;> (first | rfl | simp)) | (simp [*]; done) | (simp [wrap64]; done)), H', ⟨xom⟩, ⟨xbl⟩⟩
      ·
       rw [if_neg c10] at H
       exact absurd H (by simp)
     ·
      rw [if_neg c9] at H
      exact absurd H (by simp)
    ·
     rw [if_neg c7] at H
     have AH : ((bt a1 0) == 91) = false := beq_eq_false_iff_ne.mpr c7
     have AI : ((bt a1 0) != 91) = true := bne_iff_ne.mpr c7
     have H' := Zz.mk H
     clear H
     have p6 : 0 ≤ (0 : Int) := (by omega)
     have q6 : 0 < a1.size := (by have : (0 : Int) < (a1.size : Int) := xod; omega)
     have hx6 : ∀ h : 0 < a1.size, ((a1[0]'h).toNat : Int) = bt a1 0 := ax a1 0
     clear p6
     have A1 : (0 < (a1.size : Int)) = True := eq_true (xod)
     replace q6 := eq_true q6
     try (have AJ := q6; simp only [ByteArray.size_extract, Nat.min_self] at AJ)
     go_wp2
     go_meet
     case rel => exact ⟨_, (false), xrr, H', ⟨xom⟩, ⟨xbl⟩⟩
   ·
    rw [if_neg c5] at H
    exact absurd H (by simp)
  ·
   rw [if_neg c4] at H
   have Al := decide_eq_false c4
   have AE : decide (1 < a1.size) = false := decide_eq_false (by omega)
   clear c4
   (first | rw [Al] | (simp only [aC, aI]; rw [Al]) | (rw [AF]; (try simp only [Bool.not_false, Bool.not_true])) | (rw [AG]; (try simp only [Bool.not_false, Bool.not_true])) | skip)
   have H' := Zz.mk H
   clear H
   go_wp2
   go_meet
   case rel => exact ⟨_, (false), xrr, H', ⟨xom⟩, ⟨xbl⟩⟩
 case rest =>
  clear AD
  obtain ⟨kq, Ah, rfl, HA, HJ2, HB⟩ := hcut
  cases kq with
  | zero => exact absurd HA.out (by simp [bD])
  | succ kj2 =>
   have H := HA.out
   clear HA
   simp only [bD] at H
   by_cases c12 : Ah = true
   ·
    subst c12
    rw [if_pos rfl] at H
    obtain ⟨Ak, Ad⟩ : ∃ j_ : Int, (wrap64 ((a1.size : Int) - 1)) = j_ := ⟨_, rfl⟩
    first | rw [Ad] at H | simp only [Ad] at H | skip
    have AL : (IntKind.i64.wrap ((a1.size : Int) - 1)) = Ak := (aC _).trans Ad
    by_cases c14 : 1 ≤ (Ak)
    ·
     rw [if_pos c14] at H
     have AS := eq_true c14
     have AT := decide_eq_true c14
     clear c14
     by_cases c15 : (Ak) ≤ (a1.size : Int)
     ·
      rw [if_pos c15] at H
      have AU := eq_true c15
      have AV := decide_eq_true c15
      clear c15
      obtain ⟨Ae, Ac⟩ : ∃ j_ : ByteArray, (a1.extract 1 ((Ak) : Int).toNat) = j_ := ⟨_, rfl⟩
      try (have AC := Ac; simp only [Int.toNat_natCast] at AC)
      first | rw [Ac] at H | simp only [Ac] at H | skip
      replace H := Option.bind_eq_some_iff.mp H
      obtain ⟨⟨Am, An, Ao, Ap, Aq, Ar, As, At, AM⟩, A170, H⟩ := H
      try dsimp only at H
      have A17 := Zz.mk A170
      clear A170
      by_cases c18 : AM = true
      ·
       subst c18
       rw [if_pos rfl] at H
       obtain rfl := Option.some.inj H
       go_wp2_with (first | ((with_reducible refine ae (f := 9) rfl ?_); refine bc (some 31) rfl rfl Tryd.func9 (by kernel_rfl) rfl #[.string Ae] rfl (by (try simp only [List.map_toArray, List.map_cons, List.map_nil]); first | done | (simp only [Ac]; rfl) | rfl | (simp only [List.length_drop, List.length_take]; rfl)) ?_; (with_reducible refine (cr kj2 Ae Am An Ao Ap Aq Ar As At true _ ?side1 A17.out).mono ?_); (case side1 => first | (with_reducible exact hG) | exact aJ hG xbl); rintro e w19 ⟨rfl, hb⟩; refine ⟨_, rfl, ?_⟩; replace HB := xst hb; (try clear hb)) | ((with_reducible refine ay (N := 6) rfl ?_); refine xev 6 #[.int .u16 0, .int .u16 0, .int .u16 0, .int .u16 0, .int .u16 0, .int .u16 0, .int .u16 0, .int .u16 0] 27 ?_; intro Ai hg w20 hbox hb; have Aa := Zz.mk (hbox); have Af := xsz hg; have Az := Af; replace HB := xst hb; clear hb hbox hg; obtain ⟨hcz21_0, hcz21_1, hcz21_2, hcz21_3, hcz21_4, hcz21_5, hcz21_6, hcz21_7⟩ := xc8 Aa; have hfz21_0 := xf Aa 0; have hfz21_1 := xf Aa 1; have hfz21_2 := xf Aa 2; have hfz21_3 := xf Aa 3; have hfz21_4 := xf Aa 4; have hfz21_5 := xf Aa 5; have hfz21_6 := xf Aa 6; have hfz21_7 := xf Aa 7))
       go_ret
       exact ⟨by first | rfl | (simp [ap, aq] <;> first | rfl | (simp only [bi, bne, Bool.not_not]; done)) | (simp only [← Ad, ← Ac]; first | rfl | (simp [ap, aq] <;> rfl)) | (simp [*, ap, aq] <;> rfl), xbl⟩
      ·
       replace c18 := Bool.eq_false_iff.mpr c18
       subst c18
       rw [if_neg (show ¬ (false = true) by decide)] at H
       have AW := eq_true (xod : 1 ≤ (Ak))
       have AX := eq_true (xod : (Ak) ≤ (a1.size : Int))
       first | rw [Ac] at H | simp only [Ac] at H | skip
       (try rw [Ac] at A17)
       replace H := Option.bind_eq_some_iff.mp H
       obtain ⟨AN, A240, H⟩ := H
       try dsimp only at H
       have A24 := Zz.mk A240
       clear A240
       by_cases c25 : AN = true
       ·
        subst c25
        rw [if_pos rfl] at H
        obtain rfl := Option.some.inj H
        go_wp2_with (first | ((with_reducible refine ae (f := 9) rfl ?_); refine bc (some 31) rfl rfl Tryd.func9 (by kernel_rfl) rfl #[.string Ae] rfl (by (try simp only [List.map_toArray, List.map_cons, List.map_nil]); first | done | (simp only [Ac]; rfl) | rfl | (simp only [List.length_drop, List.length_take]; rfl)) ?_; (with_reducible refine (cr kj2 Ae Am An Ao Ap Aq Ar As At false _ ?side1 A17.out).mono ?_); (case side1 => first | (with_reducible exact hG) | exact aJ hG xbl); rintro e w26 ⟨rfl, hb⟩; refine ⟨_, rfl, ?_⟩; replace HB := xst hb; (try clear hb)) | ((with_reducible refine ay (N := 6) rfl ?_); refine xev 6 #[.int .u16 0, .int .u16 0, .int .u16 0, .int .u16 0, .int .u16 0, .int .u16 0, .int .u16 0, .int .u16 0] 27 ?_; intro Ai hg w27 hbox hb; have Aa := Zz.mk (hbox); have Af := xsz hg; have Az := Af; replace HB := xst hb; clear hb hbox hg; obtain ⟨hcz28_0, hcz28_1, hcz28_2, hcz28_3, hcz28_4, hcz28_5, hcz28_6, hcz28_7⟩ := xc8 Aa; have hfz28_0 := xf Aa 0; have hfz28_1 := xf Aa 1; have hfz28_2 := xf Aa 2; have hfz28_3 := xf Aa 3; have hfz28_4 := xf Aa 4; have hfz28_5 := xf Aa 5; have hfz28_6 := xf Aa 6; have hfz28_7 := xf Aa 7) | (go_at_call 12; (with_reducible refine (fm kj2 Ae true _ A24.out).mono ?_); rintro e w29 ⟨rfl, hb⟩; replace Aa := xbb (g := Ai) (o := .cells #[.int .u16 Am, .int .u16 An, .int .u16 Ao, .int .u16 Ap, .int .u16 Aq, .int .u16 Ar, .int .u16 As, .int .u16 At] 27 (0, 0)) hb; replace HB := xst hb; (try clear hb)))
        go_ret
        exact ⟨by first | rfl | (simp [ap, aq] <;> first | rfl | (simp only [bi, bne, Bool.not_not]; done)) | (simp only [← Ad, ← Ac, ← Ac]; first | rfl | (simp [ap, aq] <;> rfl)) | (simp [*, ap, aq] <;> rfl), xbl⟩
       ·
        replace c25 := Bool.eq_false_iff.mpr c25
        subst c25
        rw [if_neg (show ¬ (false = true) by decide)] at H
        obtain rfl := Option.some.inj H
        go_wp2_with (first | ((with_reducible refine ae (f := 9) rfl ?_); refine bc (some 31) rfl rfl Tryd.func9 (by kernel_rfl) rfl #[.string Ae] rfl (by (try simp only [List.map_toArray, List.map_cons, List.map_nil]); first | done | (simp only [Ac]; rfl) | rfl | (simp only [List.length_drop, List.length_take]; rfl)) ?_; (with_reducible refine (cr kj2 Ae Am An Ao Ap Aq Ar As At false _ ?side1 A17.out).mono ?_); (case side1 => first | (with_reducible exact hG) | exact aJ hG xbl); rintro e w30 ⟨rfl, hb⟩; refine ⟨_, rfl, ?_⟩; replace HB := xst hb; (try clear hb)) | ((with_reducible refine ay (N := 6) rfl ?_); refine xev 6 #[.int .u16 0, .int .u16 0, .int .u16 0, .int .u16 0, .int .u16 0, .int .u16 0, .int .u16 0, .int .u16 0] 27 ?_; intro Ai hg w31 hbox hb; have Aa := Zz.mk (hbox); have Af := xsz hg; have Az := Af; replace HB := xst hb; clear hb hbox hg; obtain ⟨hcz32_0, hcz32_1, hcz32_2, hcz32_3, hcz32_4, hcz32_5, hcz32_6, hcz32_7⟩ := xc8 Aa; have hfz32_0 := xf Aa 0; have hfz32_1 := xf Aa 1; have hfz32_2 := xf Aa 2; have hfz32_3 := xf Aa 3; have hfz32_4 := xf Aa 4; have hfz32_5 := xf Aa 5; have hfz32_6 := xf Aa 6; have hfz32_7 := xf Aa 7) | (go_at_call 12; (with_reducible refine (fm kj2 Ae false _ A24.out).mono ?_); rintro e w33 ⟨rfl, hb⟩; replace Aa := xbb (g := Ai) (o := .cells #[.int .u16 Am, .int .u16 An, .int .u16 Ao, .int .u16 Ap, .int .u16 Aq, .int .u16 Ar, .int .u16 As, .int .u16 At] 27 (0, 0)) hb; replace HB := xst hb; (try clear hb)))
        go_ret
        exact ⟨by first | rfl | (simp [ap, aq] <;> first | rfl | (simp only [bi, bne, Bool.not_not]; done)) | (simp only [← Ad, ← Ac, ← Ac]; first | rfl | (simp [ap, aq] <;> rfl)) | (simp [*, ap, aq] <;> rfl), xbl⟩
     ·
      rw [if_neg c15] at H
      exact absurd H (by simp)
    ·
     rw [if_neg c14] at H
     exact absurd H (by simp)
   ·
    replace c12 := Bool.eq_false_iff.mpr c12
    subst c12
    rw [if_neg (show ¬ (false = true) by decide)] at H
    replace H := Option.bind_eq_some_iff.mp H
    obtain ⟨⟨Au, Av, Aw, Ax, AO⟩, A340, H⟩ := H
    try dsimp only at H
    have A34 := Zz.mk A340
    clear A340
    by_cases c35 : AO = true
    ·
     subst c35
     rw [if_pos rfl] at H
     obtain rfl := Option.some.inj H
     go_wp2_with (first | ((with_reducible refine ae (f := 8) rfl ?_); refine xgl 44 Tryd.func8 #[.string a1] ?_; (with_reducible refine (eB kj2 a1 Au Av Aw Ax true _ ?side1 A34.out).mono ?_); (case side1 => first | (with_reducible exact hG) | exact aJ hG xbl); rintro e w36 ⟨rfl, hb⟩; refine ⟨_, rfl, ?_⟩; replace HB := xst hb; (try clear hb)) | ((with_reducible refine ay (N := 8) rfl ?_); refine xev 8 #[.int .u8 0, .int .u8 0, .int .u8 0, .int .u8 0] 23 ?_; intro Aj hg w37 hbox hb; have Ab := Zz.mk (hbox); have Ag := xsz hg; have AA := Ag; replace HB := xst hb; clear hb hbox hg; obtain ⟨hcz38_0, hcz38_1, hcz38_2, hcz38_3⟩ := xc4 Ab; have hfz38_0 := xf Ab 0; have hfz38_1 := xf Ab 1; have hfz38_2 := xf Ab 2; have hfz38_3 := xf Ab 3))
     go_ret
     exact ⟨xre, xbl⟩
    ·
     replace c35 := Bool.eq_false_iff.mpr c35
     subst c35
     rw [if_neg (show ¬ (false = true) by decide)] at H
     replace H := Option.bind_eq_some_iff.mp H
     obtain ⟨AP, A390, H⟩ := H
     try dsimp only at H
     have A39 := Zz.mk A390
     clear A390
     by_cases c40 : AP = true
     ·
      subst c40
      rw [if_pos rfl] at H
      obtain rfl := Option.some.inj H
      go_wp2_with (first | ((with_reducible refine ae (f := 8) rfl ?_); refine xgl 44 Tryd.func8 #[.string a1] ?_; (with_reducible refine (eB kj2 a1 Au Av Aw Ax false _ ?side1 A34.out).mono ?_); (case side1 => first | (with_reducible exact hG) | exact aJ hG xbl); rintro e w41 ⟨rfl, hb⟩; refine ⟨_, rfl, ?_⟩; replace HB := xst hb; (try clear hb)) | ((with_reducible refine ay (N := 8) rfl ?_); refine xev 8 #[.int .u8 0, .int .u8 0, .int .u8 0, .int .u8 0] 23 ?_; intro Aj hg w42 hbox hb; have Ab := Zz.mk (hbox); have Ag := xsz hg; have AA := Ag; replace HB := xst hb; clear hb hbox hg; obtain ⟨hcz43_0, hcz43_1, hcz43_2, hcz43_3⟩ := xc4 Ab; have hfz43_0 := xf Ab 0; have hfz43_1 := xf Ab 1; have hfz43_2 := xf Ab 2; have hfz43_3 := xf Ab 3) | ((with_reducible refine ae (f := 31) rfl ?_); refine xgl 50 Tryd.func31 #[.int .i64 2, .bool a0, .string a1] ?_; (with_reducible refine (fq kj2 2 a0 a1 true _ A39.out).mono ?_); rintro e w44 ⟨rfl, hb⟩; refine ⟨_, rfl, ?_⟩; replace Ab := xbb (g := Aj) (o := .cells #[.int .u8 Au, .int .u8 Av, .int .u8 Aw, .int .u8 Ax] 23 (0, 0)) hb; replace HB := xst hb; (try clear hb)))
      go_ret
      exact ⟨xre, xbl⟩
     ·
      replace c40 := Bool.eq_false_iff.mpr c40
      subst c40
      rw [if_neg (show ¬ (false = true) by decide)] at H
      obtain rfl := Option.some.inj H
      go_wp2_with (first | ((with_reducible refine ae (f := 8) rfl ?_); refine xgl 44 Tryd.func8 #[.string a1] ?_; (with_reducible refine (eB kj2 a1 Au Av Aw Ax false _ ?side1 A34.out).mono ?_); (case side1 => first | (with_reducible exact hG) | exact aJ hG xbl); rintro e w45 ⟨rfl, hb⟩; refine ⟨_, rfl, ?_⟩; replace HB := xst hb; (try clear hb)) | ((with_reducible refine ay (N := 8) rfl ?_); refine xev 8 #[.int .u8 0, .int .u8 0, .int .u8 0, .int .u8 0] 23 ?_; intro Aj hg w46 hbox hb; have Ab := Zz.mk (hbox); have Ag := xsz hg; have AA := Ag; replace HB := xst hb; clear hb hbox hg; obtain ⟨hcz47_0, hcz47_1, hcz47_2, hcz47_3⟩ := xc4 Ab; have hfz47_0 := xf Ab 0; have hfz47_1 := xf Ab 1; have hfz47_2 := xf Ab 2; have hfz47_3 := xf Ab 3) | ((with_reducible refine ae (f := 31) rfl ?_); refine xgl 50 Tryd.func31 #[.int .i64 2, .bool a0, .string a1] ?_; (with_reducible refine (fq kj2 2 a0 a1 false _ A39.out).mono ?_); rintro e w48 ⟨rfl, hb⟩; refine ⟨_, rfl, ?_⟩; replace Ab := xbb (g := Aj) (o := .cells #[.int .u8 Au, .int .u8 Av, .int .u8 Aw, .int .u8 Ax] 23 (0, 0)) hb; replace HB := xst hb; (try clear hb)))
      go_ret
      exact ⟨xre, xbl⟩
end Go.Proofs.YticohlbfolnmpaaDoor.X
