/- Texts that the law's proof needs, joined by a program of this session. -/
import Derived.Test.YticohlbfolnmpaaDoorZIpReads1
namespace Go.Proofs.YticohlbfolnmpaaDoor.X
open Go.RowKit Go.Proofs.YticohlbfolnmpaaDoorW.PrintWords Go.Proofs.YticohlbfolnmpaaDoorW.PrintLast Go.Proofs.YticohlbfolnmpaaDoorW.PrintMore
attribute [local go_sem] max2_int min2_int max_two min_two max_three min_three max_four min_four
set_option linter.unusedVariables false
set_option linter.unusedSimpArgs false
mutual
def ip_gap.l0 : Nat → Int → Int → Int → Int → Int → Int → Int → Int → Int → Int → Int → Option (Int × Int)
  | 0, _, _, _, _, _, _, _, _, _, _, _ => none
  | k + 1, x2, x3, x6, x195000, x195001, x195002, x195003, x195004, x195005, x195006, x195007 => if x6 < 8 then (ip_gap.l1 k x2 x3 x6 0 x6 x195000 x195001 x195002 x195003 x195004 x195005 x195006 x195007) else (some (x2, x3))
def ip_gap.l1 : Nat → Int → Int → Int → Int → Int → Int → Int → Int → Int → Int → Int → Int → Int → Option (Int × Int)
  | 0, _, _, _, _, _, _, _, _, _, _, _, _, _ => none
  | k + 1, x2, x3, x4, x5, x6, x195000, x195001, x195002, x195003, x195004, x195005, x195006, x195007 => if (wrap64 (x4 + x5)) < 8 then (if 0 ≤ (wrap64 (x4 + x5)) then (if (wrap64 (x4 + x5)) = 0 then (if x195000 = 0 then (ip_gap.l1 k x2 x3 x4 (wrap64 (x5 + 1)) x6 x195000 x195001 x195002 x195003 x195004 x195005 x195006 x195007) else (if x5 > x3 then (if x5 > 1 then (ip_gap.l0 k x4 x5 (wrap64 (x6 + 1)) x195000 x195001 x195002 x195003 x195004 x195005 x195006 x195007) else (ip_gap.l0 k x2 x3 (wrap64 (x6 + 1)) x195000 x195001 x195002 x195003 x195004 x195005 x195006 x195007)) else (ip_gap.l0 k x2 x3 (wrap64 (x6 + 1)) x195000 x195001 x195002 x195003 x195004 x195005 x195006 x195007))) else (if (wrap64 (x4 + x5)) = 1 then (if x195001 = 0 then (ip_gap.l1 k x2 x3 x4 (wrap64 (x5 + 1)) x6 x195000 x195001 x195002 x195003 x195004 x195005 x195006 x195007) else (if x5 > x3 then (if x5 > 1 then (ip_gap.l0 k x4 x5 (wrap64 (x6 + 1)) x195000 x195001 x195002 x195003 x195004 x195005 x195006 x195007) else (ip_gap.l0 k x2 x3 (wrap64 (x6 + 1)) x195000 x195001 x195002 x195003 x195004 x195005 x195006 x195007)) else (ip_gap.l0 k x2 x3 (wrap64 (x6 + 1)) x195000 x195001 x195002 x195003 x195004 x195005 x195006 x195007))) else (if (wrap64 (x4 + x5)) = 2 then (if x195002 = 0 then (ip_gap.l1 k x2 x3 x4 (wrap64 (x5 + 1)) x6 x195000 x195001 x195002 x195003 x195004 x195005 x195006 x195007) else (if x5 > x3 then (if x5 > 1 then (ip_gap.l0 k x4 x5 (wrap64 (x6 + 1)) x195000 x195001 x195002 x195003 x195004 x195005 x195006 x195007) else (ip_gap.l0 k x2 x3 (wrap64 (x6 + 1)) x195000 x195001 x195002 x195003 x195004 x195005 x195006 x195007)) else (ip_gap.l0 k x2 x3 (wrap64 (x6 + 1)) x195000 x195001 x195002 x195003 x195004 x195005 x195006 x195007))) else (if (wrap64 (x4 + x5)) = 3 then (if x195003 = 0 then (ip_gap.l1 k x2 x3 x4 (wrap64 (x5 + 1)) x6 x195000 x195001 x195002 x195003 x195004 x195005 x195006 x195007) else (if x5 > x3 then (if x5 > 1 then (ip_gap.l0 k x4 x5 (wrap64 (x6 + 1)) x195000 x195001 x195002 x195003 x195004 x195005 x195006 x195007) else (ip_gap.l0 k x2 x3 (wrap64 (x6 + 1)) x195000 x195001 x195002 x195003 x195004 x195005 x195006 x195007)) else (ip_gap.l0 k x2 x3 (wrap64 (x6 + 1)) x195000 x195001 x195002 x195003 x195004 x195005 x195006 x195007))) else (if (wrap64 (x4 + x5)) = 4 then (if x195004 = 0 then (ip_gap.l1 k x2 x3 x4 (wrap64 (x5 + 1)) x6 x195000 x195001 x195002 x195003 x195004 x195005 x195006 x195007) else (if x5 > x3 then (if x5 > 1 then (ip_gap.l0 k x4 x5 (wrap64 (x6 + 1)) x195000 x195001 x195002 x195003 x195004 x195005 x195006 x195007) else (ip_gap.l0 k x2 x3 (wrap64 (x6 + 1)) x195000 x195001 x195002 x195003 x195004 x195005 x195006 x195007)) else (ip_gap.l0 k x2 x3 (wrap64 (x6 + 1)) x195000 x195001 x195002 x195003 x195004 x195005 x195006 x195007))) else (if (wrap64 (x4 + x5)) = 5 then (if x195005 = 0 then (ip_gap.l1 k x2 x3 x4 (wrap64 (x5 + 1)) x6 x195000 x195001 x195002 x195003 x195004 x195005 x195006 x195007) else (if x5 > x3 then (if x5 > 1 then (ip_gap.l0 k x4 x5 (wrap64 (x6 + 1)) x195000 x195001 x195002 x195003 x195004 x195005 x195006 x195007) else (ip_gap.l0 k x2 x3 (wrap64 (x6 + 1)) x195000 x195001 x195002 x195003 x195004 x195005 x195006 x195007)) else (ip_gap.l0 k x2 x3 (wrap64 (x6 + 1)) x195000 x195001 x195002 x195003 x195004 x195005 x195006 x195007))) else (if (wrap64 (x4 + x5)) = 6 then (if x195006 = 0 then (ip_gap.l1 k x2 x3 x4 (wrap64 (x5 + 1)) x6 x195000 x195001 x195002 x195003 x195004 x195005 x195006 x195007) else (if x5 > x3 then (if x5 > 1 then (ip_gap.l0 k x4 x5 (wrap64 (x6 + 1)) x195000 x195001 x195002 x195003 x195004 x195005 x195006 x195007) else (ip_gap.l0 k x2 x3 (wrap64 (x6 + 1)) x195000 x195001 x195002 x195003 x195004 x195005 x195006 x195007)) else (ip_gap.l0 k x2 x3 (wrap64 (x6 + 1)) x195000 x195001 x195002 x195003 x195004 x195005 x195006 x195007))) else (if (wrap64 (x4 + x5)) = 7 then (if x195007 = 0 then (ip_gap.l1 k x2 x3 x4 (wrap64 (x5 + 1)) x6 x195000 x195001 x195002 x195003 x195004 x195005 x195006 x195007) else (if x5 > x3 then (if x5 > 1 then (ip_gap.l0 k x4 x5 (wrap64 (x6 + 1)) x195000 x195001 x195002 x195003 x195004 x195005 x195006 x195007) else (ip_gap.l0 k x2 x3 (wrap64 (x6 + 1)) x195000 x195001 x195002 x195003 x195004 x195005 x195006 x195007)) else (ip_gap.l0 k x2 x3 (wrap64 (x6 + 1)) x195000 x195001 x195002 x195003 x195004 x195005 x195006 x195007))) else (none))))))))) else (none)) else (if x5 > x3 then (if x5 > 1 then (ip_gap.l0 k x4 x5 (wrap64 (x6 + 1)) x195000 x195001 x195002 x195003 x195004 x195005 x195006 x195007) else (ip_gap.l0 k x2 x3 (wrap64 (x6 + 1)) x195000 x195001 x195002 x195003 x195004 x195005 x195006 x195007)) else (ip_gap.l0 k x2 x3 (wrap64 (x6 + 1)) x195000 x195001 x195002 x195003 x195004 x195005 x195006 x195007))
end
def ip_gap.f (k : Nat) (a0_0 : Int) (a0_1 : Int) (a0_2 : Int) (a0_3 : Int) (a0_4 : Int) (a0_5 : Int) (a0_6 : Int) (a0_7 : Int) : Option (Int × Int) := ip_gap.l0 k 0 0 0 a0_0 a0_1 a0_2 a0_3 a0_4 a0_5 a0_6 a0_7
theorem ip_gap.mono_l : ∀ k, (∀ y0 y1 y2 y3 y4 y5 y6 y7 y8 y9 y10, LeO (ip_gap.l0 k y0 y1 y2 y3 y4 y5 y6 y7 y8 y9 y10) (ip_gap.l0 (k + 1) y0 y1 y2 y3 y4 y5 y6 y7 y8 y9 y10)) ∧ (∀ y0 y1 y2 y3 y4 y5 y6 y7 y8 y9 y10 y11 y12, LeO (ip_gap.l1 k y0 y1 y2 y3 y4 y5 y6 y7 y8 y9 y10 y11 y12) (ip_gap.l1 (k + 1) y0 y1 y2 y3 y4 y5 y6 y7 y8 y9 y10 y11 y12))
  | 0 => ⟨fun _ _ _ _ _ _ _ _ _ _ _ r h => by simp [ip_gap.l0] at h, fun _ _ _ _ _ _ _ _ _ _ _ _ _ r h => by simp [ip_gap.l1] at h⟩
  | k + 1 => by
    obtain ⟨ih0, ih1⟩ := ip_gap.mono_l k
    refine ⟨?_, ?_⟩
    · intro y0 y1 y2 y3 y4 y5 y6 y7 y8 y9 y10
      unfold ip_gap.l0
      exact xmo
    · intro y0 y1 y2 y3 y4 y5 y6 y7 y8 y9 y10 y11 y12
      unfold ip_gap.l1
      exact xmo
theorem ip_gap.mono : ∀ a0 a1 a2 a3 a4 a5 a6 a7 k, LeO (ip_gap.f k a0 a1 a2 a3 a4 a5 a6 a7) (ip_gap.f (k + 1) a0 a1 a2 a3 a4 a5 a6 a7) := by
  intro a0 a1 a2 a3 a4 a5 a6 a7 k
  obtain ⟨ih0, ih1⟩ := ip_gap.mono_l k
  unfold ip_gap.f
  exact xmo
set_option maxHeartbeats 8000000 in
set_option maxRecDepth 100000 in
theorem ip_gap.calls (k : Nat) (a0_0 : Int) (a0_1 : Int) (a0_2 : Int) (a0_3 : Int) (a0_4 : Int) (a0_5 : Int) (a0_6 : Int) (a0_7 : Int) (r1 : Int) (r2 : Int) (w : World) (h : ip_gap.f k a0_0 a0_1 a0_2 a0_3 a0_4 a0_5 a0_6 a0_7 = some (r1, r2)) :
    Calls Tryd.prog 33 #[.agg #[.int .u16 a0_0, .int .u16 a0_1, .int .u16 a0_2, .int .u16 a0_3, .int .u16 a0_4, .int .u16 a0_5, .int .u16 a0_6, .int .u16 a0_7]] w fun e w' => e = .returned (.tuple #[.int .i64 r1, .int .i64 r2]) ∧ Below w.heap.size w w' := by
 have hu27 := Tryd.underlying27
 have HB := Aside0.mk (Below.refl w.heap.size w)
 have H : (ip_gap.l0 k 0 0 0 a0_0 a0_1 a0_2 a0_3 a0_4 a0_5 a0_6 a0_7) = some (r1, r2) := h
 clear h
 have H' := Aside0.mk H
 clear H
 go_enter Tryd.func33, Tryd.ntmps33
 go_wp2_with (first | ((with_reducible refine gate_dst (N := 1) rfl ?_); refine xev 1 #[.int .u16 a0_0, .int .u16 a0_1, .int .u16 a0_2, .int .u16 a0_3, .int .u16 a0_4, .int .u16 a0_5, .int .u16 a0_6, .int .u16 a0_7] 27 ?_; intro gb194 hg w2 hbox hb; have BK194 := Aside0.mk (hbox); have GW194 := xsz hg; have GE194 := GW194; replace HB := xst hb; clear hb hbox hg))
 go_loopg [2, 3, 6] k (fun kq v2 v3 v6 w' => ∃ (x2_1 : Int) (x3_1 : Int) (x6_1 : Int), v2 = .int .i64 x2_1 ∧ v3 = .int .i64 x3_1 ∧ v6 = .int .i64 x6_1 ∧ Aside0 (ip_gap.l0 kq x2_1 x3_1 x6_1 a0_0 a0_1 a0_2 a0_3 a0_4 a0_5 a0_6 a0_7 = some (r1, r2)) ∧ Aside0 (kq ≤ k) ∧ Aside0 (w'.heap[gb194]? = some (.cells #[.int .u16 a0_0, .int .u16 a0_1, .int .u16 a0_2, .int .u16 a0_3, .int .u16 a0_4, .int .u16 a0_5, .int .u16 a0_6, .int .u16 a0_7] 27 (0, 0))) ∧ Aside0 (Below w.heap.size w w'))
 case atStart => exact ⟨(0), (0), (0), xrr, xrr, xrr, H', ⟨Nat.le_refl _⟩, ⟨xbk⟩, ⟨xbl⟩⟩
 case round =>
  clear H'
  obtain ⟨x2_1, x3_1, x6_1, rfl, rfl, rfl, HA, HK1, BK194, HB⟩ := hrel
  cases gk with
  | zero => exact absurd HA.out (by simp [ip_gap.l0])
  | succ k1 =>
   have H := HA.out
   clear HA
   simp only [ip_gap.l0] at H
   by_cases c3 : x6_1 < 8
   ·
    rw [if_pos c3] at H
    have c3b0 := decide_eq_true c3
    clear c3
    have H' := Aside0.mk H
    clear H
    go_wp2
    go_loopg [5] k1 (fun kq v5 w' => ∃ (x5_2 : Int), v5 = .int .i64 x5_2 ∧ Aside0 (ip_gap.l1 kq x2_1 x3_1 x6_1 x5_2 x6_1 a0_0 a0_1 a0_2 a0_3 a0_4 a0_5 a0_6 a0_7 = some (r1, r2)) ∧ Aside0 (kq ≤ k1) ∧ Aside0 (w'.heap[gb194]? = some (.cells #[.int .u16 a0_0, .int .u16 a0_1, .int .u16 a0_2, .int .u16 a0_3, .int .u16 a0_4, .int .u16 a0_5, .int .u16 a0_6, .int .u16 a0_7] 27 (0, 0))) ∧ Aside0 (Below w.heap.size w w'))
    case atStart => exact ⟨(0), xrr, H', ⟨Nat.le_refl _⟩, ⟨xbk⟩, ⟨xbl⟩⟩
    case round =>
     clear H'
     clear c3b0
     obtain ⟨x5_2, rfl, HA, HK2, BK194, HB⟩ := hrel
     cases gk with
     | zero => exact absurd HA.out (by simp [ip_gap.l1])
     | succ k2 =>
      have H := HA.out
      clear HA
      simp only [ip_gap.l1] at H
      by_cases c4 : (wrap64 (x6_1 + x5_2)) < 8
      ·
       rw [if_pos c4] at H
       have c4b0 := decide_eq_true c4
       clear c4
       obtain ⟨ji5, hji5⟩ : ∃ j_ : Int, (wrap64 (x6_1 + x5_2)) = j_ := ⟨_, rfl⟩
       first | rw [hji5] at H | simp only [hji5] at H | skip
       (try rw [hji5] at c4b0)
       have hji5w : (IntKind.i64.wrap (x6_1 + x5_2)) = ji5 := (i64_w _).trans hji5
       by_cases c6 : 0 ≤ (ji5)
       ·
        rw [if_pos c6] at H
        have c6b0 := decide_eq_true c6
        clear c6
        obtain ⟨ji7, hji7⟩ : ∃ j_ : Int, (ji5) = j_ := ⟨_, rfl⟩
        replace H : (if ji7 = 0 then (if a0_0 = 0 then (ip_gap.l1 k2 x2_1 x3_1 x6_1 (wrap64 (x5_2 + 1)) x6_1 a0_0 a0_1 a0_2 a0_3 a0_4 a0_5 a0_6 a0_7) else (if x5_2 > x3_1 then (if x5_2 > 1 then (ip_gap.l0 k2 x6_1 x5_2 (wrap64 (x6_1 + 1)) a0_0 a0_1 a0_2 a0_3 a0_4 a0_5 a0_6 a0_7) else (ip_gap.l0 k2 x2_1 x3_1 (wrap64 (x6_1 + 1)) a0_0 a0_1 a0_2 a0_3 a0_4 a0_5 a0_6 a0_7)) else (ip_gap.l0 k2 x2_1 x3_1 (wrap64 (x6_1 + 1)) a0_0 a0_1 a0_2 a0_3 a0_4 a0_5 a0_6 a0_7))) else (if (ji7) = 1 then (if a0_1 = 0 then (ip_gap.l1 k2 x2_1 x3_1 x6_1 (wrap64 (x5_2 + 1)) x6_1 a0_0 a0_1 a0_2 a0_3 a0_4 a0_5 a0_6 a0_7) else (if x5_2 > x3_1 then (if x5_2 > 1 then (ip_gap.l0 k2 x6_1 x5_2 (wrap64 (x6_1 + 1)) a0_0 a0_1 a0_2 a0_3 a0_4 a0_5 a0_6 a0_7) else (ip_gap.l0 k2 x2_1 x3_1 (wrap64 (x6_1 + 1)) a0_0 a0_1 a0_2 a0_3 a0_4 a0_5 a0_6 a0_7)) else (ip_gap.l0 k2 x2_1 x3_1 (wrap64 (x6_1 + 1)) a0_0 a0_1 a0_2 a0_3 a0_4 a0_5 a0_6 a0_7))) else (if (ji7) = 2 then (if a0_2 = 0 then (ip_gap.l1 k2 x2_1 x3_1 x6_1 (wrap64 (x5_2 + 1)) x6_1 a0_0 a0_1 a0_2 a0_3 a0_4 a0_5 a0_6 a0_7) else (if x5_2 > x3_1 then (if x5_2 > 1 then (ip_gap.l0 k2 x6_1 x5_2 (wrap64 (x6_1 + 1)) a0_0 a0_1 a0_2 a0_3 a0_4 a0_5 a0_6 a0_7) else (ip_gap.l0 k2 x2_1 x3_1 (wrap64 (x6_1 + 1)) a0_0 a0_1 a0_2 a0_3 a0_4 a0_5 a0_6 a0_7)) else (ip_gap.l0 k2 x2_1 x3_1 (wrap64 (x6_1 + 1)) a0_0 a0_1 a0_2 a0_3 a0_4 a0_5 a0_6 a0_7))) else (if (ji7) = 3 then (if a0_3 = 0 then (ip_gap.l1 k2 x2_1 x3_1 x6_1 (wrap64 (x5_2 + 1)) x6_1 a0_0 a0_1 a0_2 a0_3 a0_4 a0_5 a0_6 a0_7) else (if x5_2 > x3_1 then (if x5_2 > 1 then (ip_gap.l0 k2 x6_1 x5_2 (wrap64 (x6_1 + 1)) a0_0 a0_1 a0_2 a0_3 a0_4 a0_5 a0_6 a0_7) else (ip_gap.l0 k2 x2_1 x3_1 (wrap64 (x6_1 + 1)) a0_0 a0_1 a0_2 a0_3 a0_4 a0_5 a0_6 a0_7)) else (ip_gap.l0 k2 x2_1 x3_1 (wrap64 (x6_1 + 1)) a0_0 a0_1 a0_2 a0_3 a0_4 a0_5 a0_6 a0_7))) else (if (ji7) = 4 then (if a0_4 = 0 then (ip_gap.l1 k2 x2_1 x3_1 x6_1 (wrap64 (x5_2 + 1)) x6_1 a0_0 a0_1 a0_2 a0_3 a0_4 a0_5 a0_6 a0_7) else (if x5_2 > x3_1 then (if x5_2 > 1 then (ip_gap.l0 k2 x6_1 x5_2 (wrap64 (x6_1 + 1)) a0_0 a0_1 a0_2 a0_3 a0_4 a0_5 a0_6 a0_7) else (ip_gap.l0 k2 x2_1 x3_1 (wrap64 (x6_1 + 1)) a0_0 a0_1 a0_2 a0_3 a0_4 a0_5 a0_6 a0_7)) else (ip_gap.l0 k2 x2_1 x3_1 (wrap64 (x6_1 + 1)) a0_0 a0_1 a0_2 a0_3 a0_4 a0_5 a0_6 a0_7))) else (if (ji7) = 5 then (if a0_5 = 0 then (ip_gap.l1 k2 x2_1 x3_1 x6_1 (wrap64 (x5_2 + 1)) x6_1 a0_0 a0_1 a0_2 a0_3 a0_4 a0_5 a0_6 a0_7) else (if x5_2 > x3_1 then (if x5_2 > 1 then (ip_gap.l0 k2 x6_1 x5_2 (wrap64 (x6_1 + 1)) a0_0 a0_1 a0_2 a0_3 a0_4 a0_5 a0_6 a0_7) else (ip_gap.l0 k2 x2_1 x3_1 (wrap64 (x6_1 + 1)) a0_0 a0_1 a0_2 a0_3 a0_4 a0_5 a0_6 a0_7)) else (ip_gap.l0 k2 x2_1 x3_1 (wrap64 (x6_1 + 1)) a0_0 a0_1 a0_2 a0_3 a0_4 a0_5 a0_6 a0_7))) else (if (ji7) = 6 then (if a0_6 = 0 then (ip_gap.l1 k2 x2_1 x3_1 x6_1 (wrap64 (x5_2 + 1)) x6_1 a0_0 a0_1 a0_2 a0_3 a0_4 a0_5 a0_6 a0_7) else (if x5_2 > x3_1 then (if x5_2 > 1 then (ip_gap.l0 k2 x6_1 x5_2 (wrap64 (x6_1 + 1)) a0_0 a0_1 a0_2 a0_3 a0_4 a0_5 a0_6 a0_7) else (ip_gap.l0 k2 x2_1 x3_1 (wrap64 (x6_1 + 1)) a0_0 a0_1 a0_2 a0_3 a0_4 a0_5 a0_6 a0_7)) else (ip_gap.l0 k2 x2_1 x3_1 (wrap64 (x6_1 + 1)) a0_0 a0_1 a0_2 a0_3 a0_4 a0_5 a0_6 a0_7))) else (if (ji7) = 7 then (if a0_7 = 0 then (ip_gap.l1 k2 x2_1 x3_1 x6_1 (wrap64 (x5_2 + 1)) x6_1 a0_0 a0_1 a0_2 a0_3 a0_4 a0_5 a0_6 a0_7) else (if x5_2 > x3_1 then (if x5_2 > 1 then (ip_gap.l0 k2 x6_1 x5_2 (wrap64 (x6_1 + 1)) a0_0 a0_1 a0_2 a0_3 a0_4 a0_5 a0_6 a0_7) else (ip_gap.l0 k2 x2_1 x3_1 (wrap64 (x6_1 + 1)) a0_0 a0_1 a0_2 a0_3 a0_4 a0_5 a0_6 a0_7)) else (ip_gap.l0 k2 x2_1 x3_1 (wrap64 (x6_1 + 1)) a0_0 a0_1 a0_2 a0_3 a0_4 a0_5 a0_6 a0_7))) else (none))))))))) = some (r1, r2) := by first | (rw [hji7] at H; exact H) | (simp only [hji7] at H ⊢; exact H)
        by_cases c8 : ji7 = 0
        ·
         subst c8
         rw [if_pos rfl] at H
         by_cases c9 : a0_0 = 0
         ·
          rw [if_pos c9] at H
          have c9b0 : (a0_0 == 0) = true := beq_iff_eq.mpr c9
          have c9b1 : (a0_0 != 0) = false := bne_eq_false_iff_eq.mpr c9
          clear c9
          have H' := Aside0.mk H
          clear H
          obtain ⟨hcz10_0, hcz10_1, hcz10_2, hcz10_3, hcz10_4, hcz10_5, hcz10_6, hcz10_7⟩ := xc8 BK194
          have hfz10_0 := xf BK194 0
          have hfz10_1 := xf BK194 1
          have hfz10_2 := xf BK194 2
          have hfz10_3 := xf BK194 3
          have hfz10_4 := xf BK194 4
          have hfz10_5 := xf BK194 5
          have hfz10_6 := xf BK194 6
          have hfz10_7 := xf BK194 7
          go_wp2
          first | go_roundg k2 | (simp only [← hji5]; go_roundg k2)
          case measure => have := HK1.out; have := HK2.out; omega
          case rel => exact ⟨(wrap64 (x5_2 + 1)), xrr, H', ⟨by have := HK1.out; have := HK2.out; omega⟩, ⟨xbk⟩, ⟨xbl⟩⟩
         ·
          rw [if_neg c9] at H
          have c9b0 : (a0_0 == 0) = false := beq_eq_false_iff_ne.mpr c9
          have c9b1 : (a0_0 != 0) = true := bne_iff_ne.mpr c9
          by_cases c11 : x5_2 > x3_1
          ·
           rw [if_pos c11] at H
           have c11b0 := decide_eq_true c11
           clear c11
           by_cases c12 : x5_2 > 1
           ·
            rw [if_pos c12] at H
            have c12b0 := decide_eq_true c12
            clear c12
            have H' := Aside0.mk H
            clear H
            obtain ⟨hcz13_0, hcz13_1, hcz13_2, hcz13_3, hcz13_4, hcz13_5, hcz13_6, hcz13_7⟩ := xc8 BK194
            have hfz13_0 := xf BK194 0
            have hfz13_1 := xf BK194 1
            have hfz13_2 := xf BK194 2
            have hfz13_3 := xf BK194 3
            have hfz13_4 := xf BK194 4
            have hfz13_5 := xf BK194 5
            have hfz13_6 := xf BK194 6
            have hfz13_7 := xf BK194 7
            go_wp2
            first | go_roundg k2 | (simp only [← hji5]; go_roundg k2)
            case measure => have := HK1.out; have := HK2.out; omega
            case rel => exact ⟨(x6_1), (x5_2), (wrap64 (x6_1 + 1)), xrr, xrr, xrr, H', ⟨by have := HK1.out; have := HK2.out; omega⟩, ⟨xbk⟩, ⟨xbl⟩⟩
           ·
            rw [if_neg c12] at H
            have c12b0 := decide_eq_false c12
            clear c12
            have H' := Aside0.mk H
            clear H
            obtain ⟨hcz14_0, hcz14_1, hcz14_2, hcz14_3, hcz14_4, hcz14_5, hcz14_6, hcz14_7⟩ := xc8 BK194
            have hfz14_0 := xf BK194 0
            have hfz14_1 := xf BK194 1
            have hfz14_2 := xf BK194 2
            have hfz14_3 := xf BK194 3
            have hfz14_4 := xf BK194 4
            have hfz14_5 := xf BK194 5
            have hfz14_6 := xf BK194 6
            have hfz14_7 := xf BK194 7
            go_wp2
            first | go_roundg k2 | (simp only [← hji5]; go_roundg k2)
            case measure => have := HK1.out; have := HK2.out; omega
            case rel => exact ⟨(x2_1), (x3_1), (wrap64 (x6_1 + 1)), xrr, xrr, xrr, H', ⟨by have := HK1.out; have := HK2.out; omega⟩, ⟨xbk⟩, ⟨xbl⟩⟩
          ·
           rw [if_neg c11] at H
           have c11b0 := decide_eq_false c11
           clear c11
           have H' := Aside0.mk H
           clear H
           obtain ⟨hcz15_0, hcz15_1, hcz15_2, hcz15_3, hcz15_4, hcz15_5, hcz15_6, hcz15_7⟩ := xc8 BK194
           have hfz15_0 := xf BK194 0
           have hfz15_1 := xf BK194 1
           have hfz15_2 := xf BK194 2
           have hfz15_3 := xf BK194 3
           have hfz15_4 := xf BK194 4
           have hfz15_5 := xf BK194 5
           have hfz15_6 := xf BK194 6
           have hfz15_7 := xf BK194 7
           go_wp2
           first | go_roundg k2 | (simp only [← hji5]; go_roundg k2)
           case measure => have := HK1.out; have := HK2.out; omega
           case rel => exact ⟨(x2_1), (x3_1), (wrap64 (x6_1 + 1)), xrr, xrr, xrr, H', ⟨by have := HK1.out; have := HK2.out; omega⟩, ⟨xbk⟩, ⟨xbl⟩⟩
        ·
         rw [if_neg c8] at H
         clear c8
         obtain ⟨ji16, hji16⟩ : ∃ j_ : Int, (ji7) = j_ := ⟨_, rfl⟩
         replace H : (if ji16 = 1 then (if a0_1 = 0 then (ip_gap.l1 k2 x2_1 x3_1 x6_1 (wrap64 (x5_2 + 1)) x6_1 a0_0 a0_1 a0_2 a0_3 a0_4 a0_5 a0_6 a0_7) else (if x5_2 > x3_1 then (if x5_2 > 1 then (ip_gap.l0 k2 x6_1 x5_2 (wrap64 (x6_1 + 1)) a0_0 a0_1 a0_2 a0_3 a0_4 a0_5 a0_6 a0_7) else (ip_gap.l0 k2 x2_1 x3_1 (wrap64 (x6_1 + 1)) a0_0 a0_1 a0_2 a0_3 a0_4 a0_5 a0_6 a0_7)) else (ip_gap.l0 k2 x2_1 x3_1 (wrap64 (x6_1 + 1)) a0_0 a0_1 a0_2 a0_3 a0_4 a0_5 a0_6 a0_7))) else (if (ji16) = 2 then (if a0_2 = 0 then (ip_gap.l1 k2 x2_1 x3_1 x6_1 (wrap64 (x5_2 + 1)) x6_1 a0_0 a0_1 a0_2 a0_3 a0_4 a0_5 a0_6 a0_7) else (if x5_2 > x3_1 then (if x5_2 > 1 then (ip_gap.l0 k2 x6_1 x5_2 (wrap64 (x6_1 + 1)) a0_0 a0_1 a0_2 a0_3 a0_4 a0_5 a0_6 a0_7) else (ip_gap.l0 k2 x2_1 x3_1 (wrap64 (x6_1 + 1)) a0_0 a0_1 a0_2 a0_3 a0_4 a0_5 a0_6 a0_7)) else (ip_gap.l0 k2 x2_1 x3_1 (wrap64 (x6_1 + 1)) a0_0 a0_1 a0_2 a0_3 a0_4 a0_5 a0_6 a0_7))) else (if (ji16) = 3 then (if a0_3 = 0 then (ip_gap.l1 k2 x2_1 x3_1 x6_1 (wrap64 (x5_2 + 1)) x6_1 a0_0 a0_1 a0_2 a0_3 a0_4 a0_5 a0_6 a0_7) else (if x5_2 > x3_1 then (if x5_2 > 1 then (ip_gap.l0 k2 x6_1 x5_2 (wrap64 (x6_1 + 1)) a0_0 a0_1 a0_2 a0_3 a0_4 a0_5 a0_6 a0_7) else (ip_gap.l0 k2 x2_1 x3_1 (wrap64 (x6_1 + 1)) a0_0 a0_1 a0_2 a0_3 a0_4 a0_5 a0_6 a0_7)) else (ip_gap.l0 k2 x2_1 x3_1 (wrap64 (x6_1 + 1)) a0_0 a0_1 a0_2 a0_3 a0_4 a0_5 a0_6 a0_7))) else (if (ji16) = 4 then (if a0_4 = 0 then (ip_gap.l1 k2 x2_1 x3_1 x6_1 (wrap64 (x5_2 + 1)) x6_1 a0_0 a0_1 a0_2 a0_3 a0_4 a0_5 a0_6 a0_7) else (if x5_2 > x3_1 then (if x5_2 > 1 then (ip_gap.l0 k2 x6_1 x5_2 (wrap64 (x6_1 + 1)) a0_0 a0_1 a0_2 a0_3 a0_4 a0_5 a0_6 a0_7) else (ip_gap.l0 k2 x2_1 x3_1 (wrap64 (x6_1 + 1)) a0_0 a0_1 a0_2 a0_3 a0_4 a0_5 a0_6 a0_7)) else (ip_gap.l0 k2 x2_1 x3_1 (wrap64 (x6_1 + 1)) a0_0 a0_1 a0_2 a0_3 a0_4 a0_5 a0_6 a0_7))) else (if (ji16) = 5 then (if a0_5 = 0 then (ip_gap.l1 k2 x2_1 x3_1 x6_1 (wrap64 (x5_2 + 1)) x6_1 a0_0 a0_1 a0_2 a0_3 a0_4 a0_5 a0_6 a0_7) else (if x5_2 > x3_1 then (if x5_2 > 1 then (ip_gap.l0 k2 x6_1 x5_2 (wrap64 (x6_1 + 1)) a0_0 a0_1 a0_2 a0_3 a0_4 a0_5 a0_6 a0_7) else (ip_gap.l0 k2 x2_1 x3_1 (wrap64 (x6_1 + 1)) a0_0 a0_1 a0_2 a0_3 a0_4 a0_5 a0_6 a0_7)) else (ip_gap.l0 k2 x2_1 x3_1 (wrap64 (x6_1 + 1)) a0_0 a0_1 a0_2 a0_3 a0_4 a0_5 a0_6 a0_7))) else (if (ji16) = 6 then (if a0_6 = 0 then (ip_gap.l1 k2 x2_1 x3_1 x6_1 (wrap64 (x5_2 + 1)) x6_1 a0_0 a0_1 a0_2 a0_3 a0_4 a0_5 a0_6 a0_7) else (if x5_2 > x3_1 then (if x5_2 > 1 then (ip_gap.l0 k2 x6_1 x5_2 (wrap64 (x6_1 + 1)) a0_0 a0_1 a0_2 a0_3 a0_4 a0_5 a0_6 a0_7) else (ip_gap.l0 k2 x2_1 x3_1 (wrap64 (x6_1 + 1)) a0_0 a0_1 a0_2 a0_3 a0_4 a0_5 a0_6 a0_7)) else (ip_gap.l0 k2 x2_1 x3_1 (wrap64 (x6_1 + 1)) a0_0 a0_1 a0_2 a0_3 a0_4 a0_5 a0_6 a0_7))) else (if (ji16) = 7 then (if a0_7 = 0 then (ip_gap.l1 k2 x2_1 x3_1 x6_1 (wrap64 (x5_2 + 1)) x6_1 a0_0 a0_1 a0_2 a0_3 a0_4 a0_5 a0_6 a0_7) else (if x5_2 > x3_1 then (if x5_2 > 1 then (ip_gap.l0 k2 x6_1 x5_2 (wrap64 (x6_1 + 1)) a0_0 a0_1 a0_2 a0_3 a0_4 a0_5 a0_6 a0_7) else (ip_gap.l0 k2 x2_1 x3_1 (wrap64 (x6_1 + 1)) a0_0 a0_1 a0_2 a0_3 a0_4 a0_5 a0_6 a0_7)) else (ip_gap.l0 k2 x2_1 x3_1 (wrap64 (x6_1 + 1)) a0_0 a0_1 a0_2 a0_3 a0_4 a0_5 a0_6 a0_7))) else (none)))))))) = some (r1, r2) := by first | (rw [hji16] at H; exact H) | (simp only [hji16] at H ⊢; exact H)
         by_cases c17 : ji16 = 1
         ·
          subst c17
          rw [if_pos rfl] at H
          by_cases c18 : a0_1 = 0
          ·
           rw [if_pos c18] at H
           have c18b0 : (a0_1 == 0) = true := beq_iff_eq.mpr c18
           have c18b1 : (a0_1 != 0) = false := bne_eq_false_iff_eq.mpr c18
           clear c18
           have H' := Aside0.mk H
           clear H
           obtain ⟨hcz19_0, hcz19_1, hcz19_2, hcz19_3, hcz19_4, hcz19_5, hcz19_6, hcz19_7⟩ := xc8 BK194
           have hfz19_0 := xf BK194 0
           have hfz19_1 := xf BK194 1
           have hfz19_2 := xf BK194 2
           have hfz19_3 := xf BK194 3
           have hfz19_4 := xf BK194 4
           have hfz19_5 := xf BK194 5
           have hfz19_6 := xf BK194 6
           have hfz19_7 := xf BK194 7
           go_wp2
           first | go_roundg k2 | (simp only [← hji5, ← hji7]; go_roundg k2)
           case measure => have := HK1.out; have := HK2.out; omega
           case rel => exact ⟨(wrap64 (x5_2 + 1)), xrr, H', ⟨by have := HK1.out; have := HK2.out; omega⟩, ⟨xbk⟩, ⟨xbl⟩⟩
          ·
           rw [if_neg c18] at H
           have c18b0 : (a0_1 == 0) = false := beq_eq_false_iff_ne.mpr c18
           have c18b1 : (a0_1 != 0) = true := bne_iff_ne.mpr c18
           by_cases c20 : x5_2 > x3_1
           ·
            rw [if_pos c20] at H
            have c20b0 := decide_eq_true c20
            clear c20
            by_cases c21 : x5_2 > 1
            ·
             rw [if_pos c21] at H
             have c21b0 := decide_eq_true c21
             clear c21
             have H' := Aside0.mk H
             clear H
             obtain ⟨hcz22_0, hcz22_1, hcz22_2, hcz22_3, hcz22_4, hcz22_5, hcz22_6, hcz22_7⟩ := xc8 BK194
             have hfz22_0 := xf BK194 0
             have hfz22_1 := xf BK194 1
             have hfz22_2 := xf BK194 2
             have hfz22_3 := xf BK194 3
             have hfz22_4 := xf BK194 4
             have hfz22_5 := xf BK194 5
             have hfz22_6 := xf BK194 6
             have hfz22_7 := xf BK194 7
             go_wp2
             first | go_roundg k2 | (simp only [← hji5, ← hji7]; go_roundg k2)
             case measure => have := HK1.out; have := HK2.out; omega
             case rel => exact ⟨(x6_1), (x5_2), (wrap64 (x6_1 + 1)), xrr, xrr, xrr, H', ⟨by have := HK1.out; have := HK2.out; omega⟩, ⟨xbk⟩, ⟨xbl⟩⟩
            ·
             rw [if_neg c21] at H
             have c21b0 := decide_eq_false c21
             clear c21
             have H' := Aside0.mk H
             clear H
             obtain ⟨hcz23_0, hcz23_1, hcz23_2, hcz23_3, hcz23_4, hcz23_5, hcz23_6, hcz23_7⟩ := xc8 BK194
             have hfz23_0 := xf BK194 0
             have hfz23_1 := xf BK194 1
             have hfz23_2 := xf BK194 2
             have hfz23_3 := xf BK194 3
             have hfz23_4 := xf BK194 4
             have hfz23_5 := xf BK194 5
             have hfz23_6 := xf BK194 6
             have hfz23_7 := xf BK194 7
             go_wp2
             first | go_roundg k2 | (simp only [← hji5, ← hji7]; go_roundg k2)
             case measure => have := HK1.out; have := HK2.out; omega
             case rel => exact ⟨(x2_1), (x3_1), (wrap64 (x6_1 + 1)), xrr, xrr, xrr, H', ⟨by have := HK1.out; have := HK2.out; omega⟩, ⟨xbk⟩, ⟨xbl⟩⟩
           ·
            rw [if_neg c20] at H
            have c20b0 := decide_eq_false c20
            clear c20
            have H' := Aside0.mk H
            clear H
            obtain ⟨hcz24_0, hcz24_1, hcz24_2, hcz24_3, hcz24_4, hcz24_5, hcz24_6, hcz24_7⟩ := xc8 BK194
            have hfz24_0 := xf BK194 0
            have hfz24_1 := xf BK194 1
            have hfz24_2 := xf BK194 2
            have hfz24_3 := xf BK194 3
            have hfz24_4 := xf BK194 4
            have hfz24_5 := xf BK194 5
            have hfz24_6 := xf BK194 6
            have hfz24_7 := xf BK194 7
            go_wp2
            first | go_roundg k2 | (simp only [← hji5, ← hji7]; go_roundg k2)
            case measure => have := HK1.out; have := HK2.out; omega
            case rel => exact ⟨(x2_1), (x3_1), (wrap64 (x6_1 + 1)), xrr, xrr, xrr, H', ⟨by have := HK1.out; have := HK2.out; omega⟩, ⟨xbk⟩, ⟨xbl⟩⟩
         ·
          rw [if_neg c17] at H
          clear c17
          obtain ⟨ji25, hji25⟩ : ∃ j_ : Int, (ji16) = j_ := ⟨_, rfl⟩
          replace H : (if ji25 = 2 then (if a0_2 = 0 then (ip_gap.l1 k2 x2_1 x3_1 x6_1 (wrap64 (x5_2 + 1)) x6_1 a0_0 a0_1 a0_2 a0_3 a0_4 a0_5 a0_6 a0_7) else (if x5_2 > x3_1 then (if x5_2 > 1 then (ip_gap.l0 k2 x6_1 x5_2 (wrap64 (x6_1 + 1)) a0_0 a0_1 a0_2 a0_3 a0_4 a0_5 a0_6 a0_7) else (ip_gap.l0 k2 x2_1 x3_1 (wrap64 (x6_1 + 1)) a0_0 a0_1 a0_2 a0_3 a0_4 a0_5 a0_6 a0_7)) else (ip_gap.l0 k2 x2_1 x3_1 (wrap64 (x6_1 + 1)) a0_0 a0_1 a0_2 a0_3 a0_4 a0_5 a0_6 a0_7))) else (if (ji25) = 3 then (if a0_3 = 0 then (ip_gap.l1 k2 x2_1 x3_1 x6_1 (wrap64 (x5_2 + 1)) x6_1 a0_0 a0_1 a0_2 a0_3 a0_4 a0_5 a0_6 a0_7) else (if x5_2 > x3_1 then (if x5_2 > 1 then (ip_gap.l0 k2 x6_1 x5_2 (wrap64 (x6_1 + 1)) a0_0 a0_1 a0_2 a0_3 a0_4 a0_5 a0_6 a0_7) else (ip_gap.l0 k2 x2_1 x3_1 (wrap64 (x6_1 + 1)) a0_0 a0_1 a0_2 a0_3 a0_4 a0_5 a0_6 a0_7)) else (ip_gap.l0 k2 x2_1 x3_1 (wrap64 (x6_1 + 1)) a0_0 a0_1 a0_2 a0_3 a0_4 a0_5 a0_6 a0_7))) else (if (ji25) = 4 then (if a0_4 = 0 then (ip_gap.l1 k2 x2_1 x3_1 x6_1 (wrap64 (x5_2 + 1)) x6_1 a0_0 a0_1 a0_2 a0_3 a0_4 a0_5 a0_6 a0_7) else (if x5_2 > x3_1 then (if x5_2 > 1 then (ip_gap.l0 k2 x6_1 x5_2 (wrap64 (x6_1 + 1)) a0_0 a0_1 a0_2 a0_3 a0_4 a0_5 a0_6 a0_7) else (ip_gap.l0 k2 x2_1 x3_1 (wrap64 (x6_1 + 1)) a0_0 a0_1 a0_2 a0_3 a0_4 a0_5 a0_6 a0_7)) else (ip_gap.l0 k2 x2_1 x3_1 (wrap64 (x6_1 + 1)) a0_0 a0_1 a0_2 a0_3 a0_4 a0_5 a0_6 a0_7))) else (if (ji25) = 5 then (if a0_5 = 0 then (ip_gap.l1 k2 x2_1 x3_1 x6_1 (wrap64 (x5_2 + 1)) x6_1 a0_0 a0_1 a0_2 a0_3 a0_4 a0_5 a0_6 a0_7) else (if x5_2 > x3_1 then (if x5_2 > 1 then (ip_gap.l0 k2 x6_1 x5_2 (wrap64 (x6_1 + 1)) a0_0 a0_1 a0_2 a0_3 a0_4 a0_5 a0_6 a0_7) else (ip_gap.l0 k2 x2_1 x3_1 (wrap64 (x6_1 + 1)) a0_0 a0_1 a0_2 a0_3 a0_4 a0_5 a0_6 a0_7)) else (ip_gap.l0 k2 x2_1 x3_1 (wrap64 (x6_1 + 1)) a0_0 a0_1 a0_2 a0_3 a0_4 a0_5 a0_6 a0_7))) else (if (ji25) = 6 then (if a0_6 = 0 then (ip_gap.l1 k2 x2_1 x3_1 x6_1 (wrap64 (x5_2 + 1)) x6_1 a0_0 a0_1 a0_2 a0_3 a0_4 a0_5 a0_6 a0_7) else (if x5_2 > x3_1 then (if x5_2 > 1 then (ip_gap.l0 k2 x6_1 x5_2 (wrap64 (x6_1 + 1)) a0_0 a0_1 a0_2 a0_3 a0_4 a0_5 a0_6 a0_7) else (ip_gap.l0 k2 x2_1 x3_1 (wrap64 (x6_1 + 1)) a0_0 a0_1 a0_2 a0_3 a0_4 a0_5 a0_6 a0_7)) else (ip_gap.l0 k2 x2_1 x3_1 (wrap64 (x6_1 + 1)) a0_0 a0_1 a0_2 a0_3 a0_4 a0_5 a0_6 a0_7))) else (if (ji25) = 7 then (if a0_7 = 0 then (ip_gap.l1 k2 x2_1 x3_1 x6_1 (wrap64 (x5_2 + 1)) x6_1 a0_0 a0_1 a0_2 a0_3 a0_4 a0_5 a0_6 a0_7) else (if x5_2 > x3_1 then (if x5_2 > 1 then (ip_gap.l0 k2 x6_1 x5_2 (wrap64 (x6_1 + 1)) a0_0 a0_1 a0_2 a0_3 a0_4 a0_5 a0_6 a0_7) else (ip_gap.l0 k2 x2_1 x3_1 (wrap64 (x6_1 + 1)) a0_0 a0_1 a0_2 a0_3 a0_4 a0_5 a0_6 a0_7)) else (ip_gap.l0 k2 x2_1 x3_1 (wrap64 (x6_1 + 1)) a0_0 a0_1 a0_2 a0_3 a0_4 a0_5 a0_6 a0_7))) else (none))))))) = some (r1, r2) := by first | (rw [hji25] at H; exact H) | (simp only [hji25] at H ⊢; exact H)
          by_cases c26 : ji25 = 2
          ·
           subst c26
           rw [if_pos rfl] at H
           by_cases c27 : a0_2 = 0
           ·
            rw [if_pos c27] at H
            have c27b0 : (a0_2 == 0) = true := beq_iff_eq.mpr c27
            have c27b1 : (a0_2 != 0) = false := bne_eq_false_iff_eq.mpr c27
            clear c27
            have H' := Aside0.mk H
            clear H
            obtain ⟨hcz28_0, hcz28_1, hcz28_2, hcz28_3, hcz28_4, hcz28_5, hcz28_6, hcz28_7⟩ := xc8 BK194
            have hfz28_0 := xf BK194 0
            have hfz28_1 := xf BK194 1
            have hfz28_2 := xf BK194 2
            have hfz28_3 := xf BK194 3
            have hfz28_4 := xf BK194 4
            have hfz28_5 := xf BK194 5
            have hfz28_6 := xf BK194 6
            have hfz28_7 := xf BK194 7
            go_wp2
            first | go_roundg k2 | (simp only [← hji5, ← hji7, ← hji16]; go_roundg k2)
            case measure => have := HK1.out; have := HK2.out; omega
            case rel => exact ⟨(wrap64 (x5_2 + 1)), xrr, H', ⟨by have := HK1.out; have := HK2.out; omega⟩, ⟨xbk⟩, ⟨xbl⟩⟩
           ·
            rw [if_neg c27] at H
            have c27b0 : (a0_2 == 0) = false := beq_eq_false_iff_ne.mpr c27
            have c27b1 : (a0_2 != 0) = true := bne_iff_ne.mpr c27
            by_cases c29 : x5_2 > x3_1
            ·
             rw [if_pos c29] at H
             have c29b0 := decide_eq_true c29
             clear c29
             by_cases c30 : x5_2 > 1
             ·
              rw [if_pos c30] at H
              have c30b0 := decide_eq_true c30
              clear c30
              have H' := Aside0.mk H
              clear H
              obtain ⟨hcz31_0, hcz31_1, hcz31_2, hcz31_3, hcz31_4, hcz31_5, hcz31_6, hcz31_7⟩ := xc8 BK194
              have hfz31_0 := xf BK194 0
              have hfz31_1 := xf BK194 1
              have hfz31_2 := xf BK194 2
              have hfz31_3 := xf BK194 3
              have hfz31_4 := xf BK194 4
              have hfz31_5 := xf BK194 5
              have hfz31_6 := xf BK194 6
              have hfz31_7 := xf BK194 7
              go_wp2
              first | go_roundg k2 | (simp only [← hji5, ← hji7, ← hji16]; go_roundg k2)
              case measure => have := HK1.out; have := HK2.out; omega
              case rel => exact ⟨(x6_1), (x5_2), (wrap64 (x6_1 + 1)), xrr, xrr, xrr, H', ⟨by have := HK1.out; have := HK2.out; omega⟩, ⟨xbk⟩, ⟨xbl⟩⟩
             ·
              rw [if_neg c30] at H
              have c30b0 := decide_eq_false c30
              clear c30
              have H' := Aside0.mk H
              clear H
              obtain ⟨hcz32_0, hcz32_1, hcz32_2, hcz32_3, hcz32_4, hcz32_5, hcz32_6, hcz32_7⟩ := xc8 BK194
              have hfz32_0 := xf BK194 0
              have hfz32_1 := xf BK194 1
              have hfz32_2 := xf BK194 2
              have hfz32_3 := xf BK194 3
              have hfz32_4 := xf BK194 4
              have hfz32_5 := xf BK194 5
              have hfz32_6 := xf BK194 6
              have hfz32_7 := xf BK194 7
              go_wp2
              first | go_roundg k2 | (simp only [← hji5, ← hji7, ← hji16]; go_roundg k2)
              case measure => have := HK1.out; have := HK2.out; omega
              case rel => exact ⟨(x2_1), (x3_1), (wrap64 (x6_1 + 1)), xrr, xrr, xrr, H', ⟨by have := HK1.out; have := HK2.out; omega⟩, ⟨xbk⟩, ⟨xbl⟩⟩
            ·
             rw [if_neg c29] at H
             have c29b0 := decide_eq_false c29
             clear c29
             have H' := Aside0.mk H
             clear H
             obtain ⟨hcz33_0, hcz33_1, hcz33_2, hcz33_3, hcz33_4, hcz33_5, hcz33_6, hcz33_7⟩ := xc8 BK194
             have hfz33_0 := xf BK194 0
             have hfz33_1 := xf BK194 1
             have hfz33_2 := xf BK194 2
             have hfz33_3 := xf BK194 3
             have hfz33_4 := xf BK194 4
             have hfz33_5 := xf BK194 5
             have hfz33_6 := xf BK194 6
             have hfz33_7 := xf BK194 7
             go_wp2
             first | go_roundg k2 | (simp only [← hji5, ← hji7, ← hji16]; go_roundg k2)
             case measure => have := HK1.out; have := HK2.out; omega
             case rel => exact ⟨(x2_1), (x3_1), (wrap64 (x6_1 + 1)), xrr, xrr, xrr, H', ⟨by have := HK1.out; have := HK2.out; omega⟩, ⟨xbk⟩, ⟨xbl⟩⟩
          ·
           rw [if_neg c26] at H
           clear c26
           obtain ⟨ji34, hji34⟩ : ∃ j_ : Int, (ji25) = j_ := ⟨_, rfl⟩
           replace H : (if ji34 = 3 then (if a0_3 = 0 then (ip_gap.l1 k2 x2_1 x3_1 x6_1 (wrap64 (x5_2 + 1)) x6_1 a0_0 a0_1 a0_2 a0_3 a0_4 a0_5 a0_6 a0_7) else (if x5_2 > x3_1 then (if x5_2 > 1 then (ip_gap.l0 k2 x6_1 x5_2 (wrap64 (x6_1 + 1)) a0_0 a0_1 a0_2 a0_3 a0_4 a0_5 a0_6 a0_7) else (ip_gap.l0 k2 x2_1 x3_1 (wrap64 (x6_1 + 1)) a0_0 a0_1 a0_2 a0_3 a0_4 a0_5 a0_6 a0_7)) else (ip_gap.l0 k2 x2_1 x3_1 (wrap64 (x6_1 + 1)) a0_0 a0_1 a0_2 a0_3 a0_4 a0_5 a0_6 a0_7))) else (if (ji34) = 4 then (if a0_4 = 0 then (ip_gap.l1 k2 x2_1 x3_1 x6_1 (wrap64 (x5_2 + 1)) x6_1 a0_0 a0_1 a0_2 a0_3 a0_4 a0_5 a0_6 a0_7) else (if x5_2 > x3_1 then (if x5_2 > 1 then (ip_gap.l0 k2 x6_1 x5_2 (wrap64 (x6_1 + 1)) a0_0 a0_1 a0_2 a0_3 a0_4 a0_5 a0_6 a0_7) else (ip_gap.l0 k2 x2_1 x3_1 (wrap64 (x6_1 + 1)) a0_0 a0_1 a0_2 a0_3 a0_4 a0_5 a0_6 a0_7)) else (ip_gap.l0 k2 x2_1 x3_1 (wrap64 (x6_1 + 1)) a0_0 a0_1 a0_2 a0_3 a0_4 a0_5 a0_6 a0_7))) else (if (ji34) = 5 then (if a0_5 = 0 then (ip_gap.l1 k2 x2_1 x3_1 x6_1 (wrap64 (x5_2 + 1)) x6_1 a0_0 a0_1 a0_2 a0_3 a0_4 a0_5 a0_6 a0_7) else (if x5_2 > x3_1 then (if x5_2 > 1 then (ip_gap.l0 k2 x6_1 x5_2 (wrap64 (x6_1 + 1)) a0_0 a0_1 a0_2 a0_3 a0_4 a0_5 a0_6 a0_7) else (ip_gap.l0 k2 x2_1 x3_1 (wrap64 (x6_1 + 1)) a0_0 a0_1 a0_2 a0_3 a0_4 a0_5 a0_6 a0_7)) else (ip_gap.l0 k2 x2_1 x3_1 (wrap64 (x6_1 + 1)) a0_0 a0_1 a0_2 a0_3 a0_4 a0_5 a0_6 a0_7))) else (if (ji34) = 6 then (if a0_6 = 0 then (ip_gap.l1 k2 x2_1 x3_1 x6_1 (wrap64 (x5_2 + 1)) x6_1 a0_0 a0_1 a0_2 a0_3 a0_4 a0_5 a0_6 a0_7) else (if x5_2 > x3_1 then (if x5_2 > 1 then (ip_gap.l0 k2 x6_1 x5_2 (wrap64 (x6_1 + 1)) a0_0 a0_1 a0_2 a0_3 a0_4 a0_5 a0_6 a0_7) else (ip_gap.l0 k2 x2_1 x3_1 (wrap64 (x6_1 + 1)) a0_0 a0_1 a0_2 a0_3 a0_4 a0_5 a0_6 a0_7)) else (ip_gap.l0 k2 x2_1 x3_1 (wrap64 (x6_1 + 1)) a0_0 a0_1 a0_2 a0_3 a0_4 a0_5 a0_6 a0_7))) else (if (ji34) = 7 then (if a0_7 = 0 then (ip_gap.l1 k2 x2_1 x3_1 x6_1 (wrap64 (x5_2 + 1)) x6_1 a0_0 a0_1 a0_2 a0_3 a0_4 a0_5 a0_6 a0_7) else (if x5_2 > x3_1 then (if x5_2 > 1 then (ip_gap.l0 k2 x6_1 x5_2 (wrap64 (x6_1 + 1)) a0_0 a0_1 a0_2 a0_3 a0_4 a0_5 a0_6 a0_7) else (ip_gap.l0 k2 x2_1 x3_1 (wrap64 (x6_1 + 1)) a0_0 a0_1 a0_2 a0_3 a0_4 a0_5 a0_6 a0_7)) else (ip_gap.l0 k2 x2_1 x3_1 (wrap64 (x6_1 + 1)) a0_0 a0_1 a0_2 a0_3 a0_4 a0_5 a0_6 a0_7))) else (none)))))) = some (r1, r2) := by first | (rw [hji34] at H; exact H) | (simp only [hji34] at H ⊢; exact H)
           by_cases c35 : ji34 = 3
           ·
            subst c35
            rw [if_pos rfl] at H
            by_cases c36 : a0_3 = 0
            ·
             rw [if_pos c36] at H
             have c36b0 : (a0_3 == 0) = true := beq_iff_eq.mpr c36
             have c36b1 : (a0_3 != 0) = false := bne_eq_false_iff_eq.mpr c36
             clear c36
             have H' := Aside0.mk H
             clear H
             obtain ⟨hcz37_0, hcz37_1, hcz37_2, hcz37_3, hcz37_4, hcz37_5, hcz37_6, hcz37_7⟩ := xc8 BK194
             have hfz37_0 := xf BK194 0
             have hfz37_1 := xf BK194 1
             have hfz37_2 := xf BK194 2
             have hfz37_3 := xf BK194 3
             have hfz37_4 := xf BK194 4
             have hfz37_5 := xf BK194 5
             have hfz37_6 := xf BK194 6
             have hfz37_7 := xf BK194 7
             go_wp2
             first | go_roundg k2 | (simp only [← hji5, ← hji7, ← hji16, ← hji25]; go_roundg k2)
             case measure => have := HK1.out; have := HK2.out; omega
             case rel => exact ⟨(wrap64 (x5_2 + 1)), xrr, H', ⟨by have := HK1.out; have := HK2.out; omega⟩, ⟨xbk⟩, ⟨xbl⟩⟩
            ·
             rw [if_neg c36] at H
             have c36b0 : (a0_3 == 0) = false := beq_eq_false_iff_ne.mpr c36
             have c36b1 : (a0_3 != 0) = true := bne_iff_ne.mpr c36
             by_cases c38 : x5_2 > x3_1
             ·
              rw [if_pos c38] at H
              have c38b0 := decide_eq_true c38
              clear c38
              by_cases c39 : x5_2 > 1
              ·
               rw [if_pos c39] at H
               have c39b0 := decide_eq_true c39
               clear c39
               have H' := Aside0.mk H
               clear H
               obtain ⟨hcz40_0, hcz40_1, hcz40_2, hcz40_3, hcz40_4, hcz40_5, hcz40_6, hcz40_7⟩ := xc8 BK194
               have hfz40_0 := xf BK194 0
               have hfz40_1 := xf BK194 1
               have hfz40_2 := xf BK194 2
               have hfz40_3 := xf BK194 3
               have hfz40_4 := xf BK194 4
               have hfz40_5 := xf BK194 5
               have hfz40_6 := xf BK194 6
               have hfz40_7 := xf BK194 7
               go_wp2
               first | go_roundg k2 | (simp only [← hji5, ← hji7, ← hji16, ← hji25]; go_roundg k2)
               case measure => have := HK1.out; have := HK2.out; omega
               case rel => exact ⟨(x6_1), (x5_2), (wrap64 (x6_1 + 1)), xrr, xrr, xrr, H', ⟨by have := HK1.out; have := HK2.out; omega⟩, ⟨xbk⟩, ⟨xbl⟩⟩
              ·
               rw [if_neg c39] at H
               have c39b0 := decide_eq_false c39
               clear c39
               have H' := Aside0.mk H
               clear H
               obtain ⟨hcz41_0, hcz41_1, hcz41_2, hcz41_3, hcz41_4, hcz41_5, hcz41_6, hcz41_7⟩ := xc8 BK194
               have hfz41_0 := xf BK194 0
               have hfz41_1 := xf BK194 1
               have hfz41_2 := xf BK194 2
               have hfz41_3 := xf BK194 3
               have hfz41_4 := xf BK194 4
               have hfz41_5 := xf BK194 5
               have hfz41_6 := xf BK194 6
               have hfz41_7 := xf BK194 7
               go_wp2
               first | go_roundg k2 | (simp only [← hji5, ← hji7, ← hji16, ← hji25]; go_roundg k2)
               case measure => have := HK1.out; have := HK2.out; omega
               case rel => exact ⟨(x2_1), (x3_1), (wrap64 (x6_1 + 1)), xrr, xrr, xrr, H', ⟨by have := HK1.out; have := HK2.out; omega⟩, ⟨xbk⟩, ⟨xbl⟩⟩
             ·
              rw [if_neg c38] at H
              have c38b0 := decide_eq_false c38
              clear c38
              have H' := Aside0.mk H
              clear H
              obtain ⟨hcz42_0, hcz42_1, hcz42_2, hcz42_3, hcz42_4, hcz42_5, hcz42_6, hcz42_7⟩ := xc8 BK194
              have hfz42_0 := xf BK194 0
              have hfz42_1 := xf BK194 1
              have hfz42_2 := xf BK194 2
              have hfz42_3 := xf BK194 3
              have hfz42_4 := xf BK194 4
              have hfz42_5 := xf BK194 5
              have hfz42_6 := xf BK194 6
              have hfz42_7 := xf BK194 7
              go_wp2
              first | go_roundg k2 | (simp only [← hji5, ← hji7, ← hji16, ← hji25]; go_roundg k2)
              case measure => have := HK1.out; have := HK2.out; omega
              case rel => exact ⟨(x2_1), (x3_1), (wrap64 (x6_1 + 1)), xrr, xrr, xrr, H', ⟨by have := HK1.out; have := HK2.out; omega⟩, ⟨xbk⟩, ⟨xbl⟩⟩
           ·
            rw [if_neg c35] at H
            clear c35
            obtain ⟨ji43, hji43⟩ : ∃ j_ : Int, (ji34) = j_ := ⟨_, rfl⟩
            replace H : (if ji43 = 4 then (if a0_4 = 0 then (ip_gap.l1 k2 x2_1 x3_1 x6_1 (wrap64 (x5_2 + 1)) x6_1 a0_0 a0_1 a0_2 a0_3 a0_4 a0_5 a0_6 a0_7) else (if x5_2 > x3_1 then (if x5_2 > 1 then (ip_gap.l0 k2 x6_1 x5_2 (wrap64 (x6_1 + 1)) a0_0 a0_1 a0_2 a0_3 a0_4 a0_5 a0_6 a0_7) else (ip_gap.l0 k2 x2_1 x3_1 (wrap64 (x6_1 + 1)) a0_0 a0_1 a0_2 a0_3 a0_4 a0_5 a0_6 a0_7)) else (ip_gap.l0 k2 x2_1 x3_1 (wrap64 (x6_1 + 1)) a0_0 a0_1 a0_2 a0_3 a0_4 a0_5 a0_6 a0_7))) else (if (ji43) = 5 then (if a0_5 = 0 then (ip_gap.l1 k2 x2_1 x3_1 x6_1 (wrap64 (x5_2 + 1)) x6_1 a0_0 a0_1 a0_2 a0_3 a0_4 a0_5 a0_6 a0_7) else (if x5_2 > x3_1 then (if x5_2 > 1 then (ip_gap.l0 k2 x6_1 x5_2 (wrap64 (x6_1 + 1)) a0_0 a0_1 a0_2 a0_3 a0_4 a0_5 a0_6 a0_7) else (ip_gap.l0 k2 x2_1 x3_1 (wrap64 (x6_1 + 1)) a0_0 a0_1 a0_2 a0_3 a0_4 a0_5 a0_6 a0_7)) else (ip_gap.l0 k2 x2_1 x3_1 (wrap64 (x6_1 + 1)) a0_0 a0_1 a0_2 a0_3 a0_4 a0_5 a0_6 a0_7))) else (if (ji43) = 6 then (if a0_6 = 0 then (ip_gap.l1 k2 x2_1 x3_1 x6_1 (wrap64 (x5_2 + 1)) x6_1 a0_0 a0_1 a0_2 a0_3 a0_4 a0_5 a0_6 a0_7) else (if x5_2 > x3_1 then (if x5_2 > 1 then (ip_gap.l0 k2 x6_1 x5_2 (wrap64 (x6_1 + 1)) a0_0 a0_1 a0_2 a0_3 a0_4 a0_5 a0_6 a0_7) else (ip_gap.l0 k2 x2_1 x3_1 (wrap64 (x6_1 + 1)) a0_0 a0_1 a0_2 a0_3 a0_4 a0_5 a0_6 a0_7)) else (ip_gap.l0 k2 x2_1 x3_1 (wrap64 (x6_1 + 1)) a0_0 a0_1 a0_2 a0_3 a0_4 a0_5 a0_6 a0_7))) else (if (ji43) = 7 then (if a0_7 = 0 then (ip_gap.l1 k2 x2_1 x3_1 x6_1 (wrap64 (x5_2 + 1)) x6_1 a0_0 a0_1 a0_2 a0_3 a0_4 a0_5 a0_6 a0_7) else (if x5_2 > x3_1 then (if x5_2 > 1 then (ip_gap.l0 k2 x6_1 x5_2 (wrap64 (x6_1 + 1)) a0_0 a0_1 a0_2 a0_3 a0_4 a0_5 a0_6 a0_7) else (ip_gap.l0 k2 x2_1 x3_1 (wrap64 (x6_1 + 1)) a0_0 a0_1 a0_2 a0_3 a0_4 a0_5 a0_6 a0_7)) else (ip_gap.l0 k2 x2_1 x3_1 (wrap64 (x6_1 + 1)) a0_0 a0_1 a0_2 a0_3 a0_4 a0_5 a0_6 a0_7))) else (none))))) = some (r1, r2) := by first | (rw [hji43] at H; exact H) | (simp only [hji43] at H ⊢; exact H)
            by_cases c44 : ji43 = 4
            ·
             subst c44
             rw [if_pos rfl] at H
             by_cases c45 : a0_4 = 0
             ·
              rw [if_pos c45] at H
              have c45b0 : (a0_4 == 0) = true := beq_iff_eq.mpr c45
              have c45b1 : (a0_4 != 0) = false := bne_eq_false_iff_eq.mpr c45
              clear c45
              have H' := Aside0.mk H
              clear H
              obtain ⟨hcz46_0, hcz46_1, hcz46_2, hcz46_3, hcz46_4, hcz46_5, hcz46_6, hcz46_7⟩ := xc8 BK194
              have hfz46_0 := xf BK194 0
              have hfz46_1 := xf BK194 1
              have hfz46_2 := xf BK194 2
              have hfz46_3 := xf BK194 3
              have hfz46_4 := xf BK194 4
              have hfz46_5 := xf BK194 5
              have hfz46_6 := xf BK194 6
              have hfz46_7 := xf BK194 7
              go_wp2
              first | go_roundg k2 | (simp only [← hji5, ← hji7, ← hji16, ← hji25, ← hji34]; go_roundg k2)
              case measure => have := HK1.out; have := HK2.out; omega
              case rel => exact ⟨(wrap64 (x5_2 + 1)), xrr, H', ⟨by have := HK1.out; have := HK2.out; omega⟩, ⟨xbk⟩, ⟨xbl⟩⟩
             ·
              rw [if_neg c45] at H
              have c45b0 : (a0_4 == 0) = false := beq_eq_false_iff_ne.mpr c45
              have c45b1 : (a0_4 != 0) = true := bne_iff_ne.mpr c45
              by_cases c47 : x5_2 > x3_1
              ·
               rw [if_pos c47] at H
               have c47b0 := decide_eq_true c47
               clear c47
               by_cases c48 : x5_2 > 1
               ·
                rw [if_pos c48] at H
                have c48b0 := decide_eq_true c48
                clear c48
                have H' := Aside0.mk H
                clear H
                obtain ⟨hcz49_0, hcz49_1, hcz49_2, hcz49_3, hcz49_4, hcz49_5, hcz49_6, hcz49_7⟩ := xc8 BK194
                have hfz49_0 := xf BK194 0
                have hfz49_1 := xf BK194 1
                have hfz49_2 := xf BK194 2
                have hfz49_3 := xf BK194 3
                have hfz49_4 := xf BK194 4
                have hfz49_5 := xf BK194 5
                have hfz49_6 := xf BK194 6
                have hfz49_7 := xf BK194 7
                go_wp2
                first | go_roundg k2 | (simp only [← hji5, ← hji7, ← hji16, ← hji25, ← hji34]; go_roundg k2)
                case measure => have := HK1.out; have := HK2.out; omega
                case rel => exact ⟨(x6_1), (x5_2), (wrap64 (x6_1 + 1)), xrr, xrr, xrr, H', ⟨by have := HK1.out; have := HK2.out; omega⟩, ⟨xbk⟩, ⟨xbl⟩⟩
               ·
                rw [if_neg c48] at H
                have c48b0 := decide_eq_false c48
                clear c48
                have H' := Aside0.mk H
                clear H
                obtain ⟨hcz50_0, hcz50_1, hcz50_2, hcz50_3, hcz50_4, hcz50_5, hcz50_6, hcz50_7⟩ := xc8 BK194
                have hfz50_0 := xf BK194 0
                have hfz50_1 := xf BK194 1
                have hfz50_2 := xf BK194 2
                have hfz50_3 := xf BK194 3
                have hfz50_4 := xf BK194 4
                have hfz50_5 := xf BK194 5
                have hfz50_6 := xf BK194 6
                have hfz50_7 := xf BK194 7
                go_wp2
                first | go_roundg k2 | (simp only [← hji5, ← hji7, ← hji16, ← hji25, ← hji34]; go_roundg k2)
                case measure => have := HK1.out; have := HK2.out; omega
                case rel => exact ⟨(x2_1), (x3_1), (wrap64 (x6_1 + 1)), xrr, xrr, xrr, H', ⟨by have := HK1.out; have := HK2.out; omega⟩, ⟨xbk⟩, ⟨xbl⟩⟩
              ·
               rw [if_neg c47] at H
               have c47b0 := decide_eq_false c47
               clear c47
               have H' := Aside0.mk H
               clear H
               obtain ⟨hcz51_0, hcz51_1, hcz51_2, hcz51_3, hcz51_4, hcz51_5, hcz51_6, hcz51_7⟩ := xc8 BK194
               have hfz51_0 := xf BK194 0
               have hfz51_1 := xf BK194 1
               have hfz51_2 := xf BK194 2
               have hfz51_3 := xf BK194 3
               have hfz51_4 := xf BK194 4
               have hfz51_5 := xf BK194 5
               have hfz51_6 := xf BK194 6
               have hfz51_7 := xf BK194 7
               go_wp2
               first | go_roundg k2 | (simp only [← hji5, ← hji7, ← hji16, ← hji25, ← hji34]; go_roundg k2)
               case measure => have := HK1.out; have := HK2.out; omega
               case rel => exact ⟨(x2_1), (x3_1), (wrap64 (x6_1 + 1)), xrr, xrr, xrr, H', ⟨by have := HK1.out; have := HK2.out; omega⟩, ⟨xbk⟩, ⟨xbl⟩⟩
            ·
             rw [if_neg c44] at H
             clear c44
             obtain ⟨ji52, hji52⟩ : ∃ j_ : Int, (ji43) = j_ := ⟨_, rfl⟩
             replace H : (if ji52 = 5 then (if a0_5 = 0 then (ip_gap.l1 k2 x2_1 x3_1 x6_1 (wrap64 (x5_2 + 1)) x6_1 a0_0 a0_1 a0_2 a0_3 a0_4 a0_5 a0_6 a0_7) else (if x5_2 > x3_1 then (if x5_2 > 1 then (ip_gap.l0 k2 x6_1 x5_2 (wrap64 (x6_1 + 1)) a0_0 a0_1 a0_2 a0_3 a0_4 a0_5 a0_6 a0_7) else (ip_gap.l0 k2 x2_1 x3_1 (wrap64 (x6_1 + 1)) a0_0 a0_1 a0_2 a0_3 a0_4 a0_5 a0_6 a0_7)) else (ip_gap.l0 k2 x2_1 x3_1 (wrap64 (x6_1 + 1)) a0_0 a0_1 a0_2 a0_3 a0_4 a0_5 a0_6 a0_7))) else (if (ji52) = 6 then (if a0_6 = 0 then (ip_gap.l1 k2 x2_1 x3_1 x6_1 (wrap64 (x5_2 + 1)) x6_1 a0_0 a0_1 a0_2 a0_3 a0_4 a0_5 a0_6 a0_7) else (if x5_2 > x3_1 then (if x5_2 > 1 then (ip_gap.l0 k2 x6_1 x5_2 (wrap64 (x6_1 + 1)) a0_0 a0_1 a0_2 a0_3 a0_4 a0_5 a0_6 a0_7) else (ip_gap.l0 k2 x2_1 x3_1 (wrap64 (x6_1 + 1)) a0_0 a0_1 a0_2 a0_3 a0_4 a0_5 a0_6 a0_7)) else (ip_gap.l0 k2 x2_1 x3_1 (wrap64 (x6_1 + 1)) a0_0 a0_1 a0_2 a0_3 a0_4 a0_5 a0_6 a0_7))) else (if (ji52) = 7 then (if a0_7 = 0 then (ip_gap.l1 k2 x2_1 x3_1 x6_1 (wrap64 (x5_2 + 1)) x6_1 a0_0 a0_1 a0_2 a0_3 a0_4 a0_5 a0_6 a0_7) else (if x5_2 > x3_1 then (if x5_2 > 1 then (ip_gap.l0 k2 x6_1 x5_2 (wrap64 (x6_1 + 1)) a0_0 a0_1 a0_2 a0_3 a0_4 a0_5 a0_6 a0_7) else (ip_gap.l0 k2 x2_1 x3_1 (wrap64 (x6_1 + 1)) a0_0 a0_1 a0_2 a0_3 a0_4 a0_5 a0_6 a0_7)) else (ip_gap.l0 k2 x2_1 x3_1 (wrap64 (x6_1 + 1)) a0_0 a0_1 a0_2 a0_3 a0_4 a0_5 a0_6 a0_7))) else (none)))) = some (r1, r2) := by first | (rw [hji52] at H; exact H) | (simp only [hji52] at H ⊢; exact H)
             by_cases c53 : ji52 = 5
             ·
              subst c53
              rw [if_pos rfl] at H
              by_cases c54 : a0_5 = 0
              ·
               rw [if_pos c54] at H
               have c54b0 : (a0_5 == 0) = true := beq_iff_eq.mpr c54
               have c54b1 : (a0_5 != 0) = false := bne_eq_false_iff_eq.mpr c54
               clear c54
               have H' := Aside0.mk H
               clear H
               obtain ⟨hcz55_0, hcz55_1, hcz55_2, hcz55_3, hcz55_4, hcz55_5, hcz55_6, hcz55_7⟩ := xc8 BK194
               have hfz55_0 := xf BK194 0
               have hfz55_1 := xf BK194 1
               have hfz55_2 := xf BK194 2
               have hfz55_3 := xf BK194 3
               have hfz55_4 := xf BK194 4
               have hfz55_5 := xf BK194 5
               have hfz55_6 := xf BK194 6
               have hfz55_7 := xf BK194 7
               go_wp2
               first | go_roundg k2 | (simp only [← hji5, ← hji7, ← hji16, ← hji25, ← hji34, ← hji43]; go_roundg k2)
               case measure => have := HK1.out; have := HK2.out; omega
               case rel => exact ⟨(wrap64 (x5_2 + 1)), xrr, H', ⟨by have := HK1.out; have := HK2.out; omega⟩, ⟨xbk⟩, ⟨xbl⟩⟩
              ·
               rw [if_neg c54] at H
               have c54b0 : (a0_5 == 0) = false := beq_eq_false_iff_ne.mpr c54
               have c54b1 : (a0_5 != 0) = true := bne_iff_ne.mpr c54
               by_cases c56 : x5_2 > x3_1
               ·
                rw [if_pos c56] at H
                have c56b0 := decide_eq_true c56
                clear c56
                by_cases c57 : x5_2 > 1
                ·
                 rw [if_pos c57] at H
                 have c57b0 := decide_eq_true c57
                 clear c57
                 have H' := Aside0.mk H
                 clear H
                 obtain ⟨hcz58_0, hcz58_1, hcz58_2, hcz58_3, hcz58_4, hcz58_5, hcz58_6, hcz58_7⟩ := xc8 BK194
                 have hfz58_0 := xf BK194 0
                 have hfz58_1 := xf BK194 1
                 have hfz58_2 := xf BK194 2
                 have hfz58_3 := xf BK194 3
                 have hfz58_4 := xf BK194 4
                 have hfz58_5 := xf BK194 5
                 have hfz58_6 := xf BK194 6
                 have hfz58_7 := xf BK194 7
                 go_wp2
                 first | go_roundg k2 | (simp only [← hji5, ← hji7, ← hji16, ← hji25, ← hji34, ← hji43]; go_roundg k2)
                 case measure => have := HK1.out; have := HK2.out; omega
                 case rel => exact ⟨(x6_1), (x5_2), (wrap64 (x6_1 + 1)), xrr, xrr, xrr, H', ⟨by have := HK1.out; have := HK2.out; omega⟩, ⟨xbk⟩, ⟨xbl⟩⟩
                ·
                 rw [if_neg c57] at H
                 have c57b0 := decide_eq_false c57
                 clear c57
                 have H' := Aside0.mk H
                 clear H
                 obtain ⟨hcz59_0, hcz59_1, hcz59_2, hcz59_3, hcz59_4, hcz59_5, hcz59_6, hcz59_7⟩ := xc8 BK194
                 have hfz59_0 := xf BK194 0
                 have hfz59_1 := xf BK194 1
                 have hfz59_2 := xf BK194 2
                 have hfz59_3 := xf BK194 3
                 have hfz59_4 := xf BK194 4
                 have hfz59_5 := xf BK194 5
                 have hfz59_6 := xf BK194 6
                 have hfz59_7 := xf BK194 7
                 go_wp2
                 first | go_roundg k2 | (simp only [← hji5, ← hji7, ← hji16, ← hji25, ← hji34, ← hji43]; go_roundg k2)
                 case measure => have := HK1.out; have := HK2.out; omega
                 case rel => exact ⟨(x2_1), (x3_1), (wrap64 (x6_1 + 1)), xrr, xrr, xrr, H', ⟨by have := HK1.out; have := HK2.out; omega⟩, ⟨xbk⟩, ⟨xbl⟩⟩
               ·
                rw [if_neg c56] at H
                have c56b0 := decide_eq_false c56
                clear c56
                have H' := Aside0.mk H
                clear H
                obtain ⟨hcz60_0, hcz60_1, hcz60_2, hcz60_3, hcz60_4, hcz60_5, hcz60_6, hcz60_7⟩ := xc8 BK194
                have hfz60_0 := xf BK194 0
                have hfz60_1 := xf BK194 1
                have hfz60_2 := xf BK194 2
                have hfz60_3 := xf BK194 3
                have hfz60_4 := xf BK194 4
                have hfz60_5 := xf BK194 5
                have hfz60_6 := xf BK194 6
                have hfz60_7 := xf BK194 7
                go_wp2
                first | go_roundg k2 | (simp only [← hji5, ← hji7, ← hji16, ← hji25, ← hji34, ← hji43]; go_roundg k2)
                case measure => have := HK1.out; have := HK2.out; omega
                case rel => exact ⟨(x2_1), (x3_1), (wrap64 (x6_1 + 1)), xrr, xrr, xrr, H', ⟨by have := HK1.out; have := HK2.out; omega⟩, ⟨xbk⟩, ⟨xbl⟩⟩
             ·
              rw [if_neg c53] at H
              clear c53
              obtain ⟨ji61, hji61⟩ : ∃ j_ : Int, (ji52) = j_ := ⟨_, rfl⟩
              replace H : (if ji61 = 6 then (if a0_6 = 0 then (ip_gap.l1 k2 x2_1 x3_1 x6_1 (wrap64 (x5_2 + 1)) x6_1 a0_0 a0_1 a0_2 a0_3 a0_4 a0_5 a0_6 a0_7) else (if x5_2 > x3_1 then (if x5_2 > 1 then (ip_gap.l0 k2 x6_1 x5_2 (wrap64 (x6_1 + 1)) a0_0 a0_1 a0_2 a0_3 a0_4 a0_5 a0_6 a0_7) else (ip_gap.l0 k2 x2_1 x3_1 (wrap64 (x6_1 + 1)) a0_0 a0_1 a0_2 a0_3 a0_4 a0_5 a0_6 a0_7)) else (ip_gap.l0 k2 x2_1 x3_1 (wrap64 (x6_1 + 1)) a0_0 a0_1 a0_2 a0_3 a0_4 a0_5 a0_6 a0_7))) else (if (ji61) = 7 then (if a0_7 = 0 then (ip_gap.l1 k2 x2_1 x3_1 x6_1 (wrap64 (x5_2 + 1)) x6_1 a0_0 a0_1 a0_2 a0_3 a0_4 a0_5 a0_6 a0_7) else (if x5_2 > x3_1 then (if x5_2 > 1 then (ip_gap.l0 k2 x6_1 x5_2 (wrap64 (x6_1 + 1)) a0_0 a0_1 a0_2 a0_3 a0_4 a0_5 a0_6 a0_7) else (ip_gap.l0 k2 x2_1 x3_1 (wrap64 (x6_1 + 1)) a0_0 a0_1 a0_2 a0_3 a0_4 a0_5 a0_6 a0_7)) else (ip_gap.l0 k2 x2_1 x3_1 (wrap64 (x6_1 + 1)) a0_0 a0_1 a0_2 a0_3 a0_4 a0_5 a0_6 a0_7))) else (none))) = some (r1, r2) := by first | (rw [hji61] at H; exact H) | (simp only [hji61] at H ⊢; exact H)
              by_cases c62 : ji61 = 6
              ·
               subst c62
               rw [if_pos rfl] at H
               by_cases c63 : a0_6 = 0
               ·
                rw [if_pos c63] at H
                have c63b0 : (a0_6 == 0) = true := beq_iff_eq.mpr c63
                have c63b1 : (a0_6 != 0) = false := bne_eq_false_iff_eq.mpr c63
                clear c63
                have H' := Aside0.mk H
                clear H
                obtain ⟨hcz64_0, hcz64_1, hcz64_2, hcz64_3, hcz64_4, hcz64_5, hcz64_6, hcz64_7⟩ := xc8 BK194
                have hfz64_0 := xf BK194 0
                have hfz64_1 := xf BK194 1
                have hfz64_2 := xf BK194 2
                have hfz64_3 := xf BK194 3
                have hfz64_4 := xf BK194 4
                have hfz64_5 := xf BK194 5
                have hfz64_6 := xf BK194 6
                have hfz64_7 := xf BK194 7
                go_wp2
                first | go_roundg k2 | (simp only [← hji5, ← hji7, ← hji16, ← hji25, ← hji34, ← hji43, ← hji52]; go_roundg k2)
                case measure => have := HK1.out; have := HK2.out; omega
                case rel => exact ⟨(wrap64 (x5_2 + 1)), xrr, H', ⟨by have := HK1.out; have := HK2.out; omega⟩, ⟨xbk⟩, ⟨xbl⟩⟩
               ·
                rw [if_neg c63] at H
                have c63b0 : (a0_6 == 0) = false := beq_eq_false_iff_ne.mpr c63
                have c63b1 : (a0_6 != 0) = true := bne_iff_ne.mpr c63
                by_cases c65 : x5_2 > x3_1
                ·
                 rw [if_pos c65] at H
                 have c65b0 := decide_eq_true c65
                 clear c65
                 by_cases c66 : x5_2 > 1
                 ·
                  rw [if_pos c66] at H
                  have c66b0 := decide_eq_true c66
                  clear c66
                  have H' := Aside0.mk H
                  clear H
                  obtain ⟨hcz67_0, hcz67_1, hcz67_2, hcz67_3, hcz67_4, hcz67_5, hcz67_6, hcz67_7⟩ := xc8 BK194
                  have hfz67_0 := xf BK194 0
                  have hfz67_1 := xf BK194 1
                  have hfz67_2 := xf BK194 2
                  have hfz67_3 := xf BK194 3
                  have hfz67_4 := xf BK194 4
                  have hfz67_5 := xf BK194 5
                  have hfz67_6 := xf BK194 6
                  have hfz67_7 := xf BK194 7
                  go_wp2
                  first | go_roundg k2 | (simp only [← hji5, ← hji7, ← hji16, ← hji25, ← hji34, ← hji43, ← hji52]; go_roundg k2)
                  case measure => have := HK1.out; have := HK2.out; omega
                  case rel => exact ⟨(x6_1), (x5_2), (wrap64 (x6_1 + 1)), xrr, xrr, xrr, H', ⟨by have := HK1.out; have := HK2.out; omega⟩, ⟨xbk⟩, ⟨xbl⟩⟩
                 ·
                  rw [if_neg c66] at H
                  have c66b0 := decide_eq_false c66
                  clear c66
                  have H' := Aside0.mk H
                  clear H
                  obtain ⟨hcz68_0, hcz68_1, hcz68_2, hcz68_3, hcz68_4, hcz68_5, hcz68_6, hcz68_7⟩ := xc8 BK194
                  have hfz68_0 := xf BK194 0
                  have hfz68_1 := xf BK194 1
                  have hfz68_2 := xf BK194 2
                  have hfz68_3 := xf BK194 3
                  have hfz68_4 := xf BK194 4
                  have hfz68_5 := xf BK194 5
                  have hfz68_6 := xf BK194 6
                  have hfz68_7 := xf BK194 7
                  go_wp2
                  first | go_roundg k2 | (simp only [← hji5, ← hji7, ← hji16, ← hji25, ← hji34, ← hji43, ← hji52]; go_roundg k2)
                  case measure => have := HK1.out; have := HK2.out; omega
                  case rel => exact ⟨(x2_1), (x3_1), (wrap64 (x6_1 + 1)), xrr, xrr, xrr, H', ⟨by have := HK1.out; have := HK2.out; omega⟩, ⟨xbk⟩, ⟨xbl⟩⟩
                ·
                 rw [if_neg c65] at H
                 have c65b0 := decide_eq_false c65
                 clear c65
                 have H' := Aside0.mk H
                 clear H
                 obtain ⟨hcz69_0, hcz69_1, hcz69_2, hcz69_3, hcz69_4, hcz69_5, hcz69_6, hcz69_7⟩ := xc8 BK194
                 have hfz69_0 := xf BK194 0
                 have hfz69_1 := xf BK194 1
                 have hfz69_2 := xf BK194 2
                 have hfz69_3 := xf BK194 3
                 have hfz69_4 := xf BK194 4
                 have hfz69_5 := xf BK194 5
                 have hfz69_6 := xf BK194 6
                 have hfz69_7 := xf BK194 7
                 go_wp2
                 first | go_roundg k2 | (simp only [← hji5, ← hji7, ← hji16, ← hji25, ← hji34, ← hji43, ← hji52]; go_roundg k2)
                 case measure => have := HK1.out; have := HK2.out; omega
                 case rel => exact ⟨(x2_1), (x3_1), (wrap64 (x6_1 + 1)), xrr, xrr, xrr, H', ⟨by have := HK1.out; have := HK2.out; omega⟩, ⟨xbk⟩, ⟨xbl⟩⟩
              ·
               rw [if_neg c62] at H
               clear c62
               obtain ⟨ji70, hji70⟩ : ∃ j_ : Int, (ji61) = j_ := ⟨_, rfl⟩
               replace H : (if ji70 = 7 then (if a0_7 = 0 then (ip_gap.l1 k2 x2_1 x3_1 x6_1 (wrap64 (x5_2 + 1)) x6_1 a0_0 a0_1 a0_2 a0_3 a0_4 a0_5 a0_6 a0_7) else (if x5_2 > x3_1 then (if x5_2 > 1 then (ip_gap.l0 k2 x6_1 x5_2 (wrap64 (x6_1 + 1)) a0_0 a0_1 a0_2 a0_3 a0_4 a0_5 a0_6 a0_7) else (ip_gap.l0 k2 x2_1 x3_1 (wrap64 (x6_1 + 1)) a0_0 a0_1 a0_2 a0_3 a0_4 a0_5 a0_6 a0_7)) else (ip_gap.l0 k2 x2_1 x3_1 (wrap64 (x6_1 + 1)) a0_0 a0_1 a0_2 a0_3 a0_4 a0_5 a0_6 a0_7))) else (none)) = some (r1, r2) := by first | (rw [hji70] at H; exact H) | (simp only [hji70] at H ⊢; exact H)
               by_cases c71 : ji70 = 7
               ·
                subst c71
                rw [if_pos rfl] at H
                by_cases c72 : a0_7 = 0
                ·
                 rw [if_pos c72] at H
                 have c72b0 : (a0_7 == 0) = true := beq_iff_eq.mpr c72
                 have c72b1 : (a0_7 != 0) = false := bne_eq_false_iff_eq.mpr c72
                 clear c72
                 have H' := Aside0.mk H
                 clear H
                 obtain ⟨hcz73_0, hcz73_1, hcz73_2, hcz73_3, hcz73_4, hcz73_5, hcz73_6, hcz73_7⟩ := xc8 BK194
                 have hfz73_0 := xf BK194 0
                 have hfz73_1 := xf BK194 1
                 have hfz73_2 := xf BK194 2
                 have hfz73_3 := xf BK194 3
                 have hfz73_4 := xf BK194 4
                 have hfz73_5 := xf BK194 5
                 have hfz73_6 := xf BK194 6
                 have hfz73_7 := xf BK194 7
                 go_wp2
                 first | go_roundg k2 | (simp only [← hji5, ← hji7, ← hji16, ← hji25, ← hji34, ← hji43, ← hji52, ← hji61]; go_roundg k2)
                 case measure => have := HK1.out; have := HK2.out; omega
                 case rel => exact ⟨(wrap64 (x5_2 + 1)), xrr, H', ⟨by have := HK1.out; have := HK2.out; omega⟩, ⟨xbk⟩, ⟨xbl⟩⟩
                ·
                 rw [if_neg c72] at H
                 have c72b0 : (a0_7 == 0) = false := beq_eq_false_iff_ne.mpr c72
                 have c72b1 : (a0_7 != 0) = true := bne_iff_ne.mpr c72
                 by_cases c74 : x5_2 > x3_1
                 ·
                  rw [if_pos c74] at H
                  have c74b0 := decide_eq_true c74
                  clear c74
                  by_cases c75 : x5_2 > 1
                  ·
                   rw [if_pos c75] at H
                   have c75b0 := decide_eq_true c75
                   clear c75
                   have H' := Aside0.mk H
                   clear H
                   obtain ⟨hcz76_0, hcz76_1, hcz76_2, hcz76_3, hcz76_4, hcz76_5, hcz76_6, hcz76_7⟩ := xc8 BK194
                   have hfz76_0 := xf BK194 0
                   have hfz76_1 := xf BK194 1
                   have hfz76_2 := xf BK194 2
                   have hfz76_3 := xf BK194 3
                   have hfz76_4 := xf BK194 4
                   have hfz76_5 := xf BK194 5
                   have hfz76_6 := xf BK194 6
                   have hfz76_7 := xf BK194 7
                   go_wp2
                   first | go_roundg k2 | (simp only [← hji5, ← hji7, ← hji16, ← hji25, ← hji34, ← hji43, ← hji52, ← hji61]; go_roundg k2)
                   case measure => have := HK1.out; have := HK2.out; omega
                   case rel => exact ⟨(x6_1), (x5_2), (wrap64 (x6_1 + 1)), xrr, xrr, xrr, H', ⟨by have := HK1.out; have := HK2.out; omega⟩, ⟨xbk⟩, ⟨xbl⟩⟩
                  ·
                   rw [if_neg c75] at H
                   have c75b0 := decide_eq_false c75
                   clear c75
                   have H' := Aside0.mk H
                   clear H
                   obtain ⟨hcz77_0, hcz77_1, hcz77_2, hcz77_3, hcz77_4, hcz77_5, hcz77_6, hcz77_7⟩ := xc8 BK194
                   have hfz77_0 := xf BK194 0
                   have hfz77_1 := xf BK194 1
                   have hfz77_2 := xf BK194 2
                   have hfz77_3 := xf BK194 3
                   have hfz77_4 := xf BK194 4
                   have hfz77_5 := xf BK194 5
                   have hfz77_6 := xf BK194 6
                   have hfz77_7 := xf BK194 7
                   go_wp2
                   first | go_roundg k2 | (simp only [← hji5, ← hji7, ← hji16, ← hji25, ← hji34, ← hji43, ← hji52, ← hji61]; go_roundg k2)
                   case measure => have := HK1.out; have := HK2.out; omega
                   case rel => exact ⟨(x2_1), (x3_1), (wrap64 (x6_1 + 1)), xrr, xrr, xrr, H', ⟨by have := HK1.out; have := HK2.out; omega⟩, ⟨xbk⟩, ⟨xbl⟩⟩
                 ·
                  rw [if_neg c74] at H
                  have c74b0 := decide_eq_false c74
                  clear c74
                  have H' := Aside0.mk H
                  clear H
                  obtain ⟨hcz78_0, hcz78_1, hcz78_2, hcz78_3, hcz78_4, hcz78_5, hcz78_6, hcz78_7⟩ := xc8 BK194
                  have hfz78_0 := xf BK194 0
                  have hfz78_1 := xf BK194 1
                  have hfz78_2 := xf BK194 2
                  have hfz78_3 := xf BK194 3
                  have hfz78_4 := xf BK194 4
                  have hfz78_5 := xf BK194 5
                  have hfz78_6 := xf BK194 6
                  have hfz78_7 := xf BK194 7
                  go_wp2
                  first | go_roundg k2 | (simp only [← hji5, ← hji7, ← hji16, ← hji25, ← hji34, ← hji43, ← hji52, ← hji61]; go_roundg k2)
                  case measure => have := HK1.out; have := HK2.out; omega
                  case rel => exact ⟨(x2_1), (x3_1), (wrap64 (x6_1 + 1)), xrr, xrr, xrr, H', ⟨by have := HK1.out; have := HK2.out; omega⟩, ⟨xbk⟩, ⟨xbl⟩⟩
               ·
                rw [if_neg c71] at H
                clear c71
                exact absurd H (by simp)
       ·
        rw [if_neg c6] at H
        exact absurd H (by simp)
      ·
       rw [if_neg c4] at H
       have c4b0 := decide_eq_false c4
       clear c4
       by_cases c79 : x5_2 > x3_1
       ·
        rw [if_pos c79] at H
        have c79b0 := decide_eq_true c79
        clear c79
        by_cases c80 : x5_2 > 1
        ·
         rw [if_pos c80] at H
         have c80b0 := decide_eq_true c80
         clear c80
         have H' := Aside0.mk H
         clear H
         go_wp2
         go_roundg k2
         case measure => have := HK1.out; have := HK2.out; omega
         case rel => exact ⟨(x6_1), (x5_2), (wrap64 (x6_1 + 1)), xrr, xrr, xrr, H', ⟨by have := HK1.out; have := HK2.out; omega⟩, ⟨xbk⟩, ⟨xbl⟩⟩
        ·
         rw [if_neg c80] at H
         have c80b0 := decide_eq_false c80
         clear c80
         have H' := Aside0.mk H
         clear H
         go_wp2
         go_roundg k2
         case measure => have := HK1.out; have := HK2.out; omega
         case rel => exact ⟨(x2_1), (x3_1), (wrap64 (x6_1 + 1)), xrr, xrr, xrr, H', ⟨by have := HK1.out; have := HK2.out; omega⟩, ⟨xbk⟩, ⟨xbl⟩⟩
       ·
        rw [if_neg c79] at H
        have c79b0 := decide_eq_false c79
        clear c79
        have H' := Aside0.mk H
        clear H
        go_wp2
        go_roundg k2
        case measure => have := HK1.out; have := HK2.out; omega
        case rel => exact ⟨(x2_1), (x3_1), (wrap64 (x6_1 + 1)), xrr, xrr, xrr, H', ⟨by have := HK1.out; have := HK2.out; omega⟩, ⟨xbk⟩, ⟨xbl⟩⟩
   ·
    rw [if_neg c3] at H
    have c3b0 := decide_eq_false c3
    clear c3
    simp only [Option.some.injEq, Prod.mk.injEq] at H
    obtain ⟨rfl, rfl⟩ := H
    go_wp2
    go_ret2
    exact ⟨xre, xbl⟩
end Go.Proofs.YticohlbfolnmpaaDoor.X
