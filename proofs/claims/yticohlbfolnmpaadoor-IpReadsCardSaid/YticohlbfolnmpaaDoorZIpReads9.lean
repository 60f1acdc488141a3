/- Texts that the law's proof needs, joined by a program of this session. -/
import Derived.Test.YticohlbfolnmpaaDoorZIpReads1
import Derived.Test.YticohlbfolnmpaaDoorZIpReads8
namespace Go.Proofs.YticohlbfolnmpaaDoor.X
open Go.RowKit Go.Proofs.YticohlbfolnmpaaDoorW.PrintWords Go.Proofs.YticohlbfolnmpaaDoorW.PrintLast Go.Proofs.YticohlbfolnmpaaDoorW.PrintMore
attribute [local go_sem] max2_int min2_int max_two min_two max_three min_three max_four min_four
set_option linter.unusedVariables false
set_option linter.unusedSimpArgs false
mutual
def monikerref19_V6.l0 : Nat → ByteArray → Int → Int → Int → Int → Int → Int → Int → Int → Int → Int → Option (Int × Int × Int × Int × Int × Int × Int × Int × Bool)
  | 0, _, _, _, _, _, _, _, _, _, _, _ => none
  | k + 1, x0, x5, x6, x256000, x256001, x256002, x256003, x256004, x256005, x256006, x256007 => if (wrap64 (x6 + 1)) < (x0.size : Int) then (if x5 < 0 then (if 0 ≤ x6 then (if x6 ≤ (wrap64 (x6 + 2)) then (if (wrap64 (x6 + 2)) ≤ (x0.size : Int) then (if (x0.extract (x6 : Int).toNat ((wrap64 (x6 + 2)) : Int).toNat).toList = ([58, 58] : List UInt8) then (monikerref19_V6.l0 k x0 x6 (wrap64 (x6 + 1)) x256000 x256001 x256002 x256003 x256004 x256005 x256006 x256007) else (monikerref19_V6.l0 k x0 x5 (wrap64 (x6 + 1)) x256000 x256001 x256002 x256003 x256004 x256005 x256006 x256007)) else (none)) else (none)) else (none)) else (monikerref19_V6.l0 k x0 x5 (wrap64 (x6 + 1)) x256000 x256001 x256002 x256003 x256004 x256005 x256006 x256007)) else (if x5 < 0 then ((monikerref19_row.f k x0).bind fun bt256 => (if bt256.2 = true then (monikerref19_V6.j1 k bt256.1 ((bt256.1.length : Int) != 8) x256000 x256001 x256002 x256003 x256004 x256005 x256006 x256007) else (monikerref19_V6.j1 k bt256.1 true x256000 x256001 x256002 x256003 x256004 x256005 x256006 x256007))) else (if 0 ≤ x5 then (if x5 ≤ (x0.size : Int) then ((monikerref19_row.f k (x0.extract 0 (x5 : Int).toNat)).bind fun bt261 => (if 0 ≤ (wrap64 (x5 + 2)) then (if (wrap64 (x5 + 2)) ≤ (x0.size : Int) then ((monikerref19_row.f k (x0.extract ((wrap64 (x5 + 2)) : Int).toNat x0.size)).bind fun bt265 => (if bt261.2 = true then (if bt265.2 = true then (monikerref19_V6.j3 k x0 x5 bt261.1 bt265.1 (decide ((wrap64 ((bt261.1.length : Int) + (bt265.1.length : Int))) > 7)) x256000 x256001 x256002 x256003 x256004 x256005 x256006 x256007) else (monikerref19_V6.j3 k x0 x5 bt261.1 bt265.1 true x256000 x256001 x256002 x256003 x256004 x256005 x256006 x256007)) else (monikerref19_V6.j3 k x0 x5 bt261.1 bt265.1 true x256000 x256001 x256002 x256003 x256004 x256005 x256006 x256007))) else (none)) else (none))) else (none)) else (none)))
def monikerref19_V6.j1 : Nat → List Int → Bool → Int → Int → Int → Int → Int → Int → Int → Int → Option (Int × Int × Int × Int × Int × Int × Int × Int × Bool)
  | 0, _, _, _, _, _, _, _, _, _, _ => none
  | k + 1, x7, x48, x256000, x256001, x256002, x256003, x256004, x256005, x256006, x256007 => if x48 = true then (some (x256000, x256001, x256002, x256003, x256004, x256005, x256006, x256007, false)) else (monikerref19_V6.l1 k x7 0 x256000 x256001 x256002 x256003 x256004 x256005 x256006 x256007)
def monikerref19_V6.l1 : Nat → List Int → Int → Int → Int → Int → Int → Int → Int → Int → Int → Option (Int × Int × Int × Int × Int × Int × Int × Int × Bool)
  | 0, _, _, _, _, _, _, _, _, _, _ => none
  | k + 1, x7, x9, x256000, x256001, x256002, x256003, x256004, x256005, x256006, x256007 => if x9 < 8 then (if 0 ≤ x9 then (if x9 < (x7.length : Int) then (if x9 = 0 then (monikerref19_V6.l1 k x7 (wrap64 (x9 + 1)) (rd x7 x9) x256001 x256002 x256003 x256004 x256005 x256006 x256007) else (if x9 = 1 then (monikerref19_V6.l1 k x7 (wrap64 (x9 + 1)) x256000 (rd x7 x9) x256002 x256003 x256004 x256005 x256006 x256007) else (if x9 = 2 then (monikerref19_V6.l1 k x7 (wrap64 (x9 + 1)) x256000 x256001 (rd x7 x9) x256003 x256004 x256005 x256006 x256007) else (if x9 = 3 then (monikerref19_V6.l1 k x7 (wrap64 (x9 + 1)) x256000 x256001 x256002 (rd x7 x9) x256004 x256005 x256006 x256007) else (if x9 = 4 then (monikerref19_V6.l1 k x7 (wrap64 (x9 + 1)) x256000 x256001 x256002 x256003 (rd x7 x9) x256005 x256006 x256007) else (if x9 = 5 then (monikerref19_V6.l1 k x7 (wrap64 (x9 + 1)) x256000 x256001 x256002 x256003 x256004 (rd x7 x9) x256006 x256007) else (if x9 = 6 then (monikerref19_V6.l1 k x7 (wrap64 (x9 + 1)) x256000 x256001 x256002 x256003 x256004 x256005 (rd x7 x9) x256007) else (if x9 = 7 then (monikerref19_V6.l1 k x7 (wrap64 (x9 + 1)) x256000 x256001 x256002 x256003 x256004 x256005 x256006 (rd x7 x9)) else (none))))))))) else (none)) else (none)) else (some (x256000, x256001, x256002, x256003, x256004, x256005, x256006, x256007, true))
def monikerref19_V6.j3 : Nat → ByteArray → Int → List Int → List Int → Bool → Int → Int → Int → Int → Int → Int → Int → Int → Option (Int × Int × Int × Int × Int × Int × Int × Int × Bool)
  | 0, _, _, _, _, _, _, _, _, _, _, _, _, _ => none
  | k + 1, x0, x5, x10, x12, x89, x256000, x256001, x256002, x256003, x256004, x256005, x256006, x256007 => if x89 = true then (some (x256000, x256001, x256002, x256003, x256004, x256005, x256006, x256007, false)) else (if x5 > 0 then (if 0 ≤ x5 then (if x5 ≤ (x0.size : Int) then ((monikerref01_In.f k 46 (x0.extract 0 (x5 : Int).toNat)).bind fun t269 => (monikerref19_V6.j4 k x10 x12 t269 x256000 x256001 x256002 x256003 x256004 x256005 x256006 x256007)) else (none)) else (none)) else (monikerref19_V6.j4 k x10 x12 false x256000 x256001 x256002 x256003 x256004 x256005 x256006 x256007))
def monikerref19_V6.j4 : Nat → List Int → List Int → Bool → Int → Int → Int → Int → Int → Int → Int → Int → Option (Int × Int × Int × Int × Int × Int × Int × Int × Bool)
  | 0, _, _, _, _, _, _, _, _, _, _, _ => none
  | k + 1, x10, x12, x98, x256000, x256001, x256002, x256003, x256004, x256005, x256006, x256007 => if x98 = true then (some (x256000, x256001, x256002, x256003, x256004, x256005, x256006, x256007, false)) else (monikerref19_V6.l2 k x10 x12 0 x256000 x256001 x256002 x256003 x256004 x256005 x256006 x256007)
def monikerref19_V6.l2 : Nat → List Int → List Int → Int → Int → Int → Int → Int → Int → Int → Int → Int → Option (Int × Int × Int × Int × Int × Int × Int × Int × Bool)
  | 0, _, _, _, _, _, _, _, _, _, _, _ => none
  | k + 1, x10, x12, x14, x256000, x256001, x256002, x256003, x256004, x256005, x256006, x256007 => if x14 < (x10.length : Int) then (if 0 ≤ x14 then (if x14 = 0 then (monikerref19_V6.l2 k x10 x12 (wrap64 (x14 + 1)) (rd x10 x14) x256001 x256002 x256003 x256004 x256005 x256006 x256007) else (if x14 = 1 then (monikerref19_V6.l2 k x10 x12 (wrap64 (x14 + 1)) x256000 (rd x10 x14) x256002 x256003 x256004 x256005 x256006 x256007) else (if x14 = 2 then (monikerref19_V6.l2 k x10 x12 (wrap64 (x14 + 1)) x256000 x256001 (rd x10 x14) x256003 x256004 x256005 x256006 x256007) else (if x14 = 3 then (monikerref19_V6.l2 k x10 x12 (wrap64 (x14 + 1)) x256000 x256001 x256002 (rd x10 x14) x256004 x256005 x256006 x256007) else (if x14 = 4 then (monikerref19_V6.l2 k x10 x12 (wrap64 (x14 + 1)) x256000 x256001 x256002 x256003 (rd x10 x14) x256005 x256006 x256007) else (if x14 = 5 then (monikerref19_V6.l2 k x10 x12 (wrap64 (x14 + 1)) x256000 x256001 x256002 x256003 x256004 (rd x10 x14) x256006 x256007) else (if x14 = 6 then (monikerref19_V6.l2 k x10 x12 (wrap64 (x14 + 1)) x256000 x256001 x256002 x256003 x256004 x256005 (rd x10 x14) x256007) else (if x14 = 7 then (monikerref19_V6.l2 k x10 x12 (wrap64 (x14 + 1)) x256000 x256001 x256002 x256003 x256004 x256005 x256006 (rd x10 x14)) else (none))))))))) else (none)) else (monikerref19_V6.l3 k x12 0 x256000 x256001 x256002 x256003 x256004 x256005 x256006 x256007)
def monikerref19_V6.l3 : Nat → List Int → Int → Int → Int → Int → Int → Int → Int → Int → Int → Option (Int × Int × Int × Int × Int × Int × Int × Int × Bool)
  | 0, _, _, _, _, _, _, _, _, _, _ => none
  | k + 1, x12, x15, x256000, x256001, x256002, x256003, x256004, x256005, x256006, x256007 => if x15 < (x12.length : Int) then (if 0 ≤ x15 then (if 0 ≤ (wrap64 ((wrap64 (8 - (x12.length : Int))) + x15)) then (if (wrap64 ((wrap64 (8 - (x12.length : Int))) + x15)) = 0 then (monikerref19_V6.l3 k x12 (wrap64 (x15 + 1)) (rd x12 x15) x256001 x256002 x256003 x256004 x256005 x256006 x256007) else (if (wrap64 ((wrap64 (8 - (x12.length : Int))) + x15)) = 1 then (monikerref19_V6.l3 k x12 (wrap64 (x15 + 1)) x256000 (rd x12 x15) x256002 x256003 x256004 x256005 x256006 x256007) else (if (wrap64 ((wrap64 (8 - (x12.length : Int))) + x15)) = 2 then (monikerref19_V6.l3 k x12 (wrap64 (x15 + 1)) x256000 x256001 (rd x12 x15) x256003 x256004 x256005 x256006 x256007) else (if (wrap64 ((wrap64 (8 - (x12.length : Int))) + x15)) = 3 then (monikerref19_V6.l3 k x12 (wrap64 (x15 + 1)) x256000 x256001 x256002 (rd x12 x15) x256004 x256005 x256006 x256007) else (if (wrap64 ((wrap64 (8 - (x12.length : Int))) + x15)) = 4 then (monikerref19_V6.l3 k x12 (wrap64 (x15 + 1)) x256000 x256001 x256002 x256003 (rd x12 x15) x256005 x256006 x256007) else (if (wrap64 ((wrap64 (8 - (x12.length : Int))) + x15)) = 5 then (monikerref19_V6.l3 k x12 (wrap64 (x15 + 1)) x256000 x256001 x256002 x256003 x256004 (rd x12 x15) x256006 x256007) else (if (wrap64 ((wrap64 (8 - (x12.length : Int))) + x15)) = 6 then (monikerref19_V6.l3 k x12 (wrap64 (x15 + 1)) x256000 x256001 x256002 x256003 x256004 x256005 (rd x12 x15) x256007) else (if (wrap64 ((wrap64 (8 - (x12.length : Int))) + x15)) = 7 then (monikerref19_V6.l3 k x12 (wrap64 (x15 + 1)) x256000 x256001 x256002 x256003 x256004 x256005 x256006 (rd x12 x15)) else (none))))))))) else (none)) else (none)) else (some (x256000, x256001, x256002, x256003, x256004, x256005, x256006, x256007, true))
end
def monikerref19_V6.f (k : Nat) (a0 : ByteArray) : Option (Int × Int × Int × Int × Int × Int × Int × Int × Bool) := monikerref19_V6.l0 k a0 (-1) 0 0 0 0 0 0 0 0 0
theorem monikerref19_V6.mono_l : ∀ k, (∀ y0 y1 y2 y3 y4 y5 y6 y7 y8 y9 y10, LeO (monikerref19_V6.l0 k y0 y1 y2 y3 y4 y5 y6 y7 y8 y9 y10) (monikerref19_V6.l0 (k + 1) y0 y1 y2 y3 y4 y5 y6 y7 y8 y9 y10)) ∧ (∀ y0 y1 y2 y3 y4 y5 y6 y7 y8 y9, LeO (monikerref19_V6.j1 k y0 y1 y2 y3 y4 y5 y6 y7 y8 y9) (monikerref19_V6.j1 (k + 1) y0 y1 y2 y3 y4 y5 y6 y7 y8 y9)) ∧ (∀ y0 y1 y2 y3 y4 y5 y6 y7 y8 y9, LeO (monikerref19_V6.l1 k y0 y1 y2 y3 y4 y5 y6 y7 y8 y9) (monikerref19_V6.l1 (k + 1) y0 y1 y2 y3 y4 y5 y6 y7 y8 y9)) ∧ (∀ y0 y1 y2 y3 y4 y5 y6 y7 y8 y9 y10 y11 y12, LeO (monikerref19_V6.j3 k y0 y1 y2 y3 y4 y5 y6 y7 y8 y9 y10 y11 y12) (monikerref19_V6.j3 (k + 1) y0 y1 y2 y3 y4 y5 y6 y7 y8 y9 y10 y11 y12)) ∧ (∀ y0 y1 y2 y3 y4 y5 y6 y7 y8 y9 y10, LeO (monikerref19_V6.j4 k y0 y1 y2 y3 y4 y5 y6 y7 y8 y9 y10) (monikerref19_V6.j4 (k + 1) y0 y1 y2 y3 y4 y5 y6 y7 y8 y9 y10)) ∧ (∀ y0 y1 y2 y3 y4 y5 y6 y7 y8 y9 y10, LeO (monikerref19_V6.l2 k y0 y1 y2 y3 y4 y5 y6 y7 y8 y9 y10) (monikerref19_V6.l2 (k + 1) y0 y1 y2 y3 y4 y5 y6 y7 y8 y9 y10)) ∧ (∀ y0 y1 y2 y3 y4 y5 y6 y7 y8 y9, LeO (monikerref19_V6.l3 k y0 y1 y2 y3 y4 y5 y6 y7 y8 y9) (monikerref19_V6.l3 (k + 1) y0 y1 y2 y3 y4 y5 y6 y7 y8 y9))
  | 0 => ⟨fun _ _ _ _ _ _ _ _ _ _ _ r h => by simp [monikerref19_V6.l0] at h, fun _ _ _ _ _ _ _ _ _ _ r h => by simp [monikerref19_V6.j1] at h, fun _ _ _ _ _ _ _ _ _ _ r h => by simp [monikerref19_V6.l1] at h, fun _ _ _ _ _ _ _ _ _ _ _ _ _ r h => by simp [monikerref19_V6.j3] at h, fun _ _ _ _ _ _ _ _ _ _ _ r h => by simp [monikerref19_V6.j4] at h, fun _ _ _ _ _ _ _ _ _ _ _ r h => by simp [monikerref19_V6.l2] at h, fun _ _ _ _ _ _ _ _ _ _ r h => by simp [monikerref19_V6.l3] at h⟩
  | k + 1 => by
    obtain ⟨ih0, ih1, ih2, ih3, ih4, ih5, ih6⟩ := monikerref19_V6.mono_l k
    have m0 := @monikerref01_In.mono; have m1 := @monikerref19_row.mono
    refine ⟨?_, ?_, ?_, ?_, ?_, ?_, ?_⟩
    · intro y0 y1 y2 y3 y4 y5 y6 y7 y8 y9 y10
      unfold monikerref19_V6.l0
      exact xmo
    · intro y0 y1 y2 y3 y4 y5 y6 y7 y8 y9
      unfold monikerref19_V6.j1
      exact xmo
    · intro y0 y1 y2 y3 y4 y5 y6 y7 y8 y9
      unfold monikerref19_V6.l1
      exact xmo
    · intro y0 y1 y2 y3 y4 y5 y6 y7 y8 y9 y10 y11 y12
      unfold monikerref19_V6.j3
      exact xmo
    · intro y0 y1 y2 y3 y4 y5 y6 y7 y8 y9 y10
      unfold monikerref19_V6.j4
      exact xmo
    · intro y0 y1 y2 y3 y4 y5 y6 y7 y8 y9 y10
      unfold monikerref19_V6.l2
      exact xmo
    · intro y0 y1 y2 y3 y4 y5 y6 y7 y8 y9
      unfold monikerref19_V6.l3
      exact xmo
theorem monikerref19_V6.mono : ∀ a0 k, LeO (monikerref19_V6.f k a0) (monikerref19_V6.f (k + 1) a0) := by
  intro a0 k
  obtain ⟨ih0, ih1, ih2, ih3, ih4, ih5, ih6⟩ := monikerref19_V6.mono_l k
  have m0 := @monikerref01_In.mono; have m1 := @monikerref19_row.mono
  unfold monikerref19_V6.f
  exact xmo
set_option maxHeartbeats 8000000 in
set_option maxRecDepth 100000 in
theorem monikerref19_V6.calls (k : Nat) (a0 : ByteArray) (r1 : Int) (r2 : Int) (r3 : Int) (r4 : Int) (r5 : Int) (r6 : Int) (r7 : Int) (r8 : Int) (r9 : Bool) (w : World) (h : monikerref19_V6.f k a0 = some (r1, r2, r3, r4, r5, r6, r7, r8, r9)) :
    Calls Tryd.prog 11 #[.string a0] w fun e w' => e = .returned (.tuple #[.agg #[.int .i64 r1, .int .i64 r2, .int .i64 r3, .int .i64 r4, .int .i64 r5, .int .i64 r6, .int .i64 r7, .int .i64 r8], .bool r9]) ∧ Below w.heap.size w w' := by
 have hu33 := Tryd.underlying33
 have HB := Aside0.mk (Below.refl w.heap.size w)
 have H : (monikerref19_V6.l0 k a0 (-1) 0 0 0 0 0 0 0 0 0) = some (r1, r2, r3, r4, r5, r6, r7, r8, r9) := h
 clear h
 have H' := Aside0.mk H
 clear H
 go_enter Tryd.func11, Tryd.ntmps11
 go_wp2_with (first | ((with_reducible refine gate_dst (N := 2) rfl ?_); (try (refine gate_guard (by rfl) ?_; dsimp only)); refine xev 2 #[.int .i64 0, .int .i64 0, .int .i64 0, .int .i64 0, .int .i64 0, .int .i64 0, .int .i64 0, .int .i64 0] 33 ?_; intro gb254 hg w2 hbox hb; have BK254 := Aside0.mk (hbox); have GW254 := xsz hg; have GE254 := GW254; replace HB := xst hb; clear hb hbox hg) | ((with_reducible refine gate_dst (N := 4) rfl ?_); (try (refine gate_guard (by rfl) ?_; dsimp only)); refine xev 4 #[.int .i64 0, .int .i64 0, .int .i64 0, .int .i64 0, .int .i64 0, .int .i64 0, .int .i64 0, .int .i64 0] 33 ?_; intro gb255 hg w3 hbox hb; have BK255 := Aside0.mk (hbox); have GW255 := xsz hg; have GE255 := GW255; have NB254_255 := xlt (g := gb254) hg; have NB255_254 := xgt (g := gb254) hg; replace BK254 := xbb (g := gb254) (o := .cells #[.int .i64 0, .int .i64 0, .int .i64 0, .int .i64 0, .int .i64 0, .int .i64 0, .int .i64 0, .int .i64 0] 33 (0, 0)) hb; replace HB := xst hb; clear hb hbox hg; have hnb4 := NB255_254.out; have hnc4 := NB254_255.out; obtain ⟨hcz5_0, hcz5_1, hcz5_2, hcz5_3, hcz5_4, hcz5_5, hcz5_6, hcz5_7⟩ := xc8 BK255; have hfz5_0 := xf BK255 0; have hfz5_1 := xf BK255 1; have hfz5_2 := xf BK255 2; have hfz5_3 := xf BK255 3; have hfz5_4 := xf BK255 4; have hfz5_5 := xf BK255 5; have hfz5_6 := xf BK255 6; have hfz5_7 := xf BK255 7))
 go_loopg [5, 6] k (fun kq v5 v6 w' => ∃ (x5_1 : Int) (x6_1 : Int), v5 = .int .i64 x5_1 ∧ v6 = .int .i64 x6_1 ∧ Aside0 (monikerref19_V6.l0 kq a0 x5_1 x6_1 0 0 0 0 0 0 0 0 = some (r1, r2, r3, r4, r5, r6, r7, r8, r9)) ∧ Aside0 (kq ≤ k) ∧ Aside0 (w'.heap[gb254]? = some (.cells #[.int .i64 0, .int .i64 0, .int .i64 0, .int .i64 0, .int .i64 0, .int .i64 0, .int .i64 0, .int .i64 0] 33 (0, 0))) ∧ Aside0 (w'.heap[gb255]? = some (.cells #[.int .i64 0, .int .i64 0, .int .i64 0, .int .i64 0, .int .i64 0, .int .i64 0, .int .i64 0, .int .i64 0] 33 (0, 0))) ∧ Aside0 (Below w.heap.size w w'))
 case atStart => exact ⟨((-1)), (0), xrr, xrr, H', ⟨Nat.le_refl _⟩, ⟨by (with_reducible repeat (first | refine blk_drewN ?_ _ | refine blk_drew ?_ | refine blk_alloc ?_ _)); refine blk_far ?_ NB254_255.out _; (with_reducible repeat (first | refine blk_drewN ?_ _ | refine blk_drew ?_ | refine blk_alloc ?_ _)); refine blk_far ?_ NB254_255.out _; (with_reducible repeat (first | refine blk_drewN ?_ _ | refine blk_drew ?_ | refine blk_alloc ?_ _)); refine blk_far ?_ NB254_255.out _; (with_reducible repeat (first | refine blk_drewN ?_ _ | refine blk_drew ?_ | refine blk_alloc ?_ _)); refine blk_far ?_ NB254_255.out _; (with_reducible repeat (first | refine blk_drewN ?_ _ | refine blk_drew ?_ | refine blk_alloc ?_ _)); refine blk_far ?_ NB254_255.out _; (with_reducible repeat (first | refine blk_drewN ?_ _ | refine blk_drew ?_ | refine blk_alloc ?_ _)); refine blk_far ?_ NB254_255.out _; (with_reducible repeat (first | refine blk_drewN ?_ _ | refine blk_drew ?_ | refine blk_alloc ?_ _)); refine blk_far ?_ NB254_255.out _; (with_reducible repeat (first | refine blk_drewN ?_ _ | refine blk_drew ?_ | refine blk_alloc ?_ _)); refine blk_far ?_ NB254_255.out _; (with_reducible repeat (first | refine blk_drewN ?_ _ | refine blk_drew ?_ | refine blk_alloc ?_ _)); exact BK254.out⟩, ⟨by (with_reducible repeat (first | refine blk_drewN ?_ _ | refine blk_drew ?_ | refine blk_alloc ?_ _)); refine blk_put (cs := #[.int .i64 0, .int .i64 0, .int .i64 0, .int .i64 0, .int .i64 0, .int .i64 0, .int .i64 0, .int .i64 0]) ?_ 7 _ rfl; (with_reducible repeat (first | refine blk_drewN ?_ _ | refine blk_drew ?_ | refine blk_alloc ?_ _)); refine blk_put (cs := #[.int .i64 0, .int .i64 0, .int .i64 0, .int .i64 0, .int .i64 0, .int .i64 0, .int .i64 0, .int .i64 0]) ?_ 6 _ rfl; (with_reducible repeat (first | refine blk_drewN ?_ _ | refine blk_drew ?_ | refine blk_alloc ?_ _)); refine blk_put (cs := #[.int .i64 0, .int .i64 0, .int .i64 0, .int .i64 0, .int .i64 0, .int .i64 0, .int .i64 0, .int .i64 0]) ?_ 5 _ rfl; (with_reducible repeat (first | refine blk_drewN ?_ _ | refine blk_drew ?_ | refine blk_alloc ?_ _)); refine blk_put (cs := #[.int .i64 0, .int .i64 0, .int .i64 0, .int .i64 0, .int .i64 0, .int .i64 0, .int .i64 0, .int .i64 0]) ?_ 4 _ rfl; (with_reducible repeat (first | refine blk_drewN ?_ _ | refine blk_drew ?_ | refine blk_alloc ?_ _)); refine blk_put (cs := #[.int .i64 0, .int .i64 0, .int .i64 0, .int .i64 0, .int .i64 0, .int .i64 0, .int .i64 0, .int .i64 0]) ?_ 3 _ rfl; (with_reducible repeat (first | refine blk_drewN ?_ _ | refine blk_drew ?_ | refine blk_alloc ?_ _)); refine blk_put (cs := #[.int .i64 0, .int .i64 0, .int .i64 0, .int .i64 0, .int .i64 0, .int .i64 0, .int .i64 0, .int .i64 0]) ?_ 2 _ rfl; (with_reducible repeat (first | refine blk_drewN ?_ _ | refine blk_drew ?_ | refine blk_alloc ?_ _)); refine blk_put (cs := #[.int .i64 0, .int .i64 0, .int .i64 0, .int .i64 0, .int .i64 0, .int .i64 0, .int .i64 0, .int .i64 0]) ?_ 1 _ rfl; (with_reducible repeat (first | refine blk_drewN ?_ _ | refine blk_drew ?_ | refine blk_alloc ?_ _)); refine blk_put (cs := #[.int .i64 0, .int .i64 0, .int .i64 0, .int .i64 0, .int .i64 0, .int .i64 0, .int .i64 0, .int .i64 0]) ?_ 0 _ rfl; (with_reducible repeat (first | refine blk_drewN ?_ _ | refine blk_drew ?_ | refine blk_alloc ?_ _)); exact BK255.out⟩, ⟨xbl⟩⟩
 case round =>
  clear H'
  obtain ⟨x5_1, x6_1, rfl, rfl, HA, HK1, BK254, BK255, HB⟩ := hrel
  cases gk with
  | zero => exact absurd HA.out (by simp [monikerref19_V6.l0])
  | succ k1 =>
   have H := HA.out
   clear HA
   simp only [monikerref19_V6.l0] at H
   by_cases c6 : (wrap64 (x6_1 + 1)) < (a0.size : Int)
   ·
    rw [if_pos c6] at H
    have c6b0 := decide_eq_true c6
    clear c6
    by_cases c7 : x5_1 < 0
    ·
     rw [if_pos c7] at H
     have c7b0 := decide_eq_true c7
     clear c7
     by_cases c8 : 0 ≤ x6_1
     ·
      rw [if_pos c8] at H
      have c8b0 := eq_true c8
      have c8b1 := decide_eq_true c8
      clear c8
      obtain ⟨ji9, hji9⟩ : ∃ j_ : Int, (wrap64 (x6_1 + 2)) = j_ := ⟨_, rfl⟩
      first | rw [hji9] at H | simp only [hji9] at H | skip
      have hji9w : (IntKind.i64.wrap (x6_1 + 2)) = ji9 := (i64_w _).trans hji9
      by_cases c10 : x6_1 ≤ (ji9)
      ·
       rw [if_pos c10] at H
       have c10b0 := eq_true c10
       have c10b1 := decide_eq_true c10
       clear c10
       by_cases c11 : (ji9) ≤ (a0.size : Int)
       ·
        rw [if_pos c11] at H
        have c11b0 := eq_true c11
        have c11b1 := decide_eq_true c11
        clear c11
        obtain ⟨ji12, hji12⟩ : ∃ j_ : ByteArray, (a0.extract (x6_1 : Int).toNat ((ji9) : Int).toNat) = j_ := ⟨_, rfl⟩
        try (have hji12x := hji12; simp only [Int.toNat_natCast, Int.toNat_ofNat] at hji12x)
        first | rw [hji12] at H | simp only [hji12] at H | skip
        by_cases c13 : (ji12).toList = ([58, 58] : List UInt8)
        ·
         rw [if_pos c13] at H
         have c13b0 : ((ji12).toList == ([58, 58] : List UInt8)) = true := beq_iff_eq.mpr c13
         have c13b1 : ((ji12).toList != ([58, 58] : List UInt8)) = false := bne_eq_false_iff_eq.mpr c13
         clear c13
         have H' := Aside0.mk H
         clear H
         go_wp2
         first | go_roundg k1 | (simp only [← hji9, ← hji12]; go_roundg k1)
         case measure => have := HK1.out; omega
         case rel => exact ⟨(x6_1), (wrap64 (x6_1 + 1)), xrr, xrr, H', ⟨by have := HK1.out; omega⟩, ⟨xbk⟩, ⟨xbk⟩, ⟨xbl⟩⟩
        ·
         rw [if_neg c13] at H
         have c13b0 : ((ji12).toList == ([58, 58] : List UInt8)) = false := beq_eq_false_iff_ne.mpr c13
         have c13b1 : ((ji12).toList != ([58, 58] : List UInt8)) = true := bne_iff_ne.mpr c13
         have H' := Aside0.mk H
         clear H
         go_wp2
         first | go_roundg k1 | (simp only [← hji9, ← hji12]; go_roundg k1)
         case measure => have := HK1.out; omega
         case rel => exact ⟨(x5_1), (wrap64 (x6_1 + 1)), xrr, xrr, H', ⟨by have := HK1.out; omega⟩, ⟨xbk⟩, ⟨xbk⟩, ⟨xbl⟩⟩
       ·
        rw [if_neg c11] at H
        exact absurd H (by simp)
      ·
       rw [if_neg c10] at H
       exact absurd H (by simp)
     ·
      rw [if_neg c8] at H
      exact absurd H (by simp)
    ·
     rw [if_neg c7] at H
     have c7b0 := decide_eq_false c7
     clear c7
     have H' := Aside0.mk H
     clear H
     go_wp2
     go_roundg k1
     case measure => have := HK1.out; omega
     case rel => exact ⟨(x5_1), (wrap64 (x6_1 + 1)), xrr, xrr, H', ⟨by have := HK1.out; omega⟩, ⟨xbk⟩, ⟨xbk⟩, ⟨xbl⟩⟩
   ·
    rw [if_neg c6] at H
    have c6b0 := decide_eq_false c6
    clear c6
    by_cases c14 : x5_1 < 0
    ·
     rw [if_pos c14] at H
     have c14b0 := decide_eq_true c14
     clear c14
     replace H := Option.bind_eq_some_iff.mp H
     obtain ⟨⟨t256, t257⟩, A150, H⟩ := H
     try dsimp only at H
     have A15 := Aside0.mk A150
     clear A150
     have HC16 := Aside0.mk H
     clear H
     go_upto_region 10 with (first | ((with_reducible refine gate_callee (f := 25) rfl ?_); refine xgl 39 Tryd.func25 #[.string a0] ?_; (with_reducible refine (monikerref19_row.calls k1 a0 t256 t257 _ A15.out).mono ?_); rintro e w17 ⟨v258, rfl, ho0, hb⟩; refine ⟨_, rfl, ?_⟩; have HO259 := Aside0.mk (Kd.R_lower ho0 (below_size xbl)); replace BK254 := xbb (g := gb254) (o := .cells #[.int .i64 0, .int .i64 0, .int .i64 0, .int .i64 0, .int .i64 0, .int .i64 0, .int .i64 0, .int .i64 0] 33 (0, 0)) hb; replace BK255 := xbb (g := gb255) (o := .cells #[.int .i64 0, .int .i64 0, .int .i64 0, .int .i64 0, .int .i64 0, .int .i64 0, .int .i64 0, .int .i64 0] 33 (0, 0)) hb; replace HB := xst hb; (try clear hb); (try clear ho0)))
     (try simp only [Act.put, List.setIfInBounds_toArray, List.set_cons_zero, List.set_cons_succ])
     go_cut [48] (fun v48 wc => ∃ (kq : Nat) (x48_15 : Bool), v48 = .bool x48_15 ∧ Aside0 (monikerref19_V6.j1 kq t256 x48_15 0 0 0 0 0 0 0 0 = some (r1, r2, r3, r4, r5, r6, r7, r8, r9)) ∧ Aside0 (kq ≤ k1) ∧ Aside0 (Kd.R (Kd.int .i64) 3 wc w.heap.size (fun _ => True) v258 t256) ∧ Aside0 (wc.heap[gb254]? = some (.cells #[.int .i64 0, .int .i64 0, .int .i64 0, .int .i64 0, .int .i64 0, .int .i64 0, .int .i64 0, .int .i64 0] 33 (0, 0))) ∧ Aside0 (wc.heap[gb255]? = some (.cells #[.int .i64 0, .int .i64 0, .int .i64 0, .int .i64 0, .int .i64 0, .int .i64 0, .int .i64 0, .int .i64 0] 33 (0, 0))) ∧ Aside0 (Below w.heap.size w wc))
     case first =>
      have H := HC16.out
      clear HC16
      by_cases c18 : t257 = true
      ·
       subst c18
       rw [if_pos rfl] at H
       have H' := Aside0.mk H
       clear H
       obtain ⟨Ao19, co19, eo19⟩ := Kd.R_slice HO259.out
       subst eo19
       go_wp2
       go_meet
       case rel => exact ⟨_, (((t256.length : Int) != 8)), xrr, H', ⟨by have := HK1.out; first | omega | exact Nat.le_refl _⟩, ⟨xkd HO259⟩, ⟨xbk⟩, ⟨xbk⟩, ⟨xbl⟩⟩
      ·
       replace c18 := Bool.eq_false_iff.mpr c18
       subst c18
       rw [if_neg (show ¬ (false = true) by decide)] at H
       have H' := Aside0.mk H
       clear H
       go_wp2
       go_meet
       case rel => exact ⟨_, (true), xrr, H', ⟨by have := HK1.out; first | omega | exact Nat.le_refl _⟩, ⟨xkd HO259⟩, ⟨xbk⟩, ⟨xbk⟩, ⟨xbl⟩⟩
     case rest =>
      clear HC16
      clear c6b0 c14b0
      obtain ⟨kq, x48_15, rfl, HA, HJ15, HO_7, BK254, BK255, HB⟩ := hcut
      cases kq with
      | zero => exact absurd HA.out (by simp [monikerref19_V6.j1])
      | succ kj15 =>
       have H := HA.out
       clear HA
       simp only [monikerref19_V6.j1] at H
       by_cases c20 : x48_15 = true
       ·
        subst c20
        rw [if_pos rfl] at H
        simp only [Option.some.injEq, Prod.mk.injEq] at H
        obtain ⟨rfl, rfl, rfl, rfl, rfl, rfl, rfl, rfl, rfl⟩ := H
        have hnb21 := NB255_254.out
        have hnc21 := NB254_255.out
        obtain ⟨hcz22_0, hcz22_1, hcz22_2, hcz22_3, hcz22_4, hcz22_5, hcz22_6, hcz22_7⟩ := xc8 BK255
        have hfz22_0 := xf BK255 0
        have hfz22_1 := xf BK255 1
        have hfz22_2 := xf BK255 2
        have hfz22_3 := xf BK255 3
        have hfz22_4 := xf BK255 4
        have hfz22_5 := xf BK255 5
        have hfz22_6 := xf BK255 6
        have hfz22_7 := xf BK255 7
        obtain ⟨hcz23_0, hcz23_1, hcz23_2, hcz23_3, hcz23_4, hcz23_5, hcz23_6, hcz23_7⟩ := xc8 BK254
        have hfz23_0 := xf BK254 0
        have hfz23_1 := xf BK254 1
        have hfz23_2 := xf BK254 2
        have hfz23_3 := xf BK254 3
        have hfz23_4 := xf BK254 4
        have hfz23_5 := xf BK254 5
        have hfz23_6 := xf BK254 6
        have hfz23_7 := xf BK254 7
        go_wp2
        refine bodyPost_ret (results_ct rfl _ _ gb254 33 #[.int .i64 0, .int .i64 0, .int .i64 0, .int .i64 0, .int .i64 0, .int .i64 0, .int .i64 0, .int .i64 0] (0, 0) _ rfl xbk Tryd.underlying33 rfl (by kernel_rfl)) rfl ?_
        exact ⟨xre, xbl⟩
       ·
        replace c20 := Bool.eq_false_iff.mpr c20
        subst c20
        rw [if_neg (show ¬ (false = true) by decide)] at H
        have H' := Aside0.mk H
        clear H
        go_wp2
        go_loopg [9] kj15 (fun kq v9 w' => ∃ (x9_3 : Int) (x256000_3 : Int) (x256001_3 : Int) (x256002_3 : Int) (x256003_3 : Int) (x256004_3 : Int) (x256005_3 : Int) (x256006_3 : Int) (x256007_3 : Int), v9 = .int .i64 x9_3 ∧ Aside0 (monikerref19_V6.l1 kq t256 x9_3 x256000_3 x256001_3 x256002_3 x256003_3 x256004_3 x256005_3 x256006_3 x256007_3 = some (r1, r2, r3, r4, r5, r6, r7, r8, r9)) ∧ Aside0 (kq ≤ kj15) ∧ Aside0 (Kd.R (Kd.int .i64) 3 w' w.heap.size (fun _ => True) v258 t256) ∧ Aside0 (w'.heap[gb254]? = some (.cells #[.int .i64 0, .int .i64 0, .int .i64 0, .int .i64 0, .int .i64 0, .int .i64 0, .int .i64 0, .int .i64 0] 33 (0, 0))) ∧ Aside0 (w'.heap[gb255]? = some (.cells #[.int .i64 x256000_3, .int .i64 x256001_3, .int .i64 x256002_3, .int .i64 x256003_3, .int .i64 x256004_3, .int .i64 x256005_3, .int .i64 x256006_3, .int .i64 x256007_3] 33 (0, 0))) ∧ Aside0 (Below w.heap.size w w'))
        case atStart => exact ⟨(0), (0), (0), (0), (0), (0), (0), (0), (0), xrr, H', ⟨Nat.le_refl _⟩, ⟨xkd HO_7⟩, ⟨xbk⟩, ⟨xbk⟩, ⟨xbl⟩⟩
        case round =>
         clear H'
         obtain ⟨x9_3, x256000_3, x256001_3, x256002_3, x256003_3, x256004_3, x256005_3, x256006_3, x256007_3, rfl, HA, HK3, HO_7, BK254, BK255, HB⟩ := hrel
         cases gk with
         | zero => exact absurd HA.out (by simp [monikerref19_V6.l1])
         | succ k3 =>
          have H := HA.out
          clear HA
          simp only [monikerref19_V6.l1] at H
          by_cases c24 : x9_3 < 8
          ·
           rw [if_pos c24] at H
           have c24b0 := decide_eq_true c24
           clear c24
           by_cases c25 : 0 ≤ x9_3
           ·
            rw [if_pos c25] at H
            have c25b0 := decide_eq_true c25
            clear c25
            by_cases c26 : x9_3 < (t256.length : Int)
            ·
             rw [if_pos c26] at H
             have c26b0 := decide_eq_true c26
             clear c26
             by_cases c27 : x9_3 = 0
             ·
              subst c27
              rw [if_pos rfl] at H
              have H' := Aside0.mk H
              clear H
              obtain ⟨Ao28, co28, eo28⟩ := Kd.R_slice HO_7.out
              subst eo28
              have p260 : 0 ≤ (0 : Int) := (by omega)
              have q260 : 0 < (t256.length : Int) := xod
              obtain ⟨ad260, e260, hx260_0⟩ := Kd.at_int (Kd.R_reads' HO_7.out).2.2 0 p260 q260
              cases e260
              have qi260 : (0 < t256.length) = True := eq_true (by omega)
              (try rw [show ((0 : Int)).toNat = 0 from rfl] at hx260_0)
              (try rw [Addr.add_zero'] at hx260_0)
              replace p260 := eq_true p260
              replace q260 := eq_true q260
              try (have q260x := q260; simp only [ByteArray.size_extract, Nat.min_self] at q260x)
              have hnb29 := NB255_254.out
              have hnc29 := NB254_255.out
              obtain ⟨hcz30_0, hcz30_1, hcz30_2, hcz30_3, hcz30_4, hcz30_5, hcz30_6, hcz30_7⟩ := xc8 BK255
              have hfz30_0 := xf BK255 0
              have hfz30_1 := xf BK255 1
              have hfz30_2 := xf BK255 2
              have hfz30_3 := xf BK255 3
              have hfz30_4 := xf BK255 4
              have hfz30_5 := xf BK255 5
              have hfz30_6 := xf BK255 6
              have hfz30_7 := xf BK255 7
              go_wp2
              go_roundg k3
              case measure => have := HK1.out; have := HJ15.out; have := HK3.out; omega
              case rel => exact ⟨(wrap64 (0 + 1)), (rd t256 0), (x256001_3), (x256002_3), (x256003_3), (x256004_3), (x256005_3), (x256006_3), (x256007_3), xrr, H', ⟨by have := HK1.out; have := HJ15.out; have := HK3.out; omega⟩, ⟨by (with_reducible repeat (first | apply Kd.R_alloc | apply Kd.R_drewN | apply Kd.R_drew)); exact Kd.R_mono (Kd.R_far (p := ⟨gb255, 0, none⟩) (Kd.R_types HO_7.out BK255.out (by decide)) (fun _ hk => hk.2) (.int .i64 (rd t256 0))) (fun _ hk => trivial)⟩, ⟨by (with_reducible repeat (first | refine blk_drewN ?_ _ | refine blk_drew ?_ | refine blk_alloc ?_ _)); refine blk_far ?_ NB254_255.out _; (with_reducible repeat (first | refine blk_drewN ?_ _ | refine blk_drew ?_ | refine blk_alloc ?_ _)); exact BK254.out⟩, ⟨by (with_reducible repeat (first | refine blk_drewN ?_ _ | refine blk_drew ?_ | refine blk_alloc ?_ _)); refine blk_put (cs := #[.int .i64 x256000_3, .int .i64 x256001_3, .int .i64 x256002_3, .int .i64 x256003_3, .int .i64 x256004_3, .int .i64 x256005_3, .int .i64 x256006_3, .int .i64 x256007_3]) ?_ 0 _ rfl; (with_reducible repeat (first | refine blk_drewN ?_ _ | refine blk_drew ?_ | refine blk_alloc ?_ _)); exact BK255.out⟩, ⟨xbl⟩⟩
             ·
              rw [if_neg c27] at H
              clear c27
              by_cases c31 : x9_3 = 1
              ·
               subst c31
               rw [if_pos rfl] at H
               have H' := Aside0.mk H
               clear H
               obtain ⟨Ao32, co32, eo32⟩ := Kd.R_slice HO_7.out
               subst eo32
               have p260 : 0 ≤ (1 : Int) := (by omega)
               have q260 : 1 < (t256.length : Int) := xod
               obtain ⟨ad260, e260, hx260_0⟩ := Kd.at_int (Kd.R_reads' HO_7.out).2.2 1 p260 q260
               cases e260
               (try simp only [show (1 : Int).toNat = 1 from rfl, Nat.reduceMul, Nat.reduceEqDiff, Go.Addr.add, ↓reduceIte] at hx260_0)
               have qi260 : (1 < t256.length) = True := eq_true (by omega)
               (try rw [show ((1 : Int)).toNat = 1 from rfl] at hx260_0)
               replace p260 := eq_true p260
               replace q260 := eq_true q260
               try (have q260x := q260; simp only [ByteArray.size_extract, Nat.min_self] at q260x)
               have hnb33 := NB255_254.out
               have hnc33 := NB254_255.out
               obtain ⟨hcz34_0, hcz34_1, hcz34_2, hcz34_3, hcz34_4, hcz34_5, hcz34_6, hcz34_7⟩ := xc8 BK255
               have hfz34_0 := xf BK255 0
               have hfz34_1 := xf BK255 1
               have hfz34_2 := xf BK255 2
               have hfz34_3 := xf BK255 3
               have hfz34_4 := xf BK255 4
               have hfz34_5 := xf BK255 5
               have hfz34_6 := xf BK255 6
               have hfz34_7 := xf BK255 7
               go_wp2
               go_roundg k3
               case measure => have := HK1.out; have := HJ15.out; have := HK3.out; omega
               case rel => exact ⟨(wrap64 (1 + 1)), (x256000_3), (rd t256 1), (x256002_3), (x256003_3), (x256004_3), (x256005_3), (x256006_3), (x256007_3), xrr, H', ⟨by have := HK1.out; have := HJ15.out; have := HK3.out; omega⟩, ⟨by (with_reducible repeat (first | apply Kd.R_alloc | apply Kd.R_drewN | apply Kd.R_drew)); exact Kd.R_mono (Kd.R_far (p := ⟨gb255, 1, none⟩) (Kd.R_types HO_7.out BK255.out (by decide)) (fun _ hk => hk.2) (.int .i64 (rd t256 1))) (fun _ hk => trivial)⟩, ⟨by (with_reducible repeat (first | refine blk_drewN ?_ _ | refine blk_drew ?_ | refine blk_alloc ?_ _)); refine blk_far ?_ NB254_255.out _; (with_reducible repeat (first | refine blk_drewN ?_ _ | refine blk_drew ?_ | refine blk_alloc ?_ _)); exact BK254.out⟩, ⟨by (with_reducible repeat (first | refine blk_drewN ?_ _ | refine blk_drew ?_ | refine blk_alloc ?_ _)); refine blk_put (cs := #[.int .i64 x256000_3, .int .i64 x256001_3, .int .i64 x256002_3, .int .i64 x256003_3, .int .i64 x256004_3, .int .i64 x256005_3, .int .i64 x256006_3, .int .i64 x256007_3]) ?_ 1 _ rfl; (with_reducible repeat (first | refine blk_drewN ?_ _ | refine blk_drew ?_ | refine blk_alloc ?_ _)); exact BK255.out⟩, ⟨xbl⟩⟩
              ·
               rw [if_neg c31] at H
               clear c31
               by_cases c35 : x9_3 = 2
               ·
                subst c35
                rw [if_pos rfl] at H
                have H' := Aside0.mk H
                clear H
                obtain ⟨Ao36, co36, eo36⟩ := Kd.R_slice HO_7.out
                subst eo36
                have p260 : 0 ≤ (2 : Int) := (by omega)
                have q260 : 2 < (t256.length : Int) := xod
                obtain ⟨ad260, e260, hx260_0⟩ := Kd.at_int (Kd.R_reads' HO_7.out).2.2 2 p260 q260
                cases e260
                (try simp only [show (2 : Int).toNat = 2 from rfl, Nat.reduceMul, Nat.reduceEqDiff, Go.Addr.add, ↓reduceIte] at hx260_0)
                have qi260 : (2 < t256.length) = True := eq_true (by omega)
                (try rw [show ((2 : Int)).toNat = 2 from rfl] at hx260_0)
                replace p260 := eq_true p260
                replace q260 := eq_true q260
                try (have q260x := q260; simp only [ByteArray.size_extract, Nat.min_self] at q260x)
                have hnb37 := NB255_254.out
                have hnc37 := NB254_255.out
                obtain ⟨hcz38_0, hcz38_1, hcz38_2, hcz38_3, hcz38_4, hcz38_5, hcz38_6, hcz38_7⟩ := xc8 BK255
                have hfz38_0 := xf BK255 0
                have hfz38_1 := xf BK255 1
                have hfz38_2 := xf BK255 2
                have hfz38_3 := xf BK255 3
                have hfz38_4 := xf BK255 4
                have hfz38_5 := xf BK255 5
                have hfz38_6 := xf BK255 6
                have hfz38_7 := xf BK255 7
                go_wp2
                go_roundg k3
                case measure => have := HK1.out; have := HJ15.out; have := HK3.out; omega
                case rel => exact ⟨(wrap64 (2 + 1)), (x256000_3), (x256001_3), (rd t256 2), (x256003_3), (x256004_3), (x256005_3), (x256006_3), (x256007_3), xrr, H', ⟨by have := HK1.out; have := HJ15.out; have := HK3.out; omega⟩, ⟨by (with_reducible repeat (first | apply Kd.R_alloc | apply Kd.R_drewN | apply Kd.R_drew)); exact Kd.R_mono (Kd.R_far (p := ⟨gb255, 2, none⟩) (Kd.R_types HO_7.out BK255.out (by decide)) (fun _ hk => hk.2) (.int .i64 (rd t256 2))) (fun _ hk => trivial)⟩, ⟨by (with_reducible repeat (first | refine blk_drewN ?_ _ | refine blk_drew ?_ | refine blk_alloc ?_ _)); refine blk_far ?_ NB254_255.out _; (with_reducible repeat (first | refine blk_drewN ?_ _ | refine blk_drew ?_ | refine blk_alloc ?_ _)); exact BK254.out⟩, ⟨by (with_reducible repeat (first | refine blk_drewN ?_ _ | refine blk_drew ?_ | refine blk_alloc ?_ _)); refine blk_put (cs := #[.int .i64 x256000_3, .int .i64 x256001_3, .int .i64 x256002_3, .int .i64 x256003_3, .int .i64 x256004_3, .int .i64 x256005_3, .int .i64 x256006_3, .int .i64 x256007_3]) ?_ 2 _ rfl; (with_reducible repeat (first | refine blk_drewN ?_ _ | refine blk_drew ?_ | refine blk_alloc ?_ _)); exact BK255.out⟩, ⟨xbl⟩⟩
               ·
                rw [if_neg c35] at H
                clear c35
                by_cases c39 : x9_3 = 3
                ·
                 subst c39
                 rw [if_pos rfl] at H
                 have H' := Aside0.mk H
                 clear H
                 obtain ⟨Ao40, co40, eo40⟩ := Kd.R_slice HO_7.out
                 subst eo40
                 have p260 : 0 ≤ (3 : Int) := (by omega)
                 have q260 : 3 < (t256.length : Int) := xod
                 obtain ⟨ad260, e260, hx260_0⟩ := Kd.at_int (Kd.R_reads' HO_7.out).2.2 3 p260 q260
                 cases e260
                 (try simp only [show (3 : Int).toNat = 3 from rfl, Nat.reduceMul, Nat.reduceEqDiff, Go.Addr.add, ↓reduceIte] at hx260_0)
                 have qi260 : (3 < t256.length) = True := eq_true (by omega)
                 (try rw [show ((3 : Int)).toNat = 3 from rfl] at hx260_0)
                 replace p260 := eq_true p260
                 replace q260 := eq_true q260
                 try (have q260x := q260; simp only [ByteArray.size_extract, Nat.min_self] at q260x)
                 have hnb41 := NB255_254.out
                 have hnc41 := NB254_255.out
                 obtain ⟨hcz42_0, hcz42_1, hcz42_2, hcz42_3, hcz42_4, hcz42_5, hcz42_6, hcz42_7⟩ := xc8 BK255
                 have hfz42_0 := xf BK255 0
                 have hfz42_1 := xf BK255 1
                 have hfz42_2 := xf BK255 2
                 have hfz42_3 := xf BK255 3
                 have hfz42_4 := xf BK255 4
                 have hfz42_5 := xf BK255 5
                 have hfz42_6 := xf BK255 6
                 have hfz42_7 := xf BK255 7
                 go_wp2
                 go_roundg k3
                 case measure => have := HK1.out; have := HJ15.out; have := HK3.out; omega
                 case rel => exact ⟨(wrap64 (3 + 1)), (x256000_3), (x256001_3), (x256002_3), (rd t256 3), (x256004_3), (x256005_3), (x256006_3), (x256007_3), xrr, H', ⟨by have := HK1.out; have := HJ15.out; have := HK3.out; omega⟩, ⟨by (with_reducible repeat (first | apply Kd.R_alloc | apply Kd.R_drewN | apply Kd.R_drew)); exact Kd.R_mono (Kd.R_far (p := ⟨gb255, 3, none⟩) (Kd.R_types HO_7.out BK255.out (by decide)) (fun _ hk => hk.2) (.int .i64 (rd t256 3))) (fun _ hk => trivial)⟩, ⟨by (with_reducible repeat (first | refine blk_drewN ?_ _ | refine blk_drew ?_ | refine blk_alloc ?_ _)); refine blk_far ?_ NB254_255.out _; (with_reducible repeat (first | refine blk_drewN ?_ _ | refine blk_drew ?_ | refine blk_alloc ?_ _)); exact BK254.out⟩, ⟨by (with_reducible repeat (first | refine blk_drewN ?_ _ | refine blk_drew ?_ | refine blk_alloc ?_ _)); refine blk_put (cs := #[.int .i64 x256000_3, .int .i64 x256001_3, .int .i64 x256002_3, .int .i64 x256003_3, .int .i64 x256004_3, .int .i64 x256005_3, .int .i64 x256006_3, .int .i64 x256007_3]) ?_ 3 _ rfl; (with_reducible repeat (first | refine blk_drewN ?_ _ | refine blk_drew ?_ | refine blk_alloc ?_ _)); exact BK255.out⟩, ⟨xbl⟩⟩
                ·
                 rw [if_neg c39] at H
                 clear c39
                 by_cases c43 : x9_3 = 4
                 ·
                  subst c43
                  rw [if_pos rfl] at H
                  have H' := Aside0.mk H
                  clear H
                  obtain ⟨Ao44, co44, eo44⟩ := Kd.R_slice HO_7.out
                  subst eo44
                  have p260 : 0 ≤ (4 : Int) := (by omega)
                  have q260 : 4 < (t256.length : Int) := xod
                  obtain ⟨ad260, e260, hx260_0⟩ := Kd.at_int (Kd.R_reads' HO_7.out).2.2 4 p260 q260
                  cases e260
                  (try simp only [show (4 : Int).toNat = 4 from rfl, Nat.reduceMul, Nat.reduceEqDiff, Go.Addr.add, ↓reduceIte] at hx260_0)
                  have qi260 : (4 < t256.length) = True := eq_true (by omega)
                  (try rw [show ((4 : Int)).toNat = 4 from rfl] at hx260_0)
                  replace p260 := eq_true p260
                  replace q260 := eq_true q260
                  try (have q260x := q260; simp only [ByteArray.size_extract, Nat.min_self] at q260x)
                  have hnb45 := NB255_254.out
                  have hnc45 := NB254_255.out
                  obtain ⟨hcz46_0, hcz46_1, hcz46_2, hcz46_3, hcz46_4, hcz46_5, hcz46_6, hcz46_7⟩ := xc8 BK255
                  have hfz46_0 := xf BK255 0
                  have hfz46_1 := xf BK255 1
                  have hfz46_2 := xf BK255 2
                  have hfz46_3 := xf BK255 3
                  have hfz46_4 := xf BK255 4
                  have hfz46_5 := xf BK255 5
                  have hfz46_6 := xf BK255 6
                  have hfz46_7 := xf BK255 7
                  go_wp2
                  go_roundg k3
                  case measure => have := HK1.out; have := HJ15.out; have := HK3.out; omega
                  case rel => exact ⟨(wrap64 (4 + 1)), (x256000_3), (x256001_3), (x256002_3), (x256003_3), (rd t256 4), (x256005_3), (x256006_3), (x256007_3), xrr, H', ⟨by have := HK1.out; have := HJ15.out; have := HK3.out; omega⟩, ⟨by (with_reducible repeat (first | apply Kd.R_alloc | apply Kd.R_drewN | apply Kd.R_drew)); exact Kd.R_mono (Kd.R_far (p := ⟨gb255, 4, none⟩) (Kd.R_types HO_7.out BK255.out (by decide)) (fun _ hk => hk.2) (.int .i64 (rd t256 4))) (fun _ hk => trivial)⟩, ⟨by (with_reducible repeat (first | refine blk_drewN ?_ _ | refine blk_drew ?_ | refine blk_alloc ?_ _)); refine blk_far ?_ NB254_255.out _; (with_reducible repeat (first | refine blk_drewN ?_ _ | refine blk_drew ?_ | refine blk_alloc ?_ _)); exact BK254.out⟩, ⟨by (with_reducible repeat (first | refine blk_drewN ?_ _ | refine blk_drew ?_ | refine blk_alloc ?_ _)); refine blk_put (cs := #[.int .i64 x256000_3, .int .i64 x256001_3, .int .i64 x256002_3, .int .i64 x256003_3, .int .i64 x256004_3, .int .i64 x256005_3, .int .i64 x256006_3, .int .i64 x256007_3]) ?_ 4 _ rfl; (with_reducible repeat (first | refine blk_drewN ?_ _ | refine blk_drew ?_ | refine blk_alloc ?_ _)); exact BK255.out⟩, ⟨xbl⟩⟩
                 ·
                  rw [if_neg c43] at H
                  clear c43
                  by_cases c47 : x9_3 = 5
                  ·
                   subst c47
                   rw [if_pos rfl] at H
                   have H' := Aside0.mk H
                   clear H
                   obtain ⟨Ao48, co48, eo48⟩ := Kd.R_slice HO_7.out
                   subst eo48
                   have p260 : 0 ≤ (5 : Int) := (by omega)
                   have q260 : 5 < (t256.length : Int) := xod
                   obtain ⟨ad260, e260, hx260_0⟩ := Kd.at_int (Kd.R_reads' HO_7.out).2.2 5 p260 q260
                   cases e260
                   (try simp only [show (5 : Int).toNat = 5 from rfl, Nat.reduceMul, Nat.reduceEqDiff, Go.Addr.add, ↓reduceIte] at hx260_0)
                   have qi260 : (5 < t256.length) = True := eq_true (by omega)
                   (try rw [show ((5 : Int)).toNat = 5 from rfl] at hx260_0)
                   replace p260 := eq_true p260
                   replace q260 := eq_true q260
                   try (have q260x := q260; simp only [ByteArray.size_extract, Nat.min_self] at q260x)
                   have hnb49 := NB255_254.out
                   have hnc49 := NB254_255.out
                   obtain ⟨hcz50_0, hcz50_1, hcz50_2, hcz50_3, hcz50_4, hcz50_5, hcz50_6, hcz50_7⟩ := xc8 BK255
                   have hfz50_0 := xf BK255 0
                   have hfz50_1 := xf BK255 1
                   have hfz50_2 := xf BK255 2
                   have hfz50_3 := xf BK255 3
                   have hfz50_4 := xf BK255 4
                   have hfz50_5 := xf BK255 5
                   have hfz50_6 := xf BK255 6
                   have hfz50_7 := xf BK255 7
                   go_wp2
                   go_roundg k3
                   case measure => have := HK1.out; have := HJ15.out; have := HK3.out; omega
                   case rel => exact ⟨(wrap64 (5 + 1)), (x256000_3), (x256001_3), (x256002_3), (x256003_3), (x256004_3), (rd t256 5), (x256006_3), (x256007_3), xrr, H', ⟨by have := HK1.out; have := HJ15.out; have := HK3.out; omega⟩, ⟨by (with_reducible repeat (first | apply Kd.R_alloc | apply Kd.R_drewN | apply Kd.R_drew)); exact Kd.R_mono (Kd.R_far (p := ⟨gb255, 5, none⟩) (Kd.R_types HO_7.out BK255.out (by decide)) (fun _ hk => hk.2) (.int .i64 (rd t256 5))) (fun _ hk => trivial)⟩, ⟨by (with_reducible repeat (first | refine blk_drewN ?_ _ | refine blk_drew ?_ | refine blk_alloc ?_ _)); refine blk_far ?_ NB254_255.out _; (with_reducible repeat (first | refine blk_drewN ?_ _ | refine blk_drew ?_ | refine blk_alloc ?_ _)); exact BK254.out⟩, ⟨by (with_reducible repeat (first | refine blk_drewN ?_ _ | refine blk_drew ?_ | refine blk_alloc ?_ _)); refine blk_put (cs := #[.int .i64 x256000_3, .int .i64 x256001_3, .int .i64 x256002_3, .int .i64 x256003_3, .int .i64 x256004_3, .int .i64 x256005_3, .int .i64 x256006_3, .int .i64 x256007_3]) ?_ 5 _ rfl; (with_reducible repeat (first | refine blk_drewN ?_ _ | refine blk_drew ?_ | refine blk_alloc ?_ _)); exact BK255.out⟩, ⟨xbl⟩⟩
                  ·
                   rw [if_neg c47] at H
                   clear c47
                   by_cases c51 : x9_3 = 6
                   ·
                    subst c51
                    rw [if_pos rfl] at H
                    have H' := Aside0.mk H
                    clear H
                    obtain ⟨Ao52, co52, eo52⟩ := Kd.R_slice HO_7.out
                    subst eo52
                    have p260 : 0 ≤ (6 : Int) := (by omega)
                    have q260 : 6 < (t256.length : Int) := xod
                    obtain ⟨ad260, e260, hx260_0⟩ := Kd.at_int (Kd.R_reads' HO_7.out).2.2 6 p260 q260
                    cases e260
                    (try simp only [show (6 : Int).toNat = 6 from rfl, Nat.reduceMul, Nat.reduceEqDiff, Go.Addr.add, ↓reduceIte] at hx260_0)
                    have qi260 : (6 < t256.length) = True := eq_true (by omega)
                    (try rw [show ((6 : Int)).toNat = 6 from rfl] at hx260_0)
                    replace p260 := eq_true p260
                    replace q260 := eq_true q260
                    try (have q260x := q260; simp only [ByteArray.size_extract, Nat.min_self] at q260x)
                    have hnb53 := NB255_254.out
                    have hnc53 := NB254_255.out
                    obtain ⟨hcz54_0, hcz54_1, hcz54_2, hcz54_3, hcz54_4, hcz54_5, hcz54_6, hcz54_7⟩ := xc8 BK255
                    have hfz54_0 := xf BK255 0
                    have hfz54_1 := xf BK255 1
                    have hfz54_2 := xf BK255 2
                    have hfz54_3 := xf BK255 3
                    have hfz54_4 := xf BK255 4
                    have hfz54_5 := xf BK255 5
                    have hfz54_6 := xf BK255 6
                    have hfz54_7 := xf BK255 7
                    go_wp2
                    go_roundg k3
                    case measure => have := HK1.out; have := HJ15.out; have := HK3.out; omega
                    case rel => exact ⟨(wrap64 (6 + 1)), (x256000_3), (x256001_3), (x256002_3), (x256003_3), (x256004_3), (x256005_3), (rd t256 6), (x256007_3), xrr, H', ⟨by have := HK1.out; have := HJ15.out; have := HK3.out; omega⟩, ⟨by (with_reducible repeat (first | apply Kd.R_alloc | apply Kd.R_drewN | apply Kd.R_drew)); exact Kd.R_mono (Kd.R_far (p := ⟨gb255, 6, none⟩) (Kd.R_types HO_7.out BK255.out (by decide)) (fun _ hk => hk.2) (.int .i64 (rd t256 6))) (fun _ hk => trivial)⟩, ⟨by (with_reducible repeat (first | refine blk_drewN ?_ _ | refine blk_drew ?_ | refine blk_alloc ?_ _)); refine blk_far ?_ NB254_255.out _; (with_reducible repeat (first | refine blk_drewN ?_ _ | refine blk_drew ?_ | refine blk_alloc ?_ _)); exact BK254.out⟩, ⟨by (with_reducible repeat (first | refine blk_drewN ?_ _ | refine blk_drew ?_ | refine blk_alloc ?_ _)); refine blk_put (cs := #[.int .i64 x256000_3, .int .i64 x256001_3, .int .i64 x256002_3, .int .i64 x256003_3, .int .i64 x256004_3, .int .i64 x256005_3, .int .i64 x256006_3, .int .i64 x256007_3]) ?_ 6 _ rfl; (with_reducible repeat (first | refine blk_drewN ?_ _ | refine blk_drew ?_ | refine blk_alloc ?_ _)); exact BK255.out⟩, ⟨xbl⟩⟩
                   ·
                    rw [if_neg c51] at H
                    clear c51
                    by_cases c55 : x9_3 = 7
                    ·
                     subst c55
                     rw [if_pos rfl] at H
                     have H' := Aside0.mk H
                     clear H
                     obtain ⟨Ao56, co56, eo56⟩ := Kd.R_slice HO_7.out
                     subst eo56
                     have p260 : 0 ≤ (7 : Int) := (by omega)
                     have q260 : 7 < (t256.length : Int) := xod
                     obtain ⟨ad260, e260, hx260_0⟩ := Kd.at_int (Kd.R_reads' HO_7.out).2.2 7 p260 q260
                     cases e260
                     (try simp only [show (7 : Int).toNat = 7 from rfl, Nat.reduceMul, Nat.reduceEqDiff, Go.Addr.add, ↓reduceIte] at hx260_0)
                     have qi260 : (7 < t256.length) = True := eq_true (by omega)
                     (try rw [show ((7 : Int)).toNat = 7 from rfl] at hx260_0)
                     replace p260 := eq_true p260
                     replace q260 := eq_true q260
                     try (have q260x := q260; simp only [ByteArray.size_extract, Nat.min_self] at q260x)
                     have hnb57 := NB255_254.out
                     have hnc57 := NB254_255.out
                     obtain ⟨hcz58_0, hcz58_1, hcz58_2, hcz58_3, hcz58_4, hcz58_5, hcz58_6, hcz58_7⟩ := xc8 BK255
                     have hfz58_0 := xf BK255 0
                     have hfz58_1 := xf BK255 1
                     have hfz58_2 := xf BK255 2
                     have hfz58_3 := xf BK255 3
                     have hfz58_4 := xf BK255 4
                     have hfz58_5 := xf BK255 5
                     have hfz58_6 := xf BK255 6
                     have hfz58_7 := xf BK255 7
                     go_wp2
                     go_roundg k3
                     case measure => have := HK1.out; have := HJ15.out; have := HK3.out; omega
                     case rel => exact ⟨(wrap64 (7 + 1)), (x256000_3), (x256001_3), (x256002_3), (x256003_3), (x256004_3), (x256005_3), (x256006_3), (rd t256 7), xrr, H', ⟨by have := HK1.out; have := HJ15.out; have := HK3.out; omega⟩, ⟨by (with_reducible repeat (first | apply Kd.R_alloc | apply Kd.R_drewN | apply Kd.R_drew)); exact Kd.R_mono (Kd.R_far (p := ⟨gb255, 7, none⟩) (Kd.R_types HO_7.out BK255.out (by decide)) (fun _ hk => hk.2) (.int .i64 (rd t256 7))) (fun _ hk => trivial)⟩, ⟨by (with_reducible repeat (first | refine blk_drewN ?_ _ | refine blk_drew ?_ | refine blk_alloc ?_ _)); refine blk_far ?_ NB254_255.out _; (with_reducible repeat (first | refine blk_drewN ?_ _ | refine blk_drew ?_ | refine blk_alloc ?_ _)); exact BK254.out⟩, ⟨by (with_reducible repeat (first | refine blk_drewN ?_ _ | refine blk_drew ?_ | refine blk_alloc ?_ _)); refine blk_put (cs := #[.int .i64 x256000_3, .int .i64 x256001_3, .int .i64 x256002_3, .int .i64 x256003_3, .int .i64 x256004_3, .int .i64 x256005_3, .int .i64 x256006_3, .int .i64 x256007_3]) ?_ 7 _ rfl; (with_reducible repeat (first | refine blk_drewN ?_ _ | refine blk_drew ?_ | refine blk_alloc ?_ _)); exact BK255.out⟩, ⟨xbl⟩⟩
                    ·
                     rw [if_neg c55] at H
                     clear c55
                     exact absurd H (by simp)
            ·
             rw [if_neg c26] at H
             exact absurd H (by simp)
           ·
            rw [if_neg c25] at H
            exact absurd H (by simp)
          ·
           rw [if_neg c24] at H
           have c24b0 := decide_eq_false c24
           clear c24
           simp only [Option.some.injEq, Prod.mk.injEq] at H
           obtain ⟨rfl, rfl, rfl, rfl, rfl, rfl, rfl, rfl, rfl⟩ := H
           have hnb59 := NB255_254.out
           have hnc59 := NB254_255.out
           obtain ⟨hcz60_0, hcz60_1, hcz60_2, hcz60_3, hcz60_4, hcz60_5, hcz60_6, hcz60_7⟩ := xc8 BK255
           have hfz60_0 := xf BK255 0
           have hfz60_1 := xf BK255 1
           have hfz60_2 := xf BK255 2
           have hfz60_3 := xf BK255 3
           have hfz60_4 := xf BK255 4
           have hfz60_5 := xf BK255 5
           have hfz60_6 := xf BK255 6
           have hfz60_7 := xf BK255 7
           obtain ⟨hcz61_0, hcz61_1, hcz61_2, hcz61_3, hcz61_4, hcz61_5, hcz61_6, hcz61_7⟩ := xc8 BK254
           have hfz61_0 := xf BK254 0
           have hfz61_1 := xf BK254 1
           have hfz61_2 := xf BK254 2
           have hfz61_3 := xf BK254 3
           have hfz61_4 := xf BK254 4
           have hfz61_5 := xf BK254 5
           have hfz61_6 := xf BK254 6
           have hfz61_7 := xf BK254 7
           go_wp2
           refine bodyPost_ret (results_ct rfl _ _ gb254 33 #[.int .i64 x256000_3, .int .i64 x256001_3, .int .i64 x256002_3, .int .i64 x256003_3, .int .i64 x256004_3, .int .i64 x256005_3, .int .i64 x256006_3, .int .i64 x256007_3] (0, 0) _ rfl xbk Tryd.underlying33 rfl (by kernel_rfl)) rfl ?_
           exact ⟨xre, xbl⟩
    ·
     rw [if_neg c14] at H
     have c14b0 := decide_eq_false c14
     clear c14
     by_cases c62 : 0 ≤ x5_1
     ·
      rw [if_pos c62] at H
      have c62b0 := eq_true c62
      have c62b1 := decide_eq_true c62
      clear c62
      by_cases c63 : x5_1 ≤ (a0.size : Int)
      ·
       rw [if_pos c63] at H
       have c63b0 := eq_true c63
       have c63b1 := decide_eq_true c63
       clear c63
       obtain ⟨ji64, hji64⟩ : ∃ j_ : ByteArray, (a0.extract 0 (x5_1 : Int).toNat) = j_ := ⟨_, rfl⟩
       try (have hji64x := hji64; simp only [Int.toNat_natCast, Int.toNat_ofNat] at hji64x)
       first | rw [hji64] at H | simp only [hji64] at H | skip
       replace H := Option.bind_eq_some_iff.mp H
       obtain ⟨⟨t261, t262⟩, A650, H⟩ := H
       try dsimp only at H
       have A65 := Aside0.mk A650
       clear A650
       obtain ⟨ji66, hji66⟩ : ∃ j_ : Int, (wrap64 (x5_1 + 2)) = j_ := ⟨_, rfl⟩
       first | rw [hji66] at H | simp only [hji66] at H | skip
       (try rw [hji66] at A65)
       have hji66w : (IntKind.i64.wrap (x5_1 + 2)) = ji66 := (i64_w _).trans hji66
       by_cases c67 : 0 ≤ (ji66)
       ·
        rw [if_pos c67] at H
        have c67b0 := eq_true c67
        have c67b1 := decide_eq_true c67
        clear c67
        by_cases c68 : (ji66) ≤ (a0.size : Int)
        ·
         rw [if_pos c68] at H
         have c68b0 := eq_true c68
         have c68b1 := decide_eq_true c68
         clear c68
         obtain ⟨ji69, hji69⟩ : ∃ j_ : ByteArray, (a0.extract ((ji66) : Int).toNat a0.size) = j_ := ⟨_, rfl⟩
         try (have hji69x := hji69; simp only [Int.toNat_natCast, Int.toNat_ofNat] at hji69x)
         first | rw [hji69] at H | simp only [hji69] at H | skip
         (try rw [hji69] at A65)
         replace H := Option.bind_eq_some_iff.mp H
         obtain ⟨⟨t265, t266⟩, A700, H⟩ := H
         try dsimp only at H
         have A70 := Aside0.mk A700
         clear A700
         have HC71 := Aside0.mk H
         clear H
         go_upto_region 19 with (first | ((with_reducible refine gate_callee (f := 25) rfl ?_); refine goesL_ (some 65) rfl rfl Tryd.func25 (by kernel_rfl) rfl #[.string ji64] rfl (by (try simp only [List.map_toArray, List.map_cons, List.map_nil]); first | done | (simp only [hji64]; rfl) | rfl | (simp only [List.length_drop, List.length_take]; rfl)) ?_; (with_reducible refine (monikerref19_row.calls k1 ji64 t261 t262 _ A65.out).mono ?_); rintro e w72 ⟨v263, rfl, ho0, hb⟩; refine ⟨_, rfl, ?_⟩; have HO264 := Aside0.mk (Kd.R_lower ho0 (below_size xbl)); replace BK254 := xbb (g := gb254) (o := .cells #[.int .i64 0, .int .i64 0, .int .i64 0, .int .i64 0, .int .i64 0, .int .i64 0, .int .i64 0, .int .i64 0] 33 (0, 0)) hb; replace BK255 := xbb (g := gb255) (o := .cells #[.int .i64 0, .int .i64 0, .int .i64 0, .int .i64 0, .int .i64 0, .int .i64 0, .int .i64 0, .int .i64 0] 33 (0, 0)) hb; replace HB := xst hb; (try clear hb); (try clear ho0)) | ((with_reducible refine gate_callee (f := 25) rfl ?_); refine goesL_ (some 73) rfl rfl Tryd.func25 (by kernel_rfl) rfl #[.string ji69] rfl (by (try simp only [List.map_toArray, List.map_cons, List.map_nil]); first | done | (simp only [hji69]; rfl) | rfl | (simp only [List.length_drop, List.length_take]; rfl)) ?_; (with_reducible refine (monikerref19_row.calls k1 ji69 t265 t266 _ A70.out).mono ?_); rintro e w73 ⟨v267, rfl, ho0, hb⟩; refine ⟨_, rfl, ?_⟩; have HO268 := Aside0.mk (Kd.R_lower (Kd.R_new' ho0 (Kd.R_lt (xkd HO264))) (below_size xbl)); replace HO264 := Aside0.mk (Kd.R_elder' (xkd HO264) (Kd.R_base ho0) hb); replace BK254 := xbb (g := gb254) (o := .cells #[.int .i64 0, .int .i64 0, .int .i64 0, .int .i64 0, .int .i64 0, .int .i64 0, .int .i64 0, .int .i64 0] 33 (0, 0)) hb; replace BK255 := xbb (g := gb255) (o := .cells #[.int .i64 0, .int .i64 0, .int .i64 0, .int .i64 0, .int .i64 0, .int .i64 0, .int .i64 0, .int .i64 0] 33 (0, 0)) hb; replace HB := xst hb; (try clear hb); (try clear ho0)))
         (try simp only [Act.put, List.setIfInBounds_toArray, List.set_cons_zero, List.set_cons_succ])
         go_cut [89] (fun v89 wc => ∃ (kq : Nat) (x89_70 : Bool), v89 = .bool x89_70 ∧ Aside0 (monikerref19_V6.j3 kq a0 x5_1 t261 t265 x89_70 0 0 0 0 0 0 0 0 = some (r1, r2, r3, r4, r5, r6, r7, r8, r9)) ∧ Aside0 (kq ≤ k1) ∧ Aside0 (Kd.R (Kd.int .i64) 3 wc w.heap.size (fun k_ => some k_ ≠ (v267 : Value).ownBlock) v263 t261) ∧ Aside0 (Kd.R (Kd.int .i64) 3 wc w.heap.size (fun k_ => some k_ ≠ (v263 : Value).ownBlock) v267 t265) ∧ Aside0 (wc.heap[gb254]? = some (.cells #[.int .i64 0, .int .i64 0, .int .i64 0, .int .i64 0, .int .i64 0, .int .i64 0, .int .i64 0, .int .i64 0] 33 (0, 0))) ∧ Aside0 (wc.heap[gb255]? = some (.cells #[.int .i64 0, .int .i64 0, .int .i64 0, .int .i64 0, .int .i64 0, .int .i64 0, .int .i64 0, .int .i64 0] 33 (0, 0))) ∧ Aside0 (Below w.heap.size w wc))
         case first =>
          have H := HC71.out
          clear HC71
          by_cases c74 : t262 = true
          ·
           subst c74
           rw [if_pos rfl] at H
           by_cases c75 : t266 = true
           ·
            subst c75
            rw [if_pos rfl] at H
            have H' := Aside0.mk H
            clear H
            obtain ⟨Ao76, co76, eo76⟩ := Kd.R_slice HO264.out
            subst eo76
            obtain ⟨Ao77, co77, eo77⟩ := Kd.R_slice HO268.out
            subst eo77
            go_wp2
            go_meet
            case rel => exact ⟨_, (decide ((wrap64 ((t261.length : Int) + (t265.length : Int))) > 7)), xrr, H', ⟨by have := HK1.out; first | omega | exact Nat.le_refl _⟩, ⟨by (with_reducible repeat (first | apply Kd.R_alloc | apply Kd.R_drewN | apply Kd.R_drew)); exact Kd.R_mono HO264.out (fun _ hk => hk.2)⟩, ⟨by (with_reducible repeat (first | apply Kd.R_alloc | apply Kd.R_drewN | apply Kd.R_drew)); exact Kd.R_mono HO268.out (fun _ hk => hk.2)⟩, ⟨xbk⟩, ⟨xbk⟩, ⟨xbl⟩⟩
           ·
            replace c75 := Bool.eq_false_iff.mpr c75
            subst c75
            rw [if_neg (show ¬ (false = true) by decide)] at H
            have H' := Aside0.mk H
            clear H
            go_wp2
            go_meet
            case rel => exact ⟨_, (true), xrr, H', ⟨by have := HK1.out; first | omega | exact Nat.le_refl _⟩, ⟨by (with_reducible repeat (first | apply Kd.R_alloc | apply Kd.R_drewN | apply Kd.R_drew)); exact Kd.R_mono HO264.out (fun _ hk => hk.2)⟩, ⟨by (with_reducible repeat (first | apply Kd.R_alloc | apply Kd.R_drewN | apply Kd.R_drew)); exact Kd.R_mono HO268.out (fun _ hk => hk.2)⟩, ⟨xbk⟩, ⟨xbk⟩, ⟨xbl⟩⟩
          ·
           replace c74 := Bool.eq_false_iff.mpr c74
           subst c74
           rw [if_neg (show ¬ (false = true) by decide)] at H
           have H' := Aside0.mk H
           clear H
           go_wp2
           go_meet
           case rel => exact ⟨_, (true), xrr, H', ⟨by have := HK1.out; first | omega | exact Nat.le_refl _⟩, ⟨by (with_reducible repeat (first | apply Kd.R_alloc | apply Kd.R_drewN | apply Kd.R_drew)); exact Kd.R_mono HO264.out (fun _ hk => hk.2)⟩, ⟨by (with_reducible repeat (first | apply Kd.R_alloc | apply Kd.R_drewN | apply Kd.R_drew)); exact Kd.R_mono HO268.out (fun _ hk => hk.2)⟩, ⟨xbk⟩, ⟨xbk⟩, ⟨xbl⟩⟩
         case rest =>
          clear HC71
          clear c14b0 c62b0 c62b1 c63b0 c63b1 c67b0 c67b1 c68b0 c68b1
          try clear hx260_0
          obtain ⟨kq, x89_70, rfl, HA, HJ70, HO_10, HO_12, BK254, BK255, HB⟩ := hcut
          cases kq with
          | zero => exact absurd HA.out (by simp [monikerref19_V6.j3])
          | succ kj70 =>
           have H := HA.out
           clear HA
           simp only [monikerref19_V6.j3] at H
           by_cases c78 : x89_70 = true
           ·
            subst c78
            rw [if_pos rfl] at H
            simp only [Option.some.injEq, Prod.mk.injEq] at H
            obtain ⟨rfl, rfl, rfl, rfl, rfl, rfl, rfl, rfl, rfl⟩ := H
            have hnb79 := NB255_254.out
            have hnc79 := NB254_255.out
            obtain ⟨hcz80_0, hcz80_1, hcz80_2, hcz80_3, hcz80_4, hcz80_5, hcz80_6, hcz80_7⟩ := xc8 BK255
            have hfz80_0 := xf BK255 0
            have hfz80_1 := xf BK255 1
            have hfz80_2 := xf BK255 2
            have hfz80_3 := xf BK255 3
            have hfz80_4 := xf BK255 4
            have hfz80_5 := xf BK255 5
            have hfz80_6 := xf BK255 6
            have hfz80_7 := xf BK255 7
            obtain ⟨hcz81_0, hcz81_1, hcz81_2, hcz81_3, hcz81_4, hcz81_5, hcz81_6, hcz81_7⟩ := xc8 BK254
            have hfz81_0 := xf BK254 0
            have hfz81_1 := xf BK254 1
            have hfz81_2 := xf BK254 2
            have hfz81_3 := xf BK254 3
            have hfz81_4 := xf BK254 4
            have hfz81_5 := xf BK254 5
            have hfz81_6 := xf BK254 6
            have hfz81_7 := xf BK254 7
            go_wp2
            refine bodyPost_ret (results_ct rfl _ _ gb254 33 #[.int .i64 0, .int .i64 0, .int .i64 0, .int .i64 0, .int .i64 0, .int .i64 0, .int .i64 0, .int .i64 0] (0, 0) _ rfl xbk Tryd.underlying33 rfl (by kernel_rfl)) rfl ?_
            exact ⟨by first | rfl | (simp [errW_none, errW_some] <;> first | rfl | (simp only [xp_isEmpty, bne, Bool.not_not]; done)) | (simp only [← hji64, ← hji66, ← hji69]; first | rfl | (simp [errW_none, errW_some] <;> rfl)) | (simp [*, errW_none, errW_some] <;> rfl), xbl⟩
           ·
            replace c78 := Bool.eq_false_iff.mpr c78
            subst c78
            rw [if_neg (show ¬ (false = true) by decide)] at H
            have HC82 := Aside0.mk H
            clear H
            go_upto_region 21 with (fail)
            go_cut [98] (fun v98 wc => ∃ (kq : Nat) (x98_81 : Bool), v98 = .bool x98_81 ∧ Aside0 (monikerref19_V6.j4 kq t261 t265 x98_81 0 0 0 0 0 0 0 0 = some (r1, r2, r3, r4, r5, r6, r7, r8, r9)) ∧ Aside0 (kq ≤ kj70) ∧ Aside0 (Kd.R (Kd.int .i64) 3 wc w.heap.size (fun k_ => some k_ ≠ (v267 : Value).ownBlock) v263 t261) ∧ Aside0 (Kd.R (Kd.int .i64) 3 wc w.heap.size (fun k_ => some k_ ≠ (v263 : Value).ownBlock) v267 t265) ∧ Aside0 (wc.heap[gb254]? = some (.cells #[.int .i64 0, .int .i64 0, .int .i64 0, .int .i64 0, .int .i64 0, .int .i64 0, .int .i64 0, .int .i64 0] 33 (0, 0))) ∧ Aside0 (wc.heap[gb255]? = some (.cells #[.int .i64 0, .int .i64 0, .int .i64 0, .int .i64 0, .int .i64 0, .int .i64 0, .int .i64 0, .int .i64 0] 33 (0, 0))) ∧ Aside0 (Below w.heap.size w wc))
            case first =>
             have H := HC82.out
             clear HC82
             by_cases c83 : x5_1 > 0
             ·
              rw [if_pos c83] at H
              have c83b0 := decide_eq_true c83
              clear c83
              (first | rw [c83b0] | (simp only [i64_w, i32_w]; rw [c83b0]) | skip)
              by_cases c84 : 0 ≤ x5_1
              ·
               rw [if_pos c84] at H
               have c84b0 := eq_true c84
               have c84b1 := decide_eq_true c84
               clear c84
               by_cases c85 : x5_1 ≤ (a0.size : Int)
               ·
                rw [if_pos c85] at H
                have c85b0 := eq_true c85
                have c85b1 := decide_eq_true c85
                clear c85
                first | rw [hji64] at H | simp only [hji64] at H | skip
                replace H := Option.bind_eq_some_iff.mp H
                obtain ⟨t269, A860, H⟩ := H
                try dsimp only at H
                have A86 := Aside0.mk A860
                clear A860
                have H' := Aside0.mk H
                clear H
                go_wp2_with (first | (go_at_call 26; (with_reducible refine (monikerref01_In.calls kj70 46 ji64 t269 _ A86.out).mono ?_); rintro e w' ⟨rfl, ⟨nd, rfl⟩⟩))
                go_meet
                case rel => exact ⟨_, (t269), xrr, H', ⟨by have := HK1.out; have := HJ70.out; first | omega | exact Nat.le_refl _⟩, ⟨xkd HO_10⟩, ⟨xkd HO_12⟩, ⟨xbk⟩, ⟨xbk⟩, ⟨xbl⟩⟩
               ·
                rw [if_neg c85] at H
                exact absurd H (by simp)
              ·
               rw [if_neg c84] at H
               exact absurd H (by simp)
             ·
              rw [if_neg c83] at H
              have c83b0 := decide_eq_false c83
              clear c83
              (first | rw [c83b0] | (simp only [i64_w, i32_w]; rw [c83b0]) | skip)
              have H' := Aside0.mk H
              clear H
              go_wp2
              go_meet
              case rel => exact ⟨_, (false), xrr, H', ⟨by have := HK1.out; have := HJ70.out; first | omega | exact Nat.le_refl _⟩, ⟨xkd HO_10⟩, ⟨xkd HO_12⟩, ⟨xbk⟩, ⟨xbk⟩, ⟨xbl⟩⟩
            case rest =>
             clear HC82
             try clear hx260_0
             obtain ⟨kq, x98_81, rfl, HA, HJ81, HO_10, HO_12, BK254, BK255, HB⟩ := hcut
             cases kq with
             | zero => exact absurd HA.out (by simp [monikerref19_V6.j4])
             | succ kj81 =>
              have H := HA.out
              clear HA
              simp only [monikerref19_V6.j4] at H
              by_cases c87 : x98_81 = true
              ·
               subst c87
               rw [if_pos rfl] at H
               simp only [Option.some.injEq, Prod.mk.injEq] at H
               obtain ⟨rfl, rfl, rfl, rfl, rfl, rfl, rfl, rfl, rfl⟩ := H
               have hnb88 := NB255_254.out
               have hnc88 := NB254_255.out
               obtain ⟨hcz89_0, hcz89_1, hcz89_2, hcz89_3, hcz89_4, hcz89_5, hcz89_6, hcz89_7⟩ := xc8 BK255
               have hfz89_0 := xf BK255 0
               have hfz89_1 := xf BK255 1
               have hfz89_2 := xf BK255 2
               have hfz89_3 := xf BK255 3
               have hfz89_4 := xf BK255 4
               have hfz89_5 := xf BK255 5
               have hfz89_6 := xf BK255 6
               have hfz89_7 := xf BK255 7
               obtain ⟨hcz90_0, hcz90_1, hcz90_2, hcz90_3, hcz90_4, hcz90_5, hcz90_6, hcz90_7⟩ := xc8 BK254
               have hfz90_0 := xf BK254 0
               have hfz90_1 := xf BK254 1
               have hfz90_2 := xf BK254 2
               have hfz90_3 := xf BK254 3
               have hfz90_4 := xf BK254 4
               have hfz90_5 := xf BK254 5
               have hfz90_6 := xf BK254 6
               have hfz90_7 := xf BK254 7
               go_wp2
               refine bodyPost_ret (results_ct rfl _ _ gb254 33 #[.int .i64 0, .int .i64 0, .int .i64 0, .int .i64 0, .int .i64 0, .int .i64 0, .int .i64 0, .int .i64 0] (0, 0) _ rfl xbk Tryd.underlying33 rfl (by kernel_rfl)) rfl ?_
               exact ⟨by first | rfl | (simp [errW_none, errW_some] <;> first | rfl | (simp only [xp_isEmpty, bne, Bool.not_not]; done)) | (simp only [← hji64, ← hji66, ← hji69]; first | rfl | (simp [errW_none, errW_some] <;> rfl)) | (simp [*, errW_none, errW_some] <;> rfl), xbl⟩
              ·
               replace c87 := Bool.eq_false_iff.mpr c87
               subst c87
               rw [if_neg (show ¬ (false = true) by decide)] at H
               have H' := Aside0.mk H
               clear H
               go_wp2
               go_loopg [14] kj81 (fun kq v14 w' => ∃ (x14_4 : Int) (x256000_4 : Int) (x256001_4 : Int) (x256002_4 : Int) (x256003_4 : Int) (x256004_4 : Int) (x256005_4 : Int) (x256006_4 : Int) (x256007_4 : Int), v14 = .int .i64 x14_4 ∧ Aside0 (monikerref19_V6.l2 kq t261 t265 x14_4 x256000_4 x256001_4 x256002_4 x256003_4 x256004_4 x256005_4 x256006_4 x256007_4 = some (r1, r2, r3, r4, r5, r6, r7, r8, r9)) ∧ Aside0 (kq ≤ kj81) ∧ Aside0 (Kd.R (Kd.int .i64) 3 w' w.heap.size (fun k_ => some k_ ≠ (v267 : Value).ownBlock) v263 t261) ∧ Aside0 (Kd.R (Kd.int .i64) 3 w' w.heap.size (fun k_ => some k_ ≠ (v263 : Value).ownBlock) v267 t265) ∧ Aside0 (w'.heap[gb254]? = some (.cells #[.int .i64 0, .int .i64 0, .int .i64 0, .int .i64 0, .int .i64 0, .int .i64 0, .int .i64 0, .int .i64 0] 33 (0, 0))) ∧ Aside0 (w'.heap[gb255]? = some (.cells #[.int .i64 x256000_4, .int .i64 x256001_4, .int .i64 x256002_4, .int .i64 x256003_4, .int .i64 x256004_4, .int .i64 x256005_4, .int .i64 x256006_4, .int .i64 x256007_4] 33 (0, 0))) ∧ Aside0 (Below w.heap.size w w'))
               case atStart => exact ⟨(0), (0), (0), (0), (0), (0), (0), (0), (0), xrr, H', ⟨Nat.le_refl _⟩, ⟨xkd HO_10⟩, ⟨xkd HO_12⟩, ⟨xbk⟩, ⟨xbk⟩, ⟨xbl⟩⟩
               case round =>
                clear H'
                try clear hx260_0
                obtain ⟨x14_4, x256000_4, x256001_4, x256002_4, x256003_4, x256004_4, x256005_4, x256006_4, x256007_4, rfl, HA, HK4, HO_10, HO_12, BK254, BK255, HB⟩ := hrel
                cases gk with
                | zero => exact absurd HA.out (by simp [monikerref19_V6.l2])
                | succ k4 =>
                 have H := HA.out
                 clear HA
                 simp only [monikerref19_V6.l2] at H
                 by_cases c91 : x14_4 < (t261.length : Int)
                 ·
                  rw [if_pos c91] at H
                  have c91b0 := decide_eq_true c91
                  clear c91
                  by_cases c92 : 0 ≤ x14_4
                  ·
                   rw [if_pos c92] at H
                   have c92b0 := decide_eq_true c92
                   clear c92
                   by_cases c93 : x14_4 = 0
                   ·
                    subst c93
                    rw [if_pos rfl] at H
                    have H' := Aside0.mk H
                    clear H
                    obtain ⟨Ao94, co94, eo94⟩ := Kd.R_slice HO_10.out
                    subst eo94
                    have p270 : 0 ≤ (0 : Int) := (by omega)
                    have q270 : 0 < (t261.length : Int) := xod
                    obtain ⟨ad270, e270, hx270_0⟩ := Kd.at_int (Kd.R_reads' HO_10.out).2.2 0 p270 q270
                    cases e270
                    have qi270 : (0 < t261.length) = True := eq_true (by omega)
                    (try rw [show ((0 : Int)).toNat = 0 from rfl] at hx270_0)
                    (try rw [Addr.add_zero'] at hx270_0)
                    replace p270 := eq_true p270
                    replace q270 := eq_true q270
                    try (have q270x := q270; simp only [ByteArray.size_extract, Nat.min_self] at q270x)
                    have hnb95 := NB255_254.out
                    have hnc95 := NB254_255.out
                    obtain ⟨hcz96_0, hcz96_1, hcz96_2, hcz96_3, hcz96_4, hcz96_5, hcz96_6, hcz96_7⟩ := xc8 BK255
                    have hfz96_0 := xf BK255 0
                    have hfz96_1 := xf BK255 1
                    have hfz96_2 := xf BK255 2
                    have hfz96_3 := xf BK255 3
                    have hfz96_4 := xf BK255 4
                    have hfz96_5 := xf BK255 5
                    have hfz96_6 := xf BK255 6
                    have hfz96_7 := xf BK255 7
                    go_wp2
                    go_roundg k4
                    case measure => have := HK1.out; have := HJ70.out; have := HJ81.out; have := HK4.out; omega
                    case rel => exact ⟨(wrap64 (0 + 1)), (rd t261 0), (x256001_4), (x256002_4), (x256003_4), (x256004_4), (x256005_4), (x256006_4), (x256007_4), xrr, H', ⟨by have := HK1.out; have := HJ70.out; have := HJ81.out; have := HK4.out; omega⟩, ⟨by (with_reducible repeat (first | apply Kd.R_alloc | apply Kd.R_drewN | apply Kd.R_drew)); exact Kd.R_mono (Kd.R_far (p := ⟨gb255, 0, none⟩) (Kd.R_types HO_10.out BK255.out (by decide)) (fun _ hk => hk.2) (.int .i64 (rd t261 0))) (fun _ hk => hk.1)⟩, ⟨by (with_reducible repeat (first | apply Kd.R_alloc | apply Kd.R_drewN | apply Kd.R_drew)); exact Kd.R_mono (Kd.R_far (p := ⟨gb255, 0, none⟩) (Kd.R_types HO_12.out BK255.out (by decide)) (fun _ hk => hk.2) (.int .i64 (rd t261 0))) (fun _ hk => hk.1)⟩, ⟨by (with_reducible repeat (first | refine blk_drewN ?_ _ | refine blk_drew ?_ | refine blk_alloc ?_ _)); refine blk_far ?_ NB254_255.out _; (with_reducible repeat (first | refine blk_drewN ?_ _ | refine blk_drew ?_ | refine blk_alloc ?_ _)); exact BK254.out⟩, ⟨by (with_reducible repeat (first | refine blk_drewN ?_ _ | refine blk_drew ?_ | refine blk_alloc ?_ _)); refine blk_put (cs := #[.int .i64 x256000_4, .int .i64 x256001_4, .int .i64 x256002_4, .int .i64 x256003_4, .int .i64 x256004_4, .int .i64 x256005_4, .int .i64 x256006_4, .int .i64 x256007_4]) ?_ 0 _ rfl; (with_reducible repeat (first | refine blk_drewN ?_ _ | refine blk_drew ?_ | refine blk_alloc ?_ _)); exact BK255.out⟩, ⟨xbl⟩⟩
                   ·
                    rw [if_neg c93] at H
                    clear c93
                    by_cases c97 : x14_4 = 1
                    ·
                     subst c97
                     rw [if_pos rfl] at H
                     have H' := Aside0.mk H
                     clear H
                     obtain ⟨Ao98, co98, eo98⟩ := Kd.R_slice HO_10.out
                     subst eo98
                     have p270 : 0 ≤ (1 : Int) := (by omega)
                     have q270 : 1 < (t261.length : Int) := xod
                     obtain ⟨ad270, e270, hx270_0⟩ := Kd.at_int (Kd.R_reads' HO_10.out).2.2 1 p270 q270
                     cases e270
                     (try simp only [show (1 : Int).toNat = 1 from rfl, Nat.reduceMul, Nat.reduceEqDiff, Go.Addr.add, ↓reduceIte] at hx270_0)
                     have qi270 : (1 < t261.length) = True := eq_true (by omega)
                     (try rw [show ((1 : Int)).toNat = 1 from rfl] at hx270_0)
                     replace p270 := eq_true p270
                     replace q270 := eq_true q270
                     try (have q270x := q270; simp only [ByteArray.size_extract, Nat.min_self] at q270x)
                     have hnb99 := NB255_254.out
                     have hnc99 := NB254_255.out
                     obtain ⟨hcz100_0, hcz100_1, hcz100_2, hcz100_3, hcz100_4, hcz100_5, hcz100_6, hcz100_7⟩ := xc8 BK255
                     have hfz100_0 := xf BK255 0
                     have hfz100_1 := xf BK255 1
                     have hfz100_2 := xf BK255 2
                     have hfz100_3 := xf BK255 3
                     have hfz100_4 := xf BK255 4
                     have hfz100_5 := xf BK255 5
                     have hfz100_6 := xf BK255 6
                     have hfz100_7 := xf BK255 7
                     go_wp2
                     go_roundg k4
                     case measure => have := HK1.out; have := HJ70.out; have := HJ81.out; have := HK4.out; omega
                     case rel => exact ⟨(wrap64 (1 + 1)), (x256000_4), (rd t261 1), (x256002_4), (x256003_4), (x256004_4), (x256005_4), (x256006_4), (x256007_4), xrr, H', ⟨by have := HK1.out; have := HJ70.out; have := HJ81.out; have := HK4.out; omega⟩, ⟨by (with_reducible repeat (first | apply Kd.R_alloc | apply Kd.R_drewN | apply Kd.R_drew)); exact Kd.R_mono (Kd.R_far (p := ⟨gb255, 1, none⟩) (Kd.R_types HO_10.out BK255.out (by decide)) (fun _ hk => hk.2) (.int .i64 (rd t261 1))) (fun _ hk => hk.1)⟩, ⟨by (with_reducible repeat (first | apply Kd.R_alloc | apply Kd.R_drewN | apply Kd.R_drew)); exact Kd.R_mono (Kd.R_far (p := ⟨gb255, 1, none⟩) (Kd.R_types HO_12.out BK255.out (by decide)) (fun _ hk => hk.2) (.int .i64 (rd t261 1))) (fun _ hk => hk.1)⟩, ⟨by (with_reducible repeat (first | refine blk_drewN ?_ _ | refine blk_drew ?_ | refine blk_alloc ?_ _)); refine blk_far ?_ NB254_255.out _; (with_reducible repeat (first | refine blk_drewN ?_ _ | refine blk_drew ?_ | refine blk_alloc ?_ _)); exact BK254.out⟩, ⟨by (with_reducible repeat (first | refine blk_drewN ?_ _ | refine blk_drew ?_ | refine blk_alloc ?_ _)); refine blk_put (cs := #[.int .i64 x256000_4, .int .i64 x256001_4, .int .i64 x256002_4, .int .i64 x256003_4, .int .i64 x256004_4, .int .i64 x256005_4, .int .i64 x256006_4, .int .i64 x256007_4]) ?_ 1 _ rfl; (with_reducible repeat (first | refine blk_drewN ?_ _ | refine blk_drew ?_ | refine blk_alloc ?_ _)); exact BK255.out⟩, ⟨xbl⟩⟩
                    ·
                     rw [if_neg c97] at H
                     clear c97
                     by_cases c101 : x14_4 = 2
                     ·
                      subst c101
                      rw [if_pos rfl] at H
                      have H' := Aside0.mk H
                      clear H
                      obtain ⟨Ao102, co102, eo102⟩ := Kd.R_slice HO_10.out
                      subst eo102
                      have p270 : 0 ≤ (2 : Int) := (by omega)
                      have q270 : 2 < (t261.length : Int) := xod
                      obtain ⟨ad270, e270, hx270_0⟩ := Kd.at_int (Kd.R_reads' HO_10.out).2.2 2 p270 q270
                      cases e270
                      (try simp only [show (2 : Int).toNat = 2 from rfl, Nat.reduceMul, Nat.reduceEqDiff, Go.Addr.add, ↓reduceIte] at hx270_0)
                      have qi270 : (2 < t261.length) = True := eq_true (by omega)
                      (try rw [show ((2 : Int)).toNat = 2 from rfl] at hx270_0)
                      replace p270 := eq_true p270
                      replace q270 := eq_true q270
                      try (have q270x := q270; simp only [ByteArray.size_extract, Nat.min_self] at q270x)
                      have hnb103 := NB255_254.out
                      have hnc103 := NB254_255.out
                      obtain ⟨hcz104_0, hcz104_1, hcz104_2, hcz104_3, hcz104_4, hcz104_5, hcz104_6, hcz104_7⟩ := xc8 BK255
                      have hfz104_0 := xf BK255 0
                      have hfz104_1 := xf BK255 1
                      have hfz104_2 := xf BK255 2
                      have hfz104_3 := xf BK255 3
                      have hfz104_4 := xf BK255 4
                      have hfz104_5 := xf BK255 5
                      have hfz104_6 := xf BK255 6
                      have hfz104_7 := xf BK255 7
                      go_wp2
                      go_roundg k4
                      case measure => have := HK1.out; have := HJ70.out; have := HJ81.out; have := HK4.out; omega
                      case rel => exact ⟨(wrap64 (2 + 1)), (x256000_4), (x256001_4), (rd t261 2), (x256003_4), (x256004_4), (x256005_4), (x256006_4), (x256007_4), xrr, H', ⟨by have := HK1.out; have := HJ70.out; have := HJ81.out; have := HK4.out; omega⟩, ⟨by (with_reducible repeat (first | apply Kd.R_alloc | apply Kd.R_drewN | apply Kd.R_drew)); exact Kd.R_mono (Kd.R_far (p := ⟨gb255, 2, none⟩) (Kd.R_types HO_10.out BK255.out (by decide)) (fun _ hk => hk.2) (.int .i64 (rd t261 2))) (fun _ hk => hk.1)⟩, ⟨by (with_reducible repeat (first | apply Kd.R_alloc | apply Kd.R_drewN | apply Kd.R_drew)); exact Kd.R_mono (Kd.R_far (p := ⟨gb255, 2, none⟩) (Kd.R_types HO_12.out BK255.out (by decide)) (fun _ hk => hk.2) (.int .i64 (rd t261 2))) (fun _ hk => hk.1)⟩, ⟨by (with_reducible repeat (first | refine blk_drewN ?_ _ | refine blk_drew ?_ | refine blk_alloc ?_ _)); refine blk_far ?_ NB254_255.out _; (with_reducible repeat (first | refine blk_drewN ?_ _ | refine blk_drew ?_ | refine blk_alloc ?_ _)); exact BK254.out⟩, ⟨by (with_reducible repeat (first | refine blk_drewN ?_ _ | refine blk_drew ?_ | refine blk_alloc ?_ _)); refine blk_put (cs := #[.int .i64 x256000_4, .int .i64 x256001_4, .int .i64 x256002_4, .int .i64 x256003_4, .int .i64 x256004_4, .int .i64 x256005_4, .int .i64 x256006_4, .int .i64 x256007_4]) ?_ 2 _ rfl; (with_reducible repeat (first | refine blk_drewN ?_ _ | refine blk_drew ?_ | refine blk_alloc ?_ _)); exact BK255.out⟩, ⟨xbl⟩⟩
                     ·
                      rw [if_neg c101] at H
                      clear c101
                      by_cases c105 : x14_4 = 3
                      ·
                       subst c105
                       rw [if_pos rfl] at H
                       have H' := Aside0.mk H
                       clear H
                       obtain ⟨Ao106, co106, eo106⟩ := Kd.R_slice HO_10.out
                       subst eo106
                       have p270 : 0 ≤ (3 : Int) := (by omega)
                       have q270 : 3 < (t261.length : Int) := xod
                       obtain ⟨ad270, e270, hx270_0⟩ := Kd.at_int (Kd.R_reads' HO_10.out).2.2 3 p270 q270
                       cases e270
                       (try simp only [show (3 : Int).toNat = 3 from rfl, Nat.reduceMul, Nat.reduceEqDiff, Go.Addr.add, ↓reduceIte] at hx270_0)
                       have qi270 : (3 < t261.length) = True := eq_true (by omega)
                       (try rw [show ((3 : Int)).toNat = 3 from rfl] at hx270_0)
                       replace p270 := eq_true p270
                       replace q270 := eq_true q270
                       try (have q270x := q270; simp only [ByteArray.size_extract, Nat.min_self] at q270x)
                       have hnb107 := NB255_254.out
                       have hnc107 := NB254_255.out
                       obtain ⟨hcz108_0, hcz108_1, hcz108_2, hcz108_3, hcz108_4, hcz108_5, hcz108_6, hcz108_7⟩ := xc8 BK255
                       have hfz108_0 := xf BK255 0
                       have hfz108_1 := xf BK255 1
                       have hfz108_2 := xf BK255 2
                       have hfz108_3 := xf BK255 3
                       have hfz108_4 := xf BK255 4
                       have hfz108_5 := xf BK255 5
                       have hfz108_6 := xf BK255 6
                       have hfz108_7 := xf BK255 7
                       go_wp2
                       go_roundg k4
                       case measure => have := HK1.out; have := HJ70.out; have := HJ81.out; have := HK4.out; omega
                       case rel => exact ⟨(wrap64 (3 + 1)), (x256000_4), (x256001_4), (x256002_4), (rd t261 3), (x256004_4), (x256005_4), (x256006_4), (x256007_4), xrr, H', ⟨by have := HK1.out; have := HJ70.out; have := HJ81.out; have := HK4.out; omega⟩, ⟨by (with_reducible repeat (first | apply Kd.R_alloc | apply Kd.R_drewN | apply Kd.R_drew)); exact Kd.R_mono (Kd.R_far (p := ⟨gb255, 3, none⟩) (Kd.R_types HO_10.out BK255.out (by decide)) (fun _ hk => hk.2) (.int .i64 (rd t261 3))) (fun _ hk => hk.1)⟩, ⟨by (with_reducible repeat (first | apply Kd.R_alloc | apply Kd.R_drewN | apply Kd.R_drew)); exact Kd.R_mono (Kd.R_far (p := ⟨gb255, 3, none⟩) (Kd.R_types HO_12.out BK255.out (by decide)) (fun _ hk => hk.2) (.int .i64 (rd t261 3))) (fun _ hk => hk.1)⟩, ⟨by (with_reducible repeat (first | refine blk_drewN ?_ _ | refine blk_drew ?_ | refine blk_alloc ?_ _)); refine blk_far ?_ NB254_255.out _; (with_reducible repeat (first | refine blk_drewN ?_ _ | refine blk_drew ?_ | refine blk_alloc ?_ _)); exact BK254.out⟩, ⟨by (with_reducible repeat (first | refine blk_drewN ?_ _ | refine blk_drew ?_ | refine blk_alloc ?_ _)); refine blk_put (cs := #[.int .i64 x256000_4, .int .i64 x256001_4, .int .i64 x256002_4, .int .i64 x256003_4, .int .i64 x256004_4, .int .i64 x256005_4, .int .i64 x256006_4, .int .i64 x256007_4]) ?_ 3 _ rfl; (with_reducible repeat (first | refine blk_drewN ?_ _ | refine blk_drew ?_ | refine blk_alloc ?_ _)); exact BK255.out⟩, ⟨xbl⟩⟩
                      ·
                       rw [if_neg c105] at H
                       clear c105
                       by_cases c109 : x14_4 = 4
                       ·
                        subst c109
                        rw [if_pos rfl] at H
                        have H' := Aside0.mk H
                        clear H
                        obtain ⟨Ao110, co110, eo110⟩ := Kd.R_slice HO_10.out
                        subst eo110
                        have p270 : 0 ≤ (4 : Int) := (by omega)
                        have q270 : 4 < (t261.length : Int) := xod
                        obtain ⟨ad270, e270, hx270_0⟩ := Kd.at_int (Kd.R_reads' HO_10.out).2.2 4 p270 q270
                        cases e270
                        (try simp only [show (4 : Int).toNat = 4 from rfl, Nat.reduceMul, Nat.reduceEqDiff, Go.Addr.add, ↓reduceIte] at hx270_0)
                        have qi270 : (4 < t261.length) = True := eq_true (by omega)
                        (try rw [show ((4 : Int)).toNat = 4 from rfl] at hx270_0)
                        replace p270 := eq_true p270
                        replace q270 := eq_true q270
                        try (have q270x := q270; simp only [ByteArray.size_extract, Nat.min_self] at q270x)
                        have hnb111 := NB255_254.out
                        have hnc111 := NB254_255.out
                        obtain ⟨hcz112_0, hcz112_1, hcz112_2, hcz112_3, hcz112_4, hcz112_5, hcz112_6, hcz112_7⟩ := xc8 BK255
                        have hfz112_0 := xf BK255 0
                        have hfz112_1 := xf BK255 1
                        have hfz112_2 := xf BK255 2
                        have hfz112_3 := xf BK255 3
                        have hfz112_4 := xf BK255 4
                        have hfz112_5 := xf BK255 5
                        have hfz112_6 := xf BK255 6
                        have hfz112_7 := xf BK255 7
                        go_wp2
                        go_roundg k4
                        case measure => have := HK1.out; have := HJ70.out; have := HJ81.out; have := HK4.out; omega
                        case rel => exact ⟨(wrap64 (4 + 1)), (x256000_4), (x256001_4), (x256002_4), (x256003_4), (rd t261 4), (x256005_4), (x256006_4), (x256007_4), xrr, H', ⟨by have := HK1.out; have := HJ70.out; have := HJ81.out; have := HK4.out; omega⟩, ⟨by (with_reducible repeat (first | apply Kd.R_alloc | apply Kd.R_drewN | apply Kd.R_drew)); exact Kd.R_mono (Kd.R_far (p := ⟨gb255, 4, none⟩) (Kd.R_types HO_10.out BK255.out (by decide)) (fun _ hk => hk.2) (.int .i64 (rd t261 4))) (fun _ hk => hk.1)⟩, ⟨by (with_reducible repeat (first | apply Kd.R_alloc | apply Kd.R_drewN | apply Kd.R_drew)); exact Kd.R_mono (Kd.R_far (p := ⟨gb255, 4, none⟩) (Kd.R_types HO_12.out BK255.out (by decide)) (fun _ hk => hk.2) (.int .i64 (rd t261 4))) (fun _ hk => hk.1)⟩, ⟨by (with_reducible repeat (first | refine blk_drewN ?_ _ | refine blk_drew ?_ | refine blk_alloc ?_ _)); refine blk_far ?_ NB254_255.out _; (with_reducible repeat (first | refine blk_drewN ?_ _ | refine blk_drew ?_ | refine blk_alloc ?_ _)); exact BK254.out⟩, ⟨by (with_reducible repeat (first | refine blk_drewN ?_ _ | refine blk_drew ?_ | refine blk_alloc ?_ _)); refine blk_put (cs := #[.int .i64 x256000_4, .int .i64 x256001_4, .int .i64 x256002_4, .int .i64 x256003_4, .int .i64 x256004_4, .int .i64 x256005_4, .int .i64 x256006_4, .int .i64 x256007_4]) ?_ 4 _ rfl; (with_reducible repeat (first | refine blk_drewN ?_ _ | refine blk_drew ?_ | refine blk_alloc ?_ _)); exact BK255.out⟩, ⟨xbl⟩⟩
                       ·
                        rw [if_neg c109] at H
                        clear c109
                        by_cases c113 : x14_4 = 5
                        ·
                         subst c113
                         rw [if_pos rfl] at H
                         have H' := Aside0.mk H
                         clear H
                         obtain ⟨Ao114, co114, eo114⟩ := Kd.R_slice HO_10.out
                         subst eo114
                         have p270 : 0 ≤ (5 : Int) := (by omega)
                         have q270 : 5 < (t261.length : Int) := xod
                         obtain ⟨ad270, e270, hx270_0⟩ := Kd.at_int (Kd.R_reads' HO_10.out).2.2 5 p270 q270
                         cases e270
                         (try simp only [show (5 : Int).toNat = 5 from rfl, Nat.reduceMul, Nat.reduceEqDiff, Go.Addr.add, ↓reduceIte] at hx270_0)
                         have qi270 : (5 < t261.length) = True := eq_true (by omega)
                         (try rw [show ((5 : Int)).toNat = 5 from rfl] at hx270_0)
                         replace p270 := eq_true p270
                         replace q270 := eq_true q270
                         try (have q270x := q270; simp only [ByteArray.size_extract, Nat.min_self] at q270x)
                         have hnb115 := NB255_254.out
                         have hnc115 := NB254_255.out
                         obtain ⟨hcz116_0, hcz116_1, hcz116_2, hcz116_3, hcz116_4, hcz116_5, hcz116_6, hcz116_7⟩ := xc8 BK255
                         have hfz116_0 := xf BK255 0
                         have hfz116_1 := xf BK255 1
                         have hfz116_2 := xf BK255 2
                         have hfz116_3 := xf BK255 3
                         have hfz116_4 := xf BK255 4
                         have hfz116_5 := xf BK255 5
                         have hfz116_6 := xf BK255 6
                         have hfz116_7 := xf BK255 7
                         go_wp2
                         go_roundg k4
                         case measure => have := HK1.out; have := HJ70.out; have := HJ81.out; have := HK4.out; omega
                         case rel => exact ⟨(wrap64 (5 + 1)), (x256000_4), (x256001_4), (x256002_4), (x256003_4), (x256004_4), (rd t261 5), (x256006_4), (x256007_4), xrr, H', ⟨by have := HK1.out; have := HJ70.out; have := HJ81.out; have := HK4.out; omega⟩, ⟨by (with_reducible repeat (first | apply Kd.R_alloc | apply Kd.R_drewN | apply Kd.R_drew)); exact Kd.R_mono (Kd.R_far (p := ⟨gb255, 5, none⟩) (Kd.R_types HO_10.out BK255.out (by decide)) (fun _ hk => hk.2) (.int .i64 (rd t261 5))) (fun _ hk => hk.1)⟩, ⟨by (with_reducible repeat (first | apply Kd.R_alloc | apply Kd.R_drewN | apply Kd.R_drew)); exact Kd.R_mono (Kd.R_far (p := ⟨gb255, 5, none⟩) (Kd.R_types HO_12.out BK255.out (by decide)) (fun _ hk => hk.2) (.int .i64 (rd t261 5))) (fun _ hk => hk.1)⟩, ⟨by (with_reducible repeat (first | refine blk_drewN ?_ _ | refine blk_drew ?_ | refine blk_alloc ?_ _)); refine blk_far ?_ NB254_255.out _; (with_reducible repeat (first | refine blk_drewN ?_ _ | refine blk_drew ?_ | refine blk_alloc ?_ _)); exact BK254.out⟩, ⟨by (with_reducible repeat (first | refine blk_drewN ?_ _ | refine blk_drew ?_ | refine blk_alloc ?_ _)); refine blk_put (cs := #[.int .i64 x256000_4, .int .i64 x256001_4, .int .i64 x256002_4, .int .i64 x256003_4, .int .i64 x256004_4, .int .i64 x256005_4, .int .i64 x256006_4, .int .i64 x256007_4]) ?_ 5 _ rfl; (with_reducible repeat (first | refine blk_drewN ?_ _ | refine blk_drew ?_ | refine blk_alloc ?_ _)); exact BK255.out⟩, ⟨xbl⟩⟩
                        ·
                         rw [if_neg c113] at H
                         clear c113
                         by_cases c117 : x14_4 = 6
                         ·
                          subst c117
                          rw [if_pos rfl] at H
                          have H' := Aside0.mk H
                          clear H
                          obtain ⟨Ao118, co118, eo118⟩ := Kd.R_slice HO_10.out
                          subst eo118
                          have p270 : 0 ≤ (6 : Int) := (by omega)
                          have q270 : 6 < (t261.length : Int) := xod
                          obtain ⟨ad270, e270, hx270_0⟩ := Kd.at_int (Kd.R_reads' HO_10.out).2.2 6 p270 q270
                          cases e270
                          (try simp only [show (6 : Int).toNat = 6 from rfl, Nat.reduceMul, Nat.reduceEqDiff, Go.Addr.add, ↓reduceIte] at hx270_0)
                          have qi270 : (6 < t261.length) = True := eq_true (by omega)
                          (try rw [show ((6 : Int)).toNat = 6 from rfl] at hx270_0)
                          replace p270 := eq_true p270
                          replace q270 := eq_true q270
                          try (have q270x := q270; simp only [ByteArray.size_extract, Nat.min_self] at q270x)
                          have hnb119 := NB255_254.out
                          have hnc119 := NB254_255.out
                          obtain ⟨hcz120_0, hcz120_1, hcz120_2, hcz120_3, hcz120_4, hcz120_5, hcz120_6, hcz120_7⟩ := xc8 BK255
                          have hfz120_0 := xf BK255 0
                          have hfz120_1 := xf BK255 1
                          have hfz120_2 := xf BK255 2
                          have hfz120_3 := xf BK255 3
                          have hfz120_4 := xf BK255 4
                          have hfz120_5 := xf BK255 5
                          have hfz120_6 := xf BK255 6
                          have hfz120_7 := xf BK255 7
                          go_wp2
                          go_roundg k4
                          case measure => have := HK1.out; have := HJ70.out; have := HJ81.out; have := HK4.out; omega
                          case rel => exact ⟨(wrap64 (6 + 1)), (x256000_4), (x256001_4), (x256002_4), (x256003_4), (x256004_4), (x256005_4), (rd t261 6), (x256007_4), xrr, H', ⟨by have := HK1.out; have := HJ70.out; have := HJ81.out; have := HK4.out; omega⟩, ⟨by (with_reducible repeat (first | apply Kd.R_alloc | apply Kd.R_drewN | apply Kd.R_drew)); exact Kd.R_mono (Kd.R_far (p := ⟨gb255, 6, none⟩) (Kd.R_types HO_10.out BK255.out (by decide)) (fun _ hk => hk.2) (.int .i64 (rd t261 6))) (fun _ hk => hk.1)⟩, ⟨by (with_reducible repeat (first | apply Kd.R_alloc | apply Kd.R_drewN | apply Kd.R_drew)); exact Kd.R_mono (Kd.R_far (p := ⟨gb255, 6, none⟩) (Kd.R_types HO_12.out BK255.out (by decide)) (fun _ hk => hk.2) (.int .i64 (rd t261 6))) (fun _ hk => hk.1)⟩, ⟨by (with_reducible repeat (first | refine blk_drewN ?_ _ | refine blk_drew ?_ | refine blk_alloc ?_ _)); refine blk_far ?_ NB254_255.out _; (with_reducible repeat (first | refine blk_drewN ?_ _ | refine blk_drew ?_ | refine blk_alloc ?_ _)); exact BK254.out⟩, ⟨by (with_reducible repeat (first | refine blk_drewN ?_ _ | refine blk_drew ?_ | refine blk_alloc ?_ _)); refine blk_put (cs := #[.int .i64 x256000_4, .int .i64 x256001_4, .int .i64 x256002_4, .int .i64 x256003_4, .int .i64 x256004_4, .int .i64 x256005_4, .int .i64 x256006_4, .int .i64 x256007_4]) ?_ 6 _ rfl; (with_reducible repeat (first | refine blk_drewN ?_ _ | refine blk_drew ?_ | refine blk_alloc ?_ _)); exact BK255.out⟩, ⟨xbl⟩⟩
                         ·
                          rw [if_neg c117] at H
                          clear c117
                          by_cases c121 : x14_4 = 7
                          ·
                           subst c121
                           rw [if_pos rfl] at H
                           have H' := Aside0.mk H
                           clear H
                           obtain ⟨Ao122, co122, eo122⟩ := Kd.R_slice HO_10.out
                           subst eo122
                           have p270 : 0 ≤ (7 : Int) := (by omega)
                           have q270 : 7 < (t261.length : Int) := xod
                           obtain ⟨ad270, e270, hx270_0⟩ := Kd.at_int (Kd.R_reads' HO_10.out).2.2 7 p270 q270
                           cases e270
                           (try simp only [show (7 : Int).toNat = 7 from rfl, Nat.reduceMul, Nat.reduceEqDiff, Go.Addr.add, ↓reduceIte] at hx270_0)
                           have qi270 : (7 < t261.length) = True := eq_true (by omega)
                           (try rw [show ((7 : Int)).toNat = 7 from rfl] at hx270_0)
                           replace p270 := eq_true p270
                           replace q270 := eq_true q270
                           try (have q270x := q270; simp only [ByteArray.size_extract, Nat.min_self] at q270x)
                           have hnb123 := NB255_254.out
                           have hnc123 := NB254_255.out
                           obtain ⟨hcz124_0, hcz124_1, hcz124_2, hcz124_3, hcz124_4, hcz124_5, hcz124_6, hcz124_7⟩ := xc8 BK255
                           have hfz124_0 := xf BK255 0
                           have hfz124_1 := xf BK255 1
                           have hfz124_2 := xf BK255 2
                           have hfz124_3 := xf BK255 3
                           have hfz124_4 := xf BK255 4
                           have hfz124_5 := xf BK255 5
                           have hfz124_6 := xf BK255 6
                           have hfz124_7 := xf BK255 7
                           go_wp2
                           go_roundg k4
                           case measure => have := HK1.out; have := HJ70.out; have := HJ81.out; have := HK4.out; omega
                           case rel => exact ⟨(wrap64 (7 + 1)), (x256000_4), (x256001_4), (x256002_4), (x256003_4), (x256004_4), (x256005_4), (x256006_4), (rd t261 7), xrr, H', ⟨by have := HK1.out; have := HJ70.out; have := HJ81.out; have := HK4.out; omega⟩, ⟨by (with_reducible repeat (first | apply Kd.R_alloc | apply Kd.R_drewN | apply Kd.R_drew)); exact Kd.R_mono (Kd.R_far (p := ⟨gb255, 7, none⟩) (Kd.R_types HO_10.out BK255.out (by decide)) (fun _ hk => hk.2) (.int .i64 (rd t261 7))) (fun _ hk => hk.1)⟩, ⟨by (with_reducible repeat (first | apply Kd.R_alloc | apply Kd.R_drewN | apply Kd.R_drew)); exact Kd.R_mono (Kd.R_far (p := ⟨gb255, 7, none⟩) (Kd.R_types HO_12.out BK255.out (by decide)) (fun _ hk => hk.2) (.int .i64 (rd t261 7))) (fun _ hk => hk.1)⟩, ⟨by (with_reducible repeat (first | refine blk_drewN ?_ _ | refine blk_drew ?_ | refine blk_alloc ?_ _)); refine blk_far ?_ NB254_255.out _; (with_reducible repeat (first | refine blk_drewN ?_ _ | refine blk_drew ?_ | refine blk_alloc ?_ _)); exact BK254.out⟩, ⟨by (with_reducible repeat (first | refine blk_drewN ?_ _ | refine blk_drew ?_ | refine blk_alloc ?_ _)); refine blk_put (cs := #[.int .i64 x256000_4, .int .i64 x256001_4, .int .i64 x256002_4, .int .i64 x256003_4, .int .i64 x256004_4, .int .i64 x256005_4, .int .i64 x256006_4, .int .i64 x256007_4]) ?_ 7 _ rfl; (with_reducible repeat (first | refine blk_drewN ?_ _ | refine blk_drew ?_ | refine blk_alloc ?_ _)); exact BK255.out⟩, ⟨xbl⟩⟩
                          ·
                           rw [if_neg c121] at H
                           clear c121
                           exact absurd H (by simp)
                  ·
                   rw [if_neg c92] at H
                   exact absurd H (by simp)
                 ·
                  rw [if_neg c91] at H
                  have c91b0 := decide_eq_false c91
                  clear c91
                  have H' := Aside0.mk H
                  clear H
                  obtain ⟨Ao125, co125, eo125⟩ := Kd.R_slice HO_10.out
                  subst eo125
                  go_wp2
                  go_loopg [15] k4 (fun kq v15 w' => ∃ (x15_5 : Int) (x256000_5 : Int) (x256001_5 : Int) (x256002_5 : Int) (x256003_5 : Int) (x256004_5 : Int) (x256005_5 : Int) (x256006_5 : Int) (x256007_5 : Int), v15 = .int .i64 x15_5 ∧ Aside0 (monikerref19_V6.l3 kq t265 x15_5 x256000_5 x256001_5 x256002_5 x256003_5 x256004_5 x256005_5 x256006_5 x256007_5 = some (r1, r2, r3, r4, r5, r6, r7, r8, r9)) ∧ Aside0 (kq ≤ k4) ∧ Aside0 (Kd.R (Kd.int .i64) 3 w' w.heap.size (fun _ => True) v267 t265) ∧ Aside0 (w'.heap[gb254]? = some (.cells #[.int .i64 0, .int .i64 0, .int .i64 0, .int .i64 0, .int .i64 0, .int .i64 0, .int .i64 0, .int .i64 0] 33 (0, 0))) ∧ Aside0 (w'.heap[gb255]? = some (.cells #[.int .i64 x256000_5, .int .i64 x256001_5, .int .i64 x256002_5, .int .i64 x256003_5, .int .i64 x256004_5, .int .i64 x256005_5, .int .i64 x256006_5, .int .i64 x256007_5] 33 (0, 0))) ∧ Aside0 (Below w.heap.size w w'))
                  case atStart => exact ⟨(0), (x256000_4), (x256001_4), (x256002_4), (x256003_4), (x256004_4), (x256005_4), (x256006_4), (x256007_4), xrr, H', ⟨Nat.le_refl _⟩, ⟨by (with_reducible repeat (first | apply Kd.R_alloc | apply Kd.R_drewN | apply Kd.R_drew)); exact Kd.R_mono HO_12.out (fun _ hk => trivial)⟩, ⟨xbk⟩, ⟨xbk⟩, ⟨xbl⟩⟩
                  case round =>
                   clear H'
                   clear c91b0
                   try clear hx260_0
                   try clear hx270_0
                   obtain ⟨x15_5, x256000_5, x256001_5, x256002_5, x256003_5, x256004_5, x256005_5, x256006_5, x256007_5, rfl, HA, HK5, HO_12, BK254, BK255, HB⟩ := hrel
                   cases gk with
                   | zero => exact absurd HA.out (by simp [monikerref19_V6.l3])
                   | succ k5 =>
                    have H := HA.out
                    clear HA
                    simp only [monikerref19_V6.l3] at H
                    by_cases c126 : x15_5 < (t265.length : Int)
                    ·
                     rw [if_pos c126] at H
                     have c126b0 := decide_eq_true c126
                     clear c126
                     by_cases c127 : 0 ≤ x15_5
                     ·
                      rw [if_pos c127] at H
                      have c127b0 := decide_eq_true c127
                      clear c127
                      obtain ⟨ji128, hji128⟩ : ∃ j_ : Int, (wrap64 ((wrap64 (8 - (t265.length : Int))) + x15_5)) = j_ := ⟨_, rfl⟩
                      first | rw [hji128] at H | simp only [hji128] at H | skip
                      have hji128w : (IntKind.i64.wrap ((wrap64 (8 - (t265.length : Int))) + x15_5)) = ji128 := (i64_w _).trans hji128
                      by_cases c129 : 0 ≤ (ji128)
                      ·
                       rw [if_pos c129] at H
                       have c129b0 := decide_eq_true c129
                       clear c129
                       obtain ⟨ji130, hji130⟩ : ∃ j_ : Int, (ji128) = j_ := ⟨_, rfl⟩
                       replace H : (if ji130 = 0 then (monikerref19_V6.l3 k5 t265 (wrap64 (x15_5 + 1)) (rd t265 x15_5) x256001_5 x256002_5 x256003_5 x256004_5 x256005_5 x256006_5 x256007_5) else (if (ji130) = 1 then (monikerref19_V6.l3 k5 t265 (wrap64 (x15_5 + 1)) x256000_5 (rd t265 x15_5) x256002_5 x256003_5 x256004_5 x256005_5 x256006_5 x256007_5) else (if (ji130) = 2 then (monikerref19_V6.l3 k5 t265 (wrap64 (x15_5 + 1)) x256000_5 x256001_5 (rd t265 x15_5) x256003_5 x256004_5 x256005_5 x256006_5 x256007_5) else (if (ji130) = 3 then (monikerref19_V6.l3 k5 t265 (wrap64 (x15_5 + 1)) x256000_5 x256001_5 x256002_5 (rd t265 x15_5) x256004_5 x256005_5 x256006_5 x256007_5) else (if (ji130) = 4 then (monikerref19_V6.l3 k5 t265 (wrap64 (x15_5 + 1)) x256000_5 x256001_5 x256002_5 x256003_5 (rd t265 x15_5) x256005_5 x256006_5 x256007_5) else (if (ji130) = 5 then (monikerref19_V6.l3 k5 t265 (wrap64 (x15_5 + 1)) x256000_5 x256001_5 x256002_5 x256003_5 x256004_5 (rd t265 x15_5) x256006_5 x256007_5) else (if (ji130) = 6 then (monikerref19_V6.l3 k5 t265 (wrap64 (x15_5 + 1)) x256000_5 x256001_5 x256002_5 x256003_5 x256004_5 x256005_5 (rd t265 x15_5) x256007_5) else (if (ji130) = 7 then (monikerref19_V6.l3 k5 t265 (wrap64 (x15_5 + 1)) x256000_5 x256001_5 x256002_5 x256003_5 x256004_5 x256005_5 x256006_5 (rd t265 x15_5)) else (none))))))))) = some (r1, r2, r3, r4, r5, r6, r7, r8, r9) := by first | (rw [hji130] at H; exact H) | (simp only [hji130] at H ⊢; exact H)
                       by_cases c131 : ji130 = 0
                       ·
                        subst c131
                        rw [if_pos rfl] at H
                        have H' := Aside0.mk H
                        clear H
                        obtain ⟨Ao132, co132, eo132⟩ := Kd.R_slice HO_12.out
                        subst eo132
                        have p271 : 0 ≤ (x15_5 : Int) := xod
                        have q271 : x15_5 < (t265.length : Int) := xod
                        obtain ⟨ad271, e271, hx271_0⟩ := Kd.at_int (Kd.R_reads' HO_12.out).2.2 x15_5 p271 q271
                        cases e271
                        replace p271 := eq_true p271
                        replace q271 := eq_true q271
                        try (have q271x := q271; simp only [ByteArray.size_extract, Nat.min_self] at q271x)
                        have hnb133 := NB255_254.out
                        have hnc133 := NB254_255.out
                        obtain ⟨hcz134_0, hcz134_1, hcz134_2, hcz134_3, hcz134_4, hcz134_5, hcz134_6, hcz134_7⟩ := xc8 BK255
                        have hfz134_0 := xf BK255 0
                        have hfz134_1 := xf BK255 1
                        have hfz134_2 := xf BK255 2
                        have hfz134_3 := xf BK255 3
                        have hfz134_4 := xf BK255 4
                        have hfz134_5 := xf BK255 5
                        have hfz134_6 := xf BK255 6
                        have hfz134_7 := xf BK255 7
                        go_wp2
                        first | go_roundg k5 | (simp only [← hji128]; go_roundg k5)
                        case measure => have := HK1.out; have := HJ70.out; have := HJ81.out; have := HK4.out; have := HK5.out; omega
                        case rel => exact ⟨(wrap64 (x15_5 + 1)), (rd t265 x15_5), (x256001_5), (x256002_5), (x256003_5), (x256004_5), (x256005_5), (x256006_5), (x256007_5), xrr, H', ⟨by have := HK1.out; have := HJ70.out; have := HJ81.out; have := HK4.out; have := HK5.out; omega⟩, ⟨by (with_reducible repeat (first | apply Kd.R_alloc | apply Kd.R_drewN | apply Kd.R_drew)); exact Kd.R_mono (Kd.R_far (p := ⟨gb255, 0, none⟩) (Kd.R_types HO_12.out BK255.out (by decide)) (fun _ hk => hk.2) (.int .i64 (rd t265 x15_5))) (fun _ hk => trivial)⟩, ⟨by (with_reducible repeat (first | refine blk_drewN ?_ _ | refine blk_drew ?_ | refine blk_alloc ?_ _)); refine blk_far ?_ NB254_255.out _; (with_reducible repeat (first | refine blk_drewN ?_ _ | refine blk_drew ?_ | refine blk_alloc ?_ _)); exact BK254.out⟩, ⟨by (with_reducible repeat (first | refine blk_drewN ?_ _ | refine blk_drew ?_ | refine blk_alloc ?_ _)); refine blk_put (cs := #[.int .i64 x256000_5, .int .i64 x256001_5, .int .i64 x256002_5, .int .i64 x256003_5, .int .i64 x256004_5, .int .i64 x256005_5, .int .i64 x256006_5, .int .i64 x256007_5]) ?_ 0 _ rfl; (with_reducible repeat (first | refine blk_drewN ?_ _ | refine blk_drew ?_ | refine blk_alloc ?_ _)); exact BK255.out⟩, ⟨xbl⟩⟩
                       ·
                        rw [if_neg c131] at H
                        clear c131
                        obtain ⟨ji135, hji135⟩ : ∃ j_ : Int, (ji130) = j_ := ⟨_, rfl⟩
                        replace H : (if ji135 = 1 then (monikerref19_V6.l3 k5 t265 (wrap64 (x15_5 + 1)) x256000_5 (rd t265 x15_5) x256002_5 x256003_5 x256004_5 x256005_5 x256006_5 x256007_5) else (if (ji135) = 2 then (monikerref19_V6.l3 k5 t265 (wrap64 (x15_5 + 1)) x256000_5 x256001_5 (rd t265 x15_5) x256003_5 x256004_5 x256005_5 x256006_5 x256007_5) else (if (ji135) = 3 then (monikerref19_V6.l3 k5 t265 (wrap64 (x15_5 + 1)) x256000_5 x256001_5 x256002_5 (rd t265 x15_5) x256004_5 x256005_5 x256006_5 x256007_5) else (if (ji135) = 4 then (monikerref19_V6.l3 k5 t265 (wrap64 (x15_5 + 1)) x256000_5 x256001_5 x256002_5 x256003_5 (rd t265 x15_5) x256005_5 x256006_5 x256007_5) else (if (ji135) = 5 then (monikerref19_V6.l3 k5 t265 (wrap64 (x15_5 + 1)) x256000_5 x256001_5 x256002_5 x256003_5 x256004_5 (rd t265 x15_5) x256006_5 x256007_5) else (if (ji135) = 6 then (monikerref19_V6.l3 k5 t265 (wrap64 (x15_5 + 1)) x256000_5 x256001_5 x256002_5 x256003_5 x256004_5 x256005_5 (rd t265 x15_5) x256007_5) else (if (ji135) = 7 then (monikerref19_V6.l3 k5 t265 (wrap64 (x15_5 + 1)) x256000_5 x256001_5 x256002_5 x256003_5 x256004_5 x256005_5 x256006_5 (rd t265 x15_5)) else (none)))))))) = some (r1, r2, r3, r4, r5, r6, r7, r8, r9) := by first | (rw [hji135] at H; exact H) | (simp only [hji135] at H ⊢; exact H)
                        by_cases c136 : ji135 = 1
                        ·
                         subst c136
                         rw [if_pos rfl] at H
                         have H' := Aside0.mk H
                         clear H
                         obtain ⟨Ao137, co137, eo137⟩ := Kd.R_slice HO_12.out
                         subst eo137
                         have p271 : 0 ≤ (x15_5 : Int) := xod
                         have q271 : x15_5 < (t265.length : Int) := xod
                         obtain ⟨ad271, e271, hx271_0⟩ := Kd.at_int (Kd.R_reads' HO_12.out).2.2 x15_5 p271 q271
                         cases e271
                         replace p271 := eq_true p271
                         replace q271 := eq_true q271
                         try (have q271x := q271; simp only [ByteArray.size_extract, Nat.min_self] at q271x)
                         have hnb138 := NB255_254.out
                         have hnc138 := NB254_255.out
                         obtain ⟨hcz139_0, hcz139_1, hcz139_2, hcz139_3, hcz139_4, hcz139_5, hcz139_6, hcz139_7⟩ := xc8 BK255
                         have hfz139_0 := xf BK255 0
                         have hfz139_1 := xf BK255 1
                         have hfz139_2 := xf BK255 2
                         have hfz139_3 := xf BK255 3
                         have hfz139_4 := xf BK255 4
                         have hfz139_5 := xf BK255 5
                         have hfz139_6 := xf BK255 6
                         have hfz139_7 := xf BK255 7
                         go_wp2
                         first | go_roundg k5 | (simp only [← hji128, ← hji130]; go_roundg k5)
                         case measure => have := HK1.out; have := HJ70.out; have := HJ81.out; have := HK4.out; have := HK5.out; omega
                         case rel => exact ⟨(wrap64 (x15_5 + 1)), (x256000_5), (rd t265 x15_5), (x256002_5), (x256003_5), (x256004_5), (x256005_5), (x256006_5), (x256007_5), xrr, H', ⟨by have := HK1.out; have := HJ70.out; have := HJ81.out; have := HK4.out; have := HK5.out; omega⟩, ⟨by (with_reducible repeat (first | apply Kd.R_alloc | apply Kd.R_drewN | apply Kd.R_drew)); exact Kd.R_mono (Kd.R_far (p := ⟨gb255, 1, none⟩) (Kd.R_types HO_12.out BK255.out (by decide)) (fun _ hk => hk.2) (.int .i64 (rd t265 x15_5))) (fun _ hk => trivial)⟩, ⟨by (with_reducible repeat (first | refine blk_drewN ?_ _ | refine blk_drew ?_ | refine blk_alloc ?_ _)); refine blk_far ?_ NB254_255.out _; (with_reducible repeat (first | refine blk_drewN ?_ _ | refine blk_drew ?_ | refine blk_alloc ?_ _)); exact BK254.out⟩, ⟨by (with_reducible repeat (first | refine blk_drewN ?_ _ | refine blk_drew ?_ | refine blk_alloc ?_ _)); refine blk_put (cs := #[.int .i64 x256000_5, .int .i64 x256001_5, .int .i64 x256002_5, .int .i64 x256003_5, .int .i64 x256004_5, .int .i64 x256005_5, .int .i64 x256006_5, .int .i64 x256007_5]) ?_ 1 _ rfl; (with_reducible repeat (first | refine blk_drewN ?_ _ | refine blk_drew ?_ | refine blk_alloc ?_ _)); exact BK255.out⟩, ⟨xbl⟩⟩
                        ·
                         rw [if_neg c136] at H
                         clear c136
                         obtain ⟨ji140, hji140⟩ : ∃ j_ : Int, (ji135) = j_ := ⟨_, rfl⟩
                         replace H : (if ji140 = 2 then (monikerref19_V6.l3 k5 t265 (wrap64 (x15_5 + 1)) x256000_5 x256001_5 (rd t265 x15_5) x256003_5 x256004_5 x256005_5 x256006_5 x256007_5) else (if (ji140) = 3 then (monikerref19_V6.l3 k5 t265 (wrap64 (x15_5 + 1)) x256000_5 x256001_5 x256002_5 (rd t265 x15_5) x256004_5 x256005_5 x256006_5 x256007_5) else (if (ji140) = 4 then (monikerref19_V6.l3 k5 t265 (wrap64 (x15_5 + 1)) x256000_5 x256001_5 x256002_5 x256003_5 (rd t265 x15_5) x256005_5 x256006_5 x256007_5) else (if (ji140) = 5 then (monikerref19_V6.l3 k5 t265 (wrap64 (x15_5 + 1)) x256000_5 x256001_5 x256002_5 x256003_5 x256004_5 (rd t265 x15_5) x256006_5 x256007_5) else (if (ji140) = 6 then (monikerref19_V6.l3 k5 t265 (wrap64 (x15_5 + 1)) x256000_5 x256001_5 x256002_5 x256003_5 x256004_5 x256005_5 (rd t265 x15_5) x256007_5) else (if (ji140) = 7 then (monikerref19_V6.l3 k5 t265 (wrap64 (x15_5 + 1)) x256000_5 x256001_5 x256002_5 x256003_5 x256004_5 x256005_5 x256006_5 (rd t265 x15_5)) else (none))))))) = some (r1, r2, r3, r4, r5, r6, r7, r8, r9) := by first | (rw [hji140] at H; exact H) | (simp only [hji140] at H ⊢; exact H)
                         by_cases c141 : ji140 = 2
                         ·
                          subst c141
                          rw [if_pos rfl] at H
                          have H' := Aside0.mk H
                          clear H
                          obtain ⟨Ao142, co142, eo142⟩ := Kd.R_slice HO_12.out
                          subst eo142
                          have p271 : 0 ≤ (x15_5 : Int) := xod
                          have q271 : x15_5 < (t265.length : Int) := xod
                          obtain ⟨ad271, e271, hx271_0⟩ := Kd.at_int (Kd.R_reads' HO_12.out).2.2 x15_5 p271 q271
                          cases e271
                          replace p271 := eq_true p271
                          replace q271 := eq_true q271
                          try (have q271x := q271; simp only [ByteArray.size_extract, Nat.min_self] at q271x)
                          have hnb143 := NB255_254.out
                          have hnc143 := NB254_255.out
                          obtain ⟨hcz144_0, hcz144_1, hcz144_2, hcz144_3, hcz144_4, hcz144_5, hcz144_6, hcz144_7⟩ := xc8 BK255
                          have hfz144_0 := xf BK255 0
                          have hfz144_1 := xf BK255 1
                          have hfz144_2 := xf BK255 2
                          have hfz144_3 := xf BK255 3
                          have hfz144_4 := xf BK255 4
                          have hfz144_5 := xf BK255 5
                          have hfz144_6 := xf BK255 6
                          have hfz144_7 := xf BK255 7
                          go_wp2
                          first | go_roundg k5 | (simp only [← hji128, ← hji130, ← hji135]; go_roundg k5)
                          case measure => have := HK1.out; have := HJ70.out; have := HJ81.out; have := HK4.out; have := HK5.out; omega
                          case rel => exact ⟨(wrap64 (x15_5 + 1)), (x256000_5), (x256001_5), (rd t265 x15_5), (x256003_5), (x256004_5), (x256005_5), (x256006_5), (x256007_5), xrr, H', ⟨by have := HK1.out; have := HJ70.out; have := HJ81.out; have := HK4.out; have := HK5.out; omega⟩, ⟨by (with_reducible repeat (first | apply Kd.R_alloc | apply Kd.R_drewN | apply Kd.R_drew)); exact Kd.R_mono (Kd.R_far (p := ⟨gb255, 2, none⟩) (Kd.R_types HO_12.out BK255.out (by decide)) (fun _ hk => hk.2) (.int .i64 (rd t265 x15_5))) (fun _ hk => trivial)⟩, ⟨by (with_reducible repeat (first | refine blk_drewN ?_ _ | refine blk_drew ?_ | refine blk_alloc ?_ _)); refine blk_far ?_ NB254_255.out _; (with_reducible repeat (first | refine blk_drewN ?_ _ | refine blk_drew ?_ | refine blk_alloc ?_ _)); exact BK254.out⟩, ⟨by (with_reducible repeat (first | refine blk_drewN ?_ _ | refine blk_drew ?_ | refine blk_alloc ?_ _)); refine blk_put (cs := #[.int .i64 x256000_5, .int .i64 x256001_5, .int .i64 x256002_5, .int .i64 x256003_5, .int .i64 x256004_5, .int .i64 x256005_5, .int .i64 x256006_5, .int .i64 x256007_5]) ?_ 2 _ rfl; (with_reducible repeat (first | refine blk_drewN ?_ _ | refine blk_drew ?_ | refine blk_alloc ?_ _)); exact BK255.out⟩, ⟨xbl⟩⟩
                         ·
                          rw [if_neg c141] at H
                          clear c141
                          obtain ⟨ji145, hji145⟩ : ∃ j_ : Int, (ji140) = j_ := ⟨_, rfl⟩
                          replace H : (if ji145 = 3 then (monikerref19_V6.l3 k5 t265 (wrap64 (x15_5 + 1)) x256000_5 x256001_5 x256002_5 (rd t265 x15_5) x256004_5 x256005_5 x256006_5 x256007_5) else (if (ji145) = 4 then (monikerref19_V6.l3 k5 t265 (wrap64 (x15_5 + 1)) x256000_5 x256001_5 x256002_5 x256003_5 (rd t265 x15_5) x256005_5 x256006_5 x256007_5) else (if (ji145) = 5 then (monikerref19_V6.l3 k5 t265 (wrap64 (x15_5 + 1)) x256000_5 x256001_5 x256002_5 x256003_5 x256004_5 (rd t265 x15_5) x256006_5 x256007_5) else (if (ji145) = 6 then (monikerref19_V6.l3 k5 t265 (wrap64 (x15_5 + 1)) x256000_5 x256001_5 x256002_5 x256003_5 x256004_5 x256005_5 (rd t265 x15_5) x256007_5) else (if (ji145) = 7 then (monikerref19_V6.l3 k5 t265 (wrap64 (x15_5 + 1)) x256000_5 x256001_5 x256002_5 x256003_5 x256004_5 x256005_5 x256006_5 (rd t265 x15_5)) else (none)))))) = some (r1, r2, r3, r4, r5, r6, r7, r8, r9) := by first | (rw [hji145] at H; exact H) | (simp only [hji145] at H ⊢; exact H)
                          by_cases c146 : ji145 = 3
                          ·
                           subst c146
                           rw [if_pos rfl] at H
                           have H' := Aside0.mk H
                           clear H
                           obtain ⟨Ao147, co147, eo147⟩ := Kd.R_slice HO_12.out
                           subst eo147
                           have p271 : 0 ≤ (x15_5 : Int) := xod
                           have q271 : x15_5 < (t265.length : Int) := xod
                           obtain ⟨ad271, e271, hx271_0⟩ := Kd.at_int (Kd.R_reads' HO_12.out).2.2 x15_5 p271 q271
                           cases e271
                           replace p271 := eq_true p271
                           replace q271 := eq_true q271
                           try (have q271x := q271; simp only [ByteArray.size_extract, Nat.min_self] at q271x)
                           have hnb148 := NB255_254.out
                           have hnc148 := NB254_255.out
                           obtain ⟨hcz149_0, hcz149_1, hcz149_2, hcz149_3, hcz149_4, hcz149_5, hcz149_6, hcz149_7⟩ := xc8 BK255
                           have hfz149_0 := xf BK255 0
                           have hfz149_1 := xf BK255 1
                           have hfz149_2 := xf BK255 2
                           have hfz149_3 := xf BK255 3
                           have hfz149_4 := xf BK255 4
                           have hfz149_5 := xf BK255 5
                           have hfz149_6 := xf BK255 6
                           have hfz149_7 := xf BK255 7
                           go_wp2
                           first | go_roundg k5 | (simp only [← hji128, ← hji130, ← hji135, ← hji140]; go_roundg k5)
                           case measure => have := HK1.out; have := HJ70.out; have := HJ81.out; have := HK4.out; have := HK5.out; omega
                           case rel => exact ⟨(wrap64 (x15_5 + 1)), (x256000_5), (x256001_5), (x256002_5), (rd t265 x15_5), (x256004_5), (x256005_5), (x256006_5), (x256007_5), xrr, H', ⟨by have := HK1.out; have := HJ70.out; have := HJ81.out; have := HK4.out; have := HK5.out; omega⟩, ⟨by (with_reducible repeat (first | apply Kd.R_alloc | apply Kd.R_drewN | apply Kd.R_drew)); exact Kd.R_mono (Kd.R_far (p := ⟨gb255, 3, none⟩) (Kd.R_types HO_12.out BK255.out (by decide)) (fun _ hk => hk.2) (.int .i64 (rd t265 x15_5))) (fun _ hk => trivial)⟩, ⟨by (with_reducible repeat (first | refine blk_drewN ?_ _ | refine blk_drew ?_ | refine blk_alloc ?_ _)); refine blk_far ?_ NB254_255.out _; (with_reducible repeat (first | refine blk_drewN ?_ _ | refine blk_drew ?_ | refine blk_alloc ?_ _)); exact BK254.out⟩, ⟨by (with_reducible repeat (first | refine blk_drewN ?_ _ | refine blk_drew ?_ | refine blk_alloc ?_ _)); refine blk_put (cs := #[.int .i64 x256000_5, .int .i64 x256001_5, .int .i64 x256002_5, .int .i64 x256003_5, .int .i64 x256004_5, .int .i64 x256005_5, .int .i64 x256006_5, .int .i64 x256007_5]) ?_ 3 _ rfl; (with_reducible repeat (first | refine blk_drewN ?_ _ | refine blk_drew ?_ | refine blk_alloc ?_ _)); exact BK255.out⟩, ⟨xbl⟩⟩
                          ·
                           rw [if_neg c146] at H
                           clear c146
                           obtain ⟨ji150, hji150⟩ : ∃ j_ : Int, (ji145) = j_ := ⟨_, rfl⟩
                           replace H : (if ji150 = 4 then (monikerref19_V6.l3 k5 t265 (wrap64 (x15_5 + 1)) x256000_5 x256001_5 x256002_5 x256003_5 (rd t265 x15_5) x256005_5 x256006_5 x256007_5) else (if (ji150) = 5 then (monikerref19_V6.l3 k5 t265 (wrap64 (x15_5 + 1)) x256000_5 x256001_5 x256002_5 x256003_5 x256004_5 (rd t265 x15_5) x256006_5 x256007_5) else (if (ji150) = 6 then (monikerref19_V6.l3 k5 t265 (wrap64 (x15_5 + 1)) x256000_5 x256001_5 x256002_5 x256003_5 x256004_5 x256005_5 (rd t265 x15_5) x256007_5) else (if (ji150) = 7 then (monikerref19_V6.l3 k5 t265 (wrap64 (x15_5 + 1)) x256000_5 x256001_5 x256002_5 x256003_5 x256004_5 x256005_5 x256006_5 (rd t265 x15_5)) else (none))))) = some (r1, r2, r3, r4, r5, r6, r7, r8, r9) := by first | (rw [hji150] at H; exact H) | (simp only [hji150] at H ⊢; exact H)
                           by_cases c151 : ji150 = 4
                           ·
                            subst c151
                            rw [if_pos rfl] at H
                            have H' := Aside0.mk H
                            clear H
                            obtain ⟨Ao152, co152, eo152⟩ := Kd.R_slice HO_12.out
                            subst eo152
                            have p271 : 0 ≤ (x15_5 : Int) := xod
                            have q271 : x15_5 < (t265.length : Int) := xod
                            obtain ⟨ad271, e271, hx271_0⟩ := Kd.at_int (Kd.R_reads' HO_12.out).2.2 x15_5 p271 q271
                            cases e271
                            replace p271 := eq_true p271
                            replace q271 := eq_true q271
                            try (have q271x := q271; simp only [ByteArray.size_extract, Nat.min_self] at q271x)
                            have hnb153 := NB255_254.out
                            have hnc153 := NB254_255.out
                            obtain ⟨hcz154_0, hcz154_1, hcz154_2, hcz154_3, hcz154_4, hcz154_5, hcz154_6, hcz154_7⟩ := xc8 BK255
                            have hfz154_0 := xf BK255 0
                            have hfz154_1 := xf BK255 1
                            have hfz154_2 := xf BK255 2
                            have hfz154_3 := xf BK255 3
                            have hfz154_4 := xf BK255 4
                            have hfz154_5 := xf BK255 5
                            have hfz154_6 := xf BK255 6
                            have hfz154_7 := xf BK255 7
                            go_wp2
                            first | go_roundg k5 | (simp only [← hji128, ← hji130, ← hji135, ← hji140, ← hji145]; go_roundg k5)
                            case measure => have := HK1.out; have := HJ70.out; have := HJ81.out; have := HK4.out; have := HK5.out; omega
                            case rel => exact ⟨(wrap64 (x15_5 + 1)), (x256000_5), (x256001_5), (x256002_5), (x256003_5), (rd t265 x15_5), (x256005_5), (x256006_5), (x256007_5), xrr, H', ⟨by have := HK1.out; have := HJ70.out; have := HJ81.out; have := HK4.out; have := HK5.out; omega⟩, ⟨by (with_reducible repeat (first | apply Kd.R_alloc | apply Kd.R_drewN | apply Kd.R_drew)); exact Kd.R_mono (Kd.R_far (p := ⟨gb255, 4, none⟩) (Kd.R_types HO_12.out BK255.out (by decide)) (fun _ hk => hk.2) (.int .i64 (rd t265 x15_5))) (fun _ hk => trivial)⟩, ⟨by (with_reducible repeat (first | refine blk_drewN ?_ _ | refine blk_drew ?_ | refine blk_alloc ?_ _)); refine blk_far ?_ NB254_255.out _; (with_reducible repeat (first | refine blk_drewN ?_ _ | refine blk_drew ?_ | refine blk_alloc ?_ _)); exact BK254.out⟩, ⟨by (with_reducible repeat (first | refine blk_drewN ?_ _ | refine blk_drew ?_ | refine blk_alloc ?_ _)); refine blk_put (cs := #[.int .i64 x256000_5, .int .i64 x256001_5, .int .i64 x256002_5, .int .i64 x256003_5, .int .i64 x256004_5, .int .i64 x256005_5, .int .i64 x256006_5, .int .i64 x256007_5]) ?_ 4 _ rfl; (with_reducible repeat (first | refine blk_drewN ?_ _ | refine blk_drew ?_ | refine blk_alloc ?_ _)); exact BK255.out⟩, ⟨xbl⟩⟩
                           ·
                            rw [if_neg c151] at H
                            clear c151
                            obtain ⟨ji155, hji155⟩ : ∃ j_ : Int, (ji150) = j_ := ⟨_, rfl⟩
                            replace H : (if ji155 = 5 then (monikerref19_V6.l3 k5 t265 (wrap64 (x15_5 + 1)) x256000_5 x256001_5 x256002_5 x256003_5 x256004_5 (rd t265 x15_5) x256006_5 x256007_5) else (if (ji155) = 6 then (monikerref19_V6.l3 k5 t265 (wrap64 (x15_5 + 1)) x256000_5 x256001_5 x256002_5 x256003_5 x256004_5 x256005_5 (rd t265 x15_5) x256007_5) else (if (ji155) = 7 then (monikerref19_V6.l3 k5 t265 (wrap64 (x15_5 + 1)) x256000_5 x256001_5 x256002_5 x256003_5 x256004_5 x256005_5 x256006_5 (rd t265 x15_5)) else (none)))) = some (r1, r2, r3, r4, r5, r6, r7, r8, r9) := by first | (rw [hji155] at H; exact H) | (simp only [hji155] at H ⊢; exact H)
                            by_cases c156 : ji155 = 5
                            ·
                             subst c156
                             rw [if_pos rfl] at H
                             have H' := Aside0.mk H
                             clear H
                             obtain ⟨Ao157, co157, eo157⟩ := Kd.R_slice HO_12.out
                             subst eo157
                             have p271 : 0 ≤ (x15_5 : Int) := xod
                             have q271 : x15_5 < (t265.length : Int) := xod
                             obtain ⟨ad271, e271, hx271_0⟩ := Kd.at_int (Kd.R_reads' HO_12.out).2.2 x15_5 p271 q271
                             cases e271
                             replace p271 := eq_true p271
                             replace q271 := eq_true q271
                             try (have q271x := q271; simp only [ByteArray.size_extract, Nat.min_self] at q271x)
                             have hnb158 := NB255_254.out
                             have hnc158 := NB254_255.out
                             obtain ⟨hcz159_0, hcz159_1, hcz159_2, hcz159_3, hcz159_4, hcz159_5, hcz159_6, hcz159_7⟩ := xc8 BK255
                             have hfz159_0 := xf BK255 0
                             have hfz159_1 := xf BK255 1
                             have hfz159_2 := xf BK255 2
                             have hfz159_3 := xf BK255 3
                             have hfz159_4 := xf BK255 4
                             have hfz159_5 := xf BK255 5
                             have hfz159_6 := xf BK255 6
                             have hfz159_7 := xf BK255 7
                             go_wp2
                             first | go_roundg k5 | (simp only [← hji128, ← hji130, ← hji135, ← hji140, ← hji145, ← hji150]; go_roundg k5)
                             case measure => have := HK1.out; have := HJ70.out; have := HJ81.out; have := HK4.out; have := HK5.out; omega
                             case rel => exact ⟨(wrap64 (x15_5 + 1)), (x256000_5), (x256001_5), (x256002_5), (x256003_5), (x256004_5), (rd t265 x15_5), (x256006_5), (x256007_5), xrr, H', ⟨by have := HK1.out; have := HJ70.out; have := HJ81.out; have := HK4.out; have := HK5.out; omega⟩, ⟨by (with_reducible repeat (first | apply Kd.R_alloc | apply Kd.R_drewN | apply Kd.R_drew)); exact Kd.R_mono (Kd.R_far (p := ⟨gb255, 5, none⟩) (Kd.R_types HO_12.out BK255.out (by decide)) (fun _ hk => hk.2) (.int .i64 (rd t265 x15_5))) (fun _ hk => trivial)⟩, ⟨by (with_reducible repeat (first | refine blk_drewN ?_ _ | refine blk_drew ?_ | refine blk_alloc ?_ _)); refine blk_far ?_ NB254_255.out _; (with_reducible repeat (first | refine blk_drewN ?_ _ | refine blk_drew ?_ | refine blk_alloc ?_ _)); exact BK254.out⟩, ⟨by (with_reducible repeat (first | refine blk_drewN ?_ _ | refine blk_drew ?_ | refine blk_alloc ?_ _)); refine blk_put (cs := #[.int .i64 x256000_5, .int .i64 x256001_5, .int .i64 x256002_5, .int .i64 x256003_5, .int .i64 x256004_5, .int .i64 x256005_5, .int .i64 x256006_5, .int .i64 x256007_5]) ?_ 5 _ rfl; (with_reducible repeat (first | refine blk_drewN ?_ _ | refine blk_drew ?_ | refine blk_alloc ?_ _)); exact BK255.out⟩, ⟨xbl⟩⟩
                            ·
                             rw [if_neg c156] at H
                             clear c156
                             obtain ⟨ji160, hji160⟩ : ∃ j_ : Int, (ji155) = j_ := ⟨_, rfl⟩
                             replace H : (if ji160 = 6 then (monikerref19_V6.l3 k5 t265 (wrap64 (x15_5 + 1)) x256000_5 x256001_5 x256002_5 x256003_5 x256004_5 x256005_5 (rd t265 x15_5) x256007_5) else (if (ji160) = 7 then (monikerref19_V6.l3 k5 t265 (wrap64 (x15_5 + 1)) x256000_5 x256001_5 x256002_5 x256003_5 x256004_5 x256005_5 x256006_5 (rd t265 x15_5)) else (none))) = some (r1, r2, r3, r4, r5, r6, r7, r8, r9) := by first | (rw [hji160] at H; exact H) | (simp only [hji160] at H ⊢; exact H)
                             by_cases c161 : ji160 = 6
                             ·
                              subst c161
                              rw [if_pos rfl] at H
                              have H' := Aside0.mk H
                              clear H
                              obtain ⟨Ao162, co162, eo162⟩ := Kd.R_slice HO_12.out
                              subst eo162
                              have p271 : 0 ≤ (x15_5 : Int) := xod
                              have q271 : x15_5 < (t265.length : Int) := xod
                              obtain ⟨ad271, e271, hx271_0⟩ := Kd.at_int (Kd.R_reads' HO_12.out).2.2 x15_5 p271 q271
                              cases e271
                              replace p271 := eq_true p271
                              replace q271 := eq_true q271
                              try (have q271x := q271; simp only [ByteArray.size_extract, Nat.min_self] at q271x)
                              have hnb163 := NB255_254.out
                              have hnc163 := NB254_255.out
                              obtain ⟨hcz164_0, hcz164_1, hcz164_2, hcz164_3, hcz164_4, hcz164_5, hcz164_6, hcz164_7⟩ := xc8 BK255
                              have hfz164_0 := xf BK255 0
                              have hfz164_1 := xf BK255 1
                              have hfz164_2 := xf BK255 2
                              have hfz164_3 := xf BK255 3
                              have hfz164_4 := xf BK255 4
                              have hfz164_5 := xf BK255 5
                              have hfz164_6 := xf BK255 6
                              have hfz164_7 := xf BK255 7
                              go_wp2
                              first | go_roundg k5 | (simp only [← hji128, ← hji130, ← hji135, ← hji140, ← hji145, ← hji150, ← hji155]; go_roundg k5)
                              case measure => have := HK1.out; have := HJ70.out; have := HJ81.out; have := HK4.out; have := HK5.out; omega
                              case rel => exact ⟨(wrap64 (x15_5 + 1)), (x256000_5), (x256001_5), (x256002_5), (x256003_5), (x256004_5), (x256005_5), (rd t265 x15_5), (x256007_5), xrr, H', ⟨by have := HK1.out; have := HJ70.out; have := HJ81.out; have := HK4.out; have := HK5.out; omega⟩, ⟨by (with_reducible repeat (first | apply Kd.R_alloc | apply Kd.R_drewN | apply Kd.R_drew)); exact Kd.R_mono (Kd.R_far (p := ⟨gb255, 6, none⟩) (Kd.R_types HO_12.out BK255.out (by decide)) (fun _ hk => hk.2) (.int .i64 (rd t265 x15_5))) (fun _ hk => trivial)⟩, ⟨by (with_reducible repeat (first | refine blk_drewN ?_ _ | refine blk_drew ?_ | refine blk_alloc ?_ _)); refine blk_far ?_ NB254_255.out _; (with_reducible repeat (first | refine blk_drewN ?_ _ | refine blk_drew ?_ | refine blk_alloc ?_ _)); exact BK254.out⟩, ⟨by (with_reducible repeat (first | refine blk_drewN ?_ _ | refine blk_drew ?_ | refine blk_alloc ?_ _)); refine blk_put (cs := #[.int .i64 x256000_5, .int .i64 x256001_5, .int .i64 x256002_5, .int .i64 x256003_5, .int .i64 x256004_5, .int .i64 x256005_5, .int .i64 x256006_5, .int .i64 x256007_5]) ?_ 6 _ rfl; (with_reducible repeat (first | refine blk_drewN ?_ _ | refine blk_drew ?_ | refine blk_alloc ?_ _)); exact BK255.out⟩, ⟨xbl⟩⟩
                             ·
                              rw [if_neg c161] at H
                              clear c161
                              obtain ⟨ji165, hji165⟩ : ∃ j_ : Int, (ji160) = j_ := ⟨_, rfl⟩
                              replace H : (if ji165 = 7 then (monikerref19_V6.l3 k5 t265 (wrap64 (x15_5 + 1)) x256000_5 x256001_5 x256002_5 x256003_5 x256004_5 x256005_5 x256006_5 (rd t265 x15_5)) else (none)) = some (r1, r2, r3, r4, r5, r6, r7, r8, r9) := by first | (rw [hji165] at H; exact H) | (simp only [hji165] at H ⊢; exact H)
                              by_cases c166 : ji165 = 7
                              ·
                               subst c166
                               rw [if_pos rfl] at H
                               have H' := Aside0.mk H
                               clear H
                               obtain ⟨Ao167, co167, eo167⟩ := Kd.R_slice HO_12.out
                               subst eo167
                               have p271 : 0 ≤ (x15_5 : Int) := xod
                               have q271 : x15_5 < (t265.length : Int) := xod
                               obtain ⟨ad271, e271, hx271_0⟩ := Kd.at_int (Kd.R_reads' HO_12.out).2.2 x15_5 p271 q271
                               cases e271
                               replace p271 := eq_true p271
                               replace q271 := eq_true q271
                               try (have q271x := q271; simp only [ByteArray.size_extract, Nat.min_self] at q271x)
                               have hnb168 := NB255_254.out
                               have hnc168 := NB254_255.out
                               obtain ⟨hcz169_0, hcz169_1, hcz169_2, hcz169_3, hcz169_4, hcz169_5, hcz169_6, hcz169_7⟩ := xc8 BK255
                               have hfz169_0 := xf BK255 0
                               have hfz169_1 := xf BK255 1
                               have hfz169_2 := xf BK255 2
                               have hfz169_3 := xf BK255 3
                               have hfz169_4 := xf BK255 4
                               have hfz169_5 := xf BK255 5
                               have hfz169_6 := xf BK255 6
                               have hfz169_7 := xf BK255 7
                               go_wp2
                               first | go_roundg k5 | (simp only [← hji128, ← hji130, ← hji135, ← hji140, ← hji145, ← hji150, ← hji155, ← hji160]; go_roundg k5)
                               case measure => have := HK1.out; have := HJ70.out; have := HJ81.out; have := HK4.out; have := HK5.out; omega
                               case rel => exact ⟨(wrap64 (x15_5 + 1)), (x256000_5), (x256001_5), (x256002_5), (x256003_5), (x256004_5), (x256005_5), (x256006_5), (rd t265 x15_5), xrr, H', ⟨by have := HK1.out; have := HJ70.out; have := HJ81.out; have := HK4.out; have := HK5.out; omega⟩, ⟨by (with_reducible repeat (first | apply Kd.R_alloc | apply Kd.R_drewN | apply Kd.R_drew)); exact Kd.R_mono (Kd.R_far (p := ⟨gb255, 7, none⟩) (Kd.R_types HO_12.out BK255.out (by decide)) (fun _ hk => hk.2) (.int .i64 (rd t265 x15_5))) (fun _ hk => trivial)⟩, ⟨by (with_reducible repeat (first | refine blk_drewN ?_ _ | refine blk_drew ?_ | refine blk_alloc ?_ _)); refine blk_far ?_ NB254_255.out _; (with_reducible repeat (first | refine blk_drewN ?_ _ | refine blk_drew ?_ | refine blk_alloc ?_ _)); exact BK254.out⟩, ⟨by (with_reducible repeat (first | refine blk_drewN ?_ _ | refine blk_drew ?_ | refine blk_alloc ?_ _)); refine blk_put (cs := #[.int .i64 x256000_5, .int .i64 x256001_5, .int .i64 x256002_5, .int .i64 x256003_5, .int .i64 x256004_5, .int .i64 x256005_5, .int .i64 x256006_5, .int .i64 x256007_5]) ?_ 7 _ rfl; (with_reducible repeat (first | refine blk_drewN ?_ _ | refine blk_drew ?_ | refine blk_alloc ?_ _)); exact BK255.out⟩, ⟨xbl⟩⟩
                              ·
                               rw [if_neg c166] at H
                               clear c166
                               exact absurd H (by simp)
                      ·
                       rw [if_neg c129] at H
                       exact absurd H (by simp)
                     ·
                      rw [if_neg c127] at H
                      exact absurd H (by simp)
                    ·
                     rw [if_neg c126] at H
                     have c126b0 := decide_eq_false c126
                     clear c126
                     simp only [Option.some.injEq, Prod.mk.injEq] at H
                     obtain ⟨rfl, rfl, rfl, rfl, rfl, rfl, rfl, rfl, rfl⟩ := H
                     obtain ⟨Ao170, co170, eo170⟩ := Kd.R_slice HO_12.out
                     subst eo170
                     have hnb171 := NB255_254.out
                     have hnc171 := NB254_255.out
                     obtain ⟨hcz172_0, hcz172_1, hcz172_2, hcz172_3, hcz172_4, hcz172_5, hcz172_6, hcz172_7⟩ := xc8 BK255
                     have hfz172_0 := xf BK255 0
                     have hfz172_1 := xf BK255 1
                     have hfz172_2 := xf BK255 2
                     have hfz172_3 := xf BK255 3
                     have hfz172_4 := xf BK255 4
                     have hfz172_5 := xf BK255 5
                     have hfz172_6 := xf BK255 6
                     have hfz172_7 := xf BK255 7
                     obtain ⟨hcz173_0, hcz173_1, hcz173_2, hcz173_3, hcz173_4, hcz173_5, hcz173_6, hcz173_7⟩ := xc8 BK254
                     have hfz173_0 := xf BK254 0
                     have hfz173_1 := xf BK254 1
                     have hfz173_2 := xf BK254 2
                     have hfz173_3 := xf BK254 3
                     have hfz173_4 := xf BK254 4
                     have hfz173_5 := xf BK254 5
                     have hfz173_6 := xf BK254 6
                     have hfz173_7 := xf BK254 7
                     go_wp2
                     refine bodyPost_ret (results_ct rfl _ _ gb254 33 #[.int .i64 x256000_5, .int .i64 x256001_5, .int .i64 x256002_5, .int .i64 x256003_5, .int .i64 x256004_5, .int .i64 x256005_5, .int .i64 x256006_5, .int .i64 x256007_5] (0, 0) _ rfl xbk Tryd.underlying33 rfl (by kernel_rfl)) rfl ?_
                     exact ⟨by first | rfl | (simp [errW_none, errW_some] <;> first | rfl | (simp only [xp_isEmpty, bne, Bool.not_not]; done)) | (simp only [← hji64, ← hji66, ← hji69]; first | rfl | (simp [errW_none, errW_some] <;> rfl)) | (simp [*, errW_none, errW_some] <;> rfl), xbl⟩
        ·
         rw [if_neg c68] at H
         exact absurd H (by simp)
       ·
        rw [if_neg c67] at H
        exact absurd H (by simp)
      ·
       rw [if_neg c63] at H
       exact absurd H (by simp)
     ·
      rw [if_neg c62] at H
      exact absurd H (by simp)
end Go.Proofs.YticohlbfolnmpaaDoor.X
