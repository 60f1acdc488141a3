/- Texts that the law's proof needs, joined by a program of this session. -/
import Derived.Test.YticohlbfolnmpaaDoorZIpReads0
import Derived.Test.YticohlbfolnmpaaDoorZIpReads1
import Derived.Test.YticohlbfolnmpaaDoorZIpReads2
import Derived.Test.YticohlbfolnmpaaDoorZIpReads3
import Derived.Test.YticohlbfolnmpaaDoorZIpReads4
import Derived.Test.YticohlbfolnmpaaDoorZIpReads7
import Derived.Test.YticohlbfolnmpaaDoorZIpReads8
import Derived.Test.YticohlbfolnmpaaDoorZIpReads9
import Derived.Test.YticohlbfolnmpaaDoorZIpReads10
import Derived.Lib.Bytealg
import Derived.Laws.Strings
import Derived.Lib.Split
import Derived.Lib.SplitLaws
namespace Go.Proofs.YticohlbfolnmpaaDoor.X
open Go.RowKit Go.Proofs.YticohlbfolnmpaaDoorW.PrintWords Go.Proofs.YticohlbfolnmpaaDoorW.PrintLast Go.Proofs.YticohlbfolnmpaaDoorW.PrintMore
attribute [local go_sem] max2_int min2_int max_two min_two max_three min_three max_four min_four
set_option linter.unusedVariables false
set_option linter.unusedSimpArgs false
mutual
def monikerlaw19_IpReads.l0 : Nat → ByteArray → Bool → Bool → Bool → Bool → Int → Int → Int → Int → Int → Int → Int → Int → Int → Int → Int → Int → Int → Int → Int → Int → Int → Int → Int → Int → Int → Int → Int → Int → Int → Option (Bool)
  | 0, _, _, _, _, _, _, _, _, _, _, _, _, _, _, _, _, _, _, _, _, _, _, _, _, _, _, _, _, _, _ => none
  | k + 1, x0, x4, x6, x8, x10, x37, x288000, x288001, x288002, x288003, x298000, x298001, x298002, x298003, x298004, x298005, x298006, x298007, x304000, x304001, x304002, x304003, x314000, x314001, x314002, x314003, x314004, x314005, x314006, x314007 => if x37 < 4 then (if 0 ≤ x37 then (if x37 = 0 then (if (wrap64 (x288000)) = x304000 then (monikerlaw19_IpReads.l0 k x0 x4 x6 x8 x10 (wrap64 (x37 + 1)) x288000 x288001 x288002 x288003 x298000 x298001 x298002 x298003 x298004 x298005 x298006 x298007 x304000 x304001 x304002 x304003 x314000 x314001 x314002 x314003 x314004 x314005 x314006 x314007) else (some false)) else (if x37 = 1 then (if (wrap64 (x288001)) = x304001 then (monikerlaw19_IpReads.l0 k x0 x4 x6 x8 x10 (wrap64 (x37 + 1)) x288000 x288001 x288002 x288003 x298000 x298001 x298002 x298003 x298004 x298005 x298006 x298007 x304000 x304001 x304002 x304003 x314000 x314001 x314002 x314003 x314004 x314005 x314006 x314007) else (some false)) else (if x37 = 2 then (if (wrap64 (x288002)) = x304002 then (monikerlaw19_IpReads.l0 k x0 x4 x6 x8 x10 (wrap64 (x37 + 1)) x288000 x288001 x288002 x288003 x298000 x298001 x298002 x298003 x298004 x298005 x298006 x298007 x304000 x304001 x304002 x304003 x314000 x314001 x314002 x314003 x314004 x314005 x314006 x314007) else (some false)) else (if x37 = 3 then (if (wrap64 (x288003)) = x304003 then (monikerlaw19_IpReads.l0 k x0 x4 x6 x8 x10 (wrap64 (x37 + 1)) x288000 x288001 x288002 x288003 x298000 x298001 x298002 x298003 x298004 x298005 x298006 x298007 x304000 x304001 x304002 x304003 x314000 x314001 x314002 x314003 x314004 x314005 x314006 x314007) else (some false)) else (none))))) else (none)) else (monikerlaw19_IpReads.l1 k x0 x4 x6 x8 x10 0 x298000 x298001 x298002 x298003 x298004 x298005 x298006 x298007 x314000 x314001 x314002 x314003 x314004 x314005 x314006 x314007)
def monikerlaw19_IpReads.l1 : Nat → ByteArray → Bool → Bool → Bool → Bool → Int → Int → Int → Int → Int → Int → Int → Int → Int → Int → Int → Int → Int → Int → Int → Int → Int → Option (Bool)
  | 0, _, _, _, _, _, _, _, _, _, _, _, _, _, _, _, _, _, _, _, _, _, _ => none
  | k + 1, x0, x4, x6, x8, x10, x49, x298000, x298001, x298002, x298003, x298004, x298005, x298006, x298007, x314000, x314001, x314002, x314003, x314004, x314005, x314006, x314007 => if x49 < 8 then (if 0 ≤ x49 then (if x49 = 0 then (if (wrap64 (x298000)) = x314000 then (monikerlaw19_IpReads.l1 k x0 x4 x6 x8 x10 (wrap64 (x49 + 1)) x298000 x298001 x298002 x298003 x298004 x298005 x298006 x298007 x314000 x314001 x314002 x314003 x314004 x314005 x314006 x314007) else (some false)) else (if x49 = 1 then (if (wrap64 (x298001)) = x314001 then (monikerlaw19_IpReads.l1 k x0 x4 x6 x8 x10 (wrap64 (x49 + 1)) x298000 x298001 x298002 x298003 x298004 x298005 x298006 x298007 x314000 x314001 x314002 x314003 x314004 x314005 x314006 x314007) else (some false)) else (if x49 = 2 then (if (wrap64 (x298002)) = x314002 then (monikerlaw19_IpReads.l1 k x0 x4 x6 x8 x10 (wrap64 (x49 + 1)) x298000 x298001 x298002 x298003 x298004 x298005 x298006 x298007 x314000 x314001 x314002 x314003 x314004 x314005 x314006 x314007) else (some false)) else (if x49 = 3 then (if (wrap64 (x298003)) = x314003 then (monikerlaw19_IpReads.l1 k x0 x4 x6 x8 x10 (wrap64 (x49 + 1)) x298000 x298001 x298002 x298003 x298004 x298005 x298006 x298007 x314000 x314001 x314002 x314003 x314004 x314005 x314006 x314007) else (some false)) else (if x49 = 4 then (if (wrap64 (x298004)) = x314004 then (monikerlaw19_IpReads.l1 k x0 x4 x6 x8 x10 (wrap64 (x49 + 1)) x298000 x298001 x298002 x298003 x298004 x298005 x298006 x298007 x314000 x314001 x314002 x314003 x314004 x314005 x314006 x314007) else (some false)) else (if x49 = 5 then (if (wrap64 (x298005)) = x314005 then (monikerlaw19_IpReads.l1 k x0 x4 x6 x8 x10 (wrap64 (x49 + 1)) x298000 x298001 x298002 x298003 x298004 x298005 x298006 x298007 x314000 x314001 x314002 x314003 x314004 x314005 x314006 x314007) else (some false)) else (if x49 = 6 then (if (wrap64 (x298006)) = x314006 then (monikerlaw19_IpReads.l1 k x0 x4 x6 x8 x10 (wrap64 (x49 + 1)) x298000 x298001 x298002 x298003 x298004 x298005 x298006 x298007 x314000 x314001 x314002 x314003 x314004 x314005 x314006 x314007) else (some false)) else (if x49 = 7 then (if (wrap64 (x298007)) = x314007 then (monikerlaw19_IpReads.l1 k x0 x4 x6 x8 x10 (wrap64 (x49 + 1)) x298000 x298001 x298002 x298003 x298004 x298005 x298006 x298007 x314000 x314001 x314002 x314003 x314004 x314005 x314006 x314007) else (some false)) else (none))))))))) else (none)) else (if (x4 == x8) = true then (if (x6 == x10) = true then ((ip_Future.f k x0).bind fun t314 => ((monikerref19_Future.f k x0).bind fun t315 => (if (t314 == t315) = true then ((monikerlaw19_awake.f k).bind fun t316 => (some t316)) else (some false)))) else (some false)) else (some false))
end
def monikerlaw19_IpReads.f (k : Nat) (a0 : ByteArray) : Option (Bool) := if (a0.size : Int) > 80 then ((monikerlaw19_awake.f k).bind fun t281 => (some t281)) else ((ip_V4.f k a0).bind fun bt282 => ((ip_V6.f k a0).bind fun bt288 => ((monikerref19_V4.f k a0).bind fun bt298 => ((monikerref19_V6.f k a0).bind fun bt304 => (monikerlaw19_IpReads.l0 k a0 bt282.2.2.2.2 bt288.2.2.2.2.2.2.2.2 bt298.2.2.2.2 bt304.2.2.2.2.2.2.2.2 0 bt282.1 bt282.2.1 bt282.2.2.1 bt282.2.2.2.1 bt288.1 bt288.2.1 bt288.2.2.1 bt288.2.2.2.1 bt288.2.2.2.2.1 bt288.2.2.2.2.2.1 bt288.2.2.2.2.2.2.1 bt288.2.2.2.2.2.2.2.1 bt298.1 bt298.2.1 bt298.2.2.1 bt298.2.2.2.1 bt304.1 bt304.2.1 bt304.2.2.1 bt304.2.2.2.1 bt304.2.2.2.2.1 bt304.2.2.2.2.2.1 bt304.2.2.2.2.2.2.1 bt304.2.2.2.2.2.2.2.1)))))
theorem monikerlaw19_IpReads.mono_l : ∀ k, (∀ y0 y1 y2 y3 y4 y5 y6 y7 y8 y9 y10 y11 y12 y13 y14 y15 y16 y17 y18 y19 y20 y21 y22 y23 y24 y25 y26 y27 y28 y29, LeO (monikerlaw19_IpReads.l0 k y0 y1 y2 y3 y4 y5 y6 y7 y8 y9 y10 y11 y12 y13 y14 y15 y16 y17 y18 y19 y20 y21 y22 y23 y24 y25 y26 y27 y28 y29) (monikerlaw19_IpReads.l0 (k + 1) y0 y1 y2 y3 y4 y5 y6 y7 y8 y9 y10 y11 y12 y13 y14 y15 y16 y17 y18 y19 y20 y21 y22 y23 y24 y25 y26 y27 y28 y29)) ∧ (∀ y0 y1 y2 y3 y4 y5 y6 y7 y8 y9 y10 y11 y12 y13 y14 y15 y16 y17 y18 y19 y20 y21, LeO (monikerlaw19_IpReads.l1 k y0 y1 y2 y3 y4 y5 y6 y7 y8 y9 y10 y11 y12 y13 y14 y15 y16 y17 y18 y19 y20 y21) (monikerlaw19_IpReads.l1 (k + 1) y0 y1 y2 y3 y4 y5 y6 y7 y8 y9 y10 y11 y12 y13 y14 y15 y16 y17 y18 y19 y20 y21))
  | 0 => ⟨fun _ _ _ _ _ _ _ _ _ _ _ _ _ _ _ _ _ _ _ _ _ _ _ _ _ _ _ _ _ _ r h => by simp [monikerlaw19_IpReads.l0] at h, fun _ _ _ _ _ _ _ _ _ _ _ _ _ _ _ _ _ _ _ _ _ _ r h => by simp [monikerlaw19_IpReads.l1] at h⟩
  | k + 1 => by
    obtain ⟨ih0, ih1⟩ := monikerlaw19_IpReads.mono_l k
    have m0 := @ip_Future.mono; have m1 := @ip_V4.mono; have m2 := @ip_V6.mono; have m3 := @monikerlaw19_awake.mono; have m4 := @monikerref19_Future.mono; have m5 := @monikerref19_V4.mono; have m6 := @monikerref19_V6.mono
    refine ⟨?_, ?_⟩
    · intro y0 y1 y2 y3 y4 y5 y6 y7 y8 y9 y10 y11 y12 y13 y14 y15 y16 y17 y18 y19 y20 y21 y22 y23 y24 y25 y26 y27 y28 y29
      unfold monikerlaw19_IpReads.l0
      exact xmo
    · intro y0 y1 y2 y3 y4 y5 y6 y7 y8 y9 y10 y11 y12 y13 y14 y15 y16 y17 y18 y19 y20 y21
      unfold monikerlaw19_IpReads.l1
      exact xmo
theorem monikerlaw19_IpReads.mono : ∀ a0 k, LeO (monikerlaw19_IpReads.f k a0) (monikerlaw19_IpReads.f (k + 1) a0) := by
  intro a0 k
  obtain ⟨ih0, ih1⟩ := monikerlaw19_IpReads.mono_l k
  have m0 := @ip_Future.mono; have m1 := @ip_V4.mono; have m2 := @ip_V6.mono; have m3 := @monikerlaw19_awake.mono; have m4 := @monikerref19_Future.mono; have m5 := @monikerref19_V4.mono; have m6 := @monikerref19_V6.mono
  unfold monikerlaw19_IpReads.f
  exact xmo
set_option maxHeartbeats 8000000 in
set_option maxRecDepth 100000 in
theorem monikerlaw19_IpReads.calls (k : Nat) (a0 : ByteArray) (r : Bool) (w : World) (hG : GW w) (h : monikerlaw19_IpReads.f k a0 = some r) :
    Calls Tryd.prog 3 #[.string a0] w fun e w' => e = .returned (.bool r) ∧ Below w.heap.size w w' := by
 have hu23 := Tryd.underlying23
 have hu27 := Tryd.underlying27
 have hu30 := Tryd.underlying30
 have hu33 := Tryd.underlying33
 have HB := Aside0.mk (Below.refl w.heap.size w)
 have H : (if (a0.size : Int) > 80 then ((monikerlaw19_awake.f k).bind fun t281 => (some t281)) else ((ip_V4.f k a0).bind fun bt282 => ((ip_V6.f k a0).bind fun bt288 => ((monikerref19_V4.f k a0).bind fun bt298 => ((monikerref19_V6.f k a0).bind fun bt304 => (monikerlaw19_IpReads.l0 k a0 bt282.2.2.2.2 bt288.2.2.2.2.2.2.2.2 bt298.2.2.2.2 bt304.2.2.2.2.2.2.2.2 0 bt282.1 bt282.2.1 bt282.2.2.1 bt282.2.2.2.1 bt288.1 bt288.2.1 bt288.2.2.1 bt288.2.2.2.1 bt288.2.2.2.2.1 bt288.2.2.2.2.2.1 bt288.2.2.2.2.2.2.1 bt288.2.2.2.2.2.2.2.1 bt298.1 bt298.2.1 bt298.2.2.1 bt298.2.2.2.1 bt304.1 bt304.2.1 bt304.2.2.1 bt304.2.2.2.1 bt304.2.2.2.2.1 bt304.2.2.2.2.2.1 bt304.2.2.2.2.2.2.1 bt304.2.2.2.2.2.2.2.1)))))) = some r := h
 clear h
 by_cases c2 : (a0.size : Int) > 80
 ·
  rw [if_pos c2] at H
  have c2b0 := decide_eq_true c2
  have c2b1 : decide (80 < a0.size) = true := decide_eq_true (by omega)
  clear c2
  replace H := Option.bind_eq_some_iff.mp H
  obtain ⟨t281, A30, H⟩ := H
  try dsimp only at H
  have A3 := Aside0.mk A30
  clear A30
  obtain rfl := Option.some.inj H
  go_enter Tryd.func3, Tryd.ntmps3
  go_wp2_with (first | (go_at_call 7; (with_reducible refine (monikerlaw19_awake.calls k  t281 _ ?side1 A3.out).mono ?_); (case side1 => first | (with_reducible exact hG) | exact GW_to hG xbl); rintro e w4 ⟨rfl, hb⟩; replace HB := xst hb; (try clear hb)))
  repeat (go_quiet (first | (go_at_call 7; (with_reducible refine (monikerlaw19_awake.calls k  t281 _ ?side1 A3.out).mono ?_); (case side1 => first | (with_reducible exact hG) | exact GW_to hG xbl); rintro e w4 ⟨rfl, hb⟩; replace HB := xst hb; (try clear hb))); try go_wp2_with (first | (go_at_call 7; (with_reducible refine (monikerlaw19_awake.calls k  t281 _ ?side1 A3.out).mono ?_); (case side1 => first | (with_reducible exact hG) | exact GW_to hG xbl); rintro e w4 ⟨rfl, hb⟩; replace HB := xst hb; (try clear hb))))
  go_ret
  exact ⟨xre, xbl⟩
 ·
  rw [if_neg c2] at H
  have c2b0 := decide_eq_false c2
  have c2b1 : decide (80 < a0.size) = false := decide_eq_false (by omega)
  clear c2
  replace H := Option.bind_eq_some_iff.mp H
  obtain ⟨⟨t282, t283, t284, t285, t286⟩, A50, H⟩ := H
  try dsimp only at H
  have A5 := Aside0.mk A50
  clear A50
  replace H := Option.bind_eq_some_iff.mp H
  obtain ⟨⟨t288, t289, t290, t291, t292, t293, t294, t295, t296⟩, A60, H⟩ := H
  try dsimp only at H
  have A6 := Aside0.mk A60
  clear A60
  replace H := Option.bind_eq_some_iff.mp H
  obtain ⟨⟨t298, t299, t300, t301, t302⟩, A70, H⟩ := H
  try dsimp only at H
  have A7 := Aside0.mk A70
  clear A70
  replace H := Option.bind_eq_some_iff.mp H
  obtain ⟨⟨t304, t305, t306, t307, t308, t309, t310, t311, t312⟩, A80, H⟩ := H
  try dsimp only at H
  have A8 := Aside0.mk A80
  clear A80
  have H' := Aside0.mk H
  clear H
  go_enter Tryd.func3, Tryd.ntmps3
  go_wp2_with (first | (go_at_call 8; (with_reducible refine (ip_V4.calls k a0 t282 t283 t284 t285 t286 _ ?side1 A5.out).mono ?_); (case side1 => first | (with_reducible exact hG) | exact GW_to hG xbl); rintro e w9 ⟨rfl, hb⟩; replace HB := xst hb; (try clear hb)) | ((with_reducible refine gate_dst (N := 3) rfl ?_); refine xev 3 #[.int .u8 0, .int .u8 0, .int .u8 0, .int .u8 0] 23 ?_; intro gb287 hg w10 hbox hb; have BK287 := Aside0.mk (hbox); have GW287 := xsz hg; have GE287 := GW287; replace HB := xst hb; clear hb hbox hg; obtain ⟨hcz11_0, hcz11_1, hcz11_2, hcz11_3⟩ := xc4 BK287; have hfz11_0 := xf BK287 0; have hfz11_1 := xf BK287 1; have hfz11_2 := xf BK287 2; have hfz11_3 := xf BK287 3) | (go_at_call 9; (with_reducible refine (ip_V6.calls k a0 t288 t289 t290 t291 t292 t293 t294 t295 t296 _ ?side1 A6.out).mono ?_); (case side1 => first | (with_reducible exact hG) | exact GW_to hG xbl); rintro e w12 ⟨rfl, hb⟩; replace BK287 := xbb (g := gb287) (o := .cells #[.int .u8 t282, .int .u8 t283, .int .u8 t284, .int .u8 t285] 23 (0, 0)) hb; replace HB := xst hb; (try clear hb)) | ((with_reducible refine gate_dst (N := 5) rfl ?_); refine xev 5 #[.int .u16 0, .int .u16 0, .int .u16 0, .int .u16 0, .int .u16 0, .int .u16 0, .int .u16 0, .int .u16 0] 27 ?_; intro gb297 hg w13 hbox hb; have BK297 := Aside0.mk (hbox); have GW297 := xsz hg; have GE297 := GW297; have NB287_297 := xlt (g := gb287) hg; have NB297_287 := xgt (g := gb287) hg; replace BK287 := xbb (g := gb287) (o := .cells #[.int .u8 t282, .int .u8 t283, .int .u8 t284, .int .u8 t285] 23 (0, 0)) hb; replace HB := xst hb; clear hb hbox hg; have hnb14 := NB297_287.out; have hnc14 := NB287_297.out; obtain ⟨hcz15_0, hcz15_1, hcz15_2, hcz15_3, hcz15_4, hcz15_5, hcz15_6, hcz15_7⟩ := xc8 BK297; have hfz15_0 := xf BK297 0; have hfz15_1 := xf BK297 1; have hfz15_2 := xf BK297 2; have hfz15_3 := xf BK297 3; have hfz15_4 := xf BK297 4; have hfz15_5 := xf BK297 5; have hfz15_6 := xf BK297 6; have hfz15_7 := xf BK297 7) | (go_at_call 10; (with_reducible refine (monikerref19_V4.calls k a0 t298 t299 t300 t301 t302 _ A7.out).mono ?_); rintro e w16 ⟨rfl, hb⟩; replace BK287 := xbb (g := gb287) (o := .cells #[.int .u8 t282, .int .u8 t283, .int .u8 t284, .int .u8 t285] 23 (0, 0)) hb; replace BK297 := xbb (g := gb297) (o := .cells #[.int .u16 t288, .int .u16 t289, .int .u16 t290, .int .u16 t291, .int .u16 t292, .int .u16 t293, .int .u16 t294, .int .u16 t295] 27 (0, 0)) hb; replace HB := xst hb; (try clear hb)) | ((with_reducible refine gate_dst (N := 7) rfl ?_); refine xev 7 #[.int .i64 0, .int .i64 0, .int .i64 0, .int .i64 0] 30 ?_; intro gb303 hg w17 hbox hb; have BK303 := Aside0.mk (hbox); have GW303 := xsz hg; have GE303 := GW303; have NB287_303 := xlt (g := gb287) hg; have NB303_287 := xgt (g := gb287) hg; have NB297_303 := xlt (g := gb297) hg; have NB303_297 := xgt (g := gb297) hg; replace BK287 := xbb (g := gb287) (o := .cells #[.int .u8 t282, .int .u8 t283, .int .u8 t284, .int .u8 t285] 23 (0, 0)) hb; replace BK297 := xbb (g := gb297) (o := .cells #[.int .u16 t288, .int .u16 t289, .int .u16 t290, .int .u16 t291, .int .u16 t292, .int .u16 t293, .int .u16 t294, .int .u16 t295] 27 (0, 0)) hb; replace HB := xst hb; clear hb hbox hg; have hnb18 := NB303_287.out; have hnc18 := NB287_303.out; have hnb19 := NB303_297.out; have hnc19 := NB297_303.out; obtain ⟨hcz20_0, hcz20_1, hcz20_2, hcz20_3⟩ := xc4 BK303; have hfz20_0 := xf BK303 0; have hfz20_1 := xf BK303 1; have hfz20_2 := xf BK303 2; have hfz20_3 := xf BK303 3) | (go_at_call 11; (with_reducible refine (monikerref19_V6.calls k a0 t304 t305 t306 t307 t308 t309 t310 t311 t312 _ A8.out).mono ?_); rintro e w21 ⟨rfl, hb⟩; replace BK287 := xbb (g := gb287) (o := .cells #[.int .u8 t282, .int .u8 t283, .int .u8 t284, .int .u8 t285] 23 (0, 0)) hb; replace BK297 := xbb (g := gb297) (o := .cells #[.int .u16 t288, .int .u16 t289, .int .u16 t290, .int .u16 t291, .int .u16 t292, .int .u16 t293, .int .u16 t294, .int .u16 t295] 27 (0, 0)) hb; replace BK303 := xbb (g := gb303) (o := .cells #[.int .i64 t298, .int .i64 t299, .int .i64 t300, .int .i64 t301] 30 (0, 0)) hb; replace HB := xst hb; (try clear hb)) | ((with_reducible refine gate_dst (N := 9) rfl ?_); refine xev 9 #[.int .i64 0, .int .i64 0, .int .i64 0, .int .i64 0, .int .i64 0, .int .i64 0, .int .i64 0, .int .i64 0] 33 ?_; intro gb313 hg w22 hbox hb; have BK313 := Aside0.mk (hbox); have GW313 := xsz hg; have GE313 := GW313; have NB287_313 := xlt (g := gb287) hg; have NB313_287 := xgt (g := gb287) hg; have NB297_313 := xlt (g := gb297) hg; have NB313_297 := xgt (g := gb297) hg; have NB303_313 := xlt (g := gb303) hg; have NB313_303 := xgt (g := gb303) hg; replace BK287 := xbb (g := gb287) (o := .cells #[.int .u8 t282, .int .u8 t283, .int .u8 t284, .int .u8 t285] 23 (0, 0)) hb; replace BK297 := xbb (g := gb297) (o := .cells #[.int .u16 t288, .int .u16 t289, .int .u16 t290, .int .u16 t291, .int .u16 t292, .int .u16 t293, .int .u16 t294, .int .u16 t295] 27 (0, 0)) hb; replace BK303 := xbb (g := gb303) (o := .cells #[.int .i64 t298, .int .i64 t299, .int .i64 t300, .int .i64 t301] 30 (0, 0)) hb; replace HB := xst hb; clear hb hbox hg; have hnb23 := NB313_287.out; have hnc23 := NB287_313.out; have hnb24 := NB313_297.out; have hnc24 := NB297_313.out; have hnb25 := NB313_303.out; have hnc25 := NB303_313.out; obtain ⟨hcz26_0, hcz26_1, hcz26_2, hcz26_3, hcz26_4, hcz26_5, hcz26_6, hcz26_7⟩ := xc8 BK313; have hfz26_0 := xf BK313 0; have hfz26_1 := xf BK313 1; have hfz26_2 := xf BK313 2; have hfz26_3 := xf BK313 3; have hfz26_4 := xf BK313 4; have hfz26_5 := xf BK313 5; have hfz26_6 := xf BK313 6; have hfz26_7 := xf BK313 7))
  repeat (go_quiet (first | (go_at_call 8; (with_reducible refine (ip_V4.calls k a0 t282 t283 t284 t285 t286 _ ?side1 A5.out).mono ?_); (case side1 => first | (with_reducible exact hG) | exact GW_to hG xbl); rintro e w9 ⟨rfl, hb⟩; replace HB := xst hb; (try clear hb)) | ((with_reducible refine gate_dst (N := 3) rfl ?_); refine xev 3 #[.int .u8 0, .int .u8 0, .int .u8 0, .int .u8 0] 23 ?_; intro gb287 hg w10 hbox hb; have BK287 := Aside0.mk (hbox); have GW287 := xsz hg; have GE287 := GW287; replace HB := xst hb; clear hb hbox hg; obtain ⟨hcz11_0, hcz11_1, hcz11_2, hcz11_3⟩ := xc4 BK287; have hfz11_0 := xf BK287 0; have hfz11_1 := xf BK287 1; have hfz11_2 := xf BK287 2; have hfz11_3 := xf BK287 3) | (go_at_call 9; (with_reducible refine (ip_V6.calls k a0 t288 t289 t290 t291 t292 t293 t294 t295 t296 _ ?side1 A6.out).mono ?_); (case side1 => first | (with_reducible exact hG) | exact GW_to hG xbl); rintro e w12 ⟨rfl, hb⟩; replace BK287 := xbb (g := gb287) (o := .cells #[.int .u8 t282, .int .u8 t283, .int .u8 t284, .int .u8 t285] 23 (0, 0)) hb; replace HB := xst hb; (try clear hb)) | ((with_reducible refine gate_dst (N := 5) rfl ?_); refine xev 5 #[.int .u16 0, .int .u16 0, .int .u16 0, .int .u16 0, .int .u16 0, .int .u16 0, .int .u16 0, .int .u16 0] 27 ?_; intro gb297 hg w13 hbox hb; have BK297 := Aside0.mk (hbox); have GW297 := xsz hg; have GE297 := GW297; have NB287_297 := xlt (g := gb287) hg; have NB297_287 := xgt (g := gb287) hg; replace BK287 := xbb (g := gb287) (o := .cells #[.int .u8 t282, .int .u8 t283, .int .u8 t284, .int .u8 t285] 23 (0, 0)) hb; replace HB := xst hb; clear hb hbox hg; have hnb14 := NB297_287.out; have hnc14 := NB287_297.out; obtain ⟨hcz15_0, hcz15_1, hcz15_2, hcz15_3, hcz15_4, hcz15_5, hcz15_6, hcz15_7⟩ := xc8 BK297; have hfz15_0 := xf BK297 0; have hfz15_1 := xf BK297 1; have hfz15_2 := xf BK297 2; have hfz15_3 := xf BK297 3; have hfz15_4 := xf BK297 4; have hfz15_5 := xf BK297 5; have hfz15_6 := xf BK297 6; have hfz15_7 := xf BK297 7) | (go_at_call 10; (with_reducible refine (monikerref19_V4.calls k a0 t298 t299 t300 t301 t302 _ A7.out).mono ?_); rintro e w16 ⟨rfl, hb⟩; replace BK287 := xbb (g := gb287) (o := .cells #[.int .u8 t282, .int .u8 t283, .int .u8 t284, .int .u8 t285] 23 (0, 0)) hb; replace BK297 := xbb (g := gb297) (o := .cells #[.int .u16 t288, .int .u16 t289, .int .u16 t290, .int .u16 t291, .int .u16 t292, .int .u16 t293, .int .u16 t294, .int .u16 t295] 27 (0, 0)) hb; replace HB := xst hb; (try clear hb)) | ((with_reducible refine gate_dst (N := 7) rfl ?_); refine xev 7 #[.int .i64 0, .int .i64 0, .int .i64 0, .int .i64 0] 30 ?_; intro gb303 hg w17 hbox hb; have BK303 := Aside0.mk (hbox); have GW303 := xsz hg; have GE303 := GW303; have NB287_303 := xlt (g := gb287) hg; have NB303_287 := xgt (g := gb287) hg; have NB297_303 := xlt (g := gb297) hg; have NB303_297 := xgt (g := gb297) hg; replace BK287 := xbb (g := gb287) (o := .cells #[.int .u8 t282, .int .u8 t283, .int .u8 t284, .int .u8 t285] 23 (0, 0)) hb; replace BK297 := xbb (g := gb297) (o := .cells #[.int .u16 t288, .int .u16 t289, .int .u16 t290, .int .u16 t291, .int .u16 t292, .int .u16 t293, .int .u16 t294, .int .u16 t295] 27 (0, 0)) hb; replace HB := xst hb; clear hb hbox hg; have hnb18 := NB303_287.out; have hnc18 := NB287_303.out; have hnb19 := NB303_297.out; have hnc19 := NB297_303.out; obtain ⟨hcz20_0, hcz20_1, hcz20_2, hcz20_3⟩ := xc4 BK303; have hfz20_0 := xf BK303 0; have hfz20_1 := xf BK303 1; have hfz20_2 := xf BK303 2; have hfz20_3 := xf BK303 3) | (go_at_call 11; (with_reducible refine (monikerref19_V6.calls k a0 t304 t305 t306 t307 t308 t309 t310 t311 t312 _ A8.out).mono ?_); rintro e w21 ⟨rfl, hb⟩; replace BK287 := xbb (g := gb287) (o := .cells #[.int .u8 t282, .int .u8 t283, .int .u8 t284, .int .u8 t285] 23 (0, 0)) hb; replace BK297 := xbb (g := gb297) (o := .cells #[.int .u16 t288, .int .u16 t289, .int .u16 t290, .int .u16 t291, .int .u16 t292, .int .u16 t293, .int .u16 t294, .int .u16 t295] 27 (0, 0)) hb; replace BK303 := xbb (g := gb303) (o := .cells #[.int .i64 t298, .int .i64 t299, .int .i64 t300, .int .i64 t301] 30 (0, 0)) hb; replace HB := xst hb; (try clear hb)) | ((with_reducible refine gate_dst (N := 9) rfl ?_); refine xev 9 #[.int .i64 0, .int .i64 0, .int .i64 0, .int .i64 0, .int .i64 0, .int .i64 0, .int .i64 0, .int .i64 0] 33 ?_; intro gb313 hg w22 hbox hb; have BK313 := Aside0.mk (hbox); have GW313 := xsz hg; have GE313 := GW313; have NB287_313 := xlt (g := gb287) hg; have NB313_287 := xgt (g := gb287) hg; have NB297_313 := xlt (g := gb297) hg; have NB313_297 := xgt (g := gb297) hg; have NB303_313 := xlt (g := gb303) hg; have NB313_303 := xgt (g := gb303) hg; replace BK287 := xbb (g := gb287) (o := .cells #[.int .u8 t282, .int .u8 t283, .int .u8 t284, .int .u8 t285] 23 (0, 0)) hb; replace BK297 := xbb (g := gb297) (o := .cells #[.int .u16 t288, .int .u16 t289, .int .u16 t290, .int .u16 t291, .int .u16 t292, .int .u16 t293, .int .u16 t294, .int .u16 t295] 27 (0, 0)) hb; replace BK303 := xbb (g := gb303) (o := .cells #[.int .i64 t298, .int .i64 t299, .int .i64 t300, .int .i64 t301] 30 (0, 0)) hb; replace HB := xst hb; clear hb hbox hg; have hnb23 := NB313_287.out; have hnc23 := NB287_313.out; have hnb24 := NB313_297.out; have hnc24 := NB297_313.out; have hnb25 := NB313_303.out; have hnc25 := NB303_313.out; obtain ⟨hcz26_0, hcz26_1, hcz26_2, hcz26_3, hcz26_4, hcz26_5, hcz26_6, hcz26_7⟩ := xc8 BK313; have hfz26_0 := xf BK313 0; have hfz26_1 := xf BK313 1; have hfz26_2 := xf BK313 2; have hfz26_3 := xf BK313 3; have hfz26_4 := xf BK313 4; have hfz26_5 := xf BK313 5; have hfz26_6 := xf BK313 6; have hfz26_7 := xf BK313 7)); try go_wp2_with (first | (go_at_call 8; (with_reducible refine (ip_V4.calls k a0 t282 t283 t284 t285 t286 _ ?side1 A5.out).mono ?_); (case side1 => first | (with_reducible exact hG) | exact GW_to hG xbl); rintro e w9 ⟨rfl, hb⟩; replace HB := xst hb; (try clear hb)) | ((with_reducible refine gate_dst (N := 3) rfl ?_); refine xev 3 #[.int .u8 0, .int .u8 0, .int .u8 0, .int .u8 0] 23 ?_; intro gb287 hg w10 hbox hb; have BK287 := Aside0.mk (hbox); have GW287 := xsz hg; have GE287 := GW287; replace HB := xst hb; clear hb hbox hg; obtain ⟨hcz11_0, hcz11_1, hcz11_2, hcz11_3⟩ := xc4 BK287; have hfz11_0 := xf BK287 0; have hfz11_1 := xf BK287 1; have hfz11_2 := xf BK287 2; have hfz11_3 := xf BK287 3) | (go_at_call 9; (with_reducible refine (ip_V6.calls k a0 t288 t289 t290 t291 t292 t293 t294 t295 t296 _ ?side1 A6.out).mono ?_); (case side1 => first | (with_reducible exact hG) | exact GW_to hG xbl); rintro e w12 ⟨rfl, hb⟩; replace BK287 := xbb (g := gb287) (o := .cells #[.int .u8 t282, .int .u8 t283, .int .u8 t284, .int .u8 t285] 23 (0, 0)) hb; replace HB := xst hb; (try clear hb)) | ((with_reducible refine gate_dst (N := 5) rfl ?_); refine xev 5 #[.int .u16 0, .int .u16 0, .int .u16 0, .int .u16 0, .int .u16 0, .int .u16 0, .int .u16 0, .int .u16 0] 27 ?_; intro gb297 hg w13 hbox hb; have BK297 := Aside0.mk (hbox); have GW297 := xsz hg; have GE297 := GW297; have NB287_297 := xlt (g := gb287) hg; have NB297_287 := xgt (g := gb287) hg; replace BK287 := xbb (g := gb287) (o := .cells #[.int .u8 t282, .int .u8 t283, .int .u8 t284, .int .u8 t285] 23 (0, 0)) hb; replace HB := xst hb; clear hb hbox hg; have hnb14 := NB297_287.out; have hnc14 := NB287_297.out; obtain ⟨hcz15_0, hcz15_1, hcz15_2, hcz15_3, hcz15_4, hcz15_5, hcz15_6, hcz15_7⟩ := xc8 BK297; have hfz15_0 := xf BK297 0; have hfz15_1 := xf BK297 1; have hfz15_2 := xf BK297 2; have hfz15_3 := xf BK297 3; have hfz15_4 := xf BK297 4; have hfz15_5 := xf BK297 5; have hfz15_6 := xf BK297 6; have hfz15_7 := xf BK297 7) | (go_at_call 10; (with_reducible refine (monikerref19_V4.calls k a0 t298 t299 t300 t301 t302 _ A7.out).mono ?_); rintro e w16 ⟨rfl, hb⟩; replace BK287 := xbb (g := gb287) (o := .cells #[.int .u8 t282, .int .u8 t283, .int .u8 t284, .int .u8 t285] 23 (0, 0)) hb; replace BK297 := xbb (g := gb297) (o := .cells #[.int .u16 t288, .int .u16 t289, .int .u16 t290, .int .u16 t291, .int .u16 t292, .int .u16 t293, .int .u16 t294, .int .u16 t295] 27 (0, 0)) hb; replace HB := xst hb; (try clear hb)) | ((with_reducible refine gate_dst (N := 7) rfl ?_); refine xev 7 #[.int .i64 0, .int .i64 0, .int .i64 0, .int .i64 0] 30 ?_; intro gb303 hg w17 hbox hb; have BK303 := Aside0.mk (hbox); have GW303 := xsz hg; have GE303 := GW303; have NB287_303 := xlt (g := gb287) hg; have NB303_287 := xgt (g := gb287) hg; have NB297_303 := xlt (g := gb297) hg; have NB303_297 := xgt (g := gb297) hg; replace BK287 := xbb (g := gb287) (o := .cells #[.int .u8 t282, .int .u8 t283, .int .u8 t284, .int .u8 t285] 23 (0, 0)) hb; replace BK297 := xbb (g := gb297) (o := .cells #[.int .u16 t288, .int .u16 t289, .int .u16 t290, .int .u16 t291, .int .u16 t292, .int .u16 t293, .int .u16 t294, .int .u16 t295] 27 (0, 0)) hb; replace HB := xst hb; clear hb hbox hg; have hnb18 := NB303_287.out; have hnc18 := NB287_303.out; have hnb19 := NB303_297.out; have hnc19 := NB297_303.out; obtain ⟨hcz20_0, hcz20_1, hcz20_2, hcz20_3⟩ := xc4 BK303; have hfz20_0 := xf BK303 0; have hfz20_1 := xf BK303 1; have hfz20_2 := xf BK303 2; have hfz20_3 := xf BK303 3) | (go_at_call 11; (with_reducible refine (monikerref19_V6.calls k a0 t304 t305 t306 t307 t308 t309 t310 t311 t312 _ A8.out).mono ?_); rintro e w21 ⟨rfl, hb⟩; replace BK287 := xbb (g := gb287) (o := .cells #[.int .u8 t282, .int .u8 t283, .int .u8 t284, .int .u8 t285] 23 (0, 0)) hb; replace BK297 := xbb (g := gb297) (o := .cells #[.int .u16 t288, .int .u16 t289, .int .u16 t290, .int .u16 t291, .int .u16 t292, .int .u16 t293, .int .u16 t294, .int .u16 t295] 27 (0, 0)) hb; replace BK303 := xbb (g := gb303) (o := .cells #[.int .i64 t298, .int .i64 t299, .int .i64 t300, .int .i64 t301] 30 (0, 0)) hb; replace HB := xst hb; (try clear hb)) | ((with_reducible refine gate_dst (N := 9) rfl ?_); refine xev 9 #[.int .i64 0, .int .i64 0, .int .i64 0, .int .i64 0, .int .i64 0, .int .i64 0, .int .i64 0, .int .i64 0] 33 ?_; intro gb313 hg w22 hbox hb; have BK313 := Aside0.mk (hbox); have GW313 := xsz hg; have GE313 := GW313; have NB287_313 := xlt (g := gb287) hg; have NB313_287 := xgt (g := gb287) hg; have NB297_313 := xlt (g := gb297) hg; have NB313_297 := xgt (g := gb297) hg; have NB303_313 := xlt (g := gb303) hg; have NB313_303 := xgt (g := gb303) hg; replace BK287 := xbb (g := gb287) (o := .cells #[.int .u8 t282, .int .u8 t283, .int .u8 t284, .int .u8 t285] 23 (0, 0)) hb; replace BK297 := xbb (g := gb297) (o := .cells #[.int .u16 t288, .int .u16 t289, .int .u16 t290, .int .u16 t291, .int .u16 t292, .int .u16 t293, .int .u16 t294, .int .u16 t295] 27 (0, 0)) hb; replace BK303 := xbb (g := gb303) (o := .cells #[.int .i64 t298, .int .i64 t299, .int .i64 t300, .int .i64 t301] 30 (0, 0)) hb; replace HB := xst hb; clear hb hbox hg; have hnb23 := NB313_287.out; have hnc23 := NB287_313.out; have hnb24 := NB313_297.out; have hnc24 := NB297_313.out; have hnb25 := NB313_303.out; have hnc25 := NB303_313.out; obtain ⟨hcz26_0, hcz26_1, hcz26_2, hcz26_3, hcz26_4, hcz26_5, hcz26_6, hcz26_7⟩ := xc8 BK313; have hfz26_0 := xf BK313 0; have hfz26_1 := xf BK313 1; have hfz26_2 := xf BK313 2; have hfz26_3 := xf BK313 3; have hfz26_4 := xf BK313 4; have hfz26_5 := xf BK313 5; have hfz26_6 := xf BK313 6; have hfz26_7 := xf BK313 7)))
  go_loopg [37] k (fun kq v37 w' => ∃ (x37_1 : Int), v37 = .int .i64 x37_1 ∧ Aside0 (monikerlaw19_IpReads.l0 kq a0 t286 t296 t302 t312 x37_1 t282 t283 t284 t285 t288 t289 t290 t291 t292 t293 t294 t295 t298 t299 t300 t301 t304 t305 t306 t307 t308 t309 t310 t311 = some r) ∧ Aside0 (kq ≤ k) ∧ Aside0 (w'.heap[gb287]? = some (.cells #[.int .u8 t282, .int .u8 t283, .int .u8 t284, .int .u8 t285] 23 (0, 0))) ∧ Aside0 (w'.heap[gb297]? = some (.cells #[.int .u16 t288, .int .u16 t289, .int .u16 t290, .int .u16 t291, .int .u16 t292, .int .u16 t293, .int .u16 t294, .int .u16 t295] 27 (0, 0))) ∧ Aside0 (w'.heap[gb303]? = some (.cells #[.int .i64 t298, .int .i64 t299, .int .i64 t300, .int .i64 t301] 30 (0, 0))) ∧ Aside0 (w'.heap[gb313]? = some (.cells #[.int .i64 t304, .int .i64 t305, .int .i64 t306, .int .i64 t307, .int .i64 t308, .int .i64 t309, .int .i64 t310, .int .i64 t311] 33 (0, 0))) ∧ Aside0 (Below w.heap.size w w'))
  case atStart => exact ⟨(0), xrr, H', ⟨Nat.le_refl _⟩, ⟨by (with_reducible repeat (first | refine blk_drewN ?_ _ | refine blk_drew ?_ | refine blk_alloc ?_ _)); refine blk_far ?_ NB287_313.out _; (with_reducible repeat (first | refine blk_drewN ?_ _ | refine blk_drew ?_ | refine blk_alloc ?_ _)); refine blk_far ?_ NB287_313.out _; (with_reducible repeat (first | refine blk_drewN ?_ _ | refine blk_drew ?_ | refine blk_alloc ?_ _)); refine blk_far ?_ NB287_313.out _; (with_reducible repeat (first | refine blk_drewN ?_ _ | refine blk_drew ?_ | refine blk_alloc ?_ _)); refine blk_far ?_ NB287_313.out _; (with_reducible repeat (first | refine blk_drewN ?_ _ | refine blk_drew ?_ | refine blk_alloc ?_ _)); refine blk_far ?_ NB287_313.out _; (with_reducible repeat (first | refine blk_drewN ?_ _ | refine blk_drew ?_ | refine blk_alloc ?_ _)); refine blk_far ?_ NB287_313.out _; (with_reducible repeat (first | refine blk_drewN ?_ _ | refine blk_drew ?_ | refine blk_alloc ?_ _)); refine blk_far ?_ NB287_313.out _; (with_reducible repeat (first | refine blk_drewN ?_ _ | refine blk_drew ?_ | refine blk_alloc ?_ _)); refine blk_far ?_ NB287_313.out _; (with_reducible repeat (first | refine blk_drewN ?_ _ | refine blk_drew ?_ | refine blk_alloc ?_ _)); exact BK287.out⟩, ⟨by (with_reducible repeat (first | refine blk_drewN ?_ _ | refine blk_drew ?_ | refine blk_alloc ?_ _)); refine blk_far ?_ NB297_313.out _; (with_reducible repeat (first | refine blk_drewN ?_ _ | refine blk_drew ?_ | refine blk_alloc ?_ _)); refine blk_far ?_ NB297_313.out _; (with_reducible repeat (first | refine blk_drewN ?_ _ | refine blk_drew ?_ | refine blk_alloc ?_ _)); refine blk_far ?_ NB297_313.out _; (with_reducible repeat (first | refine blk_drewN ?_ _ | refine blk_drew ?_ | refine blk_alloc ?_ _)); refine blk_far ?_ NB297_313.out _; (with_reducible repeat (first | refine blk_drewN ?_ _ | refine blk_drew ?_ | refine blk_alloc ?_ _)); refine blk_far ?_ NB297_313.out _; (with_reducible repeat (first | refine blk_drewN ?_ _ | refine blk_drew ?_ | refine blk_alloc ?_ _)); refine blk_far ?_ NB297_313.out _; (with_reducible repeat (first | refine blk_drewN ?_ _ | refine blk_drew ?_ | refine blk_alloc ?_ _)); refine blk_far ?_ NB297_313.out _; (with_reducible repeat (first | refine blk_drewN ?_ _ | refine blk_drew ?_ | refine blk_alloc ?_ _)); refine blk_far ?_ NB297_313.out _; (with_reducible repeat (first | refine blk_drewN ?_ _ | refine blk_drew ?_ | refine blk_alloc ?_ _)); exact BK297.out⟩, ⟨by (with_reducible repeat (first | refine blk_drewN ?_ _ | refine blk_drew ?_ | refine blk_alloc ?_ _)); refine blk_far ?_ NB303_313.out _; (with_reducible repeat (first | refine blk_drewN ?_ _ | refine blk_drew ?_ | refine blk_alloc ?_ _)); refine blk_far ?_ NB303_313.out _; (with_reducible repeat (first | refine blk_drewN ?_ _ | refine blk_drew ?_ | refine blk_alloc ?_ _)); refine blk_far ?_ NB303_313.out _; (with_reducible repeat (first | refine blk_drewN ?_ _ | refine blk_drew ?_ | refine blk_alloc ?_ _)); refine blk_far ?_ NB303_313.out _; (with_reducible repeat (first | refine blk_drewN ?_ _ | refine blk_drew ?_ | refine blk_alloc ?_ _)); refine blk_far ?_ NB303_313.out _; (with_reducible repeat (first | refine blk_drewN ?_ _ | refine blk_drew ?_ | refine blk_alloc ?_ _)); refine blk_far ?_ NB303_313.out _; (with_reducible repeat (first | refine blk_drewN ?_ _ | refine blk_drew ?_ | refine blk_alloc ?_ _)); refine blk_far ?_ NB303_313.out _; (with_reducible repeat (first | refine blk_drewN ?_ _ | refine blk_drew ?_ | refine blk_alloc ?_ _)); refine blk_far ?_ NB303_313.out _; (with_reducible repeat (first | refine blk_drewN ?_ _ | refine blk_drew ?_ | refine blk_alloc ?_ _)); exact BK303.out⟩, ⟨by (with_reducible repeat (first | refine blk_drewN ?_ _ | refine blk_drew ?_ | refine blk_alloc ?_ _)); refine blk_put (cs := #[.int .i64 t304, .int .i64 t305, .int .i64 t306, .int .i64 t307, .int .i64 t308, .int .i64 t309, .int .i64 t310, .int .i64 0]) ?_ 7 _ rfl; (with_reducible repeat (first | refine blk_drewN ?_ _ | refine blk_drew ?_ | refine blk_alloc ?_ _)); refine blk_put (cs := #[.int .i64 t304, .int .i64 t305, .int .i64 t306, .int .i64 t307, .int .i64 t308, .int .i64 t309, .int .i64 0, .int .i64 0]) ?_ 6 _ rfl; (with_reducible repeat (first | refine blk_drewN ?_ _ | refine blk_drew ?_ | refine blk_alloc ?_ _)); refine blk_put (cs := #[.int .i64 t304, .int .i64 t305, .int .i64 t306, .int .i64 t307, .int .i64 t308, .int .i64 0, .int .i64 0, .int .i64 0]) ?_ 5 _ rfl; (with_reducible repeat (first | refine blk_drewN ?_ _ | refine blk_drew ?_ | refine blk_alloc ?_ _)); refine blk_put (cs := #[.int .i64 t304, .int .i64 t305, .int .i64 t306, .int .i64 t307, .int .i64 0, .int .i64 0, .int .i64 0, .int .i64 0]) ?_ 4 _ rfl; (with_reducible repeat (first | refine blk_drewN ?_ _ | refine blk_drew ?_ | refine blk_alloc ?_ _)); refine blk_put (cs := #[.int .i64 t304, .int .i64 t305, .int .i64 t306, .int .i64 0, .int .i64 0, .int .i64 0, .int .i64 0, .int .i64 0]) ?_ 3 _ rfl; (with_reducible repeat (first | refine blk_drewN ?_ _ | refine blk_drew ?_ | refine blk_alloc ?_ _)); refine blk_put (cs := #[.int .i64 t304, .int .i64 t305, .int .i64 0, .int .i64 0, .int .i64 0, .int .i64 0, .int .i64 0, .int .i64 0]) ?_ 2 _ rfl; (with_reducible repeat (first | refine blk_drewN ?_ _ | refine blk_drew ?_ | refine blk_alloc ?_ _)); refine blk_put (cs := #[.int .i64 t304, .int .i64 0, .int .i64 0, .int .i64 0, .int .i64 0, .int .i64 0, .int .i64 0, .int .i64 0]) ?_ 1 _ rfl; (with_reducible repeat (first | refine blk_drewN ?_ _ | refine blk_drew ?_ | refine blk_alloc ?_ _)); refine blk_put (cs := #[.int .i64 0, .int .i64 0, .int .i64 0, .int .i64 0, .int .i64 0, .int .i64 0, .int .i64 0, .int .i64 0]) ?_ 0 _ rfl; (with_reducible repeat (first | refine blk_drewN ?_ _ | refine blk_drew ?_ | refine blk_alloc ?_ _)); exact BK313.out⟩, ⟨xbl⟩⟩
  case round =>
   clear H'
   clear c2b0 c2b1
   obtain ⟨x37_1, rfl, HA, HK1, BK287, BK297, BK303, BK313, HB⟩ := hrel
   cases gk with
   | zero => exact absurd HA.out (by simp [monikerlaw19_IpReads.l0])
   | succ k1 =>
    have H := HA.out
    clear HA
    simp only [monikerlaw19_IpReads.l0] at H
    by_cases c27 : x37_1 < 4
    ·
     rw [if_pos c27] at H
     have c27b0 := decide_eq_true c27
     clear c27
     by_cases c28 : 0 ≤ x37_1
     ·
      rw [if_pos c28] at H
      have c28b0 := decide_eq_true c28
      clear c28
      by_cases c29 : x37_1 = 0
      ·
       subst c29
       rw [if_pos rfl] at H
       by_cases c30 : (wrap64 (t282)) = t298
       ·
        rw [if_pos c30] at H
        have c30b0 : ((wrap64 (t282)) == t298) = true := beq_iff_eq.mpr c30
        have c30b1 : ((wrap64 (t282)) != t298) = false := bne_eq_false_iff_eq.mpr c30
        clear c30
        have H' := Aside0.mk H
        clear H
        have hnb31 := NB287_297.out
        have hnc31 := NB297_287.out
        have hnb32 := NB287_303.out
        have hnc32 := NB303_287.out
        have hnb33 := NB287_313.out
        have hnc33 := NB313_287.out
        obtain ⟨hcz34_0, hcz34_1, hcz34_2, hcz34_3⟩ := xc4 BK287
        have hfz34_0 := xf BK287 0
        have hfz34_1 := xf BK287 1
        have hfz34_2 := xf BK287 2
        have hfz34_3 := xf BK287 3
        have hnb35 := NB303_297.out
        have hnc35 := NB297_303.out
        have hnb36 := NB303_313.out
        have hnc36 := NB313_303.out
        obtain ⟨hcz37_0, hcz37_1, hcz37_2, hcz37_3⟩ := xc4 BK303
        have hfz37_0 := xf BK303 0
        have hfz37_1 := xf BK303 1
        have hfz37_2 := xf BK303 2
        have hfz37_3 := xf BK303 3
        go_wp2
        repeat (go_quiet (fail); try go_wp2)
        go_roundg k1
        case measure => have := HK1.out; omega
        case rel => exact ⟨(wrap64 (0 + 1)), xrr, H', ⟨by have := HK1.out; omega⟩, ⟨xbk⟩, ⟨xbk⟩, ⟨xbk⟩, ⟨xbk⟩, ⟨xbl⟩⟩
       ·
        rw [if_neg c30] at H
        have c30b0 : ((wrap64 (t282)) == t298) = false := beq_eq_false_iff_ne.mpr c30
        have c30b1 : ((wrap64 (t282)) != t298) = true := bne_iff_ne.mpr c30
        obtain rfl := Option.some.inj H
        have hnb38 := NB287_297.out
        have hnc38 := NB297_287.out
        have hnb39 := NB287_303.out
        have hnc39 := NB303_287.out
        have hnb40 := NB287_313.out
        have hnc40 := NB313_287.out
        obtain ⟨hcz41_0, hcz41_1, hcz41_2, hcz41_3⟩ := xc4 BK287
        have hfz41_0 := xf BK287 0
        have hfz41_1 := xf BK287 1
        have hfz41_2 := xf BK287 2
        have hfz41_3 := xf BK287 3
        have hnb42 := NB303_297.out
        have hnc42 := NB297_303.out
        have hnb43 := NB303_313.out
        have hnc43 := NB313_303.out
        obtain ⟨hcz44_0, hcz44_1, hcz44_2, hcz44_3⟩ := xc4 BK303
        have hfz44_0 := xf BK303 0
        have hfz44_1 := xf BK303 1
        have hfz44_2 := xf BK303 2
        have hfz44_3 := xf BK303 3
        go_wp2
        repeat (go_quiet (fail); try go_wp2)
        go_ret
        exact ⟨xre, xbl⟩
      ·
       rw [if_neg c29] at H
       clear c29
       by_cases c45 : x37_1 = 1
       ·
        subst c45
        rw [if_pos rfl] at H
        by_cases c46 : (wrap64 (t283)) = t299
        ·
         rw [if_pos c46] at H
         have c46b0 : ((wrap64 (t283)) == t299) = true := beq_iff_eq.mpr c46
         have c46b1 : ((wrap64 (t283)) != t299) = false := bne_eq_false_iff_eq.mpr c46
         clear c46
         have H' := Aside0.mk H
         clear H
         have hnb47 := NB287_297.out
         have hnc47 := NB297_287.out
         have hnb48 := NB287_303.out
         have hnc48 := NB303_287.out
         have hnb49 := NB287_313.out
         have hnc49 := NB313_287.out
         obtain ⟨hcz50_0, hcz50_1, hcz50_2, hcz50_3⟩ := xc4 BK287
         have hfz50_0 := xf BK287 0
         have hfz50_1 := xf BK287 1
         have hfz50_2 := xf BK287 2
         have hfz50_3 := xf BK287 3
         have hnb51 := NB303_297.out
         have hnc51 := NB297_303.out
         have hnb52 := NB303_313.out
         have hnc52 := NB313_303.out
         obtain ⟨hcz53_0, hcz53_1, hcz53_2, hcz53_3⟩ := xc4 BK303
         have hfz53_0 := xf BK303 0
         have hfz53_1 := xf BK303 1
         have hfz53_2 := xf BK303 2
         have hfz53_3 := xf BK303 3
         go_wp2
         repeat (go_quiet (fail); try go_wp2)
         go_roundg k1
         case measure => have := HK1.out; omega
         case rel => exact ⟨(wrap64 (1 + 1)), xrr, H', ⟨by have := HK1.out; omega⟩, ⟨xbk⟩, ⟨xbk⟩, ⟨xbk⟩, ⟨xbk⟩, ⟨xbl⟩⟩
        ·
         rw [if_neg c46] at H
         have c46b0 : ((wrap64 (t283)) == t299) = false := beq_eq_false_iff_ne.mpr c46
         have c46b1 : ((wrap64 (t283)) != t299) = true := bne_iff_ne.mpr c46
         obtain rfl := Option.some.inj H
         have hnb54 := NB287_297.out
         have hnc54 := NB297_287.out
         have hnb55 := NB287_303.out
         have hnc55 := NB303_287.out
         have hnb56 := NB287_313.out
         have hnc56 := NB313_287.out
         obtain ⟨hcz57_0, hcz57_1, hcz57_2, hcz57_3⟩ := xc4 BK287
         have hfz57_0 := xf BK287 0
         have hfz57_1 := xf BK287 1
         have hfz57_2 := xf BK287 2
         have hfz57_3 := xf BK287 3
         have hnb58 := NB303_297.out
         have hnc58 := NB297_303.out
         have hnb59 := NB303_313.out
         have hnc59 := NB313_303.out
         obtain ⟨hcz60_0, hcz60_1, hcz60_2, hcz60_3⟩ := xc4 BK303
         have hfz60_0 := xf BK303 0
         have hfz60_1 := xf BK303 1
         have hfz60_2 := xf BK303 2
         have hfz60_3 := xf BK303 3
         go_wp2
         repeat (go_quiet (fail); try go_wp2)
         go_ret
         exact ⟨xre, xbl⟩
       ·
        rw [if_neg c45] at H
        clear c45
        by_cases c61 : x37_1 = 2
        ·
         subst c61
         rw [if_pos rfl] at H
         by_cases c62 : (wrap64 (t284)) = t300
         ·
          rw [if_pos c62] at H
          have c62b0 : ((wrap64 (t284)) == t300) = true := beq_iff_eq.mpr c62
          have c62b1 : ((wrap64 (t284)) != t300) = false := bne_eq_false_iff_eq.mpr c62
          clear c62
          have H' := Aside0.mk H
          clear H
          have hnb63 := NB287_297.out
          have hnc63 := NB297_287.out
          have hnb64 := NB287_303.out
          have hnc64 := NB303_287.out
          have hnb65 := NB287_313.out
          have hnc65 := NB313_287.out
          obtain ⟨hcz66_0, hcz66_1, hcz66_2, hcz66_3⟩ := xc4 BK287
          have hfz66_0 := xf BK287 0
          have hfz66_1 := xf BK287 1
          have hfz66_2 := xf BK287 2
          have hfz66_3 := xf BK287 3
          have hnb67 := NB303_297.out
          have hnc67 := NB297_303.out
          have hnb68 := NB303_313.out
          have hnc68 := NB313_303.out
          obtain ⟨hcz69_0, hcz69_1, hcz69_2, hcz69_3⟩ := xc4 BK303
          have hfz69_0 := xf BK303 0
          have hfz69_1 := xf BK303 1
          have hfz69_2 := xf BK303 2
          have hfz69_3 := xf BK303 3
          go_wp2
          repeat (go_quiet (fail); try go_wp2)
          go_roundg k1
          case measure => have := HK1.out; omega
          case rel => exact ⟨(wrap64 (2 + 1)), xrr, H', ⟨by have := HK1.out; omega⟩, ⟨xbk⟩, ⟨xbk⟩, ⟨xbk⟩, ⟨xbk⟩, ⟨xbl⟩⟩
         ·
          rw [if_neg c62] at H
          have c62b0 : ((wrap64 (t284)) == t300) = false := beq_eq_false_iff_ne.mpr c62
          have c62b1 : ((wrap64 (t284)) != t300) = true := bne_iff_ne.mpr c62
          obtain rfl := Option.some.inj H
          have hnb70 := NB287_297.out
          have hnc70 := NB297_287.out
          have hnb71 := NB287_303.out
          have hnc71 := NB303_287.out
          have hnb72 := NB287_313.out
          have hnc72 := NB313_287.out
          obtain ⟨hcz73_0, hcz73_1, hcz73_2, hcz73_3⟩ := xc4 BK287
          have hfz73_0 := xf BK287 0
          have hfz73_1 := xf BK287 1
          have hfz73_2 := xf BK287 2
          have hfz73_3 := xf BK287 3
          have hnb74 := NB303_297.out
          have hnc74 := NB297_303.out
          have hnb75 := NB303_313.out
          have hnc75 := NB313_303.out
          obtain ⟨hcz76_0, hcz76_1, hcz76_2, hcz76_3⟩ := xc4 BK303
          have hfz76_0 := xf BK303 0
          have hfz76_1 := xf BK303 1
          have hfz76_2 := xf BK303 2
          have hfz76_3 := xf BK303 3
          go_wp2
          repeat (go_quiet (fail); try go_wp2)
          go_ret
          exact ⟨xre, xbl⟩
        ·
         rw [if_neg c61] at H
         clear c61
         by_cases c77 : x37_1 = 3
         ·
          subst c77
          rw [if_pos rfl] at H
          by_cases c78 : (wrap64 (t285)) = t301
          ·
           rw [if_pos c78] at H
           have c78b0 : ((wrap64 (t285)) == t301) = true := beq_iff_eq.mpr c78
           have c78b1 : ((wrap64 (t285)) != t301) = false := bne_eq_false_iff_eq.mpr c78
           clear c78
           have H' := Aside0.mk H
           clear H
           have hnb79 := NB287_297.out
           have hnc79 := NB297_287.out
           have hnb80 := NB287_303.out
           have hnc80 := NB303_287.out
           have hnb81 := NB287_313.out
           have hnc81 := NB313_287.out
           obtain ⟨hcz82_0, hcz82_1, hcz82_2, hcz82_3⟩ := xc4 BK287
           have hfz82_0 := xf BK287 0
           have hfz82_1 := xf BK287 1
           have hfz82_2 := xf BK287 2
           have hfz82_3 := xf BK287 3
           have hnb83 := NB303_297.out
           have hnc83 := NB297_303.out
           have hnb84 := NB303_313.out
           have hnc84 := NB313_303.out
           obtain ⟨hcz85_0, hcz85_1, hcz85_2, hcz85_3⟩ := xc4 BK303
           have hfz85_0 := xf BK303 0
           have hfz85_1 := xf BK303 1
           have hfz85_2 := xf BK303 2
           have hfz85_3 := xf BK303 3
           go_wp2
           repeat (go_quiet (fail); try go_wp2)
           go_roundg k1
           case measure => have := HK1.out; omega
           case rel => exact ⟨(wrap64 (3 + 1)), xrr, H', ⟨by have := HK1.out; omega⟩, ⟨xbk⟩, ⟨xbk⟩, ⟨xbk⟩, ⟨xbk⟩, ⟨xbl⟩⟩
          ·
           rw [if_neg c78] at H
           have c78b0 : ((wrap64 (t285)) == t301) = false := beq_eq_false_iff_ne.mpr c78
           have c78b1 : ((wrap64 (t285)) != t301) = true := bne_iff_ne.mpr c78
           obtain rfl := Option.some.inj H
           have hnb86 := NB287_297.out
           have hnc86 := NB297_287.out
           have hnb87 := NB287_303.out
           have hnc87 := NB303_287.out
           have hnb88 := NB287_313.out
           have hnc88 := NB313_287.out
           obtain ⟨hcz89_0, hcz89_1, hcz89_2, hcz89_3⟩ := xc4 BK287
           have hfz89_0 := xf BK287 0
           have hfz89_1 := xf BK287 1
           have hfz89_2 := xf BK287 2
           have hfz89_3 := xf BK287 3
           have hnb90 := NB303_297.out
           have hnc90 := NB297_303.out
           have hnb91 := NB303_313.out
           have hnc91 := NB313_303.out
           obtain ⟨hcz92_0, hcz92_1, hcz92_2, hcz92_3⟩ := xc4 BK303
           have hfz92_0 := xf BK303 0
           have hfz92_1 := xf BK303 1
           have hfz92_2 := xf BK303 2
           have hfz92_3 := xf BK303 3
           go_wp2
           repeat (go_quiet (fail); try go_wp2)
           go_ret
           exact ⟨xre, xbl⟩
         ·
          rw [if_neg c77] at H
          clear c77
          exact absurd H (by simp)
     ·
      rw [if_neg c28] at H
      exact absurd H (by simp)
    ·
     rw [if_neg c27] at H
     have c27b0 := decide_eq_false c27
     clear c27
     have H' := Aside0.mk H
     clear H
     go_wp2
     repeat (go_quiet (fail); try go_wp2)
     go_loopg [49] k1 (fun kq v49 w' => ∃ (x49_2 : Int), v49 = .int .i64 x49_2 ∧ Aside0 (monikerlaw19_IpReads.l1 kq a0 t286 t296 t302 t312 x49_2 t288 t289 t290 t291 t292 t293 t294 t295 t304 t305 t306 t307 t308 t309 t310 t311 = some r) ∧ Aside0 (kq ≤ k1) ∧ Aside0 (w'.heap[gb287]? = some (.cells #[.int .u8 t282, .int .u8 t283, .int .u8 t284, .int .u8 t285] 23 (0, 0))) ∧ Aside0 (w'.heap[gb297]? = some (.cells #[.int .u16 t288, .int .u16 t289, .int .u16 t290, .int .u16 t291, .int .u16 t292, .int .u16 t293, .int .u16 t294, .int .u16 t295] 27 (0, 0))) ∧ Aside0 (w'.heap[gb303]? = some (.cells #[.int .i64 t298, .int .i64 t299, .int .i64 t300, .int .i64 t301] 30 (0, 0))) ∧ Aside0 (w'.heap[gb313]? = some (.cells #[.int .i64 t304, .int .i64 t305, .int .i64 t306, .int .i64 t307, .int .i64 t308, .int .i64 t309, .int .i64 t310, .int .i64 t311] 33 (0, 0))) ∧ Aside0 (Below w.heap.size w w'))
     case atStart => exact ⟨(0), xrr, H', ⟨Nat.le_refl _⟩, ⟨xbk⟩, ⟨xbk⟩, ⟨xbk⟩, ⟨xbk⟩, ⟨xbl⟩⟩
     case round =>
      clear H'
      clear c27b0
      obtain ⟨x49_2, rfl, HA, HK2, BK287, BK297, BK303, BK313, HB⟩ := hrel
      cases gk with
      | zero => exact absurd HA.out (by simp [monikerlaw19_IpReads.l1])
      | succ k2 =>
       have H := HA.out
       clear HA
       simp only [monikerlaw19_IpReads.l1] at H
       by_cases c93 : x49_2 < 8
       ·
        rw [if_pos c93] at H
        have c93b0 := decide_eq_true c93
        clear c93
        by_cases c94 : 0 ≤ x49_2
        ·
         rw [if_pos c94] at H
         have c94b0 := decide_eq_true c94
         clear c94
         by_cases c95 : x49_2 = 0
         ·
          subst c95
          rw [if_pos rfl] at H
          by_cases c96 : (wrap64 (t288)) = t304
          ·
           rw [if_pos c96] at H
           have c96b0 : ((wrap64 (t288)) == t304) = true := beq_iff_eq.mpr c96
           have c96b1 : ((wrap64 (t288)) != t304) = false := bne_eq_false_iff_eq.mpr c96
           clear c96
           have H' := Aside0.mk H
           clear H
           have hnb97 := NB297_287.out
           have hnc97 := NB287_297.out
           have hnb98 := NB297_303.out
           have hnc98 := NB303_297.out
           have hnb99 := NB297_313.out
           have hnc99 := NB313_297.out
           obtain ⟨hcz100_0, hcz100_1, hcz100_2, hcz100_3, hcz100_4, hcz100_5, hcz100_6, hcz100_7⟩ := xc8 BK297
           have hfz100_0 := xf BK297 0
           have hfz100_1 := xf BK297 1
           have hfz100_2 := xf BK297 2
           have hfz100_3 := xf BK297 3
           have hfz100_4 := xf BK297 4
           have hfz100_5 := xf BK297 5
           have hfz100_6 := xf BK297 6
           have hfz100_7 := xf BK297 7
           have hnb101 := NB313_287.out
           have hnc101 := NB287_313.out
           have hnb102 := NB313_303.out
           have hnc102 := NB303_313.out
           obtain ⟨hcz103_0, hcz103_1, hcz103_2, hcz103_3, hcz103_4, hcz103_5, hcz103_6, hcz103_7⟩ := xc8 BK313
           have hfz103_0 := xf BK313 0
           have hfz103_1 := xf BK313 1
           have hfz103_2 := xf BK313 2
           have hfz103_3 := xf BK313 3
           have hfz103_4 := xf BK313 4
           have hfz103_5 := xf BK313 5
           have hfz103_6 := xf BK313 6
           have hfz103_7 := xf BK313 7
           go_wp2
           repeat (go_quiet (fail); try go_wp2)
           go_roundg k2
           case measure => have := HK1.out; have := HK2.out; omega
           case rel => exact ⟨(wrap64 (0 + 1)), xrr, H', ⟨by have := HK1.out; have := HK2.out; omega⟩, ⟨xbk⟩, ⟨xbk⟩, ⟨xbk⟩, ⟨xbk⟩, ⟨xbl⟩⟩
          ·
           rw [if_neg c96] at H
           have c96b0 : ((wrap64 (t288)) == t304) = false := beq_eq_false_iff_ne.mpr c96
           have c96b1 : ((wrap64 (t288)) != t304) = true := bne_iff_ne.mpr c96
           obtain rfl := Option.some.inj H
           have hnb104 := NB297_287.out
           have hnc104 := NB287_297.out
           have hnb105 := NB297_303.out
           have hnc105 := NB303_297.out
           have hnb106 := NB297_313.out
           have hnc106 := NB313_297.out
           obtain ⟨hcz107_0, hcz107_1, hcz107_2, hcz107_3, hcz107_4, hcz107_5, hcz107_6, hcz107_7⟩ := xc8 BK297
           have hfz107_0 := xf BK297 0
           have hfz107_1 := xf BK297 1
           have hfz107_2 := xf BK297 2
           have hfz107_3 := xf BK297 3
           have hfz107_4 := xf BK297 4
           have hfz107_5 := xf BK297 5
           have hfz107_6 := xf BK297 6
           have hfz107_7 := xf BK297 7
           have hnb108 := NB313_287.out
           have hnc108 := NB287_313.out
           have hnb109 := NB313_303.out
           have hnc109 := NB303_313.out
           obtain ⟨hcz110_0, hcz110_1, hcz110_2, hcz110_3, hcz110_4, hcz110_5, hcz110_6, hcz110_7⟩ := xc8 BK313
           have hfz110_0 := xf BK313 0
           have hfz110_1 := xf BK313 1
           have hfz110_2 := xf BK313 2
           have hfz110_3 := xf BK313 3
           have hfz110_4 := xf BK313 4
           have hfz110_5 := xf BK313 5
           have hfz110_6 := xf BK313 6
           have hfz110_7 := xf BK313 7
           go_wp2
           repeat (go_quiet (fail); try go_wp2)
           go_ret
           exact ⟨xre, xbl⟩
         ·
          rw [if_neg c95] at H
          clear c95
          by_cases c111 : x49_2 = 1
          ·
           subst c111
           rw [if_pos rfl] at H
           by_cases c112 : (wrap64 (t289)) = t305
           ·
            rw [if_pos c112] at H
            have c112b0 : ((wrap64 (t289)) == t305) = true := beq_iff_eq.mpr c112
            have c112b1 : ((wrap64 (t289)) != t305) = false := bne_eq_false_iff_eq.mpr c112
            clear c112
            have H' := Aside0.mk H
            clear H
            have hnb113 := NB297_287.out
            have hnc113 := NB287_297.out
            have hnb114 := NB297_303.out
            have hnc114 := NB303_297.out
            have hnb115 := NB297_313.out
            have hnc115 := NB313_297.out
            obtain ⟨hcz116_0, hcz116_1, hcz116_2, hcz116_3, hcz116_4, hcz116_5, hcz116_6, hcz116_7⟩ := xc8 BK297
            have hfz116_0 := xf BK297 0
            have hfz116_1 := xf BK297 1
            have hfz116_2 := xf BK297 2
            have hfz116_3 := xf BK297 3
            have hfz116_4 := xf BK297 4
            have hfz116_5 := xf BK297 5
            have hfz116_6 := xf BK297 6
            have hfz116_7 := xf BK297 7
            have hnb117 := NB313_287.out
            have hnc117 := NB287_313.out
            have hnb118 := NB313_303.out
            have hnc118 := NB303_313.out
            obtain ⟨hcz119_0, hcz119_1, hcz119_2, hcz119_3, hcz119_4, hcz119_5, hcz119_6, hcz119_7⟩ := xc8 BK313
            have hfz119_0 := xf BK313 0
            have hfz119_1 := xf BK313 1
            have hfz119_2 := xf BK313 2
            have hfz119_3 := xf BK313 3
            have hfz119_4 := xf BK313 4
            have hfz119_5 := xf BK313 5
            have hfz119_6 := xf BK313 6
            have hfz119_7 := xf BK313 7
            go_wp2
            repeat (go_quiet (fail); try go_wp2)
            go_roundg k2
            case measure => have := HK1.out; have := HK2.out; omega
            case rel => exact ⟨(wrap64 (1 + 1)), xrr, H', ⟨by have := HK1.out; have := HK2.out; omega⟩, ⟨xbk⟩, ⟨xbk⟩, ⟨xbk⟩, ⟨xbk⟩, ⟨xbl⟩⟩
           ·
            rw [if_neg c112] at H
            have c112b0 : ((wrap64 (t289)) == t305) = false := beq_eq_false_iff_ne.mpr c112
            have c112b1 : ((wrap64 (t289)) != t305) = true := bne_iff_ne.mpr c112
            obtain rfl := Option.some.inj H
            have hnb120 := NB297_287.out
            have hnc120 := NB287_297.out
            have hnb121 := NB297_303.out
            have hnc121 := NB303_297.out
            have hnb122 := NB297_313.out
            have hnc122 := NB313_297.out
            obtain ⟨hcz123_0, hcz123_1, hcz123_2, hcz123_3, hcz123_4, hcz123_5, hcz123_6, hcz123_7⟩ := xc8 BK297
            have hfz123_0 := xf BK297 0
            have hfz123_1 := xf BK297 1
            have hfz123_2 := xf BK297 2
            have hfz123_3 := xf BK297 3
            have hfz123_4 := xf BK297 4
            have hfz123_5 := xf BK297 5
            have hfz123_6 := xf BK297 6
            have hfz123_7 := xf BK297 7
            have hnb124 := NB313_287.out
            have hnc124 := NB287_313.out
            have hnb125 := NB313_303.out
            have hnc125 := NB303_313.out
            obtain ⟨hcz126_0, hcz126_1, hcz126_2, hcz126_3, hcz126_4, hcz126_5, hcz126_6, hcz126_7⟩ := xc8 BK313
            have hfz126_0 := xf BK313 0
            have hfz126_1 := xf BK313 1
            have hfz126_2 := xf BK313 2
            have hfz126_3 := xf BK313 3
            have hfz126_4 := xf BK313 4
            have hfz126_5 := xf BK313 5
            have hfz126_6 := xf BK313 6
            have hfz126_7 := xf BK313 7
            go_wp2
            repeat (go_quiet (fail); try go_wp2)
            go_ret
            exact ⟨xre, xbl⟩
          ·
           rw [if_neg c111] at H
           clear c111
           by_cases c127 : x49_2 = 2
           ·
            subst c127
            rw [if_pos rfl] at H
            by_cases c128 : (wrap64 (t290)) = t306
            ·
             rw [if_pos c128] at H
             have c128b0 : ((wrap64 (t290)) == t306) = true := beq_iff_eq.mpr c128
             have c128b1 : ((wrap64 (t290)) != t306) = false := bne_eq_false_iff_eq.mpr c128
             clear c128
             have H' := Aside0.mk H
             clear H
             have hnb129 := NB297_287.out
             have hnc129 := NB287_297.out
             have hnb130 := NB297_303.out
             have hnc130 := NB303_297.out
             have hnb131 := NB297_313.out
             have hnc131 := NB313_297.out
             obtain ⟨hcz132_0, hcz132_1, hcz132_2, hcz132_3, hcz132_4, hcz132_5, hcz132_6, hcz132_7⟩ := xc8 BK297
             have hfz132_0 := xf BK297 0
             have hfz132_1 := xf BK297 1
             have hfz132_2 := xf BK297 2
             have hfz132_3 := xf BK297 3
             have hfz132_4 := xf BK297 4
             have hfz132_5 := xf BK297 5
             have hfz132_6 := xf BK297 6
             have hfz132_7 := xf BK297 7
             have hnb133 := NB313_287.out
             have hnc133 := NB287_313.out
             have hnb134 := NB313_303.out
             have hnc134 := NB303_313.out
             obtain ⟨hcz135_0, hcz135_1, hcz135_2, hcz135_3, hcz135_4, hcz135_5, hcz135_6, hcz135_7⟩ := xc8 BK313
             have hfz135_0 := xf BK313 0
             have hfz135_1 := xf BK313 1
             have hfz135_2 := xf BK313 2
             have hfz135_3 := xf BK313 3
             have hfz135_4 := xf BK313 4
             have hfz135_5 := xf BK313 5
             have hfz135_6 := xf BK313 6
             have hfz135_7 := xf BK313 7
             go_wp2
             repeat (go_quiet (fail); try go_wp2)
             go_roundg k2
             case measure => have := HK1.out; have := HK2.out; omega
             case rel => exact ⟨(wrap64 (2 + 1)), xrr, H', ⟨by have := HK1.out; have := HK2.out; omega⟩, ⟨xbk⟩, ⟨xbk⟩, ⟨xbk⟩, ⟨xbk⟩, ⟨xbl⟩⟩
            ·
             rw [if_neg c128] at H
             have c128b0 : ((wrap64 (t290)) == t306) = false := beq_eq_false_iff_ne.mpr c128
             have c128b1 : ((wrap64 (t290)) != t306) = true := bne_iff_ne.mpr c128
             obtain rfl := Option.some.inj H
             have hnb136 := NB297_287.out
             have hnc136 := NB287_297.out
             have hnb137 := NB297_303.out
             have hnc137 := NB303_297.out
             have hnb138 := NB297_313.out
             have hnc138 := NB313_297.out
             obtain ⟨hcz139_0, hcz139_1, hcz139_2, hcz139_3, hcz139_4, hcz139_5, hcz139_6, hcz139_7⟩ := xc8 BK297
             have hfz139_0 := xf BK297 0
             have hfz139_1 := xf BK297 1
             have hfz139_2 := xf BK297 2
             have hfz139_3 := xf BK297 3
             have hfz139_4 := xf BK297 4
             have hfz139_5 := xf BK297 5
             have hfz139_6 := xf BK297 6
             have hfz139_7 := xf BK297 7
             have hnb140 := NB313_287.out
             have hnc140 := NB287_313.out
             have hnb141 := NB313_303.out
             have hnc141 := NB303_313.out
             obtain ⟨hcz142_0, hcz142_1, hcz142_2, hcz142_3, hcz142_4, hcz142_5, hcz142_6, hcz142_7⟩ := xc8 BK313
             have hfz142_0 := xf BK313 0
             have hfz142_1 := xf BK313 1
             have hfz142_2 := xf BK313 2
             have hfz142_3 := xf BK313 3
             have hfz142_4 := xf BK313 4
             have hfz142_5 := xf BK313 5
             have hfz142_6 := xf BK313 6
             have hfz142_7 := xf BK313 7
             go_wp2
             repeat (go_quiet (fail); try go_wp2)
             go_ret
             exact ⟨xre, xbl⟩
           ·
            rw [if_neg c127] at H
            clear c127
            by_cases c143 : x49_2 = 3
            ·
             subst c143
             rw [if_pos rfl] at H
             by_cases c144 : (wrap64 (t291)) = t307
             ·
              rw [if_pos c144] at H
              have c144b0 : ((wrap64 (t291)) == t307) = true := beq_iff_eq.mpr c144
              have c144b1 : ((wrap64 (t291)) != t307) = false := bne_eq_false_iff_eq.mpr c144
              clear c144
              have H' := Aside0.mk H
              clear H
              have hnb145 := NB297_287.out
              have hnc145 := NB287_297.out
              have hnb146 := NB297_303.out
              have hnc146 := NB303_297.out
              have hnb147 := NB297_313.out
              have hnc147 := NB313_297.out
              obtain ⟨hcz148_0, hcz148_1, hcz148_2, hcz148_3, hcz148_4, hcz148_5, hcz148_6, hcz148_7⟩ := xc8 BK297
              have hfz148_0 := xf BK297 0
              have hfz148_1 := xf BK297 1
              have hfz148_2 := xf BK297 2
              have hfz148_3 := xf BK297 3
              have hfz148_4 := xf BK297 4
              have hfz148_5 := xf BK297 5
              have hfz148_6 := xf BK297 6
              have hfz148_7 := xf BK297 7
              have hnb149 := NB313_287.out
              have hnc149 := NB287_313.out
              have hnb150 := NB313_303.out
              have hnc150 := NB303_313.out
              obtain ⟨hcz151_0, hcz151_1, hcz151_2, hcz151_3, hcz151_4, hcz151_5, hcz151_6, hcz151_7⟩ := xc8 BK313
              have hfz151_0 := xf BK313 0
              have hfz151_1 := xf BK313 1
              have hfz151_2 := xf BK313 2
              have hfz151_3 := xf BK313 3
              have hfz151_4 := xf BK313 4
              have hfz151_5 := xf BK313 5
              have hfz151_6 := xf BK313 6
              have hfz151_7 := xf BK313 7
              go_wp2
              repeat (go_quiet (fail); try go_wp2)
              go_roundg k2
              case measure => have := HK1.out; have := HK2.out; omega
              case rel => exact ⟨(wrap64 (3 + 1)), xrr, H', ⟨by have := HK1.out; have := HK2.out; omega⟩, ⟨xbk⟩, ⟨xbk⟩, ⟨xbk⟩, ⟨xbk⟩, ⟨xbl⟩⟩
             ·
              rw [if_neg c144] at H
              have c144b0 : ((wrap64 (t291)) == t307) = false := beq_eq_false_iff_ne.mpr c144
              have c144b1 : ((wrap64 (t291)) != t307) = true := bne_iff_ne.mpr c144
              obtain rfl := Option.some.inj H
              have hnb152 := NB297_287.out
              have hnc152 := NB287_297.out
              have hnb153 := NB297_303.out
              have hnc153 := NB303_297.out
              have hnb154 := NB297_313.out
              have hnc154 := NB313_297.out
              obtain ⟨hcz155_0, hcz155_1, hcz155_2, hcz155_3, hcz155_4, hcz155_5, hcz155_6, hcz155_7⟩ := xc8 BK297
              have hfz155_0 := xf BK297 0
              have hfz155_1 := xf BK297 1
              have hfz155_2 := xf BK297 2
              have hfz155_3 := xf BK297 3
              have hfz155_4 := xf BK297 4
              have hfz155_5 := xf BK297 5
              have hfz155_6 := xf BK297 6
              have hfz155_7 := xf BK297 7
              have hnb156 := NB313_287.out
              have hnc156 := NB287_313.out
              have hnb157 := NB313_303.out
              have hnc157 := NB303_313.out
              obtain ⟨hcz158_0, hcz158_1, hcz158_2, hcz158_3, hcz158_4, hcz158_5, hcz158_6, hcz158_7⟩ := xc8 BK313
              have hfz158_0 := xf BK313 0
              have hfz158_1 := xf BK313 1
              have hfz158_2 := xf BK313 2
              have hfz158_3 := xf BK313 3
              have hfz158_4 := xf BK313 4
              have hfz158_5 := xf BK313 5
              have hfz158_6 := xf BK313 6
              have hfz158_7 := xf BK313 7
              go_wp2
              repeat (go_quiet (fail); try go_wp2)
              go_ret
              exact ⟨xre, xbl⟩
            ·
             rw [if_neg c143] at H
             clear c143
             by_cases c159 : x49_2 = 4
             ·
              subst c159
              rw [if_pos rfl] at H
              by_cases c160 : (wrap64 (t292)) = t308
              ·
               rw [if_pos c160] at H
               have c160b0 : ((wrap64 (t292)) == t308) = true := beq_iff_eq.mpr c160
               have c160b1 : ((wrap64 (t292)) != t308) = false := bne_eq_false_iff_eq.mpr c160
               clear c160
               have H' := Aside0.mk H
               clear H
               have hnb161 := NB297_287.out
               have hnc161 := NB287_297.out
               have hnb162 := NB297_303.out
               have hnc162 := NB303_297.out
               have hnb163 := NB297_313.out
               have hnc163 := NB313_297.out
               obtain ⟨hcz164_0, hcz164_1, hcz164_2, hcz164_3, hcz164_4, hcz164_5, hcz164_6, hcz164_7⟩ := xc8 BK297
               have hfz164_0 := xf BK297 0
               have hfz164_1 := xf BK297 1
               have hfz164_2 := xf BK297 2
               have hfz164_3 := xf BK297 3
               have hfz164_4 := xf BK297 4
               have hfz164_5 := xf BK297 5
               have hfz164_6 := xf BK297 6
               have hfz164_7 := xf BK297 7
               have hnb165 := NB313_287.out
               have hnc165 := NB287_313.out
               have hnb166 := NB313_303.out
               have hnc166 := NB303_313.out
               obtain ⟨hcz167_0, hcz167_1, hcz167_2, hcz167_3, hcz167_4, hcz167_5, hcz167_6, hcz167_7⟩ := xc8 BK313
               have hfz167_0 := xf BK313 0
               have hfz167_1 := xf BK313 1
               have hfz167_2 := xf BK313 2
               have hfz167_3 := xf BK313 3
               have hfz167_4 := xf BK313 4
               have hfz167_5 := xf BK313 5
               have hfz167_6 := xf BK313 6
               have hfz167_7 := xf BK313 7
               go_wp2
               repeat (go_quiet (fail); try go_wp2)
               go_roundg k2
               case measure => have := HK1.out; have := HK2.out; omega
               case rel => exact ⟨(wrap64 (4 + 1)), xrr, H', ⟨by have := HK1.out; have := HK2.out; omega⟩, ⟨xbk⟩, ⟨xbk⟩, ⟨xbk⟩, ⟨xbk⟩, ⟨xbl⟩⟩
              ·
               rw [if_neg c160] at H
               have c160b0 : ((wrap64 (t292)) == t308) = false := beq_eq_false_iff_ne.mpr c160
               have c160b1 : ((wrap64 (t292)) != t308) = true := bne_iff_ne.mpr c160
               obtain rfl := Option.some.inj H
               have hnb168 := NB297_287.out
               have hnc168 := NB287_297.out
               have hnb169 := NB297_303.out
               have hnc169 := NB303_297.out
               have hnb170 := NB297_313.out
               have hnc170 := NB313_297.out
               obtain ⟨hcz171_0, hcz171_1, hcz171_2, hcz171_3, hcz171_4, hcz171_5, hcz171_6, hcz171_7⟩ := xc8 BK297
               have hfz171_0 := xf BK297 0
               have hfz171_1 := xf BK297 1
               have hfz171_2 := xf BK297 2
               have hfz171_3 := xf BK297 3
               have hfz171_4 := xf BK297 4
               have hfz171_5 := xf BK297 5
               have hfz171_6 := xf BK297 6
               have hfz171_7 := xf BK297 7
               have hnb172 := NB313_287.out
               have hnc172 := NB287_313.out
               have hnb173 := NB313_303.out
               have hnc173 := NB303_313.out
               obtain ⟨hcz174_0, hcz174_1, hcz174_2, hcz174_3, hcz174_4, hcz174_5, hcz174_6, hcz174_7⟩ := xc8 BK313
               have hfz174_0 := xf BK313 0
               have hfz174_1 := xf BK313 1
               have hfz174_2 := xf BK313 2
               have hfz174_3 := xf BK313 3
               have hfz174_4 := xf BK313 4
               have hfz174_5 := xf BK313 5
               have hfz174_6 := xf BK313 6
               have hfz174_7 := xf BK313 7
               go_wp2
               repeat (go_quiet (fail); try go_wp2)
               go_ret
               exact ⟨xre, xbl⟩
             ·
              rw [if_neg c159] at H
              clear c159
              by_cases c175 : x49_2 = 5
              ·
               subst c175
               rw [if_pos rfl] at H
               by_cases c176 : (wrap64 (t293)) = t309
               ·
                rw [if_pos c176] at H
                have c176b0 : ((wrap64 (t293)) == t309) = true := beq_iff_eq.mpr c176
                have c176b1 : ((wrap64 (t293)) != t309) = false := bne_eq_false_iff_eq.mpr c176
                clear c176
                have H' := Aside0.mk H
                clear H
                have hnb177 := NB297_287.out
                have hnc177 := NB287_297.out
                have hnb178 := NB297_303.out
                have hnc178 := NB303_297.out
                have hnb179 := NB297_313.out
                have hnc179 := NB313_297.out
                obtain ⟨hcz180_0, hcz180_1, hcz180_2, hcz180_3, hcz180_4, hcz180_5, hcz180_6, hcz180_7⟩ := xc8 BK297
                have hfz180_0 := xf BK297 0
                have hfz180_1 := xf BK297 1
                have hfz180_2 := xf BK297 2
                have hfz180_3 := xf BK297 3
                have hfz180_4 := xf BK297 4
                have hfz180_5 := xf BK297 5
                have hfz180_6 := xf BK297 6
                have hfz180_7 := xf BK297 7
                have hnb181 := NB313_287.out
                have hnc181 := NB287_313.out
                have hnb182 := NB313_303.out
                have hnc182 := NB303_313.out
                obtain ⟨hcz183_0, hcz183_1, hcz183_2, hcz183_3, hcz183_4, hcz183_5, hcz183_6, hcz183_7⟩ := xc8 BK313
                have hfz183_0 := xf BK313 0
                have hfz183_1 := xf BK313 1
                have hfz183_2 := xf BK313 2
                have hfz183_3 := xf BK313 3
                have hfz183_4 := xf BK313 4
                have hfz183_5 := xf BK313 5
                have hfz183_6 := xf BK313 6
                have hfz183_7 := xf BK313 7
                go_wp2
                repeat (go_quiet (fail); try go_wp2)
                go_roundg k2
                case measure => have := HK1.out; have := HK2.out; omega
                case rel => exact ⟨(wrap64 (5 + 1)), xrr, H', ⟨by have := HK1.out; have := HK2.out; omega⟩, ⟨xbk⟩, ⟨xbk⟩, ⟨xbk⟩, ⟨xbk⟩, ⟨xbl⟩⟩
               ·
                rw [if_neg c176] at H
                have c176b0 : ((wrap64 (t293)) == t309) = false := beq_eq_false_iff_ne.mpr c176
                have c176b1 : ((wrap64 (t293)) != t309) = true := bne_iff_ne.mpr c176
                obtain rfl := Option.some.inj H
                have hnb184 := NB297_287.out
                have hnc184 := NB287_297.out
                have hnb185 := NB297_303.out
                have hnc185 := NB303_297.out
                have hnb186 := NB297_313.out
                have hnc186 := NB313_297.out
                obtain ⟨hcz187_0, hcz187_1, hcz187_2, hcz187_3, hcz187_4, hcz187_5, hcz187_6, hcz187_7⟩ := xc8 BK297
                have hfz187_0 := xf BK297 0
                have hfz187_1 := xf BK297 1
                have hfz187_2 := xf BK297 2
                have hfz187_3 := xf BK297 3
                have hfz187_4 := xf BK297 4
                have hfz187_5 := xf BK297 5
                have hfz187_6 := xf BK297 6
                have hfz187_7 := xf BK297 7
                have hnb188 := NB313_287.out
                have hnc188 := NB287_313.out
                have hnb189 := NB313_303.out
                have hnc189 := NB303_313.out
                obtain ⟨hcz190_0, hcz190_1, hcz190_2, hcz190_3, hcz190_4, hcz190_5, hcz190_6, hcz190_7⟩ := xc8 BK313
                have hfz190_0 := xf BK313 0
                have hfz190_1 := xf BK313 1
                have hfz190_2 := xf BK313 2
                have hfz190_3 := xf BK313 3
                have hfz190_4 := xf BK313 4
                have hfz190_5 := xf BK313 5
                have hfz190_6 := xf BK313 6
                have hfz190_7 := xf BK313 7
                go_wp2
                repeat (go_quiet (fail); try go_wp2)
                go_ret
                exact ⟨xre, xbl⟩
              ·
               rw [if_neg c175] at H
               clear c175
               by_cases c191 : x49_2 = 6
               ·
                subst c191
                rw [if_pos rfl] at H
                by_cases c192 : (wrap64 (t294)) = t310
                ·
                 rw [if_pos c192] at H
                 have c192b0 : ((wrap64 (t294)) == t310) = true := beq_iff_eq.mpr c192
                 have c192b1 : ((wrap64 (t294)) != t310) = false := bne_eq_false_iff_eq.mpr c192
                 clear c192
                 have H' := Aside0.mk H
                 clear H
                 have hnb193 := NB297_287.out
                 have hnc193 := NB287_297.out
                 have hnb194 := NB297_303.out
                 have hnc194 := NB303_297.out
                 have hnb195 := NB297_313.out
                 have hnc195 := NB313_297.out
                 obtain ⟨hcz196_0, hcz196_1, hcz196_2, hcz196_3, hcz196_4, hcz196_5, hcz196_6, hcz196_7⟩ := xc8 BK297
                 have hfz196_0 := xf BK297 0
                 have hfz196_1 := xf BK297 1
                 have hfz196_2 := xf BK297 2
                 have hfz196_3 := xf BK297 3
                 have hfz196_4 := xf BK297 4
                 have hfz196_5 := xf BK297 5
                 have hfz196_6 := xf BK297 6
                 have hfz196_7 := xf BK297 7
                 have hnb197 := NB313_287.out
                 have hnc197 := NB287_313.out
                 have hnb198 := NB313_303.out
                 have hnc198 := NB303_313.out
                 obtain ⟨hcz199_0, hcz199_1, hcz199_2, hcz199_3, hcz199_4, hcz199_5, hcz199_6, hcz199_7⟩ := xc8 BK313
                 have hfz199_0 := xf BK313 0
                 have hfz199_1 := xf BK313 1
                 have hfz199_2 := xf BK313 2
                 have hfz199_3 := xf BK313 3
                 have hfz199_4 := xf BK313 4
                 have hfz199_5 := xf BK313 5
                 have hfz199_6 := xf BK313 6
                 have hfz199_7 := xf BK313 7
                 go_wp2
                 repeat (go_quiet (fail); try go_wp2)
                 go_roundg k2
                 case measure => have := HK1.out; have := HK2.out; omega
                 case rel => exact ⟨(wrap64 (6 + 1)), xrr, H', ⟨by have := HK1.out; have := HK2.out; omega⟩, ⟨xbk⟩, ⟨xbk⟩, ⟨xbk⟩, ⟨xbk⟩, ⟨xbl⟩⟩
                ·
                 rw [if_neg c192] at H
                 have c192b0 : ((wrap64 (t294)) == t310) = false := beq_eq_false_iff_ne.mpr c192
                 have c192b1 : ((wrap64 (t294)) != t310) = true := bne_iff_ne.mpr c192
                 obtain rfl := Option.some.inj H
                 have hnb200 := NB297_287.out
                 have hnc200 := NB287_297.out
                 have hnb201 := NB297_303.out
                 have hnc201 := NB303_297.out
                 have hnb202 := NB297_313.out
                 have hnc202 := NB313_297.out
                 obtain ⟨hcz203_0, hcz203_1, hcz203_2, hcz203_3, hcz203_4, hcz203_5, hcz203_6, hcz203_7⟩ := xc8 BK297
                 have hfz203_0 := xf BK297 0
                 have hfz203_1 := xf BK297 1
                 have hfz203_2 := xf BK297 2
                 have hfz203_3 := xf BK297 3
                 have hfz203_4 := xf BK297 4
                 have hfz203_5 := xf BK297 5
                 have hfz203_6 := xf BK297 6
                 have hfz203_7 := xf BK297 7
                 have hnb204 := NB313_287.out
                 have hnc204 := NB287_313.out
                 have hnb205 := NB313_303.out
                 have hnc205 := NB303_313.out
                 obtain ⟨hcz206_0, hcz206_1, hcz206_2, hcz206_3, hcz206_4, hcz206_5, hcz206_6, hcz206_7⟩ := xc8 BK313
                 have hfz206_0 := xf BK313 0
                 have hfz206_1 := xf BK313 1
                 have hfz206_2 := xf BK313 2
                 have hfz206_3 := xf BK313 3
                 have hfz206_4 := xf BK313 4
                 have hfz206_5 := xf BK313 5
                 have hfz206_6 := xf BK313 6
                 have hfz206_7 := xf BK313 7
                 go_wp2
                 repeat (go_quiet (fail); try go_wp2)
                 go_ret
                 exact ⟨xre, xbl⟩
               ·
                rw [if_neg c191] at H
                clear c191
                by_cases c207 : x49_2 = 7
                ·
                 subst c207
                 rw [if_pos rfl] at H
                 by_cases c208 : (wrap64 (t295)) = t311
                 ·
                  rw [if_pos c208] at H
                  have c208b0 : ((wrap64 (t295)) == t311) = true := beq_iff_eq.mpr c208
                  have c208b1 : ((wrap64 (t295)) != t311) = false := bne_eq_false_iff_eq.mpr c208
                  clear c208
                  have H' := Aside0.mk H
                  clear H
                  have hnb209 := NB297_287.out
                  have hnc209 := NB287_297.out
                  have hnb210 := NB297_303.out
                  have hnc210 := NB303_297.out
                  have hnb211 := NB297_313.out
                  have hnc211 := NB313_297.out
                  obtain ⟨hcz212_0, hcz212_1, hcz212_2, hcz212_3, hcz212_4, hcz212_5, hcz212_6, hcz212_7⟩ := xc8 BK297
                  have hfz212_0 := xf BK297 0
                  have hfz212_1 := xf BK297 1
                  have hfz212_2 := xf BK297 2
                  have hfz212_3 := xf BK297 3
                  have hfz212_4 := xf BK297 4
                  have hfz212_5 := xf BK297 5
                  have hfz212_6 := xf BK297 6
                  have hfz212_7 := xf BK297 7
                  have hnb213 := NB313_287.out
                  have hnc213 := NB287_313.out
                  have hnb214 := NB313_303.out
                  have hnc214 := NB303_313.out
                  obtain ⟨hcz215_0, hcz215_1, hcz215_2, hcz215_3, hcz215_4, hcz215_5, hcz215_6, hcz215_7⟩ := xc8 BK313
                  have hfz215_0 := xf BK313 0
                  have hfz215_1 := xf BK313 1
                  have hfz215_2 := xf BK313 2
                  have hfz215_3 := xf BK313 3
                  have hfz215_4 := xf BK313 4
                  have hfz215_5 := xf BK313 5
                  have hfz215_6 := xf BK313 6
                  have hfz215_7 := xf BK313 7
                  go_wp2
                  repeat (go_quiet (fail); try go_wp2)
                  go_roundg k2
                  case measure => have := HK1.out; have := HK2.out; omega
                  case rel => exact ⟨(wrap64 (7 + 1)), xrr, H', ⟨by have := HK1.out; have := HK2.out; omega⟩, ⟨xbk⟩, ⟨xbk⟩, ⟨xbk⟩, ⟨xbk⟩, ⟨xbl⟩⟩
                 ·
                  rw [if_neg c208] at H
                  have c208b0 : ((wrap64 (t295)) == t311) = false := beq_eq_false_iff_ne.mpr c208
                  have c208b1 : ((wrap64 (t295)) != t311) = true := bne_iff_ne.mpr c208
                  obtain rfl := Option.some.inj H
                  have hnb216 := NB297_287.out
                  have hnc216 := NB287_297.out
                  have hnb217 := NB297_303.out
                  have hnc217 := NB303_297.out
                  have hnb218 := NB297_313.out
                  have hnc218 := NB313_297.out
                  obtain ⟨hcz219_0, hcz219_1, hcz219_2, hcz219_3, hcz219_4, hcz219_5, hcz219_6, hcz219_7⟩ := xc8 BK297
                  have hfz219_0 := xf BK297 0
                  have hfz219_1 := xf BK297 1
                  have hfz219_2 := xf BK297 2
                  have hfz219_3 := xf BK297 3
                  have hfz219_4 := xf BK297 4
                  have hfz219_5 := xf BK297 5
                  have hfz219_6 := xf BK297 6
                  have hfz219_7 := xf BK297 7
                  have hnb220 := NB313_287.out
                  have hnc220 := NB287_313.out
                  have hnb221 := NB313_303.out
                  have hnc221 := NB303_313.out
                  obtain ⟨hcz222_0, hcz222_1, hcz222_2, hcz222_3, hcz222_4, hcz222_5, hcz222_6, hcz222_7⟩ := xc8 BK313
                  have hfz222_0 := xf BK313 0
                  have hfz222_1 := xf BK313 1
                  have hfz222_2 := xf BK313 2
                  have hfz222_3 := xf BK313 3
                  have hfz222_4 := xf BK313 4
                  have hfz222_5 := xf BK313 5
                  have hfz222_6 := xf BK313 6
                  have hfz222_7 := xf BK313 7
                  go_wp2
                  repeat (go_quiet (fail); try go_wp2)
                  go_ret
                  exact ⟨xre, xbl⟩
                ·
                 rw [if_neg c207] at H
                 clear c207
                 exact absurd H (by simp)
        ·
         rw [if_neg c94] at H
         exact absurd H (by simp)
       ·
        rw [if_neg c93] at H
        have c93b0 := decide_eq_false c93
        clear c93
        by_cases c223 : (t286 == t302) = true
        ·
         rw [if_pos c223] at H
         have c223b0 : (t286 == t302) = true := c223
         (try (have c223b1 : decide (t286 = t302) = true := by simpa using c223))
         (try (have c223b2 : (t286 == t302) = true := by simpa using c223))
         clear c223
         by_cases c224 : (t296 == t312) = true
         ·
          rw [if_pos c224] at H
          have c224b0 : (t296 == t312) = true := c224
          (try (have c224b1 : decide (t296 = t312) = true := by simpa using c224))
          (try (have c224b2 : (t296 == t312) = true := by simpa using c224))
          clear c224
          replace H := Option.bind_eq_some_iff.mp H
          obtain ⟨t314, A2250, H⟩ := H
          try dsimp only at H
          have A225 := Aside0.mk A2250
          clear A2250
          replace H := Option.bind_eq_some_iff.mp H
          obtain ⟨t315, A2260, H⟩ := H
          try dsimp only at H
          have A226 := Aside0.mk A2260
          clear A2260
          by_cases c227 : (t314 == t315) = true
          ·
           rw [if_pos c227] at H
           have c227b0 : (t314 == t315) = true := c227
           (try (have c227b1 : decide (t314 = t315) = true := by simpa using c227))
           (try (have c227b2 : (t314 == t315) = true := by simpa using c227))
           clear c227
           replace H := Option.bind_eq_some_iff.mp H
           obtain ⟨t316, A2280, H⟩ := H
           try dsimp only at H
           have A228 := Aside0.mk A2280
           clear A2280
           obtain rfl := Option.some.inj H
           go_wp2_with (first | (go_at_call 12; (with_reducible refine (ip_Future.calls k2 a0 t314 _ A225.out).mono ?_); rintro e w229 ⟨rfl, hb⟩; replace BK287 := xbb (g := gb287) (o := .cells #[.int .u8 t282, .int .u8 t283, .int .u8 t284, .int .u8 t285] 23 (0, 0)) hb; replace BK297 := xbb (g := gb297) (o := .cells #[.int .u16 t288, .int .u16 t289, .int .u16 t290, .int .u16 t291, .int .u16 t292, .int .u16 t293, .int .u16 t294, .int .u16 t295] 27 (0, 0)) hb; replace BK303 := xbb (g := gb303) (o := .cells #[.int .i64 t298, .int .i64 t299, .int .i64 t300, .int .i64 t301] 30 (0, 0)) hb; replace BK313 := xbb (g := gb313) (o := .cells #[.int .i64 t304, .int .i64 t305, .int .i64 t306, .int .i64 t307, .int .i64 t308, .int .i64 t309, .int .i64 t310, .int .i64 t311] 33 (0, 0)) hb; replace HB := xst hb; (try clear hb)) | (go_at_call 13; (with_reducible refine (monikerref19_Future.calls k2 a0 t315 _ A226.out).mono ?_); rintro e w' ⟨rfl, ⟨nd, rfl⟩⟩; (try first | exact ⟨rfl, _, World.drewN_drewN _ _ _⟩ | exact ⟨rfl, _, Eq.trans (World.drewN_drewN _ _ _) (congrArg (World.drewN _) (Nat.add_assoc _ _ _))⟩)) | (go_at_call 7; (with_reducible refine (monikerlaw19_awake.calls k2  t316 _ ?side1 A228.out).mono ?_); (case side1 => first | (with_reducible exact hG) | exact GW_to hG xbl); rintro e w230 ⟨rfl, hb⟩; replace BK287 := xbb (g := gb287) (o := .cells #[.int .u8 t282, .int .u8 t283, .int .u8 t284, .int .u8 t285] 23 (0, 0)) hb; replace BK297 := xbb (g := gb297) (o := .cells #[.int .u16 t288, .int .u16 t289, .int .u16 t290, .int .u16 t291, .int .u16 t292, .int .u16 t293, .int .u16 t294, .int .u16 t295] 27 (0, 0)) hb; replace BK303 := xbb (g := gb303) (o := .cells #[.int .i64 t298, .int .i64 t299, .int .i64 t300, .int .i64 t301] 30 (0, 0)) hb; replace BK313 := xbb (g := gb313) (o := .cells #[.int .i64 t304, .int .i64 t305, .int .i64 t306, .int .i64 t307, .int .i64 t308, .int .i64 t309, .int .i64 t310, .int .i64 t311] 33 (0, 0)) hb; replace HB := xst hb; (try clear hb)))
           repeat (go_quiet (first | (go_at_call 12; (with_reducible refine (ip_Future.calls k2 a0 t314 _ A225.out).mono ?_); rintro e w229 ⟨rfl, hb⟩; replace BK287 := xbb (g := gb287) (o := .cells #[.int .u8 t282, .int .u8 t283, .int .u8 t284, .int .u8 t285] 23 (0, 0)) hb; replace BK297 := xbb (g := gb297) (o := .cells #[.int .u16 t288, .int .u16 t289, .int .u16 t290, .int .u16 t291, .int .u16 t292, .int .u16 t293, .int .u16 t294, .int .u16 t295] 27 (0, 0)) hb; replace BK303 := xbb (g := gb303) (o := .cells #[.int .i64 t298, .int .i64 t299, .int .i64 t300, .int .i64 t301] 30 (0, 0)) hb; replace BK313 := xbb (g := gb313) (o := .cells #[.int .i64 t304, .int .i64 t305, .int .i64 t306, .int .i64 t307, .int .i64 t308, .int .i64 t309, .int .i64 t310, .int .i64 t311] 33 (0, 0)) hb; replace HB := xst hb; (try clear hb)) | (go_at_call 13; (with_reducible refine (monikerref19_Future.calls k2 a0 t315 _ A226.out).mono ?_); rintro e w' ⟨rfl, ⟨nd, rfl⟩⟩; (try first | exact ⟨rfl, _, World.drewN_drewN _ _ _⟩ | exact ⟨rfl, _, Eq.trans (World.drewN_drewN _ _ _) (congrArg (World.drewN _) (Nat.add_assoc _ _ _))⟩)) | (go_at_call 7; (with_reducible refine (monikerlaw19_awake.calls k2  t316 _ ?side1 A228.out).mono ?_); (case side1 => first | (with_reducible exact hG) | exact GW_to hG xbl); rintro e w230 ⟨rfl, hb⟩; replace BK287 := xbb (g := gb287) (o := .cells #[.int .u8 t282, .int .u8 t283, .int .u8 t284, .int .u8 t285] 23 (0, 0)) hb; replace BK297 := xbb (g := gb297) (o := .cells #[.int .u16 t288, .int .u16 t289, .int .u16 t290, .int .u16 t291, .int .u16 t292, .int .u16 t293, .int .u16 t294, .int .u16 t295] 27 (0, 0)) hb; replace BK303 := xbb (g := gb303) (o := .cells #[.int .i64 t298, .int .i64 t299, .int .i64 t300, .int .i64 t301] 30 (0, 0)) hb; replace BK313 := xbb (g := gb313) (o := .cells #[.int .i64 t304, .int .i64 t305, .int .i64 t306, .int .i64 t307, .int .i64 t308, .int .i64 t309, .int .i64 t310, .int .i64 t311] 33 (0, 0)) hb; replace HB := xst hb; (try clear hb))); try go_wp2_with (first | (go_at_call 12; (with_reducible refine (ip_Future.calls k2 a0 t314 _ A225.out).mono ?_); rintro e w229 ⟨rfl, hb⟩; replace BK287 := xbb (g := gb287) (o := .cells #[.int .u8 t282, .int .u8 t283, .int .u8 t284, .int .u8 t285] 23 (0, 0)) hb; replace BK297 := xbb (g := gb297) (o := .cells #[.int .u16 t288, .int .u16 t289, .int .u16 t290, .int .u16 t291, .int .u16 t292, .int .u16 t293, .int .u16 t294, .int .u16 t295] 27 (0, 0)) hb; replace BK303 := xbb (g := gb303) (o := .cells #[.int .i64 t298, .int .i64 t299, .int .i64 t300, .int .i64 t301] 30 (0, 0)) hb; replace BK313 := xbb (g := gb313) (o := .cells #[.int .i64 t304, .int .i64 t305, .int .i64 t306, .int .i64 t307, .int .i64 t308, .int .i64 t309, .int .i64 t310, .int .i64 t311] 33 (0, 0)) hb; replace HB := xst hb; (try clear hb)) | (go_at_call 13; (with_reducible refine (monikerref19_Future.calls k2 a0 t315 _ A226.out).mono ?_); rintro e w' ⟨rfl, ⟨nd, rfl⟩⟩; (try first | exact ⟨rfl, _, World.drewN_drewN _ _ _⟩ | exact ⟨rfl, _, Eq.trans (World.drewN_drewN _ _ _) (congrArg (World.drewN _) (Nat.add_assoc _ _ _))⟩)) | (go_at_call 7; (with_reducible refine (monikerlaw19_awake.calls k2  t316 _ ?side1 A228.out).mono ?_); (case side1 => first | (with_reducible exact hG) | exact GW_to hG xbl); rintro e w230 ⟨rfl, hb⟩; replace BK287 := xbb (g := gb287) (o := .cells #[.int .u8 t282, .int .u8 t283, .int .u8 t284, .int .u8 t285] 23 (0, 0)) hb; replace BK297 := xbb (g := gb297) (o := .cells #[.int .u16 t288, .int .u16 t289, .int .u16 t290, .int .u16 t291, .int .u16 t292, .int .u16 t293, .int .u16 t294, .int .u16 t295] 27 (0, 0)) hb; replace BK303 := xbb (g := gb303) (o := .cells #[.int .i64 t298, .int .i64 t299, .int .i64 t300, .int .i64 t301] 30 (0, 0)) hb; replace BK313 := xbb (g := gb313) (o := .cells #[.int .i64 t304, .int .i64 t305, .int .i64 t306, .int .i64 t307, .int .i64 t308, .int .i64 t309, .int .i64 t310, .int .i64 t311] 33 (0, 0)) hb; replace HB := xst hb; (try clear hb))))
           go_ret
           exact ⟨xre, xbl⟩
          ·
           rw [if_neg c227] at H
           have c227b0 : (t314 == t315) = false := by simpa using c227
           (try (have c227b1 : decide (t314 = t315) = false := by simpa using c227))
           (try (have c227b2 : (t314 == t315) = false := by simpa using c227))
           (try (have c227b3 : ¬ (t314 = t315) := by simpa using c227))
           clear c227
           obtain rfl := Option.some.inj H
           go_wp2_with (first | (go_at_call 12; (with_reducible refine (ip_Future.calls k2 a0 t314 _ A225.out).mono ?_); rintro e w231 ⟨rfl, hb⟩; replace BK287 := xbb (g := gb287) (o := .cells #[.int .u8 t282, .int .u8 t283, .int .u8 t284, .int .u8 t285] 23 (0, 0)) hb; replace BK297 := xbb (g := gb297) (o := .cells #[.int .u16 t288, .int .u16 t289, .int .u16 t290, .int .u16 t291, .int .u16 t292, .int .u16 t293, .int .u16 t294, .int .u16 t295] 27 (0, 0)) hb; replace BK303 := xbb (g := gb303) (o := .cells #[.int .i64 t298, .int .i64 t299, .int .i64 t300, .int .i64 t301] 30 (0, 0)) hb; replace BK313 := xbb (g := gb313) (o := .cells #[.int .i64 t304, .int .i64 t305, .int .i64 t306, .int .i64 t307, .int .i64 t308, .int .i64 t309, .int .i64 t310, .int .i64 t311] 33 (0, 0)) hb; replace HB := xst hb; (try clear hb)) | (go_at_call 13; (with_reducible refine (monikerref19_Future.calls k2 a0 t315 _ A226.out).mono ?_); rintro e w' ⟨rfl, ⟨nd, rfl⟩⟩; (try first | exact ⟨rfl, _, World.drewN_drewN _ _ _⟩ | exact ⟨rfl, _, Eq.trans (World.drewN_drewN _ _ _) (congrArg (World.drewN _) (Nat.add_assoc _ _ _))⟩)))
           repeat (go_quiet (first | (go_at_call 12; (with_reducible refine (ip_Future.calls k2 a0 t314 _ A225.out).mono ?_); rintro e w231 ⟨rfl, hb⟩; replace BK287 := xbb (g := gb287) (o := .cells #[.int .u8 t282, .int .u8 t283, .int .u8 t284, .int .u8 t285] 23 (0, 0)) hb; replace BK297 := xbb (g := gb297) (o := .cells #[.int .u16 t288, .int .u16 t289, .int .u16 t290, .int .u16 t291, .int .u16 t292, .int .u16 t293, .int .u16 t294, .int .u16 t295] 27 (0, 0)) hb; replace BK303 := xbb (g := gb303) (o := .cells #[.int .i64 t298, .int .i64 t299, .int .i64 t300, .int .i64 t301] 30 (0, 0)) hb; replace BK313 := xbb (g := gb313) (o := .cells #[.int .i64 t304, .int .i64 t305, .int .i64 t306, .int .i64 t307, .int .i64 t308, .int .i64 t309, .int .i64 t310, .int .i64 t311] 33 (0, 0)) hb; replace HB := xst hb; (try clear hb)) | (go_at_call 13; (with_reducible refine (monikerref19_Future.calls k2 a0 t315 _ A226.out).mono ?_); rintro e w' ⟨rfl, ⟨nd, rfl⟩⟩; (try first | exact ⟨rfl, _, World.drewN_drewN _ _ _⟩ | exact ⟨rfl, _, Eq.trans (World.drewN_drewN _ _ _) (congrArg (World.drewN _) (Nat.add_assoc _ _ _))⟩))); try go_wp2_with (first | (go_at_call 12; (with_reducible refine (ip_Future.calls k2 a0 t314 _ A225.out).mono ?_); rintro e w231 ⟨rfl, hb⟩; replace BK287 := xbb (g := gb287) (o := .cells #[.int .u8 t282, .int .u8 t283, .int .u8 t284, .int .u8 t285] 23 (0, 0)) hb; replace BK297 := xbb (g := gb297) (o := .cells #[.int .u16 t288, .int .u16 t289, .int .u16 t290, .int .u16 t291, .int .u16 t292, .int .u16 t293, .int .u16 t294, .int .u16 t295] 27 (0, 0)) hb; replace BK303 := xbb (g := gb303) (o := .cells #[.int .i64 t298, .int .i64 t299, .int .i64 t300, .int .i64 t301] 30 (0, 0)) hb; replace BK313 := xbb (g := gb313) (o := .cells #[.int .i64 t304, .int .i64 t305, .int .i64 t306, .int .i64 t307, .int .i64 t308, .int .i64 t309, .int .i64 t310, .int .i64 t311] 33 (0, 0)) hb; replace HB := xst hb; (try clear hb)) | (go_at_call 13; (with_reducible refine (monikerref19_Future.calls k2 a0 t315 _ A226.out).mono ?_); rintro e w' ⟨rfl, ⟨nd, rfl⟩⟩; (try first | exact ⟨rfl, _, World.drewN_drewN _ _ _⟩ | exact ⟨rfl, _, Eq.trans (World.drewN_drewN _ _ _) (congrArg (World.drewN _) (Nat.add_assoc _ _ _))⟩))))
           go_ret
           exact ⟨xre, xbl⟩
         ·
          rw [if_neg c224] at H
          have c224b0 : (t296 == t312) = false := by simpa using c224
          (try (have c224b1 : decide (t296 = t312) = false := by simpa using c224))
          (try (have c224b2 : (t296 == t312) = false := by simpa using c224))
          (try (have c224b3 : ¬ (t296 = t312) := by simpa using c224))
          clear c224
          obtain rfl := Option.some.inj H
          go_wp2
          repeat (go_quiet (fail); try go_wp2)
          go_ret
          exact ⟨xre, xbl⟩
        ·
         rw [if_neg c223] at H
         have c223b0 : (t286 == t302) = false := by simpa using c223
         (try (have c223b1 : decide (t286 = t302) = false := by simpa using c223))
         (try (have c223b2 : (t286 == t302) = false := by simpa using c223))
         (try (have c223b3 : ¬ (t286 = t302) := by simpa using c223))
         clear c223
         obtain rfl := Option.some.inj H
         go_wp2
         repeat (go_quiet (fail); try go_wp2)
         go_ret
         exact ⟨xre, xbl⟩
def monikerlaw19_IpReads.Pure : Prop := ∀ (a0 : ByteArray), a0.size ≤ 140737488351232 → ∃ k, monikerlaw19_IpReads.f k a0 = some true
end Go.Proofs.YticohlbfolnmpaaDoor.X
namespace Go.Proofs.YticohlbfolnmpaaDoor.M
open Go Go.RowKit Go.Proofs.YticohlbfolnmpaaDoorW.PrintWords
theorem w64 {x : Int} (h1 : -9223372036854775808 ≤ x) (h2 : x ≤ 9223372036854775807) : wrap64 x = x := by unfold wrap64; omega
theorem toList_data (s : ByteArray) : s.toList = s.data.toList := ByteArray.toList_eq s
theorem bytes_inj {a b : ByteArray} (h : bytesOf a = bytesOf b) : a = b := by
  unfold bytesOf at h
  have : a.data.toList = b.data.toList := by
    apply List.map_inj_right (f := fun b : UInt8 => (b.toNat : Int)) _ |>.1 h
    intro x y hxy
    exact UInt8.toNat_inj.1 (by omega)
  cases a; cases b
  simp only [ByteArray.mk.injEq]
  exact Array.toList_inj.1 this
theorem toList_iff {a b : ByteArray} : a.toList = b.toList ↔ bytesOf a = bytesOf b := by
  rw [toList_data, toList_data]
  exact ⟨fun h => by unfold bytesOf; rw [h], fun h => by rw [bytes_inj h]⟩
theorem bytes_append (a b : ByteArray) : bytesOf (a ++ b) = bytesOf a ++ bytesOf b := by
  unfold bytesOf
  rw [ByteArray.data_append, Array.toList_append, List.map_append]
theorem bytes_extract (a : ByteArray) (i j : Nat) : bytesOf (a.extract i j) = ((bytesOf a).take j).drop i := by
  unfold bytesOf
  rw [ByteArray.data_extract, Array.toList_extract, List.extract_eq_take_drop, List.map_take, List.map_drop, List.drop_take]
theorem bytes_range {s : ByteArray} {x : Int} (h : x ∈ bytesOf s) : 0 ≤ x ∧ x ≤ 255 := by
  unfold bytesOf at h
  obtain ⟨b, _, rfl⟩ := List.mem_map.1 h
  have := b.toNat_lt
  omega
theorem bytes_len (s : ByteArray) : (bytesOf s).length = s.size := bytesOf_length s
theorem bt_getD (s : ByteArray) (i : Nat) : bt s (i : Int) = (bytesOf s).getD i 0 := by
  rw [← rd_bytesOf]; unfold rd; simp
theorem bt_rng (s : ByteArray) (i : Int) : 0 ≤ bt s i ∧ bt s i ≤ 255 := bt_range s i
theorem Ev.bind' {α β : Type} {g : Nat → Option α} {f : Nat → α → Option β} {a : α} {r : β} (h : Ev g a) (k : Ev (fun n => f n a) r) : Ev (fun n => (g n).bind fun t => f n t) r := Ev.bind h k
theorem Ev.pure_bind {α β : Type} {o : Option α} {f : Nat → α → Option β} {a : α} {r : β} (h : o = some a) (k : Ev (fun n => f n a) r) : Ev (fun n => o.bind fun t => f n t) r := by
  subst h; exact k
theorem Ev.ite_pos {α : Type} {c : Prop} [Decidable c] {g f : Nat → Option α} {r : α} (h : c) (k : Ev g r) : Ev (fun n => if c then g n else f n) r := by
  simp only [if_pos h]; exact k
theorem Ev.ite_neg {α : Type} {c : Prop} [Decidable c] {g f : Nat → Option α} {r : α} (h : ¬ c) (k : Ev f r) : Ev (fun n => if c then g n else f n) r := by
  simp only [if_neg h]; exact k
theorem Ev.ite {α : Type} {c : Prop} [Decidable c] {g f : Nat → Option α} {r : α} (h : c → Ev g r) (k : ¬ c → Ev f r) : Ev (fun n => if c then g n else f n) r := by
  by_cases hc : c
  · exact Ev.ite_pos hc (h hc)
  · exact Ev.ite_neg hc (k hc)
theorem Ev.val {α : Type} {a r : α} (h : a = r) : Ev (fun _ => some a) r := by subst h; exact Ev.now _
def idx (c : Int) : List Int → Int
  | [] => -1
  | b :: t => if b = c then 0 else if idx c t = -1 then -1 else idx c t + 1
theorem idx_ge (c : Int) (l : List Int) : -1 ≤ idx c l := by
  induction l with
  | nil => simp [idx]
  | cons b t ih => unfold idx; split <;> (try split) <;> omega
theorem idx_none {c : Int} {l : List Int} : idx c l = -1 ↔ c ∉ l := by
  induction l with
  | nil => simp [idx]
  | cons b t ih =>
    have := idx_ge c t
    unfold idx
    by_cases hb : b = c
    · simp [hb]
    · simp only [if_neg hb, List.mem_cons, not_or]
      by_cases h1 : idx c t = -1
      · simp [h1, ih.1 h1, Ne.symm hb]
      · rw [if_neg h1]
        constructor
        · intro h; omega
        · intro h; exact absurd (ih.2 h.2) h1
theorem idx_split {c : Int} {l : List Int} (h : 0 ≤ idx c l) : l = l.take (idx c l).toNat ++ c :: l.drop ((idx c l).toNat + 1) ∧ c ∉ l.take (idx c l).toNat := by
  induction l with
  | nil => simp [idx] at h
  | cons b t ih =>
    unfold idx at h ⊢
    by_cases hb : b = c
    · simp [hb]
    · rw [if_neg hb] at h ⊢
      by_cases h1 : idx c t = -1
      · rw [if_pos h1] at h; omega
      · have hg := idx_ge c t
        rw [if_neg h1]
        obtain ⟨e1, e2⟩ := ih (by omega)
        have e : (idx c t + 1).toNat = (idx c t).toNat + 1 := by omega
        rw [e, List.take_succ_cons, List.drop_succ_cons, List.cons_append]
        refine ⟨by rw [← e1], ?_⟩
        rw [List.mem_cons, not_or]
        exact ⟨Ne.symm hb, e2⟩
end Go.Proofs.YticohlbfolnmpaaDoor.M
namespace Go.Proofs.YticohlbfolnmpaaDoor.M
open Go Go.RowKit Go.Proofs.YticohlbfolnmpaaDoorW.PrintWords
theorem byte_all {p : Int → Prop} (h : ∀ n : Fin 256, p ((n.val : Nat) : Int)) {b : Int} (h0 : 0 ≤ b) (h1 : b ≤ 255) : p b := by
  have := h ⟨b.toNat, by omega⟩
  simp only at this
  rwa [Int.toNat_of_nonneg h0] at this
def alpha (b : Int) : Bool := decide (65 ≤ b ∧ b ≤ 90 ∨ 97 ≤ b ∧ b ≤ 122)
def digit (b : Int) : Bool := decide (48 ≤ b ∧ b ≤ 57)
def hexd (b : Int) : Bool := decide (48 ≤ b ∧ b ≤ 57 ∨ 65 ≤ b ∧ b ≤ 70 ∨ 97 ≤ b ∧ b ≤ 102)
def markc (b : Int) : Bool := decide (b = 45 ∨ b = 46 ∨ b = 95 ∨ b = 126)
def subc (b : Int) : Bool := decide (b = 33 ∨ b = 36 ∨ 38 ≤ b ∧ b ≤ 44 ∨ b = 59 ∨ b = 61)
def genc (b : Int) : Bool := decide (b = 58 ∨ b = 47 ∨ b = 63 ∨ b = 35 ∨ b = 91 ∨ b = 93 ∨ b = 64)
def cls (b : Int) : Int := (if alpha b then 1 else 0) + (if digit b then 2 else 0) + (if markc b then 4 else 0) + (if subc b then 8 else 0) + (if genc b then 16 else 0) + (if hexd b then 32 else 0)
def plainc (b : Int) : Bool := alpha b || digit b || markc b || subc b
def isc (b c : Int) : Bool := Go.bits .and .i64 (cls b) c != 0
theorem isc_digit {b : Int} (h0 : 0 ≤ b) (h1 : b ≤ 255) : isc b 2 = digit b :=
  byte_all (p := fun b => isc b 2 = digit b) (by decide +kernel) h0 h1
theorem isc_plain {b : Int} (h0 : 0 ≤ b) (h1 : b ≤ 255) : isc b 15 = plainc b :=
  byte_all (p := fun b => isc b 15 = plainc b) (by decide +kernel) h0 h1
theorem isc_hex {b : Int} (h0 : 0 ≤ b) (h1 : b ≤ 255) : isc b 32 = hexd b :=
  byte_all (p := fun b => isc b 32 = hexd b) (by decide +kernel) h0 h1
theorem isc_zero {b c : Int} : Go.bits .and .i64 (cls b) c = 0 ↔ isc b c = false := by unfold isc; simp
def hv (b : Int) : Int := if 48 ≤ b ∧ b ≤ 57 then b - 48 else if 65 ≤ b ∧ b ≤ 70 then b - 55 else if 97 ≤ b ∧ b ≤ 102 then b - 87 else -1
theorem hv_range (b : Int) : -1 ≤ hv b ∧ hv b ≤ 15 := by unfold hv; (repeat' split) <;> omega
theorem hv_hexd (b : Int) : (0 ≤ hv b) ↔ hexd b = true := by
  unfold hv hexd
  rw [decide_eq_true_iff]
  (repeat' split) <;> omega
theorem hv_neg (b : Int) : (hv b < 0) ↔ hexd b = false := by
  have h1 := hv_hexd b
  rw [← Bool.not_eq_true, ← h1]
  omega
def spanp (p : Int → Bool) : List Int → Nat
  | [] => 0
  | b :: t => if p b then spanp p t + 1 else 0
theorem spanp_le (p : Int → Bool) (l : List Int) : spanp p l ≤ l.length := by
  induction l with
  | nil => simp [spanp]
  | cons b t ih => unfold spanp; rw [List.length_cons]; split <;> omega
end Go.Proofs.YticohlbfolnmpaaDoor.M
namespace Go.Proofs.YticohlbfolnmpaaDoor.M
open Go Go.RowKit Go.Proofs.YticohlbfolnmpaaDoorW.PrintWords
set_option linter.unusedVariables false
def sidx (sub : List Int) : List Int → Int
  | [] => if sub = [] then 0 else -1
  | b :: t => if sub.isPrefixOf (b :: t) then 0 else if sidx sub t = -1 then -1 else sidx sub t + 1
theorem sidx_cons (sub : List Int) (b : Int) (t : List Int) : sidx sub (b :: t) = if sub.isPrefixOf (b :: t) then 0 else if sidx sub t = -1 then -1 else sidx sub t + 1 := rfl
theorem sidx_ge (sub l : List Int) : -1 ≤ sidx sub l := by
  induction l with
  | nil => unfold sidx; split <;> omega
  | cons b t ih => rw [sidx_cons]; split <;> (try split) <;> omega
theorem prefix_map (a l : List UInt8) : (a.map fun b => (b.toNat : Int)).isPrefixOf (l.map fun b => (b.toNat : Int)) = a.isPrefixOf l := by
  induction a generalizing l with
  | nil => rfl
  | cons x t ih =>
    cases l with
    | nil => rfl
    | cons y r =>
      rw [List.map_cons, List.map_cons, List.isPrefixOf_cons_cons, List.isPrefixOf_cons_cons, ih]
      congr 1
      rw [Bool.eq_iff_iff, beq_iff_eq, beq_iff_eq]
      constructor
      · intro h; exact UInt8.toNat_inj.1 (by omega)
      · intro h; rw [h]
theorem index_sidx (l sub : List UInt8) : Go.Lib.index l sub = sidx (sub.map fun b => (b.toNat : Int)) (l.map fun b => (b.toNat : Int)) := by
  induction l with
  | nil =>
    unfold Go.Lib.index
    rw [List.map_nil]
    unfold sidx
    cases sub <;> simp
  | cons b t ih =>
    unfold Go.Lib.index
    have hp := prefix_map sub (b :: t)
    rw [List.map_cons] at hp ⊢
    rw [sidx_cons, hp, ih]
    by_cases h : sub.isPrefixOf (b :: t) = true
    · rw [if_pos h, if_pos h]
    · rw [if_neg h, if_neg h]
      simp only [beq_iff_eq]
theorem indexB_sidx (s sub : ByteArray) : Go.Lib.indexB s sub = sidx (bytesOf sub) (bytesOf s) := index_sidx _ _
theorem sidx_one (c : Int) (l : List Int) : sidx [c] l = idx c l := by
  induction l with
  | nil => unfold sidx idx; simp
  | cons b t ih =>
    rw [sidx_cons, ih]
    have : idx c (b :: t) = if b = c then 0 else if idx c t = -1 then -1 else idx c t + 1 := rfl
    rw [this]
    by_cases h : b = c
    · rw [if_pos h, if_pos (by simp [h])]
    · rw [if_neg h, if_neg (by simp; exact fun x => h x.symm)]
theorem sidx_split {sub l : List Int} (h : 0 ≤ sidx sub l) : (sidx sub l).toNat + sub.length ≤ l.length ∧ (l.drop (sidx sub l).toNat).take sub.length = sub := by
  induction l with
  | nil =>
    unfold sidx at h ⊢
    by_cases hs : sub = []
    · subst hs; simp
    · rw [if_neg hs] at h; omega
  | cons b t ih =>
    rw [sidx_cons] at h ⊢
    by_cases hp : sub.isPrefixOf (b :: t) = true
    · rw [if_pos hp]
      have := List.isPrefixOf_iff_prefix.1 hp
      refine ⟨?_, ?_⟩
      · have := this.length_le; simpa using this
      · simpa using (List.prefix_iff_eq_take.1 this).symm
    · rw [if_neg hp] at h ⊢
      by_cases h1 : sidx sub t = -1
      · rw [if_pos h1] at h; omega
      · have hg := sidx_ge sub t
        rw [if_neg h1]
        have := ih (by omega)
        have e : (sidx sub t + 1).toNat = (sidx sub t).toNat + 1 := by omega
        rw [e, List.drop_succ_cons, List.length_cons]
        exact ⟨by omega, this.2⟩
def splitC (c : Int) : List Int → List (List Int)
  | [] => [[]]
  | b :: t => if b = c then [] :: splitC c t else (b :: (splitC c t).headD []) :: (splitC c t).tail
theorem splitC_cons (c b : Int) (t : List Int) : splitC c (b :: t) = if b = c then [] :: splitC c t else (b :: (splitC c t).headD []) :: (splitC c t).tail := rfl
theorem splitC_ne (c : Int) (l : List Int) : splitC c l ≠ [] := by
  cases l with
  | nil => simp [splitC]
  | cons b t => rw [splitC_cons]; split <;> simp
theorem splitC_head (c : Int) (l : List Int) : splitC c l = (splitC c l).headD [] :: (splitC c l).tail := by
  cases h : splitC c l with
  | nil => exact absurd h (splitC_ne c l)
  | cons a r => rfl
theorem splitC_none {c : Int} {l : List Int} (h : c ∉ l) : splitC c l = [l] := by
  induction l with
  | nil => rfl
  | cons b t ih =>
    rw [List.mem_cons, not_or] at h
    rw [splitC_cons, if_neg (fun x => h.1 x.symm), ih h.2]; rfl
theorem splitC_at {c : Int} {a : List Int} (h : c ∉ a) (r : List Int) : splitC c (a ++ c :: r) = a :: splitC c r := by
  induction a with
  | nil => rw [List.nil_append, splitC_cons, if_pos rfl]
  | cons b t ih =>
    rw [List.mem_cons, not_or] at h
    rw [List.cons_append, splitC_cons, if_neg (fun x => h.1 x.symm), ih h.2]; rfl
theorem splitC_len (c : Int) (l : List Int) : (splitC c l).length ≤ l.length + 1 := by
  induction l with
  | nil => simp [splitC]
  | cons b t ih =>
    rw [splitC_cons]
    split
    · simp; omega
    · simp only [List.length_cons, List.length_tail]; omega
theorem splitC_mem {c : Int} {l : List Int} : ∀ p ∈ splitC c l, c ∉ p ∧ (∀ b ∈ p, b ∈ l) ∧ p.length ≤ l.length := by
  induction l with
  | nil => intro p hp; simp [splitC] at hp; subst hp; simp
  | cons b t ih =>
    intro p hp
    rw [splitC_cons] at hp
    by_cases h : b = c
    · rw [if_pos h] at hp
      rcases List.mem_cons.1 hp with rfl | hp
      · simp
      · obtain ⟨h1, h2, h3⟩ := ih p hp
        exact ⟨h1, fun x hx => List.mem_cons_of_mem _ (h2 x hx), by rw [List.length_cons]; omega⟩
    · rw [if_neg h] at hp
      rcases List.mem_cons.1 hp with rfl | hp
      · obtain ⟨h1, h2, h3⟩ := ih ((splitC c t).headD []) (by rw [splitC_head c t]; simp)
        refine ⟨?_, ?_, by simp only [List.length_cons]; omega⟩
        · rw [List.mem_cons, not_or]; exact ⟨fun x => h x.symm, h1⟩
        · intro x hx
          rcases List.mem_cons.1 hx with rfl | hx
          · exact List.mem_cons_self ..
          · exact List.mem_cons_of_mem _ (h2 x hx)
      · obtain ⟨h1, h2, h3⟩ := ih p (List.mem_of_mem_tail hp)
        exact ⟨h1, fun x hx => List.mem_cons_of_mem _ (h2 x hx), by rw [List.length_cons]; omega⟩
theorem splitB_splitC (c : Int) (sep : ByteArray) (hsep : bytesOf sep = [c]) : ∀ (k : Nat) (s : ByteArray), Go.Lib.countB s sep = k → (Go.Lib.splitB sep 0 k s).map bytesOf = splitC c (bytesOf s) := by
  have h1 : sep.size = 1 := by rw [← bytes_len, hsep]; rfl
  intro k
  induction k with
  | zero =>
    intro s hk
    rcases Go.Lib.indexB_cases s sep with hix | ⟨i, hix, hr⟩
    · rw [Go.Lib.splitB_zero, List.map_cons, List.map_nil]
      rw [indexB_sidx, hsep, sidx_one] at hix
      rw [splitC_none (idx_none.1 hix)]
    · have := Go.Lib.countB_hit s sep i (by omega) hix; omega
  | succ k ih =>
    intro s hk
    rcases Go.Lib.indexB_cases s sep with hix | ⟨i, hix, hr⟩
    · rw [Go.Lib.countB_miss s sep hix] at hk; omega
    · have hc := Go.Lib.countB_hit s sep i (by omega) hix
      rw [Go.Lib.splitB_hit sep 0 k s i hix, List.map_cons, ih _ (by omega)]
      rw [indexB_sidx, hsep, sidx_one] at hix
      obtain ⟨e1, e2⟩ := idx_split (c := c) (l := bytesOf s) (by omega)
      rw [hix, Int.toNat_natCast] at e1 e2
      conv => rhs; rw [e1]
      rw [splitC_at e2, bytes_extract, bytes_extract, h1, List.drop_zero, Nat.add_zero]
      rw [← bytes_len, List.take_length]
end Go.Proofs.YticohlbfolnmpaaDoor.M
namespace Go.Proofs.YticohlbfolnmpaaDoor.M
open Go Go.RowKit Go.Proofs.YticohlbfolnmpaaDoorW.PrintWords
end Go.Proofs.YticohlbfolnmpaaDoor.M
namespace Go.Proofs.YticohlbfolnmpaaDoor.M
open Go Go.RowKit Go.Proofs.YticohlbfolnmpaaDoorW.PrintWords
set_option linter.unusedVariables false
def place (p : Int) : Bool := decide (1 ≤ p ∧ p ≤ 7)
def extraIn (p b : Int) : Bool :=
  if p = 1 then b == 58 else if p = 3 then b == 58 || b == 64 else if p = 4 then b == 64 else if p = 5 then b == 58 || b == 64 || b == 47
  else if p = 6 ∨ p = 7 then b == 58 || b == 64 || b == 47 || b == 63 else false
def plainAt (p b : Int) : Bool := place p && (plainc b || extraIn p b)
end Go.Proofs.YticohlbfolnmpaaDoor.M
