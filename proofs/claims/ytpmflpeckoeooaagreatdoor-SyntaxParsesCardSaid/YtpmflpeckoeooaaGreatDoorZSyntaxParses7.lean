/- Texts that the law's proof needs, joined by a program of this session. -/
import Derived.Test.YtpmflpeckoeooaaGreatDoorZSyntaxParses1
import Derived.Test.YtpmflpeckoeooaaGreatDoorZSyntaxParses2
import Derived.Test.YtpmflpeckoeooaaGreatDoorZSyntaxParses6
set_option maxHeartbeats 8000000
set_option maxRecDepth 100000
set_option linter.unusedSimpArgs false
set_option linter.unusedVariables false
namespace Go.Proofs.YtpmflpeckoeooaaGreatDoor.X
open Go.RowKit Go.Proofs.YtpmflpeckoeooaaGreatDoorW.PrintWords Go.Proofs.YtpmflpeckoeooaaGreatDoorW.PrintLast Go.Proofs.YtpmflpeckoeooaaGreatDoorW.PrintMore
attribute [local go_sem] ez ea gJ iY dq ir cv ia ic iU iV gz gA ib ie
def bG (k : Nat)  : Option (Bool) := (eQ k (⟨#[97, 58, 98]⟩ : ByteArray)).bind fun t519 => (if t519 = 62 then ((eQ k (⟨#[98]⟩ : ByteArray)).bind fun t520 => (if t520 = 36 then ((eQ k (⟨#[47, 47, 91, 58, 58, 49, 93, 47, 120, 63, 121, 35, 122]⟩ : ByteArray)).bind fun t521 => (if t521 = 36 then ((dn k 3 (⟨#[97, 58, 98, 35, 99]⟩ : ByteArray)).bind fun t522 => (if t522 = true then (some false) else ((eQ k (⟨#[49, 58, 120]⟩ : ByteArray)).bind fun t523 => (some (t523 == 0))))) else (some false))) else (some false))) else (some false))
theorem my : ∀ k, LeO (bG k ) (bG (k + 1) ) := by
  intro  k
  have m0 := @jm; have m1 := @oB
  unfold bG
  exact xmo
theorem es (k : Nat)  (r : Bool) (w : World) (hG : GW w) (h : bG k  = some r) :
    Calls Tryz.prog 6 #[] w fun e w' => e = .returned (.bool r) ∧ Below w.heap.size w w' := by
 have HB := Zz.mk (Below.refl w.heap.size w)
 have H := h
 clear h
 unfold bG at H
 replace H := xbd H
 obtain ⟨Ag, A1, H⟩ := H
 try dsimp only at H
 refine xid H ?_ ?_ <;> clear H <;> intro c2 H
 {
 obtain ⟨Aa, Ab⟩ := xqe c2
 clear c2
 replace H := xbd H
 obtain ⟨Ah, A3, H⟩ := H
 try dsimp only at H
 refine xid H ?_ ?_ <;> clear H <;> intro c4 H
 {
 obtain ⟨Ac, Ad⟩ := xqe c4
 clear c4
 replace H := xbd H
 obtain ⟨Ai, A5, H⟩ := H
 try dsimp only at H
 refine xid H ?_ ?_ <;> clear H <;> intro c6 H
 {
 obtain ⟨Ae, Af⟩ := xqe c6
 clear c6
 replace H := xbd H
 obtain ⟨Aj, A7, H⟩ := H
 try dsimp only at H
 refine xib H ?_ ?_ <;> clear H <;> rintro rfl H
 {
 obtain rfl := Option.some.inj H
 go_enter Tryz.func6, Tryz.ntmps6
 go_wp2_with (first | ((with_reducible refine xgc (f := 11) rfl ?_); refine xca 1 Tryz.func11 (bx (w := _) (hG := xG) (h := A1.out)) ?_; rintro w9 hb; replace HB := xst hb; (try clear hb)) | (go_at_call 11; (with_reducible refine (bx (w := _) (hG := xG) (h := A3.out)).mono ?_); rintro e w10 ⟨rfl, hb⟩; replace HB := xst hb; (try clear hb)) | (go_at_call 11; (with_reducible refine (bx (w := _) (hG := xG) (h := A5.out)).mono ?_); rintro e w11 ⟨rfl, hb⟩; replace HB := xst hb; (try clear hb)) | (go_at_call 14; (with_reducible refine (dh (w := _) (hG := xG) (h := A7.out)).mono ?_); rintro e w12 ⟨rfl, hb⟩; replace HB := xst hb; (try clear hb)))
 go_ret
 exact ⟨xre, xbl⟩
 }
 replace H := xbd H
 obtain ⟨Ak, A13, H⟩ := H
 try dsimp only at H
 obtain rfl := Option.some.inj H
 go_enter Tryz.func6, Tryz.ntmps6
 go_wp2_with (first | ((with_reducible refine xgc (f := 11) rfl ?_); refine xca 1 Tryz.func11 (bx (w := _) (hG := xG) (h := A1.out)) ?_; rintro w14 hb; replace HB := xst hb; (try clear hb)) | (go_at_call 11; (with_reducible refine (bx (w := _) (hG := xG) (h := A3.out)).mono ?_); rintro e w15 ⟨rfl, hb⟩; replace HB := xst hb; (try clear hb)) | (go_at_call 11; (with_reducible refine (bx (w := _) (hG := xG) (h := A5.out)).mono ?_); rintro e w16 ⟨rfl, hb⟩; replace HB := xst hb; (try clear hb)) | (go_at_call 14; (with_reducible refine (dh (w := _) (hG := xG) (h := A7.out)).mono ?_); rintro e w17 ⟨rfl, hb⟩; replace HB := xst hb; (try clear hb)) | (go_at_call 11; (with_reducible refine (bx (w := _) (hG := xG) (h := A13.out)).mono ?_); rintro e w18 ⟨rfl, hb⟩; replace HB := xst hb; (try clear hb)))
 go_ret
 exact ⟨xre, xbl⟩
 }
 obtain ⟨Ae, Af⟩ := xqn c6
 obtain rfl := Option.some.inj H
 go_enter Tryz.func6, Tryz.ntmps6
 go_wp2_with (first | ((with_reducible refine xgc (f := 11) rfl ?_); refine xca 1 Tryz.func11 (bx (w := _) (hG := xG) (h := A1.out)) ?_; rintro w19 hb; replace HB := xst hb; (try clear hb)) | (go_at_call 11; (with_reducible refine (bx (w := _) (hG := xG) (h := A3.out)).mono ?_); rintro e w20 ⟨rfl, hb⟩; replace HB := xst hb; (try clear hb)) | (go_at_call 11; (with_reducible refine (bx (w := _) (hG := xG) (h := A5.out)).mono ?_); rintro e w21 ⟨rfl, hb⟩; replace HB := xst hb; (try clear hb)))
 go_ret
 exact ⟨xre, xbl⟩
 }
 obtain ⟨Ac, Ad⟩ := xqn c4
 obtain rfl := Option.some.inj H
 go_enter Tryz.func6, Tryz.ntmps6
 go_wp2_with (first | ((with_reducible refine xgc (f := 11) rfl ?_); refine xca 1 Tryz.func11 (bx (w := _) (hG := xG) (h := A1.out)) ?_; rintro w22 hb; replace HB := xst hb; (try clear hb)) | (go_at_call 11; (with_reducible refine (bx (w := _) (hG := xG) (h := A3.out)).mono ?_); rintro e w23 ⟨rfl, hb⟩; replace HB := xst hb; (try clear hb)))
 go_ret
 exact ⟨xre, xbl⟩
 }
 obtain ⟨Aa, Ab⟩ := xqn c2
 obtain rfl := Option.some.inj H
 go_enter Tryz.func6, Tryz.ntmps6
 go_wp2_with (first | ((with_reducible refine xgc (f := 11) rfl ?_); refine xca 1 Tryz.func11 (bx (w := _) (hG := xG) (h := A1.out)) ?_; rintro w24 hb; replace HB := xst hb; (try clear hb)))
 go_ret
 exact ⟨xre, xbl⟩
def monikerref02_row_nums : List Int := [0, 127, 0, 0, 1, 194, 223, 128, 191, 2, 224, 224, 160, 191, 3, 225, 236, 128, 191, 3, 237, 237, 128, 159, 3, 238, 239, 128, 191, 3, 240, 240, 144, 191, 4, 241, 243, 128, 191, 4, 244, 244, 128, 143, 4]
def fg : Array Value := (monikerref02_row_nums.map (Value.int .i64)).toArray
def j6 : Array Value := #[.int .i64 0, .int .i64 0, .int .i64 0, .int .i64 0, .int .i64 0]
def ai (i j : Nat) : Int := monikerref02_row_nums.getD (i * 5 + j) 0
theorem fC {w : World} {g : Nat} (h : w.heap[g]? = some (.cells fg 71 (0, 0))) (i j : Nat) (hi : i < 9) (hj : j < 5) : w.cell? ⟨g, i * 5 + j, none⟩ = some (.int .i64 (ai i j)) := by
  rw [cell_of_row w g _ _ _ _ h]
  unfold fg ai
  have hl : i * 5 + j < monikerref02_row_nums.length := by show i * 5 + j < 45; omega
  simp [List.getElem?_eq_getElem hl, List.getD_eq_getElem?_getD]
theorem iO (w : World) (g i : Nat) (cs : Array Value) (h : i ≠ g) : (w.setRow g cs).heap[i]? = w.heap[i]? := by
  simp only [World.setRow, Array.getElem?_modify, if_neg (Ne.symm h)]
theorem mU {b : Nat} {w w2 : World} (h : Below b w w2) {g : Nat} (hg : b ≤ g) (cs : Array Value) : Below b w (w2.setRow g cs) :=
  h.trans ⟨rfl, rfl, rfl, by simp, fun k hk => iO _ _ _ _ (by omega)⟩
theorem nF (w : World) (a b c : Array Value) (s t : TypeId) :
    let w2 := ((w.alloc (.cells a s)).alloc (.cells b t)).setRow (w.heap.size + 1) c
    w2.heap[w.heap.size]? = some (.cells a s (0, 0)) ∧ w2.heap[w.heap.size + 1]? = some (.cells c t (0, 0)) ∧ Below w.heap.size w w2 := by
  intro w2
  refine ⟨?_, setRow_heap _ _ _ _ _ _ (heap_alloc2_new w _ _), ?_⟩
  · rw [iO _ _ _ _ (by omega)]
    exact heap_alloc2_old w _ _
  · exact mU (((Below.refl _ _).alloc (Nat.le_refl _) _).alloc (by simp) _) (by omega) _
set_option maxHeartbeats 2000000 in
theorem nE (i : Nat) (hi : i < 9) (w : World) : Calls Tryz.prog 32 #[.int .i64 i] w fun e w' => e = .returned (.agg #[.int .i64 (ai i 0), .int .i64 (ai i 1), .int .i64 (ai i 2), .int .i64 (ai i 3), .int .i64 (ai i 4)]) ∧ Below w.heap.size w w' := by
  have hu5 := Tryz.underlying55
  have hu9 := Tryz.underlying71
  go_enter Tryz.func32, Tryz.ntmps32
  go_wp2_with (refine wpList_store_row rfl 71 (.tmp 3) (.tmp 13) rfl (w.heap.size + 1) fg (by as_aux_lemma => rfl) (by as_aux_lemma => rfl) 71 (Array.replicate 45 (.int .i64 0)) (by as_aux_lemma => exact heap_alloc2_new _ _ _) (by as_aux_lemma => kernel_rfl) (by as_aux_lemma => kernel_rfl) (by as_aux_lemma => kernel_rfl) ?_; have h2 := nF w j6 (Array.replicate 45 (.int .i64 0)) fg 55 71; generalize hg : World.setRow _ _ _ = w2; have h3 : w2.heap[w.heap.size]? = some (.cells j6 55 (0, 0)) ∧ w2.heap[w.heap.size + 1]? = some (.cells fg 71 (0, 0)) ∧ Below w.heap.size w w2 := hg ▸ h2; clear hg h2; obtain ⟨b1, b2, b3⟩ := h3; have hB1 := Zz.mk b1; have hB2 := Zz.mk b2; have hB3 := Zz.mk b3; have c0 : w2.cell? ⟨w.heap.size + 1, i * 5, none⟩ = some (.int .i64 (ai i 0)) := fC b2 i 0 hi (by omega); have c1 := fC b2 i 1 hi (by omega); have c2 := fC b2 i 2 hi (by omega); have c3 := fC b2 i 3 hi (by omega); have c4 := fC b2 i 4 hi (by omega); clear b1 b2 b3; have z0 : w2.cell? ⟨w.heap.size, 0, none⟩ = some (.int .i64 0) := (ao hB1.out 0).trans rfl; have z1 : w2.cell? ⟨w.heap.size, 1, none⟩ = some (.int .i64 0) := (ao hB1.out 1).trans rfl; have z2 : w2.cell? ⟨w.heap.size, 2, none⟩ = some (.int .i64 0) := (ao hB1.out 2).trans rfl; have z3 : w2.cell? ⟨w.heap.size, 3, none⟩ = some (.int .i64 0) := (ao hB1.out 3).trans rfl; have z4 : w2.cell? ⟨w.heap.size, 4, none⟩ = some (.int .i64 0) := (ao hB1.out 4).trans rfl; have f0 := xf hB1 0; have f1 := xf hB1 1; have f2 := xf hB1 2; have f3 := xf hB1 3; have f4 := xf hB1 4; generalize hg : w.heap.size = g at *; have hG := Zz.mk hg; clear hg)
  refine bodyPost_ret (results_cell_row rfl _ _ g 55 #[.int .i64 (ai i 0), .int .i64 (ai i 1), .int .i64 (ai i 2), .int .i64 (ai i 3), .int .i64 (ai i 4)] (0, 0) _ rfl (by refine bb (cs := #[.int .i64 (ai i 0), .int .i64 (ai i 1), .int .i64 (ai i 2), .int .i64 (ai i 3), .int .i64 0]) ?_ 4 _ rfl; refine bb (cs := #[.int .i64 (ai i 0), .int .i64 (ai i 1), .int .i64 (ai i 2), .int .i64 0, .int .i64 0]) ?_ 3 _ rfl; refine bb (cs := #[.int .i64 (ai i 0), .int .i64 (ai i 1), .int .i64 0, .int .i64 0, .int .i64 0]) ?_ 2 _ rfl; refine bb (cs := #[.int .i64 (ai i 0), .int .i64 0, .int .i64 0, .int .i64 0, .int .i64 0]) ?_ 1 _ rfl; refine bb (cs := #[.int .i64 0, .int .i64 0, .int .i64 0, .int .i64 0, .int .i64 0]) ?_ 0 _ rfl; exact hB1.out) Tryz.underlying55 rfl (by kernel_rfl)) rfl ⟨rfl, ?_⟩
  have hB4 : Below w.heap.size w w2 := by rw [hG.out]; exact hB3.out
  repeat (first | exact hB4 | refine iC ?_ (Nat.le_of_eq hG.out))
def gB (a0 : Int) : Option (Int × Int × Int × Int × Int) := if 0 ≤ a0 ∧ a0 < 9 then some (ai a0.toNat 0, ai a0.toNat 1, ai a0.toNat 2, ai a0.toNat 3, ai a0.toNat 4) else none
theorem j5 (a0 : Int) (r1 : Int) (r2 : Int) (r3 : Int) (r4 : Int) (r5 : Int) (w : World) (h : gB a0 = some (r1, r2, r3, r4, r5)) :
    Calls Tryz.prog 32 #[.int .i64 a0] w fun e w' => e = .returned (.agg #[.int .i64 r1, .int .i64 r2, .int .i64 r3, .int .i64 r4, .int .i64 r5]) ∧ Below w.heap.size w w' := by
 unfold gB at h
 by_cases hc : 0 ≤ a0 ∧ a0 < 9
 · rw [if_pos hc] at h
   simp only [Option.some.injEq, Prod.mk.injEq] at h
   obtain ⟨rfl, rfl, rfl, rfl, rfl⟩ := h
   have := nE a0.toNat (by omega) w
   rw [Int.toNat_of_nonneg hc.1] at this
   exact this
 · rw [if_neg hc] at h; cases h
mutual
def bK : Nat → ByteArray → Int → Int → Int → Int → Int → Int → Option (Int)
  | 0, _, _, _, _, _, _, _ => none
  | k + 1, x0, x5, Ab, Ac, Ad, Ae, Aa => if x5 < (x0.size : Int) then (bJ k x0 x5 (decide (x5 < Aa)) Ab Ac Ad Ae Aa) else (bJ k x0 x5 false Ab Ac Ad Ae Aa)
def bJ : Nat → ByteArray → Int → Bool → Int → Int → Int → Int → Int → Option (Int)
  | 0, _, _, _, _, _, _, _, _ => none
  | k + 1, x0, x5, Af, Aa, Ab, Ac, Ad, Ae => if Af = true then (if x5 = 0 then (dS k x0 x5 Aa Ab Aa Ab Ac Ad Ae) else (dS k x0 x5 128 191 Aa Ab Ac Ad Ae)) else (some x5)
def dS : Nat → ByteArray → Int → Int → Int → Int → Int → Int → Int → Int → Option (Int)
  | 0, _, _, _, _, _, _, _, _, _ => none
  | k + 1, x0, x5, x6, x7, Ac, Ad, Aa, Ab, Ae => if x5 = 1 then (if 0 ≤ x5 then (if x5 < (x0.size : Int) then (if (wrap64 (bt x0 x5)) < Aa then (some x5) else (if (wrap64 (bt x0 x5)) > Ab then (some x5) else (bK k x0 (wrap64 (x5 + 1)) Ac Ad Aa Ab Ae))) else (none)) else (none)) else (if 0 ≤ x5 then (if x5 < (x0.size : Int) then (if (wrap64 (bt x0 x5)) < x6 then (some x5) else (if (wrap64 (bt x0 x5)) > x7 then (some x5) else (bK k x0 (wrap64 (x5 + 1)) Ac Ad Aa Ab Ae))) else (none)) else (none))
end
def gc (k : Nat) (a0 : ByteArray) (a1_0 : Int) (a1_1 : Int) (a1_2 : Int) (a1_3 : Int) (a1_4 : Int) : Option (Int) := bK k a0 0 a1_0 a1_1 a1_2 a1_3 a1_4
theorem jP (k : Nat) (a0 : ByteArray) (Ac : Int) (Ad : Int) (Af : Int) (Ag : Int) (Ae : Int) (r : Int) (w : World) (h : gc k a0 Ac Ad Af Ag Ae = some r) :
    Calls Tryz.prog 33 #[.string a0, .agg #[.int .i64 Ac, .int .i64 Ad, .int .i64 Af, .int .i64 Ag, .int .i64 Ae]] w fun e w' => e = .returned (.int .i64 r) ∧ Below w.heap.size w w' := by
 have hu55 := Tryz.underlying55
 have HB := Zz.mk (Below.refl w.heap.size w)
 have H := h
 clear h
 unfold gc at H
 have H' := Zz.mk H
 clear H
 go_enter Tryz.func33, Tryz.ntmps33
 go_wp2_with (first | ((with_reducible refine aj (N := 3) rfl ?_); refine xew 3 ?_; intro Ah w3 Ab Aw hb hg; replace HB := xst hb; clear hb hg))
 go_loopg [5] k (fun kq v5 w' => ∃ Aa, v5 = .int .i64 Aa ∧ Zz (bK kq a0 Aa Ac Ad Af Ag Ae = some r) ∧ Zz (kq ≤ k) ∧ Zz (w'.heap[Ah]? = some (.cells #[.int .i64 Ac, .int .i64 Ad, .int .i64 Af, .int .i64 Ag, .int .i64 Ae] 55 (0, 0))) ∧ Zz (Below w.heap.size w w'))
 case atStart => exact ⟨(0), xrr, H', ⟨Nat.le_refl _⟩, ⟨xbk⟩, ⟨xbl⟩⟩
 case round => (
 clear H'
 obtain ⟨Aa, rfl, HA, HK1, Ab, HB⟩ := hrel
 cases gk with
 | zero => exact absurd HA.out (by simp [bK])
 | succ k1 => (
 have H := HA.out
 clear HA
 simp only [bK] at H
 have At := Zz.mk H
 clear H
 go_upto_region 2 with (fail)
 go_cut [17] (fun v17 wc => ∃ kq Ai, v17 = .bool Ai ∧ Zz (bJ kq a0 Aa Ai Ac Ad Af Ag Ae = some r) ∧ Zz (kq ≤ k1) ∧ Zz (wc.heap[Ah]? = some (.cells #[.int .i64 Ac, .int .i64 Ad, .int .i64 Af, .int .i64 Ag, .int .i64 Ae] 55 (0, 0))) ∧ Zz (Below w.heap.size w wc))
 case first => (
 have H := At.out
 clear At
 refine xid H ?_ ?_ <;> clear H <;> intro c5 H
 {
 have Aj := xdt c5
 clear c5
 (first | rw [Aj] | (simp only [ag, ak]; rw [Aj]) | skip)
 replace H := xa H
 have AF := xz5 Ab.out
 go_wp2
 go_meet
 case rel => exact ⟨_, (decide (Aa < Ae)), xrr, H, ⟨xoj HK1⟩, ⟨xbk⟩, ⟨xbl⟩⟩
 }
 have Aj := xdf c5
 clear c5
 (first | rw [Aj] | (simp only [ag, ak]; rw [Aj]) | skip)
 replace H := xa H
 go_wp2
 go_meet
 case rel => exact ⟨_, (false), xrr, H, ⟨xoj HK1⟩, ⟨xbk⟩, ⟨xbl⟩⟩
 )
 case rest => (
 clear At
 obtain ⟨kq, Ai, rfl, HA, HJ3, Ab, HB⟩ := hcut
 cases kq with
 | zero => exact absurd HA.out (by simp [bJ])
 | succ kj3 => (
 have H := HA.out
 clear HA
 simp only [bJ] at H
 refine xib H ?_ ?_ <;> clear H <;> rintro rfl H
 {
 have Au := Zz.mk H
 clear H
 go_upto_if 19 with (fail)
 go_cut [6, 7] (fun v6 v7 wc => ∃ kq Al Am, v6 = .int .i64 Al ∧ v7 = .int .i64 Am ∧ Zz (dS kq a0 Aa Al Am Ac Ad Af Ag Ae = some r) ∧ Zz (kq ≤ kj3) ∧ Zz (wc.heap[Ah]? = some (.cells #[.int .i64 Ac, .int .i64 Ad, .int .i64 Af, .int .i64 Ag, .int .i64 Ae] 55 (0, 0))) ∧ Zz (Below w.heap.size w wc))
 case first => (
 have H := Au.out
 clear Au
 refine xid H ?_ ?_ <;> clear H <;> intro c9 H
 {
 obtain ⟨Ak, Av⟩ := xqe c9
 clear c9
 (first | rw [Ak] | (simp only [ag, ak]; rw [Ak]) | skip)
 replace H := xa H
 have AB := xz5 Ab.out
 go_wp2
 go_meet
 case rel => exact ⟨_, (Ac), (Ad), xrr, xrr, H, ⟨xoJ HK1 HJ3⟩, ⟨xbk⟩, ⟨xbl⟩⟩
 }
 obtain ⟨Ak, Av⟩ := xqn c9
 (first | rw [Ak] | (simp only [ag, ak]; rw [Ak]) | skip)
 replace H := xa H
 go_wp2
 go_meet
 case rel => exact ⟨_, (128), (191), xrr, xrr, H, ⟨xoJ HK1 HJ3⟩, ⟨xbk⟩, ⟨xbl⟩⟩
 )
 case rest => (
 clear Au
 obtain ⟨kq, Al, Am, rfl, rfl, HA, HJ7, Ab, HB⟩ := hcut
 cases kq with
 | zero => exact absurd HA.out (by simp [dS])
 | succ kj7 => (
 have H := HA.out
 clear HA
 simp only [dS] at H
 refine xid H ?_ ?_ <;> clear H <;> intro c11 H
 {
 obtain ⟨An, Ao⟩ := xqe c11
 clear c11
 refine xin H ?_; clear H; intro c12 H
 have Ax := xdt c12
 clear c12
 refine xin H ?_; clear H; intro c13 H
 have Ay := xdt c13
 clear c13
 refine xid H ?_ ?_ <;> clear H <;> intro c15 H
 {
 have Ap := xdt c15
 clear c15
 obtain rfl := Option.some.inj H
 have AC := xz5 Ab.out
 obtain ⟨p14, q14, hx14⟩ := xiv a0 Aa xod xod
 go_wp2
 go_ret
 exact ⟨xre, xbl⟩
 }
 have Ap := xdf c15
 clear c15
 refine xid H ?_ ?_ <;> clear H <;> intro c18 H
 {
 have Aq := xdt c18
 clear c18
 obtain rfl := Option.some.inj H
 have AD := xz5 Ab.out
 obtain ⟨p14, q14, hx14⟩ := xiv a0 Aa xod xod
 obtain ⟨p17, q17, hx17⟩ := xiv a0 Aa xod xod
 go_wp2
 go_ret
 exact ⟨xre, xbl⟩
 }
 have Aq := xdf c18
 clear c18
 replace H := xa H
 have AE := xz5 Ab.out
 obtain ⟨p14, q14, hx14⟩ := xiv a0 Aa xod xod
 obtain ⟨p17, q17, hx17⟩ := xiv a0 Aa xod xod
 go_wp2
 go_roundg kj7
 case measure => have := HK1.out; have := HJ3.out; have := HJ7.out; omega
 case rel => exact ⟨(wrap64 (Aa + 1)), xrr, H, ⟨by have := HK1.out; have := HJ3.out; have := HJ7.out; omega⟩, ⟨xbk⟩, ⟨xbl⟩⟩
 }
 obtain ⟨An, Ao⟩ := xqn c11
 refine xin H ?_; clear H; intro c21 H
 have Az := xdt c21
 clear c21
 refine xin H ?_; clear H; intro c22 H
 have AA := xdt c22
 clear c22
 refine xid H ?_ ?_ <;> clear H <;> intro c24 H
 {
 have Ar := xdt c24
 clear c24
 obtain rfl := Option.some.inj H
 obtain ⟨p23, q23, hx23⟩ := xiv a0 Aa xod xod
 go_wp2
 go_ret
 exact ⟨xre, xbl⟩
 }
 have Ar := xdf c24
 clear c24
 refine xid H ?_ ?_ <;> clear H <;> intro c26 H
 {
 have As := xdt c26
 clear c26
 obtain rfl := Option.some.inj H
 obtain ⟨p23, q23, hx23⟩ := xiv a0 Aa xod xod
 obtain ⟨p25, q25, hx25⟩ := xiv a0 Aa xod xod
 go_wp2
 go_ret
 exact ⟨xre, xbl⟩
 }
 have As := xdf c26
 clear c26
 replace H := xa H
 obtain ⟨p23, q23, hx23⟩ := xiv a0 Aa xod xod
 obtain ⟨p25, q25, hx25⟩ := xiv a0 Aa xod xod
 go_wp2
 go_roundg kj7
 case measure => have := HK1.out; have := HJ3.out; have := HJ7.out; omega
 case rel => exact ⟨(wrap64 (Aa + 1)), xrr, H, ⟨by have := HK1.out; have := HJ3.out; have := HJ7.out; omega⟩, ⟨xbk⟩, ⟨xbl⟩⟩
 )
 )
 }
 obtain rfl := Option.some.inj H
 go_wp2
 go_ret
 exact ⟨xre, xbl⟩
 )
 )
 )
 )
mutual
def dG : Nat → ByteArray → Int → Option (Int)
  | 0, _, _ => none
  | k + 1, x0, x3 => if (x0.size : Int) = 4 then (if 0 < (x0.size : Int) then (dH k x0 (wrap64 ((wrap64 (bt x0 0)) - 240))) else (none)) else (dH k x0 x3)
def dH : Nat → ByteArray → Int → Option (Int)
  | 0, _, _ => none
  | k + 1, x0, x3 => cl k x0 x3 1
def cl : Nat → ByteArray → Int → Int → Option (Int)
  | 0, _, _, _ => none
  | k + 1, x0, x3, x4 => if x4 < (x0.size : Int) then (if 0 ≤ x4 then (cl k x0 (wrap64 ((wrap64 ((wrap64 (x3 * 64)) + (wrap64 (bt x0 x4)))) - 128)) (wrap64 (x4 + 1))) else (none)) else (some x3)
end
def eI (k : Nat) (a0 : ByteArray) : Option (Int) := if (a0.size : Int) = 1 then (if 0 < (a0.size : Int) then (some (wrap64 (bt a0 0))) else (none)) else (if 0 < (a0.size : Int) then (if (a0.size : Int) = 3 then (dG k a0 (wrap64 ((wrap64 (bt a0 0)) - 224))) else (dG k a0 (wrap64 ((wrap64 (bt a0 0)) - 192)))) else (none))
theorem mg (k : Nat) (a0 : ByteArray) (r : Int) (w : World) (h : eI k a0 = some r) :
    Calls Tryz.prog 34 #[.string a0] w fun e w' => e = .returned (.int .i64 r) ∧ Drawn0 w w' := by
 have H := h
 clear h
 unfold eI at H
 refine xid H ?_ ?_ <;> clear H <;> intro c2 H
 {
 obtain ⟨Ah, Ai⟩ := xqe c2
 clear c2
 refine xin H ?_; clear H; intro c3 H
 have As := xdt c3
 have At : decide (0 < a0.size) = true := decide_eq_true (by omega)
 clear c3
 obtain rfl := Option.some.inj H
 obtain ⟨q4, Aw, hx4⟩ := xi0 a0 xod
 go_enter Tryz.func34, Tryz.ntmps34
 go_wp2
 go_ret
 exact ⟨xrr, xdr⟩
 }
 obtain ⟨Ah, Ai⟩ := xqn c2
 refine xin H ?_; clear H; intro c5 H
 have Al := xdt c5
 have Am : decide (0 < a0.size) = true := decide_eq_true (by omega)
 clear c5
 have An := Zz.mk H
 clear H
 obtain ⟨q6, Au, hx6⟩ := xi0 a0 xod
 go_enter Tryz.func34, Tryz.ntmps34
 go_upto_if 17 with (fail)
 go_cut [3] (fun v3 wc => ∃ kq Ad, v3 = .int .i64 Ad ∧ Zz (dG kq a0 Ad = some r) ∧ Zz (kq ≤ k) ∧ Drawn0 w wc)
 case first => (
 have H := An.out
 clear An
 refine xid H ?_ ?_ <;> clear H <;> intro c8 H
 {
 obtain ⟨Ac, Ao⟩ := xqe c8
 clear c8
 (first | rw [Ac] | (simp only [ag, ak]; rw [Ac]) | skip)
 replace H := xa H
 obtain ⟨q9, Ax, hx9⟩ := xi0 a0 xod
 go_wp2
 go_meet
 case rel => exact ⟨_, (wrap64 ((wrap64 (bt a0 0)) - 224)), xrr, H, ⟨xom⟩, xdr⟩
 }
 obtain ⟨Ac, Ao⟩ := xqn c8
 (first | rw [Ac] | (simp only [ag, ak]; rw [Ac]) | skip)
 replace H := xa H
 go_wp2
 go_meet
 case rel => exact ⟨_, (wrap64 ((wrap64 (bt a0 0)) - 192)), xrr, H, ⟨xom⟩, xdr⟩
 )
 case rest => (
 clear An
 clear Ah Ai Al Am q6 hx6 Au
 obtain ⟨kq, Ad, rfl, HA, HJ6, ⟨mc6, rfl⟩⟩ := hcut
 cases kq with
 | zero => exact absurd HA.out (by simp [dG])
 | succ kj6 => (
 have H := HA.out
 clear HA
 simp only [dG] at H
 have Ag := Zz.mk H
 clear H
 go_upto_if 24 with (fail)
 go_cut [3] (fun v3 wc => ∃ kq Ae, v3 = .int .i64 Ae ∧ Zz (dH kq a0 Ae = some r) ∧ Zz (kq ≤ kj6) ∧ Drawn0 w wc)
 case first => (
 have H := Ag.out
 clear Ag
 refine xid H ?_ ?_ <;> clear H <;> intro c11 H
 {
 obtain ⟨Aa, Aj⟩ := xqe c11
 clear c11
 (first | rw [Aa] | (simp only [ag, ak]; rw [Aa]) | skip)
 refine xin H ?_; clear H; intro c12 H
 have Ap := xdt c12
 have Aq : decide (0 < a0.size) = true := decide_eq_true (by omega)
 clear c12
 replace H := xa H
 obtain ⟨q13, Av, hx13⟩ := xi0 a0 xod
 go_wp2
 go_meet
 case rel => exact ⟨_, (wrap64 ((wrap64 (bt a0 0)) - 240)), xrr, H, ⟨xoj HJ6⟩, xdr⟩
 }
 obtain ⟨Aa, Aj⟩ := xqn c11
 (first | rw [Aa] | (simp only [ag, ak]; rw [Aa]) | skip)
 replace H := xa H
 go_wp2
 go_meet
 case rel => exact ⟨_, (Ad), xrr, H, ⟨xoj HJ6⟩, xdr⟩
 )
 case rest => (
 clear Ag
 obtain ⟨kq, Ae, rfl, HA, HJ9, ⟨mc9, rfl⟩⟩ := hcut
 cases kq with
 | zero => exact absurd HA.out (by simp [dH])
 | succ kj9 => (
 have H := HA.out
 clear HA
 simp only [dH] at H
 have H' := Zz.mk H
 clear H
 go_wp2
 go_loopg [3, 4] kj9 (fun kq v3 v4 w' => ∃ Af Ab, v3 = .int .i64 Af ∧ v4 = .int .i64 Ab ∧ Zz (cl kq a0 Af Ab = some r) ∧ Zz (kq ≤ kj9) ∧ Drawn0 w w')
 case atStart => exact ⟨(Ae), (1), xrr, xrr, H', ⟨Nat.le_refl _⟩, xdr⟩
 case round => (
 clear H'
 obtain ⟨Af, Ab, rfl, rfl, HA, HK3, ⟨m3, rfl⟩⟩ := hrel
 cases gk with
 | zero => exact absurd HA.out (by simp [cl])
 | succ k3 => (
 have H := HA.out
 clear HA
 simp only [cl] at H
 refine xid H ?_ ?_ <;> clear H <;> intro c14 H
 {
 have Ak := xdt c14
 clear c14
 refine xin H ?_; clear H; intro c15 H
 have Ar := xdt c15
 clear c15
 replace H := xa H
 obtain ⟨p16, q16, hx16⟩ := xiv a0 Ab xod xod
 go_wp2
 go_roundg k3
 case measure => have := HJ6.out; have := HJ9.out; have := HK3.out; omega
 case rel => exact ⟨(wrap64 ((wrap64 ((wrap64 (Af * 64)) + (wrap64 (bt a0 Ab)))) - 128)), (wrap64 (Ab + 1)), xrr, xrr, H, ⟨by have := HJ6.out; have := HJ9.out; have := HK3.out; omega⟩, xdr⟩
 }
 have Ak := xdf c14
 clear c14
 obtain rfl := Option.some.inj H
 go_wp2
 go_ret
 exact ⟨xrr, xdr⟩
 )
 )
 )
 )
 )
 )
def bd : Nat → ByteArray → Int → Int → Option (Int × Int × Bool)
  | 0, _, _, _ => none
  | k + 1, x0, x3, x4 => if x4 < 9 then ((gB x4).bind fun Aa => ((gc k x0 Aa.1 Aa.2.1 Aa.2.2.1 Aa.2.2.2.1 Aa.2.2.2.2).bind fun Ab => (if Ab = Aa.2.2.2.2 then (if 0 ≤ Ab then (if Ab ≤ (x0.size : Int) then ((eI k (x0.extract 0 (Ab : Int).toNat)).bind fun Ac => (some (Ac, Ab, true))) else (none)) else (none)) else (bd k x0 (mx x3 Ab) (wrap64 (x4 + 1)))))) else (some (0, x3, false))
def ep (k : Nat) (a0 : ByteArray) : Option (Int × Int × Bool) := if a0.toList = ([] : List UInt8) then (some (0, 0, false)) else (bd k a0 1 0)
theorem em (k : Nat) (a0 : ByteArray) (r1 : Int) (r2 : Int) (r3 : Bool) (w : World) (h : ep k a0 = some (r1, r2, r3)) :
    Calls Tryz.prog 20 #[.string a0] w fun e w' => e = .returned (.agg #[.int .i64 r1, .int .i64 r2, .bool r3]) ∧ Below w.heap.size w w' := by
 have hu41 := Tryz.underlying41
 have hu55 := Tryz.underlying55
 have HB := Zz.mk (Below.refl w.heap.size w)
 have H := h
 clear h
 unfold ep at H
 refine xid H ?_ ?_ <;> clear H <;> intro c2 H
 {
 obtain ⟨Ap, Aq⟩ := xqe c2
 (try (have Az : a0.toList.isEmpty = true := by simpa using c2))
 clear c2
 simp only [Option.some.injEq, Prod.mk.injEq] at H
 obtain ⟨rfl, rfl, rfl⟩ := H
 go_enter Tryz.func20, Tryz.ntmps20
 go_wp2_with (first | ((with_reducible refine aj (N := 2) rfl ?_); refine xew 2 ?_; intro Ad w3 Ae Ar hb hg; replace HB := xst hb; clear hb hg; have AT := xz3 Ae.out))
 refine bodyPost_ret (results_cell_row rfl _ _ Ad 41 #[.int .i64 0, .int .i64 0, .bool false] (0, 0) _ rfl xbk Tryz.underlying41 rfl (by kernel_rfl)) rfl ?_
 exact ⟨xre, xbl⟩
 }
 obtain ⟨Ap, Aq⟩ := xqn c2
 (try (have Az : a0.toList.isEmpty = false := by simpa using c2))
 have H' := Zz.mk H
 clear H
 go_enter Tryz.func20, Tryz.ntmps20
 go_wp2_with (first | ((with_reducible refine aj (N := 2) rfl ?_); refine xew 2 ?_; intro Ad w5 Ae Ar hb hg; replace HB := xst hb; clear hb hg))
 go_loopg [3, 4] k (fun kq v3 v4 w' => ∃ Ak An Aa Ab Ac, v3 = .int .i64 Ak ∧ v4 = .int .i64 An ∧ Zz (bd kq a0 Ak An = some (r1, r2, r3)) ∧ Zz (kq ≤ k) ∧ Zz (w'.heap[Ad]? = some (.cells #[.int .i64 Aa, .int .i64 Ab, .bool Ac] 41 (0, 0))) ∧ Zz (Below w.heap.size w w'))
 case atStart => exact ⟨(1), (0), (0), (0), (false), xrr, xrr, H', ⟨Nat.le_refl _⟩, ⟨xbk⟩, ⟨xbl⟩⟩
 case round => (
 clear H'
 clear Ap Aq
 obtain ⟨Ak, An, Aa, Ab, Ac, rfl, rfl, HA, HK1, Ae, HB⟩ := hrel
 cases gk with
 | zero => exact absurd HA.out (by simp [bd])
 | succ k1 => (
 have H := HA.out
 clear HA
 simp only [bd] at H
 refine xid H ?_ ?_ <;> clear H <;> intro c6 H
 {
 have AA := xdt c6
 clear c6
 replace H := xbd H
 obtain ⟨⟨As, At, Au, Av, Aw⟩, A7, H⟩ := H
 try dsimp only at H
 replace H := xbd H
 obtain ⟨Am, A8, H⟩ := H
 try dsimp only at H
 refine xid H ?_ ?_ <;> clear H <;> intro c9 H
 {
 obtain ⟨AB, AC⟩ := xqe c9
 clear c9
 refine xin H ?_; clear H; intro c10 H
 obtain ⟨AE, AF⟩ := xcp c10
 clear c10
 refine xin H ?_; clear H; intro c11 H
 obtain ⟨AG, AH⟩ := xcp c11
 clear c11
 obtain ⟨AM, Ai⟩ : ∃ j_ : ByteArray, (a0.extract 0 (Am : Int).toNat) = j_ := ⟨_, rfl⟩
 try (have Ao := Ai; simp only [Int.toNat_natCast] at Ao)
 first | rw [Ai] at H | simp only [Ai] at H | skip
 (try rw [Ai] at A7)
 (try rw [Ai] at A8)
 replace H := xbd H
 obtain ⟨AD, A13, H⟩ := H
 try dsimp only at H
 simp only [Option.some.injEq, Prod.mk.injEq] at H
 obtain ⟨rfl, rfl, rfl⟩ := H
 go_wp2_with (first | ((with_reducible refine xgc (f := 32) rfl ?_); refine xca 15 Tryz.func32 (j5 (w := _) (h := A7.out)) ?_; rintro w14 hb; replace Ae := xbb (g := Ad) (o := .cells #[.int .i64 Aa, .int .i64 Ab, .bool Ac] 41 (0, 0)) hb; replace HB := xst hb; (try clear hb)) | ((with_reducible refine aj (N := 5) rfl ?_); refine xew 5 ?_; intro Al w15 Af Ax hb hg; have Ag := xlt (g := Ad) hg; have Ah := xgt (g := Ad) hg; replace Ae := xbb (g := Ad) (o := .cells #[.int .i64 Aa, .int .i64 Ab, .bool Ac] 41 (0, 0)) hb; replace HB := xst hb; clear hb hg; have AI := Ah.out; have AJ := Ag.out; have AN := xz5 Af.out) | ((with_reducible refine xgc (f := 33) rfl ?_); refine xca 18 Tryz.func33 (jP (w := _) (h := A8.out)) ?_; rintro w18 hb; replace Ae := xbb (g := Ad) (o := .cells #[.int .i64 Aa, .int .i64 Ab, .bool Ac] 41 (0, 0)) hb; replace Af := xbb (g := Al) (o := .cells #[.int .i64 As, .int .i64 At, .int .i64 Au, .int .i64 Av, .int .i64 Aw] 55 (0, 0)) hb; replace HB := xst hb; (try clear hb); have AO := xz5 Af.out) | ((with_reducible refine xgc (f := 34) rfl ?_); refine xca 26 Tryz.func34 (mg (w := _) (h := A13.out)) ?_ (hargs := by (try simp only [xm1, xm2, xm3]); first | done | (simp only [Ai]; rfl) | rfl); rintro w' ⟨nd, rfl⟩; (try (rw [aW w18]; generalize hq_ : World.drewN w18 _ = w18; have n0_ := xbr Ad hq_; have n1_ := xbr Al hq_; have n2_ : Zz (Below w.heap.size w w18) := ⟨by rw [← hq_]; exact xbl⟩; clear Ae Af HB hq_; have Ae := n0_; have Af := n1_; have HB := n2_; clear n0_ n1_ n2_)); have AP := xz3 Ae.out))
 refine bodyPost_ret (results_cell_row rfl _ _ Ad 41 #[.int .i64 AD, .int .i64 Am, .bool true] (0, 0) _ rfl xbk Tryz.underlying41 rfl (by kernel_rfl)) rfl ?_
 exact ⟨by first | exact xrd | (simp only [← Ai]; exact xrd) | exact xre, xbl⟩
 }
 obtain ⟨AB, AC⟩ := xqn c9
 obtain ⟨Ay, Aj⟩ : ∃ j_ : Int, (mx Ak Am) = j_ := ⟨_, rfl⟩
 first | rw [Aj] at H | simp only [Aj] at H | skip
 (try rw [Aj] at A7)
 (try rw [Aj] at A8)
 have hji21_ : (if Ak < Am then Am else Ak) = Ay := Aj
 replace H := xa H
 go_wp2_with (first | ((with_reducible refine xgc (f := 32) rfl ?_); refine xca 15 Tryz.func32 (j5 (w := _) (h := A7.out)) ?_; rintro w22 hb; replace Ae := xbb (g := Ad) (o := .cells #[.int .i64 Aa, .int .i64 Ab, .bool Ac] 41 (0, 0)) hb; replace HB := xst hb; (try clear hb)) | ((with_reducible refine aj (N := 5) rfl ?_); refine xew 5 ?_; intro Al w23 Af Ax hb hg; have Ag := xlt (g := Ad) hg; have Ah := xgt (g := Ad) hg; replace Ae := xbb (g := Ad) (o := .cells #[.int .i64 Aa, .int .i64 Ab, .bool Ac] 41 (0, 0)) hb; replace HB := xst hb; clear hb hg; have AK := Ah.out; have AL := Ag.out; have AQ := xz5 Af.out) | ((with_reducible refine xgc (f := 33) rfl ?_); refine xca 18 Tryz.func33 (jP (w := _) (h := A8.out)) ?_; rintro w26 hb; replace Ae := xbb (g := Ad) (o := .cells #[.int .i64 Aa, .int .i64 Ab, .bool Ac] 41 (0, 0)) hb; replace Af := xbb (g := Al) (o := .cells #[.int .i64 As, .int .i64 At, .int .i64 Au, .int .i64 Av, .int .i64 Aw] 55 (0, 0)) hb; replace HB := xst hb; (try clear hb); have AR := xz5 Af.out))
 first | go_roundg k1 | (simp only [← Aj]; go_roundg k1)
 case measure => have := HK1.out; omega
 case rel => exact ⟨(Ay), (wrap64 (An + 1)), (Aa), (Ab), (Ac), (by first | exact xrs | (simp only [← Aj] <;> (first | rfl | simp)) | exact xrr), xrr, H, ⟨by have := HK1.out; omega⟩, ⟨xbk⟩, ⟨xbl⟩⟩
 }
 have AA := xdf c6
 clear c6
 simp only [Option.some.injEq, Prod.mk.injEq] at H
 obtain ⟨rfl, rfl, rfl⟩ := H
 have AS := xz3 Ae.out
 go_wp2
 refine bodyPost_ret (results_cell_row rfl _ _ Ad 41 #[.int .i64 0, .int .i64 Ak, .bool false] (0, 0) _ rfl xbk Tryz.underlying41 rfl (by kernel_rfl)) rfl ?_
 exact ⟨xre, xbl⟩
 )
 )
def dF : Nat → ByteArray → Int → Option (Int)
  | 0, _, _ => none
  | k + 1, x0, x3 => if x3 < (x0.size : Int) then (if 0 ≤ x3 then (if x3 ≤ (x0.size : Int) then ((ep k (x0.extract (x3 : Int).toNat x0.size)).bind fun bt534 => (if bt534.2.2 = true then (dF k x0 (wrap64 (x3 + bt534.2.1))) else (some x3))) else (none)) else (none)) else (some (-1))
def gY (k : Nat) (a0 : ByteArray) : Option (Int) := dF k a0 0
theorem mf (k : Nat) (a0 : ByteArray) (r : Int) (w : World) (h : gY k a0 = some r) :
    Calls Tryz.prog 8 #[.string a0] w fun e w' => e = .returned (.int .i64 r) ∧ Below w.heap.size w w' := by
 have hu41 := Tryz.underlying41
 have HB := Zz.mk (Below.refl w.heap.size w)
 have H := h
 clear h
 unfold gY at H
 have H' := Zz.mk H
 clear H
 go_enter Tryz.func8, Tryz.ntmps8
 go_wp2
 go_loopg [3] k (fun kq v3 w' => ∃ Ab, v3 = .int .i64 Ab ∧ Zz (dF kq a0 Ab = some r) ∧ Zz (kq ≤ k) ∧ Zz (Below w.heap.size w w'))
 case atStart => exact ⟨(0), xrr, H', ⟨Nat.le_refl _⟩, ⟨xbl⟩⟩
 case round => (
 clear H'
 obtain ⟨Ab, rfl, HA, HK1, HB⟩ := hrel
 cases gk with
 | zero => exact absurd HA.out (by simp [dF])
 | succ k1 => (
 have H := HA.out
 clear HA
 simp only [dF] at H
 refine xid H ?_ ?_ <;> clear H <;> intro c2 H
 {
 have Ag := xdt c2
 clear c2
 refine xin H ?_; clear H; intro c3 H
 obtain ⟨Ai, Aj⟩ := xcp c3
 clear c3
 refine xin H ?_; clear H; intro c4 H
 obtain ⟨Ak, Al⟩ := xcp c4
 clear c4
 obtain ⟨Aq, Aa⟩ : ∃ j_ : ByteArray, (a0.extract (Ab : Int).toNat a0.size) = j_ := ⟨_, rfl⟩
 try (have Ad := Aa; simp only [Int.toNat_natCast] at Ad)
 first | rw [Aa] at H | simp only [Aa] at H | skip
 replace H := xbd H
 obtain ⟨⟨Am, Ah, An⟩, A6, H⟩ := H
 try dsimp only at H
 refine xib H ?_ ?_ <;> clear H <;> rintro rfl H
 {
 replace H := xa H
 go_wp2_with (first | ((with_reducible refine xgc (f := 20) rfl ?_); refine xca 12 Tryz.func20 (em (w := _) (h := A6.out)) ?_ (hargs := by (try simp only [xm1, xm2, xm3]); first | done | (simp only [Aa]; rfl) | rfl); rintro w8 hb; replace HB := xst hb; (try clear hb)) | ((with_reducible refine aj (N := 4) rfl ?_); refine xew 4 ?_; intro Ae w9 Ac Af hb hg; replace HB := xst hb; clear hb hg; have Ao := xz3 Ac.out))
 first | go_roundg k1 | (simp only [← Aa]; go_roundg k1)
 case measure => have := HK1.out; omega
 case rel => exact ⟨(wrap64 (Ab + Ah)), xrr, H, ⟨by have := HK1.out; omega⟩, ⟨xbl⟩⟩
 }
 obtain rfl := Option.some.inj H
 go_wp2_with (first | ((with_reducible refine xgc (f := 20) rfl ?_); refine xca 12 Tryz.func20 (em (w := _) (h := A6.out)) ?_ (hargs := by (try simp only [xm1, xm2, xm3]); first | done | (simp only [Aa]; rfl) | rfl); rintro w11 hb; replace HB := xst hb; (try clear hb)) | ((with_reducible refine aj (N := 4) rfl ?_); refine xew 4 ?_; intro Ae w12 Ac Af hb hg; replace HB := xst hb; clear hb hg; have Ap := xz3 Ac.out))
 go_ret
 exact ⟨by first | exact xrd | (simp only [← Aa]; exact xrd) | exact xre, xbl⟩
 }
 have Ag := xdf c2
 clear c2
 obtain rfl := Option.some.inj H
 go_wp2
 go_ret
 exact ⟨xre, xbl⟩
 )
 )
def cz : Nat → Int → ByteArray → Int → Option (Bool)
  | 0, _, _, _ => none
  | k + 1, x0, x1, x5 => if x5 < (x1.size : Int) then (if 0 ≤ x5 then (if (bt x1 x5) = x0 then (some true) else (cz k x0 x1 (wrap64 (x5 + 1)))) else (none)) else (some false)
def aQ (k : Nat) (a0 : Int) (a1 : ByteArray) : Option (Bool) := cz k a0 a1 0
theorem jZ : ∀ k, (∀ y0 y1 y2, LeO (cz k y0 y1 y2) (cz (k + 1) y0 y1 y2))
  | 0 => fun _ _ _ r h => by simp [cz] at h
  | k + 1 => by
    have ih0 := jZ k
    · intro y0 y1 y2
      unfold cz
      exact xmo
theorem gX : ∀ a0 a1 k, LeO (aQ k a0 a1) (aQ (k + 1) a0 a1) := by
  intro a0 a1 k
  have ih0 := jZ k
  unfold aQ
  exact xmo
theorem aw (k : Nat) (a0 : Int) (a1 : ByteArray) (r : Bool) (w : World) (h : aQ k a0 a1 = some r) :
    Calls Tryz.prog 50 #[.int .u8 a0, .string a1] w fun e w' => e = .returned (.bool r) ∧ Drawn0 w w' := by
 have H := h
 clear h
 unfold aQ at H
 have H' := Zz.mk H
 clear H
 go_enter Tryz.func50, Tryz.ntmps50
 go_wp2
 go_loopg [5] k (fun kq v5 w' => ∃ Aa, v5 = .int .i64 Aa ∧ Zz (cz kq a0 a1 Aa = some r) ∧ Zz (kq ≤ k) ∧ Drawn0 w w')
 case atStart => exact ⟨(0), xrr, H', ⟨Nat.le_refl _⟩, xdr⟩
 case round => (
 clear H'
 obtain ⟨Aa, rfl, HA, HK1, ⟨m1, rfl⟩⟩ := hrel
 cases gk with
 | zero => exact absurd HA.out (by simp [cz])
 | succ k1 => (
 have H := HA.out
 clear HA
 simp only [cz] at H
 refine xid H ?_ ?_ <;> clear H <;> intro c3 H
 {
 have Ab := xdt c3
 clear c3
 refine xin H ?_; clear H; intro c4 H
 have Ae := xdt c4
 clear c4
 refine xid H ?_ ?_ <;> clear H <;> intro c6 H
 {
 obtain ⟨Ac, Ad⟩ := xqe c6
 clear c6
 obtain rfl := Option.some.inj H
 obtain ⟨p5, q5, hx5⟩ := xiv a1 Aa xod xod
 go_wp2
 go_ret
 exact ⟨xrr, xdr⟩
 }
 obtain ⟨Ac, Ad⟩ := xqn c6
 replace H := xa H
 obtain ⟨p5, q5, hx5⟩ := xiv a1 Aa xod xod
 go_wp2
 go_roundg k1
 case measure => have := HK1.out; omega
 case rel => exact ⟨(wrap64 (Aa + 1)), xrr, H, ⟨by have := HK1.out; omega⟩, xdr⟩
 }
 have Ab := xdf c3
 clear c3
 obtain rfl := Option.some.inj H
 go_wp2
 go_ret
 exact ⟨xrr, xdr⟩
 )
 )
mutual
def cf : Nat → Int → Int → Option (Int)
  | 0, _, _ => none
  | k + 1, x0, x3 => (aQ k x0 (⟨#[48, 49, 50, 51, 52, 53, 54, 55, 56, 57]⟩ : ByteArray)).bind fun t539 => (if t539 = true then (cg k x0 (wrap64 (x3 + 2))) else (cg k x0 x3))
def cg : Nat → Int → Int → Option (Int)
  | 0, _, _ => none
  | k + 1, x0, x3 => (aQ k x0 (⟨#[45, 46, 95, 126]⟩ : ByteArray)).bind fun t540 => (if t540 = true then (ci k x0 (wrap64 (x3 + 4))) else (ci k x0 x3))
def ci : Nat → Int → Int → Option (Int)
  | 0, _, _ => none
  | k + 1, x0, x3 => (aQ k x0 (⟨#[33, 36, 38, 39, 40, 41, 42, 43, 44, 59, 61]⟩ : ByteArray)).bind fun t541 => (if t541 = true then (cj k x0 (wrap64 (x3 + 8))) else (cj k x0 x3))
def cj : Nat → Int → Int → Option (Int)
  | 0, _, _ => none
  | k + 1, x0, x3 => (aQ k x0 (⟨#[58, 47, 63, 35, 91, 93, 64]⟩ : ByteArray)).bind fun t542 => (if t542 = true then ((aQ k x0 (⟨#[48, 49, 50, 51, 52, 53, 54, 55, 56, 57, 65, 66, 67, 68, 69, 70, 97, 98, 99, 100, 101, 102]⟩ : ByteArray)).bind fun t543 => (if t543 = true then (some (wrap64 ((wrap64 (x3 + 16)) + 32))) else (some (wrap64 (x3 + 16))))) else ((aQ k x0 (⟨#[48, 49, 50, 51, 52, 53, 54, 55, 56, 57, 65, 66, 67, 68, 69, 70, 97, 98, 99, 100, 101, 102]⟩ : ByteArray)).bind fun t544 => (if t544 = true then (some (wrap64 (x3 + 32))) else (some x3))))
end
def bH (k : Nat) (a0 : Int) : Option (Int) := (aQ k a0 (⟨#[65, 66, 67, 68, 69, 70, 71, 72, 73, 74, 75, 76, 77, 78, 79, 80, 81, 82, 83, 84, 85, 86, 87, 88, 89, 90, 97, 98, 99, 100, 101, 102, 103, 104, 105, 106, 107, 108, 109, 110, 111, 112, 113, 114, 115, 116, 117, 118, 119, 120, 121, 122]⟩ : ByteArray)).bind fun t538 => (if t538 = true then (cf k a0 (0 + 1)) else (cf k a0 0))
theorem jo : ∀ k, (∀ y0 y1, LeO (cf k y0 y1) (cf (k + 1) y0 y1)) ∧ (∀ y0 y1, LeO (cg k y0 y1) (cg (k + 1) y0 y1)) ∧ (∀ y0 y1, LeO (ci k y0 y1) (ci (k + 1) y0 y1)) ∧ (∀ y0 y1, LeO (cj k y0 y1) (cj (k + 1) y0 y1))
  | 0 => ⟨fun _ _ r h => by simp [cf] at h, fun _ _ r h => by simp [cg] at h, fun _ _ r h => by simp [ci] at h, fun _ _ r h => by simp [cj] at h⟩
  | k + 1 => by
    obtain ⟨ih0, ih1, ih2, ih3⟩ := jo k
    have m0 := @gX
    refine ⟨?_, ?_, ?_, ?_⟩
    · intro y0 y1
      unfold cf
      exact xmo
    · intro y0 y1
      unfold cg
      exact xmo
    · intro y0 y1
      unfold ci
      exact xmo
    · intro y0 y1
      unfold cj
      exact xmo
theorem iv : ∀ a0 k, LeO (bH k a0) (bH (k + 1) a0) := by
  intro a0 k
  obtain ⟨ih0, ih1, ih2, ih3⟩ := jo k
  have m0 := @gX
  unfold bH
  exact xmo
theorem aV (k : Nat) (a0 : Int) (r : Int) (w : World) (h : bH k a0 = some r) :
    Calls Tryz.prog 51 #[.int .u8 a0] w fun e w' => e = .returned (.int .i64 r) ∧ Drawn0 w w' := by
 have H := h
 clear h
 unfold bH at H
 replace H := xbd H
 obtain ⟨Ai, A2, H⟩ := H
 try dsimp only at H
 have Af := Zz.mk H
 clear H
 go_enter Tryz.func51, Tryz.ntmps51
 go_upto_if 5 with (first | ((with_reducible refine xgc (f := 50) rfl ?_); refine xca 5 Tryz.func50 (aw (w := _) (h := A2.out)) ?_; rintro w' ⟨nd, rfl⟩))
 (try simp only [Act.put, xl1, xl2, xl3])
 go_cut [3] (fun v3 wc => ∃ kq Aa, v3 = .int .i64 Aa ∧ Zz (cf kq a0 Aa = some r) ∧ Zz (kq ≤ k) ∧ Drawn0 w wc)
 case first => (
 have H := Af.out
 clear Af
 refine xib H ?_ ?_ <;> clear H <;> rintro rfl H
 {
 replace H := xa H
 go_wp2
 go_meet
 case rel => exact ⟨_, (0 + 1), xrr, H, ⟨xom⟩, xdr⟩
 }
 replace H := xa H
 go_wp2
 go_meet
 case rel => exact ⟨_, (0), xrr, H, ⟨xom⟩, xdr⟩
 )
 case rest => (
 clear Af
 obtain ⟨kq, Aa, rfl, HA, HJ2, ⟨mc2, rfl⟩⟩ := hcut
 cases kq with
 | zero => exact absurd HA.out (by simp [cf])
 | succ kj2 => (
 have H := HA.out
 clear HA
 simp only [cf] at H
 replace H := xbd H
 obtain ⟨Aj, A5, H⟩ := H
 try dsimp only at H
 have Ag := Zz.mk H
 clear H
 go_upto_if 9 with (first | ((with_reducible refine xgc (f := 50) rfl ?_); refine xca 9 Tryz.func50 (aw (w := _) (h := A5.out)) ?_; rintro w' ⟨nd, rfl⟩))
 (try simp only [Act.put, xl1, xl2, xl3])
 go_cut [3] (fun v3 wc => ∃ kq Ab, v3 = .int .i64 Ab ∧ Zz (cg kq a0 Ab = some r) ∧ Zz (kq ≤ kj2) ∧ Drawn0 w wc)
 case first => (
 have H := Ag.out
 clear Ag
 refine xib H ?_ ?_ <;> clear H <;> rintro rfl H
 {
 replace H := xa H
 go_wp2
 go_meet
 case rel => exact ⟨_, (wrap64 (Aa + 2)), xrr, H, ⟨xoj HJ2⟩, xdr⟩
 }
 replace H := xa H
 go_wp2
 go_meet
 case rel => exact ⟨_, (Aa), xrr, H, ⟨xoj HJ2⟩, xdr⟩
 )
 case rest => (
 clear Ag
 obtain ⟨kq, Ab, rfl, HA, HJ5, ⟨mc5, rfl⟩⟩ := hcut
 cases kq with
 | zero => exact absurd HA.out (by simp [cg])
 | succ kj5 => (
 have H := HA.out
 clear HA
 simp only [cg] at H
 replace H := xbd H
 obtain ⟨Ak, A8, H⟩ := H
 try dsimp only at H
 have Ah := Zz.mk H
 clear H
 go_upto_if 13 with (first | ((with_reducible refine xgc (f := 50) rfl ?_); refine xca 13 Tryz.func50 (aw (w := _) (h := A8.out)) ?_; rintro w' ⟨nd, rfl⟩))
 (try simp only [Act.put, xl1, xl2, xl3])
 go_cut [3] (fun v3 wc => ∃ kq Ac, v3 = .int .i64 Ac ∧ Zz (ci kq a0 Ac = some r) ∧ Zz (kq ≤ kj5) ∧ Drawn0 w wc)
 case first => (
 have H := Ah.out
 clear Ah
 refine xib H ?_ ?_ <;> clear H <;> rintro rfl H
 {
 replace H := xa H
 go_wp2
 go_meet
 case rel => exact ⟨_, (wrap64 (Ab + 4)), xrr, H, ⟨xoJ HJ2 HJ5⟩, xdr⟩
 }
 replace H := xa H
 go_wp2
 go_meet
 case rel => exact ⟨_, (Ab), xrr, H, ⟨xoJ HJ2 HJ5⟩, xdr⟩
 )
 case rest => (
 clear Ah
 obtain ⟨kq, Ac, rfl, HA, HJ8, ⟨mc8, rfl⟩⟩ := hcut
 cases kq with
 | zero => exact absurd HA.out (by simp [ci])
 | succ kj8 => (
 have H := HA.out
 clear HA
 simp only [ci] at H
 replace H := xbd H
 obtain ⟨Al, A11, H⟩ := H
 try dsimp only at H
 have Ae := Zz.mk H
 clear H
 go_upto_if 17 with (first | ((with_reducible refine xgc (f := 50) rfl ?_); refine xca 17 Tryz.func50 (aw (w := _) (h := A11.out)) ?_; rintro w' ⟨nd, rfl⟩))
 (try simp only [Act.put, xl1, xl2, xl3])
 go_cut [3] (fun v3 wc => ∃ kq Ad, v3 = .int .i64 Ad ∧ Zz (cj kq a0 Ad = some r) ∧ Zz (kq ≤ kj8) ∧ Drawn0 w wc)
 case first => (
 have H := Ae.out
 clear Ae
 refine xib H ?_ ?_ <;> clear H <;> rintro rfl H
 {
 replace H := xa H
 go_wp2
 go_meet
 case rel => exact ⟨_, (wrap64 (Ac + 8)), xrr, H, ⟨by have := HJ2.out; have := HJ5.out; have := HJ8.out; first | omega | exact Nat.le_refl _⟩, xdr⟩
 }
 replace H := xa H
 go_wp2
 go_meet
 case rel => exact ⟨_, (Ac), xrr, H, ⟨by have := HJ2.out; have := HJ5.out; have := HJ8.out; first | omega | exact Nat.le_refl _⟩, xdr⟩
 )
 case rest => (
 clear Ae
 obtain ⟨kq, Ad, rfl, HA, HJ11, ⟨mc11, rfl⟩⟩ := hcut
 cases kq with
 | zero => exact absurd HA.out (by simp [cj])
 | succ kj11 => (
 have H := HA.out
 clear HA
 simp only [cj] at H
 replace H := xbd H
 obtain ⟨Am, A14, H⟩ := H
 try dsimp only at H
 refine xib H ?_ ?_ <;> clear H <;> rintro rfl H
 {
 replace H := xbd H
 obtain ⟨An, A16, H⟩ := H
 try dsimp only at H
 refine xib H ?_ ?_ <;> clear H <;> rintro rfl H
 {
 obtain rfl := Option.some.inj H
 go_wp2_with (first | ((with_reducible refine xgc (f := 50) rfl ?_); refine xca 21 Tryz.func50 (aw (w := _) (h := A14.out)) ?_; rintro w' ⟨nd, rfl⟩) | ((with_reducible refine xgc (f := 50) rfl ?_); refine xca 25 Tryz.func50 (aw (w := _) (h := A16.out)) ?_; rintro w' ⟨nd, rfl⟩))
 go_ret
 exact ⟨xrr, xdr⟩
 }
 obtain rfl := Option.some.inj H
 go_wp2_with (first | ((with_reducible refine xgc (f := 50) rfl ?_); refine xca 21 Tryz.func50 (aw (w := _) (h := A14.out)) ?_; rintro w' ⟨nd, rfl⟩) | ((with_reducible refine xgc (f := 50) rfl ?_); refine xca 25 Tryz.func50 (aw (w := _) (h := A16.out)) ?_; rintro w' ⟨nd, rfl⟩))
 go_ret
 exact ⟨xrr, xdr⟩
 }
 replace H := xbd H
 obtain ⟨Ao, A18, H⟩ := H
 try dsimp only at H
 refine xib H ?_ ?_ <;> clear H <;> rintro rfl H
 {
 obtain rfl := Option.some.inj H
 go_wp2_with (first | ((with_reducible refine xgc (f := 50) rfl ?_); refine xca 21 Tryz.func50 (aw (w := _) (h := A14.out)) ?_; rintro w' ⟨nd, rfl⟩) | ((with_reducible refine xgc (f := 50) rfl ?_); refine xca 25 Tryz.func50 (aw (w := _) (h := A18.out)) ?_; rintro w' ⟨nd, rfl⟩))
 go_ret
 exact ⟨xrr, xdr⟩
 }
 obtain rfl := Option.some.inj H
 go_wp2_with (first | ((with_reducible refine xgc (f := 50) rfl ?_); refine xca 21 Tryz.func50 (aw (w := _) (h := A14.out)) ?_; rintro w' ⟨nd, rfl⟩) | ((with_reducible refine xgc (f := 50) rfl ?_); refine xca 25 Tryz.func50 (aw (w := _) (h := A18.out)) ?_; rintro w' ⟨nd, rfl⟩))
 go_ret
 exact ⟨xrr, xdr⟩
 )
 )
 )
 )
 )
 )
 )
 )
mutual
def bY : Nat → ByteArray → Int → Option (Bool)
  | 0, _, _ => none
  | k + 1, x0, x3 => if x3 < (x0.size : Int) then (if 0 ≤ x3 then ((bH k (bt x0 x3)).bind fun t545 => (if x3 = 0 then (dk k x0 x3 t545 ((Int.tmod t545 2) == 0)) else (dk k x0 x3 t545 false))) else (none)) else (some (decide ((x0.size : Int) > 0)))
def dk : Nat → ByteArray → Int → Int → Bool → Option (Bool)
  | 0, _, _, _, _ => none
  | k + 1, x0, x3, x4, x21 => if x21 = true then (some false) else (if (Go.bits .and .i64 x4 3) = 0 then (if 0 ≤ x3 then (if x3 < (x0.size : Int) then ((aQ k (bt x0 x3) (⟨#[43, 45, 46]⟩ : ByteArray)).bind fun t546 => (if t546 = true then (bY k x0 (wrap64 (x3 + 1))) else (some false))) else (none)) else (none)) else (bY k x0 (wrap64 (x3 + 1))))
end
def gN (k : Nat) (a0 : ByteArray) : Option (Bool) := bY k a0 0
theorem lP (k : Nat) (a0 : ByteArray) (r : Bool) (w : World) (h : gN k a0 = some r) :
    Calls Tryz.prog 37 #[.string a0] w fun e w' => e = .returned (.bool r) ∧ Drawn0 w w' := by
 have H := h
 clear h
 unfold gN at H
 have H' := Zz.mk H
 clear H
 go_enter Tryz.func37, Tryz.ntmps37
 go_wp2
 go_loopg [3] k (fun kq v3 w' => ∃ Aa, v3 = .int .i64 Aa ∧ Zz (bY kq a0 Aa = some r) ∧ Zz (kq ≤ k) ∧ Drawn0 w w')
 case atStart => exact ⟨(0), xrr, H', ⟨Nat.le_refl _⟩, xdr⟩
 case round => (
 clear H'
 obtain ⟨Aa, rfl, HA, HK1, ⟨m1, rfl⟩⟩ := hrel
 cases gk with
 | zero => exact absurd HA.out (by simp [bY])
 | succ k1 => (
 have H := HA.out
 clear HA
 simp only [bY] at H
 refine xid H ?_ ?_ <;> clear H <;> intro c2 H
 {
 have Ad := xdt c2
 clear c2
 refine xin H ?_; clear H; intro c3 H
 have Af := xdt c3
 clear c3
 replace H := xbd H
 obtain ⟨Ae, A5, H⟩ := H
 try dsimp only at H
 have Ag := Zz.mk H
 clear H
 obtain ⟨p4, q4, hx4⟩ := xiv a0 Aa xod xod
 go_upto_region 5 with (first | ((with_reducible refine xgc (f := 51) rfl ?_); refine xca 14 Tryz.func51 (aV (w := _) (h := A5.out)) ?_; rintro w' ⟨nd, rfl⟩))
 (try simp only [Act.put, xl1, xl2, xl3])
 go_cut [21] (fun v21 wc => ∃ kq Ab, v21 = .bool Ab ∧ Zz (dk kq a0 Aa Ae Ab = some r) ∧ Zz (kq ≤ k1) ∧ Drawn0 w wc)
 case first => (
 have H := Ag.out
 clear Ag
 refine xid H ?_ ?_ <;> clear H <;> intro c7 H
 {
 obtain ⟨Ac, Ah⟩ := xqe c7
 clear c7
 (first | rw [Ac] | (simp only [ag, ak]; rw [Ac]) | skip)
 replace H := xa H
 go_wp2
 go_meet
 case rel => exact ⟨_, (((Int.tmod Ae 2) == 0)), xrr, H, ⟨xoj HK1⟩, xdr⟩
 }
 obtain ⟨Ac, Ah⟩ := xqn c7
 (first | rw [Ac] | (simp only [ag, ak]; rw [Ac]) | skip)
 replace H := xa H
 go_wp2
 go_meet
 case rel => exact ⟨_, (false), xrr, H, ⟨xoj HK1⟩, xdr⟩
 )
 case rest => (
 clear Ag
 clear Ad Af p4 q4 hx4
 obtain ⟨kq, Ab, rfl, HA, HJ5, ⟨mc5, rfl⟩⟩ := hcut
 cases kq with
 | zero => exact absurd HA.out (by simp [dk])
 | succ kj5 => (
 have H := HA.out
 clear HA
 simp only [dk] at H
 refine xib H ?_ ?_ <;> clear H <;> rintro rfl H
 {
 obtain rfl := Option.some.inj H
 go_wp2
 go_ret
 exact ⟨xrr, xdr⟩
 }
 refine xid H ?_ ?_ <;> clear H <;> intro c9 H
 {
 obtain ⟨Ai, Aj⟩ := xqe c9
 clear c9
 refine xin H ?_; clear H; intro c10 H
 have Ak := xdt c10
 clear c10
 refine xin H ?_; clear H; intro c11 H
 have Al := xdt c11
 clear c11
 replace H := xbd H
 obtain ⟨Am, A13, H⟩ := H
 try dsimp only at H
 refine xib H ?_ ?_ <;> clear H <;> rintro rfl H
 {
 replace H := xa H
 obtain ⟨p12, q12, hx12⟩ := xiv a0 Aa xod xod
 go_wp2_with (first | (go_at_call 50; (with_reducible refine (aw (w := _) (h := A13.out)).mono ?_); rintro e w' ⟨rfl, ⟨nd, rfl⟩⟩))
 go_roundg kj5
 case measure => have := HK1.out; have := HJ5.out; omega
 case rel => exact ⟨(wrap64 (Aa + 1)), xrr, H, ⟨by have := HK1.out; have := HJ5.out; omega⟩, xdr⟩
 }
 obtain rfl := Option.some.inj H
 obtain ⟨p12, q12, hx12⟩ := xiv a0 Aa xod xod
 go_wp2_with (first | (go_at_call 50; (with_reducible refine (aw (w := _) (h := A13.out)).mono ?_); rintro e w' ⟨rfl, ⟨nd, rfl⟩⟩))
 go_ret
 exact ⟨xrr, xdr⟩
 }
 obtain ⟨Ai, Aj⟩ := xqn c9
 replace H := xa H
 go_wp2
 go_roundg kj5
 case measure => have := HK1.out; have := HJ5.out; omega
 case rel => exact ⟨(wrap64 (Aa + 1)), xrr, H, ⟨by have := HK1.out; have := HJ5.out; omega⟩, xdr⟩
 )
 )
 }
 have Ad := xdf c2
 clear c2
 obtain rfl := Option.some.inj H
 go_wp2
 go_ret
 exact ⟨xrr, xdr⟩
 )
 )
def ck : Nat → Int → Int → Option (Int)
  | 0, _, _ => none
  | k + 1, x0, x3 => if x3 < 16 then (if 0 ≤ x3 then (if x0 = (bt (⟨#[48, 49, 50, 51, 52, 53, 54, 55, 56, 57, 65, 66, 67, 68, 69, 70]⟩ : ByteArray) x3) then (some x3) else (if x0 = (bt (⟨#[48, 49, 50, 51, 52, 53, 54, 55, 56, 57, 97, 98, 99, 100, 101, 102]⟩ : ByteArray) x3) then (some x3) else (ck k x0 (wrap64 (x3 + 1))))) else (none)) else (some (-1))
def bI (k : Nat) (a0 : Int) : Option (Int) := ck k a0 0
theorem jp : ∀ k, (∀ y0 y1, LeO (ck k y0 y1) (ck (k + 1) y0 y1))
  | 0 => fun _ _ r h => by simp [ck] at h
  | k + 1 => by
    have ih0 := jp k
    · intro y0 y1
      unfold ck
      exact xmo
theorem mz : ∀ a0 k, LeO (bI k a0) (bI (k + 1) a0) := by
  intro a0 k
  have ih0 := jp k
  unfold bI
  exact xmo
theorem au (k : Nat) (a0 : Int) (r : Int) (w : World) (h : bI k a0 = some r) :
    Calls Tryz.prog 86 #[.int .u8 a0] w fun e w' => e = .returned (.int .i64 r) ∧ Drawn0 w w' := by
 have H := h
 clear h
 unfold bI at H
 have H' := Zz.mk H
 clear H
 go_enter Tryz.func86, Tryz.ntmps86
 go_wp2
 go_loopg [3] k (fun kq v3 w' => ∃ Aa, v3 = .int .i64 Aa ∧ Zz (ck kq a0 Aa = some r) ∧ Zz (kq ≤ k) ∧ Drawn0 w w')
 case atStart => exact ⟨(0), xrr, H', ⟨Nat.le_refl _⟩, xdr⟩
 case round => (
 clear H'
 obtain ⟨Aa, rfl, HA, HK1, ⟨m1, rfl⟩⟩ := hrel
 cases gk with
 | zero => exact absurd HA.out (by simp [ck])
 | succ k1 => (
 have H := HA.out
 clear HA
 simp only [ck] at H
 refine xid H ?_ ?_ <;> clear H <;> intro c2 H
 {
 have Ac := xdt c2
 clear c2
 refine xin H ?_; clear H; intro c3 H
 have Ai := xdt c3
 clear c3
 refine xid H ?_ ?_ <;> clear H <;> intro c5 H
 {
 obtain ⟨Ad, Ae⟩ := xqe c5
 clear c5
 obtain rfl := Option.some.inj H
 have p4 : 0 ≤ (Aa : Int) := xod
 have q4 : Aa < (16 : Int) := xod
 have hx4 := k0 (⟨#[48, 49, 50, 51, 52, 53, 54, 55, 56, 57, 65, 66, 67, 68, 69, 70]⟩ : ByteArray) Aa
 replace p4 := eq_true p4
 replace q4 := eq_true q4
 try (have Ab := q4; simp only [ByteArray.size_extract, Nat.min_self] at Ab)
 go_wp2
 go_ret
 exact ⟨xrr, xdr⟩
 }
 obtain ⟨Ad, Ae⟩ := xqn c5
 refine xid H ?_ ?_ <;> clear H <;> intro c7 H
 {
 obtain ⟨Af, Ag⟩ := xqe c7
 clear c7
 obtain rfl := Option.some.inj H
 have p4 : 0 ≤ (Aa : Int) := xod
 have q4 : Aa < (16 : Int) := xod
 have hx4 := k0 (⟨#[48, 49, 50, 51, 52, 53, 54, 55, 56, 57, 65, 66, 67, 68, 69, 70]⟩ : ByteArray) Aa
 replace p4 := eq_true p4
 replace q4 := eq_true q4
 try (have Ab := q4; simp only [ByteArray.size_extract, Nat.min_self] at Ab)
 have p6 : 0 ≤ (Aa : Int) := xod
 have q6 : Aa < (16 : Int) := xod
 have hx6 := k0 (⟨#[48, 49, 50, 51, 52, 53, 54, 55, 56, 57, 97, 98, 99, 100, 101, 102]⟩ : ByteArray) Aa
 replace p6 := eq_true p6
 replace q6 := eq_true q6
 try (have Ah := q6; simp only [ByteArray.size_extract, Nat.min_self] at Ah)
 go_wp2
 go_ret
 exact ⟨xrr, xdr⟩
 }
 obtain ⟨Af, Ag⟩ := xqn c7
 replace H := xa H
 have p4 : 0 ≤ (Aa : Int) := xod
 have q4 : Aa < (16 : Int) := xod
 have hx4 := k0 (⟨#[48, 49, 50, 51, 52, 53, 54, 55, 56, 57, 65, 66, 67, 68, 69, 70]⟩ : ByteArray) Aa
 replace p4 := eq_true p4
 replace q4 := eq_true q4
 try (have Ab := q4; simp only [ByteArray.size_extract, Nat.min_self] at Ab)
 have p6 : 0 ≤ (Aa : Int) := xod
 have q6 : Aa < (16 : Int) := xod
 have hx6 := k0 (⟨#[48, 49, 50, 51, 52, 53, 54, 55, 56, 57, 97, 98, 99, 100, 101, 102]⟩ : ByteArray) Aa
 replace p6 := eq_true p6
 replace q6 := eq_true q6
 try (have Ah := q6; simp only [ByteArray.size_extract, Nat.min_self] at Ah)
 go_wp2
 go_roundg k1
 case measure => have := HK1.out; omega
 case rel => exact ⟨(wrap64 (Aa + 1)), xrr, H, ⟨by have := HK1.out; omega⟩, xdr⟩
 }
 have Ac := xdf c2
 clear c2
 obtain rfl := Option.some.inj H
 go_wp2
 go_ret
 exact ⟨xrr, xdr⟩
 )
 )
def cB : Nat → ByteArray → Int → Bool → Option (Int)
  | 0, _, _, _ => none
  | k + 1, x0, x1, x27 => if x27 = true then (some (-1)) else (if 0 ≤ (wrap64 (x1 + 1)) then (if (wrap64 (x1 + 1)) < (x0.size : Int) then ((bI k (bt x0 (wrap64 (x1 + 1)))).bind fun t547 => (if 0 ≤ (wrap64 (x1 + 2)) then (if (wrap64 (x1 + 2)) < (x0.size : Int) then ((bI k (bt x0 (wrap64 (x1 + 2)))).bind fun t548 => (if t547 < 0 then (some (-1)) else (if t548 < 0 then (some (-1)) else (some (wrap64 ((wrap64 (16 * t547)) + t548)))))) else (none)) else (none))) else (none)) else (none))
def gW (k : Nat) (a0 : ByteArray) (a1 : Int) : Option (Int) := if a1 < 0 then (cB k a0 a1 true) else (if a1 ≥ (a0.size : Int) then (cB k a0 a1 true) else (if (wrap64 ((a0.size : Int) - a1)) < 3 then (cB k a0 a1 true) else (if 0 ≤ a1 then (if a1 < (a0.size : Int) then (cB k a0 a1 ((bt a0 a1) != 37)) else (none)) else (none))))
theorem gM (k : Nat) (a0 : ByteArray) (a1 : Int) (r : Int) (w : World) (h : gW k a0 a1 = some r) :
    Calls Tryz.prog 67 #[.string a0, .int .i64 a1] w fun e w' => e = .returned (.int .i64 r) ∧ Drawn0 w w' := by
 have H := h
 clear h
 unfold gW at H
 have Ai := Zz.mk H
 clear H
 go_enter Tryz.func67, Tryz.ntmps67
 go_upto_region 1 with (fail)
 repeat (go_quiet (fail); go_upto_region 1 with (fail))
 go_cut [27] (fun v27 wc => ∃ kq Ad, v27 = .bool Ad ∧ Zz (cB kq a0 a1 Ad = some r) ∧ Zz (kq ≤ k) ∧ Drawn0 w wc)
 case first => (
 have H := Ai.out
 clear Ai
 refine xid H ?_ ?_ <;> clear H <;> intro c4 H
 {
 have Ae := xdt c4
 clear c4
 (first | rw [Ae] | (simp only [ag, ak]; rw [Ae]) | skip)
 replace H := xa H
 go_wp2
 repeat (go_quiet (fail); try go_wp2)
 go_meet
 case rel => exact ⟨_, (true), xrr, H, ⟨xom⟩, xdr⟩
 }
 have Ae := xdf c4
 clear c4
 (first | rw [Ae] | (simp only [ag, ak]; rw [Ae]) | skip)
 refine xid H ?_ ?_ <;> clear H <;> intro c5 H
 {
 have Aj := xdt c5
 clear c5
 replace H := xa H
 go_wp2
 repeat (go_quiet (fail); try go_wp2)
 go_meet
 case rel => exact ⟨_, (true), xrr, H, ⟨xom⟩, xdr⟩
 }
 have Aj := xdf c5
 clear c5
 refine xid H ?_ ?_ <;> clear H <;> intro c6 H
 {
 have Ak := xdt c6
 clear c6
 replace H := xa H
 go_wp2
 repeat (go_quiet (fail); try go_wp2)
 go_meet
 case rel => exact ⟨_, (true), xrr, H, ⟨xom⟩, xdr⟩
 }
 have Ak := xdf c6
 clear c6
 refine xin H ?_; clear H; intro c7 H
 have Ar := xdt c7
 clear c7
 refine xin H ?_; clear H; intro c8 H
 have As := xdt c8
 clear c8
 replace H := xa H
 obtain ⟨p9, q9, hx9⟩ := xiv a0 a1 xod xod
 go_wp2
 repeat (go_quiet (fail); try go_wp2)
 go_meet
 case rel => exact ⟨_, (((bt a0 a1) != 37)), xrr, H, ⟨xom⟩, xdr⟩
 )
 case rest => (
 clear Ai
 obtain ⟨kq, Ad, rfl, HA, HJ2, ⟨mc2, rfl⟩⟩ := hcut
 cases kq with
 | zero => exact absurd HA.out (by simp [cB])
 | succ kj2 => (
 have H := HA.out
 clear HA
 simp only [cB] at H
 refine xib H ?_ ?_ <;> clear H <;> rintro rfl H
 {
 obtain rfl := Option.some.inj H
 go_wp2
 repeat (go_quiet (fail); try go_wp2)
 go_ret
 exact ⟨xrr, xdr⟩
 }
 obtain ⟨Af, Ac⟩ : ∃ j_ : Int, (wrap64 (a1 + 1)) = j_ := ⟨_, rfl⟩
 first | rw [Ac] at H | simp only [Ac] at H | skip
 have Al : (IntKind.i64.wrap (a1 + 1)) = Af := (ag _).trans Ac
 refine xin H ?_; clear H; intro c12 H
 have An := xdt c12
 clear c12
 refine xin H ?_; clear H; intro c13 H
 have Ao := xdt c13
 clear c13
 replace H := xbd H
 obtain ⟨At, A15, H⟩ := H
 try dsimp only at H
 obtain ⟨Ab, Aa⟩ : ∃ j_ : Int, (wrap64 (a1 + 2)) = j_ := ⟨_, rfl⟩
 first | rw [Aa] at H | simp only [Aa] at H | skip
 (try rw [Aa] at A15)
 have Am : (IntKind.i64.wrap (a1 + 2)) = Ab := (ag _).trans Aa
 refine xin H ?_; clear H; intro c17 H
 have Ap := xdt c17
 clear c17
 refine xin H ?_; clear H; intro c18 H
 have Aq := xdt c18
 clear c18
 replace H := xbd H
 obtain ⟨Au, A20, H⟩ := H
 try dsimp only at H
 refine xid H ?_ ?_ <;> clear H <;> intro c21 H
 {
 have Ag := xdt c21
 clear c21
 obtain rfl := Option.some.inj H
 obtain ⟨p14, q14, hx14⟩ := xiv a0 (Af) xod xod
 go_wp2_with (first | (go_at_call 86; (with_reducible refine (au (w := _) (h := A15.out)).mono ?_); rintro e w' ⟨rfl, ⟨nd, rfl⟩⟩; (try exact xdd); obtain ⟨p19, q19, hx19⟩ := xiv a0 (Ab) xod xod) | (go_at_call 86; (with_reducible refine (au (w := _) (h := A20.out)).mono ?_); rintro e w' ⟨rfl, ⟨nd, rfl⟩⟩; (try exact xdd)))
 repeat (go_quiet (first | (go_at_call 86; (with_reducible refine (au (w := _) (h := A15.out)).mono ?_); rintro e w' ⟨rfl, ⟨nd, rfl⟩⟩; (try exact xdd); obtain ⟨p19, q19, hx19⟩ := xiv a0 (Ab) xod xod) | (go_at_call 86; (with_reducible refine (au (w := _) (h := A20.out)).mono ?_); rintro e w' ⟨rfl, ⟨nd, rfl⟩⟩; (try exact xdd))); try go_wp2_with (first | (go_at_call 86; (with_reducible refine (au (w := _) (h := A15.out)).mono ?_); rintro e w' ⟨rfl, ⟨nd, rfl⟩⟩; (try exact xdd); obtain ⟨p19, q19, hx19⟩ := xiv a0 (Ab) xod xod) | (go_at_call 86; (with_reducible refine (au (w := _) (h := A20.out)).mono ?_); rintro e w' ⟨rfl, ⟨nd, rfl⟩⟩; (try exact xdd))))
 go_ret
 exact ⟨by first | exact xrs | (simp only [← Ac, ← Aa] <;> (first | rfl | simp)) | exact xrr, xdr⟩
 }
 have Ag := xdf c21
 clear c21
 refine xid H ?_ ?_ <;> clear H <;> intro c22 H
 {
 have Ah := xdt c22
 clear c22
 obtain rfl := Option.some.inj H
 obtain ⟨p14, q14, hx14⟩ := xiv a0 (Af) xod xod
 go_wp2_with (first | (go_at_call 86; (with_reducible refine (au (w := _) (h := A15.out)).mono ?_); rintro e w' ⟨rfl, ⟨nd, rfl⟩⟩; (try exact xdd); obtain ⟨p19, q19, hx19⟩ := xiv a0 (Ab) xod xod) | (go_at_call 86; (with_reducible refine (au (w := _) (h := A20.out)).mono ?_); rintro e w' ⟨rfl, ⟨nd, rfl⟩⟩; (try exact xdd)))
 repeat (go_quiet (first | (go_at_call 86; (with_reducible refine (au (w := _) (h := A15.out)).mono ?_); rintro e w' ⟨rfl, ⟨nd, rfl⟩⟩; (try exact xdd); obtain ⟨p19, q19, hx19⟩ := xiv a0 (Ab) xod xod) | (go_at_call 86; (with_reducible refine (au (w := _) (h := A20.out)).mono ?_); rintro e w' ⟨rfl, ⟨nd, rfl⟩⟩; (try exact xdd))); try go_wp2_with (first | (go_at_call 86; (with_reducible refine (au (w := _) (h := A15.out)).mono ?_); rintro e w' ⟨rfl, ⟨nd, rfl⟩⟩; (try exact xdd); obtain ⟨p19, q19, hx19⟩ := xiv a0 (Ab) xod xod) | (go_at_call 86; (with_reducible refine (au (w := _) (h := A20.out)).mono ?_); rintro e w' ⟨rfl, ⟨nd, rfl⟩⟩; (try exact xdd))))
 go_ret
 exact ⟨by first | exact xrs | (simp only [← Ac, ← Aa] <;> (first | rfl | simp)) | exact xrr, xdr⟩
 }
 have Ah := xdf c22
 clear c22
 obtain rfl := Option.some.inj H
 obtain ⟨p14, q14, hx14⟩ := xiv a0 (Af) xod xod
 go_wp2_with (first | (go_at_call 86; (with_reducible refine (au (w := _) (h := A15.out)).mono ?_); rintro e w' ⟨rfl, ⟨nd, rfl⟩⟩; (try exact xdd); obtain ⟨p19, q19, hx19⟩ := xiv a0 (Ab) xod xod) | (go_at_call 86; (with_reducible refine (au (w := _) (h := A20.out)).mono ?_); rintro e w' ⟨rfl, ⟨nd, rfl⟩⟩; (try exact xdd)))
 repeat (go_quiet (first | (go_at_call 86; (with_reducible refine (au (w := _) (h := A15.out)).mono ?_); rintro e w' ⟨rfl, ⟨nd, rfl⟩⟩; (try exact xdd); obtain ⟨p19, q19, hx19⟩ := xiv a0 (Ab) xod xod) | (go_at_call 86; (with_reducible refine (au (w := _) (h := A20.out)).mono ?_); rintro e w' ⟨rfl, ⟨nd, rfl⟩⟩; (try exact xdd))); try go_wp2_with (first | (go_at_call 86; (with_reducible refine (au (w := _) (h := A15.out)).mono ?_); rintro e w' ⟨rfl, ⟨nd, rfl⟩⟩; (try exact xdd); obtain ⟨p19, q19, hx19⟩ := xiv a0 (Ab) xod xod) | (go_at_call 86; (with_reducible refine (au (w := _) (h := A20.out)).mono ?_); rintro e w' ⟨rfl, ⟨nd, rfl⟩⟩; (try exact xdd))))
 go_ret
 exact ⟨by first | exact xrs | (simp only [← Ac, ← Aa] <;> (first | rfl | simp)) | exact xrr, xdr⟩
 )
 )
def bv : Nat → Int → Int → Bool → ByteArray → ByteArray → ByteArray → ByteArray → ByteArray → ByteArray → ByteArray → ByteArray → Option (Bool)
  | 0, _, _, _, _, _, _, _, _, _, _, _ => none
  | k + 1, x0, x1, Ar, Aa, Ab, Ac, Ad, Ae, Af, Ag, Ah => if Ar = true then (some false) else ((bH k x1).bind fun Ai => (if (Go.bits .and .i64 Ai 15) = 0 then (if 0 ≤ x0 then (if x0 = 0 then ((aQ k x1 Aa).bind fun Aj => (some Aj)) else (if x0 = 1 then ((aQ k x1 Ab).bind fun Ak => (some Ak)) else (if x0 = 2 then ((aQ k x1 Ac).bind fun Al => (some Al)) else (if x0 = 3 then ((aQ k x1 Ad).bind fun Am => (some Am)) else (if x0 = 4 then ((aQ k x1 Ae).bind fun An => (some An)) else (if x0 = 5 then ((aQ k x1 Af).bind fun Ao => (some Ao)) else (if x0 = 6 then ((aQ k x1 Ag).bind fun Ap => (some Ap)) else (if x0 = 7 then ((aQ k x1 Ah).bind fun Aq => (some Aq)) else (none))))))))) else (none)) else (some true)))
def bX (k : Nat) (a0 : Int) (a1 : Int) : Option (Bool) := if a0 < 1 then (bv k a0 a1 true (⟨#[]⟩ : ByteArray) (⟨#[58]⟩ : ByteArray) (⟨#[]⟩ : ByteArray) (⟨#[58, 64]⟩ : ByteArray) (⟨#[64]⟩ : ByteArray) (⟨#[58, 64, 47]⟩ : ByteArray) (⟨#[58, 64, 47, 63]⟩ : ByteArray) (⟨#[58, 64, 47, 63]⟩ : ByteArray)) else (bv k a0 a1 (decide (a0 > 7)) (⟨#[]⟩ : ByteArray) (⟨#[58]⟩ : ByteArray) (⟨#[]⟩ : ByteArray) (⟨#[58, 64]⟩ : ByteArray) (⟨#[64]⟩ : ByteArray) (⟨#[58, 64, 47]⟩ : ByteArray) (⟨#[58, 64, 47, 63]⟩ : ByteArray) (⟨#[58, 64, 47, 63]⟩ : ByteArray))
theorem jq : ∀ k, (∀ y0 y1 y2 y3 y4 y5 y6 y7 y8 y9 y10, LeO (bv k y0 y1 y2 y3 y4 y5 y6 y7 y8 y9 y10) (bv (k + 1) y0 y1 y2 y3 y4 y5 y6 y7 y8 y9 y10))
  | 0 => fun _ _ _ _ _ _ _ _ _ _ _ r h => by simp [bv] at h
  | k + 1 => by
    have ih0 := jq k
    have m0 := @iv; have m1 := @gX
    · intro y0 y1 y2 y3 y4 y5 y6 y7 y8 y9 y10
      unfold bv
      exact xmo
theorem mA : ∀ a0 a1 k, LeO (bX k a0 a1) (bX (k + 1) a0 a1) := by
  intro a0 a1 k
  have ih0 := jq k
  have m0 := @iv; have m1 := @gX
  unfold bX
  exact xmo
theorem mh (k : Nat) (a0 : Int) (a1 : Int) (r : Bool) (w : World) (h : bX k a0 a1 = some r) :
    Calls Tryz.prog 87 #[.int .i64 a0, .int .u8 a1] w fun e w' => e = .returned (.bool r) ∧ Below w.heap.size w w' := by
 have hu125 := Tryz.underlying125
 have HB := Zz.mk (Below.refl w.heap.size w)
 have H := h
 clear h
 unfold bX at H
 have Ae := Zz.mk H
 clear H
 go_enter Tryz.func87, Tryz.ntmps87
 go_upto_region 2 with (first | ((with_reducible refine aj (N := 5) rfl ?_); refine xew 5 ?_; intro Ad w4 Aa Ah hb hg; replace HB := xst hb; clear hb hg; have AA := xz8 Aa.out))
 (try simp only [Act.put, xl1, xl2, xl3])
 go_cut [12] (fun v12 wc => ∃ kq Ab, v12 = .bool Ab ∧ Zz (bv kq a0 a1 Ab (⟨#[]⟩ : ByteArray) (⟨#[58]⟩ : ByteArray) (⟨#[]⟩ : ByteArray) (⟨#[58, 64]⟩ : ByteArray) (⟨#[64]⟩ : ByteArray) (⟨#[58, 64, 47]⟩ : ByteArray) (⟨#[58, 64, 47, 63]⟩ : ByteArray) (⟨#[58, 64, 47, 63]⟩ : ByteArray) = some r) ∧ Zz (kq ≤ k) ∧ Zz (wc.heap[Ad]? = some (.cells #[.string (⟨#[]⟩ : ByteArray), .string (⟨#[58]⟩ : ByteArray), .string (⟨#[]⟩ : ByteArray), .string (⟨#[58, 64]⟩ : ByteArray), .string (⟨#[64]⟩ : ByteArray), .string (⟨#[58, 64, 47]⟩ : ByteArray), .string (⟨#[58, 64, 47, 63]⟩ : ByteArray), .string (⟨#[58, 64, 47, 63]⟩ : ByteArray)] 125 (0, 0))) ∧ Zz (Below w.heap.size w wc))
 case first => (
 have H := Ae.out
 clear Ae
 refine xid H ?_ ?_ <;> clear H <;> intro c6 H
 {
 have Ac := xdt c6
 clear c6
 (first | rw [Ac] | (simp only [ag, ak]; rw [Ac]) | skip)
 replace H := xa H
 go_wp2
 go_meet
 case rel => exact ⟨_, (true), xrr, H, ⟨xom⟩, ⟨xbK⟩, ⟨xbl⟩⟩
 }
 have Ac := xdf c6
 clear c6
 (first | rw [Ac] | (simp only [ag, ak]; rw [Ac]) | skip)
 replace H := xa H
 go_wp2
 go_meet
 case rel => exact ⟨_, (decide (a0 > 7)), xrr, H, ⟨xom⟩, ⟨xbK⟩, ⟨xbl⟩⟩
 )
 case rest => (
 clear Ae
 obtain ⟨kq, Ab, rfl, HA, HJ2, Aa, HB⟩ := hcut
 cases kq with
 | zero => exact absurd HA.out (by simp [bv])
 | succ kj2 => (
 have H := HA.out
 clear HA
 simp only [bv] at H
 refine xib H ?_ ?_ <;> clear H <;> rintro rfl H
 {
 obtain rfl := Option.some.inj H
 go_wp2
 go_ret
 exact ⟨xre, xbl⟩
 }
 replace H := xbd H
 obtain ⟨Aj, A8, H⟩ := H
 try dsimp only at H
 refine xid H ?_ ?_ <;> clear H <;> intro c9 H
 {
 obtain ⟨Af, Ag⟩ := xqe c9
 clear c9
 refine xin H ?_; clear H; intro c10 H
 have Ai := xdt c10
 clear c10
 by_cases c11 : a0 = 0
 {
 subst c11
 rw [if_pos rfl] at H
 replace H := xbd H
 obtain ⟨Ak, A12, H⟩ := H
 try dsimp only at H
 obtain rfl := Option.some.inj H
 go_wp2_with (first | ((with_reducible refine xgc (f := 51) rfl ?_); refine xca 14 Tryz.func51 (aV (w := _) (h := A8.out)) ?_; rintro w' ⟨nd, rfl⟩; have Al := xz8 Aa.out) | (go_at_call 50; (with_reducible refine (aw (w := _) (h := A12.out)).mono ?_); rintro e w' ⟨rfl, ⟨nd, rfl⟩⟩))
 go_ret
 exact ⟨xre, xbl⟩
 }
 {
 rw [if_neg c11] at H
 clear c11
 by_cases c14 : a0 = 1
 {
 subst c14
 rw [if_pos rfl] at H
 replace H := xbd H
 obtain ⟨Am, A15, H⟩ := H
 try dsimp only at H
 obtain rfl := Option.some.inj H
 go_wp2_with (first | ((with_reducible refine xgc (f := 51) rfl ?_); refine xca 14 Tryz.func51 (aV (w := _) (h := A8.out)) ?_; rintro w' ⟨nd, rfl⟩; have An := xz8 Aa.out) | (go_at_call 50; (with_reducible refine (aw (w := _) (h := A15.out)).mono ?_); rintro e w' ⟨rfl, ⟨nd, rfl⟩⟩))
 go_ret
 exact ⟨xre, xbl⟩
 }
 {
 rw [if_neg c14] at H
 clear c14
 by_cases c17 : a0 = 2
 {
 subst c17
 rw [if_pos rfl] at H
 replace H := xbd H
 obtain ⟨Ao, A18, H⟩ := H
 try dsimp only at H
 obtain rfl := Option.some.inj H
 go_wp2_with (first | ((with_reducible refine xgc (f := 51) rfl ?_); refine xca 14 Tryz.func51 (aV (w := _) (h := A8.out)) ?_; rintro w' ⟨nd, rfl⟩; have Ap := xz8 Aa.out) | (go_at_call 50; (with_reducible refine (aw (w := _) (h := A18.out)).mono ?_); rintro e w' ⟨rfl, ⟨nd, rfl⟩⟩))
 go_ret
 exact ⟨xre, xbl⟩
 }
 {
 rw [if_neg c17] at H
 clear c17
 by_cases c20 : a0 = 3
 {
 subst c20
 rw [if_pos rfl] at H
 replace H := xbd H
 obtain ⟨Aq, A21, H⟩ := H
 try dsimp only at H
 obtain rfl := Option.some.inj H
 go_wp2_with (first | ((with_reducible refine xgc (f := 51) rfl ?_); refine xca 14 Tryz.func51 (aV (w := _) (h := A8.out)) ?_; rintro w' ⟨nd, rfl⟩; have Ar := xz8 Aa.out) | (go_at_call 50; (with_reducible refine (aw (w := _) (h := A21.out)).mono ?_); rintro e w' ⟨rfl, ⟨nd, rfl⟩⟩))
 go_ret
 exact ⟨xre, xbl⟩
 }
 {
 rw [if_neg c20] at H
 clear c20
 by_cases c23 : a0 = 4
 {
 subst c23
 rw [if_pos rfl] at H
 replace H := xbd H
 obtain ⟨As, A24, H⟩ := H
 try dsimp only at H
 obtain rfl := Option.some.inj H
 go_wp2_with (first | ((with_reducible refine xgc (f := 51) rfl ?_); refine xca 14 Tryz.func51 (aV (w := _) (h := A8.out)) ?_; rintro w' ⟨nd, rfl⟩; have At := xz8 Aa.out) | (go_at_call 50; (with_reducible refine (aw (w := _) (h := A24.out)).mono ?_); rintro e w' ⟨rfl, ⟨nd, rfl⟩⟩))
 go_ret
 exact ⟨xre, xbl⟩
 }
 {
 rw [if_neg c23] at H
 clear c23
 by_cases c26 : a0 = 5
 {
 subst c26
 rw [if_pos rfl] at H
 replace H := xbd H
 obtain ⟨Au, A27, H⟩ := H
 try dsimp only at H
 obtain rfl := Option.some.inj H
 go_wp2_with (first | ((with_reducible refine xgc (f := 51) rfl ?_); refine xca 14 Tryz.func51 (aV (w := _) (h := A8.out)) ?_; rintro w' ⟨nd, rfl⟩; have Av := xz8 Aa.out) | (go_at_call 50; (with_reducible refine (aw (w := _) (h := A27.out)).mono ?_); rintro e w' ⟨rfl, ⟨nd, rfl⟩⟩))
 go_ret
 exact ⟨xre, xbl⟩
 }
 {
 rw [if_neg c26] at H
 clear c26
 by_cases c29 : a0 = 6
 {
 subst c29
 rw [if_pos rfl] at H
 replace H := xbd H
 obtain ⟨Aw, A30, H⟩ := H
 try dsimp only at H
 obtain rfl := Option.some.inj H
 go_wp2_with (first | ((with_reducible refine xgc (f := 51) rfl ?_); refine xca 14 Tryz.func51 (aV (w := _) (h := A8.out)) ?_; rintro w' ⟨nd, rfl⟩; have Ax := xz8 Aa.out) | (go_at_call 50; (with_reducible refine (aw (w := _) (h := A30.out)).mono ?_); rintro e w' ⟨rfl, ⟨nd, rfl⟩⟩))
 go_ret
 exact ⟨xre, xbl⟩
 }
 {
 rw [if_neg c29] at H
 clear c29
 by_cases c32 : a0 = 7
 {
 subst c32
 rw [if_pos rfl] at H
 replace H := xbd H
 obtain ⟨Ay, A33, H⟩ := H
 try dsimp only at H
 obtain rfl := Option.some.inj H
 go_wp2_with (first | ((with_reducible refine xgc (f := 51) rfl ?_); refine xca 14 Tryz.func51 (aV (w := _) (h := A8.out)) ?_; rintro w' ⟨nd, rfl⟩; have Az := xz8 Aa.out) | (go_at_call 50; (with_reducible refine (aw (w := _) (h := A33.out)).mono ?_); rintro e w' ⟨rfl, ⟨nd, rfl⟩⟩))
 go_ret
 exact ⟨xre, xbl⟩
 }
 {
 rw [if_neg c32] at H
 clear c32
 exact absurd H (by simp)
 }
 }
 }
 }
 }
 }
 }
 }
 }
 obtain ⟨Af, Ag⟩ := xqn c9
 obtain rfl := Option.some.inj H
 go_wp2_with (first | ((with_reducible refine xgc (f := 51) rfl ?_); refine xca 14 Tryz.func51 (aV (w := _) (h := A8.out)) ?_; rintro w' ⟨nd, rfl⟩))
 go_ret
 exact ⟨xre, xbl⟩
 )
 )
mutual
def aX : Nat → Int → Bool → Option (Bool)
  | 0, _, _ => none
  | k + 1, x0, x25 => if x25 = true then (some true) else (bD k x0 1)
def bD : Nat → Int → Int → Option (Bool)
  | 0, _, _ => none
  | k + 1, x0, x3 => if x3 ≤ 13 then (if x0 ≥ (wrap64 (x3 * 65536)) then (if x0 ≤ (wrap64 ((wrap64 (x3 * 65536)) + 65533)) then (some true) else (bD k x0 (wrap64 (x3 + 1)))) else (bD k x0 (wrap64 (x3 + 1)))) else (if x0 ≥ 921600 then (some (decide (x0 ≤ 983037))) else (some false))
end
def fD (k : Nat) (a0 : Int) : Option (Bool) := if a0 ≥ 160 then (if a0 ≤ 55295 then (aX k a0 true) else (if a0 ≥ 63744 then (if a0 ≤ 64975 then (aX k a0 true) else (if a0 ≥ 65008 then (aX k a0 (decide (a0 ≤ 65519))) else (aX k a0 false))) else (if a0 ≥ 65008 then (aX k a0 (decide (a0 ≤ 65519))) else (aX k a0 false)))) else (if a0 ≥ 63744 then (if a0 ≤ 64975 then (aX k a0 true) else (if a0 ≥ 65008 then (aX k a0 (decide (a0 ≤ 65519))) else (aX k a0 false))) else (if a0 ≥ 65008 then (aX k a0 (decide (a0 ≤ 65519))) else (aX k a0 false)))
theorem gZ (k : Nat) (a0 : Int) (r : Bool) (w : World) (h : fD k a0 = some r) :
    Calls Tryz.prog 88 #[.int .i64 a0] w fun e w' => e = .returned (.bool r) ∧ Drawn0 w w' := by
 have H := h
 clear h
 unfold fD at H
 have Ak := Zz.mk H
 clear H
 go_enter Tryz.func88, Tryz.ntmps88
 go_upto_region 1 with (fail)
 go_cut [25] (fun v25 wc => ∃ kq Aa, v25 = .bool Aa ∧ Zz (aX kq a0 Aa = some r) ∧ Zz (kq ≤ k) ∧ Drawn0 w wc)
 case first => (
 have H := Ak.out
 clear Ak
 refine xid H ?_ ?_ <;> clear H <;> intro c3 H
 {
 have Ab := xdt c3
 clear c3
 (first | rw [Ab] | (simp only [ag, ak]; rw [Ab]) | skip)
 refine xid H ?_ ?_ <;> clear H <;> intro c4 H
 {
 have Al := xdt c4
 clear c4
 replace H := xa H
 go_wp2
 go_meet
 case rel => exact ⟨_, (true), xrr, H, ⟨xom⟩, xdr⟩
 }
 have Al := xdf c4
 clear c4
 refine xid H ?_ ?_ <;> clear H <;> intro c5 H
 {
 have Am := xdt c5
 clear c5
 refine xid H ?_ ?_ <;> clear H <;> intro c6 H
 {
 have An := xdt c6
 clear c6
 replace H := xa H
 go_wp2
 go_meet
 case rel => exact ⟨_, (true), xrr, H, ⟨xom⟩, xdr⟩
 }
 have An := xdf c6
 clear c6
 refine xid H ?_ ?_ <;> clear H <;> intro c7 H
 {
 have Ao := xdt c7
 clear c7
 replace H := xa H
 go_wp2
 go_meet
 case rel => exact ⟨_, (decide (a0 ≤ 65519)), xrr, H, ⟨xom⟩, xdr⟩
 }
 have Ao := xdf c7
 clear c7
 replace H := xa H
 go_wp2
 go_meet
 case rel => exact ⟨_, (false), xrr, H, ⟨xom⟩, xdr⟩
 }
 have Am := xdf c5
 clear c5
 refine xid H ?_ ?_ <;> clear H <;> intro c8 H
 {
 have Ap := xdt c8
 clear c8
 replace H := xa H
 go_wp2
 go_meet
 case rel => exact ⟨_, (decide (a0 ≤ 65519)), xrr, H, ⟨xom⟩, xdr⟩
 }
 have Ap := xdf c8
 clear c8
 replace H := xa H
 go_wp2
 go_meet
 case rel => exact ⟨_, (false), xrr, H, ⟨xom⟩, xdr⟩
 }
 have Ab := xdf c3
 clear c3
 (first | rw [Ab] | (simp only [ag, ak]; rw [Ab]) | skip)
 refine xid H ?_ ?_ <;> clear H <;> intro c9 H
 {
 have Aq := xdt c9
 clear c9
 refine xid H ?_ ?_ <;> clear H <;> intro c10 H
 {
 have Ad := xdt c10
 clear c10
 replace H := xa H
 go_wp2
 go_meet
 case rel => exact ⟨_, (true), xrr, H, ⟨xom⟩, xdr⟩
 }
 have Ad := xdf c10
 clear c10
 refine xid H ?_ ?_ <;> clear H <;> intro c11 H
 {
 have Ae := xdt c11
 clear c11
 replace H := xa H
 go_wp2
 go_meet
 case rel => exact ⟨_, (decide (a0 ≤ 65519)), xrr, H, ⟨xom⟩, xdr⟩
 }
 have Ae := xdf c11
 clear c11
 replace H := xa H
 go_wp2
 go_meet
 case rel => exact ⟨_, (false), xrr, H, ⟨xom⟩, xdr⟩
 }
 have Aq := xdf c9
 clear c9
 refine xid H ?_ ?_ <;> clear H <;> intro c12 H
 {
 have Af := xdt c12
 clear c12
 replace H := xa H
 go_wp2
 go_meet
 case rel => exact ⟨_, (decide (a0 ≤ 65519)), xrr, H, ⟨xom⟩, xdr⟩
 }
 have Af := xdf c12
 clear c12
 replace H := xa H
 go_wp2
 go_meet
 case rel => exact ⟨_, (false), xrr, H, ⟨xom⟩, xdr⟩
 )
 case rest => (
 clear Ak
 obtain ⟨kq, Aa, rfl, HA, HJ1, ⟨mc1, rfl⟩⟩ := hcut
 cases kq with
 | zero => exact absurd HA.out (by simp [aX])
 | succ kj1 => (
 have H := HA.out
 clear HA
 simp only [aX] at H
 refine xib H ?_ ?_ <;> clear H <;> rintro rfl H
 {
 obtain rfl := Option.some.inj H
 go_wp2
 go_ret
 exact ⟨xrr, xdr⟩
 }
 have H' := Zz.mk H
 clear H
 go_wp2
 go_loopg [3] kj1 (fun kq v3 w' => ∃ Ac, v3 = .int .i64 Ac ∧ Zz (bD kq a0 Ac = some r) ∧ Zz (kq ≤ kj1) ∧ Drawn0 w w')
 case atStart => exact ⟨(1), xrr, H', ⟨Nat.le_refl _⟩, xdr⟩
 case round => (
 clear H'
 obtain ⟨Ac, rfl, HA, HK2, ⟨m2, rfl⟩⟩ := hrel
 cases gk with
 | zero => exact absurd HA.out (by simp [bD])
 | succ k2 => (
 have H := HA.out
 clear HA
 simp only [bD] at H
 refine xid H ?_ ?_ <;> clear H <;> intro c14 H
 {
 have Ag := xdt c14
 clear c14
 refine xid H ?_ ?_ <;> clear H <;> intro c15 H
 {
 have Ah := xdt c15
 clear c15
 refine xid H ?_ ?_ <;> clear H <;> intro c16 H
 {
 have Ai := xdt c16
 clear c16
 obtain rfl := Option.some.inj H
 go_wp2
 go_ret
 exact ⟨xrr, xdr⟩
 }
 have Ai := xdf c16
 clear c16
 replace H := xa H
 go_wp2
 go_roundg k2
 case measure => have := HJ1.out; have := HK2.out; omega
 case rel => exact ⟨(wrap64 (Ac + 1)), xrr, H, ⟨by have := HJ1.out; have := HK2.out; omega⟩, xdr⟩
 }
 have Ah := xdf c15
 clear c15
 replace H := xa H
 go_wp2
 go_roundg k2
 case measure => have := HJ1.out; have := HK2.out; omega
 case rel => exact ⟨(wrap64 (Ac + 1)), xrr, H, ⟨by have := HJ1.out; have := HK2.out; omega⟩, xdr⟩
 }
 have Ag := xdf c14
 clear c14
 refine xid H ?_ ?_ <;> clear H <;> intro c17 H
 {
 have Aj := xdt c17
 clear c17
 obtain rfl := Option.some.inj H
 go_wp2
 go_ret
 exact ⟨xrr, xdr⟩
 }
 have Aj := xdf c17
 clear c17
 obtain rfl := Option.some.inj H
 go_wp2
 go_ret
 exact ⟨xrr, xdr⟩
 )
 )
 )
 )
def fh (a0 : Int) : Option (Bool) := if a0 ≥ 57344 then (if a0 ≤ 63743 then (some true) else (if a0 ≥ 983040 then (if a0 ≤ 1048573 then (some true) else (if a0 ≥ 1048576 then (some (decide (a0 ≤ 1114109))) else (some false))) else (if a0 ≥ 1048576 then (some (decide (a0 ≤ 1114109))) else (some false)))) else (if a0 ≥ 983040 then (if a0 ≤ 1048573 then (some true) else (if a0 ≥ 1048576 then (some (decide (a0 ≤ 1114109))) else (some false))) else (if a0 ≥ 1048576 then (some (decide (a0 ≤ 1114109))) else (some false)))
theorem lw (a0 : Int) (r : Bool) (w : World) (h : fh a0 = some r) :
    Calls Tryz.prog 89 #[.int .i64 a0] w fun e w' => e = .returned (.bool r) ∧ Drawn0 w w' := by
 have H := h
 clear h
 unfold fh at H
 refine xid H ?_ ?_ <;> clear H <;> intro c2 H
 {
 have Ac := xdt c2
 clear c2
 refine xid H ?_ ?_ <;> clear H <;> intro c3 H
 {
 have Ad := xdt c3
 clear c3
 obtain rfl := Option.some.inj H
 go_enter Tryz.func89, Tryz.ntmps89
 go_wp2
 go_ret
 exact ⟨xrr, xdr⟩
 }
 have Ad := xdf c3
 clear c3
 refine xid H ?_ ?_ <;> clear H <;> intro c4 H
 {
 have Ae := xdt c4
 clear c4
 refine xid H ?_ ?_ <;> clear H <;> intro c5 H
 {
 have Af := xdt c5
 clear c5
 obtain rfl := Option.some.inj H
 go_enter Tryz.func89, Tryz.ntmps89
 go_wp2
 go_ret
 exact ⟨xrr, xdr⟩
 }
 have Af := xdf c5
 clear c5
 refine xid H ?_ ?_ <;> clear H <;> intro c6 H
 {
 have Ag := xdt c6
 clear c6
 obtain rfl := Option.some.inj H
 go_enter Tryz.func89, Tryz.ntmps89
 go_wp2
 go_ret
 exact ⟨xrr, xdr⟩
 }
 have Ag := xdf c6
 clear c6
 obtain rfl := Option.some.inj H
 go_enter Tryz.func89, Tryz.ntmps89
 go_wp2
 go_ret
 exact ⟨xrr, xdr⟩
 }
 have Ae := xdf c4
 clear c4
 refine xid H ?_ ?_ <;> clear H <;> intro c7 H
 {
 have Ah := xdt c7
 clear c7
 obtain rfl := Option.some.inj H
 go_enter Tryz.func89, Tryz.ntmps89
 go_wp2
 go_ret
 exact ⟨xrr, xdr⟩
 }
 have Ah := xdf c7
 clear c7
 obtain rfl := Option.some.inj H
 go_enter Tryz.func89, Tryz.ntmps89
 go_wp2
 go_ret
 exact ⟨xrr, xdr⟩
 }
 have Ac := xdf c2
 clear c2
 refine xid H ?_ ?_ <;> clear H <;> intro c8 H
 {
 have Ai := xdt c8
 clear c8
 refine xid H ?_ ?_ <;> clear H <;> intro c9 H
 {
 have Aj := xdt c9
 clear c9
 obtain rfl := Option.some.inj H
 go_enter Tryz.func89, Tryz.ntmps89
 go_wp2
 go_ret
 exact ⟨xrr, xdr⟩
 }
 have Aj := xdf c9
 clear c9
 refine xid H ?_ ?_ <;> clear H <;> intro c10 H
 {
 have Aa := xdt c10
 clear c10
 obtain rfl := Option.some.inj H
 go_enter Tryz.func89, Tryz.ntmps89
 go_wp2
 go_ret
 exact ⟨xrr, xdr⟩
 }
 have Aa := xdf c10
 clear c10
 obtain rfl := Option.some.inj H
 go_enter Tryz.func89, Tryz.ntmps89
 go_wp2
 go_ret
 exact ⟨xrr, xdr⟩
 }
 have Ai := xdf c8
 clear c8
 refine xid H ?_ ?_ <;> clear H <;> intro c11 H
 {
 have Ab := xdt c11
 clear c11
 obtain rfl := Option.some.inj H
 go_enter Tryz.func89, Tryz.ntmps89
 go_wp2
 go_ret
 exact ⟨xrr, xdr⟩
 }
 have Ab := xdf c11
 clear c11
 obtain rfl := Option.some.inj H
 go_enter Tryz.func89, Tryz.ntmps89
 go_wp2
 go_ret
 exact ⟨xrr, xdr⟩
end Go.Proofs.YtpmflpeckoeooaaGreatDoor.X
