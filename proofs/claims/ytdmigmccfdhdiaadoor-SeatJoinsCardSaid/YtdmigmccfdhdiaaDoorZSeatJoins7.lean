/- Texts that the law's proof needs, joined by a program of this session. -/
import Derived.Test.YtdmigmccfdhdiaaDoorZSeatJoins1
import Derived.Test.YtdmigmccfdhdiaaDoorZSeatJoins6
namespace Go.Proofs.YtdmigmccfdhdiaaDoor.X
open Go.RowKit Go.Proofs.YtdmigmccfdhdiaaDoorW.PrintWords Go.Proofs.YtdmigmccfdhdiaaDoorW.PrintLast Go.Proofs.YtdmigmccfdhdiaaDoorW.PrintMore
attribute [local go_sem] max2_int min2_int max_two min_two max_three min_three max_four min_four
set_option linter.unusedVariables false
set_option linter.unusedSimpArgs false
def monikerref02_Decode.l0 : Nat → ByteArray → Int → Int → Option (Int × Int × Bool)
  | 0, _, _, _ => none
  | k + 1, x0, x3, x4 => if x4 < 9 then ((monikerref02_row.f x4).bind fun bt236 => ((monikerref02_fits.f k x0 bt236.1 bt236.2.1 bt236.2.2.1 bt236.2.2.2.1 bt236.2.2.2.2).bind fun t242 => (if t242 = bt236.2.2.2.2 then (if 0 ≤ t242 then (if t242 ≤ (x0.size : Int) then ((monikerref02_value.f k (x0.extract 0 (t242 : Int).toNat)).bind fun t243 => (some (t243, t242, true))) else (none)) else (none)) else (monikerref02_Decode.l0 k x0 (mx x3 t242) (wrap64 (x4 + 1)))))) else (some (0, x3, false))
def monikerref02_Decode.f (k : Nat) (a0 : ByteArray) : Option (Int × Int × Bool) := if a0.toList = ([] : List UInt8) then (some (0, 0, false)) else (monikerref02_Decode.l0 k a0 1 0)
theorem monikerref02_Decode.mono_l : ∀ k, (∀ y0 y1 y2, LeO (monikerref02_Decode.l0 k y0 y1 y2) (monikerref02_Decode.l0 (k + 1) y0 y1 y2))
  | 0 => fun _ _ _ r h => by simp [monikerref02_Decode.l0] at h
  | k + 1 => by
    have ih0 := monikerref02_Decode.mono_l k
    have m0 := @monikerref02_fits.mono; have m1 := @monikerref02_value.mono
    · intro y0 y1 y2
      unfold monikerref02_Decode.l0
      exact xmo
theorem monikerref02_Decode.mono : ∀ a0 k, LeO (monikerref02_Decode.f k a0) (monikerref02_Decode.f (k + 1) a0) := by
  intro a0 k
  have ih0 := monikerref02_Decode.mono_l k
  have m0 := @monikerref02_fits.mono; have m1 := @monikerref02_value.mono
  unfold monikerref02_Decode.f
  exact xmo
set_option maxHeartbeats 8000000 in
set_option maxRecDepth 100000 in
theorem monikerref02_Decode.calls (k : Nat) (a0 : ByteArray) (r1 : Int) (r2 : Int) (r3 : Bool) (w : World) (h : monikerref02_Decode.f k a0 = some (r1, r2, r3)) :
    Calls Tryd.prog 35 #[.string a0] w fun e w' => e = .returned (.agg #[.int .i64 r1, .int .i64 r2, .bool r3]) ∧ Below w.heap.size w w' := by
 have hu59 := Tryd.underlying59
 have hu84 := Tryd.underlying84
 have HB := Aside0.mk (Below.refl w.heap.size w)
 have H : (if a0.toList = ([] : List UInt8) then (some (0, 0, false)) else (monikerref02_Decode.l0 k a0 1 0)) = some (r1, r2, r3) := h
 clear h
 by_cases c2 : a0.toList = ([] : List UInt8)
 ·
  rw [if_pos c2] at H
  have c2b0 : (a0.toList == ([] : List UInt8)) = true := beq_iff_eq.mpr c2
  have c2b1 : (a0.toList != ([] : List UInt8)) = false := bne_eq_false_iff_eq.mpr c2
  clear c2
  simp only [Option.some.injEq, Prod.mk.injEq] at H
  obtain ⟨rfl, rfl, rfl⟩ := H
  go_enter Tryd.func35, Tryd.ntmps35
  go_wp2_with (first | ((with_reducible refine gate_dst (N := 2) rfl ?_); refine xev 2 #[.int .i64 0, .int .i64 0, .bool false] 59 ?_; intro gb235 hg w3 hbox hb; have BK235 := Aside0.mk (hbox); have GW235 := xsz hg; have GE235 := GW235; replace HB := xst hb; clear hb hbox hg; obtain ⟨hcz4_0, hcz4_1, hcz4_2⟩ := xc3 BK235; have hfz4_0 := xf BK235 0; have hfz4_1 := xf BK235 1; have hfz4_2 := xf BK235 2))
  refine bodyPost_ret (results_cell_row rfl _ _ gb235 59 #[.int .i64 0, .int .i64 0, .bool false] (0, 0) _ rfl xbk Tryd.underlying59 rfl (by kernel_rfl)) rfl ?_
  exact ⟨xre, xbl⟩
 ·
  rw [if_neg c2] at H
  have c2b0 : (a0.toList == ([] : List UInt8)) = false := beq_eq_false_iff_ne.mpr c2
  have c2b1 : (a0.toList != ([] : List UInt8)) = true := bne_iff_ne.mpr c2
  have H' := Aside0.mk H
  clear H
  go_enter Tryd.func35, Tryd.ntmps35
  go_wp2_with (first | ((with_reducible refine gate_dst (N := 2) rfl ?_); refine xev 2 #[.int .i64 0, .int .i64 0, .bool false] 59 ?_; intro gb235 hg w5 hbox hb; have BK235 := Aside0.mk (hbox); have GW235 := xsz hg; have GE235 := GW235; replace HB := xst hb; clear hb hbox hg))
  go_loopg [3, 4] k (fun kq v3 v4 w' => ∃ (x3_1 : Int) (x4_1 : Int) (x236000_1 : Int) (x236001_1 : Int) (x236002_1 : Bool), v3 = .int .i64 x3_1 ∧ v4 = .int .i64 x4_1 ∧ Aside0 (monikerref02_Decode.l0 kq a0 x3_1 x4_1 = some (r1, r2, r3)) ∧ Aside0 (kq ≤ k) ∧ Aside0 (w'.heap[gb235]? = some (.cells #[.int .i64 x236000_1, .int .i64 x236001_1, .bool x236002_1] 59 (0, 0))) ∧ Aside0 (Below w.heap.size w w'))
  case atStart => exact ⟨(1), (0), (0), (0), (false), xrr, xrr, H', ⟨Nat.le_refl _⟩, ⟨xbk⟩, ⟨xbl⟩⟩
  case round =>
   clear H'
   clear c2b0 c2b1
   obtain ⟨x3_1, x4_1, x236000_1, x236001_1, x236002_1, rfl, rfl, HA, HK1, BK235, HB⟩ := hrel
   cases gk with
   | zero => exact absurd HA.out (by simp [monikerref02_Decode.l0])
   | succ k1 =>
    have H := HA.out
    clear HA
    simp only [monikerref02_Decode.l0] at H
    by_cases c6 : x4_1 < 9
    ·
     rw [if_pos c6] at H
     have c6b0 := decide_eq_true c6
     clear c6
     replace H := Option.bind_eq_some_iff.mp H
     obtain ⟨⟨t236, t237, t238, t239, t240⟩, A70, H⟩ := H
     try dsimp only at H
     have A7 := Aside0.mk A70
     clear A70
     replace H := Option.bind_eq_some_iff.mp H
     obtain ⟨t242, A80, H⟩ := H
     try dsimp only at H
     have A8 := Aside0.mk A80
     clear A80
     by_cases c9 : t242 = t240
     ·
      rw [if_pos c9] at H
      have c9b0 : (t242 == t240) = true := beq_iff_eq.mpr c9
      have c9b1 : (t242 != t240) = false := bne_eq_false_iff_eq.mpr c9
      clear c9
      by_cases c10 : 0 ≤ t242
      ·
       rw [if_pos c10] at H
       have c10b0 := eq_true c10
       have c10b1 := decide_eq_true c10
       clear c10
       by_cases c11 : t242 ≤ (a0.size : Int)
       ·
        rw [if_pos c11] at H
        have c11b0 := eq_true c11
        have c11b1 := decide_eq_true c11
        clear c11
        obtain ⟨ji12, hji12⟩ : ∃ j_ : ByteArray, (a0.extract 0 (t242 : Int).toNat) = j_ := ⟨_, rfl⟩
        try (have hji12x := hji12; simp only [Int.toNat_natCast, Int.toNat_ofNat] at hji12x)
        first | rw [hji12] at H | simp only [hji12] at H | skip
        (try rw [hji12] at A7)
        (try rw [hji12] at A8)
        replace H := Option.bind_eq_some_iff.mp H
        obtain ⟨t243, A130, H⟩ := H
        try dsimp only at H
        have A13 := Aside0.mk A130
        clear A130
        simp only [Option.some.injEq, Prod.mk.injEq] at H
        obtain ⟨rfl, rfl, rfl⟩ := H
        go_wp2_with (first | ((with_reducible refine gate_callee (f := 54) rfl ?_); refine xgl 15 Tryd.func54 #[.int .i64 x4_1] ?_; (with_reducible refine (monikerref02_row.calls x4_1 t236 t237 t238 t239 t240 _ A7.out).mono ?_); rintro e w14 ⟨rfl, hb⟩; refine ⟨_, rfl, ?_⟩; replace BK235 := xbb (g := gb235) (o := .cells #[.int .i64 x236000_1, .int .i64 x236001_1, .bool x236002_1] 59 (0, 0)) hb; replace HB := xst hb; (try clear hb)) | ((with_reducible refine gate_dst (N := 5) rfl ?_); refine xev 5 #[.int .i64 0, .int .i64 0, .int .i64 0, .int .i64 0, .int .i64 0] 84 ?_; intro gb241 hg w15 hbox hb; have BK241 := Aside0.mk (hbox); have GW241 := xsz hg; have GE241 := GW241; have NB235_241 := xlt (g := gb235) hg; have NB241_235 := xgt (g := gb235) hg; replace BK235 := xbb (g := gb235) (o := .cells #[.int .i64 x236000_1, .int .i64 x236001_1, .bool x236002_1] 59 (0, 0)) hb; replace HB := xst hb; clear hb hbox hg; have hnb16 := NB241_235.out; have hnc16 := NB235_241.out; obtain ⟨hcz17_0, hcz17_1, hcz17_2, hcz17_3, hcz17_4⟩ := xc5 BK241; have hfz17_0 := xf BK241 0; have hfz17_1 := xf BK241 1; have hfz17_2 := xf BK241 2; have hfz17_3 := xf BK241 3; have hfz17_4 := xf BK241 4) | ((with_reducible refine gate_callee (f := 55) rfl ?_); refine xgl 18 Tryd.func55 #[.string a0, .agg #[.int .i64 t236, .int .i64 t237, .int .i64 t238, .int .i64 t239, .int .i64 t240]] ?_; (with_reducible refine (monikerref02_fits.calls k1 a0 t236 t237 t238 t239 t240 t242 _ A8.out).mono ?_); rintro e w18 ⟨rfl, hb⟩; refine ⟨_, rfl, ?_⟩; replace BK235 := xbb (g := gb235) (o := .cells #[.int .i64 x236000_1, .int .i64 x236001_1, .bool x236002_1] 59 (0, 0)) hb; replace BK241 := xbb (g := gb241) (o := .cells #[.int .i64 t236, .int .i64 t237, .int .i64 t238, .int .i64 t239, .int .i64 t240] 84 (0, 0)) hb; replace HB := xst hb; (try clear hb); obtain ⟨hcz19_0, hcz19_1, hcz19_2, hcz19_3, hcz19_4⟩ := xc5 BK241; have hfz19_0 := xf BK241 0; have hfz19_1 := xf BK241 1; have hfz19_2 := xf BK241 2; have hfz19_3 := xf BK241 3; have hfz19_4 := xf BK241 4) | ((with_reducible refine gate_callee (f := 56) rfl ?_); refine goesL_ (some 26) rfl rfl Tryd.func56 (by kernel_rfl) rfl #[.string ji12] rfl (by (try simp only [List.map_toArray, List.map_cons, List.map_nil]); first | done | (simp only [hji12]; rfl) | rfl | (simp only [List.length_drop, List.length_take]; rfl)) ?_; (with_reducible refine (monikerref02_value.calls k1 ji12 t243 _ A13.out).mono ?_); rintro e w' ⟨rfl, ⟨nd, rfl⟩⟩; refine ⟨_, rfl, ?_⟩; (try (rw [drewN_self w18]; generalize hq_ : World.drewN w18 _ = w18; have n0_ : Aside0 (w18.heap[gb235]? = some (.cells #[.int .i64 x236000_1, .int .i64 x236001_1, .bool x236002_1] 59 (0, 0))) := ⟨by rw [← hq_]; exact xbk⟩; have n1_ : Aside0 (w18.heap[gb241]? = some (.cells #[.int .i64 t236, .int .i64 t237, .int .i64 t238, .int .i64 t239, .int .i64 t240] 84 (0, 0))) := ⟨by rw [← hq_]; exact xbk⟩; have n2_ : Aside0 (Below w.heap.size w w18) := ⟨by rw [← hq_]; exact xbl⟩; clear BK235 BK241 HB hq_; have BK235 := n0_; have BK241 := n1_; have HB := n2_; clear n0_ n1_ n2_)); obtain ⟨hcz20_0, hcz20_1, hcz20_2⟩ := xc3 BK235; have hfz20_0 := xf BK235 0; have hfz20_1 := xf BK235 1; have hfz20_2 := xf BK235 2))
        refine bodyPost_ret (results_cell_row rfl _ _ gb235 59 #[.int .i64 t243, .int .i64 t242, .bool true] (0, 0) _ rfl xbk Tryd.underlying59 rfl (by kernel_rfl)) rfl ?_
        exact ⟨by first | rfl | (simp [errW_none, errW_some] <;> first | rfl | (simp only [xp_isEmpty, bne, Bool.not_not]; done)) | (simp only [← hji12]; first | rfl | (simp [errW_none, errW_some] <;> rfl)) | (simp [*, errW_none, errW_some] <;> rfl), xbl⟩
       ·
        rw [if_neg c11] at H
        exact absurd H (by simp)
      ·
       rw [if_neg c10] at H
       exact absurd H (by simp)
     ·
      rw [if_neg c9] at H
      have c9b0 : (t242 == t240) = false := beq_eq_false_iff_ne.mpr c9
      have c9b1 : (t242 != t240) = true := bne_iff_ne.mpr c9
      obtain ⟨ji21, hji21⟩ : ∃ j_ : Int, (mx x3_1 t242) = j_ := ⟨_, rfl⟩
      first | rw [hji21] at H | simp only [hji21] at H | skip
      (try rw [hji21] at A7)
      (try rw [hji21] at A8)
      have hji21_ : (if x3_1 < t242 then t242 else x3_1) = ji21 := hji21
      have H' := Aside0.mk H
      clear H
      go_wp2_with (first | ((with_reducible refine gate_callee (f := 54) rfl ?_); refine xgl 15 Tryd.func54 #[.int .i64 x4_1] ?_; (with_reducible refine (monikerref02_row.calls x4_1 t236 t237 t238 t239 t240 _ A7.out).mono ?_); rintro e w22 ⟨rfl, hb⟩; refine ⟨_, rfl, ?_⟩; replace BK235 := xbb (g := gb235) (o := .cells #[.int .i64 x236000_1, .int .i64 x236001_1, .bool x236002_1] 59 (0, 0)) hb; replace HB := xst hb; (try clear hb)) | ((with_reducible refine gate_dst (N := 5) rfl ?_); refine xev 5 #[.int .i64 0, .int .i64 0, .int .i64 0, .int .i64 0, .int .i64 0] 84 ?_; intro gb241 hg w23 hbox hb; have BK241 := Aside0.mk (hbox); have GW241 := xsz hg; have GE241 := GW241; have NB235_241 := xlt (g := gb235) hg; have NB241_235 := xgt (g := gb235) hg; replace BK235 := xbb (g := gb235) (o := .cells #[.int .i64 x236000_1, .int .i64 x236001_1, .bool x236002_1] 59 (0, 0)) hb; replace HB := xst hb; clear hb hbox hg; have hnb24 := NB241_235.out; have hnc24 := NB235_241.out; obtain ⟨hcz25_0, hcz25_1, hcz25_2, hcz25_3, hcz25_4⟩ := xc5 BK241; have hfz25_0 := xf BK241 0; have hfz25_1 := xf BK241 1; have hfz25_2 := xf BK241 2; have hfz25_3 := xf BK241 3; have hfz25_4 := xf BK241 4) | ((with_reducible refine gate_callee (f := 55) rfl ?_); refine xgl 18 Tryd.func55 #[.string a0, .agg #[.int .i64 t236, .int .i64 t237, .int .i64 t238, .int .i64 t239, .int .i64 t240]] ?_; (with_reducible refine (monikerref02_fits.calls k1 a0 t236 t237 t238 t239 t240 t242 _ A8.out).mono ?_); rintro e w26 ⟨rfl, hb⟩; refine ⟨_, rfl, ?_⟩; replace BK235 := xbb (g := gb235) (o := .cells #[.int .i64 x236000_1, .int .i64 x236001_1, .bool x236002_1] 59 (0, 0)) hb; replace BK241 := xbb (g := gb241) (o := .cells #[.int .i64 t236, .int .i64 t237, .int .i64 t238, .int .i64 t239, .int .i64 t240] 84 (0, 0)) hb; replace HB := xst hb; (try clear hb); obtain ⟨hcz27_0, hcz27_1, hcz27_2, hcz27_3, hcz27_4⟩ := xc5 BK241; have hfz27_0 := xf BK241 0; have hfz27_1 := xf BK241 1; have hfz27_2 := xf BK241 2; have hfz27_3 := xf BK241 3; have hfz27_4 := xf BK241 4))
      first | go_roundg k1 | (simp only [← hji21]; go_roundg k1)
      case measure => have := HK1.out; omega
      case rel => exact ⟨(ji21), (wrap64 (x4_1 + 1)), (x236000_1), (x236001_1), (x236002_1), (by first | rfl | (simp; done) | (simp only [← hji21] <;> (first | rfl | simp)) | (simp [*]; done) | (simp [wrap64]; done)), xrr, H', ⟨by have := HK1.out; omega⟩, ⟨xbk⟩, ⟨xbl⟩⟩
    ·
     rw [if_neg c6] at H
     have c6b0 := decide_eq_false c6
     clear c6
     simp only [Option.some.injEq, Prod.mk.injEq] at H
     obtain ⟨rfl, rfl, rfl⟩ := H
     obtain ⟨hcz28_0, hcz28_1, hcz28_2⟩ := xc3 BK235
     have hfz28_0 := xf BK235 0
     have hfz28_1 := xf BK235 1
     have hfz28_2 := xf BK235 2
     go_wp2
     refine bodyPost_ret (results_cell_row rfl _ _ gb235 59 #[.int .i64 0, .int .i64 x3_1, .bool false] (0, 0) _ rfl xbk Tryd.underlying59 rfl (by kernel_rfl)) rfl ?_
     exact ⟨xre, xbl⟩
def monikerref01_In.l0 : Nat → Int → ByteArray → Int → Option (Bool)
  | 0, _, _, _ => none
  | k + 1, x0, x1, x5 => if x5 < (x1.size : Int) then (if 0 ≤ x5 then (if (bt x1 x5) = x0 then (some true) else (monikerref01_In.l0 k x0 x1 (wrap64 (x5 + 1)))) else (none)) else (some false)
def monikerref01_In.f (k : Nat) (a0 : Int) (a1 : ByteArray) : Option (Bool) := monikerref01_In.l0 k a0 a1 0
theorem monikerref01_In.mono_l : ∀ k, (∀ y0 y1 y2, LeO (monikerref01_In.l0 k y0 y1 y2) (monikerref01_In.l0 (k + 1) y0 y1 y2))
  | 0 => fun _ _ _ r h => by simp [monikerref01_In.l0] at h
  | k + 1 => by
    have ih0 := monikerref01_In.mono_l k
    · intro y0 y1 y2
      unfold monikerref01_In.l0
      exact xmo
theorem monikerref01_In.mono : ∀ a0 a1 k, LeO (monikerref01_In.f k a0 a1) (monikerref01_In.f (k + 1) a0 a1) := by
  intro a0 a1 k
  have ih0 := monikerref01_In.mono_l k
  unfold monikerref01_In.f
  exact xmo
set_option maxHeartbeats 8000000 in
set_option maxRecDepth 100000 in
theorem monikerref01_In.calls (k : Nat) (a0 : Int) (a1 : ByteArray) (r : Bool) (w : World) (h : monikerref01_In.f k a0 a1 = some r) :
    Calls Tryd.prog 37 #[.int .u8 a0, .string a1] w fun e w' => e = .returned (.bool r) ∧ Drawn0 w w' := by
 have H : (monikerref01_In.l0 k a0 a1 0) = some r := h
 clear h
 have H' := Aside0.mk H
 clear H
 go_enter Tryd.func37, Tryd.ntmps37
 go_wp2
 go_loopg [5] k (fun kq v5 w' => ∃ (x5_1 : Int), v5 = .int .i64 x5_1 ∧ Aside0 (monikerref01_In.l0 kq a0 a1 x5_1 = some r) ∧ Aside0 (kq ≤ k) ∧ Drawn0 w w')
 case atStart => exact ⟨(0), xrr, H', ⟨Nat.le_refl _⟩, xdr⟩
 case round =>
  clear H'
  obtain ⟨x5_1, rfl, HA, HK1, ⟨m1, rfl⟩⟩ := hrel
  cases gk with
  | zero => exact absurd HA.out (by simp [monikerref01_In.l0])
  | succ k1 =>
   have H := HA.out
   clear HA
   simp only [monikerref01_In.l0] at H
   by_cases c3 : x5_1 < (a1.size : Int)
   ·
    rw [if_pos c3] at H
    have c3b0 := decide_eq_true c3
    clear c3
    by_cases c4 : 0 ≤ x5_1
    ·
     rw [if_pos c4] at H
     have c4b0 := decide_eq_true c4
     clear c4
     by_cases c6 : (bt a1 x5_1) = a0
     ·
      rw [if_pos c6] at H
      have c6b0 : ((bt a1 x5_1) == a0) = true := beq_iff_eq.mpr c6
      have c6b1 : ((bt a1 x5_1) != a0) = false := bne_eq_false_iff_eq.mpr c6
      clear c6
      obtain rfl := Option.some.inj H
      have p5 : 0 ≤ (x5_1 : Int) := xod
      have q5 : x5_1 < (a1.size : Int) := xod
      have hx5 := bt_at a1 x5_1
      replace p5 := eq_true p5
      replace q5 := eq_true q5
      try (have q5x := q5; simp only [ByteArray.size_extract, Nat.min_self] at q5x)
      go_wp2
      go_ret
      exact ⟨xrr, xdr⟩
     ·
      rw [if_neg c6] at H
      have c6b0 : ((bt a1 x5_1) == a0) = false := beq_eq_false_iff_ne.mpr c6
      have c6b1 : ((bt a1 x5_1) != a0) = true := bne_iff_ne.mpr c6
      have H' := Aside0.mk H
      clear H
      have p5 : 0 ≤ (x5_1 : Int) := xod
      have q5 : x5_1 < (a1.size : Int) := xod
      have hx5 := bt_at a1 x5_1
      replace p5 := eq_true p5
      replace q5 := eq_true q5
      try (have q5x := q5; simp only [ByteArray.size_extract, Nat.min_self] at q5x)
      go_wp2
      go_roundg k1
      case measure => have := HK1.out; omega
      case rel => exact ⟨(wrap64 (x5_1 + 1)), xrr, H', ⟨by have := HK1.out; omega⟩, xdr⟩
    ·
     rw [if_neg c4] at H
     exact absurd H (by simp)
   ·
    rw [if_neg c3] at H
    have c3b0 := decide_eq_false c3
    clear c3
    obtain rfl := Option.some.inj H
    go_wp2
    go_ret
    exact ⟨xrr, xdr⟩
mutual
def monikerref01_Class.j0 : Nat → Int → Int → Option (Int)
  | 0, _, _ => none
  | k + 1, x0, x3 => (monikerref01_In.f k x0 (⟨#[48, 49, 50, 51, 52, 53, 54, 55, 56, 57]⟩ : ByteArray)).bind fun t245 => (if t245 = true then (monikerref01_Class.j1 k x0 (wrap64 (x3 + 2))) else (monikerref01_Class.j1 k x0 x3))
def monikerref01_Class.j1 : Nat → Int → Int → Option (Int)
  | 0, _, _ => none
  | k + 1, x0, x3 => (monikerref01_In.f k x0 (⟨#[45, 46, 95, 126]⟩ : ByteArray)).bind fun t246 => (if t246 = true then (monikerref01_Class.j2 k x0 (wrap64 (x3 + 4))) else (monikerref01_Class.j2 k x0 x3))
def monikerref01_Class.j2 : Nat → Int → Int → Option (Int)
  | 0, _, _ => none
  | k + 1, x0, x3 => (monikerref01_In.f k x0 (⟨#[33, 36, 38, 39, 40, 41, 42, 43, 44, 59, 61]⟩ : ByteArray)).bind fun t247 => (if t247 = true then (monikerref01_Class.j3 k x0 (wrap64 (x3 + 8))) else (monikerref01_Class.j3 k x0 x3))
def monikerref01_Class.j3 : Nat → Int → Int → Option (Int)
  | 0, _, _ => none
  | k + 1, x0, x3 => (monikerref01_In.f k x0 (⟨#[58, 47, 63, 35, 91, 93, 64]⟩ : ByteArray)).bind fun t248 => (if t248 = true then ((monikerref01_In.f k x0 (⟨#[48, 49, 50, 51, 52, 53, 54, 55, 56, 57, 65, 66, 67, 68, 69, 70, 97, 98, 99, 100, 101, 102]⟩ : ByteArray)).bind fun t249 => (if t249 = true then (some (wrap64 ((wrap64 (x3 + 16)) + 32))) else (some (wrap64 (x3 + 16))))) else ((monikerref01_In.f k x0 (⟨#[48, 49, 50, 51, 52, 53, 54, 55, 56, 57, 65, 66, 67, 68, 69, 70, 97, 98, 99, 100, 101, 102]⟩ : ByteArray)).bind fun t250 => (if t250 = true then (some (wrap64 (x3 + 32))) else (some x3))))
end
def monikerref01_Class.f (k : Nat) (a0 : Int) : Option (Int) := (monikerref01_In.f k a0 (⟨#[65, 66, 67, 68, 69, 70, 71, 72, 73, 74, 75, 76, 77, 78, 79, 80, 81, 82, 83, 84, 85, 86, 87, 88, 89, 90, 97, 98, 99, 100, 101, 102, 103, 104, 105, 106, 107, 108, 109, 110, 111, 112, 113, 114, 115, 116, 117, 118, 119, 120, 121, 122]⟩ : ByteArray)).bind fun t244 => (if t244 = true then (monikerref01_Class.j0 k a0 (0 + 1)) else (monikerref01_Class.j0 k a0 0))
theorem monikerref01_Class.mono_l : ∀ k, (∀ y0 y1, LeO (monikerref01_Class.j0 k y0 y1) (monikerref01_Class.j0 (k + 1) y0 y1)) ∧ (∀ y0 y1, LeO (monikerref01_Class.j1 k y0 y1) (monikerref01_Class.j1 (k + 1) y0 y1)) ∧ (∀ y0 y1, LeO (monikerref01_Class.j2 k y0 y1) (monikerref01_Class.j2 (k + 1) y0 y1)) ∧ (∀ y0 y1, LeO (monikerref01_Class.j3 k y0 y1) (monikerref01_Class.j3 (k + 1) y0 y1))
  | 0 => ⟨fun _ _ r h => by simp [monikerref01_Class.j0] at h, fun _ _ r h => by simp [monikerref01_Class.j1] at h, fun _ _ r h => by simp [monikerref01_Class.j2] at h, fun _ _ r h => by simp [monikerref01_Class.j3] at h⟩
  | k + 1 => by
    obtain ⟨ih0, ih1, ih2, ih3⟩ := monikerref01_Class.mono_l k
    have m0 := @monikerref01_In.mono
    refine ⟨?_, ?_, ?_, ?_⟩
    · intro y0 y1
      unfold monikerref01_Class.j0
      exact xmo
    · intro y0 y1
      unfold monikerref01_Class.j1
      exact xmo
    · intro y0 y1
      unfold monikerref01_Class.j2
      exact xmo
    · intro y0 y1
      unfold monikerref01_Class.j3
      exact xmo
theorem monikerref01_Class.mono : ∀ a0 k, LeO (monikerref01_Class.f k a0) (monikerref01_Class.f (k + 1) a0) := by
  intro a0 k
  obtain ⟨ih0, ih1, ih2, ih3⟩ := monikerref01_Class.mono_l k
  have m0 := @monikerref01_In.mono
  unfold monikerref01_Class.f
  exact xmo
set_option maxHeartbeats 8000000 in
set_option maxRecDepth 100000 in
theorem monikerref01_Class.calls (k : Nat) (a0 : Int) (r : Int) (w : World) (h : monikerref01_Class.f k a0 = some r) :
    Calls Tryd.prog 22 #[.int .u8 a0] w fun e w' => e = .returned (.int .i64 r) ∧ Drawn0 w w' := by
 have H : ((monikerref01_In.f k a0 (⟨#[65, 66, 67, 68, 69, 70, 71, 72, 73, 74, 75, 76, 77, 78, 79, 80, 81, 82, 83, 84, 85, 86, 87, 88, 89, 90, 97, 98, 99, 100, 101, 102, 103, 104, 105, 106, 107, 108, 109, 110, 111, 112, 113, 114, 115, 116, 117, 118, 119, 120, 121, 122]⟩ : ByteArray)).bind fun t244 => (if t244 = true then (monikerref01_Class.j0 k a0 (0 + 1)) else (monikerref01_Class.j0 k a0 0))) = some r := h
 clear h
 replace H := Option.bind_eq_some_iff.mp H
 obtain ⟨t244, A20, H⟩ := H
 try dsimp only at H
 have A2 := Aside0.mk A20
 clear A20
 have HC3 := Aside0.mk H
 clear H
 go_enter Tryd.func22, Tryd.ntmps22
 go_upto_if 5 with (first | ((with_reducible refine gate_callee (f := 37) rfl ?_); refine xgl 5 Tryd.func37 #[.int .u8 a0, .string (⟨#[65, 66, 67, 68, 69, 70, 71, 72, 73, 74, 75, 76, 77, 78, 79, 80, 81, 82, 83, 84, 85, 86, 87, 88, 89, 90, 97, 98, 99, 100, 101, 102, 103, 104, 105, 106, 107, 108, 109, 110, 111, 112, 113, 114, 115, 116, 117, 118, 119, 120, 121, 122]⟩ : ByteArray)] ?_; (with_reducible refine (monikerref01_In.calls k a0 (⟨#[65, 66, 67, 68, 69, 70, 71, 72, 73, 74, 75, 76, 77, 78, 79, 80, 81, 82, 83, 84, 85, 86, 87, 88, 89, 90, 97, 98, 99, 100, 101, 102, 103, 104, 105, 106, 107, 108, 109, 110, 111, 112, 113, 114, 115, 116, 117, 118, 119, 120, 121, 122]⟩ : ByteArray) t244 _ A2.out).mono ?_); rintro e w' ⟨rfl, ⟨nd, rfl⟩⟩; refine ⟨_, rfl, ?_⟩))
 (try simp only [Act.put, List.setIfInBounds_toArray, List.set_cons_zero, List.set_cons_succ])
 go_cut [3] (fun v3 wc => ∃ (kq : Nat) (x3_2 : Int), v3 = .int .i64 x3_2 ∧ Aside0 (monikerref01_Class.j0 kq a0 x3_2 = some r) ∧ Aside0 (kq ≤ k) ∧ Drawn0 w wc)
 case first =>
  have H := HC3.out
  clear HC3
  by_cases c4 : t244 = true
  ·
   subst c4
   rw [if_pos rfl] at H
   have H' := Aside0.mk H
   clear H
   go_wp2
   go_meet
   case rel => exact ⟨_, (0 + 1), xrr, H', ⟨xom⟩, xdr⟩
  ·
   replace c4 := Bool.eq_false_iff.mpr c4
   subst c4
   rw [if_neg (show ¬ (false = true) by decide)] at H
   have H' := Aside0.mk H
   clear H
   go_wp2
   go_meet
   case rel => exact ⟨_, (0), xrr, H', ⟨xom⟩, xdr⟩
 case rest =>
  clear HC3
  obtain ⟨kq, x3_2, rfl, HA, HJ2, ⟨mc2, rfl⟩⟩ := hcut
  cases kq with
  | zero => exact absurd HA.out (by simp [monikerref01_Class.j0])
  | succ kj2 =>
   have H := HA.out
   clear HA
   simp only [monikerref01_Class.j0] at H
   replace H := Option.bind_eq_some_iff.mp H
   obtain ⟨t245, A50, H⟩ := H
   try dsimp only at H
   have A5 := Aside0.mk A50
   clear A50
   have HC6 := Aside0.mk H
   clear H
   go_upto_if 9 with (first | ((with_reducible refine gate_callee (f := 37) rfl ?_); refine xgl 9 Tryd.func37 #[.int .u8 a0, .string (⟨#[48, 49, 50, 51, 52, 53, 54, 55, 56, 57]⟩ : ByteArray)] ?_; (with_reducible refine (monikerref01_In.calls kj2 a0 (⟨#[48, 49, 50, 51, 52, 53, 54, 55, 56, 57]⟩ : ByteArray) t245 _ A5.out).mono ?_); rintro e w' ⟨rfl, ⟨nd, rfl⟩⟩; refine ⟨_, rfl, ?_⟩))
   (try simp only [Act.put, List.setIfInBounds_toArray, List.set_cons_zero, List.set_cons_succ])
   go_cut [3] (fun v3 wc => ∃ (kq : Nat) (x3_5 : Int), v3 = .int .i64 x3_5 ∧ Aside0 (monikerref01_Class.j1 kq a0 x3_5 = some r) ∧ Aside0 (kq ≤ kj2) ∧ Drawn0 w wc)
   case first =>
    have H := HC6.out
    clear HC6
    by_cases c7 : t245 = true
    ·
     subst c7
     rw [if_pos rfl] at H
     have H' := Aside0.mk H
     clear H
     go_wp2
     go_meet
     case rel => exact ⟨_, (wrap64 (x3_2 + 2)), xrr, H', ⟨by have := HJ2.out; first | omega | exact Nat.le_refl _⟩, xdr⟩
    ·
     replace c7 := Bool.eq_false_iff.mpr c7
     subst c7
     rw [if_neg (show ¬ (false = true) by decide)] at H
     have H' := Aside0.mk H
     clear H
     go_wp2
     go_meet
     case rel => exact ⟨_, (x3_2), xrr, H', ⟨by have := HJ2.out; first | omega | exact Nat.le_refl _⟩, xdr⟩
   case rest =>
    clear HC6
    obtain ⟨kq, x3_5, rfl, HA, HJ5, ⟨mc5, rfl⟩⟩ := hcut
    cases kq with
    | zero => exact absurd HA.out (by simp [monikerref01_Class.j1])
    | succ kj5 =>
     have H := HA.out
     clear HA
     simp only [monikerref01_Class.j1] at H
     replace H := Option.bind_eq_some_iff.mp H
     obtain ⟨t246, A80, H⟩ := H
     try dsimp only at H
     have A8 := Aside0.mk A80
     clear A80
     have HC9 := Aside0.mk H
     clear H
     go_upto_if 13 with (first | ((with_reducible refine gate_callee (f := 37) rfl ?_); refine xgl 13 Tryd.func37 #[.int .u8 a0, .string (⟨#[45, 46, 95, 126]⟩ : ByteArray)] ?_; (with_reducible refine (monikerref01_In.calls kj5 a0 (⟨#[45, 46, 95, 126]⟩ : ByteArray) t246 _ A8.out).mono ?_); rintro e w' ⟨rfl, ⟨nd, rfl⟩⟩; refine ⟨_, rfl, ?_⟩))
     (try simp only [Act.put, List.setIfInBounds_toArray, List.set_cons_zero, List.set_cons_succ])
     go_cut [3] (fun v3 wc => ∃ (kq : Nat) (x3_8 : Int), v3 = .int .i64 x3_8 ∧ Aside0 (monikerref01_Class.j2 kq a0 x3_8 = some r) ∧ Aside0 (kq ≤ kj5) ∧ Drawn0 w wc)
     case first =>
      have H := HC9.out
      clear HC9
      by_cases c10 : t246 = true
      ·
       subst c10
       rw [if_pos rfl] at H
       have H' := Aside0.mk H
       clear H
       go_wp2
       go_meet
       case rel => exact ⟨_, (wrap64 (x3_5 + 4)), xrr, H', ⟨by have := HJ2.out; have := HJ5.out; first | omega | exact Nat.le_refl _⟩, xdr⟩
      ·
       replace c10 := Bool.eq_false_iff.mpr c10
       subst c10
       rw [if_neg (show ¬ (false = true) by decide)] at H
       have H' := Aside0.mk H
       clear H
       go_wp2
       go_meet
       case rel => exact ⟨_, (x3_5), xrr, H', ⟨by have := HJ2.out; have := HJ5.out; first | omega | exact Nat.le_refl _⟩, xdr⟩
     case rest =>
      clear HC9
      obtain ⟨kq, x3_8, rfl, HA, HJ8, ⟨mc8, rfl⟩⟩ := hcut
      cases kq with
      | zero => exact absurd HA.out (by simp [monikerref01_Class.j2])
      | succ kj8 =>
       have H := HA.out
       clear HA
       simp only [monikerref01_Class.j2] at H
       replace H := Option.bind_eq_some_iff.mp H
       obtain ⟨t247, A110, H⟩ := H
       try dsimp only at H
       have A11 := Aside0.mk A110
       clear A110
       have HC12 := Aside0.mk H
       clear H
       go_upto_if 17 with (first | ((with_reducible refine gate_callee (f := 37) rfl ?_); refine xgl 17 Tryd.func37 #[.int .u8 a0, .string (⟨#[33, 36, 38, 39, 40, 41, 42, 43, 44, 59, 61]⟩ : ByteArray)] ?_; (with_reducible refine (monikerref01_In.calls kj8 a0 (⟨#[33, 36, 38, 39, 40, 41, 42, 43, 44, 59, 61]⟩ : ByteArray) t247 _ A11.out).mono ?_); rintro e w' ⟨rfl, ⟨nd, rfl⟩⟩; refine ⟨_, rfl, ?_⟩))
       (try simp only [Act.put, List.setIfInBounds_toArray, List.set_cons_zero, List.set_cons_succ])
       go_cut [3] (fun v3 wc => ∃ (kq : Nat) (x3_11 : Int), v3 = .int .i64 x3_11 ∧ Aside0 (monikerref01_Class.j3 kq a0 x3_11 = some r) ∧ Aside0 (kq ≤ kj8) ∧ Drawn0 w wc)
       case first =>
        have H := HC12.out
        clear HC12
        by_cases c13 : t247 = true
        ·
         subst c13
         rw [if_pos rfl] at H
         have H' := Aside0.mk H
         clear H
         go_wp2
         go_meet
         case rel => exact ⟨_, (wrap64 (x3_8 + 8)), xrr, H', ⟨by have := HJ2.out; have := HJ5.out; have := HJ8.out; first | omega | exact Nat.le_refl _⟩, xdr⟩
        ·
         replace c13 := Bool.eq_false_iff.mpr c13
         subst c13
         rw [if_neg (show ¬ (false = true) by decide)] at H
         have H' := Aside0.mk H
         clear H
         go_wp2
         go_meet
         case rel => exact ⟨_, (x3_8), xrr, H', ⟨by have := HJ2.out; have := HJ5.out; have := HJ8.out; first | omega | exact Nat.le_refl _⟩, xdr⟩
       case rest =>
        clear HC12
        obtain ⟨kq, x3_11, rfl, HA, HJ11, ⟨mc11, rfl⟩⟩ := hcut
        cases kq with
        | zero => exact absurd HA.out (by simp [monikerref01_Class.j3])
        | succ kj11 =>
         have H := HA.out
         clear HA
         simp only [monikerref01_Class.j3] at H
         replace H := Option.bind_eq_some_iff.mp H
         obtain ⟨t248, A140, H⟩ := H
         try dsimp only at H
         have A14 := Aside0.mk A140
         clear A140
         by_cases c15 : t248 = true
         ·
          subst c15
          rw [if_pos rfl] at H
          replace H := Option.bind_eq_some_iff.mp H
          obtain ⟨t249, A160, H⟩ := H
          try dsimp only at H
          have A16 := Aside0.mk A160
          clear A160
          by_cases c17 : t249 = true
          ·
           subst c17
           rw [if_pos rfl] at H
           obtain rfl := Option.some.inj H
           go_wp2_with (first | ((with_reducible refine gate_callee (f := 37) rfl ?_); refine xgl 21 Tryd.func37 #[.int .u8 a0, .string (⟨#[58, 47, 63, 35, 91, 93, 64]⟩ : ByteArray)] ?_; (with_reducible refine (monikerref01_In.calls kj11 a0 (⟨#[58, 47, 63, 35, 91, 93, 64]⟩ : ByteArray) true _ A14.out).mono ?_); rintro e w' ⟨rfl, ⟨nd, rfl⟩⟩; refine ⟨_, rfl, ?_⟩) | ((with_reducible refine gate_callee (f := 37) rfl ?_); refine xgl 25 Tryd.func37 #[.int .u8 a0, .string (⟨#[48, 49, 50, 51, 52, 53, 54, 55, 56, 57, 65, 66, 67, 68, 69, 70, 97, 98, 99, 100, 101, 102]⟩ : ByteArray)] ?_; (with_reducible refine (monikerref01_In.calls kj11 a0 (⟨#[48, 49, 50, 51, 52, 53, 54, 55, 56, 57, 65, 66, 67, 68, 69, 70, 97, 98, 99, 100, 101, 102]⟩ : ByteArray) true _ A16.out).mono ?_); rintro e w' ⟨rfl, ⟨nd, rfl⟩⟩; refine ⟨_, rfl, ?_⟩))
           go_ret
           exact ⟨xrr, xdr⟩
          ·
           replace c17 := Bool.eq_false_iff.mpr c17
           subst c17
           rw [if_neg (show ¬ (false = true) by decide)] at H
           obtain rfl := Option.some.inj H
           go_wp2_with (first | ((with_reducible refine gate_callee (f := 37) rfl ?_); refine xgl 21 Tryd.func37 #[.int .u8 a0, .string (⟨#[58, 47, 63, 35, 91, 93, 64]⟩ : ByteArray)] ?_; (with_reducible refine (monikerref01_In.calls kj11 a0 (⟨#[58, 47, 63, 35, 91, 93, 64]⟩ : ByteArray) true _ A14.out).mono ?_); rintro e w' ⟨rfl, ⟨nd, rfl⟩⟩; refine ⟨_, rfl, ?_⟩) | ((with_reducible refine gate_callee (f := 37) rfl ?_); refine xgl 25 Tryd.func37 #[.int .u8 a0, .string (⟨#[48, 49, 50, 51, 52, 53, 54, 55, 56, 57, 65, 66, 67, 68, 69, 70, 97, 98, 99, 100, 101, 102]⟩ : ByteArray)] ?_; (with_reducible refine (monikerref01_In.calls kj11 a0 (⟨#[48, 49, 50, 51, 52, 53, 54, 55, 56, 57, 65, 66, 67, 68, 69, 70, 97, 98, 99, 100, 101, 102]⟩ : ByteArray) false _ A16.out).mono ?_); rintro e w' ⟨rfl, ⟨nd, rfl⟩⟩; refine ⟨_, rfl, ?_⟩))
           go_ret
           exact ⟨xrr, xdr⟩
         ·
          replace c15 := Bool.eq_false_iff.mpr c15
          subst c15
          rw [if_neg (show ¬ (false = true) by decide)] at H
          replace H := Option.bind_eq_some_iff.mp H
          obtain ⟨t250, A180, H⟩ := H
          try dsimp only at H
          have A18 := Aside0.mk A180
          clear A180
          by_cases c19 : t250 = true
          ·
           subst c19
           rw [if_pos rfl] at H
           obtain rfl := Option.some.inj H
           go_wp2_with (first | ((with_reducible refine gate_callee (f := 37) rfl ?_); refine xgl 21 Tryd.func37 #[.int .u8 a0, .string (⟨#[58, 47, 63, 35, 91, 93, 64]⟩ : ByteArray)] ?_; (with_reducible refine (monikerref01_In.calls kj11 a0 (⟨#[58, 47, 63, 35, 91, 93, 64]⟩ : ByteArray) false _ A14.out).mono ?_); rintro e w' ⟨rfl, ⟨nd, rfl⟩⟩; refine ⟨_, rfl, ?_⟩) | ((with_reducible refine gate_callee (f := 37) rfl ?_); refine xgl 25 Tryd.func37 #[.int .u8 a0, .string (⟨#[48, 49, 50, 51, 52, 53, 54, 55, 56, 57, 65, 66, 67, 68, 69, 70, 97, 98, 99, 100, 101, 102]⟩ : ByteArray)] ?_; (with_reducible refine (monikerref01_In.calls kj11 a0 (⟨#[48, 49, 50, 51, 52, 53, 54, 55, 56, 57, 65, 66, 67, 68, 69, 70, 97, 98, 99, 100, 101, 102]⟩ : ByteArray) true _ A18.out).mono ?_); rintro e w' ⟨rfl, ⟨nd, rfl⟩⟩; refine ⟨_, rfl, ?_⟩))
           go_ret
           exact ⟨xrr, xdr⟩
          ·
           replace c19 := Bool.eq_false_iff.mpr c19
           subst c19
           rw [if_neg (show ¬ (false = true) by decide)] at H
           obtain rfl := Option.some.inj H
           go_wp2_with (first | ((with_reducible refine gate_callee (f := 37) rfl ?_); refine xgl 21 Tryd.func37 #[.int .u8 a0, .string (⟨#[58, 47, 63, 35, 91, 93, 64]⟩ : ByteArray)] ?_; (with_reducible refine (monikerref01_In.calls kj11 a0 (⟨#[58, 47, 63, 35, 91, 93, 64]⟩ : ByteArray) false _ A14.out).mono ?_); rintro e w' ⟨rfl, ⟨nd, rfl⟩⟩; refine ⟨_, rfl, ?_⟩) | ((with_reducible refine gate_callee (f := 37) rfl ?_); refine xgl 25 Tryd.func37 #[.int .u8 a0, .string (⟨#[48, 49, 50, 51, 52, 53, 54, 55, 56, 57, 65, 66, 67, 68, 69, 70, 97, 98, 99, 100, 101, 102]⟩ : ByteArray)] ?_; (with_reducible refine (monikerref01_In.calls kj11 a0 (⟨#[48, 49, 50, 51, 52, 53, 54, 55, 56, 57, 65, 66, 67, 68, 69, 70, 97, 98, 99, 100, 101, 102]⟩ : ByteArray) false _ A18.out).mono ?_); rintro e w' ⟨rfl, ⟨nd, rfl⟩⟩; refine ⟨_, rfl, ?_⟩))
           go_ret
           exact ⟨xrr, xdr⟩
end Go.Proofs.YtdmigmccfdhdiaaDoor.X
namespace Go.Proofs.YtdmigmccfdhdiaaDoor.X
open Go.RowKit Go.Proofs.YtdmigmccfdhdiaaDoorW.PrintWords Go.Proofs.YtdmigmccfdhdiaaDoorW.PrintLast Go.Proofs.YtdmigmccfdhdiaaDoorW.PrintMore
attribute [local go_sem] max2_int min2_int max_two min_two max_three min_three max_four min_four
set_option linter.unusedVariables false
set_option linter.unusedSimpArgs false
def monikerref18_Plain.j0 : Nat → Int → Int → Bool → ByteArray → ByteArray → ByteArray → ByteArray → ByteArray → ByteArray → ByteArray → ByteArray → Option (Bool)
  | 0, _, _, _, _, _, _, _, _, _, _, _ => none
  | k + 1, x0, x1, x12, x252000, x252001, x252002, x252003, x252004, x252005, x252006, x252007 => if x12 = true then (some false) else ((monikerref01_Class.f k x1).bind fun t252 => (if (Go.bits .and .i64 t252 15) = 0 then (if 0 ≤ x0 then (if x0 = 0 then ((monikerref01_In.f k x1 x252000).bind fun t253 => (some t253)) else (if x0 = 1 then ((monikerref01_In.f k x1 x252001).bind fun t254 => (some t254)) else (if x0 = 2 then ((monikerref01_In.f k x1 x252002).bind fun t255 => (some t255)) else (if x0 = 3 then ((monikerref01_In.f k x1 x252003).bind fun t256 => (some t256)) else (if x0 = 4 then ((monikerref01_In.f k x1 x252004).bind fun t257 => (some t257)) else (if x0 = 5 then ((monikerref01_In.f k x1 x252005).bind fun t258 => (some t258)) else (if x0 = 6 then ((monikerref01_In.f k x1 x252006).bind fun t259 => (some t259)) else (if x0 = 7 then ((monikerref01_In.f k x1 x252007).bind fun t260 => (some t260)) else (none))))))))) else (none)) else (some true)))
def monikerref18_Plain.f (k : Nat) (a0 : Int) (a1 : Int) : Option (Bool) := if a0 < 1 then (monikerref18_Plain.j0 k a0 a1 true (⟨#[]⟩ : ByteArray) (⟨#[58]⟩ : ByteArray) (⟨#[]⟩ : ByteArray) (⟨#[58, 64]⟩ : ByteArray) (⟨#[64]⟩ : ByteArray) (⟨#[58, 64, 47]⟩ : ByteArray) (⟨#[58, 64, 47, 63]⟩ : ByteArray) (⟨#[58, 64, 47, 63]⟩ : ByteArray)) else (monikerref18_Plain.j0 k a0 a1 (decide (a0 > 7)) (⟨#[]⟩ : ByteArray) (⟨#[58]⟩ : ByteArray) (⟨#[]⟩ : ByteArray) (⟨#[58, 64]⟩ : ByteArray) (⟨#[64]⟩ : ByteArray) (⟨#[58, 64, 47]⟩ : ByteArray) (⟨#[58, 64, 47, 63]⟩ : ByteArray) (⟨#[58, 64, 47, 63]⟩ : ByteArray))
theorem monikerref18_Plain.mono_l : ∀ k, (∀ y0 y1 y2 y3 y4 y5 y6 y7 y8 y9 y10, LeO (monikerref18_Plain.j0 k y0 y1 y2 y3 y4 y5 y6 y7 y8 y9 y10) (monikerref18_Plain.j0 (k + 1) y0 y1 y2 y3 y4 y5 y6 y7 y8 y9 y10))
  | 0 => fun _ _ _ _ _ _ _ _ _ _ _ r h => by simp [monikerref18_Plain.j0] at h
  | k + 1 => by
    have ih0 := monikerref18_Plain.mono_l k
    have m0 := @monikerref01_Class.mono; have m1 := @monikerref01_In.mono
    · intro y0 y1 y2 y3 y4 y5 y6 y7 y8 y9 y10
      unfold monikerref18_Plain.j0
      exact xmo
theorem monikerref18_Plain.mono : ∀ a0 a1 k, LeO (monikerref18_Plain.f k a0 a1) (monikerref18_Plain.f (k + 1) a0 a1) := by
  intro a0 a1 k
  have ih0 := monikerref18_Plain.mono_l k
  have m0 := @monikerref01_Class.mono; have m1 := @monikerref01_In.mono
  unfold monikerref18_Plain.f
  exact xmo
set_option maxHeartbeats 8000000 in
set_option maxRecDepth 100000 in
theorem monikerref18_Plain.calls (k : Nat) (a0 : Int) (a1 : Int) (r : Bool) (w : World) (h : monikerref18_Plain.f k a0 a1 = some r) :
    Calls Tryd.prog 57 #[.int .i64 a0, .int .u8 a1] w fun e w' => e = .returned (.bool r) ∧ Below w.heap.size w w' := by
 have hu102 := Tryd.underlying102
 have HB := Aside0.mk (Below.refl w.heap.size w)
 have H : (if a0 < 1 then (monikerref18_Plain.j0 k a0 a1 true (⟨#[]⟩ : ByteArray) (⟨#[58]⟩ : ByteArray) (⟨#[]⟩ : ByteArray) (⟨#[58, 64]⟩ : ByteArray) (⟨#[64]⟩ : ByteArray) (⟨#[58, 64, 47]⟩ : ByteArray) (⟨#[58, 64, 47, 63]⟩ : ByteArray) (⟨#[58, 64, 47, 63]⟩ : ByteArray)) else (monikerref18_Plain.j0 k a0 a1 (decide (a0 > 7)) (⟨#[]⟩ : ByteArray) (⟨#[58]⟩ : ByteArray) (⟨#[]⟩ : ByteArray) (⟨#[58, 64]⟩ : ByteArray) (⟨#[64]⟩ : ByteArray) (⟨#[58, 64, 47]⟩ : ByteArray) (⟨#[58, 64, 47, 63]⟩ : ByteArray) (⟨#[58, 64, 47, 63]⟩ : ByteArray))) = some r := h
 clear h
 have HC3 := Aside0.mk H
 clear H
 go_enter Tryd.func57, Tryd.ntmps57
 go_upto_region 2 with (first | ((with_reducible refine gate_dst (N := 5) rfl ?_); refine xev 5 #[.string (⟨#[]⟩ : ByteArray), .string (⟨#[]⟩ : ByteArray), .string (⟨#[]⟩ : ByteArray), .string (⟨#[]⟩ : ByteArray), .string (⟨#[]⟩ : ByteArray), .string (⟨#[]⟩ : ByteArray), .string (⟨#[]⟩ : ByteArray), .string (⟨#[]⟩ : ByteArray)] 102 ?_; intro gb251 hg w4 hbox hb; have BK251 := Aside0.mk (hbox); have GW251 := xsz hg; have GE251 := GW251; replace HB := xst hb; clear hb hbox hg; obtain ⟨hcz5_0, hcz5_1, hcz5_2, hcz5_3, hcz5_4, hcz5_5, hcz5_6, hcz5_7⟩ := xc8 BK251; have hfz5_0 := xf BK251 0; have hfz5_1 := xf BK251 1; have hfz5_2 := xf BK251 2; have hfz5_3 := xf BK251 3; have hfz5_4 := xf BK251 4; have hfz5_5 := xf BK251 5; have hfz5_6 := xf BK251 6; have hfz5_7 := xf BK251 7))
 (try simp only [Act.put, List.setIfInBounds_toArray, List.set_cons_zero, List.set_cons_succ])
 go_cut [12] (fun v12 wc => ∃ (kq : Nat) (x12_2 : Bool), v12 = .bool x12_2 ∧ Aside0 (monikerref18_Plain.j0 kq a0 a1 x12_2 (⟨#[]⟩ : ByteArray) (⟨#[58]⟩ : ByteArray) (⟨#[]⟩ : ByteArray) (⟨#[58, 64]⟩ : ByteArray) (⟨#[64]⟩ : ByteArray) (⟨#[58, 64, 47]⟩ : ByteArray) (⟨#[58, 64, 47, 63]⟩ : ByteArray) (⟨#[58, 64, 47, 63]⟩ : ByteArray) = some r) ∧ Aside0 (kq ≤ k) ∧ Aside0 (wc.heap[gb251]? = some (.cells #[.string (⟨#[]⟩ : ByteArray), .string (⟨#[58]⟩ : ByteArray), .string (⟨#[]⟩ : ByteArray), .string (⟨#[58, 64]⟩ : ByteArray), .string (⟨#[64]⟩ : ByteArray), .string (⟨#[58, 64, 47]⟩ : ByteArray), .string (⟨#[58, 64, 47, 63]⟩ : ByteArray), .string (⟨#[58, 64, 47, 63]⟩ : ByteArray)] 102 (0, 0))) ∧ Aside0 (Below w.heap.size w wc))
 case first =>
  have H := HC3.out
  clear HC3
  by_cases c6 : a0 < 1
  ·
   rw [if_pos c6] at H
   have c6b0 := decide_eq_true c6
   clear c6
   (first | rw [c6b0] | (simp only [i64_w, i32_w]; rw [c6b0]) | skip)
   have H' := Aside0.mk H
   clear H
   go_wp2
   go_meet
   case rel => exact ⟨_, (true), xrr, H', ⟨xom⟩, ⟨by (with_reducible repeat (first | refine blk_drewN ?_ _ | refine blk_drew ?_ | refine blk_alloc ?_ _)); refine blk_put (cs := #[.string (⟨#[]⟩ : ByteArray), .string (⟨#[58]⟩ : ByteArray), .string (⟨#[]⟩ : ByteArray), .string (⟨#[58, 64]⟩ : ByteArray), .string (⟨#[64]⟩ : ByteArray), .string (⟨#[58, 64, 47]⟩ : ByteArray), .string (⟨#[58, 64, 47, 63]⟩ : ByteArray), .string (⟨#[]⟩ : ByteArray)]) ?_ 7 _ rfl; (with_reducible repeat (first | refine blk_drewN ?_ _ | refine blk_drew ?_ | refine blk_alloc ?_ _)); refine blk_put (cs := #[.string (⟨#[]⟩ : ByteArray), .string (⟨#[58]⟩ : ByteArray), .string (⟨#[]⟩ : ByteArray), .string (⟨#[58, 64]⟩ : ByteArray), .string (⟨#[64]⟩ : ByteArray), .string (⟨#[58, 64, 47]⟩ : ByteArray), .string (⟨#[]⟩ : ByteArray), .string (⟨#[]⟩ : ByteArray)]) ?_ 6 _ rfl; (with_reducible repeat (first | refine blk_drewN ?_ _ | refine blk_drew ?_ | refine blk_alloc ?_ _)); refine blk_put (cs := #[.string (⟨#[]⟩ : ByteArray), .string (⟨#[58]⟩ : ByteArray), .string (⟨#[]⟩ : ByteArray), .string (⟨#[58, 64]⟩ : ByteArray), .string (⟨#[64]⟩ : ByteArray), .string (⟨#[]⟩ : ByteArray), .string (⟨#[]⟩ : ByteArray), .string (⟨#[]⟩ : ByteArray)]) ?_ 5 _ rfl; (with_reducible repeat (first | refine blk_drewN ?_ _ | refine blk_drew ?_ | refine blk_alloc ?_ _)); refine blk_put (cs := #[.string (⟨#[]⟩ : ByteArray), .string (⟨#[58]⟩ : ByteArray), .string (⟨#[]⟩ : ByteArray), .string (⟨#[58, 64]⟩ : ByteArray), .string (⟨#[]⟩ : ByteArray), .string (⟨#[]⟩ : ByteArray), .string (⟨#[]⟩ : ByteArray), .string (⟨#[]⟩ : ByteArray)]) ?_ 4 _ rfl; (with_reducible repeat (first | refine blk_drewN ?_ _ | refine blk_drew ?_ | refine blk_alloc ?_ _)); refine blk_put (cs := #[.string (⟨#[]⟩ : ByteArray), .string (⟨#[58]⟩ : ByteArray), .string (⟨#[]⟩ : ByteArray), .string (⟨#[]⟩ : ByteArray), .string (⟨#[]⟩ : ByteArray), .string (⟨#[]⟩ : ByteArray), .string (⟨#[]⟩ : ByteArray), .string (⟨#[]⟩ : ByteArray)]) ?_ 3 _ rfl; (with_reducible repeat (first | refine blk_drewN ?_ _ | refine blk_drew ?_ | refine blk_alloc ?_ _)); refine blk_put (cs := #[.string (⟨#[]⟩ : ByteArray), .string (⟨#[58]⟩ : ByteArray), .string (⟨#[]⟩ : ByteArray), .string (⟨#[]⟩ : ByteArray), .string (⟨#[]⟩ : ByteArray), .string (⟨#[]⟩ : ByteArray), .string (⟨#[]⟩ : ByteArray), .string (⟨#[]⟩ : ByteArray)]) ?_ 2 _ rfl; (with_reducible repeat (first | refine blk_drewN ?_ _ | refine blk_drew ?_ | refine blk_alloc ?_ _)); refine blk_put (cs := #[.string (⟨#[]⟩ : ByteArray), .string (⟨#[]⟩ : ByteArray), .string (⟨#[]⟩ : ByteArray), .string (⟨#[]⟩ : ByteArray), .string (⟨#[]⟩ : ByteArray), .string (⟨#[]⟩ : ByteArray), .string (⟨#[]⟩ : ByteArray), .string (⟨#[]⟩ : ByteArray)]) ?_ 1 _ rfl; (with_reducible repeat (first | refine blk_drewN ?_ _ | refine blk_drew ?_ | refine blk_alloc ?_ _)); refine blk_put (cs := #[.string (⟨#[]⟩ : ByteArray), .string (⟨#[]⟩ : ByteArray), .string (⟨#[]⟩ : ByteArray), .string (⟨#[]⟩ : ByteArray), .string (⟨#[]⟩ : ByteArray), .string (⟨#[]⟩ : ByteArray), .string (⟨#[]⟩ : ByteArray), .string (⟨#[]⟩ : ByteArray)]) ?_ 0 _ rfl; (with_reducible repeat (first | refine blk_drewN ?_ _ | refine blk_drew ?_ | refine blk_alloc ?_ _)); exact BK251.out⟩, ⟨xbl⟩⟩
  ·
   rw [if_neg c6] at H
   have c6b0 := decide_eq_false c6
   clear c6
   (first | rw [c6b0] | (simp only [i64_w, i32_w]; rw [c6b0]) | skip)
   have H' := Aside0.mk H
   clear H
   go_wp2
   go_meet
   case rel => exact ⟨_, (decide (a0 > 7)), xrr, H', ⟨xom⟩, ⟨by (with_reducible repeat (first | refine blk_drewN ?_ _ | refine blk_drew ?_ | refine blk_alloc ?_ _)); refine blk_put (cs := #[.string (⟨#[]⟩ : ByteArray), .string (⟨#[58]⟩ : ByteArray), .string (⟨#[]⟩ : ByteArray), .string (⟨#[58, 64]⟩ : ByteArray), .string (⟨#[64]⟩ : ByteArray), .string (⟨#[58, 64, 47]⟩ : ByteArray), .string (⟨#[58, 64, 47, 63]⟩ : ByteArray), .string (⟨#[]⟩ : ByteArray)]) ?_ 7 _ rfl; (with_reducible repeat (first | refine blk_drewN ?_ _ | refine blk_drew ?_ | refine blk_alloc ?_ _)); refine blk_put (cs := #[.string (⟨#[]⟩ : ByteArray), .string (⟨#[58]⟩ : ByteArray), .string (⟨#[]⟩ : ByteArray), .string (⟨#[58, 64]⟩ : ByteArray), .string (⟨#[64]⟩ : ByteArray), .string (⟨#[58, 64, 47]⟩ : ByteArray), .string (⟨#[]⟩ : ByteArray), .string (⟨#[]⟩ : ByteArray)]) ?_ 6 _ rfl; (with_reducible repeat (first | refine blk_drewN ?_ _ | refine blk_drew ?_ | refine blk_alloc ?_ _)); refine blk_put (cs := #[.string (⟨#[]⟩ : ByteArray), .string (⟨#[58]⟩ : ByteArray), .string (⟨#[]⟩ : ByteArray), .string (⟨#[58, 64]⟩ : ByteArray), .string (⟨#[64]⟩ : ByteArray), .string (⟨#[]⟩ : ByteArray), .string (⟨#[]⟩ : ByteArray), .string (⟨#[]⟩ : ByteArray)]) ?_ 5 _ rfl; (with_reducible repeat (first | refine blk_drewN ?_ _ | refine blk_drew ?_ | refine blk_alloc ?_ _)); refine blk_put (cs := #[.string (⟨#[]⟩ : ByteArray), .string (⟨#[58]⟩ : ByteArray), .string (⟨#[]⟩ : ByteArray), .string (⟨#[58, 64]⟩ : ByteArray), .string (⟨#[]⟩ : ByteArray), .string (⟨#[]⟩ : ByteArray), .string (⟨#[]⟩ : ByteArray), .string (⟨#[]⟩ : ByteArray)]) ?_ 4 _ rfl; (with_reducible repeat (first | refine blk_drewN ?_ _ | refine blk_drew ?_ | refine blk_alloc ?_ _)); refine blk_put (cs := #[.string (⟨#[]⟩ : ByteArray), .string (⟨#[58]⟩ : ByteArray), .string (⟨#[]⟩ : ByteArray), .string (⟨#[]⟩ : ByteArray), .string (⟨#[]⟩ : ByteArray), .string (⟨#[]⟩ : ByteArray), .string (⟨#[]⟩ : ByteArray), .string (⟨#[]⟩ : ByteArray)]) ?_ 3 _ rfl; (with_reducible repeat (first | refine blk_drewN ?_ _ | refine blk_drew ?_ | refine blk_alloc ?_ _)); refine blk_put (cs := #[.string (⟨#[]⟩ : ByteArray), .string (⟨#[58]⟩ : ByteArray), .string (⟨#[]⟩ : ByteArray), .string (⟨#[]⟩ : ByteArray), .string (⟨#[]⟩ : ByteArray), .string (⟨#[]⟩ : ByteArray), .string (⟨#[]⟩ : ByteArray), .string (⟨#[]⟩ : ByteArray)]) ?_ 2 _ rfl; (with_reducible repeat (first | refine blk_drewN ?_ _ | refine blk_drew ?_ | refine blk_alloc ?_ _)); refine blk_put (cs := #[.string (⟨#[]⟩ : ByteArray), .string (⟨#[]⟩ : ByteArray), .string (⟨#[]⟩ : ByteArray), .string (⟨#[]⟩ : ByteArray), .string (⟨#[]⟩ : ByteArray), .string (⟨#[]⟩ : ByteArray), .string (⟨#[]⟩ : ByteArray), .string (⟨#[]⟩ : ByteArray)]) ?_ 1 _ rfl; (with_reducible repeat (first | refine blk_drewN ?_ _ | refine blk_drew ?_ | refine blk_alloc ?_ _)); refine blk_put (cs := #[.string (⟨#[]⟩ : ByteArray), .string (⟨#[]⟩ : ByteArray), .string (⟨#[]⟩ : ByteArray), .string (⟨#[]⟩ : ByteArray), .string (⟨#[]⟩ : ByteArray), .string (⟨#[]⟩ : ByteArray), .string (⟨#[]⟩ : ByteArray), .string (⟨#[]⟩ : ByteArray)]) ?_ 0 _ rfl; (with_reducible repeat (first | refine blk_drewN ?_ _ | refine blk_drew ?_ | refine blk_alloc ?_ _)); exact BK251.out⟩, ⟨xbl⟩⟩
 case rest =>
  clear HC3
  obtain ⟨kq, x12_2, rfl, HA, HJ2, BK251, HB⟩ := hcut
  cases kq with
  | zero => exact absurd HA.out (by simp [monikerref18_Plain.j0])
  | succ kj2 =>
   have H := HA.out
   clear HA
   simp only [monikerref18_Plain.j0] at H
   by_cases c7 : x12_2 = true
   ·
    subst c7
    rw [if_pos rfl] at H
    obtain rfl := Option.some.inj H
    go_wp2
    go_ret
    exact ⟨xre, xbl⟩
   ·
    replace c7 := Bool.eq_false_iff.mpr c7
    subst c7
    rw [if_neg (show ¬ (false = true) by decide)] at H
    replace H := Option.bind_eq_some_iff.mp H
    obtain ⟨t252, A80, H⟩ := H
    try dsimp only at H
    have A8 := Aside0.mk A80
    clear A80
    by_cases c9 : (Go.bits .and .i64 t252 15) = 0
    ·
     rw [if_pos c9] at H
     have c9b0 : ((Go.bits .and .i64 t252 15) == 0) = true := beq_iff_eq.mpr c9
     have c9b1 : ((Go.bits .and .i64 t252 15) != 0) = false := bne_eq_false_iff_eq.mpr c9
     clear c9
     by_cases c10 : 0 ≤ a0
     ·
      rw [if_pos c10] at H
      have c10b0 := decide_eq_true c10
      clear c10
      by_cases c11 : a0 = 0
      ·
       subst c11
       rw [if_pos rfl] at H
       replace H := Option.bind_eq_some_iff.mp H
       obtain ⟨t253, A120, H⟩ := H
       try dsimp only at H
       have A12 := Aside0.mk A120
       clear A120
       obtain rfl := Option.some.inj H
       go_wp2_with (first | ((with_reducible refine gate_callee (f := 22) rfl ?_); refine xgl 14 Tryd.func22 #[.int .u8 a1] ?_; (with_reducible refine (monikerref01_Class.calls kj2 a1 t252 _ A8.out).mono ?_); rintro e w' ⟨rfl, ⟨nd, rfl⟩⟩; refine ⟨_, rfl, ?_⟩; obtain ⟨hcz13_0, hcz13_1, hcz13_2, hcz13_3, hcz13_4, hcz13_5, hcz13_6, hcz13_7⟩ := xc8 BK251; have hfz13_0 := xf BK251 0; have hfz13_1 := xf BK251 1; have hfz13_2 := xf BK251 2; have hfz13_3 := xf BK251 3; have hfz13_4 := xf BK251 4; have hfz13_5 := xf BK251 5; have hfz13_6 := xf BK251 6; have hfz13_7 := xf BK251 7) | (go_at_call 37; (with_reducible refine (monikerref01_In.calls kj2 a1 (⟨#[]⟩ : ByteArray) t253 _ A12.out).mono ?_); rintro e w' ⟨rfl, ⟨nd, rfl⟩⟩))
       go_ret
       exact ⟨xre, xbl⟩
      ·
       rw [if_neg c11] at H
       clear c11
       by_cases c14 : a0 = 1
       ·
        subst c14
        rw [if_pos rfl] at H
        replace H := Option.bind_eq_some_iff.mp H
        obtain ⟨t254, A150, H⟩ := H
        try dsimp only at H
        have A15 := Aside0.mk A150
        clear A150
        obtain rfl := Option.some.inj H
        go_wp2_with (first | ((with_reducible refine gate_callee (f := 22) rfl ?_); refine xgl 14 Tryd.func22 #[.int .u8 a1] ?_; (with_reducible refine (monikerref01_Class.calls kj2 a1 t252 _ A8.out).mono ?_); rintro e w' ⟨rfl, ⟨nd, rfl⟩⟩; refine ⟨_, rfl, ?_⟩; obtain ⟨hcz16_0, hcz16_1, hcz16_2, hcz16_3, hcz16_4, hcz16_5, hcz16_6, hcz16_7⟩ := xc8 BK251; have hfz16_0 := xf BK251 0; have hfz16_1 := xf BK251 1; have hfz16_2 := xf BK251 2; have hfz16_3 := xf BK251 3; have hfz16_4 := xf BK251 4; have hfz16_5 := xf BK251 5; have hfz16_6 := xf BK251 6; have hfz16_7 := xf BK251 7) | (go_at_call 37; (with_reducible refine (monikerref01_In.calls kj2 a1 (⟨#[58]⟩ : ByteArray) t254 _ A15.out).mono ?_); rintro e w' ⟨rfl, ⟨nd, rfl⟩⟩))
        go_ret
        exact ⟨xre, xbl⟩
       ·
        rw [if_neg c14] at H
        clear c14
        by_cases c17 : a0 = 2
        ·
         subst c17
         rw [if_pos rfl] at H
         replace H := Option.bind_eq_some_iff.mp H
         obtain ⟨t255, A180, H⟩ := H
         try dsimp only at H
         have A18 := Aside0.mk A180
         clear A180
         obtain rfl := Option.some.inj H
         go_wp2_with (first | ((with_reducible refine gate_callee (f := 22) rfl ?_); refine xgl 14 Tryd.func22 #[.int .u8 a1] ?_; (with_reducible refine (monikerref01_Class.calls kj2 a1 t252 _ A8.out).mono ?_); rintro e w' ⟨rfl, ⟨nd, rfl⟩⟩; refine ⟨_, rfl, ?_⟩; obtain ⟨hcz19_0, hcz19_1, hcz19_2, hcz19_3, hcz19_4, hcz19_5, hcz19_6, hcz19_7⟩ := xc8 BK251; have hfz19_0 := xf BK251 0; have hfz19_1 := xf BK251 1; have hfz19_2 := xf BK251 2; have hfz19_3 := xf BK251 3; have hfz19_4 := xf BK251 4; have hfz19_5 := xf BK251 5; have hfz19_6 := xf BK251 6; have hfz19_7 := xf BK251 7) | (go_at_call 37; (with_reducible refine (monikerref01_In.calls kj2 a1 (⟨#[]⟩ : ByteArray) t255 _ A18.out).mono ?_); rintro e w' ⟨rfl, ⟨nd, rfl⟩⟩))
         go_ret
         exact ⟨xre, xbl⟩
        ·
         rw [if_neg c17] at H
         clear c17
         by_cases c20 : a0 = 3
         ·
          subst c20
          rw [if_pos rfl] at H
          replace H := Option.bind_eq_some_iff.mp H
          obtain ⟨t256, A210, H⟩ := H
          try dsimp only at H
          have A21 := Aside0.mk A210
          clear A210
          obtain rfl := Option.some.inj H
          go_wp2_with (first | ((with_reducible refine gate_callee (f := 22) rfl ?_); refine xgl 14 Tryd.func22 #[.int .u8 a1] ?_; (with_reducible refine (monikerref01_Class.calls kj2 a1 t252 _ A8.out).mono ?_); rintro e w' ⟨rfl, ⟨nd, rfl⟩⟩; refine ⟨_, rfl, ?_⟩; obtain ⟨hcz22_0, hcz22_1, hcz22_2, hcz22_3, hcz22_4, hcz22_5, hcz22_6, hcz22_7⟩ := xc8 BK251; have hfz22_0 := xf BK251 0; have hfz22_1 := xf BK251 1; have hfz22_2 := xf BK251 2; have hfz22_3 := xf BK251 3; have hfz22_4 := xf BK251 4; have hfz22_5 := xf BK251 5; have hfz22_6 := xf BK251 6; have hfz22_7 := xf BK251 7) | (go_at_call 37; (with_reducible refine (monikerref01_In.calls kj2 a1 (⟨#[58, 64]⟩ : ByteArray) t256 _ A21.out).mono ?_); rintro e w' ⟨rfl, ⟨nd, rfl⟩⟩))
          go_ret
          exact ⟨xre, xbl⟩
         ·
          rw [if_neg c20] at H
          clear c20
          by_cases c23 : a0 = 4
          ·
           subst c23
           rw [if_pos rfl] at H
           replace H := Option.bind_eq_some_iff.mp H
           obtain ⟨t257, A240, H⟩ := H
           try dsimp only at H
           have A24 := Aside0.mk A240
           clear A240
           obtain rfl := Option.some.inj H
           go_wp2_with (first | ((with_reducible refine gate_callee (f := 22) rfl ?_); refine xgl 14 Tryd.func22 #[.int .u8 a1] ?_; (with_reducible refine (monikerref01_Class.calls kj2 a1 t252 _ A8.out).mono ?_); rintro e w' ⟨rfl, ⟨nd, rfl⟩⟩; refine ⟨_, rfl, ?_⟩; obtain ⟨hcz25_0, hcz25_1, hcz25_2, hcz25_3, hcz25_4, hcz25_5, hcz25_6, hcz25_7⟩ := xc8 BK251; have hfz25_0 := xf BK251 0; have hfz25_1 := xf BK251 1; have hfz25_2 := xf BK251 2; have hfz25_3 := xf BK251 3; have hfz25_4 := xf BK251 4; have hfz25_5 := xf BK251 5; have hfz25_6 := xf BK251 6; have hfz25_7 := xf BK251 7) | (go_at_call 37; (with_reducible refine (monikerref01_In.calls kj2 a1 (⟨#[64]⟩ : ByteArray) t257 _ A24.out).mono ?_); rintro e w' ⟨rfl, ⟨nd, rfl⟩⟩))
           go_ret
           exact ⟨xre, xbl⟩
          ·
           rw [if_neg c23] at H
           clear c23
           by_cases c26 : a0 = 5
           ·
            subst c26
            rw [if_pos rfl] at H
            replace H := Option.bind_eq_some_iff.mp H
            obtain ⟨t258, A270, H⟩ := H
            try dsimp only at H
            have A27 := Aside0.mk A270
            clear A270
            obtain rfl := Option.some.inj H
            go_wp2_with (first | ((with_reducible refine gate_callee (f := 22) rfl ?_); refine xgl 14 Tryd.func22 #[.int .u8 a1] ?_; (with_reducible refine (monikerref01_Class.calls kj2 a1 t252 _ A8.out).mono ?_); rintro e w' ⟨rfl, ⟨nd, rfl⟩⟩; refine ⟨_, rfl, ?_⟩; obtain ⟨hcz28_0, hcz28_1, hcz28_2, hcz28_3, hcz28_4, hcz28_5, hcz28_6, hcz28_7⟩ := xc8 BK251; have hfz28_0 := xf BK251 0; have hfz28_1 := xf BK251 1; have hfz28_2 := xf BK251 2; have hfz28_3 := xf BK251 3; have hfz28_4 := xf BK251 4; have hfz28_5 := xf BK251 5; have hfz28_6 := xf BK251 6; have hfz28_7 := xf BK251 7) | (go_at_call 37; (with_reducible refine (monikerref01_In.calls kj2 a1 (⟨#[58, 64, 47]⟩ : ByteArray) t258 _ A27.out).mono ?_); rintro e w' ⟨rfl, ⟨nd, rfl⟩⟩))
            go_ret
            exact ⟨xre, xbl⟩
           ·
            rw [if_neg c26] at H
            clear c26
            by_cases c29 : a0 = 6
            ·
             subst c29
             rw [if_pos rfl] at H
             replace H := Option.bind_eq_some_iff.mp H
             obtain ⟨t259, A300, H⟩ := H
             try dsimp only at H
             have A30 := Aside0.mk A300
             clear A300
             obtain rfl := Option.some.inj H
             go_wp2_with (first | ((with_reducible refine gate_callee (f := 22) rfl ?_); refine xgl 14 Tryd.func22 #[.int .u8 a1] ?_; (with_reducible refine (monikerref01_Class.calls kj2 a1 t252 _ A8.out).mono ?_); rintro e w' ⟨rfl, ⟨nd, rfl⟩⟩; refine ⟨_, rfl, ?_⟩; obtain ⟨hcz31_0, hcz31_1, hcz31_2, hcz31_3, hcz31_4, hcz31_5, hcz31_6, hcz31_7⟩ := xc8 BK251; have hfz31_0 := xf BK251 0; have hfz31_1 := xf BK251 1; have hfz31_2 := xf BK251 2; have hfz31_3 := xf BK251 3; have hfz31_4 := xf BK251 4; have hfz31_5 := xf BK251 5; have hfz31_6 := xf BK251 6; have hfz31_7 := xf BK251 7) | (go_at_call 37; (with_reducible refine (monikerref01_In.calls kj2 a1 (⟨#[58, 64, 47, 63]⟩ : ByteArray) t259 _ A30.out).mono ?_); rintro e w' ⟨rfl, ⟨nd, rfl⟩⟩))
             go_ret
             exact ⟨xre, xbl⟩
            ·
             rw [if_neg c29] at H
             clear c29
             by_cases c32 : a0 = 7
             ·
              subst c32
              rw [if_pos rfl] at H
              replace H := Option.bind_eq_some_iff.mp H
              obtain ⟨t260, A330, H⟩ := H
              try dsimp only at H
              have A33 := Aside0.mk A330
              clear A330
              obtain rfl := Option.some.inj H
              go_wp2_with (first | ((with_reducible refine gate_callee (f := 22) rfl ?_); refine xgl 14 Tryd.func22 #[.int .u8 a1] ?_; (with_reducible refine (monikerref01_Class.calls kj2 a1 t252 _ A8.out).mono ?_); rintro e w' ⟨rfl, ⟨nd, rfl⟩⟩; refine ⟨_, rfl, ?_⟩; obtain ⟨hcz34_0, hcz34_1, hcz34_2, hcz34_3, hcz34_4, hcz34_5, hcz34_6, hcz34_7⟩ := xc8 BK251; have hfz34_0 := xf BK251 0; have hfz34_1 := xf BK251 1; have hfz34_2 := xf BK251 2; have hfz34_3 := xf BK251 3; have hfz34_4 := xf BK251 4; have hfz34_5 := xf BK251 5; have hfz34_6 := xf BK251 6; have hfz34_7 := xf BK251 7) | (go_at_call 37; (with_reducible refine (monikerref01_In.calls kj2 a1 (⟨#[58, 64, 47, 63]⟩ : ByteArray) t260 _ A33.out).mono ?_); rintro e w' ⟨rfl, ⟨nd, rfl⟩⟩))
              go_ret
              exact ⟨xre, xbl⟩
             ·
              rw [if_neg c32] at H
              clear c32
              exact absurd H (by simp)
     ·
      rw [if_neg c10] at H
      exact absurd H (by simp)
    ·
     rw [if_neg c9] at H
     have c9b0 : ((Go.bits .and .i64 t252 15) == 0) = false := beq_eq_false_iff_ne.mpr c9
     have c9b1 : ((Go.bits .and .i64 t252 15) != 0) = true := bne_iff_ne.mpr c9
     obtain rfl := Option.some.inj H
     go_wp2_with (first | ((with_reducible refine gate_callee (f := 22) rfl ?_); refine xgl 14 Tryd.func22 #[.int .u8 a1] ?_; (with_reducible refine (monikerref01_Class.calls kj2 a1 t252 _ A8.out).mono ?_); rintro e w' ⟨rfl, ⟨nd, rfl⟩⟩; refine ⟨_, rfl, ?_⟩))
     go_ret
     exact ⟨xre, xbl⟩
mutual
def monikerref18_Common.j0 : Nat → Int → Bool → Option (Bool)
  | 0, _, _ => none
  | k + 1, x0, x25 => if x25 = true then (some true) else (monikerref18_Common.l0 k x0 1)
def monikerref18_Common.l0 : Nat → Int → Int → Option (Bool)
  | 0, _, _ => none
  | k + 1, x0, x3 => if x3 ≤ 13 then (if x0 ≥ (wrap64 (x3 * 65536)) then (if x0 ≤ (wrap64 ((wrap64 (x3 * 65536)) + 65533)) then (some true) else (monikerref18_Common.l0 k x0 (wrap64 (x3 + 1)))) else (monikerref18_Common.l0 k x0 (wrap64 (x3 + 1)))) else (if x0 ≥ 921600 then (some (decide (x0 ≤ 983037))) else (some false))
end
def monikerref18_Common.f (k : Nat) (a0 : Int) : Option (Bool) := if a0 ≥ 160 then (if a0 ≤ 55295 then (monikerref18_Common.j0 k a0 true) else (if a0 ≥ 63744 then (if a0 ≤ 64975 then (monikerref18_Common.j0 k a0 true) else (if a0 ≥ 65008 then (monikerref18_Common.j0 k a0 (decide (a0 ≤ 65519))) else (monikerref18_Common.j0 k a0 false))) else (if a0 ≥ 65008 then (monikerref18_Common.j0 k a0 (decide (a0 ≤ 65519))) else (monikerref18_Common.j0 k a0 false)))) else (if a0 ≥ 63744 then (if a0 ≤ 64975 then (monikerref18_Common.j0 k a0 true) else (if a0 ≥ 65008 then (monikerref18_Common.j0 k a0 (decide (a0 ≤ 65519))) else (monikerref18_Common.j0 k a0 false))) else (if a0 ≥ 65008 then (monikerref18_Common.j0 k a0 (decide (a0 ≤ 65519))) else (monikerref18_Common.j0 k a0 false)))
theorem monikerref18_Common.mono_l : ∀ k, (∀ y0 y1, LeO (monikerref18_Common.j0 k y0 y1) (monikerref18_Common.j0 (k + 1) y0 y1)) ∧ (∀ y0 y1, LeO (monikerref18_Common.l0 k y0 y1) (monikerref18_Common.l0 (k + 1) y0 y1))
  | 0 => ⟨fun _ _ r h => by simp [monikerref18_Common.j0] at h, fun _ _ r h => by simp [monikerref18_Common.l0] at h⟩
  | k + 1 => by
    obtain ⟨ih0, ih1⟩ := monikerref18_Common.mono_l k
    refine ⟨?_, ?_⟩
    · intro y0 y1
      unfold monikerref18_Common.j0
      exact xmo
    · intro y0 y1
      unfold monikerref18_Common.l0
      exact xmo
theorem monikerref18_Common.mono : ∀ a0 k, LeO (monikerref18_Common.f k a0) (monikerref18_Common.f (k + 1) a0) := by
  intro a0 k
  obtain ⟨ih0, ih1⟩ := monikerref18_Common.mono_l k
  unfold monikerref18_Common.f
  exact xmo
set_option maxHeartbeats 8000000 in
set_option maxRecDepth 100000 in
theorem monikerref18_Common.calls (k : Nat) (a0 : Int) (r : Bool) (w : World) (h : monikerref18_Common.f k a0 = some r) :
    Calls Tryd.prog 58 #[.int .i64 a0] w fun e w' => e = .returned (.bool r) ∧ Drawn0 w w' := by
 have H : (if a0 ≥ 160 then (if a0 ≤ 55295 then (monikerref18_Common.j0 k a0 true) else (if a0 ≥ 63744 then (if a0 ≤ 64975 then (monikerref18_Common.j0 k a0 true) else (if a0 ≥ 65008 then (monikerref18_Common.j0 k a0 (decide (a0 ≤ 65519))) else (monikerref18_Common.j0 k a0 false))) else (if a0 ≥ 65008 then (monikerref18_Common.j0 k a0 (decide (a0 ≤ 65519))) else (monikerref18_Common.j0 k a0 false)))) else (if a0 ≥ 63744 then (if a0 ≤ 64975 then (monikerref18_Common.j0 k a0 true) else (if a0 ≥ 65008 then (monikerref18_Common.j0 k a0 (decide (a0 ≤ 65519))) else (monikerref18_Common.j0 k a0 false))) else (if a0 ≥ 65008 then (monikerref18_Common.j0 k a0 (decide (a0 ≤ 65519))) else (monikerref18_Common.j0 k a0 false)))) = some r := h
 clear h
 have HC2 := Aside0.mk H
 clear H
 go_enter Tryd.func58, Tryd.ntmps58
 go_upto_region 1 with (fail)
 go_cut [25] (fun v25 wc => ∃ (kq : Nat) (x25_1 : Bool), v25 = .bool x25_1 ∧ Aside0 (monikerref18_Common.j0 kq a0 x25_1 = some r) ∧ Aside0 (kq ≤ k) ∧ Drawn0 w wc)
 case first =>
  have H := HC2.out
  clear HC2
  by_cases c3 : a0 ≥ 160
  ·
   rw [if_pos c3] at H
   have c3b0 := decide_eq_true c3
   clear c3
   (first | rw [c3b0] | (simp only [i64_w, i32_w]; rw [c3b0]) | skip)
   by_cases c4 : a0 ≤ 55295
   ·
    rw [if_pos c4] at H
    have c4b0 := decide_eq_true c4
    clear c4
    have H' := Aside0.mk H
    clear H
    go_wp2
    go_meet
    case rel => exact ⟨_, (true), xrr, H', ⟨xom⟩, xdr⟩
   ·
    rw [if_neg c4] at H
    have c4b0 := decide_eq_false c4
    clear c4
    by_cases c5 : a0 ≥ 63744
    ·
     rw [if_pos c5] at H
     have c5b0 := decide_eq_true c5
     clear c5
     by_cases c6 : a0 ≤ 64975
     ·
      rw [if_pos c6] at H
      have c6b0 := decide_eq_true c6
      clear c6
      have H' := Aside0.mk H
      clear H
      go_wp2
      go_meet
      case rel => exact ⟨_, (true), xrr, H', ⟨xom⟩, xdr⟩
     ·
      rw [if_neg c6] at H
      have c6b0 := decide_eq_false c6
      clear c6
      by_cases c7 : a0 ≥ 65008
      ·
       rw [if_pos c7] at H
       have c7b0 := decide_eq_true c7
       clear c7
       have H' := Aside0.mk H
       clear H
       go_wp2
       go_meet
       case rel => exact ⟨_, (decide (a0 ≤ 65519)), xrr, H', ⟨xom⟩, xdr⟩
      ·
       rw [if_neg c7] at H
       have c7b0 := decide_eq_false c7
       clear c7
       have H' := Aside0.mk H
       clear H
       go_wp2
       go_meet
       case rel => exact ⟨_, (false), xrr, H', ⟨xom⟩, xdr⟩
    ·
     rw [if_neg c5] at H
     have c5b0 := decide_eq_false c5
     clear c5
     by_cases c8 : a0 ≥ 65008
     ·
      rw [if_pos c8] at H
      have c8b0 := decide_eq_true c8
      clear c8
      have H' := Aside0.mk H
      clear H
      go_wp2
      go_meet
      case rel => exact ⟨_, (decide (a0 ≤ 65519)), xrr, H', ⟨xom⟩, xdr⟩
     ·
      rw [if_neg c8] at H
      have c8b0 := decide_eq_false c8
      clear c8
      have H' := Aside0.mk H
      clear H
      go_wp2
      go_meet
      case rel => exact ⟨_, (false), xrr, H', ⟨xom⟩, xdr⟩
  ·
   rw [if_neg c3] at H
   have c3b0 := decide_eq_false c3
   clear c3
   (first | rw [c3b0] | (simp only [i64_w, i32_w]; rw [c3b0]) | skip)
   by_cases c9 : a0 ≥ 63744
   ·
    rw [if_pos c9] at H
    have c9b0 := decide_eq_true c9
    clear c9
    by_cases c10 : a0 ≤ 64975
    ·
     rw [if_pos c10] at H
     have c10b0 := decide_eq_true c10
     clear c10
     have H' := Aside0.mk H
     clear H
     go_wp2
     go_meet
     case rel => exact ⟨_, (true), xrr, H', ⟨xom⟩, xdr⟩
    ·
     rw [if_neg c10] at H
     have c10b0 := decide_eq_false c10
     clear c10
     by_cases c11 : a0 ≥ 65008
     ·
      rw [if_pos c11] at H
      have c11b0 := decide_eq_true c11
      clear c11
      have H' := Aside0.mk H
      clear H
      go_wp2
      go_meet
      case rel => exact ⟨_, (decide (a0 ≤ 65519)), xrr, H', ⟨xom⟩, xdr⟩
     ·
      rw [if_neg c11] at H
      have c11b0 := decide_eq_false c11
      clear c11
      have H' := Aside0.mk H
      clear H
      go_wp2
      go_meet
      case rel => exact ⟨_, (false), xrr, H', ⟨xom⟩, xdr⟩
   ·
    rw [if_neg c9] at H
    have c9b0 := decide_eq_false c9
    clear c9
    by_cases c12 : a0 ≥ 65008
    ·
     rw [if_pos c12] at H
     have c12b0 := decide_eq_true c12
     clear c12
     have H' := Aside0.mk H
     clear H
     go_wp2
     go_meet
     case rel => exact ⟨_, (decide (a0 ≤ 65519)), xrr, H', ⟨xom⟩, xdr⟩
    ·
     rw [if_neg c12] at H
     have c12b0 := decide_eq_false c12
     clear c12
     have H' := Aside0.mk H
     clear H
     go_wp2
     go_meet
     case rel => exact ⟨_, (false), xrr, H', ⟨xom⟩, xdr⟩
 case rest =>
  clear HC2
  obtain ⟨kq, x25_1, rfl, HA, HJ1, ⟨mc1, rfl⟩⟩ := hcut
  cases kq with
  | zero => exact absurd HA.out (by simp [monikerref18_Common.j0])
  | succ kj1 =>
   have H := HA.out
   clear HA
   simp only [monikerref18_Common.j0] at H
   by_cases c13 : x25_1 = true
   ·
    subst c13
    rw [if_pos rfl] at H
    obtain rfl := Option.some.inj H
    go_wp2
    go_ret
    exact ⟨xrr, xdr⟩
   ·
    replace c13 := Bool.eq_false_iff.mpr c13
    subst c13
    rw [if_neg (show ¬ (false = true) by decide)] at H
    have H' := Aside0.mk H
    clear H
    go_wp2
    go_loopg [3] kj1 (fun kq v3 w' => ∃ (x3_2 : Int), v3 = .int .i64 x3_2 ∧ Aside0 (monikerref18_Common.l0 kq a0 x3_2 = some r) ∧ Aside0 (kq ≤ kj1) ∧ Drawn0 w w')
    case atStart => exact ⟨(1), xrr, H', ⟨Nat.le_refl _⟩, xdr⟩
    case round =>
     clear H'
     obtain ⟨x3_2, rfl, HA, HK2, ⟨m2, rfl⟩⟩ := hrel
     cases gk with
     | zero => exact absurd HA.out (by simp [monikerref18_Common.l0])
     | succ k2 =>
      have H := HA.out
      clear HA
      simp only [monikerref18_Common.l0] at H
      by_cases c14 : x3_2 ≤ 13
      ·
       rw [if_pos c14] at H
       have c14b0 := decide_eq_true c14
       clear c14
       by_cases c15 : a0 ≥ (wrap64 (x3_2 * 65536))
       ·
        rw [if_pos c15] at H
        have c15b0 := decide_eq_true c15
        clear c15
        by_cases c16 : a0 ≤ (wrap64 ((wrap64 (x3_2 * 65536)) + 65533))
        ·
         rw [if_pos c16] at H
         have c16b0 := decide_eq_true c16
         clear c16
         obtain rfl := Option.some.inj H
         go_wp2
         go_ret
         exact ⟨xrr, xdr⟩
        ·
         rw [if_neg c16] at H
         have c16b0 := decide_eq_false c16
         clear c16
         have H' := Aside0.mk H
         clear H
         go_wp2
         go_roundg k2
         case measure => have := HJ1.out; have := HK2.out; omega
         case rel => exact ⟨(wrap64 (x3_2 + 1)), xrr, H', ⟨by have := HJ1.out; have := HK2.out; omega⟩, xdr⟩
       ·
        rw [if_neg c15] at H
        have c15b0 := decide_eq_false c15
        clear c15
        have H' := Aside0.mk H
        clear H
        go_wp2
        go_roundg k2
        case measure => have := HJ1.out; have := HK2.out; omega
        case rel => exact ⟨(wrap64 (x3_2 + 1)), xrr, H', ⟨by have := HJ1.out; have := HK2.out; omega⟩, xdr⟩
      ·
       rw [if_neg c14] at H
       have c14b0 := decide_eq_false c14
       clear c14
       by_cases c17 : a0 ≥ 921600
       ·
        rw [if_pos c17] at H
        have c17b0 := decide_eq_true c17
        clear c17
        obtain rfl := Option.some.inj H
        go_wp2
        go_ret
        exact ⟨xrr, xdr⟩
       ·
        rw [if_neg c17] at H
        have c17b0 := decide_eq_false c17
        clear c17
        obtain rfl := Option.some.inj H
        go_wp2
        go_ret
        exact ⟨xrr, xdr⟩
def monikerref18_Private.f (a0 : Int) : Option (Bool) := if a0 ≥ 57344 then (if a0 ≤ 63743 then (some true) else (if a0 ≥ 983040 then (if a0 ≤ 1048573 then (some true) else (if a0 ≥ 1048576 then (some (decide (a0 ≤ 1114109))) else (some false))) else (if a0 ≥ 1048576 then (some (decide (a0 ≤ 1114109))) else (some false)))) else (if a0 ≥ 983040 then (if a0 ≤ 1048573 then (some true) else (if a0 ≥ 1048576 then (some (decide (a0 ≤ 1114109))) else (some false))) else (if a0 ≥ 1048576 then (some (decide (a0 ≤ 1114109))) else (some false)))
set_option maxHeartbeats 8000000 in
set_option maxRecDepth 100000 in
theorem monikerref18_Private.calls (a0 : Int) (r : Bool) (w : World) (h : monikerref18_Private.f a0 = some r) :
    Calls Tryd.prog 59 #[.int .i64 a0] w fun e w' => e = .returned (.bool r) ∧ Drawn0 w w' := by
 have H : (if a0 ≥ 57344 then (if a0 ≤ 63743 then (some true) else (if a0 ≥ 983040 then (if a0 ≤ 1048573 then (some true) else (if a0 ≥ 1048576 then (some (decide (a0 ≤ 1114109))) else (some false))) else (if a0 ≥ 1048576 then (some (decide (a0 ≤ 1114109))) else (some false)))) else (if a0 ≥ 983040 then (if a0 ≤ 1048573 then (some true) else (if a0 ≥ 1048576 then (some (decide (a0 ≤ 1114109))) else (some false))) else (if a0 ≥ 1048576 then (some (decide (a0 ≤ 1114109))) else (some false)))) = some r := h
 clear h
 by_cases c2 : a0 ≥ 57344
 ·
  rw [if_pos c2] at H
  have c2b0 := decide_eq_true c2
  clear c2
  by_cases c3 : a0 ≤ 63743
  ·
   rw [if_pos c3] at H
   have c3b0 := decide_eq_true c3
   clear c3
   obtain rfl := Option.some.inj H
   go_enter Tryd.func59, Tryd.ntmps59
   go_wp2
   go_ret
   exact ⟨xrr, xdr⟩
  ·
   rw [if_neg c3] at H
   have c3b0 := decide_eq_false c3
   clear c3
   by_cases c4 : a0 ≥ 983040
   ·
    rw [if_pos c4] at H
    have c4b0 := decide_eq_true c4
    clear c4
    by_cases c5 : a0 ≤ 1048573
    ·
     rw [if_pos c5] at H
     have c5b0 := decide_eq_true c5
     clear c5
     obtain rfl := Option.some.inj H
     go_enter Tryd.func59, Tryd.ntmps59
     go_wp2
     go_ret
     exact ⟨xrr, xdr⟩
    ·
     rw [if_neg c5] at H
     have c5b0 := decide_eq_false c5
     clear c5
     by_cases c6 : a0 ≥ 1048576
     ·
      rw [if_pos c6] at H
      have c6b0 := decide_eq_true c6
      clear c6
      obtain rfl := Option.some.inj H
      go_enter Tryd.func59, Tryd.ntmps59
      go_wp2
      go_ret
      exact ⟨xrr, xdr⟩
     ·
      rw [if_neg c6] at H
      have c6b0 := decide_eq_false c6
      clear c6
      obtain rfl := Option.some.inj H
      go_enter Tryd.func59, Tryd.ntmps59
      go_wp2
      go_ret
      exact ⟨xrr, xdr⟩
   ·
    rw [if_neg c4] at H
    have c4b0 := decide_eq_false c4
    clear c4
    by_cases c7 : a0 ≥ 1048576
    ·
     rw [if_pos c7] at H
     have c7b0 := decide_eq_true c7
     clear c7
     obtain rfl := Option.some.inj H
     go_enter Tryd.func59, Tryd.ntmps59
     go_wp2
     go_ret
     exact ⟨xrr, xdr⟩
    ·
     rw [if_neg c7] at H
     have c7b0 := decide_eq_false c7
     clear c7
     obtain rfl := Option.some.inj H
     go_enter Tryd.func59, Tryd.ntmps59
     go_wp2
     go_ret
     exact ⟨xrr, xdr⟩
 ·
  rw [if_neg c2] at H
  have c2b0 := decide_eq_false c2
  clear c2
  by_cases c8 : a0 ≥ 983040
  ·
   rw [if_pos c8] at H
   have c8b0 := decide_eq_true c8
   clear c8
   by_cases c9 : a0 ≤ 1048573
   ·
    rw [if_pos c9] at H
    have c9b0 := decide_eq_true c9
    clear c9
    obtain rfl := Option.some.inj H
    go_enter Tryd.func59, Tryd.ntmps59
    go_wp2
    go_ret
    exact ⟨xrr, xdr⟩
   ·
    rw [if_neg c9] at H
    have c9b0 := decide_eq_false c9
    clear c9
    by_cases c10 : a0 ≥ 1048576
    ·
     rw [if_pos c10] at H
     have c10b0 := decide_eq_true c10
     clear c10
     obtain rfl := Option.some.inj H
     go_enter Tryd.func59, Tryd.ntmps59
     go_wp2
     go_ret
     exact ⟨xrr, xdr⟩
    ·
     rw [if_neg c10] at H
     have c10b0 := decide_eq_false c10
     clear c10
     obtain rfl := Option.some.inj H
     go_enter Tryd.func59, Tryd.ntmps59
     go_wp2
     go_ret
     exact ⟨xrr, xdr⟩
  ·
   rw [if_neg c8] at H
   have c8b0 := decide_eq_false c8
   clear c8
   by_cases c11 : a0 ≥ 1048576
   ·
    rw [if_pos c11] at H
    have c11b0 := decide_eq_true c11
    clear c11
    obtain rfl := Option.some.inj H
    go_enter Tryd.func59, Tryd.ntmps59
    go_wp2
    go_ret
    exact ⟨xrr, xdr⟩
   ·
    rw [if_neg c11] at H
    have c11b0 := decide_eq_false c11
    clear c11
    obtain rfl := Option.some.inj H
    go_enter Tryd.func59, Tryd.ntmps59
    go_wp2
    go_ret
    exact ⟨xrr, xdr⟩
end Go.Proofs.YtdmigmccfdhdiaaDoor.X
namespace Go.Proofs.YtdmigmccfdhdiaaDoor.X
open Go.RowKit Go.Proofs.YtdmigmccfdhdiaaDoorW.PrintWords Go.Proofs.YtdmigmccfdhdiaaDoorW.PrintLast Go.Proofs.YtdmigmccfdhdiaaDoorW.PrintMore
attribute [local go_sem] max2_int min2_int max_two min_two max_three min_three max_four min_four
set_option linter.unusedVariables false
set_option linter.unusedSimpArgs false
mutual
def monikerref18_May.j0 : Nat → Int → Bool → Int → Bool → Option (Bool)
  | 0, _, _, _, _ => none
  | k + 1, x0, x1, x2, x12 => if x12 = true then ((monikerref18_Plain.f k x0 ((x2) % 256)).bind fun t261 => (some t261)) else (if x1 = true then (if x0 < 1 then (monikerref18_May.j1 k x0 x2 true) else (monikerref18_May.j1 k x0 x2 (decide (x0 > 7)))) else (monikerref18_May.j1 k x0 x2 true))
def monikerref18_May.j1 : Nat → Int → Int → Bool → Option (Bool)
  | 0, _, _, _ => none
  | k + 1, x0, x2, x26 => if x26 = true then (some false) else ((monikerref18_Common.f k x2).bind fun t262 => (if t262 = true then (some true) else (if x0 = 6 then ((monikerref18_Private.f x2).bind fun t263 => (some t263)) else (some false))))
end
def monikerref18_May.f (k : Nat) (a0 : Int) (a1 : Bool) (a2 : Int) : Option (Bool) := if a2 ≥ 0 then (monikerref18_May.j0 k a0 a1 a2 (decide (a2 < 128))) else (monikerref18_May.j0 k a0 a1 a2 false)
theorem monikerref18_May.mono_l : ∀ k, (∀ y0 y1 y2 y3, LeO (monikerref18_May.j0 k y0 y1 y2 y3) (monikerref18_May.j0 (k + 1) y0 y1 y2 y3)) ∧ (∀ y0 y1 y2, LeO (monikerref18_May.j1 k y0 y1 y2) (monikerref18_May.j1 (k + 1) y0 y1 y2))
  | 0 => ⟨fun _ _ _ _ r h => by simp [monikerref18_May.j0] at h, fun _ _ _ r h => by simp [monikerref18_May.j1] at h⟩
  | k + 1 => by
    obtain ⟨ih0, ih1⟩ := monikerref18_May.mono_l k
    have m0 := @monikerref18_Common.mono; have m1 := @monikerref18_Plain.mono
    refine ⟨?_, ?_⟩
    · intro y0 y1 y2 y3
      unfold monikerref18_May.j0
      exact xmo
    · intro y0 y1 y2
      unfold monikerref18_May.j1
      exact xmo
theorem monikerref18_May.mono : ∀ a0 a1 a2 k, LeO (monikerref18_May.f k a0 a1 a2) (monikerref18_May.f (k + 1) a0 a1 a2) := by
  intro a0 a1 a2 k
  obtain ⟨ih0, ih1⟩ := monikerref18_May.mono_l k
  have m0 := @monikerref18_Common.mono; have m1 := @monikerref18_Plain.mono
  unfold monikerref18_May.f
  exact xmo
set_option maxHeartbeats 8000000 in
set_option maxRecDepth 100000 in
theorem monikerref18_May.calls (k : Nat) (a0 : Int) (a1 : Bool) (a2 : Int) (r : Bool) (w : World) (h : monikerref18_May.f k a0 a1 a2 = some r) :
    Calls Tryd.prog 36 #[.int .i64 a0, .bool a1, .int .i64 a2] w fun e w' => e = .returned (.bool r) ∧ Below w.heap.size w w' := by
 have HB := Aside0.mk (Below.refl w.heap.size w)
 have H : (if a2 ≥ 0 then (monikerref18_May.j0 k a0 a1 a2 (decide (a2 < 128))) else (monikerref18_May.j0 k a0 a1 a2 false)) = some r := h
 clear h
 have HC4 := Aside0.mk H
 clear H
 go_enter Tryd.func36, Tryd.ntmps36
 go_upto_region 1 with (fail)
 go_cut [12] (fun v12 wc => ∃ (kq : Nat) (x12_3 : Bool), v12 = .bool x12_3 ∧ Aside0 (monikerref18_May.j0 kq a0 a1 a2 x12_3 = some r) ∧ Aside0 (kq ≤ k) ∧ Aside0 (Below w.heap.size w wc))
 case first =>
  have H := HC4.out
  clear HC4
  by_cases c5 : a2 ≥ 0
  ·
   rw [if_pos c5] at H
   have c5b0 := decide_eq_true c5
   clear c5
   (first | rw [c5b0] | (simp only [i64_w, i32_w]; rw [c5b0]) | skip)
   have H' := Aside0.mk H
   clear H
   go_wp2
   go_meet
   case rel => exact ⟨_, (decide (a2 < 128)), xrr, H', ⟨xom⟩, ⟨xbl⟩⟩
  ·
   rw [if_neg c5] at H
   have c5b0 := decide_eq_false c5
   clear c5
   (first | rw [c5b0] | (simp only [i64_w, i32_w]; rw [c5b0]) | skip)
   have H' := Aside0.mk H
   clear H
   go_wp2
   go_meet
   case rel => exact ⟨_, (false), xrr, H', ⟨xom⟩, ⟨xbl⟩⟩
 case rest =>
  clear HC4
  obtain ⟨kq, x12_3, rfl, HA, HJ3, HB⟩ := hcut
  cases kq with
  | zero => exact absurd HA.out (by simp [monikerref18_May.j0])
  | succ kj3 =>
   have H := HA.out
   clear HA
   simp only [monikerref18_May.j0] at H
   by_cases c6 : x12_3 = true
   ·
    subst c6
    rw [if_pos rfl] at H
    replace H := Option.bind_eq_some_iff.mp H
    obtain ⟨t261, A70, H⟩ := H
    try dsimp only at H
    have A7 := Aside0.mk A70
    clear A70
    obtain rfl := Option.some.inj H
    go_wp2_with (first | ((with_reducible refine gate_callee (f := 57) rfl ?_); refine xgl 16 Tryd.func57 #[.int .i64 a0, .int .u8 ((a2) % 256)] ?_; (with_reducible refine (monikerref18_Plain.calls kj3 a0 ((a2) % 256) t261 _ A7.out).mono ?_); rintro e w8 ⟨rfl, hb⟩; refine ⟨_, rfl, ?_⟩; replace HB := xst hb; (try clear hb)))
    go_ret
    exact ⟨xre, xbl⟩
   ·
    replace c6 := Bool.eq_false_iff.mpr c6
    subst c6
    rw [if_neg (show ¬ (false = true) by decide)] at H
    have HC9 := Aside0.mk H
    clear H
    go_upto_region 3 with (fail)
    go_cut [26] (fun v26 wc => ∃ (kq : Nat) (x26_8 : Bool), v26 = .bool x26_8 ∧ Aside0 (monikerref18_May.j1 kq a0 a2 x26_8 = some r) ∧ Aside0 (kq ≤ kj3) ∧ Aside0 (Below w.heap.size w wc))
    case first =>
     have H := HC9.out
     clear HC9
     by_cases c10 : a1 = true
     ·
      subst c10
      rw [if_pos rfl] at H
      by_cases c11 : a0 < 1
      ·
       rw [if_pos c11] at H
       have c11b0 := decide_eq_true c11
       clear c11
       (first | rw [c11b0] | (simp only [i64_w, i32_w]; rw [c11b0]) | skip)
       have H' := Aside0.mk H
       clear H
       go_wp2
       go_meet
       case rel => exact ⟨_, (true), xrr, H', ⟨by have := HJ3.out; first | omega | exact Nat.le_refl _⟩, ⟨xbl⟩⟩
      ·
       rw [if_neg c11] at H
       have c11b0 := decide_eq_false c11
       clear c11
       (first | rw [c11b0] | (simp only [i64_w, i32_w]; rw [c11b0]) | skip)
       have H' := Aside0.mk H
       clear H
       go_wp2
       go_meet
       case rel => exact ⟨_, (decide (a0 > 7)), xrr, H', ⟨by have := HJ3.out; first | omega | exact Nat.le_refl _⟩, ⟨xbl⟩⟩
     ·
      replace c10 := Bool.eq_false_iff.mpr c10
      subst c10
      rw [if_neg (show ¬ (false = true) by decide)] at H
      have H' := Aside0.mk H
      clear H
      go_wp2
      go_meet
      case rel => exact ⟨_, (true), xrr, H', ⟨by have := HJ3.out; first | omega | exact Nat.le_refl _⟩, ⟨xbl⟩⟩
    case rest =>
     clear HC9
     obtain ⟨kq, x26_8, rfl, HA, HJ8, HB⟩ := hcut
     cases kq with
     | zero => exact absurd HA.out (by simp [monikerref18_May.j1])
     | succ kj8 =>
      have H := HA.out
      clear HA
      simp only [monikerref18_May.j1] at H
      by_cases c12 : x26_8 = true
      ·
       subst c12
       rw [if_pos rfl] at H
       obtain rfl := Option.some.inj H
       go_wp2
       go_ret
       exact ⟨xre, xbl⟩
      ·
       replace c12 := Bool.eq_false_iff.mpr c12
       subst c12
       rw [if_neg (show ¬ (false = true) by decide)] at H
       replace H := Option.bind_eq_some_iff.mp H
       obtain ⟨t262, A130, H⟩ := H
       try dsimp only at H
       have A13 := Aside0.mk A130
       clear A130
       by_cases c14 : t262 = true
       ·
        subst c14
        rw [if_pos rfl] at H
        obtain rfl := Option.some.inj H
        go_wp2_with (first | ((with_reducible refine gate_callee (f := 58) rfl ?_); refine xgl 28 Tryd.func58 #[.int .i64 a2] ?_; (with_reducible refine (monikerref18_Common.calls kj8 a2 true _ A13.out).mono ?_); rintro e w' ⟨rfl, ⟨nd, rfl⟩⟩; refine ⟨_, rfl, ?_⟩))
        go_ret
        exact ⟨xre, xbl⟩
       ·
        replace c14 := Bool.eq_false_iff.mpr c14
        subst c14
        rw [if_neg (show ¬ (false = true) by decide)] at H
        by_cases c15 : a0 = 6
        ·
         rw [if_pos c15] at H
         have c15b0 : (a0 == 6) = true := beq_iff_eq.mpr c15
         have c15b1 : (a0 != 6) = false := bne_eq_false_iff_eq.mpr c15
         clear c15
         replace H := Option.bind_eq_some_iff.mp H
         obtain ⟨t263, A160, H⟩ := H
         try dsimp only at H
         have A16 := Aside0.mk A160
         clear A160
         obtain rfl := Option.some.inj H
         go_wp2_with (first | ((with_reducible refine gate_callee (f := 58) rfl ?_); refine xgl 28 Tryd.func58 #[.int .i64 a2] ?_; (with_reducible refine (monikerref18_Common.calls kj8 a2 false _ A13.out).mono ?_); rintro e w' ⟨rfl, ⟨nd, rfl⟩⟩; refine ⟨_, rfl, ?_⟩) | (go_at_call 59; (with_reducible refine (monikerref18_Private.calls a2 t263 _ A16.out).mono ?_); rintro e w' ⟨rfl, ⟨nd, rfl⟩⟩))
         go_ret
         exact ⟨xre, xbl⟩
        ·
         rw [if_neg c15] at H
         have c15b0 : (a0 == 6) = false := beq_eq_false_iff_ne.mpr c15
         have c15b1 : (a0 != 6) = true := bne_iff_ne.mpr c15
         obtain rfl := Option.some.inj H
         go_wp2_with (first | ((with_reducible refine gate_callee (f := 58) rfl ?_); refine xgl 28 Tryd.func58 #[.int .i64 a2] ?_; (with_reducible refine (monikerref18_Common.calls kj8 a2 false _ A13.out).mono ?_); rintro e w' ⟨rfl, ⟨nd, rfl⟩⟩; refine ⟨_, rfl, ?_⟩))
         go_ret
         exact ⟨xre, xbl⟩
def monikerref18_Step.j0 : Nat → Int → Bool → ByteArray → Int → Bool → Option (Int)
  | 0, _, _, _, _, _ => none
  | k + 1, x0, x1, x2, x3, x15 => if x15 = true then (some 0) else ((monikerref04_At.f k x2 x3).bind fun t264 => (if t264 ≥ 0 then (some 3) else (if 0 ≤ x3 then (if x3 ≤ (x2.size : Int) then ((monikerref02_Decode.f k (x2.extract (x3 : Int).toNat x2.size)).bind fun bt265 => (if bt265.2.2 = true then ((monikerref18_May.f k x0 x1 bt265.1).bind fun t269 => (if t269 = true then (some bt265.2.1) else (some 0))) else (some 0))) else (none)) else (none))))
def monikerref18_Step.f (k : Nat) (a0 : Int) (a1 : Bool) (a2 : ByteArray) (a3 : Int) : Option (Int) := if a0 < 1 then (monikerref18_Step.j0 k a0 a1 a2 a3 true) else (monikerref18_Step.j0 k a0 a1 a2 a3 (decide (a0 > 7)))
theorem monikerref18_Step.mono_l : ∀ k, (∀ y0 y1 y2 y3 y4, LeO (monikerref18_Step.j0 k y0 y1 y2 y3 y4) (monikerref18_Step.j0 (k + 1) y0 y1 y2 y3 y4))
  | 0 => fun _ _ _ _ _ r h => by simp [monikerref18_Step.j0] at h
  | k + 1 => by
    have ih0 := monikerref18_Step.mono_l k
    have m0 := @monikerref02_Decode.mono; have m1 := @monikerref04_At.mono; have m2 := @monikerref18_May.mono
    · intro y0 y1 y2 y3 y4
      unfold monikerref18_Step.j0
      exact xmo
theorem monikerref18_Step.mono : ∀ a0 a1 a2 a3 k, LeO (monikerref18_Step.f k a0 a1 a2 a3) (monikerref18_Step.f (k + 1) a0 a1 a2 a3) := by
  intro a0 a1 a2 a3 k
  have ih0 := monikerref18_Step.mono_l k
  have m0 := @monikerref02_Decode.mono; have m1 := @monikerref04_At.mono; have m2 := @monikerref18_May.mono
  unfold monikerref18_Step.f
  exact xmo
set_option maxHeartbeats 8000000 in
set_option maxRecDepth 100000 in
theorem monikerref18_Step.calls (k : Nat) (a0 : Int) (a1 : Bool) (a2 : ByteArray) (a3 : Int) (r : Int) (w : World) (h : monikerref18_Step.f k a0 a1 a2 a3 = some r) :
    Calls Tryd.prog 21 #[.int .i64 a0, .bool a1, .string a2, .int .i64 a3] w fun e w' => e = .returned (.int .i64 r) ∧ Below w.heap.size w w' := by
 have hu59 := Tryd.underlying59
 have HB := Aside0.mk (Below.refl w.heap.size w)
 have H : (if a0 < 1 then (monikerref18_Step.j0 k a0 a1 a2 a3 true) else (monikerref18_Step.j0 k a0 a1 a2 a3 (decide (a0 > 7)))) = some r := h
 clear h
 have HC5 := Aside0.mk H
 clear H
 go_enter Tryd.func21, Tryd.ntmps21
 go_upto_region 1 with (fail)
 go_cut [15] (fun v15 wc => ∃ (kq : Nat) (x15_4 : Bool), v15 = .bool x15_4 ∧ Aside0 (monikerref18_Step.j0 kq a0 a1 a2 a3 x15_4 = some r) ∧ Aside0 (kq ≤ k) ∧ Aside0 (Below w.heap.size w wc))
 case first =>
  have H := HC5.out
  clear HC5
  by_cases c6 : a0 < 1
  ·
   rw [if_pos c6] at H
   have c6b0 := decide_eq_true c6
   clear c6
   (first | rw [c6b0] | (simp only [i64_w, i32_w]; rw [c6b0]) | skip)
   have H' := Aside0.mk H
   clear H
   go_wp2
   go_meet
   case rel => exact ⟨_, (true), xrr, H', ⟨xom⟩, ⟨xbl⟩⟩
  ·
   rw [if_neg c6] at H
   have c6b0 := decide_eq_false c6
   clear c6
   (first | rw [c6b0] | (simp only [i64_w, i32_w]; rw [c6b0]) | skip)
   have H' := Aside0.mk H
   clear H
   go_wp2
   go_meet
   case rel => exact ⟨_, (decide (a0 > 7)), xrr, H', ⟨xom⟩, ⟨xbl⟩⟩
 case rest =>
  clear HC5
  obtain ⟨kq, x15_4, rfl, HA, HJ4, HB⟩ := hcut
  cases kq with
  | zero => exact absurd HA.out (by simp [monikerref18_Step.j0])
  | succ kj4 =>
   have H := HA.out
   clear HA
   simp only [monikerref18_Step.j0] at H
   by_cases c7 : x15_4 = true
   ·
    subst c7
    rw [if_pos rfl] at H
    obtain rfl := Option.some.inj H
    go_wp2
    go_ret
    exact ⟨xre, xbl⟩
   ·
    replace c7 := Bool.eq_false_iff.mpr c7
    subst c7
    rw [if_neg (show ¬ (false = true) by decide)] at H
    replace H := Option.bind_eq_some_iff.mp H
    obtain ⟨t264, A80, H⟩ := H
    try dsimp only at H
    have A8 := Aside0.mk A80
    clear A80
    by_cases c9 : t264 ≥ 0
    ·
     rw [if_pos c9] at H
     have c9b0 := decide_eq_true c9
     clear c9
     obtain rfl := Option.some.inj H
     go_wp2_with (first | ((with_reducible refine gate_callee (f := 34) rfl ?_); refine xgl 18 Tryd.func34 #[.string a2, .int .i64 a3] ?_; (with_reducible refine (monikerref04_At.calls kj4 a2 a3 t264 _ A8.out).mono ?_); rintro e w' ⟨rfl, ⟨nd, rfl⟩⟩; refine ⟨_, rfl, ?_⟩))
     go_ret
     exact ⟨xre, xbl⟩
    ·
     rw [if_neg c9] at H
     have c9b0 := decide_eq_false c9
     clear c9
     by_cases c10 : 0 ≤ a3
     ·
      rw [if_pos c10] at H
      have c10b0 := eq_true c10
      have c10b1 := decide_eq_true c10
      clear c10
      by_cases c11 : a3 ≤ (a2.size : Int)
      ·
       rw [if_pos c11] at H
       have c11b0 := eq_true c11
       have c11b1 := decide_eq_true c11
       clear c11
       obtain ⟨ji12, hji12⟩ : ∃ j_ : ByteArray, (a2.extract (a3 : Int).toNat a2.size) = j_ := ⟨_, rfl⟩
       try (have hji12x := hji12; simp only [Int.toNat_natCast, Int.toNat_ofNat] at hji12x)
       first | rw [hji12] at H | simp only [hji12] at H | skip
       (try rw [hji12] at A8)
       replace H := Option.bind_eq_some_iff.mp H
       obtain ⟨⟨t265, t266, t267⟩, A130, H⟩ := H
       try dsimp only at H
       have A13 := Aside0.mk A130
       clear A130
       by_cases c14 : t267 = true
       ·
        subst c14
        rw [if_pos rfl] at H
        replace H := Option.bind_eq_some_iff.mp H
        obtain ⟨t269, A150, H⟩ := H
        try dsimp only at H
        have A15 := Aside0.mk A150
        clear A150
        by_cases c16 : t269 = true
        ·
         subst c16
         rw [if_pos rfl] at H
         obtain rfl := Option.some.inj H
         go_wp2_with (first | ((with_reducible refine gate_callee (f := 34) rfl ?_); refine xgl 18 Tryd.func34 #[.string a2, .int .i64 a3] ?_; (with_reducible refine (monikerref04_At.calls kj4 a2 a3 t264 _ A8.out).mono ?_); rintro e w' ⟨rfl, ⟨nd, rfl⟩⟩; refine ⟨_, rfl, ?_⟩; (try (rw [drewN_self wc]; generalize hq_ : World.drewN wc _ = wc; have n0_ : Aside0 (Below w.heap.size w wc) := ⟨by rw [← hq_]; exact xbl⟩; clear HB hq_; have HB := n0_; clear n0_))) | ((with_reducible refine gate_callee (f := 35) rfl ?_); refine goesL_ (some 23) rfl rfl Tryd.func35 (by kernel_rfl) rfl #[.string ji12] rfl (by (try simp only [List.map_toArray, List.map_cons, List.map_nil]); first | done | (simp only [hji12]; rfl) | rfl | (simp only [List.length_drop, List.length_take]; rfl)) ?_; (with_reducible refine (monikerref02_Decode.calls kj4 ji12 t265 t266 true _ A13.out).mono ?_); rintro e w17 ⟨rfl, hb⟩; refine ⟨_, rfl, ?_⟩; replace HB := xst hb; (try clear hb)) | ((with_reducible refine gate_dst (N := 9) rfl ?_); refine xev 9 #[.int .i64 0, .int .i64 0, .bool false] 59 ?_; intro gb268 hg w18 hbox hb; have BK268 := Aside0.mk (hbox); have GW268 := xsz hg; have GE268 := GW268; replace HB := xst hb; clear hb hbox hg; obtain ⟨hcz19_0, hcz19_1, hcz19_2⟩ := xc3 BK268; have hfz19_0 := xf BK268 0; have hfz19_1 := xf BK268 1; have hfz19_2 := xf BK268 2) | (go_at_call 36; (with_reducible refine (monikerref18_May.calls kj4 a0 a1 t265 true _ A15.out).mono ?_); rintro e w20 ⟨rfl, hb⟩; replace BK268 := xbb (g := gb268) (o := .cells #[.int .i64 t265, .int .i64 t266, .bool true] 59 (0, 0)) hb; replace HB := xst hb; (try clear hb); obtain ⟨hcz21_0, hcz21_1, hcz21_2⟩ := xc3 BK268; have hfz21_0 := xf BK268 0; have hfz21_1 := xf BK268 1; have hfz21_2 := xf BK268 2))
         go_ret
         exact ⟨by first | rfl | (simp [errW_none, errW_some] <;> first | rfl | (simp only [xp_isEmpty, bne, Bool.not_not]; done)) | (simp only [← hji12]; first | rfl | (simp [errW_none, errW_some] <;> rfl)) | (simp [*, errW_none, errW_some] <;> rfl), xbl⟩
        ·
         replace c16 := Bool.eq_false_iff.mpr c16
         subst c16
         rw [if_neg (show ¬ (false = true) by decide)] at H
         obtain rfl := Option.some.inj H
         go_wp2_with (first | ((with_reducible refine gate_callee (f := 34) rfl ?_); refine xgl 18 Tryd.func34 #[.string a2, .int .i64 a3] ?_; (with_reducible refine (monikerref04_At.calls kj4 a2 a3 t264 _ A8.out).mono ?_); rintro e w' ⟨rfl, ⟨nd, rfl⟩⟩; refine ⟨_, rfl, ?_⟩; (try (rw [drewN_self wc]; generalize hq_ : World.drewN wc _ = wc; have n0_ : Aside0 (Below w.heap.size w wc) := ⟨by rw [← hq_]; exact xbl⟩; clear HB hq_; have HB := n0_; clear n0_))) | ((with_reducible refine gate_callee (f := 35) rfl ?_); refine goesL_ (some 23) rfl rfl Tryd.func35 (by kernel_rfl) rfl #[.string ji12] rfl (by (try simp only [List.map_toArray, List.map_cons, List.map_nil]); first | done | (simp only [hji12]; rfl) | rfl | (simp only [List.length_drop, List.length_take]; rfl)) ?_; (with_reducible refine (monikerref02_Decode.calls kj4 ji12 t265 t266 true _ A13.out).mono ?_); rintro e w22 ⟨rfl, hb⟩; refine ⟨_, rfl, ?_⟩; replace HB := xst hb; (try clear hb)) | ((with_reducible refine gate_dst (N := 9) rfl ?_); refine xev 9 #[.int .i64 0, .int .i64 0, .bool false] 59 ?_; intro gb268 hg w23 hbox hb; have BK268 := Aside0.mk (hbox); have GW268 := xsz hg; have GE268 := GW268; replace HB := xst hb; clear hb hbox hg; obtain ⟨hcz24_0, hcz24_1, hcz24_2⟩ := xc3 BK268; have hfz24_0 := xf BK268 0; have hfz24_1 := xf BK268 1; have hfz24_2 := xf BK268 2) | (go_at_call 36; (with_reducible refine (monikerref18_May.calls kj4 a0 a1 t265 false _ A15.out).mono ?_); rintro e w25 ⟨rfl, hb⟩; replace BK268 := xbb (g := gb268) (o := .cells #[.int .i64 t265, .int .i64 t266, .bool true] 59 (0, 0)) hb; replace HB := xst hb; (try clear hb)))
         go_ret
         exact ⟨by first | rfl | (simp [errW_none, errW_some] <;> first | rfl | (simp only [xp_isEmpty, bne, Bool.not_not]; done)) | (simp only [← hji12]; first | rfl | (simp [errW_none, errW_some] <;> rfl)) | (simp [*, errW_none, errW_some] <;> rfl), xbl⟩
       ·
        replace c14 := Bool.eq_false_iff.mpr c14
        subst c14
        rw [if_neg (show ¬ (false = true) by decide)] at H
        obtain rfl := Option.some.inj H
        go_wp2_with (first | ((with_reducible refine gate_callee (f := 34) rfl ?_); refine xgl 18 Tryd.func34 #[.string a2, .int .i64 a3] ?_; (with_reducible refine (monikerref04_At.calls kj4 a2 a3 t264 _ A8.out).mono ?_); rintro e w' ⟨rfl, ⟨nd, rfl⟩⟩; refine ⟨_, rfl, ?_⟩; (try (rw [drewN_self wc]; generalize hq_ : World.drewN wc _ = wc; have n0_ : Aside0 (Below w.heap.size w wc) := ⟨by rw [← hq_]; exact xbl⟩; clear HB hq_; have HB := n0_; clear n0_))) | ((with_reducible refine gate_callee (f := 35) rfl ?_); refine goesL_ (some 23) rfl rfl Tryd.func35 (by kernel_rfl) rfl #[.string ji12] rfl (by (try simp only [List.map_toArray, List.map_cons, List.map_nil]); first | done | (simp only [hji12]; rfl) | rfl | (simp only [List.length_drop, List.length_take]; rfl)) ?_; (with_reducible refine (monikerref02_Decode.calls kj4 ji12 t265 t266 false _ A13.out).mono ?_); rintro e w26 ⟨rfl, hb⟩; refine ⟨_, rfl, ?_⟩; replace HB := xst hb; (try clear hb)) | ((with_reducible refine gate_dst (N := 9) rfl ?_); refine xev 9 #[.int .i64 0, .int .i64 0, .bool false] 59 ?_; intro gb268 hg w27 hbox hb; have BK268 := Aside0.mk (hbox); have GW268 := xsz hg; have GE268 := GW268; replace HB := xst hb; clear hb hbox hg; obtain ⟨hcz28_0, hcz28_1, hcz28_2⟩ := xc3 BK268; have hfz28_0 := xf BK268 0; have hfz28_1 := xf BK268 1; have hfz28_2 := xf BK268 2))
        go_ret
        exact ⟨by first | rfl | (simp [errW_none, errW_some] <;> first | rfl | (simp only [xp_isEmpty, bne, Bool.not_not]; done)) | (simp only [← hji12]; first | rfl | (simp [errW_none, errW_some] <;> rfl)) | (simp [*, errW_none, errW_some] <;> rfl), xbl⟩
      ·
       rw [if_neg c11] at H
       exact absurd H (by simp)
     ·
      rw [if_neg c10] at H
      exact absurd H (by simp)
def monikerref18_Span.l0 : Nat → Int → Bool → ByteArray → Int → Option (Int)
  | 0, _, _, _, _ => none
  | k + 1, x0, x1, x2, x7 => if x7 < (x2.size : Int) then ((monikerref18_Step.f k x0 x1 x2 x7).bind fun t270 => (if t270 > 0 then ((monikerref18_Step.f k x0 x1 x2 x7).bind fun t271 => (monikerref18_Span.l0 k x0 x1 x2 (wrap64 (x7 + t271)))) else (some x7))) else (some x7)
def monikerref18_Span.f (k : Nat) (a0 : Int) (a1 : Bool) (a2 : ByteArray) : Option (Int) := monikerref18_Span.l0 k a0 a1 a2 0
theorem monikerref18_Span.mono_l : ∀ k, (∀ y0 y1 y2 y3, LeO (monikerref18_Span.l0 k y0 y1 y2 y3) (monikerref18_Span.l0 (k + 1) y0 y1 y2 y3))
  | 0 => fun _ _ _ _ r h => by simp [monikerref18_Span.l0] at h
  | k + 1 => by
    have ih0 := monikerref18_Span.mono_l k
    have m0 := @monikerref18_Step.mono
    · intro y0 y1 y2 y3
      unfold monikerref18_Span.l0
      exact xmo
theorem monikerref18_Span.mono : ∀ a0 a1 a2 k, LeO (monikerref18_Span.f k a0 a1 a2) (monikerref18_Span.f (k + 1) a0 a1 a2) := by
  intro a0 a1 a2 k
  have ih0 := monikerref18_Span.mono_l k
  have m0 := @monikerref18_Step.mono
  unfold monikerref18_Span.f
  exact xmo
set_option maxHeartbeats 8000000 in
set_option maxRecDepth 100000 in
theorem monikerref18_Span.calls (k : Nat) (a0 : Int) (a1 : Bool) (a2 : ByteArray) (r : Int) (w : World) (h : monikerref18_Span.f k a0 a1 a2 = some r) :
    Calls Tryd.prog 13 #[.int .i64 a0, .bool a1, .string a2] w fun e w' => e = .returned (.int .i64 r) ∧ Below w.heap.size w w' := by
 have HB := Aside0.mk (Below.refl w.heap.size w)
 have H : (monikerref18_Span.l0 k a0 a1 a2 0) = some r := h
 clear h
 have H' := Aside0.mk H
 clear H
 go_enter Tryd.func13, Tryd.ntmps13
 go_wp2
 go_loopg [7] k (fun kq v7 w' => ∃ (x7_1 : Int), v7 = .int .i64 x7_1 ∧ Aside0 (monikerref18_Span.l0 kq a0 a1 a2 x7_1 = some r) ∧ Aside0 (kq ≤ k) ∧ Aside0 (Below w.heap.size w w'))
 case atStart => exact ⟨(0), xrr, H', ⟨Nat.le_refl _⟩, ⟨xbl⟩⟩
 case round =>
  clear H'
  obtain ⟨x7_1, rfl, HA, HK1, HB⟩ := hrel
  cases gk with
  | zero => exact absurd HA.out (by simp [monikerref18_Span.l0])
  | succ k1 =>
   have H := HA.out
   clear HA
   simp only [monikerref18_Span.l0] at H
   by_cases c4 : x7_1 < (a2.size : Int)
   ·
    rw [if_pos c4] at H
    have c4b0 := decide_eq_true c4
    clear c4
    replace H := Option.bind_eq_some_iff.mp H
    obtain ⟨t270, A50, H⟩ := H
    try dsimp only at H
    have A5 := Aside0.mk A50
    clear A50
    by_cases c6 : t270 > 0
    ·
     rw [if_pos c6] at H
     have c6b0 := decide_eq_true c6
     clear c6
     replace H := Option.bind_eq_some_iff.mp H
     obtain ⟨t271, A70, H⟩ := H
     try dsimp only at H
     have A7 := Aside0.mk A70
     clear A70
     have H' := Aside0.mk H
     clear H
     go_wp2_with (first | (go_at_call 21; (with_reducible refine (monikerref18_Step.calls k1 a0 a1 a2 x7_1 t270 _ A5.out).mono ?_); rintro e w8 ⟨rfl, hb⟩; replace HB := xst hb; (try clear hb)) | ((with_reducible refine gate_callee (f := 21) rfl ?_); refine xgl 25 Tryd.func21 #[.int .i64 a0, .bool a1, .string a2, .int .i64 x7_1] ?_; (with_reducible refine (monikerref18_Step.calls k1 a0 a1 a2 x7_1 t271 _ A7.out).mono ?_); rintro e w9 ⟨rfl, hb⟩; refine ⟨_, rfl, ?_⟩; replace HB := xst hb; (try clear hb)))
     go_roundg k1
     case measure => have := HK1.out; omega
     case rel => exact ⟨(wrap64 (x7_1 + t271)), xrr, H', ⟨by have := HK1.out; omega⟩, ⟨xbl⟩⟩
    ·
     rw [if_neg c6] at H
     have c6b0 := decide_eq_false c6
     clear c6
     obtain rfl := Option.some.inj H
     go_wp2_with (first | (go_at_call 21; (with_reducible refine (monikerref18_Step.calls k1 a0 a1 a2 x7_1 t270 _ A5.out).mono ?_); rintro e w10 ⟨rfl, hb⟩; replace HB := xst hb; (try clear hb)))
     go_ret
     exact ⟨xre, xbl⟩
   ·
    rw [if_neg c4] at H
    have c4b0 := decide_eq_false c4
    clear c4
    obtain rfl := Option.some.inj H
    go_wp2
    go_ret
    exact ⟨xre, xbl⟩
def monikerref01_Span.l0 : Nat → ByteArray → Int → Int → Option (Int)
  | 0, _, _, _ => none
  | k + 1, x0, x1, x5 => if x5 < (x0.size : Int) then (if 0 ≤ x5 then ((monikerref01_Class.f k (bt x0 x5)).bind fun t272 => (if (Go.bits .and .i64 t272 x1) = 0 then (some x5) else (monikerref01_Span.l0 k x0 x1 (wrap64 (x5 + 1))))) else (none)) else (some x5)
def monikerref01_Span.f (k : Nat) (a0 : ByteArray) (a1 : Int) : Option (Int) := monikerref01_Span.l0 k a0 a1 0
theorem monikerref01_Span.mono_l : ∀ k, (∀ y0 y1 y2, LeO (monikerref01_Span.l0 k y0 y1 y2) (monikerref01_Span.l0 (k + 1) y0 y1 y2))
  | 0 => fun _ _ _ r h => by simp [monikerref01_Span.l0] at h
  | k + 1 => by
    have ih0 := monikerref01_Span.mono_l k
    have m0 := @monikerref01_Class.mono
    · intro y0 y1 y2
      unfold monikerref01_Span.l0
      exact xmo
theorem monikerref01_Span.mono : ∀ a0 a1 k, LeO (monikerref01_Span.f k a0 a1) (monikerref01_Span.f (k + 1) a0 a1) := by
  intro a0 a1 k
  have ih0 := monikerref01_Span.mono_l k
  have m0 := @monikerref01_Class.mono
  unfold monikerref01_Span.f
  exact xmo
set_option maxHeartbeats 8000000 in
set_option maxRecDepth 100000 in
theorem monikerref01_Span.calls (k : Nat) (a0 : ByteArray) (a1 : Int) (r : Int) (w : World) (h : monikerref01_Span.f k a0 a1 = some r) :
    Calls Tryd.prog 14 #[.string a0, .int .i64 a1] w fun e w' => e = .returned (.int .i64 r) ∧ Drawn0 w w' := by
 have H : (monikerref01_Span.l0 k a0 a1 0) = some r := h
 clear h
 have H' := Aside0.mk H
 clear H
 go_enter Tryd.func14, Tryd.ntmps14
 go_wp2
 go_loopg [5] k (fun kq v5 w' => ∃ (x5_1 : Int), v5 = .int .i64 x5_1 ∧ Aside0 (monikerref01_Span.l0 kq a0 a1 x5_1 = some r) ∧ Aside0 (kq ≤ k) ∧ Drawn0 w w')
 case atStart => exact ⟨(0), xrr, H', ⟨Nat.le_refl _⟩, xdr⟩
 case round =>
  clear H'
  obtain ⟨x5_1, rfl, HA, HK1, ⟨m1, rfl⟩⟩ := hrel
  cases gk with
  | zero => exact absurd HA.out (by simp [monikerref01_Span.l0])
  | succ k1 =>
   have H := HA.out
   clear HA
   simp only [monikerref01_Span.l0] at H
   by_cases c3 : x5_1 < (a0.size : Int)
   ·
    rw [if_pos c3] at H
    have c3b0 := decide_eq_true c3
    clear c3
    by_cases c4 : 0 ≤ x5_1
    ·
     rw [if_pos c4] at H
     have c4b0 := decide_eq_true c4
     clear c4
     replace H := Option.bind_eq_some_iff.mp H
     obtain ⟨t272, A60, H⟩ := H
     try dsimp only at H
     have A6 := Aside0.mk A60
     clear A60
     by_cases c7 : (Go.bits .and .i64 t272 a1) = 0
     ·
      rw [if_pos c7] at H
      have c7b0 : ((Go.bits .and .i64 t272 a1) == 0) = true := beq_iff_eq.mpr c7
      have c7b1 : ((Go.bits .and .i64 t272 a1) != 0) = false := bne_eq_false_iff_eq.mpr c7
      clear c7
      obtain rfl := Option.some.inj H
      have p5 : 0 ≤ (x5_1 : Int) := xod
      have q5 : x5_1 < (a0.size : Int) := xod
      have hx5 := bt_at a0 x5_1
      replace p5 := eq_true p5
      replace q5 := eq_true q5
      try (have q5x := q5; simp only [ByteArray.size_extract, Nat.min_self] at q5x)
      go_wp2_with (first | (go_at_call 22; (with_reducible refine (monikerref01_Class.calls k1 (bt a0 x5_1) t272 _ A6.out).mono ?_); rintro e w' ⟨rfl, ⟨nd, rfl⟩⟩))
      go_ret
      exact ⟨xrr, xdr⟩
     ·
      rw [if_neg c7] at H
      have c7b0 : ((Go.bits .and .i64 t272 a1) == 0) = false := beq_eq_false_iff_ne.mpr c7
      have c7b1 : ((Go.bits .and .i64 t272 a1) != 0) = true := bne_iff_ne.mpr c7
      have H' := Aside0.mk H
      clear H
      have p5 : 0 ≤ (x5_1 : Int) := xod
      have q5 : x5_1 < (a0.size : Int) := xod
      have hx5 := bt_at a0 x5_1
      replace p5 := eq_true p5
      replace q5 := eq_true q5
      try (have q5x := q5; simp only [ByteArray.size_extract, Nat.min_self] at q5x)
      go_wp2_with (first | (go_at_call 22; (with_reducible refine (monikerref01_Class.calls k1 (bt a0 x5_1) t272 _ A6.out).mono ?_); rintro e w' ⟨rfl, ⟨nd, rfl⟩⟩))
      go_roundg k1
      case measure => have := HK1.out; omega
      case rel => exact ⟨(wrap64 (x5_1 + 1)), xrr, H', ⟨by have := HK1.out; omega⟩, xdr⟩
    ·
     rw [if_neg c4] at H
     exact absurd H (by simp)
   ·
    rw [if_neg c3] at H
    have c3b0 := decide_eq_false c3
    clear c3
    obtain rfl := Option.some.inj H
    go_wp2
    go_ret
    exact ⟨xrr, xdr⟩
end Go.Proofs.YtdmigmccfdhdiaaDoor.X
