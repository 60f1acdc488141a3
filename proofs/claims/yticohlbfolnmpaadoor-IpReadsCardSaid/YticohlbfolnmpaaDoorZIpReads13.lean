/- Texts that the law's proof needs, joined by a program of this session. -/
import Derived.Test.YticohlbfolnmpaaDoorZIpReads1
import Derived.Test.YticohlbfolnmpaaDoorZIpReads3
import Derived.Test.YticohlbfolnmpaaDoorZIpReads4
import Derived.Test.YticohlbfolnmpaaDoorZIpReads5
import Derived.Test.YticohlbfolnmpaaDoorZIpReads7
import Derived.Test.YticohlbfolnmpaaDoorZIpReads8
import Derived.Test.YticohlbfolnmpaaDoorZIpReads9
import Derived.Test.YticohlbfolnmpaaDoorZIpReads10
import Derived.Test.YticohlbfolnmpaaDoorZIpReads11
import Derived.Test.YticohlbfolnmpaaDoorZIpReads12
import Derived.Laws.BitsLemmas
namespace Go.Proofs.YticohlbfolnmpaaDoor.X
open Go.RowKit Go.Proofs.YticohlbfolnmpaaDoorW.PrintWords Go.Proofs.YticohlbfolnmpaaDoorW.PrintLast Go.Proofs.YticohlbfolnmpaaDoorW.PrintMore
attribute [local go_sem] max2_int min2_int max_two min_two max_three min_three max_four min_four
set_option linter.unusedVariables false
set_option linter.unusedSimpArgs false
def monikerref02_Decode.l0 : Nat → ByteArray → Int → Int → Option (Int × Int × Bool)
  | 0, _, _, _ => none
  | k + 1, x0, x3, x4 => if x4 < 9 then ((monikerref02_row.f x4).bind fun bt321 => ((monikerref02_fits.f k x0 bt321.1 bt321.2.1 bt321.2.2.1 bt321.2.2.2.1 bt321.2.2.2.2).bind fun t327 => (if t327 = bt321.2.2.2.2 then (if 0 ≤ t327 then (if t327 ≤ (x0.size : Int) then ((monikerref02_value.f k (x0.extract 0 (t327 : Int).toNat)).bind fun t328 => (some (t328, t327, true))) else (none)) else (none)) else (monikerref02_Decode.l0 k x0 (mx x3 t327) (wrap64 (x4 + 1)))))) else (some (0, x3, false))
def monikerref02_Decode.f (k : Nat) (a0 : ByteArray) : Option (Int × Int × Bool) := if a0.toList = ([] : List UInt8) then (some (0, 0, false)) else (monikerref02_Decode.l0 k a0 1 0)
theorem monikerref02_Decode.mono_l : ∀ k, (∀ y0 y1 y2, LeO (monikerref02_Decode.l0 k y0 y1 y2) (monikerref02_Decode.l0 (k + 1) y0 y1 y2))
  | 0 => fun _ _ _ r h => by simp [monikerref02_Decode.l0] at h
  | k + 1 => by
    have ih0 := monikerref02_Decode.mono_l k
    have m0 := @monikerref02_fits.mono; have m1 := @monikerref02_value.mono
    · intro y0 y1 y2
      unfold monikerref02_Decode.l0
      exact xmo
theorem monikerref02_Decode.mono : ∀ a0 k, LeO (monikerref02_Decode.f k a0) (monikerref02_Decode.f (k + 1) a0) := by
  intro a0 k
  have ih0 := monikerref02_Decode.mono_l k
  have m0 := @monikerref02_fits.mono; have m1 := @monikerref02_value.mono
  unfold monikerref02_Decode.f
  exact xmo
set_option maxHeartbeats 8000000 in
set_option maxRecDepth 100000 in
theorem monikerref02_Decode.calls (k : Nat) (a0 : ByteArray) (r1 : Int) (r2 : Int) (r3 : Bool) (w : World) (h : monikerref02_Decode.f k a0 = some (r1, r2, r3)) :
    Calls Tryd.prog 64 #[.string a0] w fun e w' => e = .returned (.agg #[.int .i64 r1, .int .i64 r2, .bool r3]) ∧ Below w.heap.size w w' := by
 have hu99 := Tryd.underlying99
 have hu112 := Tryd.underlying112
 have HB := Aside0.mk (Below.refl w.heap.size w)
 have H : (if a0.toList = ([] : List UInt8) then (some (0, 0, false)) else (monikerref02_Decode.l0 k a0 1 0)) = some (r1, r2, r3) := h
 clear h
 by_cases c2 : a0.toList = ([] : List UInt8)
 ·
  rw [if_pos c2] at H
  have c2b0 : (a0.toList == ([] : List UInt8)) = true := beq_iff_eq.mpr c2
  have c2b1 : (a0.toList != ([] : List UInt8)) = false := bne_eq_false_iff_eq.mpr c2
  clear c2
  simp only [Option.some.injEq, Prod.mk.injEq] at H
  obtain ⟨rfl, rfl, rfl⟩ := H
  go_enter Tryd.func64, Tryd.ntmps64
  go_wp2_with (first | ((with_reducible refine gate_dst (N := 2) rfl ?_); refine xev 2 #[.int .i64 0, .int .i64 0, .bool false] 99 ?_; intro gb320 hg w3 hbox hb; have BK320 := Aside0.mk (hbox); have GW320 := xsz hg; have GE320 := GW320; replace HB := xst hb; clear hb hbox hg; obtain ⟨hcz4_0, hcz4_1, hcz4_2⟩ := xc3 BK320; have hfz4_0 := xf BK320 0; have hfz4_1 := xf BK320 1; have hfz4_2 := xf BK320 2))
  refine bodyPost_ret (results_cell_row rfl _ _ gb320 99 #[.int .i64 0, .int .i64 0, .bool false] (0, 0) _ rfl xbk Tryd.underlying99 rfl (by kernel_rfl)) rfl ?_
  exact ⟨xre, xbl⟩
 ·
  rw [if_neg c2] at H
  have c2b0 : (a0.toList == ([] : List UInt8)) = false := beq_eq_false_iff_ne.mpr c2
  have c2b1 : (a0.toList != ([] : List UInt8)) = true := bne_iff_ne.mpr c2
  have H' := Aside0.mk H
  clear H
  go_enter Tryd.func64, Tryd.ntmps64
  go_wp2_with (first | ((with_reducible refine gate_dst (N := 2) rfl ?_); refine xev 2 #[.int .i64 0, .int .i64 0, .bool false] 99 ?_; intro gb320 hg w5 hbox hb; have BK320 := Aside0.mk (hbox); have GW320 := xsz hg; have GE320 := GW320; replace HB := xst hb; clear hb hbox hg))
  go_loopg [3, 4] k (fun kq v3 v4 w' => ∃ (x3_1 : Int) (x4_1 : Int) (x321000_1 : Int) (x321001_1 : Int) (x321002_1 : Bool), v3 = .int .i64 x3_1 ∧ v4 = .int .i64 x4_1 ∧ Aside0 (monikerref02_Decode.l0 kq a0 x3_1 x4_1 = some (r1, r2, r3)) ∧ Aside0 (kq ≤ k) ∧ Aside0 (w'.heap[gb320]? = some (.cells #[.int .i64 x321000_1, .int .i64 x321001_1, .bool x321002_1] 99 (0, 0))) ∧ Aside0 (Below w.heap.size w w'))
  case atStart => exact ⟨(1), (0), (0), (0), (false), xrr, xrr, H', ⟨Nat.le_refl _⟩, ⟨xbk⟩, ⟨xbl⟩⟩
  case round =>
   clear H'
   clear c2b0 c2b1
   obtain ⟨x3_1, x4_1, x321000_1, x321001_1, x321002_1, rfl, rfl, HA, HK1, BK320, HB⟩ := hrel
   cases gk with
   | zero => exact absurd HA.out (by simp [monikerref02_Decode.l0])
   | succ k1 =>
    have H := HA.out
    clear HA
    simp only [monikerref02_Decode.l0] at H
    by_cases c6 : x4_1 < 9
    ·
     rw [if_pos c6] at H
     have c6b0 := decide_eq_true c6
     clear c6
     replace H := Option.bind_eq_some_iff.mp H
     obtain ⟨⟨t321, t322, t323, t324, t325⟩, A70, H⟩ := H
     try dsimp only at H
     have A7 := Aside0.mk A70
     clear A70
     replace H := Option.bind_eq_some_iff.mp H
     obtain ⟨t327, A80, H⟩ := H
     try dsimp only at H
     have A8 := Aside0.mk A80
     clear A80
     by_cases c9 : t327 = t325
     ·
      rw [if_pos c9] at H
      have c9b0 : (t327 == t325) = true := beq_iff_eq.mpr c9
      have c9b1 : (t327 != t325) = false := bne_eq_false_iff_eq.mpr c9
      clear c9
      by_cases c10 : 0 ≤ t327
      ·
       rw [if_pos c10] at H
       have c10b0 := eq_true c10
       have c10b1 := decide_eq_true c10
       clear c10
       by_cases c11 : t327 ≤ (a0.size : Int)
       ·
        rw [if_pos c11] at H
        have c11b0 := eq_true c11
        have c11b1 := decide_eq_true c11
        clear c11
        obtain ⟨ji12, hji12⟩ : ∃ j_ : ByteArray, (a0.extract 0 (t327 : Int).toNat) = j_ := ⟨_, rfl⟩
        try (have hji12x := hji12; simp only [Int.toNat_natCast, Int.toNat_ofNat] at hji12x)
        first | rw [hji12] at H | simp only [hji12] at H | skip
        (try rw [hji12] at A7)
        (try rw [hji12] at A8)
        replace H := Option.bind_eq_some_iff.mp H
        obtain ⟨t328, A130, H⟩ := H
        try dsimp only at H
        have A13 := Aside0.mk A130
        clear A130
        simp only [Option.some.injEq, Prod.mk.injEq] at H
        obtain ⟨rfl, rfl, rfl⟩ := H
        go_wp2_with (first | ((with_reducible refine gate_callee (f := 82) rfl ?_); refine xgl 15 Tryd.func82 #[.int .i64 x4_1] ?_; (with_reducible refine (monikerref02_row.calls x4_1 t321 t322 t323 t324 t325 _ A7.out).mono ?_); rintro e w14 ⟨rfl, hb⟩; refine ⟨_, rfl, ?_⟩; replace BK320 := xbb (g := gb320) (o := .cells #[.int .i64 x321000_1, .int .i64 x321001_1, .bool x321002_1] 99 (0, 0)) hb; replace HB := xst hb; (try clear hb)) | ((with_reducible refine gate_dst (N := 5) rfl ?_); refine xev 5 #[.int .i64 0, .int .i64 0, .int .i64 0, .int .i64 0, .int .i64 0] 112 ?_; intro gb326 hg w15 hbox hb; have BK326 := Aside0.mk (hbox); have GW326 := xsz hg; have GE326 := GW326; have NB320_326 := xlt (g := gb320) hg; have NB326_320 := xgt (g := gb320) hg; replace BK320 := xbb (g := gb320) (o := .cells #[.int .i64 x321000_1, .int .i64 x321001_1, .bool x321002_1] 99 (0, 0)) hb; replace HB := xst hb; clear hb hbox hg; have hnb16 := NB326_320.out; have hnc16 := NB320_326.out; obtain ⟨hcz17_0, hcz17_1, hcz17_2, hcz17_3, hcz17_4⟩ := xc5 BK326; have hfz17_0 := xf BK326 0; have hfz17_1 := xf BK326 1; have hfz17_2 := xf BK326 2; have hfz17_3 := xf BK326 3; have hfz17_4 := xf BK326 4) | ((with_reducible refine gate_callee (f := 83) rfl ?_); refine xgl 18 Tryd.func83 #[.string a0, .agg #[.int .i64 t321, .int .i64 t322, .int .i64 t323, .int .i64 t324, .int .i64 t325]] ?_; (with_reducible refine (monikerref02_fits.calls k1 a0 t321 t322 t323 t324 t325 t327 _ A8.out).mono ?_); rintro e w18 ⟨rfl, hb⟩; refine ⟨_, rfl, ?_⟩; replace BK320 := xbb (g := gb320) (o := .cells #[.int .i64 x321000_1, .int .i64 x321001_1, .bool x321002_1] 99 (0, 0)) hb; replace BK326 := xbb (g := gb326) (o := .cells #[.int .i64 t321, .int .i64 t322, .int .i64 t323, .int .i64 t324, .int .i64 t325] 112 (0, 0)) hb; replace HB := xst hb; (try clear hb); obtain ⟨hcz19_0, hcz19_1, hcz19_2, hcz19_3, hcz19_4⟩ := xc5 BK326; have hfz19_0 := xf BK326 0; have hfz19_1 := xf BK326 1; have hfz19_2 := xf BK326 2; have hfz19_3 := xf BK326 3; have hfz19_4 := xf BK326 4) | ((with_reducible refine gate_callee (f := 84) rfl ?_); refine goesL_ (some 26) rfl rfl Tryd.func84 (by kernel_rfl) rfl #[.string ji12] rfl (by (try simp only [List.map_toArray, List.map_cons, List.map_nil]); first | done | (simp only [hji12]; rfl) | rfl | (simp only [List.length_drop, List.length_take]; rfl)) ?_; (with_reducible refine (monikerref02_value.calls k1 ji12 t328 _ A13.out).mono ?_); rintro e w' ⟨rfl, ⟨nd, rfl⟩⟩; refine ⟨_, rfl, ?_⟩; (try (rw [drewN_self w18]; generalize hq_ : World.drewN w18 _ = w18; have n0_ : Aside0 (w18.heap[gb320]? = some (.cells #[.int .i64 x321000_1, .int .i64 x321001_1, .bool x321002_1] 99 (0, 0))) := ⟨by rw [← hq_]; exact xbk⟩; have n1_ : Aside0 (w18.heap[gb326]? = some (.cells #[.int .i64 t321, .int .i64 t322, .int .i64 t323, .int .i64 t324, .int .i64 t325] 112 (0, 0))) := ⟨by rw [← hq_]; exact xbk⟩; have n2_ : Aside0 (Below w.heap.size w w18) := ⟨by rw [← hq_]; exact xbl⟩; clear BK320 BK326 HB hq_; have BK320 := n0_; have BK326 := n1_; have HB := n2_; clear n0_ n1_ n2_)); obtain ⟨hcz20_0, hcz20_1, hcz20_2⟩ := xc3 BK320; have hfz20_0 := xf BK320 0; have hfz20_1 := xf BK320 1; have hfz20_2 := xf BK320 2))
        refine bodyPost_ret (results_cell_row rfl _ _ gb320 99 #[.int .i64 t328, .int .i64 t327, .bool true] (0, 0) _ rfl xbk Tryd.underlying99 rfl (by kernel_rfl)) rfl ?_
        exact ⟨by first | rfl | (simp [errW_none, errW_some] <;> first | rfl | (simp only [xp_isEmpty, bne, Bool.not_not]; done)) | (simp only [← hji12]; first | rfl | (simp [errW_none, errW_some] <;> rfl)) | (simp [*, errW_none, errW_some] <;> rfl), xbl⟩
       ·
        rw [if_neg c11] at H
        exact absurd H (by simp)
      ·
       rw [if_neg c10] at H
       exact absurd H (by simp)
     ·
      rw [if_neg c9] at H
      have c9b0 : (t327 == t325) = false := beq_eq_false_iff_ne.mpr c9
      have c9b1 : (t327 != t325) = true := bne_iff_ne.mpr c9
      obtain ⟨ji21, hji21⟩ : ∃ j_ : Int, (mx x3_1 t327) = j_ := ⟨_, rfl⟩
      first | rw [hji21] at H | simp only [hji21] at H | skip
      (try rw [hji21] at A7)
      (try rw [hji21] at A8)
      have hji21_ : (if x3_1 < t327 then t327 else x3_1) = ji21 := hji21
      have H' := Aside0.mk H
      clear H
      go_wp2_with (first | ((with_reducible refine gate_callee (f := 82) rfl ?_); refine xgl 15 Tryd.func82 #[.int .i64 x4_1] ?_; (with_reducible refine (monikerref02_row.calls x4_1 t321 t322 t323 t324 t325 _ A7.out).mono ?_); rintro e w22 ⟨rfl, hb⟩; refine ⟨_, rfl, ?_⟩; replace BK320 := xbb (g := gb320) (o := .cells #[.int .i64 x321000_1, .int .i64 x321001_1, .bool x321002_1] 99 (0, 0)) hb; replace HB := xst hb; (try clear hb)) | ((with_reducible refine gate_dst (N := 5) rfl ?_); refine xev 5 #[.int .i64 0, .int .i64 0, .int .i64 0, .int .i64 0, .int .i64 0] 112 ?_; intro gb326 hg w23 hbox hb; have BK326 := Aside0.mk (hbox); have GW326 := xsz hg; have GE326 := GW326; have NB320_326 := xlt (g := gb320) hg; have NB326_320 := xgt (g := gb320) hg; replace BK320 := xbb (g := gb320) (o := .cells #[.int .i64 x321000_1, .int .i64 x321001_1, .bool x321002_1] 99 (0, 0)) hb; replace HB := xst hb; clear hb hbox hg; have hnb24 := NB326_320.out; have hnc24 := NB320_326.out; obtain ⟨hcz25_0, hcz25_1, hcz25_2, hcz25_3, hcz25_4⟩ := xc5 BK326; have hfz25_0 := xf BK326 0; have hfz25_1 := xf BK326 1; have hfz25_2 := xf BK326 2; have hfz25_3 := xf BK326 3; have hfz25_4 := xf BK326 4) | ((with_reducible refine gate_callee (f := 83) rfl ?_); refine xgl 18 Tryd.func83 #[.string a0, .agg #[.int .i64 t321, .int .i64 t322, .int .i64 t323, .int .i64 t324, .int .i64 t325]] ?_; (with_reducible refine (monikerref02_fits.calls k1 a0 t321 t322 t323 t324 t325 t327 _ A8.out).mono ?_); rintro e w26 ⟨rfl, hb⟩; refine ⟨_, rfl, ?_⟩; replace BK320 := xbb (g := gb320) (o := .cells #[.int .i64 x321000_1, .int .i64 x321001_1, .bool x321002_1] 99 (0, 0)) hb; replace BK326 := xbb (g := gb326) (o := .cells #[.int .i64 t321, .int .i64 t322, .int .i64 t323, .int .i64 t324, .int .i64 t325] 112 (0, 0)) hb; replace HB := xst hb; (try clear hb); obtain ⟨hcz27_0, hcz27_1, hcz27_2, hcz27_3, hcz27_4⟩ := xc5 BK326; have hfz27_0 := xf BK326 0; have hfz27_1 := xf BK326 1; have hfz27_2 := xf BK326 2; have hfz27_3 := xf BK326 3; have hfz27_4 := xf BK326 4))
      first | go_roundg k1 | (simp only [← hji21]; go_roundg k1)
      case measure => have := HK1.out; omega
      case rel => exact ⟨(ji21), (wrap64 (x4_1 + 1)), (x321000_1), (x321001_1), (x321002_1), (by first | rfl | (simp; done) | (simp only [← hji21] <;> (first | rfl | simp)) | (simp [*]; done) | (simp [wrap64]; done)), xrr, H', ⟨by have := HK1.out; omega⟩, ⟨xbk⟩, ⟨xbl⟩⟩
    ·
     rw [if_neg c6] at H
     have c6b0 := decide_eq_false c6
     clear c6
     simp only [Option.some.injEq, Prod.mk.injEq] at H
     obtain ⟨rfl, rfl, rfl⟩ := H
     obtain ⟨hcz28_0, hcz28_1, hcz28_2⟩ := xc3 BK320
     have hfz28_0 := xf BK320 0
     have hfz28_1 := xf BK320 1
     have hfz28_2 := xf BK320 2
     go_wp2
     refine bodyPost_ret (results_cell_row rfl _ _ gb320 99 #[.int .i64 0, .int .i64 x3_1, .bool false] (0, 0) _ rfl xbk Tryd.underlying99 rfl (by kernel_rfl)) rfl ?_
     exact ⟨xre, xbl⟩
def monikerref18_Plain.j0 : Nat → Int → Int → Bool → ByteArray → ByteArray → ByteArray → ByteArray → ByteArray → ByteArray → ByteArray → ByteArray → Option (Bool)
  | 0, _, _, _, _, _, _, _, _, _, _, _ => none
  | k + 1, x0, x1, x12, x330000, x330001, x330002, x330003, x330004, x330005, x330006, x330007 => if x12 = true then (some false) else ((monikerref01_Class.f k x1).bind fun t330 => (if (Go.bits .and .i64 t330 15) = 0 then (if 0 ≤ x0 then (if x0 = 0 then ((monikerref01_In.f k x1 x330000).bind fun t331 => (some t331)) else (if x0 = 1 then ((monikerref01_In.f k x1 x330001).bind fun t332 => (some t332)) else (if x0 = 2 then ((monikerref01_In.f k x1 x330002).bind fun t333 => (some t333)) else (if x0 = 3 then ((monikerref01_In.f k x1 x330003).bind fun t334 => (some t334)) else (if x0 = 4 then ((monikerref01_In.f k x1 x330004).bind fun t335 => (some t335)) else (if x0 = 5 then ((monikerref01_In.f k x1 x330005).bind fun t336 => (some t336)) else (if x0 = 6 then ((monikerref01_In.f k x1 x330006).bind fun t337 => (some t337)) else (if x0 = 7 then ((monikerref01_In.f k x1 x330007).bind fun t338 => (some t338)) else (none))))))))) else (none)) else (some true)))
def monikerref18_Plain.f (k : Nat) (a0 : Int) (a1 : Int) : Option (Bool) := if a0 < 1 then (monikerref18_Plain.j0 k a0 a1 true (⟨#[]⟩ : ByteArray) (⟨#[58]⟩ : ByteArray) (⟨#[]⟩ : ByteArray) (⟨#[58, 64]⟩ : ByteArray) (⟨#[64]⟩ : ByteArray) (⟨#[58, 64, 47]⟩ : ByteArray) (⟨#[58, 64, 47, 63]⟩ : ByteArray) (⟨#[58, 64, 47, 63]⟩ : ByteArray)) else (monikerref18_Plain.j0 k a0 a1 (decide (a0 > 7)) (⟨#[]⟩ : ByteArray) (⟨#[58]⟩ : ByteArray) (⟨#[]⟩ : ByteArray) (⟨#[58, 64]⟩ : ByteArray) (⟨#[64]⟩ : ByteArray) (⟨#[58, 64, 47]⟩ : ByteArray) (⟨#[58, 64, 47, 63]⟩ : ByteArray) (⟨#[58, 64, 47, 63]⟩ : ByteArray))
theorem monikerref18_Plain.mono_l : ∀ k, (∀ y0 y1 y2 y3 y4 y5 y6 y7 y8 y9 y10, LeO (monikerref18_Plain.j0 k y0 y1 y2 y3 y4 y5 y6 y7 y8 y9 y10) (monikerref18_Plain.j0 (k + 1) y0 y1 y2 y3 y4 y5 y6 y7 y8 y9 y10))
  | 0 => fun _ _ _ _ _ _ _ _ _ _ _ r h => by simp [monikerref18_Plain.j0] at h
  | k + 1 => by
    have ih0 := monikerref18_Plain.mono_l k
    have m0 := @monikerref01_Class.mono; have m1 := @monikerref01_In.mono
    · intro y0 y1 y2 y3 y4 y5 y6 y7 y8 y9 y10
      unfold monikerref18_Plain.j0
      exact xmo
theorem monikerref18_Plain.mono : ∀ a0 a1 k, LeO (monikerref18_Plain.f k a0 a1) (monikerref18_Plain.f (k + 1) a0 a1) := by
  intro a0 a1 k
  have ih0 := monikerref18_Plain.mono_l k
  have m0 := @monikerref01_Class.mono; have m1 := @monikerref01_In.mono
  unfold monikerref18_Plain.f
  exact xmo
set_option maxHeartbeats 8000000 in
set_option maxRecDepth 100000 in
theorem monikerref18_Plain.calls (k : Nat) (a0 : Int) (a1 : Int) (r : Bool) (w : World) (h : monikerref18_Plain.f k a0 a1 = some r) :
    Calls Tryd.prog 85 #[.int .i64 a0, .int .u8 a1] w fun e w' => e = .returned (.bool r) ∧ Below w.heap.size w w' := by
 have hu130 := Tryd.underlying130
 have HB := Aside0.mk (Below.refl w.heap.size w)
 have H : (if a0 < 1 then (monikerref18_Plain.j0 k a0 a1 true (⟨#[]⟩ : ByteArray) (⟨#[58]⟩ : ByteArray) (⟨#[]⟩ : ByteArray) (⟨#[58, 64]⟩ : ByteArray) (⟨#[64]⟩ : ByteArray) (⟨#[58, 64, 47]⟩ : ByteArray) (⟨#[58, 64, 47, 63]⟩ : ByteArray) (⟨#[58, 64, 47, 63]⟩ : ByteArray)) else (monikerref18_Plain.j0 k a0 a1 (decide (a0 > 7)) (⟨#[]⟩ : ByteArray) (⟨#[58]⟩ : ByteArray) (⟨#[]⟩ : ByteArray) (⟨#[58, 64]⟩ : ByteArray) (⟨#[64]⟩ : ByteArray) (⟨#[58, 64, 47]⟩ : ByteArray) (⟨#[58, 64, 47, 63]⟩ : ByteArray) (⟨#[58, 64, 47, 63]⟩ : ByteArray))) = some r := h
 clear h
 have HC3 := Aside0.mk H
 clear H
 go_enter Tryd.func85, Tryd.ntmps85
 go_upto_region 2 with (first | ((with_reducible refine gate_dst (N := 5) rfl ?_); refine xev 5 #[.string (⟨#[]⟩ : ByteArray), .string (⟨#[]⟩ : ByteArray), .string (⟨#[]⟩ : ByteArray), .string (⟨#[]⟩ : ByteArray), .string (⟨#[]⟩ : ByteArray), .string (⟨#[]⟩ : ByteArray), .string (⟨#[]⟩ : ByteArray), .string (⟨#[]⟩ : ByteArray)] 130 ?_; intro gb329 hg w4 hbox hb; have BK329 := Aside0.mk (hbox); have GW329 := xsz hg; have GE329 := GW329; replace HB := xst hb; clear hb hbox hg; obtain ⟨hcz5_0, hcz5_1, hcz5_2, hcz5_3, hcz5_4, hcz5_5, hcz5_6, hcz5_7⟩ := xc8 BK329; have hfz5_0 := xf BK329 0; have hfz5_1 := xf BK329 1; have hfz5_2 := xf BK329 2; have hfz5_3 := xf BK329 3; have hfz5_4 := xf BK329 4; have hfz5_5 := xf BK329 5; have hfz5_6 := xf BK329 6; have hfz5_7 := xf BK329 7))
 (try simp only [Act.put, List.setIfInBounds_toArray, List.set_cons_zero, List.set_cons_succ])
 go_cut [12] (fun v12 wc => ∃ (kq : Nat) (x12_2 : Bool), v12 = .bool x12_2 ∧ Aside0 (monikerref18_Plain.j0 kq a0 a1 x12_2 (⟨#[]⟩ : ByteArray) (⟨#[58]⟩ : ByteArray) (⟨#[]⟩ : ByteArray) (⟨#[58, 64]⟩ : ByteArray) (⟨#[64]⟩ : ByteArray) (⟨#[58, 64, 47]⟩ : ByteArray) (⟨#[58, 64, 47, 63]⟩ : ByteArray) (⟨#[58, 64, 47, 63]⟩ : ByteArray) = some r) ∧ Aside0 (kq ≤ k) ∧ Aside0 (wc.heap[gb329]? = some (.cells #[.string (⟨#[]⟩ : ByteArray), .string (⟨#[58]⟩ : ByteArray), .string (⟨#[]⟩ : ByteArray), .string (⟨#[58, 64]⟩ : ByteArray), .string (⟨#[64]⟩ : ByteArray), .string (⟨#[58, 64, 47]⟩ : ByteArray), .string (⟨#[58, 64, 47, 63]⟩ : ByteArray), .string (⟨#[58, 64, 47, 63]⟩ : ByteArray)] 130 (0, 0))) ∧ Aside0 (Below w.heap.size w wc))
 case first =>
  have H := HC3.out
  clear HC3
  by_cases c6 : a0 < 1
  ·
   rw [if_pos c6] at H
   have c6b0 := decide_eq_true c6
   clear c6
   (first | rw [c6b0] | (simp only [i64_w, i32_w]; rw [c6b0]) | skip)
   have H' := Aside0.mk H
   clear H
   go_wp2
   go_meet
   case rel => exact ⟨_, (true), xrr, H', ⟨xom⟩, ⟨by (with_reducible repeat (first | refine blk_drewN ?_ _ | refine blk_drew ?_ | refine blk_alloc ?_ _)); refine blk_put (cs := #[.string (⟨#[]⟩ : ByteArray), .string (⟨#[58]⟩ : ByteArray), .string (⟨#[]⟩ : ByteArray), .string (⟨#[58, 64]⟩ : ByteArray), .string (⟨#[64]⟩ : ByteArray), .string (⟨#[58, 64, 47]⟩ : ByteArray), .string (⟨#[58, 64, 47, 63]⟩ : ByteArray), .string (⟨#[]⟩ : ByteArray)]) ?_ 7 _ rfl; (with_reducible repeat (first | refine blk_drewN ?_ _ | refine blk_drew ?_ | refine blk_alloc ?_ _)); refine blk_put (cs := #[.string (⟨#[]⟩ : ByteArray), .string (⟨#[58]⟩ : ByteArray), .string (⟨#[]⟩ : ByteArray), .string (⟨#[58, 64]⟩ : ByteArray), .string (⟨#[64]⟩ : ByteArray), .string (⟨#[58, 64, 47]⟩ : ByteArray), .string (⟨#[]⟩ : ByteArray), .string (⟨#[]⟩ : ByteArray)]) ?_ 6 _ rfl; (with_reducible repeat (first | refine blk_drewN ?_ _ | refine blk_drew ?_ | refine blk_alloc ?_ _)); refine blk_put (cs := #[.string (⟨#[]⟩ : ByteArray), .string (⟨#[58]⟩ : ByteArray), .string (⟨#[]⟩ : ByteArray), .string (⟨#[58, 64]⟩ : ByteArray), .string (⟨#[64]⟩ : ByteArray), .string (⟨#[]⟩ : ByteArray), .string (⟨#[]⟩ : ByteArray), .string (⟨#[]⟩ : ByteArray)]) ?_ 5 _ rfl; (with_reducible repeat (first | refine blk_drewN ?_ _ | refine blk_drew ?_ | refine blk_alloc ?_ _)); refine blk_put (cs := #[.string (⟨#[]⟩ : ByteArray), .string (⟨#[58]⟩ : ByteArray), .string (⟨#[]⟩ : ByteArray), .string (⟨#[58, 64]⟩ : ByteArray), .string (⟨#[]⟩ : ByteArray), .string (⟨#[]⟩ : ByteArray), .string (⟨#[]⟩ : ByteArray), .string (⟨#[]⟩ : ByteArray)]) ?_ 4 _ rfl; (with_reducible repeat (first | refine blk_drewN ?_ _ | refine blk_drew ?_ | refine blk_alloc ?_ _)); refine blk_put (cs := #[.string (⟨#[]⟩ : ByteArray), .string (⟨#[58]⟩ : ByteArray), .string (⟨#[]⟩ : ByteArray), .string (⟨#[]⟩ : ByteArray), .string (⟨#[]⟩ : ByteArray), .string (⟨#[]⟩ : ByteArray), .string (⟨#[]⟩ : ByteArray), .string (⟨#[]⟩ : ByteArray)]) ?_ 3 _ rfl; (with_reducible repeat (first | refine blk_drewN ?_ _ | refine blk_drew ?_ | refine blk_alloc ?_ _)); refine blk_put (cs := #[.string (⟨#[]⟩ : ByteArray), .string (⟨#[58]⟩ : ByteArray), .string (⟨#[]⟩ : ByteArray), .string (⟨#[]⟩ : ByteArray), .string (⟨#[]⟩ : ByteArray), .string (⟨#[]⟩ : ByteArray), .string (⟨#[]⟩ : ByteArray), .string (⟨#[]⟩ : ByteArray)]) ?_ 2 _ rfl; (with_reducible repeat (first | refine blk_drewN ?_ _ | refine blk_drew ?_ | refine blk_alloc ?_ _)); refine blk_put (cs := #[.string (⟨#[]⟩ : ByteArray), .string (⟨#[]⟩ : ByteArray), .string (⟨#[]⟩ : ByteArray), .string (⟨#[]⟩ : ByteArray), .string (⟨#[]⟩ : ByteArray), .string (⟨#[]⟩ : ByteArray), .string (⟨#[]⟩ : ByteArray), .string (⟨#[]⟩ : ByteArray)]) ?_ 1 _ rfl; (with_reducible repeat (first | refine blk_drewN ?_ _ | refine blk_drew ?_ | refine blk_alloc ?_ _)); refine blk_put (cs := #[.string (⟨#[]⟩ : ByteArray), .string (⟨#[]⟩ : ByteArray), .string (⟨#[]⟩ : ByteArray), .string (⟨#[]⟩ : ByteArray), .string (⟨#[]⟩ : ByteArray), .string (⟨#[]⟩ : ByteArray), .string (⟨#[]⟩ : ByteArray), .string (⟨#[]⟩ : ByteArray)]) ?_ 0 _ rfl; (with_reducible repeat (first | refine blk_drewN ?_ _ | refine blk_drew ?_ | refine blk_alloc ?_ _)); exact BK329.out⟩, ⟨xbl⟩⟩
  ·
   rw [if_neg c6] at H
   have c6b0 := decide_eq_false c6
   clear c6
   (first | rw [c6b0] | (simp only [i64_w, i32_w]; rw [c6b0]) | skip)
   have H' := Aside0.mk H
   clear H
   go_wp2
   go_meet
   case rel => exact ⟨_, (decide (a0 > 7)), xrr, H', ⟨xom⟩, ⟨by (with_reducible repeat (first | refine blk_drewN ?_ _ | refine blk_drew ?_ | refine blk_alloc ?_ _)); refine blk_put (cs := #[.string (⟨#[]⟩ : ByteArray), .string (⟨#[58]⟩ : ByteArray), .string (⟨#[]⟩ : ByteArray), .string (⟨#[58, 64]⟩ : ByteArray), .string (⟨#[64]⟩ : ByteArray), .string (⟨#[58, 64, 47]⟩ : ByteArray), .string (⟨#[58, 64, 47, 63]⟩ : ByteArray), .string (⟨#[]⟩ : ByteArray)]) ?_ 7 _ rfl; (with_reducible repeat (first | refine blk_drewN ?_ _ | refine blk_drew ?_ | refine blk_alloc ?_ _)); refine blk_put (cs := #[.string (⟨#[]⟩ : ByteArray), .string (⟨#[58]⟩ : ByteArray), .string (⟨#[]⟩ : ByteArray), .string (⟨#[58, 64]⟩ : ByteArray), .string (⟨#[64]⟩ : ByteArray), .string (⟨#[58, 64, 47]⟩ : ByteArray), .string (⟨#[]⟩ : ByteArray), .string (⟨#[]⟩ : ByteArray)]) ?_ 6 _ rfl; (with_reducible repeat (first | refine blk_drewN ?_ _ | refine blk_drew ?_ | refine blk_alloc ?_ _)); refine blk_put (cs := #[.string (⟨#[]⟩ : ByteArray), .string (⟨#[58]⟩ : ByteArray), .string (⟨#[]⟩ : ByteArray), .string (⟨#[58, 64]⟩ : ByteArray), .string (⟨#[64]⟩ : ByteArray), .string (⟨#[]⟩ : ByteArray), .string (⟨#[]⟩ : ByteArray), .string (⟨#[]⟩ : ByteArray)]) ?_ 5 _ rfl; (with_reducible repeat (first | refine blk_drewN ?_ _ | refine blk_drew ?_ | refine blk_alloc ?_ _)); refine blk_put (cs := #[.string (⟨#[]⟩ : ByteArray), .string (⟨#[58]⟩ : ByteArray), .string (⟨#[]⟩ : ByteArray), .string (⟨#[58, 64]⟩ : ByteArray), .string (⟨#[]⟩ : ByteArray), .string (⟨#[]⟩ : ByteArray), .string (⟨#[]⟩ : ByteArray), .string (⟨#[]⟩ : ByteArray)]) ?_ 4 _ rfl; (with_reducible repeat (first | refine blk_drewN ?_ _ | refine blk_drew ?_ | refine blk_alloc ?_ _)); refine blk_put (cs := #[.string (⟨#[]⟩ : ByteArray), .string (⟨#[58]⟩ : ByteArray), .string (⟨#[]⟩ : ByteArray), .string (⟨#[]⟩ : ByteArray), .string (⟨#[]⟩ : ByteArray), .string (⟨#[]⟩ : ByteArray), .string (⟨#[]⟩ : ByteArray), .string (⟨#[]⟩ : ByteArray)]) ?_ 3 _ rfl; (with_reducible repeat (first | refine blk_drewN ?_ _ | refine blk_drew ?_ | refine blk_alloc ?_ _)); refine blk_put (cs := #[.string (⟨#[]⟩ : ByteArray), .string (⟨#[58]⟩ : ByteArray), .string (⟨#[]⟩ : ByteArray), .string (⟨#[]⟩ : ByteArray), .string (⟨#[]⟩ : ByteArray), .string (⟨#[]⟩ : ByteArray), .string (⟨#[]⟩ : ByteArray), .string (⟨#[]⟩ : ByteArray)]) ?_ 2 _ rfl; (with_reducible repeat (first | refine blk_drewN ?_ _ | refine blk_drew ?_ | refine blk_alloc ?_ _)); refine blk_put (cs := #[.string (⟨#[]⟩ : ByteArray), .string (⟨#[]⟩ : ByteArray), .string (⟨#[]⟩ : ByteArray), .string (⟨#[]⟩ : ByteArray), .string (⟨#[]⟩ : ByteArray), .string (⟨#[]⟩ : ByteArray), .string (⟨#[]⟩ : ByteArray), .string (⟨#[]⟩ : ByteArray)]) ?_ 1 _ rfl; (with_reducible repeat (first | refine blk_drewN ?_ _ | refine blk_drew ?_ | refine blk_alloc ?_ _)); refine blk_put (cs := #[.string (⟨#[]⟩ : ByteArray), .string (⟨#[]⟩ : ByteArray), .string (⟨#[]⟩ : ByteArray), .string (⟨#[]⟩ : ByteArray), .string (⟨#[]⟩ : ByteArray), .string (⟨#[]⟩ : ByteArray), .string (⟨#[]⟩ : ByteArray), .string (⟨#[]⟩ : ByteArray)]) ?_ 0 _ rfl; (with_reducible repeat (first | refine blk_drewN ?_ _ | refine blk_drew ?_ | refine blk_alloc ?_ _)); exact BK329.out⟩, ⟨xbl⟩⟩
 case rest =>
  clear HC3
  obtain ⟨kq, x12_2, rfl, HA, HJ2, BK329, HB⟩ := hcut
  cases kq with
  | zero => exact absurd HA.out (by simp [monikerref18_Plain.j0])
  | succ kj2 =>
   have H := HA.out
   clear HA
   simp only [monikerref18_Plain.j0] at H
   by_cases c7 : x12_2 = true
   ·
    subst c7
    rw [if_pos rfl] at H
    obtain rfl := Option.some.inj H
    go_wp2
    go_ret
    exact ⟨xre, xbl⟩
   ·
    replace c7 := Bool.eq_false_iff.mpr c7
    subst c7
    rw [if_neg (show ¬ (false = true) by decide)] at H
    replace H := Option.bind_eq_some_iff.mp H
    obtain ⟨t330, A80, H⟩ := H
    try dsimp only at H
    have A8 := Aside0.mk A80
    clear A80
    by_cases c9 : (Go.bits .and .i64 t330 15) = 0
    ·
     rw [if_pos c9] at H
     have c9b0 : ((Go.bits .and .i64 t330 15) == 0) = true := beq_iff_eq.mpr c9
     have c9b1 : ((Go.bits .and .i64 t330 15) != 0) = false := bne_eq_false_iff_eq.mpr c9
     clear c9
     by_cases c10 : 0 ≤ a0
     ·
      rw [if_pos c10] at H
      have c10b0 := decide_eq_true c10
      clear c10
      by_cases c11 : a0 = 0
      ·
       subst c11
       rw [if_pos rfl] at H
       replace H := Option.bind_eq_some_iff.mp H
       obtain ⟨t331, A120, H⟩ := H
       try dsimp only at H
       have A12 := Aside0.mk A120
       clear A120
       obtain rfl := Option.some.inj H
       go_wp2_with (first | ((with_reducible refine gate_callee (f := 30) rfl ?_); refine xgl 14 Tryd.func30 #[.int .u8 a1] ?_; (with_reducible refine (monikerref01_Class.calls kj2 a1 t330 _ A8.out).mono ?_); rintro e w' ⟨rfl, ⟨nd, rfl⟩⟩; refine ⟨_, rfl, ?_⟩; obtain ⟨hcz13_0, hcz13_1, hcz13_2, hcz13_3, hcz13_4, hcz13_5, hcz13_6, hcz13_7⟩ := xc8 BK329; have hfz13_0 := xf BK329 0; have hfz13_1 := xf BK329 1; have hfz13_2 := xf BK329 2; have hfz13_3 := xf BK329 3; have hfz13_4 := xf BK329 4; have hfz13_5 := xf BK329 5; have hfz13_6 := xf BK329 6; have hfz13_7 := xf BK329 7) | (go_at_call 26; (with_reducible refine (monikerref01_In.calls kj2 a1 (⟨#[]⟩ : ByteArray) t331 _ A12.out).mono ?_); rintro e w' ⟨rfl, ⟨nd, rfl⟩⟩))
       go_ret
       exact ⟨xre, xbl⟩
      ·
       rw [if_neg c11] at H
       clear c11
       by_cases c14 : a0 = 1
       ·
        subst c14
        rw [if_pos rfl] at H
        replace H := Option.bind_eq_some_iff.mp H
        obtain ⟨t332, A150, H⟩ := H
        try dsimp only at H
        have A15 := Aside0.mk A150
        clear A150
        obtain rfl := Option.some.inj H
        go_wp2_with (first | ((with_reducible refine gate_callee (f := 30) rfl ?_); refine xgl 14 Tryd.func30 #[.int .u8 a1] ?_; (with_reducible refine (monikerref01_Class.calls kj2 a1 t330 _ A8.out).mono ?_); rintro e w' ⟨rfl, ⟨nd, rfl⟩⟩; refine ⟨_, rfl, ?_⟩; obtain ⟨hcz16_0, hcz16_1, hcz16_2, hcz16_3, hcz16_4, hcz16_5, hcz16_6, hcz16_7⟩ := xc8 BK329; have hfz16_0 := xf BK329 0; have hfz16_1 := xf BK329 1; have hfz16_2 := xf BK329 2; have hfz16_3 := xf BK329 3; have hfz16_4 := xf BK329 4; have hfz16_5 := xf BK329 5; have hfz16_6 := xf BK329 6; have hfz16_7 := xf BK329 7) | (go_at_call 26; (with_reducible refine (monikerref01_In.calls kj2 a1 (⟨#[58]⟩ : ByteArray) t332 _ A15.out).mono ?_); rintro e w' ⟨rfl, ⟨nd, rfl⟩⟩))
        go_ret
        exact ⟨xre, xbl⟩
       ·
        rw [if_neg c14] at H
        clear c14
        by_cases c17 : a0 = 2
        ·
         subst c17
         rw [if_pos rfl] at H
         replace H := Option.bind_eq_some_iff.mp H
         obtain ⟨t333, A180, H⟩ := H
         try dsimp only at H
         have A18 := Aside0.mk A180
         clear A180
         obtain rfl := Option.some.inj H
         go_wp2_with (first | ((with_reducible refine gate_callee (f := 30) rfl ?_); refine xgl 14 Tryd.func30 #[.int .u8 a1] ?_; (with_reducible refine (monikerref01_Class.calls kj2 a1 t330 _ A8.out).mono ?_); rintro e w' ⟨rfl, ⟨nd, rfl⟩⟩; refine ⟨_, rfl, ?_⟩; obtain ⟨hcz19_0, hcz19_1, hcz19_2, hcz19_3, hcz19_4, hcz19_5, hcz19_6, hcz19_7⟩ := xc8 BK329; have hfz19_0 := xf BK329 0; have hfz19_1 := xf BK329 1; have hfz19_2 := xf BK329 2; have hfz19_3 := xf BK329 3; have hfz19_4 := xf BK329 4; have hfz19_5 := xf BK329 5; have hfz19_6 := xf BK329 6; have hfz19_7 := xf BK329 7) | (go_at_call 26; (with_reducible refine (monikerref01_In.calls kj2 a1 (⟨#[]⟩ : ByteArray) t333 _ A18.out).mono ?_); rintro e w' ⟨rfl, ⟨nd, rfl⟩⟩))
         go_ret
         exact ⟨xre, xbl⟩
        ·
         rw [if_neg c17] at H
         clear c17
         by_cases c20 : a0 = 3
         ·
          subst c20
          rw [if_pos rfl] at H
          replace H := Option.bind_eq_some_iff.mp H
          obtain ⟨t334, A210, H⟩ := H
          try dsimp only at H
          have A21 := Aside0.mk A210
          clear A210
          obtain rfl := Option.some.inj H
          go_wp2_with (first | ((with_reducible refine gate_callee (f := 30) rfl ?_); refine xgl 14 Tryd.func30 #[.int .u8 a1] ?_; (with_reducible refine (monikerref01_Class.calls kj2 a1 t330 _ A8.out).mono ?_); rintro e w' ⟨rfl, ⟨nd, rfl⟩⟩; refine ⟨_, rfl, ?_⟩; obtain ⟨hcz22_0, hcz22_1, hcz22_2, hcz22_3, hcz22_4, hcz22_5, hcz22_6, hcz22_7⟩ := xc8 BK329; have hfz22_0 := xf BK329 0; have hfz22_1 := xf BK329 1; have hfz22_2 := xf BK329 2; have hfz22_3 := xf BK329 3; have hfz22_4 := xf BK329 4; have hfz22_5 := xf BK329 5; have hfz22_6 := xf BK329 6; have hfz22_7 := xf BK329 7) | (go_at_call 26; (with_reducible refine (monikerref01_In.calls kj2 a1 (⟨#[58, 64]⟩ : ByteArray) t334 _ A21.out).mono ?_); rintro e w' ⟨rfl, ⟨nd, rfl⟩⟩))
          go_ret
          exact ⟨xre, xbl⟩
         ·
          rw [if_neg c20] at H
          clear c20
          by_cases c23 : a0 = 4
          ·
           subst c23
           rw [if_pos rfl] at H
           replace H := Option.bind_eq_some_iff.mp H
           obtain ⟨t335, A240, H⟩ := H
           try dsimp only at H
           have A24 := Aside0.mk A240
           clear A240
           obtain rfl := Option.some.inj H
           go_wp2_with (first | ((with_reducible refine gate_callee (f := 30) rfl ?_); refine xgl 14 Tryd.func30 #[.int .u8 a1] ?_; (with_reducible refine (monikerref01_Class.calls kj2 a1 t330 _ A8.out).mono ?_); rintro e w' ⟨rfl, ⟨nd, rfl⟩⟩; refine ⟨_, rfl, ?_⟩; obtain ⟨hcz25_0, hcz25_1, hcz25_2, hcz25_3, hcz25_4, hcz25_5, hcz25_6, hcz25_7⟩ := xc8 BK329; have hfz25_0 := xf BK329 0; have hfz25_1 := xf BK329 1; have hfz25_2 := xf BK329 2; have hfz25_3 := xf BK329 3; have hfz25_4 := xf BK329 4; have hfz25_5 := xf BK329 5; have hfz25_6 := xf BK329 6; have hfz25_7 := xf BK329 7) | (go_at_call 26; (with_reducible refine (monikerref01_In.calls kj2 a1 (⟨#[64]⟩ : ByteArray) t335 _ A24.out).mono ?_); rintro e w' ⟨rfl, ⟨nd, rfl⟩⟩))
           go_ret
           exact ⟨xre, xbl⟩
          ·
           rw [if_neg c23] at H
           clear c23
           by_cases c26 : a0 = 5
           ·
            subst c26
            rw [if_pos rfl] at H
            replace H := Option.bind_eq_some_iff.mp H
            obtain ⟨t336, A270, H⟩ := H
            try dsimp only at H
            have A27 := Aside0.mk A270
            clear A270
            obtain rfl := Option.some.inj H
            go_wp2_with (first | ((with_reducible refine gate_callee (f := 30) rfl ?_); refine xgl 14 Tryd.func30 #[.int .u8 a1] ?_; (with_reducible refine (monikerref01_Class.calls kj2 a1 t330 _ A8.out).mono ?_); rintro e w' ⟨rfl, ⟨nd, rfl⟩⟩; refine ⟨_, rfl, ?_⟩; obtain ⟨hcz28_0, hcz28_1, hcz28_2, hcz28_3, hcz28_4, hcz28_5, hcz28_6, hcz28_7⟩ := xc8 BK329; have hfz28_0 := xf BK329 0; have hfz28_1 := xf BK329 1; have hfz28_2 := xf BK329 2; have hfz28_3 := xf BK329 3; have hfz28_4 := xf BK329 4; have hfz28_5 := xf BK329 5; have hfz28_6 := xf BK329 6; have hfz28_7 := xf BK329 7) | (go_at_call 26; (with_reducible refine (monikerref01_In.calls kj2 a1 (⟨#[58, 64, 47]⟩ : ByteArray) t336 _ A27.out).mono ?_); rintro e w' ⟨rfl, ⟨nd, rfl⟩⟩))
            go_ret
            exact ⟨xre, xbl⟩
           ·
            rw [if_neg c26] at H
            clear c26
            by_cases c29 : a0 = 6
            ·
             subst c29
             rw [if_pos rfl] at H
             replace H := Option.bind_eq_some_iff.mp H
             obtain ⟨t337, A300, H⟩ := H
             try dsimp only at H
             have A30 := Aside0.mk A300
             clear A300
             obtain rfl := Option.some.inj H
             go_wp2_with (first | ((with_reducible refine gate_callee (f := 30) rfl ?_); refine xgl 14 Tryd.func30 #[.int .u8 a1] ?_; (with_reducible refine (monikerref01_Class.calls kj2 a1 t330 _ A8.out).mono ?_); rintro e w' ⟨rfl, ⟨nd, rfl⟩⟩; refine ⟨_, rfl, ?_⟩; obtain ⟨hcz31_0, hcz31_1, hcz31_2, hcz31_3, hcz31_4, hcz31_5, hcz31_6, hcz31_7⟩ := xc8 BK329; have hfz31_0 := xf BK329 0; have hfz31_1 := xf BK329 1; have hfz31_2 := xf BK329 2; have hfz31_3 := xf BK329 3; have hfz31_4 := xf BK329 4; have hfz31_5 := xf BK329 5; have hfz31_6 := xf BK329 6; have hfz31_7 := xf BK329 7) | (go_at_call 26; (with_reducible refine (monikerref01_In.calls kj2 a1 (⟨#[58, 64, 47, 63]⟩ : ByteArray) t337 _ A30.out).mono ?_); rintro e w' ⟨rfl, ⟨nd, rfl⟩⟩))
             go_ret
             exact ⟨xre, xbl⟩
            ·
             rw [if_neg c29] at H
             clear c29
             by_cases c32 : a0 = 7
             ·
              subst c32
              rw [if_pos rfl] at H
              replace H := Option.bind_eq_some_iff.mp H
              obtain ⟨t338, A330, H⟩ := H
              try dsimp only at H
              have A33 := Aside0.mk A330
              clear A330
              obtain rfl := Option.some.inj H
              go_wp2_with (first | ((with_reducible refine gate_callee (f := 30) rfl ?_); refine xgl 14 Tryd.func30 #[.int .u8 a1] ?_; (with_reducible refine (monikerref01_Class.calls kj2 a1 t330 _ A8.out).mono ?_); rintro e w' ⟨rfl, ⟨nd, rfl⟩⟩; refine ⟨_, rfl, ?_⟩; obtain ⟨hcz34_0, hcz34_1, hcz34_2, hcz34_3, hcz34_4, hcz34_5, hcz34_6, hcz34_7⟩ := xc8 BK329; have hfz34_0 := xf BK329 0; have hfz34_1 := xf BK329 1; have hfz34_2 := xf BK329 2; have hfz34_3 := xf BK329 3; have hfz34_4 := xf BK329 4; have hfz34_5 := xf BK329 5; have hfz34_6 := xf BK329 6; have hfz34_7 := xf BK329 7) | (go_at_call 26; (with_reducible refine (monikerref01_In.calls kj2 a1 (⟨#[58, 64, 47, 63]⟩ : ByteArray) t338 _ A33.out).mono ?_); rintro e w' ⟨rfl, ⟨nd, rfl⟩⟩))
              go_ret
              exact ⟨xre, xbl⟩
             ·
              rw [if_neg c32] at H
              clear c32
              exact absurd H (by simp)
     ·
      rw [if_neg c10] at H
      exact absurd H (by simp)
    ·
     rw [if_neg c9] at H
     have c9b0 : ((Go.bits .and .i64 t330 15) == 0) = false := beq_eq_false_iff_ne.mpr c9
     have c9b1 : ((Go.bits .and .i64 t330 15) != 0) = true := bne_iff_ne.mpr c9
     obtain rfl := Option.some.inj H
     go_wp2_with (first | ((with_reducible refine gate_callee (f := 30) rfl ?_); refine xgl 14 Tryd.func30 #[.int .u8 a1] ?_; (with_reducible refine (monikerref01_Class.calls kj2 a1 t330 _ A8.out).mono ?_); rintro e w' ⟨rfl, ⟨nd, rfl⟩⟩; refine ⟨_, rfl, ?_⟩))
     go_ret
     exact ⟨xre, xbl⟩
mutual
def monikerref18_Common.j0 : Nat → Int → Bool → Option (Bool)
  | 0, _, _ => none
  | k + 1, x0, x25 => if x25 = true then (some true) else (monikerref18_Common.l0 k x0 1)
def monikerref18_Common.l0 : Nat → Int → Int → Option (Bool)
  | 0, _, _ => none
  | k + 1, x0, x3 => if x3 ≤ 13 then (if x0 ≥ (wrap64 (x3 * 65536)) then (if x0 ≤ (wrap64 ((wrap64 (x3 * 65536)) + 65533)) then (some true) else (monikerref18_Common.l0 k x0 (wrap64 (x3 + 1)))) else (monikerref18_Common.l0 k x0 (wrap64 (x3 + 1)))) else (if x0 ≥ 921600 then (some (decide (x0 ≤ 983037))) else (some false))
end
def monikerref18_Common.f (k : Nat) (a0 : Int) : Option (Bool) := if a0 ≥ 160 then (if a0 ≤ 55295 then (monikerref18_Common.j0 k a0 true) else (if a0 ≥ 63744 then (if a0 ≤ 64975 then (monikerref18_Common.j0 k a0 true) else (if a0 ≥ 65008 then (monikerref18_Common.j0 k a0 (decide (a0 ≤ 65519))) else (monikerref18_Common.j0 k a0 false))) else (if a0 ≥ 65008 then (monikerref18_Common.j0 k a0 (decide (a0 ≤ 65519))) else (monikerref18_Common.j0 k a0 false)))) else (if a0 ≥ 63744 then (if a0 ≤ 64975 then (monikerref18_Common.j0 k a0 true) else (if a0 ≥ 65008 then (monikerref18_Common.j0 k a0 (decide (a0 ≤ 65519))) else (monikerref18_Common.j0 k a0 false))) else (if a0 ≥ 65008 then (monikerref18_Common.j0 k a0 (decide (a0 ≤ 65519))) else (monikerref18_Common.j0 k a0 false)))
theorem monikerref18_Common.mono_l : ∀ k, (∀ y0 y1, LeO (monikerref18_Common.j0 k y0 y1) (monikerref18_Common.j0 (k + 1) y0 y1)) ∧ (∀ y0 y1, LeO (monikerref18_Common.l0 k y0 y1) (monikerref18_Common.l0 (k + 1) y0 y1))
  | 0 => ⟨fun _ _ r h => by simp [monikerref18_Common.j0] at h, fun _ _ r h => by simp [monikerref18_Common.l0] at h⟩
  | k + 1 => by
    obtain ⟨ih0, ih1⟩ := monikerref18_Common.mono_l k
    refine ⟨?_, ?_⟩
    · intro y0 y1
      unfold monikerref18_Common.j0
      exact xmo
    · intro y0 y1
      unfold monikerref18_Common.l0
      exact xmo
theorem monikerref18_Common.mono : ∀ a0 k, LeO (monikerref18_Common.f k a0) (monikerref18_Common.f (k + 1) a0) := by
  intro a0 k
  obtain ⟨ih0, ih1⟩ := monikerref18_Common.mono_l k
  unfold monikerref18_Common.f
  exact xmo
set_option maxHeartbeats 8000000 in
set_option maxRecDepth 100000 in
theorem monikerref18_Common.calls (k : Nat) (a0 : Int) (r : Bool) (w : World) (h : monikerref18_Common.f k a0 = some r) :
    Calls Tryd.prog 86 #[.int .i64 a0] w fun e w' => e = .returned (.bool r) ∧ Drawn0 w w' := by
 have H : (if a0 ≥ 160 then (if a0 ≤ 55295 then (monikerref18_Common.j0 k a0 true) else (if a0 ≥ 63744 then (if a0 ≤ 64975 then (monikerref18_Common.j0 k a0 true) else (if a0 ≥ 65008 then (monikerref18_Common.j0 k a0 (decide (a0 ≤ 65519))) else (monikerref18_Common.j0 k a0 false))) else (if a0 ≥ 65008 then (monikerref18_Common.j0 k a0 (decide (a0 ≤ 65519))) else (monikerref18_Common.j0 k a0 false)))) else (if a0 ≥ 63744 then (if a0 ≤ 64975 then (monikerref18_Common.j0 k a0 true) else (if a0 ≥ 65008 then (monikerref18_Common.j0 k a0 (decide (a0 ≤ 65519))) else (monikerref18_Common.j0 k a0 false))) else (if a0 ≥ 65008 then (monikerref18_Common.j0 k a0 (decide (a0 ≤ 65519))) else (monikerref18_Common.j0 k a0 false)))) = some r := h
 clear h
 have HC2 := Aside0.mk H
 clear H
 go_enter Tryd.func86, Tryd.ntmps86
 go_upto_region 1 with (fail)
 go_cut [25] (fun v25 wc => ∃ (kq : Nat) (x25_1 : Bool), v25 = .bool x25_1 ∧ Aside0 (monikerref18_Common.j0 kq a0 x25_1 = some r) ∧ Aside0 (kq ≤ k) ∧ Drawn0 w wc)
 case first =>
  have H := HC2.out
  clear HC2
  by_cases c3 : a0 ≥ 160
  ·
   rw [if_pos c3] at H
   have c3b0 := decide_eq_true c3
   clear c3
   (first | rw [c3b0] | (simp only [i64_w, i32_w]; rw [c3b0]) | skip)
   by_cases c4 : a0 ≤ 55295
   ·
    rw [if_pos c4] at H
    have c4b0 := decide_eq_true c4
    clear c4
    have H' := Aside0.mk H
    clear H
    go_wp2
    go_meet
    case rel => exact ⟨_, (true), xrr, H', ⟨xom⟩, xdr⟩
   ·
    rw [if_neg c4] at H
    have c4b0 := decide_eq_false c4
    clear c4
    by_cases c5 : a0 ≥ 63744
    ·
     rw [if_pos c5] at H
     have c5b0 := decide_eq_true c5
     clear c5
     by_cases c6 : a0 ≤ 64975
     ·
      rw [if_pos c6] at H
      have c6b0 := decide_eq_true c6
      clear c6
      have H' := Aside0.mk H
      clear H
      go_wp2
      go_meet
      case rel => exact ⟨_, (true), xrr, H', ⟨xom⟩, xdr⟩
     ·
      rw [if_neg c6] at H
      have c6b0 := decide_eq_false c6
      clear c6
      by_cases c7 : a0 ≥ 65008
      ·
       rw [if_pos c7] at H
       have c7b0 := decide_eq_true c7
       clear c7
       have H' := Aside0.mk H
       clear H
       go_wp2
       go_meet
       case rel => exact ⟨_, (decide (a0 ≤ 65519)), xrr, H', ⟨xom⟩, xdr⟩
      ·
       rw [if_neg c7] at H
       have c7b0 := decide_eq_false c7
       clear c7
       have H' := Aside0.mk H
       clear H
       go_wp2
       go_meet
       case rel => exact ⟨_, (false), xrr, H', ⟨xom⟩, xdr⟩
    ·
     rw [if_neg c5] at H
     have c5b0 := decide_eq_false c5
     clear c5
     by_cases c8 : a0 ≥ 65008
     ·
      rw [if_pos c8] at H
      have c8b0 := decide_eq_true c8
      clear c8
      have H' := Aside0.mk H
      clear H
      go_wp2
      go_meet
      case rel => exact ⟨_, (decide (a0 ≤ 65519)), xrr, H', ⟨xom⟩, xdr⟩
     ·
      rw [if_neg c8] at H
      have c8b0 := decide_eq_false c8
      clear c8
      have H' := Aside0.mk H
      clear H
      go_wp2
      go_meet
      case rel => exact ⟨_, (false), xrr, H', ⟨xom⟩, xdr⟩
  ·
   rw [if_neg c3] at H
   have c3b0 := decide_eq_false c3
   clear c3
   (first | rw [c3b0] | (simp only [i64_w, i32_w]; rw [c3b0]) | skip)
   by_cases c9 : a0 ≥ 63744
   ·
    rw [if_pos c9] at H
    have c9b0 := decide_eq_true c9
    clear c9
    by_cases c10 : a0 ≤ 64975
    ·
     rw [if_pos c10] at H
     have c10b0 := decide_eq_true c10
     clear c10
     have H' := Aside0.mk H
     clear H
     go_wp2
     go_meet
     case rel => exact ⟨_, (true), xrr, H', ⟨xom⟩, xdr⟩
    ·
     rw [if_neg c10] at H
     have c10b0 := decide_eq_false c10
     clear c10
     by_cases c11 : a0 ≥ 65008
     ·
      rw [if_pos c11] at H
      have c11b0 := decide_eq_true c11
      clear c11
      have H' := Aside0.mk H
      clear H
      go_wp2
      go_meet
      case rel => exact ⟨_, (decide (a0 ≤ 65519)), xrr, H', ⟨xom⟩, xdr⟩
     ·
      rw [if_neg c11] at H
      have c11b0 := decide_eq_false c11
      clear c11
      have H' := Aside0.mk H
      clear H
      go_wp2
      go_meet
      case rel => exact ⟨_, (false), xrr, H', ⟨xom⟩, xdr⟩
   ·
    rw [if_neg c9] at H
    have c9b0 := decide_eq_false c9
    clear c9
    by_cases c12 : a0 ≥ 65008
    ·
     rw [if_pos c12] at H
     have c12b0 := decide_eq_true c12
     clear c12
     have H' := Aside0.mk H
     clear H
     go_wp2
     go_meet
     case rel => exact ⟨_, (decide (a0 ≤ 65519)), xrr, H', ⟨xom⟩, xdr⟩
    ·
     rw [if_neg c12] at H
     have c12b0 := decide_eq_false c12
     clear c12
     have H' := Aside0.mk H
     clear H
     go_wp2
     go_meet
     case rel => exact ⟨_, (false), xrr, H', ⟨xom⟩, xdr⟩
 case rest =>
  clear HC2
  obtain ⟨kq, x25_1, rfl, HA, HJ1, ⟨mc1, rfl⟩⟩ := hcut
  cases kq with
  | zero => exact absurd HA.out (by simp [monikerref18_Common.j0])
  | succ kj1 =>
   have H := HA.out
   clear HA
   simp only [monikerref18_Common.j0] at H
   by_cases c13 : x25_1 = true
   ·
    subst c13
    rw [if_pos rfl] at H
    obtain rfl := Option.some.inj H
    go_wp2
    go_ret
    exact ⟨xrr, xdr⟩
   ·
    replace c13 := Bool.eq_false_iff.mpr c13
    subst c13
    rw [if_neg (show ¬ (false = true) by decide)] at H
    have H' := Aside0.mk H
    clear H
    go_wp2
    go_loopg [3] kj1 (fun kq v3 w' => ∃ (x3_2 : Int), v3 = .int .i64 x3_2 ∧ Aside0 (monikerref18_Common.l0 kq a0 x3_2 = some r) ∧ Aside0 (kq ≤ kj1) ∧ Drawn0 w w')
    case atStart => exact ⟨(1), xrr, H', ⟨Nat.le_refl _⟩, xdr⟩
    case round =>
     clear H'
     obtain ⟨x3_2, rfl, HA, HK2, ⟨m2, rfl⟩⟩ := hrel
     cases gk with
     | zero => exact absurd HA.out (by simp [monikerref18_Common.l0])
     | succ k2 =>
      have H := HA.out
      clear HA
      simp only [monikerref18_Common.l0] at H
      by_cases c14 : x3_2 ≤ 13
      ·
       rw [if_pos c14] at H
       have c14b0 := decide_eq_true c14
       clear c14
       by_cases c15 : a0 ≥ (wrap64 (x3_2 * 65536))
       ·
        rw [if_pos c15] at H
        have c15b0 := decide_eq_true c15
        clear c15
        by_cases c16 : a0 ≤ (wrap64 ((wrap64 (x3_2 * 65536)) + 65533))
        ·
         rw [if_pos c16] at H
         have c16b0 := decide_eq_true c16
         clear c16
         obtain rfl := Option.some.inj H
         go_wp2
         go_ret
         exact ⟨xrr, xdr⟩
        ·
         rw [if_neg c16] at H
         have c16b0 := decide_eq_false c16
         clear c16
         have H' := Aside0.mk H
         clear H
         go_wp2
         go_roundg k2
         case measure => have := HJ1.out; have := HK2.out; omega
         case rel => exact ⟨(wrap64 (x3_2 + 1)), xrr, H', ⟨by have := HJ1.out; have := HK2.out; omega⟩, xdr⟩
       ·
        rw [if_neg c15] at H
        have c15b0 := decide_eq_false c15
        clear c15
        have H' := Aside0.mk H
        clear H
        go_wp2
        go_roundg k2
        case measure => have := HJ1.out; have := HK2.out; omega
        case rel => exact ⟨(wrap64 (x3_2 + 1)), xrr, H', ⟨by have := HJ1.out; have := HK2.out; omega⟩, xdr⟩
      ·
       rw [if_neg c14] at H
       have c14b0 := decide_eq_false c14
       clear c14
       by_cases c17 : a0 ≥ 921600
       ·
        rw [if_pos c17] at H
        have c17b0 := decide_eq_true c17
        clear c17
        obtain rfl := Option.some.inj H
        go_wp2
        go_ret
        exact ⟨xrr, xdr⟩
       ·
        rw [if_neg c17] at H
        have c17b0 := decide_eq_false c17
        clear c17
        obtain rfl := Option.some.inj H
        go_wp2
        go_ret
        exact ⟨xrr, xdr⟩
def monikerref18_Private.f (a0 : Int) : Option (Bool) := if a0 ≥ 57344 then (if a0 ≤ 63743 then (some true) else (if a0 ≥ 983040 then (if a0 ≤ 1048573 then (some true) else (if a0 ≥ 1048576 then (some (decide (a0 ≤ 1114109))) else (some false))) else (if a0 ≥ 1048576 then (some (decide (a0 ≤ 1114109))) else (some false)))) else (if a0 ≥ 983040 then (if a0 ≤ 1048573 then (some true) else (if a0 ≥ 1048576 then (some (decide (a0 ≤ 1114109))) else (some false))) else (if a0 ≥ 1048576 then (some (decide (a0 ≤ 1114109))) else (some false)))
set_option maxHeartbeats 8000000 in
set_option maxRecDepth 100000 in
theorem monikerref18_Private.calls (a0 : Int) (r : Bool) (w : World) (h : monikerref18_Private.f a0 = some r) :
    Calls Tryd.prog 87 #[.int .i64 a0] w fun e w' => e = .returned (.bool r) ∧ Drawn0 w w' := by
 have H : (if a0 ≥ 57344 then (if a0 ≤ 63743 then (some true) else (if a0 ≥ 983040 then (if a0 ≤ 1048573 then (some true) else (if a0 ≥ 1048576 then (some (decide (a0 ≤ 1114109))) else (some false))) else (if a0 ≥ 1048576 then (some (decide (a0 ≤ 1114109))) else (some false)))) else (if a0 ≥ 983040 then (if a0 ≤ 1048573 then (some true) else (if a0 ≥ 1048576 then (some (decide (a0 ≤ 1114109))) else (some false))) else (if a0 ≥ 1048576 then (some (decide (a0 ≤ 1114109))) else (some false)))) = some r := h
 clear h
 by_cases c2 : a0 ≥ 57344
 ·
  rw [if_pos c2] at H
  have c2b0 := decide_eq_true c2
  clear c2
  by_cases c3 : a0 ≤ 63743
  ·
   rw [if_pos c3] at H
   have c3b0 := decide_eq_true c3
   clear c3
   obtain rfl := Option.some.inj H
   go_enter Tryd.func87, Tryd.ntmps87
   go_wp2
   go_ret
   exact ⟨xrr, xdr⟩
  ·
   rw [if_neg c3] at H
   have c3b0 := decide_eq_false c3
   clear c3
   by_cases c4 : a0 ≥ 983040
   ·
    rw [if_pos c4] at H
    have c4b0 := decide_eq_true c4
    clear c4
    by_cases c5 : a0 ≤ 1048573
    ·
     rw [if_pos c5] at H
     have c5b0 := decide_eq_true c5
     clear c5
     obtain rfl := Option.some.inj H
     go_enter Tryd.func87, Tryd.ntmps87
     go_wp2
     go_ret
     exact ⟨xrr, xdr⟩
    ·
     rw [if_neg c5] at H
     have c5b0 := decide_eq_false c5
     clear c5
     by_cases c6 : a0 ≥ 1048576
     ·
      rw [if_pos c6] at H
      have c6b0 := decide_eq_true c6
      clear c6
      obtain rfl := Option.some.inj H
      go_enter Tryd.func87, Tryd.ntmps87
      go_wp2
      go_ret
      exact ⟨xrr, xdr⟩
     ·
      rw [if_neg c6] at H
      have c6b0 := decide_eq_false c6
      clear c6
      obtain rfl := Option.some.inj H
      go_enter Tryd.func87, Tryd.ntmps87
      go_wp2
      go_ret
      exact ⟨xrr, xdr⟩
   ·
    rw [if_neg c4] at H
    have c4b0 := decide_eq_false c4
    clear c4
    by_cases c7 : a0 ≥ 1048576
    ·
     rw [if_pos c7] at H
     have c7b0 := decide_eq_true c7
     clear c7
     obtain rfl := Option.some.inj H
     go_enter Tryd.func87, Tryd.ntmps87
     go_wp2
     go_ret
     exact ⟨xrr, xdr⟩
    ·
     rw [if_neg c7] at H
     have c7b0 := decide_eq_false c7
     clear c7
     obtain rfl := Option.some.inj H
     go_enter Tryd.func87, Tryd.ntmps87
     go_wp2
     go_ret
     exact ⟨xrr, xdr⟩
 ·
  rw [if_neg c2] at H
  have c2b0 := decide_eq_false c2
  clear c2
  by_cases c8 : a0 ≥ 983040
  ·
   rw [if_pos c8] at H
   have c8b0 := decide_eq_true c8
   clear c8
   by_cases c9 : a0 ≤ 1048573
   ·
    rw [if_pos c9] at H
    have c9b0 := decide_eq_true c9
    clear c9
    obtain rfl := Option.some.inj H
    go_enter Tryd.func87, Tryd.ntmps87
    go_wp2
    go_ret
    exact ⟨xrr, xdr⟩
   ·
    rw [if_neg c9] at H
    have c9b0 := decide_eq_false c9
    clear c9
    by_cases c10 : a0 ≥ 1048576
    ·
     rw [if_pos c10] at H
     have c10b0 := decide_eq_true c10
     clear c10
     obtain rfl := Option.some.inj H
     go_enter Tryd.func87, Tryd.ntmps87
     go_wp2
     go_ret
     exact ⟨xrr, xdr⟩
    ·
     rw [if_neg c10] at H
     have c10b0 := decide_eq_false c10
     clear c10
     obtain rfl := Option.some.inj H
     go_enter Tryd.func87, Tryd.ntmps87
     go_wp2
     go_ret
     exact ⟨xrr, xdr⟩
  ·
   rw [if_neg c8] at H
   have c8b0 := decide_eq_false c8
   clear c8
   by_cases c11 : a0 ≥ 1048576
   ·
    rw [if_pos c11] at H
    have c11b0 := decide_eq_true c11
    clear c11
    obtain rfl := Option.some.inj H
    go_enter Tryd.func87, Tryd.ntmps87
    go_wp2
    go_ret
    exact ⟨xrr, xdr⟩
   ·
    rw [if_neg c11] at H
    have c11b0 := decide_eq_false c11
    clear c11
    obtain rfl := Option.some.inj H
    go_enter Tryd.func87, Tryd.ntmps87
    go_wp2
    go_ret
    exact ⟨xrr, xdr⟩
end Go.Proofs.YticohlbfolnmpaaDoor.X
namespace Go.Proofs.YticohlbfolnmpaaDoor.Y
open Go.RowKit Go.Proofs.YticohlbfolnmpaaDoor.X Go.Proofs.YticohlbfolnmpaaDoor.M Go.Proofs.YticohlbfolnmpaaDoorW.PrintWords Go.Proofs.YticohlbfolnmpaaDoorW.PrintLast Go.Proofs.YticohlbfolnmpaaDoorW.PrintMore
set_option linter.unusedVariables false
end Go.Proofs.YticohlbfolnmpaaDoor.Y
namespace Go.Proofs.YticohlbfolnmpaaDoor.X
open Go.RowKit Go.Proofs.YticohlbfolnmpaaDoorW.PrintWords Go.Proofs.YticohlbfolnmpaaDoorW.PrintLast Go.Proofs.YticohlbfolnmpaaDoorW.PrintMore
attribute [local go_sem] max2_int min2_int max_two min_two max_three min_three max_four min_four
set_option linter.unusedVariables false
set_option linter.unusedSimpArgs false
mutual
def monikerref18_May.j0 : Nat → Int → Bool → Int → Bool → Option (Bool)
  | 0, _, _, _, _ => none
  | k + 1, x0, x1, x2, x12 => if x12 = true then ((monikerref18_Plain.f k x0 ((x2) % 256)).bind fun t339 => (some t339)) else (if x1 = true then (if x0 < 1 then (monikerref18_May.j1 k x0 x2 true) else (monikerref18_May.j1 k x0 x2 (decide (x0 > 7)))) else (monikerref18_May.j1 k x0 x2 true))
def monikerref18_May.j1 : Nat → Int → Int → Bool → Option (Bool)
  | 0, _, _, _ => none
  | k + 1, x0, x2, x26 => if x26 = true then (some false) else ((monikerref18_Common.f k x2).bind fun t340 => (if t340 = true then (some true) else (if x0 = 6 then ((monikerref18_Private.f x2).bind fun t341 => (some t341)) else (some false))))
end
def monikerref18_May.f (k : Nat) (a0 : Int) (a1 : Bool) (a2 : Int) : Option (Bool) := if a2 ≥ 0 then (monikerref18_May.j0 k a0 a1 a2 (decide (a2 < 128))) else (monikerref18_May.j0 k a0 a1 a2 false)
theorem monikerref18_May.mono_l : ∀ k, (∀ y0 y1 y2 y3, LeO (monikerref18_May.j0 k y0 y1 y2 y3) (monikerref18_May.j0 (k + 1) y0 y1 y2 y3)) ∧ (∀ y0 y1 y2, LeO (monikerref18_May.j1 k y0 y1 y2) (monikerref18_May.j1 (k + 1) y0 y1 y2))
  | 0 => ⟨fun _ _ _ _ r h => by simp [monikerref18_May.j0] at h, fun _ _ _ r h => by simp [monikerref18_May.j1] at h⟩
  | k + 1 => by
    obtain ⟨ih0, ih1⟩ := monikerref18_May.mono_l k
    have m0 := @monikerref18_Common.mono; have m1 := @monikerref18_Plain.mono
    refine ⟨?_, ?_⟩
    · intro y0 y1 y2 y3
      unfold monikerref18_May.j0
      exact xmo
    · intro y0 y1 y2
      unfold monikerref18_May.j1
      exact xmo
theorem monikerref18_May.mono : ∀ a0 a1 a2 k, LeO (monikerref18_May.f k a0 a1 a2) (monikerref18_May.f (k + 1) a0 a1 a2) := by
  intro a0 a1 a2 k
  obtain ⟨ih0, ih1⟩ := monikerref18_May.mono_l k
  have m0 := @monikerref18_Common.mono; have m1 := @monikerref18_Plain.mono
  unfold monikerref18_May.f
  exact xmo
set_option maxHeartbeats 8000000 in
set_option maxRecDepth 100000 in
theorem monikerref18_May.calls (k : Nat) (a0 : Int) (a1 : Bool) (a2 : Int) (r : Bool) (w : World) (h : monikerref18_May.f k a0 a1 a2 = some r) :
    Calls Tryd.prog 65 #[.int .i64 a0, .bool a1, .int .i64 a2] w fun e w' => e = .returned (.bool r) ∧ Below w.heap.size w w' := by
 have HB := Aside0.mk (Below.refl w.heap.size w)
 have H : (if a2 ≥ 0 then (monikerref18_May.j0 k a0 a1 a2 (decide (a2 < 128))) else (monikerref18_May.j0 k a0 a1 a2 false)) = some r := h
 clear h
 have HC4 := Aside0.mk H
 clear H
 go_enter Tryd.func65, Tryd.ntmps65
 go_upto_region 1 with (fail)
 go_cut [12] (fun v12 wc => ∃ (kq : Nat) (x12_3 : Bool), v12 = .bool x12_3 ∧ Aside0 (monikerref18_May.j0 kq a0 a1 a2 x12_3 = some r) ∧ Aside0 (kq ≤ k) ∧ Aside0 (Below w.heap.size w wc))
 case first =>
  have H := HC4.out
  clear HC4
  by_cases c5 : a2 ≥ 0
  ·
   rw [if_pos c5] at H
   have c5b0 := decide_eq_true c5
   clear c5
   (first | rw [c5b0] | (simp only [i64_w, i32_w]; rw [c5b0]) | skip)
   have H' := Aside0.mk H
   clear H
   go_wp2
   go_meet
   case rel => exact ⟨_, (decide (a2 < 128)), xrr, H', ⟨xom⟩, ⟨xbl⟩⟩
  ·
   rw [if_neg c5] at H
   have c5b0 := decide_eq_false c5
   clear c5
   (first | rw [c5b0] | (simp only [i64_w, i32_w]; rw [c5b0]) | skip)
   have H' := Aside0.mk H
   clear H
   go_wp2
   go_meet
   case rel => exact ⟨_, (false), xrr, H', ⟨xom⟩, ⟨xbl⟩⟩
 case rest =>
  clear HC4
  obtain ⟨kq, x12_3, rfl, HA, HJ3, HB⟩ := hcut
  cases kq with
  | zero => exact absurd HA.out (by simp [monikerref18_May.j0])
  | succ kj3 =>
   have H := HA.out
   clear HA
   simp only [monikerref18_May.j0] at H
   by_cases c6 : x12_3 = true
   ·
    subst c6
    rw [if_pos rfl] at H
    replace H := Option.bind_eq_some_iff.mp H
    obtain ⟨t339, A70, H⟩ := H
    try dsimp only at H
    have A7 := Aside0.mk A70
    clear A70
    obtain rfl := Option.some.inj H
    go_wp2_with (first | ((with_reducible refine gate_callee (f := 85) rfl ?_); refine xgl 16 Tryd.func85 #[.int .i64 a0, .int .u8 ((a2) % 256)] ?_; (with_reducible refine (monikerref18_Plain.calls kj3 a0 ((a2) % 256) t339 _ A7.out).mono ?_); rintro e w8 ⟨rfl, hb⟩; refine ⟨_, rfl, ?_⟩; replace HB := xst hb; (try clear hb)))
    go_ret
    exact ⟨xre, xbl⟩
   ·
    replace c6 := Bool.eq_false_iff.mpr c6
    subst c6
    rw [if_neg (show ¬ (false = true) by decide)] at H
    have HC9 := Aside0.mk H
    clear H
    go_upto_region 3 with (fail)
    go_cut [26] (fun v26 wc => ∃ (kq : Nat) (x26_8 : Bool), v26 = .bool x26_8 ∧ Aside0 (monikerref18_May.j1 kq a0 a2 x26_8 = some r) ∧ Aside0 (kq ≤ kj3) ∧ Aside0 (Below w.heap.size w wc))
    case first =>
     have H := HC9.out
     clear HC9
     by_cases c10 : a1 = true
     ·
      subst c10
      rw [if_pos rfl] at H
      by_cases c11 : a0 < 1
      ·
       rw [if_pos c11] at H
       have c11b0 := decide_eq_true c11
       clear c11
       (first | rw [c11b0] | (simp only [i64_w, i32_w]; rw [c11b0]) | skip)
       have H' := Aside0.mk H
       clear H
       go_wp2
       go_meet
       case rel => exact ⟨_, (true), xrr, H', ⟨by have := HJ3.out; first | omega | exact Nat.le_refl _⟩, ⟨xbl⟩⟩
      ·
       rw [if_neg c11] at H
       have c11b0 := decide_eq_false c11
       clear c11
       (first | rw [c11b0] | (simp only [i64_w, i32_w]; rw [c11b0]) | skip)
       have H' := Aside0.mk H
       clear H
       go_wp2
       go_meet
       case rel => exact ⟨_, (decide (a0 > 7)), xrr, H', ⟨by have := HJ3.out; first | omega | exact Nat.le_refl _⟩, ⟨xbl⟩⟩
     ·
      replace c10 := Bool.eq_false_iff.mpr c10
      subst c10
      rw [if_neg (show ¬ (false = true) by decide)] at H
      have H' := Aside0.mk H
      clear H
      go_wp2
      go_meet
      case rel => exact ⟨_, (true), xrr, H', ⟨by have := HJ3.out; first | omega | exact Nat.le_refl _⟩, ⟨xbl⟩⟩
    case rest =>
     clear HC9
     obtain ⟨kq, x26_8, rfl, HA, HJ8, HB⟩ := hcut
     cases kq with
     | zero => exact absurd HA.out (by simp [monikerref18_May.j1])
     | succ kj8 =>
      have H := HA.out
      clear HA
      simp only [monikerref18_May.j1] at H
      by_cases c12 : x26_8 = true
      ·
       subst c12
       rw [if_pos rfl] at H
       obtain rfl := Option.some.inj H
       go_wp2
       go_ret
       exact ⟨xre, xbl⟩
      ·
       replace c12 := Bool.eq_false_iff.mpr c12
       subst c12
       rw [if_neg (show ¬ (false = true) by decide)] at H
       replace H := Option.bind_eq_some_iff.mp H
       obtain ⟨t340, A130, H⟩ := H
       try dsimp only at H
       have A13 := Aside0.mk A130
       clear A130
       by_cases c14 : t340 = true
       ·
        subst c14
        rw [if_pos rfl] at H
        obtain rfl := Option.some.inj H
        go_wp2_with (first | ((with_reducible refine gate_callee (f := 86) rfl ?_); refine xgl 28 Tryd.func86 #[.int .i64 a2] ?_; (with_reducible refine (monikerref18_Common.calls kj8 a2 true _ A13.out).mono ?_); rintro e w' ⟨rfl, ⟨nd, rfl⟩⟩; refine ⟨_, rfl, ?_⟩))
        go_ret
        exact ⟨xre, xbl⟩
       ·
        replace c14 := Bool.eq_false_iff.mpr c14
        subst c14
        rw [if_neg (show ¬ (false = true) by decide)] at H
        by_cases c15 : a0 = 6
        ·
         rw [if_pos c15] at H
         have c15b0 : (a0 == 6) = true := beq_iff_eq.mpr c15
         have c15b1 : (a0 != 6) = false := bne_eq_false_iff_eq.mpr c15
         clear c15
         replace H := Option.bind_eq_some_iff.mp H
         obtain ⟨t341, A160, H⟩ := H
         try dsimp only at H
         have A16 := Aside0.mk A160
         clear A160
         obtain rfl := Option.some.inj H
         go_wp2_with (first | ((with_reducible refine gate_callee (f := 86) rfl ?_); refine xgl 28 Tryd.func86 #[.int .i64 a2] ?_; (with_reducible refine (monikerref18_Common.calls kj8 a2 false _ A13.out).mono ?_); rintro e w' ⟨rfl, ⟨nd, rfl⟩⟩; refine ⟨_, rfl, ?_⟩) | (go_at_call 87; (with_reducible refine (monikerref18_Private.calls a2 t341 _ A16.out).mono ?_); rintro e w' ⟨rfl, ⟨nd, rfl⟩⟩))
         go_ret
         exact ⟨xre, xbl⟩
        ·
         rw [if_neg c15] at H
         have c15b0 : (a0 == 6) = false := beq_eq_false_iff_ne.mpr c15
         have c15b1 : (a0 != 6) = true := bne_iff_ne.mpr c15
         obtain rfl := Option.some.inj H
         go_wp2_with (first | ((with_reducible refine gate_callee (f := 86) rfl ?_); refine xgl 28 Tryd.func86 #[.int .i64 a2] ?_; (with_reducible refine (monikerref18_Common.calls kj8 a2 false _ A13.out).mono ?_); rintro e w' ⟨rfl, ⟨nd, rfl⟩⟩; refine ⟨_, rfl, ?_⟩))
         go_ret
         exact ⟨xre, xbl⟩
def monikerref18_Step.j0 : Nat → Int → Bool → ByteArray → Int → Bool → Option (Int)
  | 0, _, _, _, _, _ => none
  | k + 1, x0, x1, x2, x3, x15 => if x15 = true then (some 0) else ((monikerref04_At.f k x2 x3).bind fun t342 => (if t342 ≥ 0 then (some 3) else (if 0 ≤ x3 then (if x3 ≤ (x2.size : Int) then ((monikerref02_Decode.f k (x2.extract (x3 : Int).toNat x2.size)).bind fun bt343 => (if bt343.2.2 = true then ((monikerref18_May.f k x0 x1 bt343.1).bind fun t347 => (if t347 = true then (some bt343.2.1) else (some 0))) else (some 0))) else (none)) else (none))))
def monikerref18_Step.f (k : Nat) (a0 : Int) (a1 : Bool) (a2 : ByteArray) (a3 : Int) : Option (Int) := if a0 < 1 then (monikerref18_Step.j0 k a0 a1 a2 a3 true) else (monikerref18_Step.j0 k a0 a1 a2 a3 (decide (a0 > 7)))
theorem monikerref18_Step.mono_l : ∀ k, (∀ y0 y1 y2 y3 y4, LeO (monikerref18_Step.j0 k y0 y1 y2 y3 y4) (monikerref18_Step.j0 (k + 1) y0 y1 y2 y3 y4))
  | 0 => fun _ _ _ _ _ r h => by simp [monikerref18_Step.j0] at h
  | k + 1 => by
    have ih0 := monikerref18_Step.mono_l k
    have m0 := @monikerref02_Decode.mono; have m1 := @monikerref04_At.mono; have m2 := @monikerref18_May.mono
    · intro y0 y1 y2 y3 y4
      unfold monikerref18_Step.j0
      exact xmo
theorem monikerref18_Step.mono : ∀ a0 a1 a2 a3 k, LeO (monikerref18_Step.f k a0 a1 a2 a3) (monikerref18_Step.f (k + 1) a0 a1 a2 a3) := by
  intro a0 a1 a2 a3 k
  have ih0 := monikerref18_Step.mono_l k
  have m0 := @monikerref02_Decode.mono; have m1 := @monikerref04_At.mono; have m2 := @monikerref18_May.mono
  unfold monikerref18_Step.f
  exact xmo
set_option maxHeartbeats 8000000 in
set_option maxRecDepth 100000 in
theorem monikerref18_Step.calls (k : Nat) (a0 : Int) (a1 : Bool) (a2 : ByteArray) (a3 : Int) (r : Int) (w : World) (h : monikerref18_Step.f k a0 a1 a2 a3 = some r) :
    Calls Tryd.prog 47 #[.int .i64 a0, .bool a1, .string a2, .int .i64 a3] w fun e w' => e = .returned (.int .i64 r) ∧ Below w.heap.size w w' := by
 have hu99 := Tryd.underlying99
 have HB := Aside0.mk (Below.refl w.heap.size w)
 have H : (if a0 < 1 then (monikerref18_Step.j0 k a0 a1 a2 a3 true) else (monikerref18_Step.j0 k a0 a1 a2 a3 (decide (a0 > 7)))) = some r := h
 clear h
 have HC5 := Aside0.mk H
 clear H
 go_enter Tryd.func47, Tryd.ntmps47
 go_upto_region 1 with (fail)
 go_cut [15] (fun v15 wc => ∃ (kq : Nat) (x15_4 : Bool), v15 = .bool x15_4 ∧ Aside0 (monikerref18_Step.j0 kq a0 a1 a2 a3 x15_4 = some r) ∧ Aside0 (kq ≤ k) ∧ Aside0 (Below w.heap.size w wc))
 case first =>
  have H := HC5.out
  clear HC5
  by_cases c6 : a0 < 1
  ·
   rw [if_pos c6] at H
   have c6b0 := decide_eq_true c6
   clear c6
   (first | rw [c6b0] | (simp only [i64_w, i32_w]; rw [c6b0]) | skip)
   have H' := Aside0.mk H
   clear H
   go_wp2
   go_meet
   case rel => exact ⟨_, (true), xrr, H', ⟨xom⟩, ⟨xbl⟩⟩
  ·
   rw [if_neg c6] at H
   have c6b0 := decide_eq_false c6
   clear c6
   (first | rw [c6b0] | (simp only [i64_w, i32_w]; rw [c6b0]) | skip)
   have H' := Aside0.mk H
   clear H
   go_wp2
   go_meet
   case rel => exact ⟨_, (decide (a0 > 7)), xrr, H', ⟨xom⟩, ⟨xbl⟩⟩
 case rest =>
  clear HC5
  obtain ⟨kq, x15_4, rfl, HA, HJ4, HB⟩ := hcut
  cases kq with
  | zero => exact absurd HA.out (by simp [monikerref18_Step.j0])
  | succ kj4 =>
   have H := HA.out
   clear HA
   simp only [monikerref18_Step.j0] at H
   by_cases c7 : x15_4 = true
   ·
    subst c7
    rw [if_pos rfl] at H
    obtain rfl := Option.some.inj H
    go_wp2
    go_ret
    exact ⟨xre, xbl⟩
   ·
    replace c7 := Bool.eq_false_iff.mpr c7
    subst c7
    rw [if_neg (show ¬ (false = true) by decide)] at H
    replace H := Option.bind_eq_some_iff.mp H
    obtain ⟨t342, A80, H⟩ := H
    try dsimp only at H
    have A8 := Aside0.mk A80
    clear A80
    by_cases c9 : t342 ≥ 0
    ·
     rw [if_pos c9] at H
     have c9b0 := decide_eq_true c9
     clear c9
     obtain rfl := Option.some.inj H
     go_wp2_with (first | ((with_reducible refine gate_callee (f := 63) rfl ?_); refine xgl 18 Tryd.func63 #[.string a2, .int .i64 a3] ?_; (with_reducible refine (monikerref04_At.calls kj4 a2 a3 t342 _ A8.out).mono ?_); rintro e w' ⟨rfl, ⟨nd, rfl⟩⟩; refine ⟨_, rfl, ?_⟩))
     go_ret
     exact ⟨xre, xbl⟩
    ·
     rw [if_neg c9] at H
     have c9b0 := decide_eq_false c9
     clear c9
     by_cases c10 : 0 ≤ a3
     ·
      rw [if_pos c10] at H
      have c10b0 := eq_true c10
      have c10b1 := decide_eq_true c10
      clear c10
      by_cases c11 : a3 ≤ (a2.size : Int)
      ·
       rw [if_pos c11] at H
       have c11b0 := eq_true c11
       have c11b1 := decide_eq_true c11
       clear c11
       obtain ⟨ji12, hji12⟩ : ∃ j_ : ByteArray, (a2.extract (a3 : Int).toNat a2.size) = j_ := ⟨_, rfl⟩
       try (have hji12x := hji12; simp only [Int.toNat_natCast, Int.toNat_ofNat] at hji12x)
       first | rw [hji12] at H | simp only [hji12] at H | skip
       (try rw [hji12] at A8)
       replace H := Option.bind_eq_some_iff.mp H
       obtain ⟨⟨t343, t344, t345⟩, A130, H⟩ := H
       try dsimp only at H
       have A13 := Aside0.mk A130
       clear A130
       by_cases c14 : t345 = true
       ·
        subst c14
        rw [if_pos rfl] at H
        replace H := Option.bind_eq_some_iff.mp H
        obtain ⟨t347, A150, H⟩ := H
        try dsimp only at H
        have A15 := Aside0.mk A150
        clear A150
        by_cases c16 : t347 = true
        ·
         subst c16
         rw [if_pos rfl] at H
         obtain rfl := Option.some.inj H
         go_wp2_with (first | ((with_reducible refine gate_callee (f := 63) rfl ?_); refine xgl 18 Tryd.func63 #[.string a2, .int .i64 a3] ?_; (with_reducible refine (monikerref04_At.calls kj4 a2 a3 t342 _ A8.out).mono ?_); rintro e w' ⟨rfl, ⟨nd, rfl⟩⟩; refine ⟨_, rfl, ?_⟩; (try (rw [drewN_self wc]; generalize hq_ : World.drewN wc _ = wc; have n0_ : Aside0 (Below w.heap.size w wc) := ⟨by rw [← hq_]; exact xbl⟩; clear HB hq_; have HB := n0_; clear n0_))) | ((with_reducible refine gate_callee (f := 64) rfl ?_); refine goesL_ (some 23) rfl rfl Tryd.func64 (by kernel_rfl) rfl #[.string ji12] rfl (by (try simp only [List.map_toArray, List.map_cons, List.map_nil]); first | done | (simp only [hji12]; rfl) | rfl | (simp only [List.length_drop, List.length_take]; rfl)) ?_; (with_reducible refine (monikerref02_Decode.calls kj4 ji12 t343 t344 true _ A13.out).mono ?_); rintro e w17 ⟨rfl, hb⟩; refine ⟨_, rfl, ?_⟩; replace HB := xst hb; (try clear hb)) | ((with_reducible refine gate_dst (N := 9) rfl ?_); refine xev 9 #[.int .i64 0, .int .i64 0, .bool false] 99 ?_; intro gb346 hg w18 hbox hb; have BK346 := Aside0.mk (hbox); have GW346 := xsz hg; have GE346 := GW346; replace HB := xst hb; clear hb hbox hg; obtain ⟨hcz19_0, hcz19_1, hcz19_2⟩ := xc3 BK346; have hfz19_0 := xf BK346 0; have hfz19_1 := xf BK346 1; have hfz19_2 := xf BK346 2) | (go_at_call 65; (with_reducible refine (monikerref18_May.calls kj4 a0 a1 t343 true _ A15.out).mono ?_); rintro e w20 ⟨rfl, hb⟩; replace BK346 := xbb (g := gb346) (o := .cells #[.int .i64 t343, .int .i64 t344, .bool true] 99 (0, 0)) hb; replace HB := xst hb; (try clear hb); obtain ⟨hcz21_0, hcz21_1, hcz21_2⟩ := xc3 BK346; have hfz21_0 := xf BK346 0; have hfz21_1 := xf BK346 1; have hfz21_2 := xf BK346 2))
         go_ret
         exact ⟨by first | rfl | (simp [errW_none, errW_some] <;> first | rfl | (simp only [xp_isEmpty, bne, Bool.not_not]; done)) | (simp only [← hji12]; first | rfl | (simp [errW_none, errW_some] <;> rfl)) | (simp [*, errW_none, errW_some] <;> rfl), xbl⟩
        ·
         replace c16 := Bool.eq_false_iff.mpr c16
         subst c16
         rw [if_neg (show ¬ (false = true) by decide)] at H
         obtain rfl := Option.some.inj H
         go_wp2_with (first | ((with_reducible refine gate_callee (f := 63) rfl ?_); refine xgl 18 Tryd.func63 #[.string a2, .int .i64 a3] ?_; (with_reducible refine (monikerref04_At.calls kj4 a2 a3 t342 _ A8.out).mono ?_); rintro e w' ⟨rfl, ⟨nd, rfl⟩⟩; refine ⟨_, rfl, ?_⟩; (try (rw [drewN_self wc]; generalize hq_ : World.drewN wc _ = wc; have n0_ : Aside0 (Below w.heap.size w wc) := ⟨by rw [← hq_]; exact xbl⟩; clear HB hq_; have HB := n0_; clear n0_))) | ((with_reducible refine gate_callee (f := 64) rfl ?_); refine goesL_ (some 23) rfl rfl Tryd.func64 (by kernel_rfl) rfl #[.string ji12] rfl (by (try simp only [List.map_toArray, List.map_cons, List.map_nil]); first | done | (simp only [hji12]; rfl) | rfl | (simp only [List.length_drop, List.length_take]; rfl)) ?_; (with_reducible refine (monikerref02_Decode.calls kj4 ji12 t343 t344 true _ A13.out).mono ?_); rintro e w22 ⟨rfl, hb⟩; refine ⟨_, rfl, ?_⟩; replace HB := xst hb; (try clear hb)) | ((with_reducible refine gate_dst (N := 9) rfl ?_); refine xev 9 #[.int .i64 0, .int .i64 0, .bool false] 99 ?_; intro gb346 hg w23 hbox hb; have BK346 := Aside0.mk (hbox); have GW346 := xsz hg; have GE346 := GW346; replace HB := xst hb; clear hb hbox hg; obtain ⟨hcz24_0, hcz24_1, hcz24_2⟩ := xc3 BK346; have hfz24_0 := xf BK346 0; have hfz24_1 := xf BK346 1; have hfz24_2 := xf BK346 2) | (go_at_call 65; (with_reducible refine (monikerref18_May.calls kj4 a0 a1 t343 false _ A15.out).mono ?_); rintro e w25 ⟨rfl, hb⟩; replace BK346 := xbb (g := gb346) (o := .cells #[.int .i64 t343, .int .i64 t344, .bool true] 99 (0, 0)) hb; replace HB := xst hb; (try clear hb)))
         go_ret
         exact ⟨by first | rfl | (simp [errW_none, errW_some] <;> first | rfl | (simp only [xp_isEmpty, bne, Bool.not_not]; done)) | (simp only [← hji12]; first | rfl | (simp [errW_none, errW_some] <;> rfl)) | (simp [*, errW_none, errW_some] <;> rfl), xbl⟩
       ·
        replace c14 := Bool.eq_false_iff.mpr c14
        subst c14
        rw [if_neg (show ¬ (false = true) by decide)] at H
        obtain rfl := Option.some.inj H
        go_wp2_with (first | ((with_reducible refine gate_callee (f := 63) rfl ?_); refine xgl 18 Tryd.func63 #[.string a2, .int .i64 a3] ?_; (with_reducible refine (monikerref04_At.calls kj4 a2 a3 t342 _ A8.out).mono ?_); rintro e w' ⟨rfl, ⟨nd, rfl⟩⟩; refine ⟨_, rfl, ?_⟩; (try (rw [drewN_self wc]; generalize hq_ : World.drewN wc _ = wc; have n0_ : Aside0 (Below w.heap.size w wc) := ⟨by rw [← hq_]; exact xbl⟩; clear HB hq_; have HB := n0_; clear n0_))) | ((with_reducible refine gate_callee (f := 64) rfl ?_); refine goesL_ (some 23) rfl rfl Tryd.func64 (by kernel_rfl) rfl #[.string ji12] rfl (by (try simp only [List.map_toArray, List.map_cons, List.map_nil]); first | done | (simp only [hji12]; rfl) | rfl | (simp only [List.length_drop, List.length_take]; rfl)) ?_; (with_reducible refine (monikerref02_Decode.calls kj4 ji12 t343 t344 false _ A13.out).mono ?_); rintro e w26 ⟨rfl, hb⟩; refine ⟨_, rfl, ?_⟩; replace HB := xst hb; (try clear hb)) | ((with_reducible refine gate_dst (N := 9) rfl ?_); refine xev 9 #[.int .i64 0, .int .i64 0, .bool false] 99 ?_; intro gb346 hg w27 hbox hb; have BK346 := Aside0.mk (hbox); have GW346 := xsz hg; have GE346 := GW346; replace HB := xst hb; clear hb hbox hg; obtain ⟨hcz28_0, hcz28_1, hcz28_2⟩ := xc3 BK346; have hfz28_0 := xf BK346 0; have hfz28_1 := xf BK346 1; have hfz28_2 := xf BK346 2))
        go_ret
        exact ⟨by first | rfl | (simp [errW_none, errW_some] <;> first | rfl | (simp only [xp_isEmpty, bne, Bool.not_not]; done)) | (simp only [← hji12]; first | rfl | (simp [errW_none, errW_some] <;> rfl)) | (simp [*, errW_none, errW_some] <;> rfl), xbl⟩
      ·
       rw [if_neg c11] at H
       exact absurd H (by simp)
     ·
      rw [if_neg c10] at H
      exact absurd H (by simp)
def monikerref18_Span.l0 : Nat → Int → Bool → ByteArray → Int → Option (Int)
  | 0, _, _, _, _ => none
  | k + 1, x0, x1, x2, x7 => if x7 < (x2.size : Int) then ((monikerref18_Step.f k x0 x1 x2 x7).bind fun t348 => (if t348 > 0 then ((monikerref18_Step.f k x0 x1 x2 x7).bind fun t349 => (monikerref18_Span.l0 k x0 x1 x2 (wrap64 (x7 + t349)))) else (some x7))) else (some x7)
def monikerref18_Span.f (k : Nat) (a0 : Int) (a1 : Bool) (a2 : ByteArray) : Option (Int) := monikerref18_Span.l0 k a0 a1 a2 0
theorem monikerref18_Span.mono_l : ∀ k, (∀ y0 y1 y2 y3, LeO (monikerref18_Span.l0 k y0 y1 y2 y3) (monikerref18_Span.l0 (k + 1) y0 y1 y2 y3))
  | 0 => fun _ _ _ _ r h => by simp [monikerref18_Span.l0] at h
  | k + 1 => by
    have ih0 := monikerref18_Span.mono_l k
    have m0 := @monikerref18_Step.mono
    · intro y0 y1 y2 y3
      unfold monikerref18_Span.l0
      exact xmo
theorem monikerref18_Span.mono : ∀ a0 a1 a2 k, LeO (monikerref18_Span.f k a0 a1 a2) (monikerref18_Span.f (k + 1) a0 a1 a2) := by
  intro a0 a1 a2 k
  have ih0 := monikerref18_Span.mono_l k
  have m0 := @monikerref18_Step.mono
  unfold monikerref18_Span.f
  exact xmo
set_option maxHeartbeats 8000000 in
set_option maxRecDepth 100000 in
theorem monikerref18_Span.calls (k : Nat) (a0 : Int) (a1 : Bool) (a2 : ByteArray) (r : Int) (w : World) (h : monikerref18_Span.f k a0 a1 a2 = some r) :
    Calls Tryd.prog 32 #[.int .i64 a0, .bool a1, .string a2] w fun e w' => e = .returned (.int .i64 r) ∧ Below w.heap.size w w' := by
 have HB := Aside0.mk (Below.refl w.heap.size w)
 have H : (monikerref18_Span.l0 k a0 a1 a2 0) = some r := h
 clear h
 have H' := Aside0.mk H
 clear H
 go_enter Tryd.func32, Tryd.ntmps32
 go_wp2
 go_loopg [7] k (fun kq v7 w' => ∃ (x7_1 : Int), v7 = .int .i64 x7_1 ∧ Aside0 (monikerref18_Span.l0 kq a0 a1 a2 x7_1 = some r) ∧ Aside0 (kq ≤ k) ∧ Aside0 (Below w.heap.size w w'))
 case atStart => exact ⟨(0), xrr, H', ⟨Nat.le_refl _⟩, ⟨xbl⟩⟩
 case round =>
  clear H'
  obtain ⟨x7_1, rfl, HA, HK1, HB⟩ := hrel
  cases gk with
  | zero => exact absurd HA.out (by simp [monikerref18_Span.l0])
  | succ k1 =>
   have H := HA.out
   clear HA
   simp only [monikerref18_Span.l0] at H
   by_cases c4 : x7_1 < (a2.size : Int)
   ·
    rw [if_pos c4] at H
    have c4b0 := decide_eq_true c4
    clear c4
    replace H := Option.bind_eq_some_iff.mp H
    obtain ⟨t348, A50, H⟩ := H
    try dsimp only at H
    have A5 := Aside0.mk A50
    clear A50
    by_cases c6 : t348 > 0
    ·
     rw [if_pos c6] at H
     have c6b0 := decide_eq_true c6
     clear c6
     replace H := Option.bind_eq_some_iff.mp H
     obtain ⟨t349, A70, H⟩ := H
     try dsimp only at H
     have A7 := Aside0.mk A70
     clear A70
     have H' := Aside0.mk H
     clear H
     go_wp2_with (first | (go_at_call 47; (with_reducible refine (monikerref18_Step.calls k1 a0 a1 a2 x7_1 t348 _ A5.out).mono ?_); rintro e w8 ⟨rfl, hb⟩; replace HB := xst hb; (try clear hb)) | ((with_reducible refine gate_callee (f := 47) rfl ?_); refine xgl 25 Tryd.func47 #[.int .i64 a0, .bool a1, .string a2, .int .i64 x7_1] ?_; (with_reducible refine (monikerref18_Step.calls k1 a0 a1 a2 x7_1 t349 _ A7.out).mono ?_); rintro e w9 ⟨rfl, hb⟩; refine ⟨_, rfl, ?_⟩; replace HB := xst hb; (try clear hb)))
     go_roundg k1
     case measure => have := HK1.out; omega
     case rel => exact ⟨(wrap64 (x7_1 + t349)), xrr, H', ⟨by have := HK1.out; omega⟩, ⟨xbl⟩⟩
    ·
     rw [if_neg c6] at H
     have c6b0 := decide_eq_false c6
     clear c6
     obtain rfl := Option.some.inj H
     go_wp2_with (first | (go_at_call 47; (with_reducible refine (monikerref18_Step.calls k1 a0 a1 a2 x7_1 t348 _ A5.out).mono ?_); rintro e w10 ⟨rfl, hb⟩; replace HB := xst hb; (try clear hb)))
     go_ret
     exact ⟨xre, xbl⟩
   ·
    rw [if_neg c4] at H
    have c4b0 := decide_eq_false c4
    clear c4
    obtain rfl := Option.some.inj H
    go_wp2
    go_ret
    exact ⟨xre, xbl⟩
def monikerref19_Host.j0 : Nat → Bool → ByteArray → Int → Bool → Option (Int)
  | 0, _, _, _, _ => none
  | k + 1, x0, x1, x5, x25 => if x25 = true then (if 1 ≤ (wrap64 (x5 - 1)) then (if (wrap64 (x5 - 1)) ≤ (x1.size : Int) then ((monikerref19_V6.f k (x1.extract 1 ((wrap64 (x5 - 1)) : Int).toNat)).bind fun bt350 => (if bt350.2.2.2.2.2.2.2.2 = true then (some 3) else ((monikerref19_Future.f k (x1.extract 1 ((wrap64 (x5 - 1)) : Int).toNat)).bind fun t360 => (if t360 = true then (some 3) else (some 0))))) else (none)) else (none)) else ((monikerref19_V4.f k x1).bind fun bt361 => (if bt361.2.2.2.2 = true then (some 1) else ((monikerref18_Span.f k 2 x0 x1).bind fun t367 => (if t367 = x5 then (some 2) else (some 0)))))
def monikerref19_Host.f (k : Nat) (a0 : Bool) (a1 : ByteArray) : Option (Int) := if (a1.size : Int) ≥ 2 then (if 0 < (a1.size : Int) then (if (bt a1 0) = 91 then (if 0 ≤ (wrap64 ((a1.size : Int) - 1)) then (if (wrap64 ((a1.size : Int) - 1)) < (a1.size : Int) then (monikerref19_Host.j0 k a0 a1 (a1.size : Int) ((bt a1 (wrap64 ((a1.size : Int) - 1))) == 93)) else (none)) else (none)) else (monikerref19_Host.j0 k a0 a1 (a1.size : Int) false)) else (none)) else (monikerref19_Host.j0 k a0 a1 (a1.size : Int) false)
theorem monikerref19_Host.mono_l : ∀ k, (∀ y0 y1 y2 y3, LeO (monikerref19_Host.j0 k y0 y1 y2 y3) (monikerref19_Host.j0 (k + 1) y0 y1 y2 y3))
  | 0 => fun _ _ _ _ r h => by simp [monikerref19_Host.j0] at h
  | k + 1 => by
    have ih0 := monikerref19_Host.mono_l k
    have m0 := @monikerref18_Span.mono; have m1 := @monikerref19_Future.mono; have m2 := @monikerref19_V4.mono; have m3 := @monikerref19_V6.mono
    · intro y0 y1 y2 y3
      unfold monikerref19_Host.j0
      exact xmo
theorem monikerref19_Host.mono : ∀ a0 a1 k, LeO (monikerref19_Host.f k a0 a1) (monikerref19_Host.f (k + 1) a0 a1) := by
  intro a0 a1 k
  have ih0 := monikerref19_Host.mono_l k
  have m0 := @monikerref18_Span.mono; have m1 := @monikerref19_Future.mono; have m2 := @monikerref19_V4.mono; have m3 := @monikerref19_V6.mono
  unfold monikerref19_Host.f
  exact xmo
set_option maxHeartbeats 8000000 in
set_option maxRecDepth 100000 in
theorem monikerref19_Host.calls (k : Nat) (a0 : Bool) (a1 : ByteArray) (r : Int) (w : World) (h : monikerref19_Host.f k a0 a1 = some r) :
    Calls Tryd.prog 15 #[.bool a0, .string a1] w fun e w' => e = .returned (.int .i64 r) ∧ Below w.heap.size w w' := by
 have hu33 := Tryd.underlying33
 have hu30 := Tryd.underlying30
 have HB := Aside0.mk (Below.refl w.heap.size w)
 have H : (if (a1.size : Int) ≥ 2 then (if 0 < (a1.size : Int) then (if (bt a1 0) = 91 then (if 0 ≤ (wrap64 ((a1.size : Int) - 1)) then (if (wrap64 ((a1.size : Int) - 1)) < (a1.size : Int) then (monikerref19_Host.j0 k a0 a1 (a1.size : Int) ((bt a1 (wrap64 ((a1.size : Int) - 1))) == 93)) else (none)) else (none)) else (monikerref19_Host.j0 k a0 a1 (a1.size : Int) false)) else (none)) else (monikerref19_Host.j0 k a0 a1 (a1.size : Int) false)) = some r := h
 clear h
 have HC3 := Aside0.mk H
 clear H
 go_enter Tryd.func15, Tryd.ntmps15
 go_upto_region 2 with (fail)
 go_cut [25] (fun v25 wc => ∃ (kq : Nat) (x25_2 : Bool), v25 = .bool x25_2 ∧ Aside0 (monikerref19_Host.j0 kq a0 a1 (a1.size : Int) x25_2 = some r) ∧ Aside0 (kq ≤ k) ∧ Aside0 (Below w.heap.size w wc))
 case first =>
  have H := HC3.out
  clear HC3
  by_cases c4 : (a1.size : Int) ≥ 2
  ·
   rw [if_pos c4] at H
   have c4b0 := decide_eq_true c4
   have c4b1 : decide (2 ≤ a1.size) = true := decide_eq_true (by omega)
   clear c4
   (first | rw [c4b0] | (simp only [i64_w, i32_w]; rw [c4b0]) | skip)
   by_cases c5 : 0 < (a1.size : Int)
   ·
    rw [if_pos c5] at H
    have c5b0 := decide_eq_true c5
    have c5b1 : decide (0 < a1.size) = true := decide_eq_true (by omega)
    clear c5
    by_cases c7 : (bt a1 0) = 91
    ·
     rw [if_pos c7] at H
     have c7b0 : ((bt a1 0) == 91) = true := beq_iff_eq.mpr c7
     have c7b1 : ((bt a1 0) != 91) = false := bne_eq_false_iff_eq.mpr c7
     clear c7
     obtain ⟨ji8, hji8⟩ : ∃ j_ : Int, (wrap64 ((a1.size : Int) - 1)) = j_ := ⟨_, rfl⟩
     first | rw [hji8] at H | simp only [hji8] at H | skip
     have hji8w : (IntKind.i64.wrap ((a1.size : Int) - 1)) = ji8 := (i64_w _).trans hji8
     by_cases c9 : 0 ≤ (ji8)
     ·
      rw [if_pos c9] at H
      have c9b0 := decide_eq_true c9
      clear c9
      by_cases c10 : (ji8) < (a1.size : Int)
      ·
       rw [if_pos c10] at H
       have c10b0 := decide_eq_true c10
       clear c10
       have H' := Aside0.mk H
       clear H
       have p6 : 0 ≤ (0 : Int) := (by omega)
       have q6 : 0 < a1.size := (by have : (0 : Int) < (a1.size : Int) := xod; omega)
       have hx6 : ∀ h : 0 < a1.size, ((a1[0]'h).toNat : Int) = bt a1 0 := bt_at a1 0
       clear p6
       have qi6 : (0 < (a1.size : Int)) = True := eq_true (xod)
       replace q6 := eq_true q6
       try (have q6x := q6; simp only [ByteArray.size_extract, Nat.min_self] at q6x)
       have p11 : 0 ≤ ((ji8) : Int) := xod
       have q11 : (ji8) < (a1.size : Int) := xod
       have hx11 := bt_at a1 (ji8)
       replace p11 := eq_true p11
       replace q11 := eq_true q11
       try (have q11x := q11; simp only [ByteArray.size_extract, Nat.min_self] at q11x)
       go_wp2
       go_meet
       case rel => exact ⟨_, (((bt a1 (ji8)) == 93)), (by first | rfl | (simp; done) | (simp only [← hji8] <;> (first | rfl | simp)) | (simp [*]; done) | (simp [wrap64]; done)), H', ⟨xom⟩, ⟨xbl⟩⟩
      ·
       rw [if_neg c10] at H
       exact absurd H (by simp)
     ·
      rw [if_neg c9] at H
      exact absurd H (by simp)
    ·
     rw [if_neg c7] at H
     have c7b0 : ((bt a1 0) == 91) = false := beq_eq_false_iff_ne.mpr c7
     have c7b1 : ((bt a1 0) != 91) = true := bne_iff_ne.mpr c7
     have H' := Aside0.mk H
     clear H
     have p6 : 0 ≤ (0 : Int) := (by omega)
     have q6 : 0 < a1.size := (by have : (0 : Int) < (a1.size : Int) := xod; omega)
     have hx6 : ∀ h : 0 < a1.size, ((a1[0]'h).toNat : Int) = bt a1 0 := bt_at a1 0
     clear p6
     have qi6 : (0 < (a1.size : Int)) = True := eq_true (xod)
     replace q6 := eq_true q6
     try (have q6x := q6; simp only [ByteArray.size_extract, Nat.min_self] at q6x)
     go_wp2
     go_meet
     case rel => exact ⟨_, (false), xrr, H', ⟨xom⟩, ⟨xbl⟩⟩
   ·
    rw [if_neg c5] at H
    exact absurd H (by simp)
  ·
   rw [if_neg c4] at H
   have c4b0 := decide_eq_false c4
   have c4b1 : decide (2 ≤ a1.size) = false := decide_eq_false (by omega)
   clear c4
   (first | rw [c4b0] | (simp only [i64_w, i32_w]; rw [c4b0]) | skip)
   have H' := Aside0.mk H
   clear H
   go_wp2
   go_meet
   case rel => exact ⟨_, (false), xrr, H', ⟨xom⟩, ⟨xbl⟩⟩
 case rest =>
  clear HC3
  obtain ⟨kq, x25_2, rfl, HA, HJ2, HB⟩ := hcut
  cases kq with
  | zero => exact absurd HA.out (by simp [monikerref19_Host.j0])
  | succ kj2 =>
   have H := HA.out
   clear HA
   simp only [monikerref19_Host.j0] at H
   by_cases c12 : x25_2 = true
   ·
    subst c12
    rw [if_pos rfl] at H
    obtain ⟨ji13, hji13⟩ : ∃ j_ : Int, (wrap64 ((a1.size : Int) - 1)) = j_ := ⟨_, rfl⟩
    first | rw [hji13] at H | simp only [hji13] at H | skip
    have hji13w : (IntKind.i64.wrap ((a1.size : Int) - 1)) = ji13 := (i64_w _).trans hji13
    by_cases c14 : 1 ≤ (ji13)
    ·
     rw [if_pos c14] at H
     have c14b0 := eq_true c14
     have c14b1 := decide_eq_true c14
     clear c14
     by_cases c15 : (ji13) ≤ (a1.size : Int)
     ·
      rw [if_pos c15] at H
      have c15b0 := eq_true c15
      have c15b1 := decide_eq_true c15
      clear c15
      obtain ⟨ji16, hji16⟩ : ∃ j_ : ByteArray, (a1.extract 1 ((ji13) : Int).toNat) = j_ := ⟨_, rfl⟩
      try (have hji16x := hji16; simp only [Int.toNat_natCast, Int.toNat_ofNat] at hji16x)
      first | rw [hji16] at H | simp only [hji16] at H | skip
      replace H := Option.bind_eq_some_iff.mp H
      obtain ⟨⟨t350, t351, t352, t353, t354, t355, t356, t357, t358⟩, A170, H⟩ := H
      try dsimp only at H
      have A17 := Aside0.mk A170
      clear A170
      by_cases c18 : t358 = true
      ·
       subst c18
       rw [if_pos rfl] at H
       obtain rfl := Option.some.inj H
       go_wp2_with (first | ((with_reducible refine gate_callee (f := 11) rfl ?_); refine goesL_ (some 31) rfl rfl Tryd.func11 (by kernel_rfl) rfl #[.string ji16] rfl (by (try simp only [List.map_toArray, List.map_cons, List.map_nil]); first | done | (simp only [hji16]; rfl) | rfl | (simp only [List.length_drop, List.length_take]; rfl)) ?_; (with_reducible refine (monikerref19_V6.calls kj2 ji16 t350 t351 t352 t353 t354 t355 t356 t357 true _ A17.out).mono ?_); rintro e w19 ⟨rfl, hb⟩; refine ⟨_, rfl, ?_⟩; replace HB := xst hb; (try clear hb)) | ((with_reducible refine gate_dst (N := 6) rfl ?_); refine xev 6 #[.int .i64 0, .int .i64 0, .int .i64 0, .int .i64 0, .int .i64 0, .int .i64 0, .int .i64 0, .int .i64 0] 33 ?_; intro gb359 hg w20 hbox hb; have BK359 := Aside0.mk (hbox); have GW359 := xsz hg; have GE359 := GW359; replace HB := xst hb; clear hb hbox hg; obtain ⟨hcz21_0, hcz21_1, hcz21_2, hcz21_3, hcz21_4, hcz21_5, hcz21_6, hcz21_7⟩ := xc8 BK359; have hfz21_0 := xf BK359 0; have hfz21_1 := xf BK359 1; have hfz21_2 := xf BK359 2; have hfz21_3 := xf BK359 3; have hfz21_4 := xf BK359 4; have hfz21_5 := xf BK359 5; have hfz21_6 := xf BK359 6; have hfz21_7 := xf BK359 7))
       go_ret
       exact ⟨by first | rfl | (simp [errW_none, errW_some] <;> first | rfl | (simp only [xp_isEmpty, bne, Bool.not_not]; done)) | (simp only [← hji13, ← hji16]; first | rfl | (simp [errW_none, errW_some] <;> rfl)) | (simp [*, errW_none, errW_some] <;> rfl), xbl⟩
      ·
       replace c18 := Bool.eq_false_iff.mpr c18
       subst c18
       rw [if_neg (show ¬ (false = true) by decide)] at H
       have c22b0 := eq_true (xod : 1 ≤ (ji13))
       have c23b0 := eq_true (xod : (ji13) ≤ (a1.size : Int))
       first | rw [hji16] at H | simp only [hji16] at H | skip
       (try rw [hji16] at A17)
       replace H := Option.bind_eq_some_iff.mp H
       obtain ⟨t360, A240, H⟩ := H
       try dsimp only at H
       have A24 := Aside0.mk A240
       clear A240
       by_cases c25 : t360 = true
       ·
        subst c25
        rw [if_pos rfl] at H
        obtain rfl := Option.some.inj H
        go_wp2_with (first | ((with_reducible refine gate_callee (f := 11) rfl ?_); refine goesL_ (some 31) rfl rfl Tryd.func11 (by kernel_rfl) rfl #[.string ji16] rfl (by (try simp only [List.map_toArray, List.map_cons, List.map_nil]); first | done | (simp only [hji16]; rfl) | rfl | (simp only [List.length_drop, List.length_take]; rfl)) ?_; (with_reducible refine (monikerref19_V6.calls kj2 ji16 t350 t351 t352 t353 t354 t355 t356 t357 false _ A17.out).mono ?_); rintro e w26 ⟨rfl, hb⟩; refine ⟨_, rfl, ?_⟩; replace HB := xst hb; (try clear hb)) | ((with_reducible refine gate_dst (N := 6) rfl ?_); refine xev 6 #[.int .i64 0, .int .i64 0, .int .i64 0, .int .i64 0, .int .i64 0, .int .i64 0, .int .i64 0, .int .i64 0] 33 ?_; intro gb359 hg w27 hbox hb; have BK359 := Aside0.mk (hbox); have GW359 := xsz hg; have GE359 := GW359; replace HB := xst hb; clear hb hbox hg; obtain ⟨hcz28_0, hcz28_1, hcz28_2, hcz28_3, hcz28_4, hcz28_5, hcz28_6, hcz28_7⟩ := xc8 BK359; have hfz28_0 := xf BK359 0; have hfz28_1 := xf BK359 1; have hfz28_2 := xf BK359 2; have hfz28_3 := xf BK359 3; have hfz28_4 := xf BK359 4; have hfz28_5 := xf BK359 5; have hfz28_6 := xf BK359 6; have hfz28_7 := xf BK359 7) | (go_at_call 13; (with_reducible refine (monikerref19_Future.calls kj2 ji16 true _ A24.out).mono ?_); rintro e w' ⟨rfl, ⟨nd, rfl⟩⟩))
        go_ret
        exact ⟨by first | rfl | (simp [errW_none, errW_some] <;> first | rfl | (simp only [xp_isEmpty, bne, Bool.not_not]; done)) | (simp only [← hji13, ← hji16, ← hji16]; first | rfl | (simp [errW_none, errW_some] <;> rfl)) | (simp [*, errW_none, errW_some] <;> rfl), xbl⟩
       ·
        replace c25 := Bool.eq_false_iff.mpr c25
        subst c25
        rw [if_neg (show ¬ (false = true) by decide)] at H
        obtain rfl := Option.some.inj H
        go_wp2_with (first | ((with_reducible refine gate_callee (f := 11) rfl ?_); refine goesL_ (some 31) rfl rfl Tryd.func11 (by kernel_rfl) rfl #[.string ji16] rfl (by (try simp only [List.map_toArray, List.map_cons, List.map_nil]); first | done | (simp only [hji16]; rfl) | rfl | (simp only [List.length_drop, List.length_take]; rfl)) ?_; (with_reducible refine (monikerref19_V6.calls kj2 ji16 t350 t351 t352 t353 t354 t355 t356 t357 false _ A17.out).mono ?_); rintro e w29 ⟨rfl, hb⟩; refine ⟨_, rfl, ?_⟩; replace HB := xst hb; (try clear hb)) | ((with_reducible refine gate_dst (N := 6) rfl ?_); refine xev 6 #[.int .i64 0, .int .i64 0, .int .i64 0, .int .i64 0, .int .i64 0, .int .i64 0, .int .i64 0, .int .i64 0] 33 ?_; intro gb359 hg w30 hbox hb; have BK359 := Aside0.mk (hbox); have GW359 := xsz hg; have GE359 := GW359; replace HB := xst hb; clear hb hbox hg; obtain ⟨hcz31_0, hcz31_1, hcz31_2, hcz31_3, hcz31_4, hcz31_5, hcz31_6, hcz31_7⟩ := xc8 BK359; have hfz31_0 := xf BK359 0; have hfz31_1 := xf BK359 1; have hfz31_2 := xf BK359 2; have hfz31_3 := xf BK359 3; have hfz31_4 := xf BK359 4; have hfz31_5 := xf BK359 5; have hfz31_6 := xf BK359 6; have hfz31_7 := xf BK359 7) | (go_at_call 13; (with_reducible refine (monikerref19_Future.calls kj2 ji16 false _ A24.out).mono ?_); rintro e w' ⟨rfl, ⟨nd, rfl⟩⟩))
        go_ret
        exact ⟨by first | rfl | (simp [errW_none, errW_some] <;> first | rfl | (simp only [xp_isEmpty, bne, Bool.not_not]; done)) | (simp only [← hji13, ← hji16, ← hji16]; first | rfl | (simp [errW_none, errW_some] <;> rfl)) | (simp [*, errW_none, errW_some] <;> rfl), xbl⟩
     ·
      rw [if_neg c15] at H
      exact absurd H (by simp)
    ·
     rw [if_neg c14] at H
     exact absurd H (by simp)
   ·
    replace c12 := Bool.eq_false_iff.mpr c12
    subst c12
    rw [if_neg (show ¬ (false = true) by decide)] at H
    replace H := Option.bind_eq_some_iff.mp H
    obtain ⟨⟨t361, t362, t363, t364, t365⟩, A320, H⟩ := H
    try dsimp only at H
    have A32 := Aside0.mk A320
    clear A320
    by_cases c33 : t365 = true
    ·
     subst c33
     rw [if_pos rfl] at H
     obtain rfl := Option.some.inj H
     go_wp2_with (first | ((with_reducible refine gate_callee (f := 10) rfl ?_); refine xgl 44 Tryd.func10 #[.string a1] ?_; (with_reducible refine (monikerref19_V4.calls kj2 a1 t361 t362 t363 t364 true _ A32.out).mono ?_); rintro e w34 ⟨rfl, hb⟩; refine ⟨_, rfl, ?_⟩; replace HB := xst hb; (try clear hb)) | ((with_reducible refine gate_dst (N := 8) rfl ?_); refine xev 8 #[.int .i64 0, .int .i64 0, .int .i64 0, .int .i64 0] 30 ?_; intro gb366 hg w35 hbox hb; have BK366 := Aside0.mk (hbox); have GW366 := xsz hg; have GE366 := GW366; replace HB := xst hb; clear hb hbox hg; obtain ⟨hcz36_0, hcz36_1, hcz36_2, hcz36_3⟩ := xc4 BK366; have hfz36_0 := xf BK366 0; have hfz36_1 := xf BK366 1; have hfz36_2 := xf BK366 2; have hfz36_3 := xf BK366 3))
     go_ret
     exact ⟨xre, xbl⟩
    ·
     replace c33 := Bool.eq_false_iff.mpr c33
     subst c33
     rw [if_neg (show ¬ (false = true) by decide)] at H
     replace H := Option.bind_eq_some_iff.mp H
     obtain ⟨t367, A370, H⟩ := H
     try dsimp only at H
     have A37 := Aside0.mk A370
     clear A370
     by_cases c38 : t367 = (a1.size : Int)
     ·
      rw [if_pos c38] at H
      have c38b0 : (t367 == (a1.size : Int)) = true := beq_iff_eq.mpr c38
      have c38b1 : (t367 != (a1.size : Int)) = false := bne_eq_false_iff_eq.mpr c38
      clear c38
      obtain rfl := Option.some.inj H
      go_wp2_with (first | ((with_reducible refine gate_callee (f := 10) rfl ?_); refine xgl 44 Tryd.func10 #[.string a1] ?_; (with_reducible refine (monikerref19_V4.calls kj2 a1 t361 t362 t363 t364 false _ A32.out).mono ?_); rintro e w39 ⟨rfl, hb⟩; refine ⟨_, rfl, ?_⟩; replace HB := xst hb; (try clear hb)) | ((with_reducible refine gate_dst (N := 8) rfl ?_); refine xev 8 #[.int .i64 0, .int .i64 0, .int .i64 0, .int .i64 0] 30 ?_; intro gb366 hg w40 hbox hb; have BK366 := Aside0.mk (hbox); have GW366 := xsz hg; have GE366 := GW366; replace HB := xst hb; clear hb hbox hg; obtain ⟨hcz41_0, hcz41_1, hcz41_2, hcz41_3⟩ := xc4 BK366; have hfz41_0 := xf BK366 0; have hfz41_1 := xf BK366 1; have hfz41_2 := xf BK366 2; have hfz41_3 := xf BK366 3) | ((with_reducible refine gate_callee (f := 32) rfl ?_); refine xgl 50 Tryd.func32 #[.int .i64 2, .bool a0, .string a1] ?_; (with_reducible refine (monikerref18_Span.calls kj2 2 a0 a1 t367 _ A37.out).mono ?_); rintro e w42 ⟨rfl, hb⟩; refine ⟨_, rfl, ?_⟩; replace BK366 := xbb (g := gb366) (o := .cells #[.int .i64 t361, .int .i64 t362, .int .i64 t363, .int .i64 t364] 30 (0, 0)) hb; replace HB := xst hb; (try clear hb)))
      go_ret
      exact ⟨xre, xbl⟩
     ·
      rw [if_neg c38] at H
      have c38b0 : (t367 == (a1.size : Int)) = false := beq_eq_false_iff_ne.mpr c38
      have c38b1 : (t367 != (a1.size : Int)) = true := bne_iff_ne.mpr c38
      obtain rfl := Option.some.inj H
      go_wp2_with (first | ((with_reducible refine gate_callee (f := 10) rfl ?_); refine xgl 44 Tryd.func10 #[.string a1] ?_; (with_reducible refine (monikerref19_V4.calls kj2 a1 t361 t362 t363 t364 false _ A32.out).mono ?_); rintro e w43 ⟨rfl, hb⟩; refine ⟨_, rfl, ?_⟩; replace HB := xst hb; (try clear hb)) | ((with_reducible refine gate_dst (N := 8) rfl ?_); refine xev 8 #[.int .i64 0, .int .i64 0, .int .i64 0, .int .i64 0] 30 ?_; intro gb366 hg w44 hbox hb; have BK366 := Aside0.mk (hbox); have GW366 := xsz hg; have GE366 := GW366; replace HB := xst hb; clear hb hbox hg; obtain ⟨hcz45_0, hcz45_1, hcz45_2, hcz45_3⟩ := xc4 BK366; have hfz45_0 := xf BK366 0; have hfz45_1 := xf BK366 1; have hfz45_2 := xf BK366 2; have hfz45_3 := xf BK366 3) | ((with_reducible refine gate_callee (f := 32) rfl ?_); refine xgl 50 Tryd.func32 #[.int .i64 2, .bool a0, .string a1] ?_; (with_reducible refine (monikerref18_Span.calls kj2 2 a0 a1 t367 _ A37.out).mono ?_); rintro e w46 ⟨rfl, hb⟩; refine ⟨_, rfl, ?_⟩; replace BK366 := xbb (g := gb366) (o := .cells #[.int .i64 t361, .int .i64 t362, .int .i64 t363, .int .i64 t364] 30 (0, 0)) hb; replace HB := xst hb; (try clear hb)))
      go_ret
      exact ⟨xre, xbl⟩
def monikerlaw19_IpHosts.f (k : Nat) (a0 : ByteArray) : Option (Bool) := if (a0.size : Int) > 80 then ((monikerlaw19_awake.f k).bind fun t368 => (some t368)) else ((ip_Host.f k false a0).bind fun t369 => ((monikerref19_Host.f k false a0).bind fun t370 => (if t369 = t370 then ((ip_Host.f k true a0).bind fun t371 => ((monikerref19_Host.f k true a0).bind fun t372 => (if t371 = t372 then ((monikerlaw19_awake.f k).bind fun t373 => (some t373)) else (some false)))) else (some false))))
theorem monikerlaw19_IpHosts.mono : ∀ a0 k, LeO (monikerlaw19_IpHosts.f k a0) (monikerlaw19_IpHosts.f (k + 1) a0) := by
  intro a0 k
  have m0 := @ip_Host.mono; have m1 := @monikerlaw19_awake.mono; have m2 := @monikerref19_Host.mono
  unfold monikerlaw19_IpHosts.f
  exact xmo
set_option maxHeartbeats 8000000 in
set_option maxRecDepth 100000 in
theorem monikerlaw19_IpHosts.calls (k : Nat) (a0 : ByteArray) (r : Bool) (w : World) (hG : GW w) (h : monikerlaw19_IpHosts.f k a0 = some r) :
    Calls Tryd.prog 4 #[.string a0] w fun e w' => e = .returned (.bool r) ∧ Below w.heap.size w w' := by
 have HB := Aside0.mk (Below.refl w.heap.size w)
 have H : (if (a0.size : Int) > 80 then ((monikerlaw19_awake.f k).bind fun t368 => (some t368)) else ((ip_Host.f k false a0).bind fun t369 => ((monikerref19_Host.f k false a0).bind fun t370 => (if t369 = t370 then ((ip_Host.f k true a0).bind fun t371 => ((monikerref19_Host.f k true a0).bind fun t372 => (if t371 = t372 then ((monikerlaw19_awake.f k).bind fun t373 => (some t373)) else (some false)))) else (some false))))) = some r := h
 clear h
 by_cases c2 : (a0.size : Int) > 80
 ·
  rw [if_pos c2] at H
  have c2b0 := decide_eq_true c2
  have c2b1 : decide (80 < a0.size) = true := decide_eq_true (by omega)
  clear c2
  replace H := Option.bind_eq_some_iff.mp H
  obtain ⟨t368, A30, H⟩ := H
  try dsimp only at H
  have A3 := Aside0.mk A30
  clear A30
  obtain rfl := Option.some.inj H
  go_enter Tryd.func4, Tryd.ntmps4
  go_wp2_with (first | ((with_reducible refine gate_callee (f := 7) rfl ?_); refine xgl 6 Tryd.func7 #[] ?_; (with_reducible refine (monikerlaw19_awake.calls k  t368 _ ?side1 A3.out).mono ?_); (case side1 => first | (with_reducible exact hG) | exact GW_to hG xbl); rintro e w4 ⟨rfl, hb⟩; refine ⟨_, rfl, ?_⟩; replace HB := xst hb; (try clear hb)))
  go_ret
  exact ⟨xre, xbl⟩
 ·
  rw [if_neg c2] at H
  have c2b0 := decide_eq_false c2
  have c2b1 : decide (80 < a0.size) = false := decide_eq_false (by omega)
  clear c2
  replace H := Option.bind_eq_some_iff.mp H
  obtain ⟨t369, A50, H⟩ := H
  try dsimp only at H
  have A5 := Aside0.mk A50
  clear A50
  replace H := Option.bind_eq_some_iff.mp H
  obtain ⟨t370, A60, H⟩ := H
  try dsimp only at H
  have A6 := Aside0.mk A60
  clear A60
  by_cases c7 : t369 = t370
  ·
   rw [if_pos c7] at H
   have c7b0 : (t369 == t370) = true := beq_iff_eq.mpr c7
   have c7b1 : (t369 != t370) = false := bne_eq_false_iff_eq.mpr c7
   clear c7
   replace H := Option.bind_eq_some_iff.mp H
   obtain ⟨t371, A80, H⟩ := H
   try dsimp only at H
   have A8 := Aside0.mk A80
   clear A80
   replace H := Option.bind_eq_some_iff.mp H
   obtain ⟨t372, A90, H⟩ := H
   try dsimp only at H
   have A9 := Aside0.mk A90
   clear A90
   by_cases c10 : t371 = t372
   ·
    rw [if_pos c10] at H
    have c10b0 : (t371 == t372) = true := beq_iff_eq.mpr c10
    have c10b1 : (t371 != t372) = false := bne_eq_false_iff_eq.mpr c10
    clear c10
    replace H := Option.bind_eq_some_iff.mp H
    obtain ⟨t373, A110, H⟩ := H
    try dsimp only at H
    have A11 := Aside0.mk A110
    clear A110
    obtain rfl := Option.some.inj H
    go_enter Tryd.func4, Tryd.ntmps4
    go_wp2_with (first | ((with_reducible refine gate_callee (f := 14) rfl ?_); refine xgl 8 Tryd.func14 #[.bool false, .string a0] ?_; (with_reducible refine (ip_Host.calls k false a0 t369 _ ?side1 A5.out).mono ?_); (case side1 => first | (with_reducible exact hG) | exact GW_to hG xbl); rintro e w12 ⟨rfl, hb⟩; refine ⟨_, rfl, ?_⟩; replace HB := xst hb; (try clear hb)) | ((with_reducible refine gate_callee (f := 15) rfl ?_); refine xgl 10 Tryd.func15 #[.bool false, .string a0] ?_; (with_reducible refine (monikerref19_Host.calls k false a0 t370 _ A6.out).mono ?_); rintro e w13 ⟨rfl, hb⟩; refine ⟨_, rfl, ?_⟩; replace HB := xst hb; (try clear hb)) | (go_at_call 14; (with_reducible refine (ip_Host.calls k true a0 t371 _ ?side1 A8.out).mono ?_); (case side1 => first | (with_reducible exact hG) | exact GW_to hG xbl); rintro e w14 ⟨rfl, hb⟩; replace HB := xst hb; (try clear hb)) | (go_at_call 15; (with_reducible refine (monikerref19_Host.calls k true a0 t372 _ A9.out).mono ?_); rintro e w15 ⟨rfl, hb⟩; replace HB := xst hb; (try clear hb)) | (go_at_call 7; (with_reducible refine (monikerlaw19_awake.calls k  t373 _ ?side1 A11.out).mono ?_); (case side1 => first | (with_reducible exact hG) | exact GW_to hG xbl); rintro e w16 ⟨rfl, hb⟩; replace HB := xst hb; (try clear hb)))
    go_ret
    exact ⟨xre, xbl⟩
   ·
    rw [if_neg c10] at H
    have c10b0 : (t371 == t372) = false := beq_eq_false_iff_ne.mpr c10
    have c10b1 : (t371 != t372) = true := bne_iff_ne.mpr c10
    obtain rfl := Option.some.inj H
    go_enter Tryd.func4, Tryd.ntmps4
    go_wp2_with (first | ((with_reducible refine gate_callee (f := 14) rfl ?_); refine xgl 8 Tryd.func14 #[.bool false, .string a0] ?_; (with_reducible refine (ip_Host.calls k false a0 t369 _ ?side1 A5.out).mono ?_); (case side1 => first | (with_reducible exact hG) | exact GW_to hG xbl); rintro e w17 ⟨rfl, hb⟩; refine ⟨_, rfl, ?_⟩; replace HB := xst hb; (try clear hb)) | ((with_reducible refine gate_callee (f := 15) rfl ?_); refine xgl 10 Tryd.func15 #[.bool false, .string a0] ?_; (with_reducible refine (monikerref19_Host.calls k false a0 t370 _ A6.out).mono ?_); rintro e w18 ⟨rfl, hb⟩; refine ⟨_, rfl, ?_⟩; replace HB := xst hb; (try clear hb)) | (go_at_call 14; (with_reducible refine (ip_Host.calls k true a0 t371 _ ?side1 A8.out).mono ?_); (case side1 => first | (with_reducible exact hG) | exact GW_to hG xbl); rintro e w19 ⟨rfl, hb⟩; replace HB := xst hb; (try clear hb)) | (go_at_call 15; (with_reducible refine (monikerref19_Host.calls k true a0 t372 _ A9.out).mono ?_); rintro e w20 ⟨rfl, hb⟩; replace HB := xst hb; (try clear hb)))
    go_ret
    exact ⟨xre, xbl⟩
  ·
   rw [if_neg c7] at H
   have c7b0 : (t369 == t370) = false := beq_eq_false_iff_ne.mpr c7
   have c7b1 : (t369 != t370) = true := bne_iff_ne.mpr c7
   obtain rfl := Option.some.inj H
   go_enter Tryd.func4, Tryd.ntmps4
   go_wp2_with (first | ((with_reducible refine gate_callee (f := 14) rfl ?_); refine xgl 8 Tryd.func14 #[.bool false, .string a0] ?_; (with_reducible refine (ip_Host.calls k false a0 t369 _ ?side1 A5.out).mono ?_); (case side1 => first | (with_reducible exact hG) | exact GW_to hG xbl); rintro e w21 ⟨rfl, hb⟩; refine ⟨_, rfl, ?_⟩; replace HB := xst hb; (try clear hb)) | ((with_reducible refine gate_callee (f := 15) rfl ?_); refine xgl 10 Tryd.func15 #[.bool false, .string a0] ?_; (with_reducible refine (monikerref19_Host.calls k false a0 t370 _ A6.out).mono ?_); rintro e w22 ⟨rfl, hb⟩; refine ⟨_, rfl, ?_⟩; replace HB := xst hb; (try clear hb)))
   go_ret
   exact ⟨xre, xbl⟩
def monikerlaw19_IpHosts.Pure : Prop := ∀ (a0 : ByteArray), a0.size ≤ 140737488351232 → ∃ k, monikerlaw19_IpHosts.f k a0 = some true
end Go.Proofs.YticohlbfolnmpaaDoor.X
namespace Go.Proofs.YticohlbfolnmpaaDoor.Y
open Go.RowKit Go.Proofs.YticohlbfolnmpaaDoor.X Go.Proofs.YticohlbfolnmpaaDoor.M Go.Proofs.YticohlbfolnmpaaDoorW.PrintWords Go.Proofs.YticohlbfolnmpaaDoorW.PrintLast Go.Proofs.YticohlbfolnmpaaDoorW.PrintMore
set_option linter.unusedVariables false
theorem extra_f (p : Int) : ∃ t, lexis_extra.f p = some (t, place p) := by
  unfold lexis_extra.f place
  by_cases h1 : p = 1
  · subst h1; exact ⟨_, rfl⟩
  by_cases h2 : p = 2
  · subst h2; exact ⟨_, rfl⟩
  by_cases h3 : p = 3
  · subst h3; exact ⟨_, rfl⟩
  by_cases h4 : p = 4
  · subst h4; exact ⟨_, rfl⟩
  by_cases h5 : p = 5
  · subst h5; exact ⟨_, rfl⟩
  by_cases h6 : p = 6
  · subst h6; exact ⟨_, rfl⟩
  by_cases h7 : p = 7
  · subst h7; exact ⟨_, rfl⟩
  · rw [if_neg h1, if_neg h2, if_neg h3, if_neg h4, if_neg h5, if_neg h6, if_neg h7]
    exact ⟨_, by rw [decide_eq_false (by omega)]⟩
theorem place_all {q : Int → Prop} (h : ∀ n : Fin 7, q ((n.val : Nat) + 1 : Int)) {p : Int} (hp : place p = true) : q p := by
  have hp : 1 ≤ p ∧ p ≤ 7 := by simpa [place] using hp
  have := h ⟨(p - 1).toNat, by omega⟩
  simp only at this
  rwa [Int.toNat_of_nonneg (by omega), show p - 1 + 1 = p by omega] at this
theorem plain_f {p b : Int} (h0 : 0 ≤ b) (h1 : b ≤ 255) : Ev (fun k => lexis_Plain.f k p b) (plainAt p b) := by
  by_cases hp : place p = true
  · refine Ev.of (fun k => lexis_Plain.mono p b k) (k := 20) ?_
    refine place_all (q := fun p => lexis_Plain.f 20 p b = some (plainAt p b)) ?_ hp
    intro n
    exact byte_all (p := fun b => lexis_Plain.f 20 ((n.val : Nat) + 1 : Int) b = some (plainAt ((n.val : Nat) + 1 : Int) b)) (by revert n; decide +kernel) h0 h1
  · unfold lexis_Plain.f plainAt
    obtain ⟨t, e⟩ := extra_f p
    refine Ev.pure_bind e ?_
    rw [Bool.not_eq_true] at hp
    rw [hp]
    exact Ev.ite_neg (by simp) (Ev.now _)
theorem bytes_from (s : ByteArray) (i : Nat) : bytesOf (s.extract i s.size) = (bytesOf s).drop i := by
  rw [bytes_extract, ← bytes_len, List.take_length]
end Go.Proofs.YticohlbfolnmpaaDoor.Y
