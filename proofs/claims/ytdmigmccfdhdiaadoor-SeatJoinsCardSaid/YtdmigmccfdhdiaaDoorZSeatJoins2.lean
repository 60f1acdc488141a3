/- Texts that the law's proof needs, joined by a program of this session. -/
import Derived.Test.YtdmigmccfdhdiaaDoorZSeatJoins1
namespace Go.Proofs.YtdmigmccfdhdiaaDoor.X
open Go.RowKit Go.Proofs.YtdmigmccfdhdiaaDoorW.PrintWords Go.Proofs.YtdmigmccfdhdiaaDoorW.PrintLast Go.Proofs.YtdmigmccfdhdiaaDoorW.PrintMore
attribute [local go_sem] max2_int min2_int max_two min_two max_three min_three max_four min_four
set_option linter.unusedVariables false
set_option linter.unusedSimpArgs false
attribute [local go_sem high] eqA24
def seat_Part.f (k : Nat) (a0 : ByteArray) : Option (Bool × ByteArray × ByteArray × Bool × ByteArray) := (strings_LastIndexByte.f k a0 64).bind fun t110 => (if t110 ≥ 0 then (if 0 ≤ t110 then (if t110 ≤ (a0.size : Int) then (if 0 ≤ (wrap64 (t110 + 1)) then (if (wrap64 (t110 + 1)) ≤ (a0.size : Int) then ((seat_host.f k (a0.extract ((wrap64 (t110 + 1)) : Int).toNat a0.size)).bind fun bt111 => (if bt111.2.toList = ([] : List UInt8) then (some (true, a0.extract 0 (t110 : Int).toNat, bt111.1, false, (⟨#[]⟩ : ByteArray))) else (if 1 ≤ (bt111.2.size : Int) then (some (true, a0.extract 0 (t110 : Int).toNat, bt111.1, true, bt111.2.extract 1 bt111.2.size)) else (none)))) else (none)) else (none)) else (none)) else (none)) else ((seat_host.f k a0).bind fun bt113 => (if bt113.2.toList = ([] : List UInt8) then (some (false, (⟨#[]⟩ : ByteArray), bt113.1, false, (⟨#[]⟩ : ByteArray))) else (if 1 ≤ (bt113.2.size : Int) then (some (false, (⟨#[]⟩ : ByteArray), bt113.1, true, bt113.2.extract 1 bt113.2.size)) else (none)))))
theorem seat_Part.mono : ∀ a0 k, LeO (seat_Part.f k a0) (seat_Part.f (k + 1) a0) := by
  intro a0 k
  have m0 := @seat_host.mono; have m1 := @strings_LastIndexByte.mono
  unfold seat_Part.f
  exact xmo
def seat_Part.T4 : Bool × List (List Nat × List Nat) := (true, [([], []), ([], []), ([0, 1], [0, 1]), ([], []), ([], []), ([4], [4]), ([3, 5], [3, 5]), ([], []), ([7], [7]), ([0, 1, 2, 7, 8], []), ([9, 2, 8, 0, 1, 2, 7, 8], [2, 9]), ([6, 10, 0, 1, 2, 3, 4, 5, 6, 7, 8, 9, 10], [0, 3, 6])])
def seat_Part.B4 : List Nat := [0, 0, 3, 0, 0, 16, 56, 0, 128, 391, 903, 2047]
theorem seat_Part.tab4 : rtab .any (opsOf Tryd.f12 4) = seat_Part.T4 := by kernel_rfl
theorem seat_Part.bits4 : waitsOk seat_Part.T4.2 seat_Part.B4 = true := by kernel_rfl
set_option maxHeartbeats 8000000 in
set_option maxRecDepth 100000 in
theorem seat_Part.calls (k : Nat) (a0 : ByteArray) (r1 : Bool) (r2 : ByteArray) (r3 : ByteArray) (r4 : Bool) (r5 : ByteArray) (w : World) (h : seat_Part.f k a0 = some (r1, r2, r3, r4, r5)) :
    Calls Tryd.prog 12 #[.string a0] w fun e w' => e = .returned (.agg #[.bool r1, .string r2, .string r3, .bool r4, .string r5]) ∧ Below w.heap.size w w' := by
 have hu24 := Tryd.underlying24
 have HB := Aside0.mk (Below.refl w.heap.size w)
 have H : ((strings_LastIndexByte.f k a0 64).bind fun t110 => (if t110 ≥ 0 then (if 0 ≤ t110 then (if t110 ≤ (a0.size : Int) then (if 0 ≤ (wrap64 (t110 + 1)) then (if (wrap64 (t110 + 1)) ≤ (a0.size : Int) then ((seat_host.f k (a0.extract ((wrap64 (t110 + 1)) : Int).toNat a0.size)).bind fun bt111 => (if bt111.2.toList = ([] : List UInt8) then (some (true, a0.extract 0 (t110 : Int).toNat, bt111.1, false, (⟨#[]⟩ : ByteArray))) else (if 1 ≤ (bt111.2.size : Int) then (some (true, a0.extract 0 (t110 : Int).toNat, bt111.1, true, bt111.2.extract 1 bt111.2.size)) else (none)))) else (none)) else (none)) else (none)) else (none)) else ((seat_host.f k a0).bind fun bt113 => (if bt113.2.toList = ([] : List UInt8) then (some (false, (⟨#[]⟩ : ByteArray), bt113.1, false, (⟨#[]⟩ : ByteArray))) else (if 1 ≤ (bt113.2.size : Int) then (some (false, (⟨#[]⟩ : ByteArray), bt113.1, true, bt113.2.extract 1 bt113.2.size)) else (none)))))) = some (r1, r2, r3, r4, r5) := h
 clear h
 replace H := Option.bind_eq_some_iff.mp H
 obtain ⟨t110, A20, H⟩ := H
 try dsimp only at H
 have A2 := Aside0.mk A20
 clear A20
 by_cases c3 : t110 ≥ 0
 ·
  rw [if_pos c3] at H
  have c3b0 := decide_eq_true c3
  clear c3
  by_cases c4 : 0 ≤ t110
  ·
   rw [if_pos c4] at H
   have c4b0 := eq_true c4
   have c4b1 := decide_eq_true c4
   clear c4
   by_cases c5 : t110 ≤ (a0.size : Int)
   ·
    rw [if_pos c5] at H
    have c5b0 := eq_true c5
    have c5b1 := decide_eq_true c5
    clear c5
    obtain ⟨ji6, hji6⟩ : ∃ j_ : ByteArray, (a0.extract 0 (t110 : Int).toNat) = j_ := ⟨_, rfl⟩
    try (have hji6x := hji6; simp only [Int.toNat_natCast, Int.toNat_ofNat] at hji6x)
    first | rw [hji6] at H | simp only [hji6] at H | skip
    (try rw [hji6] at A2)
    obtain ⟨ji7, hji7⟩ : ∃ j_ : Int, (wrap64 (t110 + 1)) = j_ := ⟨_, rfl⟩
    first | rw [hji7] at H | simp only [hji7] at H | skip
    (try rw [hji7] at A2)
    have hji7w : (IntKind.i64.wrap (t110 + 1)) = ji7 := (i64_w _).trans hji7
    by_cases c8 : 0 ≤ (ji7)
    ·
     rw [if_pos c8] at H
     have c8b0 := eq_true c8
     have c8b1 := decide_eq_true c8
     clear c8
     by_cases c9 : (ji7) ≤ (a0.size : Int)
     ·
      rw [if_pos c9] at H
      have c9b0 := eq_true c9
      have c9b1 := decide_eq_true c9
      clear c9
      obtain ⟨ji10, hji10⟩ : ∃ j_ : ByteArray, (a0.extract ((ji7) : Int).toNat a0.size) = j_ := ⟨_, rfl⟩
      try (have hji10x := hji10; simp only [Int.toNat_natCast, Int.toNat_ofNat] at hji10x)
      first | rw [hji10] at H | simp only [hji10] at H | skip
      (try rw [hji10] at A2)
      replace H := Option.bind_eq_some_iff.mp H
      obtain ⟨⟨t111, t112⟩, A110, H⟩ := H
      try dsimp only at H
      have A11 := Aside0.mk A110
      clear A110
      by_cases c12 : t112.toList = ([] : List UInt8)
      ·
       rw [if_pos c12] at H
       have c12b0 : (t112.toList == ([] : List UInt8)) = true := beq_iff_eq.mpr c12
       have c12b1 : (t112.toList != ([] : List UInt8)) = false := bne_eq_false_iff_eq.mpr c12
       clear c12
       simp only [Option.some.injEq, Prod.mk.injEq] at H
       obtain ⟨rfl, rfl, rfl, rfl, rfl⟩ := H
       go_enter Tryd.func12, Tryd.ntmps12
       try go_wp2_with (first | ((with_reducible refine gate_dst (N := 2) rfl ?_); refine xev 2 #[.bool false, .string (⟨#[]⟩ : ByteArray), .string (⟨#[]⟩ : ByteArray), .bool false, .string (⟨#[]⟩ : ByteArray)] 24 ?_; intro gb108 hg w13 hbox hb; have BK108 := Aside0.mk (hbox); have GW108 := xsz hg; have GE108 := GW108; replace HB := xst hb; clear hb hbox hg) | ((with_reducible refine gate_dst (N := 3) rfl ?_); refine xev 3 #[.bool false, .string (⟨#[]⟩ : ByteArray), .string (⟨#[]⟩ : ByteArray), .bool false, .string (⟨#[]⟩ : ByteArray)] 24 ?_; intro gb109 hg w14 hbox hb; have BK109 := Aside0.mk (hbox); have GW109 := xsz hg; have GE109 := GW109; have NB108_109 := xlt (g := gb108) hg; have NB109_108 := xgt (g := gb108) hg; replace BK108 := xbb (g := gb108) (o := .cells #[.bool false, .string (⟨#[]⟩ : ByteArray), .string (⟨#[]⟩ : ByteArray), .bool false, .string (⟨#[]⟩ : ByteArray)] 24 (0, 0)) hb; replace HB := xst hb; clear hb hbox hg) | ((with_reducible refine gate_callee (f := 19) rfl ?_); refine xgl 6 Tryd.func19 #[.string a0, .int .u8 64] ?_; (with_reducible refine (strings_LastIndexByte.calls k a0 64 t110 _ A2.out).mono ?_); rintro e w' ⟨rfl, ⟨nd, rfl⟩⟩; refine ⟨_, rfl, ?_⟩; (try (rw [drewN_self w14]; generalize hq_ : World.drewN w14 _ = w14; have n0_ : Aside0 (w14.heap[gb108]? = some (.cells #[.bool false, .string (⟨#[]⟩ : ByteArray), .string (⟨#[]⟩ : ByteArray), .bool false, .string (⟨#[]⟩ : ByteArray)] 24 (0, 0))) := ⟨by rw [← hq_]; exact xbk⟩; have n1_ : Aside0 (w14.heap[gb109]? = some (.cells #[.bool false, .string (⟨#[]⟩ : ByteArray), .string (⟨#[]⟩ : ByteArray), .bool false, .string (⟨#[]⟩ : ByteArray)] 24 (0, 0))) := ⟨by rw [← hq_]; exact xbk⟩; have n2_ : Aside0 (Below w.heap.size w w14) := ⟨by rw [← hq_]; exact xbl⟩; clear BK108 BK109 HB hq_; have BK108 := n0_; have BK109 := n1_; have HB := n2_; clear n0_ n1_ n2_))))
       have n0_ := Aside0.mk (blk_drew BK108.out)
       have n1_ := Aside0.mk (blk_drew BK109.out)
       have n2_ := Aside0.mk (below_drew1 HB.out)
       clear BK108
       clear BK109
       clear HB
       have BK108 := n0_
       have BK109 := n1_
       have HB := n2_
       clear n0_ n1_ n2_
       refine start_ (n := 12) (S := fun w' => True) (ds := []) #[false, false, false, false, false, false, false, false, false, false, false, false] (by kernel_rfl) rfl rfl trivial (fun hHeld => ?_); refine with_tabW seat_Part.tab4 seat_Part.bits4 (fun HT_ HW_ => ?_)
       generalize w14.drew = w15 at BK108 BK109 HB hHeld ⊢
       refine pure_ (i := 0) (N := some 9) (v := ?_) (a' := ?_) #[true, false, false, false, false, false, false, false, false, false, false, false] rfl rfl (any_of HT_.out (by kernel_rfl)) (fun _ _ _ h => h) (Or.inl ⟨by rfl, ?_⟩) ?_ ?_
       rotate_left
       ·
        intro w'
        go_simp
        with_reducible rfl
       rotate_left
       ·
        simp only [Act.put, List.setIfInBounds_toArray, List.set_cons_zero, List.set_cons_succ, i64_w, i32_w]
        rfl
       refine pure_ (i := 1) (N := some 10) (v := ?_) (a' := ?_) #[true, true, false, false, false, false, false, false, false, false, false, false] rfl rfl (any_of HT_.out (by kernel_rfl)) (fun _ _ _ h => h) (Or.inl ⟨by rfl, ?_⟩) ?_ ?_
       rotate_left
       ·
        intro w'
        go_simp
        with_reducible rfl
       rotate_left
       ·
        simp only [Act.put, List.setIfInBounds_toArray, List.set_cons_zero, List.set_cons_succ, i64_w, i32_w]
        rfl
       refine pure_ (i := 2) (N := some 11) (v := ?_) (a' := ?_) #[true, true, true, false, false, false, false, false, false, false, false, false] rfl rfl (any_of HT_.out (by kernel_rfl)) (fun _ _ _ h => h) (Or.inl ⟨by rfl, ?_⟩) ?_ ?_
       rotate_left
       ·
        intro w'
        go_simp
        with_reducible rfl
       rotate_left
       ·
        simp only [Act.put, List.setIfInBounds_toArray, List.set_cons_zero, List.set_cons_succ, i64_w, i32_w]
        rfl
       refine pure_ (i := 3) (N := some 12) (v := ?_) (a' := ?_) #[true, true, true, true, false, false, false, false, false, false, false, false] rfl rfl (any_of HT_.out (by kernel_rfl)) (fun _ _ _ h => h) (Or.inl ⟨by rfl, ?_⟩) ?_ ?_
       rotate_left
       ·
        intro w'
        go_simp
        with_reducible rfl
       rotate_left
       ·
        simp only [Act.put, List.setIfInBounds_toArray, List.set_cons_zero, List.set_cons_succ, i64_w, i32_w]
        rfl
       refine pure_ (i := 4) (N := some 13) (v := ?_) (a' := ?_) #[true, true, true, true, true, false, false, false, false, false, false, false] rfl rfl (any_of HT_.out (by kernel_rfl)) (fun _ _ _ h => h) (Or.inl ⟨by rfl, ?_⟩) ?_ ?_
       rotate_left
       ·
        intro w'
        go_simp
        with_reducible rfl
       rotate_left
       ·
        simp only [Act.put, List.setIfInBounds_toArray, List.set_cons_zero, List.set_cons_succ, i64_w, i32_w]
        rfl
       refine pure_ (i := 5) (N := some 14) (v := ?_) (a' := ?_) #[true, true, true, true, true, true, false, false, false, false, false, false] rfl rfl (any_of HT_.out (by kernel_rfl)) (fun _ _ _ h => h) (Or.inl ⟨by rfl, ?_⟩) ?_ ?_
       rotate_left
       ·
        intro w'
        go_simp
        with_reducible rfl
       rotate_left
       ·
        simp only [Act.put, List.setIfInBounds_toArray, List.set_cons_zero, List.set_cons_succ, i64_w, i32_w]
        rfl
       refine pure_ (i := 6) (N := some 15) (v := ?_) (a' := ?_) #[true, true, true, true, true, true, true, false, false, false, false, false] rfl rfl (any_of HT_.out (by kernel_rfl)) (fun _ _ _ h => h) (Or.inl ⟨by rfl, ?_⟩) ?_ ?_
       rotate_left
       ·
        intro w'
        go_simp
        with_reducible rfl
       rotate_left
       ·
        simp only [Act.put, List.setIfInBounds_toArray, List.set_cons_zero, List.set_cons_succ, i64_w, i32_w]
        rfl
       refine pure_ (i := 7) (N := some 16) (v := ?_) (a' := ?_) #[true, true, true, true, true, true, true, true, false, false, false, false] rfl rfl (any_of HT_.out (by kernel_rfl)) (fun _ _ _ h => h) (Or.inl ⟨by rfl, ?_⟩) ?_ ?_
       rotate_left
       ·
        intro w'
        go_simp
        with_reducible rfl
       rotate_left
       ·
        simp only [Act.put, List.setIfInBounds_toArray, List.set_cons_zero, List.set_cons_succ, i64_w, i32_w]
        rfl
       refine one_ (i := 8) (N := none) #[true, true, true, true, true, true, true, true, true, false, false, false] rfl rfl (one_of HT_.out (by kernel_rfl)) (by decide) (fun K hK => ?_)
       have hs16 : w15.cell? ⟨gb109, 0, none⟩ = some (.bool false) := (blk_cell BK109.out 0).trans rfl
       have hfs16 := xf BK109 0
       have hns16_0 := NB108_109.out
       have hms16_0 := NB109_108.out
       refine skip_ (w1 := ?_) (by rfl) rfl ?_ ?_
       rotate_left
       ·
        go_simp
        rfl
       refine hK.out _ _ trivial (fun hHeld => ?_)
       clear hK K
       refine pure_ (i := 9) (N := some 17) (v := ?_) (a' := ?_) #[true, true, true, true, true, true, true, true, true, true, false, false] rfl rfl (any_of HT_.out (by kernel_rfl)) (fun _ _ _ h => h) (Or.inl ⟨by rfl, ?_⟩) ?_ ?_
       rotate_left
       ·
        intro w'
        go_simp
        with_reducible rfl
       rotate_left
       ·
        simp only [Act.put, List.setIfInBounds_toArray, List.set_cons_zero, List.set_cons_succ, i64_w, i32_w]
        rfl
       refine one_ (i := 10) (N := none) #[true, true, true, true, true, true, true, true, true, true, true, false] rfl rfl (one_of HT_.out (by kernel_rfl)) (by decide) (fun K hK => ?_)
       have hs17 : w15.cell? ⟨gb109, 1, none⟩ = some (.string (⟨#[]⟩ : ByteArray)) := (blk_cell BK109.out 1).trans rfl
       have hfs17 := xf BK109 1
       have hns17_0 := NB108_109.out
       have hms17_0 := NB109_108.out
       refine skip_ (w1 := ?_) (by rfl) rfl ?_ ?_
       rotate_left
       ·
        go_simp
        rfl
       refine hK.out _ _ trivial (fun hHeld => ?_)
       clear hK K
       refine pure_ (i := 11) (N := some 0) (v := ?_) (a' := ?_) #[true, true, true, true, true, true, true, true, true, true, true, true] rfl rfl (any_of HT_.out (by kernel_rfl)) (fun _ _ _ h => h) (Or.inl ⟨by rfl, ?_⟩) ?_ ?_
       rotate_left
       ·
        intro w'
        go_simp
        with_reducible rfl
       rotate_left
       ·
        simp only [Act.put, List.setIfInBounds_toArray, List.set_cons_zero, List.set_cons_succ, i64_w, i32_w]
        rfl
       refine done_ (done_of HT_.out (by kernel_rfl)) ?_
       try go_wp2_with (first | ((with_reducible refine gate_callee (f := 20) rfl ?_); refine goesL_ (some 20) rfl rfl Tryd.func20 (by kernel_rfl) rfl #[.string ji10] rfl (by (try simp only [List.map_toArray, List.map_cons, List.map_nil]); first | done | (simp only [hji10]; rfl) | rfl | (simp only [List.length_drop, List.length_take]; rfl)) ?_; (with_reducible refine (seat_host.calls k ji10 t111 t112 _ A11.out).mono ?_); rintro e w' ⟨rfl, ⟨nd, rfl⟩⟩; refine ⟨_, rfl, ?_⟩; have hnb18 := NB109_108.out; have hnc18 := NB108_109.out; obtain ⟨hcz19_0, hcz19_1, hcz19_2, hcz19_3, hcz19_4⟩ := xc5 BK109; have hfz19_0 := xf BK109 0; have hfz19_1 := xf BK109 1; have hfz19_2 := xf BK109 2; have hfz19_3 := xf BK109 3; have hfz19_4 := xf BK109 4; obtain ⟨hcz20_0, hcz20_1, hcz20_2, hcz20_3, hcz20_4⟩ := xc5 BK108; have hfz20_0 := xf BK108 0; have hfz20_1 := xf BK108 1; have hfz20_2 := xf BK108 2; have hfz20_3 := xf BK108 3; have hfz20_4 := xf BK108 4))
       refine bodyPost_ret (results_cell_row rfl _ _ gb108 24 #[.bool true, .string ji6, .string t111, .bool false, .string (⟨#[]⟩ : ByteArray)] (0, 0) _ rfl xbk Tryd.underlying24 rfl (by kernel_rfl)) rfl ?_
       exact ⟨by first | rfl | (simp [errW_none, errW_some] <;> first | rfl | (simp only [xp_isEmpty, bne, Bool.not_not]; done)) | (simp only [← hji6, ← hji7, ← hji10]; first | rfl | (simp [errW_none, errW_some] <;> rfl)) | (simp [*, errW_none, errW_some] <;> rfl), xbl⟩
      ·
       rw [if_neg c12] at H
       have c12b0 : (t112.toList == ([] : List UInt8)) = false := beq_eq_false_iff_ne.mpr c12
       have c12b1 : (t112.toList != ([] : List UInt8)) = true := bne_iff_ne.mpr c12
       by_cases c21 : 1 ≤ (t112.size : Int)
       ·
        rw [if_pos c21] at H
        have c21b0 := eq_true c21
        have c21b1 := decide_eq_true c21
        clear c21
        obtain ⟨ji22, hji22⟩ : ∃ j_ : ByteArray, (t112.extract 1 t112.size) = j_ := ⟨_, rfl⟩
        try (have hji22x := hji22; simp only [Int.toNat_natCast, Int.toNat_ofNat] at hji22x)
        first | rw [hji22] at H | simp only [hji22] at H | skip
        (try rw [hji22] at A2)
        (try rw [hji22] at A11)
        simp only [Option.some.injEq, Prod.mk.injEq] at H
        obtain ⟨rfl, rfl, rfl, rfl, rfl⟩ := H
        go_enter Tryd.func12, Tryd.ntmps12
        try go_wp2_with (first | ((with_reducible refine gate_dst (N := 2) rfl ?_); refine xev 2 #[.bool false, .string (⟨#[]⟩ : ByteArray), .string (⟨#[]⟩ : ByteArray), .bool false, .string (⟨#[]⟩ : ByteArray)] 24 ?_; intro gb108 hg w23 hbox hb; have BK108 := Aside0.mk (hbox); have GW108 := xsz hg; have GE108 := GW108; replace HB := xst hb; clear hb hbox hg) | ((with_reducible refine gate_dst (N := 3) rfl ?_); refine xev 3 #[.bool false, .string (⟨#[]⟩ : ByteArray), .string (⟨#[]⟩ : ByteArray), .bool false, .string (⟨#[]⟩ : ByteArray)] 24 ?_; intro gb109 hg w24 hbox hb; have BK109 := Aside0.mk (hbox); have GW109 := xsz hg; have GE109 := GW109; have NB108_109 := xlt (g := gb108) hg; have NB109_108 := xgt (g := gb108) hg; replace BK108 := xbb (g := gb108) (o := .cells #[.bool false, .string (⟨#[]⟩ : ByteArray), .string (⟨#[]⟩ : ByteArray), .bool false, .string (⟨#[]⟩ : ByteArray)] 24 (0, 0)) hb; replace HB := xst hb; clear hb hbox hg) | ((with_reducible refine gate_callee (f := 19) rfl ?_); refine xgl 6 Tryd.func19 #[.string a0, .int .u8 64] ?_; (with_reducible refine (strings_LastIndexByte.calls k a0 64 t110 _ A2.out).mono ?_); rintro e w' ⟨rfl, ⟨nd, rfl⟩⟩; refine ⟨_, rfl, ?_⟩; (try (rw [drewN_self w24]; generalize hq_ : World.drewN w24 _ = w24; have n0_ : Aside0 (w24.heap[gb108]? = some (.cells #[.bool false, .string (⟨#[]⟩ : ByteArray), .string (⟨#[]⟩ : ByteArray), .bool false, .string (⟨#[]⟩ : ByteArray)] 24 (0, 0))) := ⟨by rw [← hq_]; exact xbk⟩; have n1_ : Aside0 (w24.heap[gb109]? = some (.cells #[.bool false, .string (⟨#[]⟩ : ByteArray), .string (⟨#[]⟩ : ByteArray), .bool false, .string (⟨#[]⟩ : ByteArray)] 24 (0, 0))) := ⟨by rw [← hq_]; exact xbk⟩; have n2_ : Aside0 (Below w.heap.size w w24) := ⟨by rw [← hq_]; exact xbl⟩; clear BK108 BK109 HB hq_; have BK108 := n0_; have BK109 := n1_; have HB := n2_; clear n0_ n1_ n2_))))
        have n0_ := Aside0.mk (blk_drew BK108.out)
        have n1_ := Aside0.mk (blk_drew BK109.out)
        have n2_ := Aside0.mk (below_drew1 HB.out)
        clear BK108
        clear BK109
        clear HB
        have BK108 := n0_
        have BK109 := n1_
        have HB := n2_
        clear n0_ n1_ n2_
        refine start_ (n := 12) (S := fun w' => True) (ds := []) #[false, false, false, false, false, false, false, false, false, false, false, false] (by kernel_rfl) rfl rfl trivial (fun hHeld => ?_); refine with_tabW seat_Part.tab4 seat_Part.bits4 (fun HT_ HW_ => ?_)
        generalize w24.drew = w25 at BK108 BK109 HB hHeld ⊢
        refine pure_ (i := 0) (N := some 9) (v := ?_) (a' := ?_) #[true, false, false, false, false, false, false, false, false, false, false, false] rfl rfl (any_of HT_.out (by kernel_rfl)) (fun _ _ _ h => h) (Or.inl ⟨by rfl, ?_⟩) ?_ ?_
        rotate_left
        ·
         intro w'
         go_simp
         with_reducible rfl
        rotate_left
        ·
         simp only [Act.put, List.setIfInBounds_toArray, List.set_cons_zero, List.set_cons_succ, i64_w, i32_w]
         rfl
        refine pure_ (i := 1) (N := some 10) (v := ?_) (a' := ?_) #[true, true, false, false, false, false, false, false, false, false, false, false] rfl rfl (any_of HT_.out (by kernel_rfl)) (fun _ _ _ h => h) (Or.inl ⟨by rfl, ?_⟩) ?_ ?_
        rotate_left
        ·
         intro w'
         go_simp
         with_reducible rfl
        rotate_left
        ·
         simp only [Act.put, List.setIfInBounds_toArray, List.set_cons_zero, List.set_cons_succ, i64_w, i32_w]
         rfl
        refine pure_ (i := 2) (N := some 11) (v := ?_) (a' := ?_) #[true, true, true, false, false, false, false, false, false, false, false, false] rfl rfl (any_of HT_.out (by kernel_rfl)) (fun _ _ _ h => h) (Or.inl ⟨by rfl, ?_⟩) ?_ ?_
        rotate_left
        ·
         intro w'
         go_simp
         with_reducible rfl
        rotate_left
        ·
         simp only [Act.put, List.setIfInBounds_toArray, List.set_cons_zero, List.set_cons_succ, i64_w, i32_w]
         rfl
        refine pure_ (i := 3) (N := some 12) (v := ?_) (a' := ?_) #[true, true, true, true, false, false, false, false, false, false, false, false] rfl rfl (any_of HT_.out (by kernel_rfl)) (fun _ _ _ h => h) (Or.inl ⟨by rfl, ?_⟩) ?_ ?_
        rotate_left
        ·
         intro w'
         go_simp
         with_reducible rfl
        rotate_left
        ·
         simp only [Act.put, List.setIfInBounds_toArray, List.set_cons_zero, List.set_cons_succ, i64_w, i32_w]
         rfl
        refine pure_ (i := 4) (N := some 13) (v := ?_) (a' := ?_) #[true, true, true, true, true, false, false, false, false, false, false, false] rfl rfl (any_of HT_.out (by kernel_rfl)) (fun _ _ _ h => h) (Or.inl ⟨by rfl, ?_⟩) ?_ ?_
        rotate_left
        ·
         intro w'
         go_simp
         with_reducible rfl
        rotate_left
        ·
         simp only [Act.put, List.setIfInBounds_toArray, List.set_cons_zero, List.set_cons_succ, i64_w, i32_w]
         rfl
        refine pure_ (i := 5) (N := some 14) (v := ?_) (a' := ?_) #[true, true, true, true, true, true, false, false, false, false, false, false] rfl rfl (any_of HT_.out (by kernel_rfl)) (fun _ _ _ h => h) (Or.inl ⟨by rfl, ?_⟩) ?_ ?_
        rotate_left
        ·
         intro w'
         go_simp
         with_reducible rfl
        rotate_left
        ·
         simp only [Act.put, List.setIfInBounds_toArray, List.set_cons_zero, List.set_cons_succ, i64_w, i32_w]
         rfl
        refine pure_ (i := 6) (N := some 15) (v := ?_) (a' := ?_) #[true, true, true, true, true, true, true, false, false, false, false, false] rfl rfl (any_of HT_.out (by kernel_rfl)) (fun _ _ _ h => h) (Or.inl ⟨by rfl, ?_⟩) ?_ ?_
        rotate_left
        ·
         intro w'
         go_simp
         with_reducible rfl
        rotate_left
        ·
         simp only [Act.put, List.setIfInBounds_toArray, List.set_cons_zero, List.set_cons_succ, i64_w, i32_w]
         rfl
        refine pure_ (i := 7) (N := some 16) (v := ?_) (a' := ?_) #[true, true, true, true, true, true, true, true, false, false, false, false] rfl rfl (any_of HT_.out (by kernel_rfl)) (fun _ _ _ h => h) (Or.inl ⟨by rfl, ?_⟩) ?_ ?_
        rotate_left
        ·
         intro w'
         go_simp
         with_reducible rfl
        rotate_left
        ·
         simp only [Act.put, List.setIfInBounds_toArray, List.set_cons_zero, List.set_cons_succ, i64_w, i32_w]
         rfl
        refine one_ (i := 8) (N := none) #[true, true, true, true, true, true, true, true, true, false, false, false] rfl rfl (one_of HT_.out (by kernel_rfl)) (by decide) (fun K hK => ?_)
        have hs26 : w25.cell? ⟨gb109, 0, none⟩ = some (.bool false) := (blk_cell BK109.out 0).trans rfl
        have hfs26 := xf BK109 0
        have hns26_0 := NB108_109.out
        have hms26_0 := NB109_108.out
        refine skip_ (w1 := ?_) (by rfl) rfl ?_ ?_
        rotate_left
        ·
         go_simp
         rfl
        refine hK.out _ _ trivial (fun hHeld => ?_)
        clear hK K
        refine pure_ (i := 9) (N := some 17) (v := ?_) (a' := ?_) #[true, true, true, true, true, true, true, true, true, true, false, false] rfl rfl (any_of HT_.out (by kernel_rfl)) (fun _ _ _ h => h) (Or.inl ⟨by rfl, ?_⟩) ?_ ?_
        rotate_left
        ·
         intro w'
         go_simp
         with_reducible rfl
        rotate_left
        ·
         simp only [Act.put, List.setIfInBounds_toArray, List.set_cons_zero, List.set_cons_succ, i64_w, i32_w]
         rfl
        refine one_ (i := 10) (N := none) #[true, true, true, true, true, true, true, true, true, true, true, false] rfl rfl (one_of HT_.out (by kernel_rfl)) (by decide) (fun K hK => ?_)
        have hs27 : w25.cell? ⟨gb109, 1, none⟩ = some (.string (⟨#[]⟩ : ByteArray)) := (blk_cell BK109.out 1).trans rfl
        have hfs27 := xf BK109 1
        have hns27_0 := NB108_109.out
        have hms27_0 := NB109_108.out
        refine skip_ (w1 := ?_) (by rfl) rfl ?_ ?_
        rotate_left
        ·
         go_simp
         rfl
        refine hK.out _ _ trivial (fun hHeld => ?_)
        clear hK K
        refine pure_ (i := 11) (N := some 0) (v := ?_) (a' := ?_) #[true, true, true, true, true, true, true, true, true, true, true, true] rfl rfl (any_of HT_.out (by kernel_rfl)) (fun _ _ _ h => h) (Or.inl ⟨by rfl, ?_⟩) ?_ ?_
        rotate_left
        ·
         intro w'
         go_simp
         with_reducible rfl
        rotate_left
        ·
         simp only [Act.put, List.setIfInBounds_toArray, List.set_cons_zero, List.set_cons_succ, i64_w, i32_w]
         rfl
        refine done_ (done_of HT_.out (by kernel_rfl)) ?_
        try go_wp2_with (first | ((with_reducible refine gate_callee (f := 20) rfl ?_); refine goesL_ (some 20) rfl rfl Tryd.func20 (by kernel_rfl) rfl #[.string ji10] rfl (by (try simp only [List.map_toArray, List.map_cons, List.map_nil]); first | done | (simp only [hji10]; rfl) | rfl | (simp only [List.length_drop, List.length_take]; rfl)) ?_; (with_reducible refine (seat_host.calls k ji10 t111 t112 _ A11.out).mono ?_); rintro e w' ⟨rfl, ⟨nd, rfl⟩⟩; refine ⟨_, rfl, ?_⟩; have hnb28 := NB109_108.out; have hnc28 := NB108_109.out; obtain ⟨hcz29_0, hcz29_1, hcz29_2, hcz29_3, hcz29_4⟩ := xc5 BK109; have hfz29_0 := xf BK109 0; have hfz29_1 := xf BK109 1; have hfz29_2 := xf BK109 2; have hfz29_3 := xf BK109 3; have hfz29_4 := xf BK109 4))
        have n0_ : Aside0 ((((w25.setCell ⟨gb109, 0, none⟩ (.bool true)).setCell ⟨gb109, 1, none⟩ (.string ji6)).setCell ⟨gb109, 2, none⟩ (.string t111)).heap[gb108]? = some (.cells #[.bool false, .string (⟨#[]⟩ : ByteArray), .string (⟨#[]⟩ : ByteArray), .bool false, .string (⟨#[]⟩ : ByteArray)] 24 (0, 0))) := ⟨by (with_reducible repeat (first | refine blk_drewN ?_ _ | refine blk_drew ?_ | refine blk_alloc ?_ _)); refine blk_far ?_ NB108_109.out _; (with_reducible repeat (first | refine blk_drewN ?_ _ | refine blk_drew ?_ | refine blk_alloc ?_ _)); refine blk_far ?_ NB108_109.out _; (with_reducible repeat (first | refine blk_drewN ?_ _ | refine blk_drew ?_ | refine blk_alloc ?_ _)); refine blk_far ?_ NB108_109.out _; (with_reducible repeat (first | refine blk_drewN ?_ _ | refine blk_drew ?_ | refine blk_alloc ?_ _)); exact BK108.out⟩
        have n1_ : Aside0 ((((w25.setCell ⟨gb109, 0, none⟩ (.bool true)).setCell ⟨gb109, 1, none⟩ (.string ji6)).setCell ⟨gb109, 2, none⟩ (.string t111)).heap[gb109]? = some (.cells #[.bool true, .string ji6, .string t111, .bool false, .string (⟨#[]⟩ : ByteArray)] 24 (0, 0))) := ⟨by (with_reducible repeat (first | refine blk_drewN ?_ _ | refine blk_drew ?_ | refine blk_alloc ?_ _)); refine blk_put (cs := #[.bool true, .string ji6, .string (⟨#[]⟩ : ByteArray), .bool false, .string (⟨#[]⟩ : ByteArray)]) ?_ 2 _ rfl; (with_reducible repeat (first | refine blk_drewN ?_ _ | refine blk_drew ?_ | refine blk_alloc ?_ _)); refine blk_put (cs := #[.bool true, .string (⟨#[]⟩ : ByteArray), .string (⟨#[]⟩ : ByteArray), .bool false, .string (⟨#[]⟩ : ByteArray)]) ?_ 1 _ rfl; (with_reducible repeat (first | refine blk_drewN ?_ _ | refine blk_drew ?_ | refine blk_alloc ?_ _)); refine blk_put (cs := #[.bool false, .string (⟨#[]⟩ : ByteArray), .string (⟨#[]⟩ : ByteArray), .bool false, .string (⟨#[]⟩ : ByteArray)]) ?_ 0 _ rfl; (with_reducible repeat (first | refine blk_drewN ?_ _ | refine blk_drew ?_ | refine blk_alloc ?_ _)); exact BK109.out⟩
        have n2_ : Aside0 (Below w.heap.size w (((w25.setCell ⟨gb109, 0, none⟩ (.bool true)).setCell ⟨gb109, 1, none⟩ (.string ji6)).setCell ⟨gb109, 2, none⟩ (.string t111))) := ⟨xbl⟩
        (try clear BK108)
        (try clear BK109)
        (try clear HB)
        try simp only [show ∀ (w_ : World) (n_ : Nat) (a_ : Addr) (v_ : Value), (w_.drewN n_).setCell a_ v_ = (w_.setCell a_ v_).drewN n_ from fun _ _ _ _ => rfl]
        generalize (((w25.setCell ⟨gb109, 0, none⟩ (.bool true)).setCell ⟨gb109, 1, none⟩ (.string ji6)).setCell ⟨gb109, 2, none⟩ (.string t111)) = w30 at n0_ n1_ n2_ ⊢
        have BK108 := n0_
        have BK109 := n1_
        have HB := n2_
        clear n0_ n1_ n2_
        (try (rw [drewN_self w30]; generalize hq_ : World.drewN w30 _ = w30; have n0_ : Aside0 (w30.heap[gb108]? = some (.cells #[.bool false, .string (⟨#[]⟩ : ByteArray), .string (⟨#[]⟩ : ByteArray), .bool false, .string (⟨#[]⟩ : ByteArray)] 24 (0, 0))) := ⟨by rw [← hq_]; exact xbk⟩; have n1_ : Aside0 (w30.heap[gb109]? = some (.cells #[.bool true, .string ji6, .string t111, .bool false, .string (⟨#[]⟩ : ByteArray)] 24 (0, 0))) := ⟨by rw [← hq_]; exact xbk⟩; have n2_ : Aside0 (Below w.heap.size w w30) := ⟨by rw [← hq_]; exact xbl⟩; clear BK108 BK109 HB hq_; have BK108 := n0_; have BK109 := n1_; have HB := n2_; clear n0_ n1_ n2_))
        have n0_ := Aside0.mk (blk_drew BK108.out)
        have n1_ := Aside0.mk (blk_drew BK109.out)
        have n2_ := Aside0.mk (below_drew1 HB.out)
        clear BK108
        clear BK109
        clear HB
        have BK108 := n0_
        have BK109 := n1_
        have HB := n2_
        clear n0_ n1_ n2_
        refine start_ (n := 6) (S := fun w' => True) (ds := []) #[false, false, false, false, false, false] (by kernel_rfl) rfl rfl trivial (fun hHeld => ?_)
        generalize w30.drew = w31 at BK108 BK109 HB hHeld ⊢
        refine pure_ (i := 0) (N := some 26) (v := ?_) (a' := ?_) #[true, false, false, false, false, false] rfl rfl (by kernel_rfl) (fun _ _ _ h => h) (Or.inl ⟨by rfl, ?_⟩) ?_ ?_
        rotate_left
        ·
         intro w'
         go_simp
         with_reducible rfl
        rotate_left
        ·
         simp only [Act.put, List.setIfInBounds_toArray, List.set_cons_zero, List.set_cons_succ, i64_w, i32_w]
         rfl
        refine pure_ (i := 1) (N := some 27) (v := ?_) (a' := ?_) #[true, true, false, false, false, false] rfl rfl (by kernel_rfl) (fun _ _ _ h => h) (Or.inl ⟨by rfl, ?_⟩) ?_ ?_
        rotate_left
        ·
         intro w'
         go_simp
         with_reducible rfl
        rotate_left
        ·
         simp only [Act.put, List.setIfInBounds_toArray, List.set_cons_zero, List.set_cons_succ, i64_w, i32_w]
         rfl
        refine pure_ (i := 2) (N := some 28) (v := ?_) (a' := ?_) #[true, true, true, false, false, false] rfl rfl (by kernel_rfl) (fun _ _ _ h => h) (Or.inl ⟨by rfl, ?_⟩) ?_ ?_
        rotate_left
        ·
         intro w'
         go_simp
         with_reducible rfl
        rotate_left
        ·
         simp only [Act.put, List.setIfInBounds_toArray, List.set_cons_zero, List.set_cons_succ, i64_w, i32_w]
         rfl
        refine one_ (i := 3) (N := none) #[true, true, true, true, false, false] rfl rfl (by kernel_rfl) (by decide) (fun K hK => ?_)
        have hs32 : w31.cell? ⟨gb109, 3, none⟩ = some (.bool false) := (blk_cell BK109.out 3).trans rfl
        have hfs32 := xf BK109 3
        have hns32_0 := NB108_109.out
        have hms32_0 := NB109_108.out
        refine skip_ (w1 := ?_) (by rfl) rfl ?_ ?_
        rotate_left
        ·
         go_simp
         rfl
        refine hK.out _ _ trivial (fun hHeld => ?_)
        clear hK K
        refine pure_ (i := 4) (N := some 29) (v := ?_) (a' := ?_) #[true, true, true, true, true, false] rfl rfl (by kernel_rfl) (fun _ _ _ h => h) (Or.inl ⟨by rfl, ?_⟩) ?_ ?_
        rotate_left
        ·
         intro w'
         go_simp
         with_reducible rfl
        rotate_left
        ·
         simp only [Act.put, List.setIfInBounds_toArray, List.set_cons_zero, List.set_cons_succ, i64_w, i32_w]
         rfl
        refine one_ (i := 5) (N := none) #[true, true, true, true, true, true] rfl rfl (by kernel_rfl) (by decide) (fun K hK => ?_)
        have hs33 : w31.cell? ⟨gb109, 4, none⟩ = some (.string (⟨#[]⟩ : ByteArray)) := (blk_cell BK109.out 4).trans rfl
        have hfs33 := xf BK109 4
        have hns33_0 := NB108_109.out
        have hms33_0 := NB109_108.out
        refine skip_ (w1 := ?_) (by rfl) rfl ?_ ?_
        rotate_left
        ·
         go_simp
         rfl
        refine hK.out _ _ trivial (fun hHeld => ?_)
        clear hK K
        refine done_ (by kernel_rfl) ?_
        obtain ⟨hcz34_0, hcz34_1, hcz34_2, hcz34_3, hcz34_4⟩ := xc5 BK109
        have hfz34_0 := xf BK109 0
        have hfz34_1 := xf BK109 1
        have hfz34_2 := xf BK109 2
        have hfz34_3 := xf BK109 3
        have hfz34_4 := xf BK109 4
        obtain ⟨hcz35_0, hcz35_1, hcz35_2, hcz35_3, hcz35_4⟩ := xc5 BK108
        have hfz35_0 := xf BK108 0
        have hfz35_1 := xf BK108 1
        have hfz35_2 := xf BK108 2
        have hfz35_3 := xf BK108 3
        have hfz35_4 := xf BK108 4
        try go_wp2
        refine bodyPost_ret (results_cell_row rfl _ _ gb108 24 #[.bool true, .string ji6, .string t111, .bool true, .string ji22] (0, 0) _ rfl xbk Tryd.underlying24 rfl (by kernel_rfl)) rfl ?_
        exact ⟨by first | rfl | (simp [errW_none, errW_some] <;> first | rfl | (simp only [xp_isEmpty, bne, Bool.not_not]; done)) | (simp only [← hji6, ← hji7, ← hji10, ← hji22]; first | rfl | (simp [errW_none, errW_some] <;> rfl)) | (simp [*, errW_none, errW_some] <;> rfl), xbl⟩
       ·
        rw [if_neg c21] at H
        exact absurd H (by simp)
     ·
      rw [if_neg c9] at H
      exact absurd H (by simp)
    ·
     rw [if_neg c8] at H
     exact absurd H (by simp)
   ·
    rw [if_neg c5] at H
    exact absurd H (by simp)
  ·
   rw [if_neg c4] at H
   exact absurd H (by simp)
 ·
  rw [if_neg c3] at H
  have c3b0 := decide_eq_false c3
  clear c3
  replace H := Option.bind_eq_some_iff.mp H
  obtain ⟨⟨t113, t114⟩, A360, H⟩ := H
  try dsimp only at H
  have A36 := Aside0.mk A360
  clear A360
  by_cases c37 : t114.toList = ([] : List UInt8)
  ·
   rw [if_pos c37] at H
   have c37b0 : (t114.toList == ([] : List UInt8)) = true := beq_iff_eq.mpr c37
   have c37b1 : (t114.toList != ([] : List UInt8)) = false := bne_eq_false_iff_eq.mpr c37
   clear c37
   simp only [Option.some.injEq, Prod.mk.injEq] at H
   obtain ⟨rfl, rfl, rfl, rfl, rfl⟩ := H
   go_enter Tryd.func12, Tryd.ntmps12
   go_wp2_with (first | ((with_reducible refine gate_dst (N := 2) rfl ?_); refine xev 2 #[.bool false, .string (⟨#[]⟩ : ByteArray), .string (⟨#[]⟩ : ByteArray), .bool false, .string (⟨#[]⟩ : ByteArray)] 24 ?_; intro gb108 hg w38 hbox hb; have BK108 := Aside0.mk (hbox); have GW108 := xsz hg; have GE108 := GW108; replace HB := xst hb; clear hb hbox hg) | ((with_reducible refine gate_dst (N := 3) rfl ?_); refine xev 3 #[.bool false, .string (⟨#[]⟩ : ByteArray), .string (⟨#[]⟩ : ByteArray), .bool false, .string (⟨#[]⟩ : ByteArray)] 24 ?_; intro gb109 hg w39 hbox hb; have BK109 := Aside0.mk (hbox); have GW109 := xsz hg; have GE109 := GW109; have NB108_109 := xlt (g := gb108) hg; have NB109_108 := xgt (g := gb108) hg; replace BK108 := xbb (g := gb108) (o := .cells #[.bool false, .string (⟨#[]⟩ : ByteArray), .string (⟨#[]⟩ : ByteArray), .bool false, .string (⟨#[]⟩ : ByteArray)] 24 (0, 0)) hb; replace HB := xst hb; clear hb hbox hg) | ((with_reducible refine gate_callee (f := 19) rfl ?_); refine xgl 6 Tryd.func19 #[.string a0, .int .u8 64] ?_; (with_reducible refine (strings_LastIndexByte.calls k a0 64 t110 _ A2.out).mono ?_); rintro e w' ⟨rfl, ⟨nd, rfl⟩⟩; refine ⟨_, rfl, ?_⟩; (try (rw [drewN_self w39]; generalize hq_ : World.drewN w39 _ = w39; have n0_ : Aside0 (w39.heap[gb108]? = some (.cells #[.bool false, .string (⟨#[]⟩ : ByteArray), .string (⟨#[]⟩ : ByteArray), .bool false, .string (⟨#[]⟩ : ByteArray)] 24 (0, 0))) := ⟨by rw [← hq_]; exact xbk⟩; have n1_ : Aside0 (w39.heap[gb109]? = some (.cells #[.bool false, .string (⟨#[]⟩ : ByteArray), .string (⟨#[]⟩ : ByteArray), .bool false, .string (⟨#[]⟩ : ByteArray)] 24 (0, 0))) := ⟨by rw [← hq_]; exact xbk⟩; have n2_ : Aside0 (Below w.heap.size w w39) := ⟨by rw [← hq_]; exact xbl⟩; clear BK108 BK109 HB hq_; have BK108 := n0_; have BK109 := n1_; have HB := n2_; clear n0_ n1_ n2_))) | ((with_reducible refine gate_callee (f := 20) rfl ?_); refine xgl 20 Tryd.func20 #[.string a0] ?_; (with_reducible refine (seat_host.calls k a0 t113 t114 _ A36.out).mono ?_); rintro e w' ⟨rfl, ⟨nd, rfl⟩⟩; refine ⟨_, rfl, ?_⟩; (try (rw [drewN_self w39]; generalize hq_ : World.drewN w39 _ = w39; have n0_ : Aside0 (w39.heap[gb108]? = some (.cells #[.bool false, .string (⟨#[]⟩ : ByteArray), .string (⟨#[]⟩ : ByteArray), .bool false, .string (⟨#[]⟩ : ByteArray)] 24 (0, 0))) := ⟨by rw [← hq_]; exact xbk⟩; have n1_ : Aside0 (w39.heap[gb109]? = some (.cells #[.bool false, .string (⟨#[]⟩ : ByteArray), .string (⟨#[]⟩ : ByteArray), .bool false, .string (⟨#[]⟩ : ByteArray)] 24 (0, 0))) := ⟨by rw [← hq_]; exact xbk⟩; have n2_ : Aside0 (Below w.heap.size w w39) := ⟨by rw [← hq_]; exact xbl⟩; clear BK108 BK109 HB hq_; have BK108 := n0_; have BK109 := n1_; have HB := n2_; clear n0_ n1_ n2_)); have hnb40 := NB109_108.out; have hnc40 := NB108_109.out; obtain ⟨hcz41_0, hcz41_1, hcz41_2, hcz41_3, hcz41_4⟩ := xc5 BK109; have hfz41_0 := xf BK109 0; have hfz41_1 := xf BK109 1; have hfz41_2 := xf BK109 2; have hfz41_3 := xf BK109 3; have hfz41_4 := xf BK109 4; obtain ⟨hcz42_0, hcz42_1, hcz42_2, hcz42_3, hcz42_4⟩ := xc5 BK108; have hfz42_0 := xf BK108 0; have hfz42_1 := xf BK108 1; have hfz42_2 := xf BK108 2; have hfz42_3 := xf BK108 3; have hfz42_4 := xf BK108 4))
   refine bodyPost_ret (results_cell_row rfl _ _ gb108 24 #[.bool false, .string (⟨#[]⟩ : ByteArray), .string t113, .bool false, .string (⟨#[]⟩ : ByteArray)] (0, 0) _ rfl xbk Tryd.underlying24 rfl (by kernel_rfl)) rfl ?_
   exact ⟨xre, xbl⟩
  ·
   rw [if_neg c37] at H
   have c37b0 : (t114.toList == ([] : List UInt8)) = false := beq_eq_false_iff_ne.mpr c37
   have c37b1 : (t114.toList != ([] : List UInt8)) = true := bne_iff_ne.mpr c37
   by_cases c43 : 1 ≤ (t114.size : Int)
   ·
    rw [if_pos c43] at H
    have c43b0 := eq_true c43
    have c43b1 := decide_eq_true c43
    clear c43
    obtain ⟨ji44, hji44⟩ : ∃ j_ : ByteArray, (t114.extract 1 t114.size) = j_ := ⟨_, rfl⟩
    try (have hji44x := hji44; simp only [Int.toNat_natCast, Int.toNat_ofNat] at hji44x)
    first | rw [hji44] at H | simp only [hji44] at H | skip
    (try rw [hji44] at A2)
    (try rw [hji44] at A36)
    simp only [Option.some.injEq, Prod.mk.injEq] at H
    obtain ⟨rfl, rfl, rfl, rfl, rfl⟩ := H
    go_enter Tryd.func12, Tryd.ntmps12
    try go_wp2_with (first | ((with_reducible refine gate_dst (N := 2) rfl ?_); refine xev 2 #[.bool false, .string (⟨#[]⟩ : ByteArray), .string (⟨#[]⟩ : ByteArray), .bool false, .string (⟨#[]⟩ : ByteArray)] 24 ?_; intro gb108 hg w45 hbox hb; have BK108 := Aside0.mk (hbox); have GW108 := xsz hg; have GE108 := GW108; replace HB := xst hb; clear hb hbox hg) | ((with_reducible refine gate_dst (N := 3) rfl ?_); refine xev 3 #[.bool false, .string (⟨#[]⟩ : ByteArray), .string (⟨#[]⟩ : ByteArray), .bool false, .string (⟨#[]⟩ : ByteArray)] 24 ?_; intro gb109 hg w46 hbox hb; have BK109 := Aside0.mk (hbox); have GW109 := xsz hg; have GE109 := GW109; have NB108_109 := xlt (g := gb108) hg; have NB109_108 := xgt (g := gb108) hg; replace BK108 := xbb (g := gb108) (o := .cells #[.bool false, .string (⟨#[]⟩ : ByteArray), .string (⟨#[]⟩ : ByteArray), .bool false, .string (⟨#[]⟩ : ByteArray)] 24 (0, 0)) hb; replace HB := xst hb; clear hb hbox hg) | ((with_reducible refine gate_callee (f := 19) rfl ?_); refine xgl 6 Tryd.func19 #[.string a0, .int .u8 64] ?_; (with_reducible refine (strings_LastIndexByte.calls k a0 64 t110 _ A2.out).mono ?_); rintro e w' ⟨rfl, ⟨nd, rfl⟩⟩; refine ⟨_, rfl, ?_⟩; (try (rw [drewN_self w46]; generalize hq_ : World.drewN w46 _ = w46; have n0_ : Aside0 (w46.heap[gb108]? = some (.cells #[.bool false, .string (⟨#[]⟩ : ByteArray), .string (⟨#[]⟩ : ByteArray), .bool false, .string (⟨#[]⟩ : ByteArray)] 24 (0, 0))) := ⟨by rw [← hq_]; exact xbk⟩; have n1_ : Aside0 (w46.heap[gb109]? = some (.cells #[.bool false, .string (⟨#[]⟩ : ByteArray), .string (⟨#[]⟩ : ByteArray), .bool false, .string (⟨#[]⟩ : ByteArray)] 24 (0, 0))) := ⟨by rw [← hq_]; exact xbk⟩; have n2_ : Aside0 (Below w.heap.size w w46) := ⟨by rw [← hq_]; exact xbl⟩; clear BK108 BK109 HB hq_; have BK108 := n0_; have BK109 := n1_; have HB := n2_; clear n0_ n1_ n2_))) | ((with_reducible refine gate_callee (f := 20) rfl ?_); refine xgl 20 Tryd.func20 #[.string a0] ?_; (with_reducible refine (seat_host.calls k a0 t113 t114 _ A36.out).mono ?_); rintro e w' ⟨rfl, ⟨nd, rfl⟩⟩; refine ⟨_, rfl, ?_⟩; (try (rw [drewN_self w46]; generalize hq_ : World.drewN w46 _ = w46; have n0_ : Aside0 (w46.heap[gb108]? = some (.cells #[.bool false, .string (⟨#[]⟩ : ByteArray), .string (⟨#[]⟩ : ByteArray), .bool false, .string (⟨#[]⟩ : ByteArray)] 24 (0, 0))) := ⟨by rw [← hq_]; exact xbk⟩; have n1_ : Aside0 (w46.heap[gb109]? = some (.cells #[.bool false, .string (⟨#[]⟩ : ByteArray), .string (⟨#[]⟩ : ByteArray), .bool false, .string (⟨#[]⟩ : ByteArray)] 24 (0, 0))) := ⟨by rw [← hq_]; exact xbk⟩; have n2_ : Aside0 (Below w.heap.size w w46) := ⟨by rw [← hq_]; exact xbl⟩; clear BK108 BK109 HB hq_; have BK108 := n0_; have BK109 := n1_; have HB := n2_; clear n0_ n1_ n2_)); have hnb47 := NB109_108.out; have hnc47 := NB108_109.out; obtain ⟨hcz48_0, hcz48_1, hcz48_2, hcz48_3, hcz48_4⟩ := xc5 BK109; have hfz48_0 := xf BK109 0; have hfz48_1 := xf BK109 1; have hfz48_2 := xf BK109 2; have hfz48_3 := xf BK109 3; have hfz48_4 := xf BK109 4))
    have n0_ : Aside0 ((w46.setCell ⟨gb109, 2, none⟩ (.string t113)).heap[gb108]? = some (.cells #[.bool false, .string (⟨#[]⟩ : ByteArray), .string (⟨#[]⟩ : ByteArray), .bool false, .string (⟨#[]⟩ : ByteArray)] 24 (0, 0))) := ⟨by (with_reducible repeat (first | refine blk_drewN ?_ _ | refine blk_drew ?_ | refine blk_alloc ?_ _)); refine blk_far ?_ NB108_109.out _; (with_reducible repeat (first | refine blk_drewN ?_ _ | refine blk_drew ?_ | refine blk_alloc ?_ _)); exact BK108.out⟩
    have n1_ : Aside0 ((w46.setCell ⟨gb109, 2, none⟩ (.string t113)).heap[gb109]? = some (.cells #[.bool false, .string (⟨#[]⟩ : ByteArray), .string t113, .bool false, .string (⟨#[]⟩ : ByteArray)] 24 (0, 0))) := ⟨by (with_reducible repeat (first | refine blk_drewN ?_ _ | refine blk_drew ?_ | refine blk_alloc ?_ _)); refine blk_put (cs := #[.bool false, .string (⟨#[]⟩ : ByteArray), .string (⟨#[]⟩ : ByteArray), .bool false, .string (⟨#[]⟩ : ByteArray)]) ?_ 2 _ rfl; (with_reducible repeat (first | refine blk_drewN ?_ _ | refine blk_drew ?_ | refine blk_alloc ?_ _)); exact BK109.out⟩
    have n2_ : Aside0 (Below w.heap.size w (w46.setCell ⟨gb109, 2, none⟩ (.string t113))) := ⟨xbl⟩
    (try clear BK108)
    (try clear BK109)
    (try clear HB)
    try simp only [show ∀ (w_ : World) (n_ : Nat) (a_ : Addr) (v_ : Value), (w_.drewN n_).setCell a_ v_ = (w_.setCell a_ v_).drewN n_ from fun _ _ _ _ => rfl]
    generalize (w46.setCell ⟨gb109, 2, none⟩ (.string t113)) = w49 at n0_ n1_ n2_ ⊢
    have BK108 := n0_
    have BK109 := n1_
    have HB := n2_
    clear n0_ n1_ n2_
    have n0_ := Aside0.mk (blk_drew BK108.out)
    have n1_ := Aside0.mk (blk_drew BK109.out)
    have n2_ := Aside0.mk (below_drew1 HB.out)
    clear BK108
    clear BK109
    clear HB
    have BK108 := n0_
    have BK109 := n1_
    have HB := n2_
    clear n0_ n1_ n2_
    refine start_ (n := 6) (S := fun w' => True) (ds := []) #[false, false, false, false, false, false] (by kernel_rfl) rfl rfl trivial (fun hHeld => ?_)
    generalize w49.drew = w50 at BK108 BK109 HB hHeld ⊢
    refine pure_ (i := 0) (N := some 26) (v := ?_) (a' := ?_) #[true, false, false, false, false, false] rfl rfl (by kernel_rfl) (fun _ _ _ h => h) (Or.inl ⟨by rfl, ?_⟩) ?_ ?_
    rotate_left
    ·
     intro w'
     go_simp
     with_reducible rfl
    rotate_left
    ·
     simp only [Act.put, List.setIfInBounds_toArray, List.set_cons_zero, List.set_cons_succ, i64_w, i32_w]
     rfl
    refine pure_ (i := 1) (N := some 27) (v := ?_) (a' := ?_) #[true, true, false, false, false, false] rfl rfl (by kernel_rfl) (fun _ _ _ h => h) (Or.inl ⟨by rfl, ?_⟩) ?_ ?_
    rotate_left
    ·
     intro w'
     go_simp
     with_reducible rfl
    rotate_left
    ·
     simp only [Act.put, List.setIfInBounds_toArray, List.set_cons_zero, List.set_cons_succ, i64_w, i32_w]
     rfl
    refine pure_ (i := 2) (N := some 28) (v := ?_) (a' := ?_) #[true, true, true, false, false, false] rfl rfl (by kernel_rfl) (fun _ _ _ h => h) (Or.inl ⟨by rfl, ?_⟩) ?_ ?_
    rotate_left
    ·
     intro w'
     go_simp
     with_reducible rfl
    rotate_left
    ·
     simp only [Act.put, List.setIfInBounds_toArray, List.set_cons_zero, List.set_cons_succ, i64_w, i32_w]
     rfl
    refine one_ (i := 3) (N := none) #[true, true, true, true, false, false] rfl rfl (by kernel_rfl) (by decide) (fun K hK => ?_)
    have hs51 : w50.cell? ⟨gb109, 3, none⟩ = some (.bool false) := (blk_cell BK109.out 3).trans rfl
    have hfs51 := xf BK109 3
    have hns51_0 := NB108_109.out
    have hms51_0 := NB109_108.out
    refine skip_ (w1 := ?_) (by rfl) rfl ?_ ?_
    rotate_left
    ·
     go_simp
     rfl
    refine hK.out _ _ trivial (fun hHeld => ?_)
    clear hK K
    refine pure_ (i := 4) (N := some 29) (v := ?_) (a' := ?_) #[true, true, true, true, true, false] rfl rfl (by kernel_rfl) (fun _ _ _ h => h) (Or.inl ⟨by rfl, ?_⟩) ?_ ?_
    rotate_left
    ·
     intro w'
     go_simp
     with_reducible rfl
    rotate_left
    ·
     simp only [Act.put, List.setIfInBounds_toArray, List.set_cons_zero, List.set_cons_succ, i64_w, i32_w]
     rfl
    refine one_ (i := 5) (N := none) #[true, true, true, true, true, true] rfl rfl (by kernel_rfl) (by decide) (fun K hK => ?_)
    have hs52 : w50.cell? ⟨gb109, 4, none⟩ = some (.string (⟨#[]⟩ : ByteArray)) := (blk_cell BK109.out 4).trans rfl
    have hfs52 := xf BK109 4
    have hns52_0 := NB108_109.out
    have hms52_0 := NB109_108.out
    refine skip_ (w1 := ?_) (by rfl) rfl ?_ ?_
    rotate_left
    ·
     go_simp
     rfl
    refine hK.out _ _ trivial (fun hHeld => ?_)
    clear hK K
    refine done_ (by kernel_rfl) ?_
    obtain ⟨hcz53_0, hcz53_1, hcz53_2, hcz53_3, hcz53_4⟩ := xc5 BK109
    have hfz53_0 := xf BK109 0
    have hfz53_1 := xf BK109 1
    have hfz53_2 := xf BK109 2
    have hfz53_3 := xf BK109 3
    have hfz53_4 := xf BK109 4
    obtain ⟨hcz54_0, hcz54_1, hcz54_2, hcz54_3, hcz54_4⟩ := xc5 BK108
    have hfz54_0 := xf BK108 0
    have hfz54_1 := xf BK108 1
    have hfz54_2 := xf BK108 2
    have hfz54_3 := xf BK108 3
    have hfz54_4 := xf BK108 4
    try go_wp2
    refine bodyPost_ret (results_cell_row rfl _ _ gb108 24 #[.bool false, .string (⟨#[]⟩ : ByteArray), .string t113, .bool true, .string ji44] (0, 0) _ rfl xbk Tryd.underlying24 rfl (by kernel_rfl)) rfl ?_
    exact ⟨by first | rfl | (simp [errW_none, errW_some] <;> first | rfl | (simp only [xp_isEmpty, bne, Bool.not_not]; done)) | (simp only [← hji44]; first | rfl | (simp [errW_none, errW_some] <;> rfl)) | (simp [*, errW_none, errW_some] <;> rfl), xbl⟩
   ·
    rw [if_neg c43] at H
    exact absurd H (by simp)
def monikerlaw21_awake.f (k : Nat)  : Option (Bool) := (seat_Part.f k (⟨#[117, 64, 104, 58, 56, 48]⟩ : ByteArray)).bind fun bt115 => ((seat_Part.f k (⟨#[91, 58, 58, 49, 93, 58]⟩ : ByteArray)).bind fun bt120 => (if (bt115.1 && (bt115.2.1.toList == ([117] : List UInt8) && (bt115.2.2.1.toList == ([104] : List UInt8) && (bt115.2.2.2.1 && (bt115.2.2.2.2.toList == ([56, 48] : List UInt8)))))) = true then (some (!bt120.1 && (bt120.2.1.toList == ([] : List UInt8) && (bt120.2.2.1.toList == ([91, 58, 58, 49, 93] : List UInt8) && (bt120.2.2.2.1 && (bt120.2.2.2.2.toList == ([] : List UInt8))))))) else (some false)))
theorem monikerlaw21_awake.mono : ∀ k, LeO (monikerlaw21_awake.f k ) (monikerlaw21_awake.f (k + 1) ) := by
  intro  k
  have m0 := @seat_Part.mono
  unfold monikerlaw21_awake.f
  exact xmo
set_option maxHeartbeats 8000000 in
set_option maxRecDepth 100000 in
theorem monikerlaw21_awake.calls (k : Nat)  (r : Bool) (w : World) (h : monikerlaw21_awake.f k  = some r) :
    Calls Tryd.prog 5 #[] w fun e w' => e = .returned (.bool r) ∧ Below w.heap.size w w' := by
 have hu24 := Tryd.underlying24
 have HB := Aside0.mk (Below.refl w.heap.size w)
 have H : ((seat_Part.f k (⟨#[117, 64, 104, 58, 56, 48]⟩ : ByteArray)).bind fun bt115 => ((seat_Part.f k (⟨#[91, 58, 58, 49, 93, 58]⟩ : ByteArray)).bind fun bt120 => (if (bt115.1 && (bt115.2.1.toList == ([117] : List UInt8) && (bt115.2.2.1.toList == ([104] : List UInt8) && (bt115.2.2.2.1 && (bt115.2.2.2.2.toList == ([56, 48] : List UInt8)))))) = true then (some (!bt120.1 && (bt120.2.1.toList == ([] : List UInt8) && (bt120.2.2.1.toList == ([91, 58, 58, 49, 93] : List UInt8) && (bt120.2.2.2.1 && (bt120.2.2.2.2.toList == ([] : List UInt8))))))) else (some false)))) = some r := h
 clear h
 replace H := Option.bind_eq_some_iff.mp H
 obtain ⟨⟨t115, t116, t117, t118, t119⟩, A10, H⟩ := H
 try dsimp only at H
 have A1 := Aside0.mk A10
 clear A10
 replace H := Option.bind_eq_some_iff.mp H
 obtain ⟨⟨t120, t121, t122, t123, t124⟩, A20, H⟩ := H
 try dsimp only at H
 have A2 := Aside0.mk A20
 clear A20
 by_cases c3 : (t115 && (t116.toList == ([117] : List UInt8) && (t117.toList == ([104] : List UInt8) && (t118 && (t119.toList == ([56, 48] : List UInt8)))))) = true
 ·
  rw [if_pos c3] at H
  have c3b0 : (t115 && (t116.toList == ([117] : List UInt8) && (t117.toList == ([104] : List UInt8) && (t118 && (t119.toList == ([56, 48] : List UInt8)))))) = true := c3
  clear c3
  obtain rfl := Option.some.inj H
  go_enter Tryd.func5, Tryd.ntmps5
  go_wp2_with (first | ((with_reducible refine gate_callee (f := 12) rfl ?_); refine xgl 3 Tryd.func12 #[.string (⟨#[117, 64, 104, 58, 56, 48]⟩ : ByteArray)] ?_; (with_reducible refine (seat_Part.calls k (⟨#[117, 64, 104, 58, 56, 48]⟩ : ByteArray) t115 t116 t117 t118 t119 _ A1.out).mono ?_); rintro e w4 ⟨rfl, hb⟩; refine ⟨_, rfl, ?_⟩; replace HB := xst hb; (try clear hb)) | ((with_reducible refine gate_callee (f := 12) rfl ?_); refine xgl 4 Tryd.func12 #[.string (⟨#[91, 58, 58, 49, 93, 58]⟩ : ByteArray)] ?_; (with_reducible refine (seat_Part.calls k (⟨#[91, 58, 58, 49, 93, 58]⟩ : ByteArray) t120 t121 t122 t123 t124 _ A2.out).mono ?_); rintro e w5 ⟨rfl, hb⟩; refine ⟨_, rfl, ?_⟩; replace HB := xst hb; (try clear hb)) | ((with_reducible refine gate_dst (N := 1) rfl ?_); refine xev 1 #[.bool false, .string (⟨#[]⟩ : ByteArray), .string (⟨#[]⟩ : ByteArray), .bool false, .string (⟨#[]⟩ : ByteArray)] 24 ?_; intro gb125 hg w6 hbox hb; have BK125 := Aside0.mk (hbox); have GW125 := xsz hg; have GE125 := GW125; replace HB := xst hb; clear hb hbox hg) | ((with_reducible refine gate_dst (N := 2) rfl ?_); refine xev 2 #[.bool false, .string (⟨#[]⟩ : ByteArray), .string (⟨#[]⟩ : ByteArray), .bool false, .string (⟨#[]⟩ : ByteArray)] 24 ?_; intro gb126 hg w7 hbox hb; have BK126 := Aside0.mk (hbox); have GW126 := xsz hg; have GE126 := GW126; have NB125_126 := xlt (g := gb125) hg; have NB126_125 := xgt (g := gb125) hg; replace BK125 := xbb (g := gb125) (o := .cells #[.bool false, .string (⟨#[]⟩ : ByteArray), .string (⟨#[]⟩ : ByteArray), .bool false, .string (⟨#[]⟩ : ByteArray)] 24 (0, 0)) hb; replace HB := xst hb; clear hb hbox hg; have hnb8 := NB125_126.out; have hnc8 := NB126_125.out; obtain ⟨hcz9_0, hcz9_1, hcz9_2, hcz9_3, hcz9_4⟩ := xc5 BK125; have hfz9_0 := xf BK125 0; have hfz9_1 := xf BK125 1; have hfz9_2 := xf BK125 2; have hfz9_3 := xf BK125 3; have hfz9_4 := xf BK125 4; obtain ⟨hcz10_0, hcz10_1, hcz10_2, hcz10_3, hcz10_4⟩ := xc5 BK126; have hfz10_0 := xf BK126 0; have hfz10_1 := xf BK126 1; have hfz10_2 := xf BK126 2; have hfz10_3 := xf BK126 3; have hfz10_4 := xf BK126 4))
  go_ret
  exact ⟨xre, xbl⟩
 ·
  rw [if_neg c3] at H
  have c3b0 : (t115 && (t116.toList == ([117] : List UInt8) && (t117.toList == ([104] : List UInt8) && (t118 && (t119.toList == ([56, 48] : List UInt8)))))) = false := by simpa using c3
  clear c3
  obtain rfl := Option.some.inj H
  go_enter Tryd.func5, Tryd.ntmps5
  go_wp2_with (first | ((with_reducible refine gate_callee (f := 12) rfl ?_); refine xgl 3 Tryd.func12 #[.string (⟨#[117, 64, 104, 58, 56, 48]⟩ : ByteArray)] ?_; (with_reducible refine (seat_Part.calls k (⟨#[117, 64, 104, 58, 56, 48]⟩ : ByteArray) t115 t116 t117 t118 t119 _ A1.out).mono ?_); rintro e w11 ⟨rfl, hb⟩; refine ⟨_, rfl, ?_⟩; replace HB := xst hb; (try clear hb)) | ((with_reducible refine gate_callee (f := 12) rfl ?_); refine xgl 4 Tryd.func12 #[.string (⟨#[91, 58, 58, 49, 93, 58]⟩ : ByteArray)] ?_; (with_reducible refine (seat_Part.calls k (⟨#[91, 58, 58, 49, 93, 58]⟩ : ByteArray) t120 t121 t122 t123 t124 _ A2.out).mono ?_); rintro e w12 ⟨rfl, hb⟩; refine ⟨_, rfl, ?_⟩; replace HB := xst hb; (try clear hb)) | ((with_reducible refine gate_dst (N := 1) rfl ?_); refine xev 1 #[.bool false, .string (⟨#[]⟩ : ByteArray), .string (⟨#[]⟩ : ByteArray), .bool false, .string (⟨#[]⟩ : ByteArray)] 24 ?_; intro gb125 hg w13 hbox hb; have BK125 := Aside0.mk (hbox); have GW125 := xsz hg; have GE125 := GW125; replace HB := xst hb; clear hb hbox hg) | ((with_reducible refine gate_dst (N := 2) rfl ?_); refine xev 2 #[.bool false, .string (⟨#[]⟩ : ByteArray), .string (⟨#[]⟩ : ByteArray), .bool false, .string (⟨#[]⟩ : ByteArray)] 24 ?_; intro gb126 hg w14 hbox hb; have BK126 := Aside0.mk (hbox); have GW126 := xsz hg; have GE126 := GW126; have NB125_126 := xlt (g := gb125) hg; have NB126_125 := xgt (g := gb125) hg; replace BK125 := xbb (g := gb125) (o := .cells #[.bool false, .string (⟨#[]⟩ : ByteArray), .string (⟨#[]⟩ : ByteArray), .bool false, .string (⟨#[]⟩ : ByteArray)] 24 (0, 0)) hb; replace HB := xst hb; clear hb hbox hg; have hnb15 := NB125_126.out; have hnc15 := NB126_125.out; obtain ⟨hcz16_0, hcz16_1, hcz16_2, hcz16_3, hcz16_4⟩ := xc5 BK125; have hfz16_0 := xf BK125 0; have hfz16_1 := xf BK125 1; have hfz16_2 := xf BK125 2; have hfz16_3 := xf BK125 3; have hfz16_4 := xf BK125 4; obtain ⟨hcz17_0, hcz17_1, hcz17_2, hcz17_3, hcz17_4⟩ := xc5 BK126; have hfz17_0 := xf BK126 0; have hfz17_1 := xf BK126 1; have hfz17_2 := xf BK126 2; have hfz17_3 := xf BK126 3; have hfz17_4 := xf BK126 4))
  go_ret
  exact ⟨xre, xbl⟩
def lexis_extra.f (a0 : Int) : Option (ByteArray × Bool) := if a0 = 1 then (some ((⟨#[58]⟩ : ByteArray), true)) else (if a0 = 2 then (some ((⟨#[]⟩ : ByteArray), true)) else (if a0 = 3 then (some ((⟨#[58, 64]⟩ : ByteArray), true)) else (if a0 = 4 then (some ((⟨#[64]⟩ : ByteArray), true)) else (if a0 = 5 then (some ((⟨#[58, 64, 47]⟩ : ByteArray), true)) else (if a0 = 6 then (some ((⟨#[58, 64, 47, 63]⟩ : ByteArray), true)) else (if a0 = 7 then (some ((⟨#[58, 64, 47, 63]⟩ : ByteArray), true)) else (some ((⟨#[]⟩ : ByteArray), false))))))))
set_option maxHeartbeats 8000000 in
set_option maxRecDepth 100000 in
theorem lexis_extra.calls (a0 : Int) (r1 : ByteArray) (r2 : Bool) (w : World) (h : lexis_extra.f a0 = some (r1, r2)) :
    Calls Tryd.prog 42 #[.int .i64 a0] w fun e w' => e = .returned (.tuple #[.string r1, .bool r2]) ∧ Drawn0 w w' := by
 have H : (if a0 = 1 then (some ((⟨#[58]⟩ : ByteArray), true)) else (if a0 = 2 then (some ((⟨#[]⟩ : ByteArray), true)) else (if a0 = 3 then (some ((⟨#[58, 64]⟩ : ByteArray), true)) else (if a0 = 4 then (some ((⟨#[64]⟩ : ByteArray), true)) else (if a0 = 5 then (some ((⟨#[58, 64, 47]⟩ : ByteArray), true)) else (if a0 = 6 then (some ((⟨#[58, 64, 47, 63]⟩ : ByteArray), true)) else (if a0 = 7 then (some ((⟨#[58, 64, 47, 63]⟩ : ByteArray), true)) else (some ((⟨#[]⟩ : ByteArray), false))))))))) = some (r1, r2) := h
 clear h
 by_cases c2 : a0 = 1
 ·
  rw [if_pos c2] at H
  have c2b0 : (a0 == 1) = true := beq_iff_eq.mpr c2
  have c2b1 : (a0 != 1) = false := bne_eq_false_iff_eq.mpr c2
  clear c2
  simp only [Option.some.injEq, Prod.mk.injEq] at H
  obtain ⟨rfl, rfl⟩ := H
  go_enter Tryd.func42, Tryd.ntmps42
  go_wp2
  go_ret2
  exact ⟨xrr, xdr⟩
 ·
  rw [if_neg c2] at H
  have c2b0 : (a0 == 1) = false := beq_eq_false_iff_ne.mpr c2
  have c2b1 : (a0 != 1) = true := bne_iff_ne.mpr c2
  by_cases c3 : a0 = 2
  ·
   rw [if_pos c3] at H
   have c3b0 : (a0 == 2) = true := beq_iff_eq.mpr c3
   have c3b1 : (a0 != 2) = false := bne_eq_false_iff_eq.mpr c3
   clear c3
   simp only [Option.some.injEq, Prod.mk.injEq] at H
   obtain ⟨rfl, rfl⟩ := H
   go_enter Tryd.func42, Tryd.ntmps42
   go_wp2
   go_ret2
   exact ⟨xrr, xdr⟩
  ·
   rw [if_neg c3] at H
   have c3b0 : (a0 == 2) = false := beq_eq_false_iff_ne.mpr c3
   have c3b1 : (a0 != 2) = true := bne_iff_ne.mpr c3
   by_cases c4 : a0 = 3
   ·
    rw [if_pos c4] at H
    have c4b0 : (a0 == 3) = true := beq_iff_eq.mpr c4
    have c4b1 : (a0 != 3) = false := bne_eq_false_iff_eq.mpr c4
    clear c4
    simp only [Option.some.injEq, Prod.mk.injEq] at H
    obtain ⟨rfl, rfl⟩ := H
    go_enter Tryd.func42, Tryd.ntmps42
    go_wp2
    go_ret2
    exact ⟨xrr, xdr⟩
   ·
    rw [if_neg c4] at H
    have c4b0 : (a0 == 3) = false := beq_eq_false_iff_ne.mpr c4
    have c4b1 : (a0 != 3) = true := bne_iff_ne.mpr c4
    by_cases c5 : a0 = 4
    ·
     rw [if_pos c5] at H
     have c5b0 : (a0 == 4) = true := beq_iff_eq.mpr c5
     have c5b1 : (a0 != 4) = false := bne_eq_false_iff_eq.mpr c5
     clear c5
     simp only [Option.some.injEq, Prod.mk.injEq] at H
     obtain ⟨rfl, rfl⟩ := H
     go_enter Tryd.func42, Tryd.ntmps42
     go_wp2
     go_ret2
     exact ⟨xrr, xdr⟩
    ·
     rw [if_neg c5] at H
     have c5b0 : (a0 == 4) = false := beq_eq_false_iff_ne.mpr c5
     have c5b1 : (a0 != 4) = true := bne_iff_ne.mpr c5
     by_cases c6 : a0 = 5
     ·
      rw [if_pos c6] at H
      have c6b0 : (a0 == 5) = true := beq_iff_eq.mpr c6
      have c6b1 : (a0 != 5) = false := bne_eq_false_iff_eq.mpr c6
      clear c6
      simp only [Option.some.injEq, Prod.mk.injEq] at H
      obtain ⟨rfl, rfl⟩ := H
      go_enter Tryd.func42, Tryd.ntmps42
      go_wp2
      go_ret2
      exact ⟨xrr, xdr⟩
     ·
      rw [if_neg c6] at H
      have c6b0 : (a0 == 5) = false := beq_eq_false_iff_ne.mpr c6
      have c6b1 : (a0 != 5) = true := bne_iff_ne.mpr c6
      by_cases c7 : a0 = 6
      ·
       rw [if_pos c7] at H
       have c7b0 : (a0 == 6) = true := beq_iff_eq.mpr c7
       have c7b1 : (a0 != 6) = false := bne_eq_false_iff_eq.mpr c7
       clear c7
       simp only [Option.some.injEq, Prod.mk.injEq] at H
       obtain ⟨rfl, rfl⟩ := H
       go_enter Tryd.func42, Tryd.ntmps42
       go_wp2
       go_ret2
       exact ⟨xrr, xdr⟩
      ·
       rw [if_neg c7] at H
       have c7b0 : (a0 == 6) = false := beq_eq_false_iff_ne.mpr c7
       have c7b1 : (a0 != 6) = true := bne_iff_ne.mpr c7
       by_cases c8 : a0 = 7
       ·
        rw [if_pos c8] at H
        have c8b0 : (a0 == 7) = true := beq_iff_eq.mpr c8
        have c8b1 : (a0 != 7) = false := bne_eq_false_iff_eq.mpr c8
        clear c8
        simp only [Option.some.injEq, Prod.mk.injEq] at H
        obtain ⟨rfl, rfl⟩ := H
        go_enter Tryd.func42, Tryd.ntmps42
        go_wp2
        go_ret2
        exact ⟨xrr, xdr⟩
       ·
        rw [if_neg c8] at H
        have c8b0 : (a0 == 7) = false := beq_eq_false_iff_ne.mpr c8
        have c8b1 : (a0 != 7) = true := bne_iff_ne.mpr c8
        simp only [Option.some.injEq, Prod.mk.injEq] at H
        obtain ⟨rfl, rfl⟩ := H
        go_enter Tryd.func42, Tryd.ntmps42
        go_wp2
        go_ret2
        exact ⟨xrr, xdr⟩
end Go.Proofs.YtdmigmccfdhdiaaDoor.X
namespace Go.Proofs.YtdmigmccfdhdiaaDoor.X
open Go.RowKit Go.Proofs.YtdmigmccfdhdiaaDoorW.PrintWords Go.Proofs.YtdmigmccfdhdiaaDoorW.PrintLast Go.Proofs.YtdmigmccfdhdiaaDoorW.PrintMore
attribute [local go_sem] max2_int min2_int max_two min_two max_three min_three max_four min_four
set_option linter.unusedVariables false
set_option linter.unusedSimpArgs false
mutual
def octet_sign.j0 : Nat → Int → Bool → Option (Int)
  | 0, _, _ => none
  | k + 1, x3, x4 => if x4 = true then (some 4) else (if x3 = 33 then (octet_sign.j1 k x3 (x3 == 33)) else (if x3 = 36 then (octet_sign.j1 k x3 (x3 == 36)) else (if x3 = 38 then (octet_sign.j1 k x3 (x3 == 38)) else (if x3 = 39 then (octet_sign.j1 k x3 (x3 == 39)) else (if x3 = 40 then (octet_sign.j1 k x3 (x3 == 40)) else (if x3 = 41 then (octet_sign.j1 k x3 (x3 == 41)) else (if x3 = 42 then (octet_sign.j1 k x3 (x3 == 42)) else (if x3 = 43 then (octet_sign.j1 k x3 (x3 == 43)) else (if x3 = 44 then (octet_sign.j1 k x3 (x3 == 44)) else (if x3 = 59 then (octet_sign.j1 k x3 (x3 == 59)) else (octet_sign.j1 k x3 (x3 == 61))))))))))))
def octet_sign.j1 : Nat → Int → Bool → Option (Int)
  | 0, _, _ => none
  | k + 1, x3, x9 => if x9 = true then (some 8) else (if x3 = 58 then (some 16) else (if x3 = 47 then (some 16) else (if x3 = 63 then (some 16) else (if x3 = 35 then (some 16) else (if x3 = 91 then (some 16) else (if x3 = 93 then (some 16) else (if x3 = 64 then (some 16) else (some 0))))))))
end
def octet_sign.f (k : Nat) (a0 : Int) : Option (Int) := if a0 = 45 then (octet_sign.j0 k a0 (a0 == 45)) else (if a0 = 46 then (octet_sign.j0 k a0 (a0 == 46)) else (if a0 = 95 then (octet_sign.j0 k a0 (a0 == 95)) else (octet_sign.j0 k a0 (a0 == 126))))
theorem octet_sign.mono_l : ∀ k, (∀ y0 y1, LeO (octet_sign.j0 k y0 y1) (octet_sign.j0 (k + 1) y0 y1)) ∧ (∀ y0 y1, LeO (octet_sign.j1 k y0 y1) (octet_sign.j1 (k + 1) y0 y1))
  | 0 => ⟨fun _ _ r h => by simp [octet_sign.j0] at h, fun _ _ r h => by simp [octet_sign.j1] at h⟩
  | k + 1 => by
    obtain ⟨ih0, ih1⟩ := octet_sign.mono_l k
    refine ⟨?_, ?_⟩
    · intro y0 y1
      unfold octet_sign.j0
      exact xmo
    · intro y0 y1
      unfold octet_sign.j1
      exact xmo
theorem octet_sign.mono : ∀ a0 k, LeO (octet_sign.f k a0) (octet_sign.f (k + 1) a0) := by
  intro a0 k
  obtain ⟨ih0, ih1⟩ := octet_sign.mono_l k
  unfold octet_sign.f
  exact xmo
set_option maxHeartbeats 8000000 in
set_option maxRecDepth 100000 in
theorem octet_sign.calls (k : Nat) (a0 : Int) (r : Int) (w : World) (h : octet_sign.f k a0 = some r) :
    Calls Tryd.prog 69 #[.int .u8 a0] w fun e w' => e = .returned (.int .i64 r) ∧ Drawn0 w w' := by
 have H : (if a0 = 45 then (octet_sign.j0 k a0 (a0 == 45)) else (if a0 = 46 then (octet_sign.j0 k a0 (a0 == 46)) else (if a0 = 95 then (octet_sign.j0 k a0 (a0 == 95)) else (octet_sign.j0 k a0 (a0 == 126))))) = some r := h
 clear h
 have HC2 := Aside0.mk H
 clear H
 go_enter Tryd.func69, Tryd.ntmps69
 go_upto_if 4 with (fail)
 go_cut [4] (fun v4 wc => ∃ (kq : Nat) (x4_1 : Bool), v4 = .bool x4_1 ∧ Aside0 (octet_sign.j0 kq a0 x4_1 = some r) ∧ Aside0 (kq ≤ k) ∧ Drawn0 w wc)
 case first =>
  have H := HC2.out
  clear HC2
  by_cases c3 : a0 = 45
  ·
   rw [if_pos c3] at H
   have c3b0 : (a0 == 45) = true := beq_iff_eq.mpr c3
   have c3b1 : (a0 != 45) = false := bne_eq_false_iff_eq.mpr c3
   clear c3
   (first | rw [c3b0] | (simp only [i64_w, i32_w]; rw [c3b0]) | skip)
   have H' := Aside0.mk H
   clear H
   go_wp2
   go_meet
   case rel => exact ⟨_, ((a0 == 45)), xrr, H', ⟨xom⟩, xdr⟩
  ·
   rw [if_neg c3] at H
   have c3b0 : (a0 == 45) = false := beq_eq_false_iff_ne.mpr c3
   have c3b1 : (a0 != 45) = true := bne_iff_ne.mpr c3
   (first | rw [c3b0] | (simp only [i64_w, i32_w]; rw [c3b0]) | skip)
   by_cases c4 : a0 = 46
   ·
    rw [if_pos c4] at H
    have c4b0 : (a0 == 46) = true := beq_iff_eq.mpr c4
    have c4b1 : (a0 != 46) = false := bne_eq_false_iff_eq.mpr c4
    clear c4
    have H' := Aside0.mk H
    clear H
    go_wp2
    go_meet
    case rel => exact ⟨_, ((a0 == 46)), xrr, H', ⟨xom⟩, xdr⟩
   ·
    rw [if_neg c4] at H
    have c4b0 : (a0 == 46) = false := beq_eq_false_iff_ne.mpr c4
    have c4b1 : (a0 != 46) = true := bne_iff_ne.mpr c4
    by_cases c5 : a0 = 95
    ·
     rw [if_pos c5] at H
     have c5b0 : (a0 == 95) = true := beq_iff_eq.mpr c5
     have c5b1 : (a0 != 95) = false := bne_eq_false_iff_eq.mpr c5
     clear c5
     have H' := Aside0.mk H
     clear H
     go_wp2
     go_meet
     case rel => exact ⟨_, ((a0 == 95)), xrr, H', ⟨xom⟩, xdr⟩
    ·
     rw [if_neg c5] at H
     have c5b0 : (a0 == 95) = false := beq_eq_false_iff_ne.mpr c5
     have c5b1 : (a0 != 95) = true := bne_iff_ne.mpr c5
     have H' := Aside0.mk H
     clear H
     go_wp2
     go_meet
     case rel => exact ⟨_, ((a0 == 126)), xrr, H', ⟨xom⟩, xdr⟩
 case rest =>
  clear HC2
  obtain ⟨kq, x4_1, rfl, HA, HJ1, ⟨mc1, rfl⟩⟩ := hcut
  cases kq with
  | zero => exact absurd HA.out (by simp [octet_sign.j0])
  | succ kj1 =>
   have H := HA.out
   clear HA
   simp only [octet_sign.j0] at H
   by_cases c6 : x4_1 = true
   ·
    subst c6
    rw [if_pos rfl] at H
    obtain rfl := Option.some.inj H
    go_wp2
    go_ret
    exact ⟨xrr, xdr⟩
   ·
    replace c6 := Bool.eq_false_iff.mpr c6
    subst c6
    rw [if_neg (show ¬ (false = true) by decide)] at H
    have HC7 := Aside0.mk H
    clear H
    go_upto_if 9 with (fail)
    go_cut [9] (fun v9 wc => ∃ (kq : Nat) (x9_6 : Bool), v9 = .bool x9_6 ∧ Aside0 (octet_sign.j1 kq a0 x9_6 = some r) ∧ Aside0 (kq ≤ kj1) ∧ Drawn0 w wc)
    case first =>
     have H := HC7.out
     clear HC7
     by_cases c8 : a0 = 33
     ·
      rw [if_pos c8] at H
      have c8b0 : (a0 == 33) = true := beq_iff_eq.mpr c8
      have c8b1 : (a0 != 33) = false := bne_eq_false_iff_eq.mpr c8
      clear c8
      (first | rw [c8b0] | (simp only [i64_w, i32_w]; rw [c8b0]) | skip)
      have H' := Aside0.mk H
      clear H
      go_wp2
      go_meet
      case rel => exact ⟨_, ((a0 == 33)), xrr, H', ⟨by have := HJ1.out; first | omega | exact Nat.le_refl _⟩, xdr⟩
     ·
      rw [if_neg c8] at H
      have c8b0 : (a0 == 33) = false := beq_eq_false_iff_ne.mpr c8
      have c8b1 : (a0 != 33) = true := bne_iff_ne.mpr c8
      (first | rw [c8b0] | (simp only [i64_w, i32_w]; rw [c8b0]) | skip)
      by_cases c9 : a0 = 36
      ·
       rw [if_pos c9] at H
       have c9b0 : (a0 == 36) = true := beq_iff_eq.mpr c9
       have c9b1 : (a0 != 36) = false := bne_eq_false_iff_eq.mpr c9
       clear c9
       have H' := Aside0.mk H
       clear H
       go_wp2
       go_meet
       case rel => exact ⟨_, ((a0 == 36)), xrr, H', ⟨by have := HJ1.out; first | omega | exact Nat.le_refl _⟩, xdr⟩
      ·
       rw [if_neg c9] at H
       have c9b0 : (a0 == 36) = false := beq_eq_false_iff_ne.mpr c9
       have c9b1 : (a0 != 36) = true := bne_iff_ne.mpr c9
       by_cases c10 : a0 = 38
       ·
        rw [if_pos c10] at H
        have c10b0 : (a0 == 38) = true := beq_iff_eq.mpr c10
        have c10b1 : (a0 != 38) = false := bne_eq_false_iff_eq.mpr c10
        clear c10
        have H' := Aside0.mk H
        clear H
        go_wp2
        go_meet
        case rel => exact ⟨_, ((a0 == 38)), xrr, H', ⟨by have := HJ1.out; first | omega | exact Nat.le_refl _⟩, xdr⟩
       ·
        rw [if_neg c10] at H
        have c10b0 : (a0 == 38) = false := beq_eq_false_iff_ne.mpr c10
        have c10b1 : (a0 != 38) = true := bne_iff_ne.mpr c10
        by_cases c11 : a0 = 39
        ·
         rw [if_pos c11] at H
         have c11b0 : (a0 == 39) = true := beq_iff_eq.mpr c11
         have c11b1 : (a0 != 39) = false := bne_eq_false_iff_eq.mpr c11
         clear c11
         have H' := Aside0.mk H
         clear H
         go_wp2
         go_meet
         case rel => exact ⟨_, ((a0 == 39)), xrr, H', ⟨by have := HJ1.out; first | omega | exact Nat.le_refl _⟩, xdr⟩
        ·
         rw [if_neg c11] at H
         have c11b0 : (a0 == 39) = false := beq_eq_false_iff_ne.mpr c11
         have c11b1 : (a0 != 39) = true := bne_iff_ne.mpr c11
         by_cases c12 : a0 = 40
         ·
          rw [if_pos c12] at H
          have c12b0 : (a0 == 40) = true := beq_iff_eq.mpr c12
          have c12b1 : (a0 != 40) = false := bne_eq_false_iff_eq.mpr c12
          clear c12
          have H' := Aside0.mk H
          clear H
          go_wp2
          go_meet
          case rel => exact ⟨_, ((a0 == 40)), xrr, H', ⟨by have := HJ1.out; first | omega | exact Nat.le_refl _⟩, xdr⟩
         ·
          rw [if_neg c12] at H
          have c12b0 : (a0 == 40) = false := beq_eq_false_iff_ne.mpr c12
          have c12b1 : (a0 != 40) = true := bne_iff_ne.mpr c12
          by_cases c13 : a0 = 41
          ·
           rw [if_pos c13] at H
           have c13b0 : (a0 == 41) = true := beq_iff_eq.mpr c13
           have c13b1 : (a0 != 41) = false := bne_eq_false_iff_eq.mpr c13
           clear c13
           have H' := Aside0.mk H
           clear H
           go_wp2
           go_meet
           case rel => exact ⟨_, ((a0 == 41)), xrr, H', ⟨by have := HJ1.out; first | omega | exact Nat.le_refl _⟩, xdr⟩
          ·
           rw [if_neg c13] at H
           have c13b0 : (a0 == 41) = false := beq_eq_false_iff_ne.mpr c13
           have c13b1 : (a0 != 41) = true := bne_iff_ne.mpr c13
           by_cases c14 : a0 = 42
           ·
            rw [if_pos c14] at H
            have c14b0 : (a0 == 42) = true := beq_iff_eq.mpr c14
            have c14b1 : (a0 != 42) = false := bne_eq_false_iff_eq.mpr c14
            clear c14
            have H' := Aside0.mk H
            clear H
            go_wp2
            go_meet
            case rel => exact ⟨_, ((a0 == 42)), xrr, H', ⟨by have := HJ1.out; first | omega | exact Nat.le_refl _⟩, xdr⟩
           ·
            rw [if_neg c14] at H
            have c14b0 : (a0 == 42) = false := beq_eq_false_iff_ne.mpr c14
            have c14b1 : (a0 != 42) = true := bne_iff_ne.mpr c14
            by_cases c15 : a0 = 43
            ·
             rw [if_pos c15] at H
             have c15b0 : (a0 == 43) = true := beq_iff_eq.mpr c15
             have c15b1 : (a0 != 43) = false := bne_eq_false_iff_eq.mpr c15
             clear c15
             have H' := Aside0.mk H
             clear H
             go_wp2
             go_meet
             case rel => exact ⟨_, ((a0 == 43)), xrr, H', ⟨by have := HJ1.out; first | omega | exact Nat.le_refl _⟩, xdr⟩
            ·
             rw [if_neg c15] at H
             have c15b0 : (a0 == 43) = false := beq_eq_false_iff_ne.mpr c15
             have c15b1 : (a0 != 43) = true := bne_iff_ne.mpr c15
             by_cases c16 : a0 = 44
             ·
              rw [if_pos c16] at H
              have c16b0 : (a0 == 44) = true := beq_iff_eq.mpr c16
              have c16b1 : (a0 != 44) = false := bne_eq_false_iff_eq.mpr c16
              clear c16
              have H' := Aside0.mk H
              clear H
              go_wp2
              go_meet
              case rel => exact ⟨_, ((a0 == 44)), xrr, H', ⟨by have := HJ1.out; first | omega | exact Nat.le_refl _⟩, xdr⟩
             ·
              rw [if_neg c16] at H
              have c16b0 : (a0 == 44) = false := beq_eq_false_iff_ne.mpr c16
              have c16b1 : (a0 != 44) = true := bne_iff_ne.mpr c16
              by_cases c17 : a0 = 59
              ·
               rw [if_pos c17] at H
               have c17b0 : (a0 == 59) = true := beq_iff_eq.mpr c17
               have c17b1 : (a0 != 59) = false := bne_eq_false_iff_eq.mpr c17
               clear c17
               have H' := Aside0.mk H
               clear H
               go_wp2
               go_meet
               case rel => exact ⟨_, ((a0 == 59)), xrr, H', ⟨by have := HJ1.out; first | omega | exact Nat.le_refl _⟩, xdr⟩
              ·
               rw [if_neg c17] at H
               have c17b0 : (a0 == 59) = false := beq_eq_false_iff_ne.mpr c17
               have c17b1 : (a0 != 59) = true := bne_iff_ne.mpr c17
               have H' := Aside0.mk H
               clear H
               go_wp2
               go_meet
               case rel => exact ⟨_, ((a0 == 61)), xrr, H', ⟨by have := HJ1.out; first | omega | exact Nat.le_refl _⟩, xdr⟩
    case rest =>
     clear HC7
     obtain ⟨kq, x9_6, rfl, HA, HJ6, ⟨mc6, rfl⟩⟩ := hcut
     cases kq with
     | zero => exact absurd HA.out (by simp [octet_sign.j1])
     | succ kj6 =>
      have H := HA.out
      clear HA
      simp only [octet_sign.j1] at H
      by_cases c18 : x9_6 = true
      ·
       subst c18
       rw [if_pos rfl] at H
       obtain rfl := Option.some.inj H
       go_wp2
       go_ret
       exact ⟨xrr, xdr⟩
      ·
       replace c18 := Bool.eq_false_iff.mpr c18
       subst c18
       rw [if_neg (show ¬ (false = true) by decide)] at H
       by_cases c19 : a0 = 58
       ·
        rw [if_pos c19] at H
        have c19b0 : (a0 == 58) = true := beq_iff_eq.mpr c19
        have c19b1 : (a0 != 58) = false := bne_eq_false_iff_eq.mpr c19
        clear c19
        obtain rfl := Option.some.inj H
        go_wp2
        go_ret
        exact ⟨xrr, xdr⟩
       ·
        rw [if_neg c19] at H
        have c19b0 : (a0 == 58) = false := beq_eq_false_iff_ne.mpr c19
        have c19b1 : (a0 != 58) = true := bne_iff_ne.mpr c19
        by_cases c20 : a0 = 47
        ·
         rw [if_pos c20] at H
         have c20b0 : (a0 == 47) = true := beq_iff_eq.mpr c20
         have c20b1 : (a0 != 47) = false := bne_eq_false_iff_eq.mpr c20
         clear c20
         obtain rfl := Option.some.inj H
         go_wp2
         go_ret
         exact ⟨xrr, xdr⟩
        ·
         rw [if_neg c20] at H
         have c20b0 : (a0 == 47) = false := beq_eq_false_iff_ne.mpr c20
         have c20b1 : (a0 != 47) = true := bne_iff_ne.mpr c20
         by_cases c21 : a0 = 63
         ·
          rw [if_pos c21] at H
          have c21b0 : (a0 == 63) = true := beq_iff_eq.mpr c21
          have c21b1 : (a0 != 63) = false := bne_eq_false_iff_eq.mpr c21
          clear c21
          obtain rfl := Option.some.inj H
          go_wp2
          go_ret
          exact ⟨xrr, xdr⟩
         ·
          rw [if_neg c21] at H
          have c21b0 : (a0 == 63) = false := beq_eq_false_iff_ne.mpr c21
          have c21b1 : (a0 != 63) = true := bne_iff_ne.mpr c21
          by_cases c22 : a0 = 35
          ·
           rw [if_pos c22] at H
           have c22b0 : (a0 == 35) = true := beq_iff_eq.mpr c22
           have c22b1 : (a0 != 35) = false := bne_eq_false_iff_eq.mpr c22
           clear c22
           obtain rfl := Option.some.inj H
           go_wp2
           go_ret
           exact ⟨xrr, xdr⟩
          ·
           rw [if_neg c22] at H
           have c22b0 : (a0 == 35) = false := beq_eq_false_iff_ne.mpr c22
           have c22b1 : (a0 != 35) = true := bne_iff_ne.mpr c22
           by_cases c23 : a0 = 91
           ·
            rw [if_pos c23] at H
            have c23b0 : (a0 == 91) = true := beq_iff_eq.mpr c23
            have c23b1 : (a0 != 91) = false := bne_eq_false_iff_eq.mpr c23
            clear c23
            obtain rfl := Option.some.inj H
            go_wp2
            go_ret
            exact ⟨xrr, xdr⟩
           ·
            rw [if_neg c23] at H
            have c23b0 : (a0 == 91) = false := beq_eq_false_iff_ne.mpr c23
            have c23b1 : (a0 != 91) = true := bne_iff_ne.mpr c23
            by_cases c24 : a0 = 93
            ·
             rw [if_pos c24] at H
             have c24b0 : (a0 == 93) = true := beq_iff_eq.mpr c24
             have c24b1 : (a0 != 93) = false := bne_eq_false_iff_eq.mpr c24
             clear c24
             obtain rfl := Option.some.inj H
             go_wp2
             go_ret
             exact ⟨xrr, xdr⟩
            ·
             rw [if_neg c24] at H
             have c24b0 : (a0 == 93) = false := beq_eq_false_iff_ne.mpr c24
             have c24b1 : (a0 != 93) = true := bne_iff_ne.mpr c24
             by_cases c25 : a0 = 64
             ·
              rw [if_pos c25] at H
              have c25b0 : (a0 == 64) = true := beq_iff_eq.mpr c25
              have c25b1 : (a0 != 64) = false := bne_eq_false_iff_eq.mpr c25
              clear c25
              obtain rfl := Option.some.inj H
              go_wp2
              go_ret
              exact ⟨xrr, xdr⟩
             ·
              rw [if_neg c25] at H
              have c25b0 : (a0 == 64) = false := beq_eq_false_iff_ne.mpr c25
              have c25b1 : (a0 != 64) = true := bne_iff_ne.mpr c25
              obtain rfl := Option.some.inj H
              go_wp2
              go_ret
              exact ⟨xrr, xdr⟩
end Go.Proofs.YtdmigmccfdhdiaaDoor.X
namespace Go.Proofs.YtdmigmccfdhdiaaDoor.X
open Go.RowKit Go.Proofs.YtdmigmccfdhdiaaDoorW.PrintWords Go.Proofs.YtdmigmccfdhdiaaDoorW.PrintLast Go.Proofs.YtdmigmccfdhdiaaDoorW.PrintMore
attribute [local go_sem] max2_int min2_int max_two min_two max_three min_three max_four min_four
set_option linter.unusedVariables false
set_option linter.unusedSimpArgs false
mutual
def octet_Class.j0 : Nat → Int → Bool → Option (Int)
  | 0, _, _ => none
  | k + 1, x0, x3 => if x3 = true then (some 34) else (if x0 ≥ 97 then (octet_Class.j1 k x0 (decide (x0 ≤ 102))) else (octet_Class.j1 k x0 false))
def octet_Class.j1 : Nat → Int → Bool → Option (Int)
  | 0, _, _ => none
  | k + 1, x0, x10 => if x10 = true then (octet_Class.j2 k x0 x10) else (if x0 ≥ 65 then (octet_Class.j2 k x0 (decide (x0 ≤ 70))) else (octet_Class.j2 k x0 false))
def octet_Class.j2 : Nat → Int → Bool → Option (Int)
  | 0, _, _ => none
  | k + 1, x0, x10 => if x10 = true then (some 33) else (if x0 ≥ 103 then (octet_Class.j3 k x0 (decide (x0 ≤ 122))) else (octet_Class.j3 k x0 false))
def octet_Class.j3 : Nat → Int → Bool → Option (Int)
  | 0, _, _ => none
  | k + 1, x0, x23 => if x23 = true then (some 1) else (if x0 ≥ 71 then (if x0 ≤ 90 then (some 1) else ((octet_sign.f k x0).bind fun t127 => (some t127))) else ((octet_sign.f k x0).bind fun t128 => (some t128)))
end
def octet_Class.f (k : Nat) (a0 : Int) : Option (Int) := if a0 ≥ 48 then (octet_Class.j0 k a0 (decide (a0 ≤ 57))) else (octet_Class.j0 k a0 false)
theorem octet_Class.mono_l : ∀ k, (∀ y0 y1, LeO (octet_Class.j0 k y0 y1) (octet_Class.j0 (k + 1) y0 y1)) ∧ (∀ y0 y1, LeO (octet_Class.j1 k y0 y1) (octet_Class.j1 (k + 1) y0 y1)) ∧ (∀ y0 y1, LeO (octet_Class.j2 k y0 y1) (octet_Class.j2 (k + 1) y0 y1)) ∧ (∀ y0 y1, LeO (octet_Class.j3 k y0 y1) (octet_Class.j3 (k + 1) y0 y1))
  | 0 => ⟨fun _ _ r h => by simp [octet_Class.j0] at h, fun _ _ r h => by simp [octet_Class.j1] at h, fun _ _ r h => by simp [octet_Class.j2] at h, fun _ _ r h => by simp [octet_Class.j3] at h⟩
  | k + 1 => by
    obtain ⟨ih0, ih1, ih2, ih3⟩ := octet_Class.mono_l k
    have m0 := @octet_sign.mono
    refine ⟨?_, ?_, ?_, ?_⟩
    · intro y0 y1
      unfold octet_Class.j0
      exact xmo
    · intro y0 y1
      unfold octet_Class.j1
      exact xmo
    · intro y0 y1
      unfold octet_Class.j2
      exact xmo
    · intro y0 y1
      unfold octet_Class.j3
      exact xmo
theorem octet_Class.mono : ∀ a0 k, LeO (octet_Class.f k a0) (octet_Class.f (k + 1) a0) := by
  intro a0 k
  obtain ⟨ih0, ih1, ih2, ih3⟩ := octet_Class.mono_l k
  have m0 := @octet_sign.mono
  unfold octet_Class.f
  exact xmo
set_option maxHeartbeats 8000000 in
set_option maxRecDepth 100000 in
theorem octet_Class.calls (k : Nat) (a0 : Int) (r : Int) (w : World) (h : octet_Class.f k a0 = some r) :
    Calls Tryd.prog 51 #[.int .u8 a0] w fun e w' => e = .returned (.int .i64 r) ∧ Drawn0 w w' := by
 have H : (if a0 ≥ 48 then (octet_Class.j0 k a0 (decide (a0 ≤ 57))) else (octet_Class.j0 k a0 false)) = some r := h
 clear h
 have HC2 := Aside0.mk H
 clear H
 go_enter Tryd.func51, Tryd.ntmps51
 go_upto_region 1 with (fail)
 go_cut [3] (fun v3 wc => ∃ (kq : Nat) (x3_1 : Bool), v3 = .bool x3_1 ∧ Aside0 (octet_Class.j0 kq a0 x3_1 = some r) ∧ Aside0 (kq ≤ k) ∧ Drawn0 w wc)
 case first =>
  have H := HC2.out
  clear HC2
  by_cases c3 : a0 ≥ 48
  ·
   rw [if_pos c3] at H
   have c3b0 := decide_eq_true c3
   clear c3
   (first | rw [c3b0] | (simp only [i64_w, i32_w]; rw [c3b0]) | skip)
   have H' := Aside0.mk H
   clear H
   go_wp2
   go_meet
   case rel => exact ⟨_, (decide (a0 ≤ 57)), xrr, H', ⟨xom⟩, xdr⟩
  ·
   rw [if_neg c3] at H
   have c3b0 := decide_eq_false c3
   clear c3
   (first | rw [c3b0] | (simp only [i64_w, i32_w]; rw [c3b0]) | skip)
   have H' := Aside0.mk H
   clear H
   go_wp2
   go_meet
   case rel => exact ⟨_, (false), xrr, H', ⟨xom⟩, xdr⟩
 case rest =>
  clear HC2
  obtain ⟨kq, x3_1, rfl, HA, HJ1, ⟨mc1, rfl⟩⟩ := hcut
  cases kq with
  | zero => exact absurd HA.out (by simp [octet_Class.j0])
  | succ kj1 =>
   have H := HA.out
   clear HA
   simp only [octet_Class.j0] at H
   by_cases c4 : x3_1 = true
   ·
    subst c4
    rw [if_pos rfl] at H
    obtain rfl := Option.some.inj H
    go_wp2
    go_ret
    exact ⟨xrr, xdr⟩
   ·
    replace c4 := Bool.eq_false_iff.mpr c4
    subst c4
    rw [if_neg (show ¬ (false = true) by decide)] at H
    have HC5 := Aside0.mk H
    clear H
    go_upto_region 3 with (fail)
    go_cut [10] (fun v10 wc => ∃ (kq : Nat) (x10_4 : Bool), v10 = .bool x10_4 ∧ Aside0 (octet_Class.j1 kq a0 x10_4 = some r) ∧ Aside0 (kq ≤ kj1) ∧ Drawn0 w wc)
    case first =>
     have H := HC5.out
     clear HC5
     by_cases c6 : a0 ≥ 97
     ·
      rw [if_pos c6] at H
      have c6b0 := decide_eq_true c6
      clear c6
      (first | rw [c6b0] | (simp only [i64_w, i32_w]; rw [c6b0]) | skip)
      have H' := Aside0.mk H
      clear H
      go_wp2
      go_meet
      case rel => exact ⟨_, (decide (a0 ≤ 102)), xrr, H', ⟨by have := HJ1.out; first | omega | exact Nat.le_refl _⟩, xdr⟩
     ·
      rw [if_neg c6] at H
      have c6b0 := decide_eq_false c6
      clear c6
      (first | rw [c6b0] | (simp only [i64_w, i32_w]; rw [c6b0]) | skip)
      have H' := Aside0.mk H
      clear H
      go_wp2
      go_meet
      case rel => exact ⟨_, (false), xrr, H', ⟨by have := HJ1.out; first | omega | exact Nat.le_refl _⟩, xdr⟩
    case rest =>
     clear HC5
     obtain ⟨kq, x10_4, rfl, HA, HJ4, ⟨mc4, rfl⟩⟩ := hcut
     cases kq with
     | zero => exact absurd HA.out (by simp [octet_Class.j1])
     | succ kj4 =>
      have H := HA.out
      clear HA
      simp only [octet_Class.j1] at H
      have HC7 := Aside0.mk H
      clear H
      go_upto_if 10 with (fail)
      go_cut [10] (fun v10 wc => ∃ (kq : Nat) (x10_6 : Bool), v10 = .bool x10_6 ∧ Aside0 (octet_Class.j2 kq a0 x10_6 = some r) ∧ Aside0 (kq ≤ kj4) ∧ Drawn0 w wc)
      case first =>
       have H := HC7.out
       clear HC7
       by_cases c8 : x10_4 = true
       ·
        subst c8
        rw [if_pos rfl] at H
        have H' := Aside0.mk H
        clear H
        go_wp2
        go_meet
        case rel => exact ⟨_, (true), xrr, H', ⟨by have := HJ1.out; have := HJ4.out; first | omega | exact Nat.le_refl _⟩, xdr⟩
       ·
        replace c8 := Bool.eq_false_iff.mpr c8
        subst c8
        rw [if_neg (show ¬ (false = true) by decide)] at H
        by_cases c9 : a0 ≥ 65
        ·
         rw [if_pos c9] at H
         have c9b0 := decide_eq_true c9
         clear c9
         (first | rw [c9b0] | (simp only [i64_w, i32_w]; rw [c9b0]) | skip)
         have H' := Aside0.mk H
         clear H
         go_wp2
         go_meet
         case rel => exact ⟨_, (decide (a0 ≤ 70)), xrr, H', ⟨by have := HJ1.out; have := HJ4.out; first | omega | exact Nat.le_refl _⟩, xdr⟩
        ·
         rw [if_neg c9] at H
         have c9b0 := decide_eq_false c9
         clear c9
         (first | rw [c9b0] | (simp only [i64_w, i32_w]; rw [c9b0]) | skip)
         have H' := Aside0.mk H
         clear H
         go_wp2
         go_meet
         case rel => exact ⟨_, (false), xrr, H', ⟨by have := HJ1.out; have := HJ4.out; first | omega | exact Nat.le_refl _⟩, xdr⟩
      case rest =>
       clear HC7
       obtain ⟨kq, x10_6, rfl, HA, HJ6, ⟨mc6, rfl⟩⟩ := hcut
       cases kq with
       | zero => exact absurd HA.out (by simp [octet_Class.j2])
       | succ kj6 =>
        have H := HA.out
        clear HA
        simp only [octet_Class.j2] at H
        by_cases c10 : x10_6 = true
        ·
         subst c10
         rw [if_pos rfl] at H
         obtain rfl := Option.some.inj H
         go_wp2
         go_ret
         exact ⟨xrr, xdr⟩
        ·
         replace c10 := Bool.eq_false_iff.mpr c10
         subst c10
         rw [if_neg (show ¬ (false = true) by decide)] at H
         have HC11 := Aside0.mk H
         clear H
         go_upto_region 6 with (fail)
         go_cut [23] (fun v23 wc => ∃ (kq : Nat) (x23_10 : Bool), v23 = .bool x23_10 ∧ Aside0 (octet_Class.j3 kq a0 x23_10 = some r) ∧ Aside0 (kq ≤ kj6) ∧ Drawn0 w wc)
         case first =>
          have H := HC11.out
          clear HC11
          by_cases c12 : a0 ≥ 103
          ·
           rw [if_pos c12] at H
           have c12b0 := decide_eq_true c12
           clear c12
           (first | rw [c12b0] | (simp only [i64_w, i32_w]; rw [c12b0]) | skip)
           have H' := Aside0.mk H
           clear H
           go_wp2
           go_meet
           case rel => exact ⟨_, (decide (a0 ≤ 122)), xrr, H', ⟨by have := HJ1.out; have := HJ4.out; have := HJ6.out; first | omega | exact Nat.le_refl _⟩, xdr⟩
          ·
           rw [if_neg c12] at H
           have c12b0 := decide_eq_false c12
           clear c12
           (first | rw [c12b0] | (simp only [i64_w, i32_w]; rw [c12b0]) | skip)
           have H' := Aside0.mk H
           clear H
           go_wp2
           go_meet
           case rel => exact ⟨_, (false), xrr, H', ⟨by have := HJ1.out; have := HJ4.out; have := HJ6.out; first | omega | exact Nat.le_refl _⟩, xdr⟩
         case rest =>
          clear HC11
          obtain ⟨kq, x23_10, rfl, HA, HJ10, ⟨mc10, rfl⟩⟩ := hcut
          cases kq with
          | zero => exact absurd HA.out (by simp [octet_Class.j3])
          | succ kj10 =>
           have H := HA.out
           clear HA
           simp only [octet_Class.j3] at H
           by_cases c13 : x23_10 = true
           ·
            subst c13
            rw [if_pos rfl] at H
            obtain rfl := Option.some.inj H
            go_wp2
            go_ret
            exact ⟨xrr, xdr⟩
           ·
            replace c13 := Bool.eq_false_iff.mpr c13
            subst c13
            rw [if_neg (show ¬ (false = true) by decide)] at H
            by_cases c14 : a0 ≥ 71
            ·
             rw [if_pos c14] at H
             have c14b0 := decide_eq_true c14
             clear c14
             by_cases c15 : a0 ≤ 90
             ·
              rw [if_pos c15] at H
              have c15b0 := decide_eq_true c15
              clear c15
              obtain rfl := Option.some.inj H
              go_wp2
              go_ret
              exact ⟨xrr, xdr⟩
             ·
              rw [if_neg c15] at H
              have c15b0 := decide_eq_false c15
              clear c15
              replace H := Option.bind_eq_some_iff.mp H
              obtain ⟨t127, A160, H⟩ := H
              try dsimp only at H
              have A16 := Aside0.mk A160
              clear A160
              obtain rfl := Option.some.inj H
              go_wp2_with (first | ((with_reducible refine gate_callee (f := 69) rfl ?_); refine xgl 37 Tryd.func69 #[.int .u8 a0] ?_; (with_reducible refine (octet_sign.calls kj10 a0 t127 _ A16.out).mono ?_); rintro e w' ⟨rfl, ⟨nd, rfl⟩⟩; refine ⟨_, rfl, ?_⟩))
              go_ret
              exact ⟨xrr, xdr⟩
            ·
             rw [if_neg c14] at H
             have c14b0 := decide_eq_false c14
             clear c14
             replace H := Option.bind_eq_some_iff.mp H
             obtain ⟨t128, A170, H⟩ := H
             try dsimp only at H
             have A17 := Aside0.mk A170
             clear A170
             obtain rfl := Option.some.inj H
             go_wp2_with (first | ((with_reducible refine gate_callee (f := 69) rfl ?_); refine xgl 37 Tryd.func69 #[.int .u8 a0] ?_; (with_reducible refine (octet_sign.calls kj10 a0 t128 _ A17.out).mono ?_); rintro e w' ⟨rfl, ⟨nd, rfl⟩⟩; refine ⟨_, rfl, ?_⟩))
             go_ret
             exact ⟨xrr, xdr⟩
def octet_Is.f (k : Nat) (a0 : Int) (a1 : Int) : Option (Bool) := (octet_Class.f k a0).bind fun t129 => (some ((Go.bits .and .i64 t129 a1) != 0))
theorem octet_Is.mono : ∀ a0 a1 k, LeO (octet_Is.f k a0 a1) (octet_Is.f (k + 1) a0 a1) := by
  intro a0 a1 k
  have m0 := @octet_Class.mono
  unfold octet_Is.f
  exact xmo
set_option maxHeartbeats 8000000 in
set_option maxRecDepth 100000 in
theorem octet_Is.calls (k : Nat) (a0 : Int) (a1 : Int) (r : Bool) (w : World) (h : octet_Is.f k a0 a1 = some r) :
    Calls Tryd.prog 30 #[.int .u8 a0, .int .i64 a1] w fun e w' => e = .returned (.bool r) ∧ Drawn0 w w' := by
 have H : ((octet_Class.f k a0).bind fun t129 => (some ((Go.bits .and .i64 t129 a1) != 0))) = some r := h
 clear h
 replace H := Option.bind_eq_some_iff.mp H
 obtain ⟨t129, A30, H⟩ := H
 try dsimp only at H
 have A3 := Aside0.mk A30
 clear A30
 obtain rfl := Option.some.inj H
 go_enter Tryd.func30, Tryd.ntmps30
 go_wp2_with (first | ((with_reducible refine gate_callee (f := 51) rfl ?_); refine xgl 6 Tryd.func51 #[.int .u8 a0] ?_; (with_reducible refine (octet_Class.calls k a0 t129 _ A3.out).mono ?_); rintro e w' ⟨rfl, ⟨nd, rfl⟩⟩; refine ⟨_, rfl, ?_⟩))
 go_ret
 exact ⟨xrr, xdr⟩
def octet_low.f (a0 : Int) : Option (Int) := if a0 ≥ 65 then (if a0 ≤ 90 then (some (Go.bits .or .u8 a0 32)) else (some a0)) else (some a0)
set_option maxHeartbeats 8000000 in
set_option maxRecDepth 100000 in
theorem octet_low.calls (a0 : Int) (r : Int) (w : World) (h : octet_low.f a0 = some r) :
    Calls Tryd.prog 71 #[.int .u8 a0] w fun e w' => e = .returned (.int .u8 r) ∧ Drawn0 w w' := by
 have H : (if a0 ≥ 65 then (if a0 ≤ 90 then (some (Go.bits .or .u8 a0 32)) else (some a0)) else (some a0)) = some r := h
 clear h
 by_cases c2 : a0 ≥ 65
 ·
  rw [if_pos c2] at H
  have c2b0 := decide_eq_true c2
  clear c2
  by_cases c3 : a0 ≤ 90
  ·
   rw [if_pos c3] at H
   have c3b0 := decide_eq_true c3
   clear c3
   obtain rfl := Option.some.inj H
   go_enter Tryd.func71, Tryd.ntmps71
   go_wp2
   go_ret
   exact ⟨xrr, xdr⟩
  ·
   rw [if_neg c3] at H
   have c3b0 := decide_eq_false c3
   clear c3
   obtain rfl := Option.some.inj H
   go_enter Tryd.func71, Tryd.ntmps71
   go_wp2
   go_ret
   exact ⟨xrr, xdr⟩
 ·
  rw [if_neg c2] at H
  have c2b0 := decide_eq_false c2
  clear c2
  obtain rfl := Option.some.inj H
  go_enter Tryd.func71, Tryd.ntmps71
  go_wp2
  go_ret
  exact ⟨xrr, xdr⟩
def octet_Value.j0 : Nat → Int → Bool → Option (Int × Bool)
  | 0, _, _ => none
  | k + 1, x0, x4 => if x4 = true then (some ((x0 - 48) % 256, true)) else ((octet_Is.f k x0 32).bind fun t130 => (if t130 = true then ((octet_low.f x0).bind fun t131 => (some (((t131 - 97) % 256) + 10, true))) else (some (0, false))))
def octet_Value.f (k : Nat) (a0 : Int) : Option (Int × Bool) := if a0 ≥ 48 then (octet_Value.j0 k a0 (decide (a0 ≤ 57))) else (octet_Value.j0 k a0 false)
theorem octet_Value.mono_l : ∀ k, (∀ y0 y1, LeO (octet_Value.j0 k y0 y1) (octet_Value.j0 (k + 1) y0 y1))
  | 0 => fun _ _ r h => by simp [octet_Value.j0] at h
  | k + 1 => by
    have ih0 := octet_Value.mono_l k
    have m0 := @octet_Is.mono
    · intro y0 y1
      unfold octet_Value.j0
      exact xmo
theorem octet_Value.mono : ∀ a0 k, LeO (octet_Value.f k a0) (octet_Value.f (k + 1) a0) := by
  intro a0 k
  have ih0 := octet_Value.mono_l k
  have m0 := @octet_Is.mono
  unfold octet_Value.f
  exact xmo
set_option maxHeartbeats 8000000 in
set_option maxRecDepth 100000 in
theorem octet_Value.calls (k : Nat) (a0 : Int) (r1 : Int) (r2 : Bool) (w : World) (h : octet_Value.f k a0 = some (r1, r2)) :
    Calls Tryd.prog 61 #[.int .u8 a0] w fun e w' => e = .returned (.tuple #[.int .i64 r1, .bool r2]) ∧ Drawn0 w w' := by
 have H : (if a0 ≥ 48 then (octet_Value.j0 k a0 (decide (a0 ≤ 57))) else (octet_Value.j0 k a0 false)) = some (r1, r2) := h
 clear h
 have HC2 := Aside0.mk H
 clear H
 go_enter Tryd.func61, Tryd.ntmps61
 go_upto_region 1 with (fail)
 go_cut [4] (fun v4 wc => ∃ (kq : Nat) (x4_1 : Bool), v4 = .bool x4_1 ∧ Aside0 (octet_Value.j0 kq a0 x4_1 = some (r1, r2)) ∧ Aside0 (kq ≤ k) ∧ Drawn0 w wc)
 case first =>
  have H := HC2.out
  clear HC2
  by_cases c3 : a0 ≥ 48
  ·
   rw [if_pos c3] at H
   have c3b0 := decide_eq_true c3
   clear c3
   (first | rw [c3b0] | (simp only [i64_w, i32_w]; rw [c3b0]) | skip)
   have H' := Aside0.mk H
   clear H
   go_wp2
   go_meet
   case rel => exact ⟨_, (decide (a0 ≤ 57)), xrr, H', ⟨xom⟩, xdr⟩
  ·
   rw [if_neg c3] at H
   have c3b0 := decide_eq_false c3
   clear c3
   (first | rw [c3b0] | (simp only [i64_w, i32_w]; rw [c3b0]) | skip)
   have H' := Aside0.mk H
   clear H
   go_wp2
   go_meet
   case rel => exact ⟨_, (false), xrr, H', ⟨xom⟩, xdr⟩
 case rest =>
  clear HC2
  obtain ⟨kq, x4_1, rfl, HA, HJ1, ⟨mc1, rfl⟩⟩ := hcut
  cases kq with
  | zero => exact absurd HA.out (by simp [octet_Value.j0])
  | succ kj1 =>
   have H := HA.out
   clear HA
   simp only [octet_Value.j0] at H
   by_cases c4 : x4_1 = true
   ·
    subst c4
    rw [if_pos rfl] at H
    simp only [Option.some.injEq, Prod.mk.injEq] at H
    obtain ⟨rfl, rfl⟩ := H
    go_wp2
    go_ret2
    exact ⟨xrr, xdr⟩
   ·
    replace c4 := Bool.eq_false_iff.mpr c4
    subst c4
    rw [if_neg (show ¬ (false = true) by decide)] at H
    replace H := Option.bind_eq_some_iff.mp H
    obtain ⟨t130, A50, H⟩ := H
    try dsimp only at H
    have A5 := Aside0.mk A50
    clear A50
    by_cases c6 : t130 = true
    ·
     subst c6
     rw [if_pos rfl] at H
     replace H := Option.bind_eq_some_iff.mp H
     obtain ⟨t131, A70, H⟩ := H
     try dsimp only at H
     have A7 := Aside0.mk A70
     clear A70
     simp only [Option.some.injEq, Prod.mk.injEq] at H
     obtain ⟨rfl, rfl⟩ := H
     go_wp2_with (first | ((with_reducible refine gate_callee (f := 30) rfl ?_); refine xgl 16 Tryd.func30 #[.int .u8 a0, .int .i64 32] ?_; (with_reducible refine (octet_Is.calls kj1 a0 32 true _ A5.out).mono ?_); rintro e w' ⟨rfl, ⟨nd, rfl⟩⟩; refine ⟨_, rfl, ?_⟩) | ((with_reducible refine gate_callee (f := 71) rfl ?_); refine xgl 18 Tryd.func71 #[.int .u8 a0] ?_; (with_reducible refine (octet_low.calls a0 t131 _ A7.out).mono ?_); rintro e w' ⟨rfl, ⟨nd, rfl⟩⟩; refine ⟨_, rfl, ?_⟩))
     go_ret2
     exact ⟨xrr, xdr⟩
    ·
     replace c6 := Bool.eq_false_iff.mpr c6
     subst c6
     rw [if_neg (show ¬ (false = true) by decide)] at H
     simp only [Option.some.injEq, Prod.mk.injEq] at H
     obtain ⟨rfl, rfl⟩ := H
     go_wp2_with (first | ((with_reducible refine gate_callee (f := 30) rfl ?_); refine xgl 16 Tryd.func30 #[.int .u8 a0, .int .i64 32] ?_; (with_reducible refine (octet_Is.calls kj1 a0 32 false _ A5.out).mono ?_); rintro e w' ⟨rfl, ⟨nd, rfl⟩⟩; refine ⟨_, rfl, ?_⟩))
     go_ret2
     exact ⟨xrr, xdr⟩
end Go.Proofs.YtdmigmccfdhdiaaDoor.X
