/- Texts that the law's proof needs, joined by a program of this session. -/
import Derived.Test.YtdmigmccfdhdiaaDoorZSeatJoins1
import Derived.Test.YtdmigmccfdhdiaaDoorZSeatJoins6
namespace Go.Proofs.YtdmigmccfdhdiaaDoor.X
open Go.RowKit Go.Proofs.YtdmigmccfdhdiaaDoorW.PrintWords Go.Proofs.YtdmigmccfdhdiaaDoorW.PrintLast Go.Proofs.YtdmigmccfdhdiaaDoorW.PrintMore
attribute [local go_sem] max2_int min2_int max_two min_two max_three min_three max_four min_four
set_option linter.unusedVariables false
set_option linter.unusedSimpArgs false
def monikerref19_Parts.l0 : Nat → ByteArray → Int → List ByteArray → Int → Option (List ByteArray)
  | 0, _, _, _, _ => none
  | k + 1, x0, x1, x5, x6 => if x6 < (x0.size : Int) then (if 0 ≤ x6 then (if (bt x0 x6) = x1 then (if x5.length < 8796093022208 then (monikerref19_Parts.l0 k x0 x1 (x5 ++ [(⟨#[]⟩ : ByteArray)]) (wrap64 (x6 + 1))) else (none)) else (if 0 ≤ (wrap64 ((x5.length : Int) - 1)) then (if (wrap64 ((x5.length : Int) - 1)) < (x5.length : Int) then (if x6 ≤ (wrap64 (x6 + 1)) then (if (wrap64 (x6 + 1)) ≤ (x0.size : Int) then (if (rdOf ByteArray.empty x5 (wrap64 ((x5.length : Int) - 1))).size + (x0.extract (x6 : Int).toNat ((wrap64 (x6 + 1)) : Int).toNat).size ≤ 9223372036854775807 then (monikerref19_Parts.l0 k x0 x1 (x5.set ((wrap64 ((x5.length : Int) - 1)) : Int).toNat ((rdOf ByteArray.empty x5 (wrap64 ((x5.length : Int) - 1))) ++ (x0.extract (x6 : Int).toNat ((wrap64 (x6 + 1)) : Int).toNat))) (wrap64 (x6 + 1))) else (none)) else (none)) else (none)) else (none)) else (none))) else (none)) else (some x5)
def monikerref19_Parts.f (k : Nat) (a0 : ByteArray) (a1 : Int) : Option (List ByteArray) := monikerref19_Parts.l0 k a0 a1 (([(⟨#[]⟩ : ByteArray)] : List ByteArray)) 0
theorem monikerref19_Parts.mono_l : ∀ k, (∀ y0 y1 y2 y3, LeO (monikerref19_Parts.l0 k y0 y1 y2 y3) (monikerref19_Parts.l0 (k + 1) y0 y1 y2 y3))
  | 0 => fun _ _ _ _ r h => by simp [monikerref19_Parts.l0] at h
  | k + 1 => by
    have ih0 := monikerref19_Parts.mono_l k
    · intro y0 y1 y2 y3
      unfold monikerref19_Parts.l0
      exact xmo
theorem monikerref19_Parts.mono : ∀ a0 a1 k, LeO (monikerref19_Parts.f k a0 a1) (monikerref19_Parts.f (k + 1) a0 a1) := by
  intro a0 a1 k
  have ih0 := monikerref19_Parts.mono_l k
  unfold monikerref19_Parts.f
  exact xmo
def monikerref19_Parts.T7 : Bool × List (List Nat × List Nat) := (true, [([], []), ([], []), ([1], [1]), ([2], [2]), ([0, 3], [0, 3]), ([4], [4]), ([], []), ([], []), ([], []), ([8], [8]), ([6, 7, 9], [6, 7, 9]), ([5, 10], [5, 10]), ([0, 3, 0, 1, 2, 3, 4, 5, 6, 7, 8, 9, 10, 11], [0, 3]), ([12, 11, 0, 1, 2, 3, 4, 5, 6, 7, 8, 9, 10, 11], [11, 12])])
def monikerref19_Parts.B7 : List Nat := [0, 0, 2, 6, 15, 31, 0, 0, 0, 256, 960, 2047, 4095, 8191]
theorem monikerref19_Parts.tab7 : rtab .any (opsOf Tryd.f40 7) = monikerref19_Parts.T7 := by kernel_rfl
theorem monikerref19_Parts.bits7 : waitsOk monikerref19_Parts.T7.2 monikerref19_Parts.B7 = true := by kernel_rfl
set_option maxHeartbeats 8000000 in
set_option maxRecDepth 100000 in
theorem monikerref19_Parts.calls (k : Nat) (a0 : ByteArray) (a1 : Int) (r : List ByteArray) (w : World) (h : monikerref19_Parts.f k a0 a1 = some r) :
    Calls Tryd.prog 40 #[.string a0, .int .u8 a1] w fun e w' => ∃ v0_ : Value, e = .returned (v0_) ∧ Kd.R Kd.string 9 w' w.heap.size (fun _ => True) v0_ r ∧ Below w.heap.size w w' := by
 have HB := Aside0.mk (Below.refl w.heap.size w)
 have H : (monikerref19_Parts.l0 k a0 a1 (([(⟨#[]⟩ : ByteArray)] : List ByteArray)) 0) = some r := h
 clear h
 obtain ⟨y273, hy273⟩ : ∃ y_ : List ByteArray, y_ = (([(⟨#[]⟩ : ByteArray)] : List ByteArray)) := ⟨_, rfl⟩
 replace H : (monikerref19_Parts.l0 k a0 a1 y273 0) = some r := by first | (rw [hy273]; with_reducible exact H) | (have H2_ := (Option.bind_some _ _).symm.trans H; rw [hy273]; with_reducible exact H2_) | (have H2_ := (Option.bind_some _ _).symm.trans H; with_reducible exact H2_) | with_reducible exact H | (rw [hy273]; exact H) | exact H
 have Ny273 := Aside0.mk hy273
 clear hy273
 have H' := Aside0.mk H
 clear H
 go_enter Tryd.func40, Tryd.ntmps40
 go_wp2_with (first | ((with_reducible refine gate_dst (N := 7) rfl ?_); refine Kd.R_lit Kd.string _ 9 ?hg (N := 7) ?hd (xs := ([(⟨#[]⟩ : ByteArray)] : List ByteArray)) (inner := [.string (⟨#[]⟩ : ByteArray)]) (ok := fun _ => True) (okp := fun _ => True) ?hr ?hp (fun _ hk => hk) trivial (Below.refl _ _) (Nat.le_refl _) (by simp) ?_; (case hd => rfl); (case hg => rfl); (case hr => first | (go_simp; done) | (go_simp; rfl)); (case hp => exact (Reps.one (show Kd.M Kd.string _ _ _ (⟨#[]⟩ : ByteArray) [.string (⟨#[]⟩ : ByteArray)] from rfl) (Reps.none _ _))); intro v274 w3 ho4 hb hg_ hnew_; clear hg_ hnew_; (first | rw [← Ny273.out] at ho4 | (simp only [Int.reduceToNat] at ho4; rw [← Ny273.out] at ho4)); have HO275 := Aside0.mk (Kd.R_lower ho4 (below_size xbl)); replace HB := xst hb; clear hb ho4))
 go_loopg [5, 6] k (fun kq v5 v6 w' => ∃ (x5_1 : List ByteArray) (x6_1 : Int), v6 = .int .i64 x6_1 ∧ Aside0 (monikerref19_Parts.l0 kq a0 a1 x5_1 x6_1 = some r) ∧ Aside0 (kq ≤ k) ∧ Aside0 (Kd.R Kd.string 9 w' w.heap.size (fun _ => True) v5 x5_1) ∧ Aside0 (Below w.heap.size w w'))
 case atStart => exact ⟨(y273), (0), xrr, H', ⟨Nat.le_refl _⟩, ⟨xkd HO275⟩, ⟨xbl⟩⟩
 case round =>
  clear H'
  obtain ⟨x5_1, x6_1, rfl, HA, HK1, HO_5, HB⟩ := hrel
  cases gk with
  | zero => exact absurd HA.out (by simp [monikerref19_Parts.l0])
  | succ k1 =>
   have H := HA.out
   clear HA
   simp only [monikerref19_Parts.l0] at H
   by_cases c5 : x6_1 < (a0.size : Int)
   ·
    rw [if_pos c5] at H
    have c5b0 := decide_eq_true c5
    clear c5
    by_cases c6 : 0 ≤ x6_1
    ·
     rw [if_pos c6] at H
     have c6b0 := decide_eq_true c6
     clear c6
     by_cases c8 : (bt a0 x6_1) = a1
     ·
      rw [if_pos c8] at H
      have c8b0 : ((bt a0 x6_1) == a1) = true := beq_iff_eq.mpr c8
      have c8b1 : ((bt a0 x6_1) != a1) = false := bne_eq_false_iff_eq.mpr c8
      clear c8
      by_cases c9 : x5_1.length < 8796093022208
      ·
       rw [if_pos c9] at H
       have LMc9 := Aside0.mk c9
       clear c9
       obtain ⟨y276, hy276⟩ : ∃ y_ : List ByteArray, y_ = (x5_1 ++ [(⟨#[]⟩ : ByteArray)]) := ⟨_, rfl⟩
       replace H : (monikerref19_Parts.l0 k1 a0 a1 y276 (wrap64 (x6_1 + 1))) = some r := by first | (rw [hy276]; with_reducible exact H) | (have H2_ := (Option.bind_some _ _).symm.trans H; rw [hy276]; with_reducible exact H2_) | (have H2_ := (Option.bind_some _ _).symm.trans H; with_reducible exact H2_) | with_reducible exact H | (rw [hy276]; exact H) | exact H
       have Ny276 := Aside0.mk hy276
       clear hy276
       have H' := Aside0.mk H
       clear H
       have p7 : 0 ≤ (x6_1 : Int) := xod
       have q7 : x6_1 < (a0.size : Int) := xod
       have hx7 := bt_at a0 x6_1
       replace p7 := eq_true p7
       replace q7 := eq_true q7
       try (have q7x := q7; simp only [ByteArray.size_extract, Nat.min_self] at q7x)
       go_wp2_with (first | ((with_reducible refine gate_builtin (b := .append) (xs := #[.tmp 19, .tmp 20]) rfl ?_); at_builtin; refine Kd.R_append Kd.string (w0 := w) w.heap.size rfl (.tmp 19) (.tmp 20) 66 9 (.string ⟨#[]⟩) 16 rfl Tryd.underlying66 info9 rfl (by decide) (by omega) u5 x5_1 (⟨#[]⟩ : ByteArray) [.string (⟨#[]⟩ : ByteArray)] (fun _ => True) (fun _ => False) rfl rfl ?aP (fun _ hk => hk.elim) ?aF ?aO ?aB ?aS ?aL ?_; (case aP => exact rfl); (case aB => exact xbl); (case aF => exact (fun _ _ => trivial)); (case aO => exact (xkd HO_5)); (case aS => exact (below_size xbl)); (case aL => have := LMc9.out; omega); intro v277 w10 ho hb hg hat; rw [← Ny276.out] at ho; have n0_ := Aside0.mk (hb); have n1_ := Aside0.mk (ho); clear HB; clear HO_5; have HB := n0_; have HO278 := n1_; clear n0_ n1_; clear ho hb hg hat))
       go_roundg k1
       case measure => have := HK1.out; omega
       case rel => exact ⟨(y276), (wrap64 (x6_1 + 1)), xrr, H', ⟨by have := HK1.out; omega⟩, ⟨xkd HO278⟩, ⟨xbl⟩⟩
      ·
       rw [if_neg c9] at H
       exact absurd H (by simp)
     ·
      rw [if_neg c8] at H
      have c8b0 : ((bt a0 x6_1) == a1) = false := beq_eq_false_iff_ne.mpr c8
      have c8b1 : ((bt a0 x6_1) != a1) = true := bne_iff_ne.mpr c8
      obtain ⟨ji11, hji11⟩ : ∃ j_ : Int, (wrap64 ((x5_1.length : Int) - 1)) = j_ := ⟨_, rfl⟩
      first | rw [hji11] at H | simp only [hji11] at H | skip
      have hji11w : (IntKind.i64.wrap ((x5_1.length : Int) - 1)) = ji11 := (i64_w _).trans hji11
      by_cases c12 : 0 ≤ (ji11)
      ·
       rw [if_pos c12] at H
       have c12b0 := decide_eq_true c12
       clear c12
       by_cases c13 : (ji11) < (x5_1.length : Int)
       ·
        rw [if_pos c13] at H
        have c13b0 := decide_eq_true c13
        clear c13
        have c14b0 := eq_true (xod : 0 ≤ x6_1)
        obtain ⟨ji15, hji15⟩ : ∃ j_ : Int, (wrap64 (x6_1 + 1)) = j_ := ⟨_, rfl⟩
        first | rw [hji15] at H | simp only [hji15] at H | skip
        have hji15w : (IntKind.i64.wrap (x6_1 + 1)) = ji15 := (i64_w _).trans hji15
        by_cases c16 : x6_1 ≤ (ji15)
        ·
         rw [if_pos c16] at H
         have c16b0 := eq_true c16
         have c16b1 := decide_eq_true c16
         clear c16
         by_cases c17 : (ji15) ≤ (a0.size : Int)
         ·
          rw [if_pos c17] at H
          have c17b0 := eq_true c17
          have c17b1 := decide_eq_true c17
          clear c17
          obtain ⟨ji18, hji18⟩ : ∃ j_ : ByteArray, (a0.extract (x6_1 : Int).toNat ((ji15) : Int).toNat) = j_ := ⟨_, rfl⟩
          try (have hji18x := hji18; simp only [Int.toNat_natCast, Int.toNat_ofNat] at hji18x)
          first | rw [hji18] at H | simp only [hji18] at H | skip
          by_cases c19 : (rdOf ByteArray.empty x5_1 (ji11)).size + (ji18).size ≤ 9223372036854775807
          ·
           rw [if_pos c19] at H
           have c19b0 := eq_true c19
           have c19b1 := decide_eq_true c19
           try have c19b2 : (9223372036854775807 < (rdOf ByteArray.empty x5_1 (ji11)).size + (ji18).size) = False := eq_false (Nat.not_lt.2 c19)
           obtain ⟨y280, hy280⟩ : ∃ y_ : List ByteArray, y_ = (x5_1.set ((ji11) : Int).toNat ((rdOf ByteArray.empty x5_1 (ji11)) ++ (ji18))) := ⟨_, rfl⟩
           replace H : (monikerref19_Parts.l0 k1 a0 a1 y280 ji15) = some r := by first | (rw [hy280]; with_reducible exact H) | (have H2_ := (Option.bind_some _ _).symm.trans H; rw [hy280]; with_reducible exact H2_) | (have H2_ := (Option.bind_some _ _).symm.trans H; with_reducible exact H2_) | with_reducible exact H | (rw [hy280]; exact H) | exact H
           have Ny280 := Aside0.mk hy280
           clear hy280
           have H' := Aside0.mk H
           clear H
           have p7 : 0 ≤ (x6_1 : Int) := xod
           have q7 : x6_1 < (a0.size : Int) := xod
           have hx7 := bt_at a0 x6_1
           replace p7 := eq_true p7
           replace q7 := eq_true q7
           try (have q7x := q7; simp only [ByteArray.size_extract, Nat.min_self] at q7x)
           try go_wp2
           have n0_ := Aside0.mk (Kd.R_drew HO_5.out)
           have n1_ := Aside0.mk (below_drew1 HB.out)
           clear HO_5
           clear HB
           have HO_5 := n0_
           have HB := n1_
           clear n0_ n1_
           obtain ⟨Ao22, co22, eo22⟩ := Kd.R_slice HO_5.out
           (first | subst eo22 | (injection eo22 with f1_ f2_ f3_; have f4_ := f1_.symm; have f5_ := f3_.symm; clear f1_ f2_ f3_; subst f4_; subst f5_))
           have p279 : 0 ≤ ((ji11) : Int) := xod
           have q279 : (ji11) < (x5_1.length : Int) := xod
           obtain ⟨ad279, e279, hx279_0⟩ := Kd.at_string (Kd.R_reads' HO_5.out).2.2 (ji11) p279 q279
           cases e279
           replace p279 := eq_true p279
           replace q279 := eq_true q279
           try (have q279x := q279; simp only [ByteArray.size_extract, Nat.min_self] at q279x)
           have p20 : 0 ≤ ((ji11) : Int) := xod
           have q20 : ((ji11) : Int) < ((x5_1.length : Int) : Int) := xod
           obtain ⟨go20, co20, eo20, gb20, gl20, cl20, HG20⟩ := Kd.R_form HO_5.out (by omega)
           (first | cases eo20 | (injection eo20 with ea_ en_ ec_; (first | subst ea_ | (injection ea_ with ea_; subst ea_)); subst ec_; clear en_))
           have GB20 := Aside0.mk gb20
           have GG20 := Aside0.mk HG20
           clear gb20 gl20 HG20
           (first | simp only [add_plain] at hx279_0 | skip)
           obtain ⟨hx20_0, hf20_0⟩ := Kd.R_celln (⟨#[]⟩ : ByteArray) HO_5.out ((ji11) : Int) p20 q20
           replace p20 := eq_true p20
           replace q20 := eq_true q20
           try (have q20x := q20; simp only [ByteArray.size_extract, Nat.min_self] at q20x)
           have HP23 := Kd.R_putn HO_5.out ((ji11) : Int) ((rdOf ByteArray.empty x5_1 (ji11)) ++ (ji18))
           rw [← Ny280.out] at HP23
           have HQ23 := Aside0.mk HP23
           clear HP23
           refine start_ (n := 14) (S := fun w' => w'.cell? ⟨go20, ((ji11)).toNat, none⟩ = some (.string (rdOf ByteArray.empty x5_1 (ji11)))) (ds := [13]) #[false, false, false, false, false, false, false, false, false, false, false, false, false, false] (by kernel_rfl) rfl rfl (hx279_0) (fun hHeld => ?_); refine with_tabW monikerref19_Parts.tab7 monikerref19_Parts.bits7 (fun HT_ HW_ => ?_)
           generalize wr.drew = w21 at HO_5 HB GG20 HQ23 hf20_0 hx20_0 hx279_0 hHeld ⊢
           refine pure_ (i := 0) (N := some 22) (v := ?_) (a' := ?_) #[true, false, false, false, false, false, false, false, false, false, false, false, false, false] rfl rfl (any_of HT_.out (by kernel_rfl)) (fun _ _ _ h => h) (Or.inl ⟨by rfl, ?_⟩) ?_ ?_
           rotate_left
           ·
            intro w'
            go_simp
            with_reducible rfl
           rotate_left
           ·
            simp only [Act.put, List.setIfInBounds_toArray, List.set_cons_zero, List.set_cons_succ, i64_w, i32_w]
            rfl
           refine pure_ (i := 1) (N := some 23) (v := ?_) (a' := ?_) #[true, true, false, false, false, false, false, false, false, false, false, false, false, false] rfl rfl (any_of HT_.out (by kernel_rfl)) (fun _ _ _ h => h) (Or.inl ⟨by rfl, ?_⟩) ?_ ?_
           rotate_left
           ·
            intro w'
            go_simp
            with_reducible rfl
           rotate_left
           ·
            simp only [Act.put, List.setIfInBounds_toArray, List.set_cons_zero, List.set_cons_succ, i64_w, i32_w]
            rfl
           refine pure_ (i := 2) (N := some 24) (v := ?_) (a' := ?_) #[true, true, true, false, false, false, false, false, false, false, false, false, false, false] rfl rfl (any_of HT_.out (by kernel_rfl)) (fun _ _ _ h => h) (Or.inl ⟨by rfl, ?_⟩) ?_ ?_
           rotate_left
           ·
            intro w'
            go_simp
            with_reducible rfl
           rotate_left
           ·
            simp only [Act.put, List.setIfInBounds_toArray, List.set_cons_zero, List.set_cons_succ, i64_w, i32_w]
            rfl
           refine pure_ (i := 3) (N := some 25) (v := ?_) (a' := ?_) #[true, true, true, true, false, false, false, false, false, false, false, false, false, false] rfl rfl (any_of HT_.out (by kernel_rfl)) (fun _ _ _ h => h) (Or.inl ⟨by rfl, ?_⟩) ?_ ?_
           rotate_left
           ·
            intro w'
            go_simp
            with_reducible rfl
           rotate_left
           ·
            simp only [Act.put, List.setIfInBounds_toArray, List.set_cons_zero, List.set_cons_succ, i64_w, i32_w]
            rfl
           refine pure_ (i := 4) (N := some 26) (v := ?_) (a' := ?_) #[true, true, true, true, true, false, false, false, false, false, false, false, false, false] rfl rfl (any_of HT_.out (by kernel_rfl)) (fun _ _ _ h => h) (Or.inl ⟨by rfl, ?_⟩) ?_ ?_
           rotate_left
           ·
            intro w'
            go_simp
            with_reducible rfl
           rotate_left
           ·
            simp only [Act.put, List.setIfInBounds_toArray, List.set_cons_zero, List.set_cons_succ, i64_w, i32_w]
            rfl
           refine pure_ (i := 6) (N := some 28) (v := ?_) (a' := ?_) #[true, true, true, true, true, false, true, false, false, false, false, false, false, false] rfl rfl (any_of HT_.out (by kernel_rfl)) (fun _ _ _ h => h) (Or.inl ⟨by rfl, ?_⟩) ?_ ?_
           rotate_left
           ·
            intro w'
            go_simp
            with_reducible rfl
           rotate_left
           ·
            simp only [Act.put, List.setIfInBounds_toArray, List.set_cons_zero, List.set_cons_succ, i64_w, i32_w]
            rfl
           refine pure_ (i := 7) (N := some 29) (v := ?_) (a' := ?_) #[true, true, true, true, true, false, true, true, false, false, false, false, false, false] rfl rfl (any_of HT_.out (by kernel_rfl)) (fun _ _ _ h => h) (Or.inl ⟨by rfl, ?_⟩) ?_ ?_
           rotate_left
           ·
            intro w'
            go_simp
            with_reducible rfl
           rotate_left
           ·
            simp only [Act.put, List.setIfInBounds_toArray, List.set_cons_zero, List.set_cons_succ, i64_w, i32_w]
            rfl
           refine pure_ (i := 8) (N := some 30) (v := ?_) (a' := ?_) #[true, true, true, true, true, false, true, true, true, false, false, false, false, false] rfl rfl (any_of HT_.out (by kernel_rfl)) (fun _ _ _ h => h) (Or.inl ⟨by rfl, ?_⟩) ?_ ?_
           rotate_left
           ·
            intro w'
            go_simp
            with_reducible rfl
           rotate_left
           ·
            simp only [Act.put, List.setIfInBounds_toArray, List.set_cons_zero, List.set_cons_succ, i64_w, i32_w]
            rfl
           refine pure_ (i := 9) (N := some 31) (v := ?_) (a' := ?_) #[true, true, true, true, true, false, true, true, true, true, false, false, false, false] rfl rfl (any_of HT_.out (by kernel_rfl)) (fun _ _ _ h => h) (Or.inl ⟨by rfl, ?_⟩) ?_ ?_
           rotate_left
           ·
            intro w'
            go_simp
            with_reducible rfl
           rotate_left
           ·
            simp only [Act.put, List.setIfInBounds_toArray, List.set_cons_zero, List.set_cons_succ, i64_w, i32_w]
            rfl
           refine pure_ (i := 10) (N := some 32) (v := ?_) (a' := ?_) #[true, true, true, true, true, false, true, true, true, true, true, false, false, false] rfl rfl (any_of HT_.out (by kernel_rfl)) (fun _ _ _ h => h) (Or.inl ⟨by rfl, ?_⟩) ?_ ?_
           rotate_left
           ·
            intro w'
            go_simp
            with_reducible rfl
           rotate_left
           ·
            simp only [Act.put, List.setIfInBounds_toArray, List.set_cons_zero, List.set_cons_succ, i64_w, i32_w]
            rfl
           refine take_ (i := 5) (N := some 27) (v := ?_) (a' := ?_) #[true, true, true, true, true, true, true, true, true, true, true, false, false, false] rfl rfl (take_ofW HT_.out HW_.out (by kernel_rfl)) (fun _ _ _ h => h) (Or.inl ⟨by rfl, ?_⟩) hHeld ?_ ?_
           rotate_left
           ·
            intro w' s0
            go_simp
            with_reducible rfl
           rotate_left
           ·
            simp only [Act.put, List.setIfInBounds_toArray, List.set_cons_zero, List.set_cons_succ, i64_w, i32_w]
            rfl
           refine pure_ (i := 11) (N := some 33) (v := ?_) (a' := ?_) #[true, true, true, true, true, true, true, true, true, true, true, true, false, false] rfl rfl (any_of HT_.out (by kernel_rfl)) (fun _ _ _ h => h) (Or.inl ⟨by rfl, ?_⟩) ?_ ?_
           rotate_left
           ·
            intro w'
            go_simp
            with_reducible rfl
           rotate_left
           ·
            simp only [Act.put, List.setIfInBounds_toArray, List.set_cons_zero, List.set_cons_succ, i64_w, i32_w]
            rfl
           refine pure_ (i := 12) (N := some 34) (v := ?_) (a' := ?_) #[true, true, true, true, true, true, true, true, true, true, true, true, true, false] rfl rfl (any_of HT_.out (by kernel_rfl)) (fun _ _ _ h => h) (Or.inl ⟨by rfl, ?_⟩) ?_ ?_
           rotate_left
           ·
            intro w'
            go_simp
            with_reducible rfl
           rotate_left
           ·
            simp only [Act.put, List.setIfInBounds_toArray, List.set_cons_zero, List.set_cons_succ, i64_w, i32_w]
            rfl
           refine last_ (i := 13) (N := none) #[true, true, true, true, true, true, true, true, true, true, true, true, true, true] rfl rfl (one_of HT_.out (by kernel_rfl)) (by decide) (fun K hK => ?_)
           refine skip_ (w1 := ?_) (by rfl) rfl ?_ ?_
           rotate_left
           ·
            go_simp
            rfl
           refine hK.out _ _ ?_
           clear hK K
           refine done_ (done_of HT_.out (by kernel_rfl)) ?_
           try go_wp2
           first | go_roundg k1 | (simp only [← hji11, ← hji15, ← hji18]; go_roundg k1)
           case measure => have := HK1.out; omega
           case rel => exact ⟨(y280), (ji15), (by first | rfl | (simp; done) | (simp only [← hji15] <;> (first | rfl | simp)) | (simp [*]; done) | (simp [wrap64]; done)), H', ⟨by have := HK1.out; omega⟩, ⟨xkd HQ23⟩, ⟨xbl⟩⟩
          ·
           rw [if_neg c19] at H
           exact absurd H (by simp)
         ·
          rw [if_neg c17] at H
          exact absurd H (by simp)
        ·
         rw [if_neg c16] at H
         exact absurd H (by simp)
       ·
        rw [if_neg c13] at H
        exact absurd H (by simp)
      ·
       rw [if_neg c12] at H
       exact absurd H (by simp)
    ·
     rw [if_neg c6] at H
     exact absurd H (by simp)
   ·
    rw [if_neg c5] at H
    have c5b0 := decide_eq_false c5
    clear c5
    obtain rfl := Option.some.inj H
    go_wp2
    go_ret
    exact ⟨_, by first | rfl | (simp [errW_none, errW_some] <;> first | rfl | (simp only [xp_isEmpty, bne, Bool.not_not]; done)) | (simp [*, errW_none, errW_some] <;> rfl), by (with_reducible repeat (first | apply Kd.R_alloc | apply Kd.R_drewN | apply Kd.R_drew)); exact HO_5.out, xbl⟩
def monikerref19_Digits.f : Nat → Int → Option (ByteArray)
  | 0, _ => none
  | k + 1, a0 => if a0 < 10 then (if 0 ≤ a0 then (if a0 ≤ (wrap64 (a0 + 1)) then (if (wrap64 (a0 + 1)) ≤ 10 then (some ((⟨#[48, 49, 50, 51, 52, 53, 54, 55, 56, 57]⟩ : ByteArray).extract (a0 : Int).toNat ((wrap64 (a0 + 1)) : Int).toNat)) else (none)) else (none)) else (none)) else ((monikerref19_Digits.f k (wrap64 (Int.tdiv a0 10))).bind fun t281 => (if 0 ≤ (Int.tmod a0 10) then (if (Int.tmod a0 10) ≤ (wrap64 ((Int.tmod a0 10) + 1)) then (if (wrap64 ((Int.tmod a0 10) + 1)) ≤ 10 then (if t281.size + ((⟨#[48, 49, 50, 51, 52, 53, 54, 55, 56, 57]⟩ : ByteArray).extract ((Int.tmod a0 10) : Int).toNat ((wrap64 ((Int.tmod a0 10) + 1)) : Int).toNat).size ≤ 9223372036854775807 then (some (t281 ++ ((⟨#[48, 49, 50, 51, 52, 53, 54, 55, 56, 57]⟩ : ByteArray).extract ((Int.tmod a0 10) : Int).toNat ((wrap64 ((Int.tmod a0 10) + 1)) : Int).toNat))) else (none)) else (none)) else (none)) else (none)))
theorem monikerref19_Digits.mono_l : ∀ k, (∀ y0, LeO (monikerref19_Digits.f k y0) (monikerref19_Digits.f (k + 1) y0))
  | 0 => fun _ r h => by simp [monikerref19_Digits.f] at h
  | k + 1 => by
    have ih0 := monikerref19_Digits.mono_l k
    · intro y0
      unfold monikerref19_Digits.f
      exact xmo
theorem monikerref19_Digits.mono : ∀ a0 k, LeO (monikerref19_Digits.f k a0) (monikerref19_Digits.f (k + 1) a0) := by
  intro a0 k
  have ih0 := monikerref19_Digits.mono_l k
  exact ih0 a0
def monikerref19_Digits.T4 : Bool × List (List Nat × List Nat) := (true, [([], []), ([0], [0]), ([1], [1]), ([], []), ([], []), ([4], [4]), ([], []), ([6], [6]), ([7], [7]), ([3, 5, 8], [3, 5, 8]), ([2, 9], [2, 9]), ([10, 2, 0, 1, 2, 3, 4, 5, 6, 7, 8, 9, 10], [10])])
def monikerref19_Digits.B4 : List Nat := [0, 1, 3, 0, 0, 16, 0, 64, 192, 504, 1023, 2047]
theorem monikerref19_Digits.tab4 : rtab .any (opsOf Tryd.f41 4) = monikerref19_Digits.T4 := by kernel_rfl
theorem monikerref19_Digits.bits4 : waitsOk monikerref19_Digits.T4.2 monikerref19_Digits.B4 = true := by kernel_rfl
set_option maxHeartbeats 8000000 in
set_option maxRecDepth 100000 in
theorem monikerref19_Digits.calls (k : Nat) : ∀ (a0 : Int) (r : ByteArray) (w : World) (h : monikerref19_Digits.f k a0 = some r),
    Calls Tryd.prog 41 #[.int .i64 a0] w fun e w' => e = .returned (.string r) ∧ Below w.heap.size w w' := by
 induction k using Nat.strongRecOn with
 | _ k ih =>
 intro a0 r w h
 cases k with
 | zero => exact absurd h (by simp [monikerref19_Digits.f])
 | succ k =>
 simp only [monikerref19_Digits.f] at h
 have HB := Aside0.mk (Below.refl w.heap.size w)
 have H : (if a0 < 10 then (if 0 ≤ a0 then (if a0 ≤ (wrap64 (a0 + 1)) then (if (wrap64 (a0 + 1)) ≤ 10 then (some ((⟨#[48, 49, 50, 51, 52, 53, 54, 55, 56, 57]⟩ : ByteArray).extract (a0 : Int).toNat ((wrap64 (a0 + 1)) : Int).toNat)) else (none)) else (none)) else (none)) else ((monikerref19_Digits.f k (wrap64 (Int.tdiv a0 10))).bind fun t281 => (if 0 ≤ (Int.tmod a0 10) then (if (Int.tmod a0 10) ≤ (wrap64 ((Int.tmod a0 10) + 1)) then (if (wrap64 ((Int.tmod a0 10) + 1)) ≤ 10 then (if t281.size + ((⟨#[48, 49, 50, 51, 52, 53, 54, 55, 56, 57]⟩ : ByteArray).extract ((Int.tmod a0 10) : Int).toNat ((wrap64 ((Int.tmod a0 10) + 1)) : Int).toNat).size ≤ 9223372036854775807 then (some (t281 ++ ((⟨#[48, 49, 50, 51, 52, 53, 54, 55, 56, 57]⟩ : ByteArray).extract ((Int.tmod a0 10) : Int).toNat ((wrap64 ((Int.tmod a0 10) + 1)) : Int).toNat))) else (none)) else (none)) else (none)) else (none)))) = some r := h
 clear h
 by_cases c2 : a0 < 10
 ·
  rw [if_pos c2] at H
  have c2b0 := decide_eq_true c2
  clear c2
  by_cases c3 : 0 ≤ a0
  ·
   rw [if_pos c3] at H
   have c3b0 := eq_true c3
   have c3b1 := decide_eq_true c3
   clear c3
   obtain ⟨ji4, hji4⟩ : ∃ j_ : Int, (wrap64 (a0 + 1)) = j_ := ⟨_, rfl⟩
   first | rw [hji4] at H | simp only [hji4] at H | skip
   have hji4w : (IntKind.i64.wrap (a0 + 1)) = ji4 := (i64_w _).trans hji4
   by_cases c5 : a0 ≤ (ji4)
   ·
    rw [if_pos c5] at H
    have c5b0 := eq_true c5
    have c5b1 := decide_eq_true c5
    clear c5
    by_cases c6 : (ji4) ≤ 10
    ·
     rw [if_pos c6] at H
     have c6b0 := eq_true c6
     have c6b1 := decide_eq_true c6
     clear c6
     obtain ⟨ji7, hji7⟩ : ∃ j_ : ByteArray, ((⟨#[48, 49, 50, 51, 52, 53, 54, 55, 56, 57]⟩ : ByteArray).extract (a0 : Int).toNat ((ji4) : Int).toNat) = j_ := ⟨_, rfl⟩
     try (have hji7x := hji7; simp only [Int.toNat_natCast, Int.toNat_ofNat] at hji7x)
     first | rw [hji7] at H | simp only [hji7] at H | skip
     obtain rfl := Option.some.inj H
     go_enter Tryd.func41, Tryd.ntmps41
     go_wp2
     go_ret
     exact ⟨by first | rfl | (simp [errW_none, errW_some] <;> first | rfl | (simp only [xp_isEmpty, bne, Bool.not_not]; done)) | (simp only [← hji4, ← hji7]; first | rfl | (simp [errW_none, errW_some] <;> rfl)) | (simp [*, errW_none, errW_some] <;> rfl), xbl⟩
    ·
     rw [if_neg c6] at H
     exact absurd H (by simp)
   ·
    rw [if_neg c5] at H
    exact absurd H (by simp)
  ·
   rw [if_neg c3] at H
   exact absurd H (by simp)
 ·
  rw [if_neg c2] at H
  have c2b0 := decide_eq_false c2
  clear c2
  replace H := Option.bind_eq_some_iff.mp H
  obtain ⟨t281, A80, H⟩ := H
  try dsimp only at H
  have A8 := Aside0.mk A80
  clear A80
  obtain ⟨ji9, hji9⟩ : ∃ j_ : Int, (Int.tmod a0 10) = j_ := ⟨_, rfl⟩
  first | rw [hji9] at H | simp only [hji9] at H | skip
  (try rw [hji9] at A8)
  by_cases c10 : 0 ≤ (ji9)
  ·
   rw [if_pos c10] at H
   have c10b0 := eq_true c10
   have c10b1 := decide_eq_true c10
   clear c10
   obtain ⟨ji11, hji11⟩ : ∃ j_ : Int, (wrap64 ((ji9) + 1)) = j_ := ⟨_, rfl⟩
   first | rw [hji11] at H | simp only [hji11] at H | skip
   (try rw [hji11] at A8)
   have hji11w : (IntKind.i64.wrap ((ji9) + 1)) = ji11 := (i64_w _).trans hji11
   by_cases c12 : (ji9) ≤ (ji11)
   ·
    rw [if_pos c12] at H
    have c12b0 := eq_true c12
    have c12b1 := decide_eq_true c12
    clear c12
    by_cases c13 : (ji11) ≤ 10
    ·
     rw [if_pos c13] at H
     have c13b0 := eq_true c13
     have c13b1 := decide_eq_true c13
     clear c13
     obtain ⟨ji14, hji14⟩ : ∃ j_ : ByteArray, ((⟨#[48, 49, 50, 51, 52, 53, 54, 55, 56, 57]⟩ : ByteArray).extract ((ji9) : Int).toNat ((ji11) : Int).toNat) = j_ := ⟨_, rfl⟩
     try (have hji14x := hji14; simp only [Int.toNat_natCast, Int.toNat_ofNat] at hji14x)
     first | rw [hji14] at H | simp only [hji14] at H | skip
     (try rw [hji14] at A8)
     by_cases c15 : t281.size + (ji14).size ≤ 9223372036854775807
     ·
      rw [if_pos c15] at H
      have c15b0 := eq_true c15
      have c15b1 := decide_eq_true c15
      try have c15b2 : (9223372036854775807 < t281.size + (ji14).size) = False := eq_false (Nat.not_lt.2 c15)
      obtain rfl := Option.some.inj H
      go_enter Tryd.func41, Tryd.ntmps41
      try go_wp2
      have n0_ := Aside0.mk (below_drew1 HB.out)
      clear HB
      have HB := n0_
      clear n0_
      refine start_ (n := 12) (S := fun w' => True) (ds := []) #[false, false, false, false, false, false, false, false, false, false, false, false] (by kernel_rfl) rfl rfl trivial (fun hHeld => ?_); refine with_tabW monikerref19_Digits.tab4 monikerref19_Digits.bits4 (fun HT_ HW_ => ?_)
      generalize w.drew = w16 at HB hHeld ⊢
      refine pure_ (i := 0) (N := some 11) (v := ?_) (a' := ?_) #[true, false, false, false, false, false, false, false, false, false, false, false] rfl rfl (any_of HT_.out (by kernel_rfl)) (fun _ _ _ h => h) (Or.inl ⟨by rfl, ?_⟩) ?_ ?_
      rotate_left
      ·
       intro w'
       go_simp
       with_reducible rfl
      rotate_left
      ·
       simp only [Act.put, List.setIfInBounds_toArray, List.set_cons_zero, List.set_cons_succ, i64_w, i32_w]
       rfl
      refine pure_ (i := 1) (N := some 12) (v := ?_) (a' := ?_) #[true, true, false, false, false, false, false, false, false, false, false, false] rfl rfl (any_of HT_.out (by kernel_rfl)) (fun _ _ _ h => h) (Or.inl ⟨by rfl, ?_⟩) ?_ ?_
      rotate_left
      ·
       intro w'
       go_simp
       with_reducible rfl
      rotate_left
      ·
       simp only [Act.put, List.setIfInBounds_toArray, List.set_cons_zero, List.set_cons_succ, i64_w, i32_w]
       rfl
      refine pure_ (i := 3) (N := some 14) (v := ?_) (a' := ?_) #[true, true, false, true, false, false, false, false, false, false, false, false] rfl rfl (any_of HT_.out (by kernel_rfl)) (fun _ _ _ h => h) (Or.inl ⟨by rfl, ?_⟩) ?_ ?_
      rotate_left
      ·
       intro w'
       go_simp
       with_reducible rfl
      rotate_left
      ·
       simp only [Act.put, List.setIfInBounds_toArray, List.set_cons_zero, List.set_cons_succ, i64_w, i32_w]
       rfl
      refine pure_ (i := 4) (N := some 15) (v := ?_) (a' := ?_) #[true, true, false, true, true, false, false, false, false, false, false, false] rfl rfl (any_of HT_.out (by kernel_rfl)) (fun _ _ _ h => h) (Or.inl ⟨by rfl, ?_⟩) ?_ ?_
      rotate_left
      ·
       intro w'
       go_simp
       with_reducible rfl
      rotate_left
      ·
       simp only [Act.put, List.setIfInBounds_toArray, List.set_cons_zero, List.set_cons_succ, i64_w, i32_w]
       rfl
      refine pure_ (i := 5) (N := some 16) (v := ?_) (a' := ?_) #[true, true, false, true, true, true, false, false, false, false, false, false] rfl rfl (any_of HT_.out (by kernel_rfl)) (fun _ _ _ h => h) (Or.inl ⟨by rfl, ?_⟩) ?_ ?_
      rotate_left
      ·
       intro w'
       go_simp
       with_reducible rfl
      rotate_left
      ·
       simp only [Act.put, List.setIfInBounds_toArray, List.set_cons_zero, List.set_cons_succ, i64_w, i32_w]
       rfl
      refine pure_ (i := 6) (N := some 17) (v := ?_) (a' := ?_) #[true, true, false, true, true, true, true, false, false, false, false, false] rfl rfl (any_of HT_.out (by kernel_rfl)) (fun _ _ _ h => h) (Or.inl ⟨by rfl, ?_⟩) ?_ ?_
      rotate_left
      ·
       intro w'
       go_simp
       with_reducible rfl
      rotate_left
      ·
       simp only [Act.put, List.setIfInBounds_toArray, List.set_cons_zero, List.set_cons_succ, i64_w, i32_w]
       rfl
      refine pure_ (i := 7) (N := some 18) (v := ?_) (a' := ?_) #[true, true, false, true, true, true, true, true, false, false, false, false] rfl rfl (any_of HT_.out (by kernel_rfl)) (fun _ _ _ h => h) (Or.inl ⟨by rfl, ?_⟩) ?_ ?_
      rotate_left
      ·
       intro w'
       go_simp
       with_reducible rfl
      rotate_left
      ·
       simp only [Act.put, List.setIfInBounds_toArray, List.set_cons_zero, List.set_cons_succ, i64_w, i32_w]
       rfl
      refine pure_ (i := 8) (N := some 19) (v := ?_) (a' := ?_) #[true, true, false, true, true, true, true, true, true, false, false, false] rfl rfl (any_of HT_.out (by kernel_rfl)) (fun _ _ _ h => h) (Or.inl ⟨by rfl, ?_⟩) ?_ ?_
      rotate_left
      ·
       intro w'
       go_simp
       with_reducible rfl
      rotate_left
      ·
       simp only [Act.put, List.setIfInBounds_toArray, List.set_cons_zero, List.set_cons_succ, i64_w, i32_w]
       rfl
      refine pure_ (i := 9) (N := some 20) (v := ?_) (a' := ?_) #[true, true, false, true, true, true, true, true, true, true, false, false] rfl rfl (any_of HT_.out (by kernel_rfl)) (fun _ _ _ h => h) (Or.inl ⟨by rfl, ?_⟩) ?_ ?_
      rotate_left
      ·
       intro w'
       go_simp
       with_reducible rfl
      rotate_left
      ·
       simp only [Act.put, List.setIfInBounds_toArray, List.set_cons_zero, List.set_cons_succ, i64_w, i32_w]
       rfl
      refine one_ (i := 2) (N := some 13) #[true, true, true, true, true, true, true, true, true, true, false, false] rfl rfl (one_of HT_.out (by kernel_rfl)) (by decide) (fun K hK => ?_)
      refine goes_ Tryd.func41 (by kernel_rfl) rfl #[.int .i64 (wrap64 (Int.tdiv a0 10))] (by rfl) rfl rfl (by (try simp only [List.map_toArray, List.map_cons, List.map_nil]); first | done | rfl | (simp only [List.length_drop, List.length_take]; rfl)) ?_
      with_reducible refine (ih k (by omega) (wrap64 (Int.tdiv a0 10)) t281 _ A8.out).mono ?_
      rintro e w17 ⟨rfl, hb⟩
      refine ⟨_, rfl, ?_⟩
      have n0_ := xst hb
      clear HB
      have HB := n0_
      clear n0_
      (try clear hb)
      (try clear hb2)
      (try clear hk)
      (try clear hi)
      refine hK.out _ _ trivial (fun hHeld => ?_)
      clear hK K
      refine norm_ (a' := ?_) ?_ ?_
      rotate_left
      ·
       show Act.put _ (some 13) _ = _
       simp only [Act.put, List.setIfInBounds_toArray, List.set_cons_zero, List.set_cons_succ, i64_w, i32_w]
       rfl
      refine pure_ (i := 10) (N := some 21) (v := ?_) (a' := ?_) #[true, true, true, true, true, true, true, true, true, true, true, false] rfl rfl (any_of HT_.out (by kernel_rfl)) (fun _ _ _ h => h) (Or.inl ⟨by rfl, ?_⟩) ?_ ?_
      rotate_left
      ·
       intro w'
       go_simp
       with_reducible rfl
      rotate_left
      ·
       simp only [Act.put, List.setIfInBounds_toArray, List.set_cons_zero, List.set_cons_succ, i64_w, i32_w]
       rfl
      refine pure_ (i := 11) (N := some 2) (v := ?_) (a' := ?_) #[true, true, true, true, true, true, true, true, true, true, true, true] rfl rfl (any_of HT_.out (by kernel_rfl)) (fun _ _ _ h => h) (Or.inl ⟨by rfl, ?_⟩) ?_ ?_
      rotate_left
      ·
       intro w'
       go_simp
       with_reducible rfl
      rotate_left
      ·
       simp only [Act.put, List.setIfInBounds_toArray, List.set_cons_zero, List.set_cons_succ, i64_w, i32_w]
       rfl
      refine done_ (done_of HT_.out (by kernel_rfl)) ?_
      try go_wp2
      go_ret
      exact ⟨by first | rfl | (simp [errW_none, errW_some] <;> first | rfl | (simp only [xp_isEmpty, bne, Bool.not_not]; done)) | (simp only [← hji9, ← hji11, ← hji14]; first | rfl | (simp [errW_none, errW_some] <;> rfl)) | (simp [*, errW_none, errW_some] <;> rfl), xbl⟩
     ·
      rw [if_neg c15] at H
      exact absurd H (by simp)
    ·
     rw [if_neg c13] at H
     exact absurd H (by simp)
   ·
    rw [if_neg c12] at H
    exact absurd H (by simp)
  ·
   rw [if_neg c10] at H
   exact absurd H (by simp)
end Go.Proofs.YtdmigmccfdhdiaaDoor.X
namespace Go.Proofs.YtdmigmccfdhdiaaDoor.X
open Go.RowKit Go.Proofs.YtdmigmccfdhdiaaDoorW.PrintWords Go.Proofs.YtdmigmccfdhdiaaDoorW.PrintLast Go.Proofs.YtdmigmccfdhdiaaDoorW.PrintMore
attribute [local go_sem] max2_int min2_int max_two min_two max_three min_three max_four min_four
set_option linter.unusedVariables false
set_option linter.unusedSimpArgs false
mutual
def monikerref19_V4.l0 : Nat → List ByteArray → Int → Int → Int → Int → Int → Option (Int × Int × Int × Int × Bool)
  | 0, _, _, _, _, _, _ => none
  | k + 1, x4, x6, x287000, x287001, x287002, x287003 => if x6 < 4 then (monikerref19_V4.l1 k x4 x6 (-1) 0 x287000 x287001 x287002 x287003) else (some (x287000, x287001, x287002, x287003, true))
def monikerref19_V4.l1 : Nat → List ByteArray → Int → Int → Int → Int → Int → Int → Int → Option (Int × Int × Int × Int × Bool)
  | 0, _, _, _, _, _, _, _, _ => none
  | k + 1, x4, x6, x7, x8, x287000, x287001, x287002, x287003 => if x8 < 256 then ((monikerref19_Digits.f k x8).bind fun t287 => (if 0 ≤ x6 then (if x6 < (x4.length : Int) then (if t287.toList = (rdOf ByteArray.empty x4 x6).toList then (monikerref19_V4.l1 k x4 x6 x8 (wrap64 (x8 + 1)) x287000 x287001 x287002 x287003) else (monikerref19_V4.l1 k x4 x6 x7 (wrap64 (x8 + 1)) x287000 x287001 x287002 x287003)) else (none)) else (none))) else (if x7 < 0 then (some (0, 0, 0, 0, false)) else (if 0 ≤ x6 then (if x6 = 0 then (monikerref19_V4.l0 k x4 (wrap64 (x6 + 1)) x7 x287001 x287002 x287003) else (if x6 = 1 then (monikerref19_V4.l0 k x4 (wrap64 (x6 + 1)) x287000 x7 x287002 x287003) else (if x6 = 2 then (monikerref19_V4.l0 k x4 (wrap64 (x6 + 1)) x287000 x287001 x7 x287003) else (if x6 = 3 then (monikerref19_V4.l0 k x4 (wrap64 (x6 + 1)) x287000 x287001 x287002 x7) else (none))))) else (none)))
end
def monikerref19_V4.f (k : Nat) (a0 : ByteArray) : Option (Int × Int × Int × Int × Bool) := (monikerref19_Parts.f k a0 46).bind fun t283 => (if (t283.length : Int) = 4 then (monikerref19_V4.l0 k t283 0 0 0 0 0) else (some (0, 0, 0, 0, false)))
theorem monikerref19_V4.mono_l : ∀ k, (∀ y0 y1 y2 y3 y4 y5, LeO (monikerref19_V4.l0 k y0 y1 y2 y3 y4 y5) (monikerref19_V4.l0 (k + 1) y0 y1 y2 y3 y4 y5)) ∧ (∀ y0 y1 y2 y3 y4 y5 y6 y7, LeO (monikerref19_V4.l1 k y0 y1 y2 y3 y4 y5 y6 y7) (monikerref19_V4.l1 (k + 1) y0 y1 y2 y3 y4 y5 y6 y7))
  | 0 => ⟨fun _ _ _ _ _ _ r h => by simp [monikerref19_V4.l0] at h, fun _ _ _ _ _ _ _ _ r h => by simp [monikerref19_V4.l1] at h⟩
  | k + 1 => by
    obtain ⟨ih0, ih1⟩ := monikerref19_V4.mono_l k
    have m0 := @monikerref19_Digits.mono; have m1 := @monikerref19_Parts.mono
    refine ⟨?_, ?_⟩
    · intro y0 y1 y2 y3 y4 y5
      unfold monikerref19_V4.l0
      exact xmo
    · intro y0 y1 y2 y3 y4 y5 y6 y7
      unfold monikerref19_V4.l1
      exact xmo
theorem monikerref19_V4.mono : ∀ a0 k, LeO (monikerref19_V4.f k a0) (monikerref19_V4.f (k + 1) a0) := by
  intro a0 k
  obtain ⟨ih0, ih1⟩ := monikerref19_V4.mono_l k
  have m0 := @monikerref19_Digits.mono; have m1 := @monikerref19_Parts.mono
  unfold monikerref19_V4.f
  exact xmo
set_option maxHeartbeats 8000000 in
set_option maxRecDepth 100000 in
theorem monikerref19_V4.calls (k : Nat) (a0 : ByteArray) (r1 : Int) (r2 : Int) (r3 : Int) (r4 : Int) (r5 : Bool) (w : World) (h : monikerref19_V4.f k a0 = some (r1, r2, r3, r4, r5)) :
    Calls Tryd.prog 25 #[.string a0] w fun e w' => e = .returned (.tuple #[.agg #[.int .i64 r1, .int .i64 r2, .int .i64 r3, .int .i64 r4], .bool r5]) ∧ Below w.heap.size w w' := by
 have hu46 := Tryd.underlying46
 have HB := Aside0.mk (Below.refl w.heap.size w)
 have H : ((monikerref19_Parts.f k a0 46).bind fun t283 => (if (t283.length : Int) = 4 then (monikerref19_V4.l0 k t283 0 0 0 0 0) else (some (0, 0, 0, 0, false)))) = some (r1, r2, r3, r4, r5) := h
 clear h
 replace H := Option.bind_eq_some_iff.mp H
 obtain ⟨t283, A20, H⟩ := H
 try dsimp only at H
 have A2 := Aside0.mk A20
 clear A20
 by_cases c3 : (t283.length : Int) = 4
 ·
  rw [if_pos c3] at H
  have c3b0 : ((t283.length : Int) == 4) = true := beq_iff_eq.mpr c3
  have c3b1 : ((t283.length : Int) != 4) = false := bne_eq_false_iff_eq.mpr c3
  clear c3
  have H' := Aside0.mk H
  clear H
  go_enter Tryd.func25, Tryd.ntmps25
  go_wp2_with (first | ((with_reducible refine gate_dst (N := 2) rfl ?_); refine xev 2 #[.int .i64 0, .int .i64 0, .int .i64 0, .int .i64 0] 46 ?_; intro gb282 hg w4 hbox hb; have BK282 := Aside0.mk (hbox); have GW282 := xsz hg; have GE282 := GW282; replace HB := xst hb; clear hb hbox hg) | ((with_reducible refine gate_callee (f := 40) rfl ?_); refine xgl 10 Tryd.func40 #[.string a0, .int .u8 46] ?_; (with_reducible refine (monikerref19_Parts.calls k a0 46 t283 _ A2.out).mono ?_); rintro e w5 ⟨v284, rfl, ho0, hb⟩; refine ⟨_, rfl, ?_⟩; have HO285 := Aside0.mk (Kd.R_lower ho0 (below_size xbl)); replace BK282 := xbb (g := gb282) (o := .cells #[.int .i64 0, .int .i64 0, .int .i64 0, .int .i64 0] 46 (0, 0)) hb; replace HB := xst hb; (try clear hb); (try clear ho0)) | ((with_reducible refine gate_dst (N := 5) rfl ?_); refine xev 5 #[.int .i64 0, .int .i64 0, .int .i64 0, .int .i64 0] 46 ?_; intro gb286 hg w6 hbox hb; have BK286 := Aside0.mk (hbox); have GW286 := xsz hg; have GE286 := GW286; have NB282_286 := xlt (g := gb282) hg; have NB286_282 := xgt (g := gb282) hg; replace HO285 := Aside0.mk (Kd.R_below (xkd HO285) hb); replace BK282 := xbb (g := gb282) (o := .cells #[.int .i64 0, .int .i64 0, .int .i64 0, .int .i64 0] 46 (0, 0)) hb; replace HB := xst hb; clear hb hbox hg; have hnb7 := NB286_282.out; have hnc7 := NB282_286.out; obtain ⟨hcz8_0, hcz8_1, hcz8_2, hcz8_3⟩ := xc4 BK286; have hfz8_0 := xf BK286 0; have hfz8_1 := xf BK286 1; have hfz8_2 := xf BK286 2; have hfz8_3 := xf BK286 3; obtain ⟨Ao9, co9, eo9⟩ := Kd.R_slice HO285.out; subst eo9))
  go_loopg [6] k (fun kq v6 w' => ∃ (x6_1 : Int) (x283000_1 : Int) (x283001_1 : Int) (x283002_1 : Int) (x283003_1 : Int) (x287000_1 : Int) (x287001_1 : Int) (x287002_1 : Int) (x287003_1 : Int), v6 = .int .i64 x6_1 ∧ Aside0 (monikerref19_V4.l0 kq t283 x6_1 x287000_1 x287001_1 x287002_1 x287003_1 = some (r1, r2, r3, r4, r5)) ∧ Aside0 (kq ≤ k) ∧ Aside0 (Kd.R Kd.string 9 w' w.heap.size (fun _ => True) (.slice Ao9 t283.length co9) t283) ∧ Aside0 (w'.heap[gb282]? = some (.cells #[.int .i64 x283000_1, .int .i64 x283001_1, .int .i64 x283002_1, .int .i64 x283003_1] 46 (0, 0))) ∧ Aside0 (w'.heap[gb286]? = some (.cells #[.int .i64 x287000_1, .int .i64 x287001_1, .int .i64 x287002_1, .int .i64 x287003_1] 46 (0, 0))) ∧ Aside0 (Below w.heap.size w w'))
  case atStart => exact ⟨(0), (0), (0), (0), (0), (0), (0), (0), (0), xrr, H', ⟨Nat.le_refl _⟩, ⟨by (with_reducible repeat (first | apply Kd.R_alloc | apply Kd.R_drewN | apply Kd.R_drew)); exact Kd.R_mono (Kd.R_far (p := ⟨gb286, 3, none⟩) (Kd.R_far (p := ⟨gb286, 2, none⟩) (Kd.R_far (p := ⟨gb286, 1, none⟩) (Kd.R_far (p := ⟨gb286, 0, none⟩) (Kd.R_types HO285.out BK286.out (by decide)) (fun _ hk => hk.2) (.int .i64 0)) (fun _ hk => hk.2) (.int .i64 0)) (fun _ hk => hk.2) (.int .i64 0)) (fun _ hk => hk.2) (.int .i64 0)) (fun _ hk => trivial)⟩, ⟨by (with_reducible repeat (first | refine blk_drewN ?_ _ | refine blk_drew ?_ | refine blk_alloc ?_ _)); refine blk_far ?_ NB282_286.out _; (with_reducible repeat (first | refine blk_drewN ?_ _ | refine blk_drew ?_ | refine blk_alloc ?_ _)); refine blk_far ?_ NB282_286.out _; (with_reducible repeat (first | refine blk_drewN ?_ _ | refine blk_drew ?_ | refine blk_alloc ?_ _)); refine blk_far ?_ NB282_286.out _; (with_reducible repeat (first | refine blk_drewN ?_ _ | refine blk_drew ?_ | refine blk_alloc ?_ _)); refine blk_far ?_ NB282_286.out _; (with_reducible repeat (first | refine blk_drewN ?_ _ | refine blk_drew ?_ | refine blk_alloc ?_ _)); exact BK282.out⟩, ⟨by (with_reducible repeat (first | refine blk_drewN ?_ _ | refine blk_drew ?_ | refine blk_alloc ?_ _)); refine blk_put (cs := #[.int .i64 0, .int .i64 0, .int .i64 0, .int .i64 0]) ?_ 3 _ rfl; (with_reducible repeat (first | refine blk_drewN ?_ _ | refine blk_drew ?_ | refine blk_alloc ?_ _)); refine blk_put (cs := #[.int .i64 0, .int .i64 0, .int .i64 0, .int .i64 0]) ?_ 2 _ rfl; (with_reducible repeat (first | refine blk_drewN ?_ _ | refine blk_drew ?_ | refine blk_alloc ?_ _)); refine blk_put (cs := #[.int .i64 0, .int .i64 0, .int .i64 0, .int .i64 0]) ?_ 1 _ rfl; (with_reducible repeat (first | refine blk_drewN ?_ _ | refine blk_drew ?_ | refine blk_alloc ?_ _)); refine blk_put (cs := #[.int .i64 0, .int .i64 0, .int .i64 0, .int .i64 0]) ?_ 0 _ rfl; (with_reducible repeat (first | refine blk_drewN ?_ _ | refine blk_drew ?_ | refine blk_alloc ?_ _)); exact BK286.out⟩, ⟨xbl⟩⟩
  case round =>
   clear H'
   clear c3b0 c3b1
   obtain ⟨x6_1, x283000_1, x283001_1, x283002_1, x283003_1, x287000_1, x287001_1, x287002_1, x287003_1, rfl, HA, HK1, HO_4, BK282, BK286, HB⟩ := hrel
   cases gk with
   | zero => exact absurd HA.out (by simp [monikerref19_V4.l0])
   | succ k1 =>
    have H := HA.out
    clear HA
    simp only [monikerref19_V4.l0] at H
    by_cases c10 : x6_1 < 4
    ·
     rw [if_pos c10] at H
     have c10b0 := decide_eq_true c10
     clear c10
     have H' := Aside0.mk H
     clear H
     go_wp2
     go_loopg [7, 8] k1 (fun kq v7 v8 w' => ∃ (x7_2 : Int) (x8_2 : Int), v7 = .int .i64 x7_2 ∧ v8 = .int .i64 x8_2 ∧ Aside0 (monikerref19_V4.l1 kq t283 x6_1 x7_2 x8_2 x287000_1 x287001_1 x287002_1 x287003_1 = some (r1, r2, r3, r4, r5)) ∧ Aside0 (kq ≤ k1) ∧ Aside0 (Kd.R Kd.string 9 w' w.heap.size (fun _ => True) (.slice Ao9 t283.length co9) t283) ∧ Aside0 (w'.heap[gb282]? = some (.cells #[.int .i64 x283000_1, .int .i64 x283001_1, .int .i64 x283002_1, .int .i64 x283003_1] 46 (0, 0))) ∧ Aside0 (w'.heap[gb286]? = some (.cells #[.int .i64 x287000_1, .int .i64 x287001_1, .int .i64 x287002_1, .int .i64 x287003_1] 46 (0, 0))) ∧ Aside0 (Below w.heap.size w w'))
     case atStart => exact ⟨((-1)), (0), xrr, xrr, H', ⟨Nat.le_refl _⟩, ⟨xkd HO_4⟩, ⟨xbk⟩, ⟨xbk⟩, ⟨xbl⟩⟩
     case round =>
      clear H'
      clear c10b0
      obtain ⟨x7_2, x8_2, rfl, rfl, HA, HK2, HO_4, BK282, BK286, HB⟩ := hrel
      cases gk with
      | zero => exact absurd HA.out (by simp [monikerref19_V4.l1])
      | succ k2 =>
       have H := HA.out
       clear HA
       simp only [monikerref19_V4.l1] at H
       by_cases c11 : x8_2 < 256
       ·
        rw [if_pos c11] at H
        have c11b0 := decide_eq_true c11
        clear c11
        replace H := Option.bind_eq_some_iff.mp H
        obtain ⟨t287, A120, H⟩ := H
        try dsimp only at H
        have A12 := Aside0.mk A120
        clear A120
        by_cases c13 : 0 ≤ x6_1
        ·
         rw [if_pos c13] at H
         have c13b0 := decide_eq_true c13
         clear c13
         by_cases c14 : x6_1 < (t283.length : Int)
         ·
          rw [if_pos c14] at H
          have c14b0 := decide_eq_true c14
          clear c14
          by_cases c15 : t287.toList = (rdOf ByteArray.empty t283 x6_1).toList
          ·
           rw [if_pos c15] at H
           have c15b0 : (t287.toList == (rdOf ByteArray.empty t283 x6_1).toList) = true := beq_iff_eq.mpr c15
           have c15b1 : (t287.toList != (rdOf ByteArray.empty t283 x6_1).toList) = false := bne_eq_false_iff_eq.mpr c15
           clear c15
           have H' := Aside0.mk H
           clear H
           try go_wp2
           have n0_ := Aside0.mk (Kd.R_drew HO_4.out)
           have n1_ := Aside0.mk (blk_drew BK282.out)
           have n2_ := Aside0.mk (blk_drew BK286.out)
           have n3_ := Aside0.mk (below_drew1 HB.out)
           clear HO_4
           clear BK282
           clear BK286
           clear HB
           have HO_4 := n0_
           have BK282 := n1_
           have BK286 := n2_
           have HB := n3_
           clear n0_ n1_ n2_ n3_
           have p288 : 0 ≤ (x6_1 : Int) := xod
           have q288 : x6_1 < (t283.length : Int) := xod
           obtain ⟨ad288, e288, hx288_0⟩ := Kd.at_string (Kd.R_reads' HO_4.out).2.2 x6_1 p288 q288
           cases e288
           replace p288 := eq_true p288
           replace q288 := eq_true q288
           try (have q288x := q288; simp only [ByteArray.size_extract, Nat.min_self] at q288x)
           refine start_ (n := 7) (S := fun w' => w'.cell? (ad288.add (x6_1).toNat) = some (.string (rdOf ByteArray.empty t283 x6_1))) (ds := []) #[false, false, false, false, false, false, false] (by kernel_rfl) rfl rfl (hx288_0) (fun hHeld => ?_)
           generalize wr.drew = w16 at HO_4 BK282 BK286 HB hx288_0 hHeld ⊢
           refine pure_ (i := 0) (N := some 24) (v := ?_) (a' := ?_) #[true, false, false, false, false, false, false] rfl rfl (by kernel_rfl) (fun _ _ _ h => h) (Or.inl ⟨by rfl, ?_⟩) ?_ ?_
           rotate_left
           ·
            intro w'
            go_simp
            with_reducible rfl
           rotate_left
           ·
            simp only [Act.put, List.setIfInBounds_toArray, List.set_cons_zero, List.set_cons_succ, i64_w, i32_w]
            rfl
           refine pure_ (i := 2) (N := some 26) (v := ?_) (a' := ?_) #[true, false, true, false, false, false, false] rfl rfl (by kernel_rfl) (fun _ _ _ h => h) (Or.inl ⟨by rfl, ?_⟩) ?_ ?_
           rotate_left
           ·
            intro w'
            go_simp
            with_reducible rfl
           rotate_left
           ·
            simp only [Act.put, List.setIfInBounds_toArray, List.set_cons_zero, List.set_cons_succ, i64_w, i32_w]
            rfl
           refine pure_ (i := 3) (N := some 27) (v := ?_) (a' := ?_) #[true, false, true, true, false, false, false] rfl rfl (by kernel_rfl) (fun _ _ _ h => h) (Or.inl ⟨by rfl, ?_⟩) ?_ ?_
           rotate_left
           ·
            intro w'
            go_simp
            with_reducible rfl
           rotate_left
           ·
            simp only [Act.put, List.setIfInBounds_toArray, List.set_cons_zero, List.set_cons_succ, i64_w, i32_w]
            rfl
           refine pure_ (i := 4) (N := some 28) (v := ?_) (a' := ?_) #[true, false, true, true, true, false, false] rfl rfl (by kernel_rfl) (fun _ _ _ h => h) (Or.inl ⟨by rfl, ?_⟩) ?_ ?_
           rotate_left
           ·
            intro w'
            go_simp
            with_reducible rfl
           rotate_left
           ·
            simp only [Act.put, List.setIfInBounds_toArray, List.set_cons_zero, List.set_cons_succ, i64_w, i32_w]
            rfl
           refine take_ (i := 5) (N := some 29) (v := ?_) (a' := ?_) #[true, false, true, true, true, true, false] rfl rfl (by kernel_rfl) (fun _ _ _ h => h) (Or.inl ⟨by rfl, ?_⟩) hHeld ?_ ?_
           rotate_left
           ·
            intro w' s0
            go_simp
            with_reducible rfl
           rotate_left
           ·
            simp only [Act.put, List.setIfInBounds_toArray, List.set_cons_zero, List.set_cons_succ, i64_w, i32_w]
            rfl
           refine one_ (i := 1) (N := some 25) #[true, true, true, true, true, true, false] rfl rfl (by kernel_rfl) (by decide) (fun K hK => ?_)
           refine goes_ Tryd.func41 (by kernel_rfl) rfl #[.int .i64 x8_2] (by rfl) rfl rfl (by (try simp only [List.map_toArray, List.map_cons, List.map_nil]); first | done | rfl | (simp only [List.length_drop, List.length_take]; rfl)) ?_
           with_reducible refine (monikerref19_Digits.calls k2 x8_2 t287 _ A12.out).mono ?_
           rintro e w17 ⟨rfl, hb⟩
           have HS0_ := (hb.cell (World.block_lt_of_cell? _ _ (hHeld))).trans (hHeld)
           refine ⟨_, rfl, ?_⟩
           have n0_ := Aside0.mk (Kd.R_below (xkd HO_4) hb)
           have n1_ := xbb (g := gb282) (o := .cells #[.int .i64 x283000_1, .int .i64 x283001_1, .int .i64 x283002_1, .int .i64 x283003_1] 46 (0, 0)) hb
           have n2_ := xbb (g := gb286) (o := .cells #[.int .i64 x287000_1, .int .i64 x287001_1, .int .i64 x287002_1, .int .i64 x287003_1] 46 (0, 0)) hb
           have n3_ := xst hb
           clear HO_4
           clear BK282
           clear BK286
           clear HB
           have HO_4 := n0_
           have BK282 := n1_
           have BK286 := n2_
           have HB := n3_
           clear n0_ n1_ n2_ n3_
           (try clear hb)
           (try clear hb2)
           (try clear hk)
           (try clear hi)
           refine hK.out _ _ (HS0_) (fun hHeld => ?_)
           clear hK K
           refine norm_ (a' := ?_) ?_ ?_
           rotate_left
           ·
            show Act.put _ (some 25) _ = _
            simp only [Act.put, List.setIfInBounds_toArray, List.set_cons_zero, List.set_cons_succ, i64_w, i32_w]
            rfl
           refine pure_ (i := 6) (N := some 30) (v := ?_) (a' := ?_) #[true, true, true, true, true, true, true] rfl rfl (by kernel_rfl) (fun _ _ _ h => h) (Or.inl ⟨by rfl, ?_⟩) ?_ ?_
           rotate_left
           ·
            intro w'
            go_simp
            with_reducible rfl
           rotate_left
           ·
            simp only [Act.put, List.setIfInBounds_toArray, List.set_cons_zero, List.set_cons_succ, i64_w, i32_w]
            rfl
           refine done_ (by kernel_rfl) ?_
           try go_wp2
           go_roundg k2
           case measure => have := HK1.out; have := HK2.out; omega
           case rel => exact ⟨(x8_2), (wrap64 (x8_2 + 1)), xrr, xrr, H', ⟨by have := HK1.out; have := HK2.out; omega⟩, ⟨xkd HO_4⟩, ⟨xbk⟩, ⟨xbk⟩, ⟨xbl⟩⟩
          ·
           rw [if_neg c15] at H
           have c15b0 : (t287.toList == (rdOf ByteArray.empty t283 x6_1).toList) = false := beq_eq_false_iff_ne.mpr c15
           have c15b1 : (t287.toList != (rdOf ByteArray.empty t283 x6_1).toList) = true := bne_iff_ne.mpr c15
           have H' := Aside0.mk H
           clear H
           try go_wp2
           have n0_ := Aside0.mk (Kd.R_drew HO_4.out)
           have n1_ := Aside0.mk (blk_drew BK282.out)
           have n2_ := Aside0.mk (blk_drew BK286.out)
           have n3_ := Aside0.mk (below_drew1 HB.out)
           clear HO_4
           clear BK282
           clear BK286
           clear HB
           have HO_4 := n0_
           have BK282 := n1_
           have BK286 := n2_
           have HB := n3_
           clear n0_ n1_ n2_ n3_
           have p288 : 0 ≤ (x6_1 : Int) := xod
           have q288 : x6_1 < (t283.length : Int) := xod
           obtain ⟨ad288, e288, hx288_0⟩ := Kd.at_string (Kd.R_reads' HO_4.out).2.2 x6_1 p288 q288
           cases e288
           replace p288 := eq_true p288
           replace q288 := eq_true q288
           try (have q288x := q288; simp only [ByteArray.size_extract, Nat.min_self] at q288x)
           refine start_ (n := 7) (S := fun w' => w'.cell? (ad288.add (x6_1).toNat) = some (.string (rdOf ByteArray.empty t283 x6_1))) (ds := []) #[false, false, false, false, false, false, false] (by kernel_rfl) rfl rfl (hx288_0) (fun hHeld => ?_)
           generalize wr.drew = w18 at HO_4 BK282 BK286 HB hx288_0 hHeld ⊢
           refine pure_ (i := 0) (N := some 24) (v := ?_) (a' := ?_) #[true, false, false, false, false, false, false] rfl rfl (by kernel_rfl) (fun _ _ _ h => h) (Or.inl ⟨by rfl, ?_⟩) ?_ ?_
           rotate_left
           ·
            intro w'
            go_simp
            with_reducible rfl
           rotate_left
           ·
            simp only [Act.put, List.setIfInBounds_toArray, List.set_cons_zero, List.set_cons_succ, i64_w, i32_w]
            rfl
           refine pure_ (i := 2) (N := some 26) (v := ?_) (a' := ?_) #[true, false, true, false, false, false, false] rfl rfl (by kernel_rfl) (fun _ _ _ h => h) (Or.inl ⟨by rfl, ?_⟩) ?_ ?_
           rotate_left
           ·
            intro w'
            go_simp
            with_reducible rfl
           rotate_left
           ·
            simp only [Act.put, List.setIfInBounds_toArray, List.set_cons_zero, List.set_cons_succ, i64_w, i32_w]
            rfl
           refine pure_ (i := 3) (N := some 27) (v := ?_) (a' := ?_) #[true, false, true, true, false, false, false] rfl rfl (by kernel_rfl) (fun _ _ _ h => h) (Or.inl ⟨by rfl, ?_⟩) ?_ ?_
           rotate_left
           ·
            intro w'
            go_simp
            with_reducible rfl
           rotate_left
           ·
            simp only [Act.put, List.setIfInBounds_toArray, List.set_cons_zero, List.set_cons_succ, i64_w, i32_w]
            rfl
           refine pure_ (i := 4) (N := some 28) (v := ?_) (a' := ?_) #[true, false, true, true, true, false, false] rfl rfl (by kernel_rfl) (fun _ _ _ h => h) (Or.inl ⟨by rfl, ?_⟩) ?_ ?_
           rotate_left
           ·
            intro w'
            go_simp
            with_reducible rfl
           rotate_left
           ·
            simp only [Act.put, List.setIfInBounds_toArray, List.set_cons_zero, List.set_cons_succ, i64_w, i32_w]
            rfl
           refine take_ (i := 5) (N := some 29) (v := ?_) (a' := ?_) #[true, false, true, true, true, true, false] rfl rfl (by kernel_rfl) (fun _ _ _ h => h) (Or.inl ⟨by rfl, ?_⟩) hHeld ?_ ?_
           rotate_left
           ·
            intro w' s0
            go_simp
            with_reducible rfl
           rotate_left
           ·
            simp only [Act.put, List.setIfInBounds_toArray, List.set_cons_zero, List.set_cons_succ, i64_w, i32_w]
            rfl
           refine one_ (i := 1) (N := some 25) #[true, true, true, true, true, true, false] rfl rfl (by kernel_rfl) (by decide) (fun K hK => ?_)
           refine goes_ Tryd.func41 (by kernel_rfl) rfl #[.int .i64 x8_2] (by rfl) rfl rfl (by (try simp only [List.map_toArray, List.map_cons, List.map_nil]); first | done | rfl | (simp only [List.length_drop, List.length_take]; rfl)) ?_
           with_reducible refine (monikerref19_Digits.calls k2 x8_2 t287 _ A12.out).mono ?_
           rintro e w19 ⟨rfl, hb⟩
           have HS0_ := (hb.cell (World.block_lt_of_cell? _ _ (hHeld))).trans (hHeld)
           refine ⟨_, rfl, ?_⟩
           have n0_ := Aside0.mk (Kd.R_below (xkd HO_4) hb)
           have n1_ := xbb (g := gb282) (o := .cells #[.int .i64 x283000_1, .int .i64 x283001_1, .int .i64 x283002_1, .int .i64 x283003_1] 46 (0, 0)) hb
           have n2_ := xbb (g := gb286) (o := .cells #[.int .i64 x287000_1, .int .i64 x287001_1, .int .i64 x287002_1, .int .i64 x287003_1] 46 (0, 0)) hb
           have n3_ := xst hb
           clear HO_4
           clear BK282
           clear BK286
           clear HB
           have HO_4 := n0_
           have BK282 := n1_
           have BK286 := n2_
           have HB := n3_
           clear n0_ n1_ n2_ n3_
           (try clear hb)
           (try clear hb2)
           (try clear hk)
           (try clear hi)
           refine hK.out _ _ (HS0_) (fun hHeld => ?_)
           clear hK K
           refine norm_ (a' := ?_) ?_ ?_
           rotate_left
           ·
            show Act.put _ (some 25) _ = _
            simp only [Act.put, List.setIfInBounds_toArray, List.set_cons_zero, List.set_cons_succ, i64_w, i32_w]
            rfl
           refine pure_ (i := 6) (N := some 30) (v := ?_) (a' := ?_) #[true, true, true, true, true, true, true] rfl rfl (by kernel_rfl) (fun _ _ _ h => h) (Or.inl ⟨by rfl, ?_⟩) ?_ ?_
           rotate_left
           ·
            intro w'
            go_simp
            with_reducible rfl
           rotate_left
           ·
            simp only [Act.put, List.setIfInBounds_toArray, List.set_cons_zero, List.set_cons_succ, i64_w, i32_w]
            rfl
           refine done_ (by kernel_rfl) ?_
           try go_wp2
           go_roundg k2
           case measure => have := HK1.out; have := HK2.out; omega
           case rel => exact ⟨(x7_2), (wrap64 (x8_2 + 1)), xrr, xrr, H', ⟨by have := HK1.out; have := HK2.out; omega⟩, ⟨xkd HO_4⟩, ⟨xbk⟩, ⟨xbk⟩, ⟨xbl⟩⟩
         ·
          rw [if_neg c14] at H
          exact absurd H (by simp)
        ·
         rw [if_neg c13] at H
         exact absurd H (by simp)
       ·
        rw [if_neg c11] at H
        have c11b0 := decide_eq_false c11
        clear c11
        by_cases c20 : x7_2 < 0
        ·
         rw [if_pos c20] at H
         have c20b0 := decide_eq_true c20
         clear c20
         simp only [Option.some.injEq, Prod.mk.injEq] at H
         obtain ⟨rfl, rfl, rfl, rfl, rfl⟩ := H
         have hnb21 := NB282_286.out
         have hnc21 := NB286_282.out
         obtain ⟨hcz22_0, hcz22_1, hcz22_2, hcz22_3⟩ := xc4 BK282
         have hfz22_0 := xf BK282 0
         have hfz22_1 := xf BK282 1
         have hfz22_2 := xf BK282 2
         have hfz22_3 := xf BK282 3
         go_wp2
         refine bodyPost_ret (results_ct rfl _ _ gb282 46 #[.int .i64 0, .int .i64 0, .int .i64 0, .int .i64 0] (0, 0) _ rfl xbk Tryd.underlying46 rfl (by kernel_rfl)) rfl ?_
         exact ⟨xre, xbl⟩
        ·
         rw [if_neg c20] at H
         have c20b0 := decide_eq_false c20
         clear c20
         by_cases c23 : 0 ≤ x6_1
         ·
          rw [if_pos c23] at H
          have c23b0 := decide_eq_true c23
          clear c23
          by_cases c24 : x6_1 = 0
          ·
           subst c24
           rw [if_pos rfl] at H
           have H' := Aside0.mk H
           clear H
           have hnb25 := NB286_282.out
           have hnc25 := NB282_286.out
           obtain ⟨hcz26_0, hcz26_1, hcz26_2, hcz26_3⟩ := xc4 BK286
           have hfz26_0 := xf BK286 0
           have hfz26_1 := xf BK286 1
           have hfz26_2 := xf BK286 2
           have hfz26_3 := xf BK286 3
           go_wp2
           go_roundg k2
           case measure => have := HK1.out; have := HK2.out; omega
           case rel => exact ⟨(wrap64 (0 + 1)), (x283000_1), (x283001_1), (x283002_1), (x283003_1), (x7_2), (x287001_1), (x287002_1), (x287003_1), xrr, H', ⟨by have := HK1.out; have := HK2.out; omega⟩, ⟨by (with_reducible repeat (first | apply Kd.R_alloc | apply Kd.R_drewN | apply Kd.R_drew)); exact Kd.R_mono (Kd.R_far (p := ⟨gb286, 0, none⟩) (Kd.R_types HO_4.out BK286.out (by decide)) (fun _ hk => hk.2) (.int .i64 x7_2)) (fun _ hk => trivial)⟩, ⟨by (with_reducible repeat (first | refine blk_drewN ?_ _ | refine blk_drew ?_ | refine blk_alloc ?_ _)); refine blk_far ?_ NB282_286.out _; (with_reducible repeat (first | refine blk_drewN ?_ _ | refine blk_drew ?_ | refine blk_alloc ?_ _)); exact BK282.out⟩, ⟨by (with_reducible repeat (first | refine blk_drewN ?_ _ | refine blk_drew ?_ | refine blk_alloc ?_ _)); refine blk_put (cs := #[.int .i64 x287000_1, .int .i64 x287001_1, .int .i64 x287002_1, .int .i64 x287003_1]) ?_ 0 _ rfl; (with_reducible repeat (first | refine blk_drewN ?_ _ | refine blk_drew ?_ | refine blk_alloc ?_ _)); exact BK286.out⟩, ⟨xbl⟩⟩
          ·
           rw [if_neg c24] at H
           clear c24
           by_cases c27 : x6_1 = 1
           ·
            subst c27
            rw [if_pos rfl] at H
            have H' := Aside0.mk H
            clear H
            have hnb28 := NB286_282.out
            have hnc28 := NB282_286.out
            obtain ⟨hcz29_0, hcz29_1, hcz29_2, hcz29_3⟩ := xc4 BK286
            have hfz29_0 := xf BK286 0
            have hfz29_1 := xf BK286 1
            have hfz29_2 := xf BK286 2
            have hfz29_3 := xf BK286 3
            go_wp2
            go_roundg k2
            case measure => have := HK1.out; have := HK2.out; omega
            case rel => exact ⟨(wrap64 (1 + 1)), (x283000_1), (x283001_1), (x283002_1), (x283003_1), (x287000_1), (x7_2), (x287002_1), (x287003_1), xrr, H', ⟨by have := HK1.out; have := HK2.out; omega⟩, ⟨by (with_reducible repeat (first | apply Kd.R_alloc | apply Kd.R_drewN | apply Kd.R_drew)); exact Kd.R_mono (Kd.R_far (p := ⟨gb286, 1, none⟩) (Kd.R_types HO_4.out BK286.out (by decide)) (fun _ hk => hk.2) (.int .i64 x7_2)) (fun _ hk => trivial)⟩, ⟨by (with_reducible repeat (first | refine blk_drewN ?_ _ | refine blk_drew ?_ | refine blk_alloc ?_ _)); refine blk_far ?_ NB282_286.out _; (with_reducible repeat (first | refine blk_drewN ?_ _ | refine blk_drew ?_ | refine blk_alloc ?_ _)); exact BK282.out⟩, ⟨by (with_reducible repeat (first | refine blk_drewN ?_ _ | refine blk_drew ?_ | refine blk_alloc ?_ _)); refine blk_put (cs := #[.int .i64 x287000_1, .int .i64 x287001_1, .int .i64 x287002_1, .int .i64 x287003_1]) ?_ 1 _ rfl; (with_reducible repeat (first | refine blk_drewN ?_ _ | refine blk_drew ?_ | refine blk_alloc ?_ _)); exact BK286.out⟩, ⟨xbl⟩⟩
           ·
            rw [if_neg c27] at H
            clear c27
            by_cases c30 : x6_1 = 2
            ·
             subst c30
             rw [if_pos rfl] at H
             have H' := Aside0.mk H
             clear H
             have hnb31 := NB286_282.out
             have hnc31 := NB282_286.out
             obtain ⟨hcz32_0, hcz32_1, hcz32_2, hcz32_3⟩ := xc4 BK286
             have hfz32_0 := xf BK286 0
             have hfz32_1 := xf BK286 1
             have hfz32_2 := xf BK286 2
             have hfz32_3 := xf BK286 3
             go_wp2
             go_roundg k2
             case measure => have := HK1.out; have := HK2.out; omega
             case rel => exact ⟨(wrap64 (2 + 1)), (x283000_1), (x283001_1), (x283002_1), (x283003_1), (x287000_1), (x287001_1), (x7_2), (x287003_1), xrr, H', ⟨by have := HK1.out; have := HK2.out; omega⟩, ⟨by (with_reducible repeat (first | apply Kd.R_alloc | apply Kd.R_drewN | apply Kd.R_drew)); exact Kd.R_mono (Kd.R_far (p := ⟨gb286, 2, none⟩) (Kd.R_types HO_4.out BK286.out (by decide)) (fun _ hk => hk.2) (.int .i64 x7_2)) (fun _ hk => trivial)⟩, ⟨by (with_reducible repeat (first | refine blk_drewN ?_ _ | refine blk_drew ?_ | refine blk_alloc ?_ _)); refine blk_far ?_ NB282_286.out _; (with_reducible repeat (first | refine blk_drewN ?_ _ | refine blk_drew ?_ | refine blk_alloc ?_ _)); exact BK282.out⟩, ⟨by (with_reducible repeat (first | refine blk_drewN ?_ _ | refine blk_drew ?_ | refine blk_alloc ?_ _)); refine blk_put (cs := #[.int .i64 x287000_1, .int .i64 x287001_1, .int .i64 x287002_1, .int .i64 x287003_1]) ?_ 2 _ rfl; (with_reducible repeat (first | refine blk_drewN ?_ _ | refine blk_drew ?_ | refine blk_alloc ?_ _)); exact BK286.out⟩, ⟨xbl⟩⟩
            ·
             rw [if_neg c30] at H
             clear c30
             by_cases c33 : x6_1 = 3
             ·
              subst c33
              rw [if_pos rfl] at H
              have H' := Aside0.mk H
              clear H
              have hnb34 := NB286_282.out
              have hnc34 := NB282_286.out
              obtain ⟨hcz35_0, hcz35_1, hcz35_2, hcz35_3⟩ := xc4 BK286
              have hfz35_0 := xf BK286 0
              have hfz35_1 := xf BK286 1
              have hfz35_2 := xf BK286 2
              have hfz35_3 := xf BK286 3
              go_wp2
              go_roundg k2
              case measure => have := HK1.out; have := HK2.out; omega
              case rel => exact ⟨(wrap64 (3 + 1)), (x283000_1), (x283001_1), (x283002_1), (x283003_1), (x287000_1), (x287001_1), (x287002_1), (x7_2), xrr, H', ⟨by have := HK1.out; have := HK2.out; omega⟩, ⟨by (with_reducible repeat (first | apply Kd.R_alloc | apply Kd.R_drewN | apply Kd.R_drew)); exact Kd.R_mono (Kd.R_far (p := ⟨gb286, 3, none⟩) (Kd.R_types HO_4.out BK286.out (by decide)) (fun _ hk => hk.2) (.int .i64 x7_2)) (fun _ hk => trivial)⟩, ⟨by (with_reducible repeat (first | refine blk_drewN ?_ _ | refine blk_drew ?_ | refine blk_alloc ?_ _)); refine blk_far ?_ NB282_286.out _; (with_reducible repeat (first | refine blk_drewN ?_ _ | refine blk_drew ?_ | refine blk_alloc ?_ _)); exact BK282.out⟩, ⟨by (with_reducible repeat (first | refine blk_drewN ?_ _ | refine blk_drew ?_ | refine blk_alloc ?_ _)); refine blk_put (cs := #[.int .i64 x287000_1, .int .i64 x287001_1, .int .i64 x287002_1, .int .i64 x287003_1]) ?_ 3 _ rfl; (with_reducible repeat (first | refine blk_drewN ?_ _ | refine blk_drew ?_ | refine blk_alloc ?_ _)); exact BK286.out⟩, ⟨xbl⟩⟩
             ·
              rw [if_neg c33] at H
              clear c33
              exact absurd H (by simp)
         ·
          rw [if_neg c23] at H
          exact absurd H (by simp)
    ·
     rw [if_neg c10] at H
     have c10b0 := decide_eq_false c10
     clear c10
     simp only [Option.some.injEq, Prod.mk.injEq] at H
     obtain ⟨rfl, rfl, rfl, rfl, rfl⟩ := H
     have hnb36 := NB286_282.out
     have hnc36 := NB282_286.out
     obtain ⟨hcz37_0, hcz37_1, hcz37_2, hcz37_3⟩ := xc4 BK286
     have hfz37_0 := xf BK286 0
     have hfz37_1 := xf BK286 1
     have hfz37_2 := xf BK286 2
     have hfz37_3 := xf BK286 3
     obtain ⟨hcz38_0, hcz38_1, hcz38_2, hcz38_3⟩ := xc4 BK282
     have hfz38_0 := xf BK282 0
     have hfz38_1 := xf BK282 1
     have hfz38_2 := xf BK282 2
     have hfz38_3 := xf BK282 3
     go_wp2
     refine bodyPost_ret (results_ct rfl _ _ gb282 46 #[.int .i64 x287000_1, .int .i64 x287001_1, .int .i64 x287002_1, .int .i64 x287003_1] (0, 0) _ rfl xbk Tryd.underlying46 rfl (by kernel_rfl)) rfl ?_
     exact ⟨xre, xbl⟩
 ·
  rw [if_neg c3] at H
  have c3b0 : ((t283.length : Int) == 4) = false := beq_eq_false_iff_ne.mpr c3
  have c3b1 : ((t283.length : Int) != 4) = true := bne_iff_ne.mpr c3
  simp only [Option.some.injEq, Prod.mk.injEq] at H
  obtain ⟨rfl, rfl, rfl, rfl, rfl⟩ := H
  go_enter Tryd.func25, Tryd.ntmps25
  go_wp2_with (first | ((with_reducible refine gate_dst (N := 2) rfl ?_); refine xev 2 #[.int .i64 0, .int .i64 0, .int .i64 0, .int .i64 0] 46 ?_; intro gb282 hg w39 hbox hb; have BK282 := Aside0.mk (hbox); have GW282 := xsz hg; have GE282 := GW282; replace HB := xst hb; clear hb hbox hg) | ((with_reducible refine gate_callee (f := 40) rfl ?_); refine xgl 10 Tryd.func40 #[.string a0, .int .u8 46] ?_; (with_reducible refine (monikerref19_Parts.calls k a0 46 t283 _ A2.out).mono ?_); rintro e w40 ⟨v284, rfl, ho0, hb⟩; refine ⟨_, rfl, ?_⟩; have HO285 := Aside0.mk (Kd.R_lower ho0 (below_size xbl)); replace BK282 := xbb (g := gb282) (o := .cells #[.int .i64 0, .int .i64 0, .int .i64 0, .int .i64 0] 46 (0, 0)) hb; replace HB := xst hb; (try clear hb); (try clear ho0)) | ((with_reducible refine gate_dst (N := 5) rfl ?_); refine xev 5 #[.int .i64 0, .int .i64 0, .int .i64 0, .int .i64 0] 46 ?_; intro gb286 hg w41 hbox hb; have BK286 := Aside0.mk (hbox); have GW286 := xsz hg; have GE286 := GW286; have NB282_286 := xlt (g := gb282) hg; have NB286_282 := xgt (g := gb282) hg; replace HO285 := Aside0.mk (Kd.R_below (xkd HO285) hb); replace BK282 := xbb (g := gb282) (o := .cells #[.int .i64 0, .int .i64 0, .int .i64 0, .int .i64 0] 46 (0, 0)) hb; replace HB := xst hb; clear hb hbox hg; have hnb42 := NB286_282.out; have hnc42 := NB282_286.out; obtain ⟨hcz43_0, hcz43_1, hcz43_2, hcz43_3⟩ := xc4 BK286; have hfz43_0 := xf BK286 0; have hfz43_1 := xf BK286 1; have hfz43_2 := xf BK286 2; have hfz43_3 := xf BK286 3; obtain ⟨Ao44, co44, eo44⟩ := Kd.R_slice HO285.out; subst eo44; obtain ⟨hcz45_0, hcz45_1, hcz45_2, hcz45_3⟩ := xc4 BK282; have hfz45_0 := xf BK282 0; have hfz45_1 := xf BK282 1; have hfz45_2 := xf BK282 2; have hfz45_3 := xf BK282 3))
  refine bodyPost_ret (results_ct rfl _ _ gb282 46 #[.int .i64 0, .int .i64 0, .int .i64 0, .int .i64 0] (0, 0) _ rfl xbk Tryd.underlying46 rfl (by kernel_rfl)) rfl ?_
  exact ⟨xre, xbl⟩
mutual
def monikerref19_word.j0 : Nat → ByteArray → Bool → Option (Int)
  | 0, _, _ => none
  | k + 1, x0, x13 => if x13 = true then (some (-1)) else (monikerref19_word.l0 k x0 0 0)
def monikerref19_word.l0 : Nat → ByteArray → Int → Int → Option (Int)
  | 0, _, _, _ => none
  | k + 1, x0, x3, x4 => if x4 < (x0.size : Int) then (if 0 ≤ x4 then ((monikerref01_Value.f k (bt x0 x4)).bind fun t289 => (if t289 < 0 then (some (-1)) else (monikerref19_word.l0 k x0 (wrap64 ((wrap64 (16 * x3)) + t289)) (wrap64 (x4 + 1))))) else (none)) else (some x3)
end
def monikerref19_word.f (k : Nat) (a0 : ByteArray) : Option (Int) := if (a0.size : Int) < 1 then (monikerref19_word.j0 k a0 true) else (monikerref19_word.j0 k a0 (decide ((a0.size : Int) > 4)))
theorem monikerref19_word.mono_l : ∀ k, (∀ y0 y1, LeO (monikerref19_word.j0 k y0 y1) (monikerref19_word.j0 (k + 1) y0 y1)) ∧ (∀ y0 y1 y2, LeO (monikerref19_word.l0 k y0 y1 y2) (monikerref19_word.l0 (k + 1) y0 y1 y2))
  | 0 => ⟨fun _ _ r h => by simp [monikerref19_word.j0] at h, fun _ _ _ r h => by simp [monikerref19_word.l0] at h⟩
  | k + 1 => by
    obtain ⟨ih0, ih1⟩ := monikerref19_word.mono_l k
    have m0 := @monikerref01_Value.mono
    refine ⟨?_, ?_⟩
    · intro y0 y1
      unfold monikerref19_word.j0
      exact xmo
    · intro y0 y1 y2
      unfold monikerref19_word.l0
      exact xmo
theorem monikerref19_word.mono : ∀ a0 k, LeO (monikerref19_word.f k a0) (monikerref19_word.f (k + 1) a0) := by
  intro a0 k
  obtain ⟨ih0, ih1⟩ := monikerref19_word.mono_l k
  have m0 := @monikerref01_Value.mono
  unfold monikerref19_word.f
  exact xmo
set_option maxHeartbeats 8000000 in
set_option maxRecDepth 100000 in
theorem monikerref19_word.calls (k : Nat) (a0 : ByteArray) (r : Int) (w : World) (h : monikerref19_word.f k a0 = some r) :
    Calls Tryd.prog 60 #[.string a0] w fun e w' => e = .returned (.int .i64 r) ∧ Drawn0 w w' := by
 have H : (if (a0.size : Int) < 1 then (monikerref19_word.j0 k a0 true) else (monikerref19_word.j0 k a0 (decide ((a0.size : Int) > 4)))) = some r := h
 clear h
 have HC2 := Aside0.mk H
 clear H
 go_enter Tryd.func60, Tryd.ntmps60
 go_upto_region 1 with (fail)
 go_cut [13] (fun v13 wc => ∃ (kq : Nat) (x13_1 : Bool), v13 = .bool x13_1 ∧ Aside0 (monikerref19_word.j0 kq a0 x13_1 = some r) ∧ Aside0 (kq ≤ k) ∧ Drawn0 w wc)
 case first =>
  have H := HC2.out
  clear HC2
  by_cases c3 : (a0.size : Int) < 1
  ·
   rw [if_pos c3] at H
   have c3b0 := decide_eq_true c3
   have c3b1 : decide (a0.size < 1) = true := decide_eq_true (by omega)
   clear c3
   (first | rw [c3b0] | (simp only [i64_w, i32_w]; rw [c3b0]) | skip)
   have H' := Aside0.mk H
   clear H
   go_wp2
   go_meet
   case rel => exact ⟨_, (true), xrr, H', ⟨xom⟩, xdr⟩
  ·
   rw [if_neg c3] at H
   have c3b0 := decide_eq_false c3
   have c3b1 : decide (a0.size < 1) = false := decide_eq_false (by omega)
   clear c3
   (first | rw [c3b0] | (simp only [i64_w, i32_w]; rw [c3b0]) | skip)
   have H' := Aside0.mk H
   clear H
   go_wp2
   go_meet
   case rel => exact ⟨_, (decide ((a0.size : Int) > 4)), xrr, H', ⟨xom⟩, xdr⟩
 case rest =>
  clear HC2
  obtain ⟨kq, x13_1, rfl, HA, HJ1, ⟨mc1, rfl⟩⟩ := hcut
  cases kq with
  | zero => exact absurd HA.out (by simp [monikerref19_word.j0])
  | succ kj1 =>
   have H := HA.out
   clear HA
   simp only [monikerref19_word.j0] at H
   by_cases c4 : x13_1 = true
   ·
    subst c4
    rw [if_pos rfl] at H
    obtain rfl := Option.some.inj H
    go_wp2
    go_ret
    exact ⟨xrr, xdr⟩
   ·
    replace c4 := Bool.eq_false_iff.mpr c4
    subst c4
    rw [if_neg (show ¬ (false = true) by decide)] at H
    have H' := Aside0.mk H
    clear H
    go_wp2
    go_loopg [3, 4] kj1 (fun kq v3 v4 w' => ∃ (x3_2 : Int) (x4_2 : Int), v3 = .int .i64 x3_2 ∧ v4 = .int .i64 x4_2 ∧ Aside0 (monikerref19_word.l0 kq a0 x3_2 x4_2 = some r) ∧ Aside0 (kq ≤ kj1) ∧ Drawn0 w w')
    case atStart => exact ⟨(0), (0), xrr, xrr, H', ⟨Nat.le_refl _⟩, xdr⟩
    case round =>
     clear H'
     obtain ⟨x3_2, x4_2, rfl, rfl, HA, HK2, ⟨m2, rfl⟩⟩ := hrel
     cases gk with
     | zero => exact absurd HA.out (by simp [monikerref19_word.l0])
     | succ k2 =>
      have H := HA.out
      clear HA
      simp only [monikerref19_word.l0] at H
      by_cases c5 : x4_2 < (a0.size : Int)
      ·
       rw [if_pos c5] at H
       have c5b0 := decide_eq_true c5
       clear c5
       by_cases c6 : 0 ≤ x4_2
       ·
        rw [if_pos c6] at H
        have c6b0 := decide_eq_true c6
        clear c6
        replace H := Option.bind_eq_some_iff.mp H
        obtain ⟨t289, A80, H⟩ := H
        try dsimp only at H
        have A8 := Aside0.mk A80
        clear A80
        by_cases c9 : t289 < 0
        ·
         rw [if_pos c9] at H
         have c9b0 := decide_eq_true c9
         clear c9
         obtain rfl := Option.some.inj H
         have p7 : 0 ≤ (x4_2 : Int) := xod
         have q7 : x4_2 < (a0.size : Int) := xod
         have hx7 := bt_at a0 x4_2
         replace p7 := eq_true p7
         replace q7 := eq_true q7
         try (have q7x := q7; simp only [ByteArray.size_extract, Nat.min_self] at q7x)
         go_wp2_with (first | ((with_reducible refine gate_callee (f := 39) rfl ?_); refine xgl 23 Tryd.func39 #[.int .u8 (bt a0 x4_2)] ?_; (with_reducible refine (monikerref01_Value.calls k2 (bt a0 x4_2) t289 _ A8.out).mono ?_); rintro e w' ⟨rfl, ⟨nd, rfl⟩⟩; refine ⟨_, rfl, ?_⟩))
         go_ret
         exact ⟨xrr, xdr⟩
        ·
         rw [if_neg c9] at H
         have c9b0 := decide_eq_false c9
         clear c9
         have H' := Aside0.mk H
         clear H
         have p7 : 0 ≤ (x4_2 : Int) := xod
         have q7 : x4_2 < (a0.size : Int) := xod
         have hx7 := bt_at a0 x4_2
         replace p7 := eq_true p7
         replace q7 := eq_true q7
         try (have q7x := q7; simp only [ByteArray.size_extract, Nat.min_self] at q7x)
         go_wp2_with (first | ((with_reducible refine gate_callee (f := 39) rfl ?_); refine xgl 23 Tryd.func39 #[.int .u8 (bt a0 x4_2)] ?_; (with_reducible refine (monikerref01_Value.calls k2 (bt a0 x4_2) t289 _ A8.out).mono ?_); rintro e w' ⟨rfl, ⟨nd, rfl⟩⟩; refine ⟨_, rfl, ?_⟩))
         go_roundg k2
         case measure => have := HJ1.out; have := HK2.out; omega
         case rel => exact ⟨(wrap64 ((wrap64 (16 * x3_2)) + t289)), (wrap64 (x4_2 + 1)), xrr, xrr, H', ⟨by have := HJ1.out; have := HK2.out; omega⟩, xdr⟩
       ·
        rw [if_neg c6] at H
        exact absurd H (by simp)
      ·
       rw [if_neg c5] at H
       have c5b0 := decide_eq_false c5
       clear c5
       obtain rfl := Option.some.inj H
       go_wp2
       go_ret
       exact ⟨xrr, xdr⟩
end Go.Proofs.YtdmigmccfdhdiaaDoor.X
namespace Go.Proofs.YtdmigmccfdhdiaaDoor.X
open Go.RowKit Go.Proofs.YtdmigmccfdhdiaaDoorW.PrintWords Go.Proofs.YtdmigmccfdhdiaaDoorW.PrintLast Go.Proofs.YtdmigmccfdhdiaaDoorW.PrintMore
attribute [local go_sem] max2_int min2_int max_two min_two max_three min_three max_four min_four
set_option linter.unusedVariables false
set_option linter.unusedSimpArgs false
mutual
def monikerref19_row.l0 : Nat → List Int → List ByteArray → Int → Option (List Int × Bool)
  | 0, _, _, _ => none
  | k + 1, x4, x5, x6 => if x6 < (x5.length : Int) then (if 0 ≤ x6 then ((monikerref19_V4.f k (rdOf ByteArray.empty x5 x6)).bind fun bt297 => (if bt297.2.2.2.2 = true then (monikerref19_row.j1 k x4 x5 x6 (x6 == (wrap64 ((x5.length : Int) - 1))) bt297.1 bt297.2.1 bt297.2.2.1 bt297.2.2.2.1) else (monikerref19_row.j1 k x4 x5 x6 false bt297.1 bt297.2.1 bt297.2.2.1 bt297.2.2.2.1))) else (none)) else (some (x4, true))
def monikerref19_row.j1 : Nat → List Int → List ByteArray → Int → Bool → Int → Int → Int → Int → Option (List Int × Bool)
  | 0, _, _, _, _, _, _, _, _ => none
  | k + 1, x4, x5, x6, x37, x303000, x303001, x303002, x303003 => if x37 = true then ((some (([wrap64 ((wrap64 (256 * x303000)) + x303001), wrap64 ((wrap64 (256 * x303002)) + x303003)] : List Int) : List Int)).bind fun y303 => (if x4.length + y303.length < 17592186044416 then (some ((x4 ++ y303), true)) else (none))) else (if 0 ≤ x6 then (if x6 < (x5.length : Int) then ((monikerref19_word.f k (rdOf ByteArray.empty x5 x6)).bind fun t310 => (if t310 < 0 then (some (([] : List Int), false)) else (if x4.length < 17592186044416 then (monikerref19_row.l0 k (x4 ++ [t310]) x5 (wrap64 (x6 + 1))) else (none)))) else (none)) else (none))
end
def monikerref19_row.f (k : Nat) (a0 : ByteArray) : Option (List Int × Bool) := (some (([] : List Int) : List Int)).bind fun y290 => (if a0.toList = ([] : List UInt8) then (some (y290, true)) else ((monikerref19_Parts.f k a0 58).bind fun t293 => (monikerref19_row.l0 k y290 t293 0)))
theorem monikerref19_row.mono_l : ∀ k, (∀ y0 y1 y2, LeO (monikerref19_row.l0 k y0 y1 y2) (monikerref19_row.l0 (k + 1) y0 y1 y2)) ∧ (∀ y0 y1 y2 y3 y4 y5 y6 y7, LeO (monikerref19_row.j1 k y0 y1 y2 y3 y4 y5 y6 y7) (monikerref19_row.j1 (k + 1) y0 y1 y2 y3 y4 y5 y6 y7))
  | 0 => ⟨fun _ _ _ r h => by simp [monikerref19_row.l0] at h, fun _ _ _ _ _ _ _ _ r h => by simp [monikerref19_row.j1] at h⟩
  | k + 1 => by
    obtain ⟨ih0, ih1⟩ := monikerref19_row.mono_l k
    have m0 := @monikerref19_Parts.mono; have m1 := @monikerref19_V4.mono; have m2 := @monikerref19_word.mono
    refine ⟨?_, ?_⟩
    · intro y0 y1 y2
      unfold monikerref19_row.l0
      exact xmo
    · intro y0 y1 y2 y3 y4 y5 y6 y7
      unfold monikerref19_row.j1
      exact xmo
theorem monikerref19_row.mono : ∀ a0 k, LeO (monikerref19_row.f k a0) (monikerref19_row.f (k + 1) a0) := by
  intro a0 k
  obtain ⟨ih0, ih1⟩ := monikerref19_row.mono_l k
  have m0 := @monikerref19_Parts.mono; have m1 := @monikerref19_V4.mono; have m2 := @monikerref19_word.mono
  unfold monikerref19_row.f
  exact xmo
set_option maxHeartbeats 8000000 in
set_option maxRecDepth 100000 in
theorem monikerref19_row.calls (k : Nat) (a0 : ByteArray) (r1 : List Int) (r2 : Bool) (w : World) (h : monikerref19_row.f k a0 = some (r1, r2)) :
    Calls Tryd.prog 38 #[.string a0] w fun e w' => ∃ v0_ : Value, e = .returned (.tuple #[v0_, .bool r2]) ∧ Kd.R (Kd.int .i64) 3 w' w.heap.size (fun _ => True) v0_ r1 ∧ Below w.heap.size w w' := by
 have hu46 := Tryd.underlying46
 have HB := Aside0.mk (Below.refl w.heap.size w)
 have H : ((some (([] : List Int) : List Int)).bind fun y290 => (if a0.toList = ([] : List UInt8) then (some (y290, true)) else ((monikerref19_Parts.f k a0 58).bind fun t293 => (monikerref19_row.l0 k y290 t293 0)))) = some (r1, r2) := h
 clear h
 obtain ⟨y290, hy290⟩ : ∃ y_ : List Int, y_ = (([] : List Int)) := ⟨_, rfl⟩
 replace H : (if a0.toList = ([] : List UInt8) then (some (y290, true)) else ((monikerref19_Parts.f k a0 58).bind fun t293 => (monikerref19_row.l0 k y290 t293 0))) = some (r1, r2) := by first | (rw [hy290]; with_reducible exact H) | (have H2_ := (Option.bind_some _ _).symm.trans H; rw [hy290]; with_reducible exact H2_) | (have H2_ := (Option.bind_some _ _).symm.trans H; with_reducible exact H2_) | with_reducible exact H | (rw [hy290]; exact H) | exact H
 have Ny290 := Aside0.mk hy290
 clear hy290
 by_cases c2 : a0.toList = ([] : List UInt8)
 ·
  rw [if_pos c2] at H
  have c2b0 : (a0.toList == ([] : List UInt8)) = true := beq_iff_eq.mpr c2
  have c2b1 : (a0.toList != ([] : List UInt8)) = false := bne_eq_false_iff_eq.mpr c2
  clear c2
  simp only [Option.some.injEq, Prod.mk.injEq] at H
  obtain ⟨rfl, rfl⟩ := H
  go_enter Tryd.func38, Tryd.ntmps38
  go_wp2_with (first | ((with_reducible refine gate_dst (N := 10) rfl ?_); (try (refine gate_guard (by rfl) ?_; dsimp only)); refine Kd.R_lit (Kd.int .i64) _ 3 ?hg (N := 10) ?hd (xs := ([] : List Int)) (inner := []) (ok := fun _ => True) (okp := fun _ => True) ?hr ?hp (fun _ hk => hk) trivial (Below.refl _ _) (Nat.le_refl _) (by simp) ?_; (case hd => rfl); (case hg => rfl); (case hr => first | (go_simp; done) | (go_simp; rfl)); (case hp => exact (Reps.none _ _)); intro v291 w3 ho4 hb hg_ hnew_; clear hg_ hnew_; (first | rw [← Ny290.out] at ho4 | (simp only [Int.reduceToNat] at ho4; rw [← Ny290.out] at ho4)); have HO292 := Aside0.mk (Kd.R_lower ho4 (below_size xbl)); replace HB := xst hb; clear hb ho4))
  go_ret2
  exact ⟨_, by first | rfl | (simp [errW_none, errW_some] <;> first | rfl | (simp only [xp_isEmpty, bne, Bool.not_not]; done)) | (simp [*, errW_none, errW_some] <;> rfl), by (with_reducible repeat (first | apply Kd.R_alloc | apply Kd.R_drewN | apply Kd.R_drew)); exact HO292.out, xbl⟩
 ·
  rw [if_neg c2] at H
  have c2b0 : (a0.toList == ([] : List UInt8)) = false := beq_eq_false_iff_ne.mpr c2
  have c2b1 : (a0.toList != ([] : List UInt8)) = true := bne_iff_ne.mpr c2
  replace H := Option.bind_eq_some_iff.mp H
  obtain ⟨t293, A50, H⟩ := H
  try dsimp only at H
  have A5 := Aside0.mk A50
  clear A50
  have H' := Aside0.mk H
  clear H
  go_enter Tryd.func38, Tryd.ntmps38
  go_wp2_with (first | ((with_reducible refine gate_dst (N := 10) rfl ?_); (try (refine gate_guard (by rfl) ?_; dsimp only)); refine Kd.R_lit (Kd.int .i64) _ 3 ?hg (N := 10) ?hd (xs := ([] : List Int)) (inner := []) (ok := fun _ => True) (okp := fun _ => True) ?hr ?hp (fun _ hk => hk) trivial (Below.refl _ _) (Nat.le_refl _) (by simp) ?_; (case hd => rfl); (case hg => rfl); (case hr => first | (go_simp; done) | (go_simp; rfl)); (case hp => exact (Reps.none _ _)); intro v291 w6 ho7 hb hg_ hnew_; clear hg_ hnew_; (first | rw [← Ny290.out] at ho7 | (simp only [Int.reduceToNat] at ho7; rw [← Ny290.out] at ho7)); have HO292 := Aside0.mk (Kd.R_lower ho7 (below_size xbl)); replace HB := xst hb; clear hb ho7) | ((with_reducible refine gate_callee (f := 40) rfl ?_); refine xgl 15 Tryd.func40 #[.string a0, .int .u8 58] ?_; (with_reducible refine (monikerref19_Parts.calls k a0 58 t293 _ A5.out).mono ?_); rintro e w8 ⟨v294, rfl, ho0, hb⟩; refine ⟨_, rfl, ?_⟩; have HO295 := Aside0.mk (Kd.R_lower ho0 (below_size xbl)); replace HO292 := Aside0.mk (Kd.R_below (xkd HO292) hb); replace HB := xst hb; (try clear hb); (try clear ho0)))
  go_loopg [4, 6] k (fun kq v4 v6 w' => ∃ (x4_1 : List Int) (x6_1 : Int), v6 = .int .i64 x6_1 ∧ Aside0 (monikerref19_row.l0 kq x4_1 t293 x6_1 = some (r1, r2)) ∧ Aside0 (kq ≤ k) ∧ Aside0 (Kd.R (Kd.int .i64) 3 w' w.heap.size (fun _ => True) v4 x4_1) ∧ Aside0 (Kd.R Kd.string 9 w' w.heap.size (fun _ => True) v294 t293) ∧ Aside0 (Below w.heap.size w w'))
  case atStart => exact ⟨(y290), (0), xrr, H', ⟨Nat.le_refl _⟩, ⟨xkd HO292⟩, ⟨xkd HO295⟩, ⟨xbl⟩⟩
  case round =>
   clear H'
   clear c2b0 c2b1
   obtain ⟨x4_1, x6_1, rfl, HA, HK1, HO_4, HO_5, HB⟩ := hrel
   cases gk with
   | zero => exact absurd HA.out (by simp [monikerref19_row.l0])
   | succ k1 =>
    have H := HA.out
    clear HA
    simp only [monikerref19_row.l0] at H
    by_cases c9 : x6_1 < (t293.length : Int)
    ·
     rw [if_pos c9] at H
     have c9b0 := decide_eq_true c9
     clear c9
     by_cases c10 : 0 ≤ x6_1
     ·
      rw [if_pos c10] at H
      have c10b0 := decide_eq_true c10
      clear c10
      replace H := Option.bind_eq_some_iff.mp H
      obtain ⟨⟨t297, t298, t299, t300, t301⟩, A110, H⟩ := H
      try dsimp only at H
      have A11 := Aside0.mk A110
      clear A110
      have HC12 := Aside0.mk H
      clear H
      obtain ⟨Ao13, co13, eo13⟩ := Kd.R_slice HO_5.out
      subst eo13
      have p296 : 0 ≤ (x6_1 : Int) := xod
      have q296 : x6_1 < (t293.length : Int) := xod
      obtain ⟨ad296, e296, hx296_0⟩ := Kd.at_string (Kd.R_reads' HO_5.out).2.2 x6_1 p296 q296
      cases e296
      replace p296 := eq_true p296
      replace q296 := eq_true q296
      try (have q296x := q296; simp only [ByteArray.size_extract, Nat.min_self] at q296x)
      go_upto_region 9 with (first | ((with_reducible refine gate_callee (f := 25) rfl ?_); refine xgl 27 Tryd.func25 #[.string (rdOf ByteArray.empty t293 x6_1)] ?_; (with_reducible refine (monikerref19_V4.calls k1 (rdOf ByteArray.empty t293 x6_1) t297 t298 t299 t300 t301 _ A11.out).mono ?_); rintro e w14 ⟨rfl, hb⟩; refine ⟨_, rfl, ?_⟩; replace HO_4 := Aside0.mk (Kd.R_below (xkd HO_4) hb); replace HO_5 := Aside0.mk (Kd.R_below (xkd HO_5) hb); replace HB := xst hb; (try clear hb)) | ((with_reducible refine gate_dst (N := 7) rfl ?_); (try (refine gate_guard (by rfl) ?_; dsimp only)); refine xev 7 #[.int .i64 0, .int .i64 0, .int .i64 0, .int .i64 0] 46 ?_; intro gb302 hg w15 hbox hb; have BK302 := Aside0.mk (hbox); have GW302 := xsz hg; have GE302 := GW302; replace HO_4 := Aside0.mk (Kd.R_below (xkd HO_4) hb); replace HO_5 := Aside0.mk (Kd.R_below (xkd HO_5) hb); replace HB := xst hb; clear hb hbox hg; obtain ⟨hcz16_0, hcz16_1, hcz16_2, hcz16_3⟩ := xc4 BK302; have hfz16_0 := xf BK302 0; have hfz16_1 := xf BK302 1; have hfz16_2 := xf BK302 2; have hfz16_3 := xf BK302 3))
      (try simp only [Act.put, List.setIfInBounds_toArray, List.set_cons_zero, List.set_cons_succ])
      go_cut [37] (fun v37 wc => ∃ (kq : Nat) (x37_11 : Bool), v37 = .bool x37_11 ∧ Aside0 (monikerref19_row.j1 kq x4_1 t293 x6_1 x37_11 t297 t298 t299 t300 = some (r1, r2)) ∧ Aside0 (kq ≤ k1) ∧ Aside0 (Kd.R (Kd.int .i64) 3 wc w.heap.size (fun _ => True) u4 x4_1) ∧ Aside0 (Kd.R Kd.string 9 wc w.heap.size (fun _ => True) (.slice (some ad296) t293.length co13) t293) ∧ Aside0 (wc.heap[gb302]? = some (.cells #[.int .i64 t297, .int .i64 t298, .int .i64 t299, .int .i64 t300] 46 (0, 0))) ∧ Aside0 (Below w.heap.size w wc))
      case first =>
       have H := HC12.out
       clear HC12
       by_cases c17 : t301 = true
       ·
        subst c17
        rw [if_pos rfl] at H
        have H' := Aside0.mk H
        clear H
        go_wp2
        go_meet
        case rel => exact ⟨_, ((x6_1 == (wrap64 ((t293.length : Int) - 1)))), xrr, H', ⟨by have := HK1.out; first | omega | exact Nat.le_refl _⟩, ⟨by (with_reducible repeat (first | apply Kd.R_alloc | apply Kd.R_drewN | apply Kd.R_drew)); exact Kd.R_mono (Kd.R_far (p := ⟨gb302, 3, none⟩) (Kd.R_far (p := ⟨gb302, 2, none⟩) (Kd.R_far (p := ⟨gb302, 1, none⟩) (Kd.R_far (p := ⟨gb302, 0, none⟩) (Kd.R_types HO_4.out BK302.out (by decide)) (fun _ hk => hk.2) (.int .i64 t297)) (fun _ hk => hk.2) (.int .i64 t298)) (fun _ hk => hk.2) (.int .i64 t299)) (fun _ hk => hk.2) (.int .i64 t300)) (fun _ hk => trivial)⟩, ⟨by (with_reducible repeat (first | apply Kd.R_alloc | apply Kd.R_drewN | apply Kd.R_drew)); exact Kd.R_mono (Kd.R_far (p := ⟨gb302, 3, none⟩) (Kd.R_far (p := ⟨gb302, 2, none⟩) (Kd.R_far (p := ⟨gb302, 1, none⟩) (Kd.R_far (p := ⟨gb302, 0, none⟩) (Kd.R_types HO_5.out BK302.out (by decide)) (fun _ hk => hk.2) (.int .i64 t297)) (fun _ hk => hk.2) (.int .i64 t298)) (fun _ hk => hk.2) (.int .i64 t299)) (fun _ hk => hk.2) (.int .i64 t300)) (fun _ hk => trivial)⟩, ⟨by (with_reducible repeat (first | refine blk_drewN ?_ _ | refine blk_drew ?_ | refine blk_alloc ?_ _)); refine blk_put (cs := #[.int .i64 t297, .int .i64 t298, .int .i64 t299, .int .i64 0]) ?_ 3 _ rfl; (with_reducible repeat (first | refine blk_drewN ?_ _ | refine blk_drew ?_ | refine blk_alloc ?_ _)); refine blk_put (cs := #[.int .i64 t297, .int .i64 t298, .int .i64 0, .int .i64 0]) ?_ 2 _ rfl; (with_reducible repeat (first | refine blk_drewN ?_ _ | refine blk_drew ?_ | refine blk_alloc ?_ _)); refine blk_put (cs := #[.int .i64 t297, .int .i64 0, .int .i64 0, .int .i64 0]) ?_ 1 _ rfl; (with_reducible repeat (first | refine blk_drewN ?_ _ | refine blk_drew ?_ | refine blk_alloc ?_ _)); refine blk_put (cs := #[.int .i64 0, .int .i64 0, .int .i64 0, .int .i64 0]) ?_ 0 _ rfl; (with_reducible repeat (first | refine blk_drewN ?_ _ | refine blk_drew ?_ | refine blk_alloc ?_ _)); exact BK302.out⟩, ⟨xbl⟩⟩
       ·
        replace c17 := Bool.eq_false_iff.mpr c17
        subst c17
        rw [if_neg (show ¬ (false = true) by decide)] at H
        have H' := Aside0.mk H
        clear H
        go_wp2
        go_meet
        case rel => exact ⟨_, (false), xrr, H', ⟨by have := HK1.out; first | omega | exact Nat.le_refl _⟩, ⟨by (with_reducible repeat (first | apply Kd.R_alloc | apply Kd.R_drewN | apply Kd.R_drew)); exact Kd.R_mono (Kd.R_far (p := ⟨gb302, 3, none⟩) (Kd.R_far (p := ⟨gb302, 2, none⟩) (Kd.R_far (p := ⟨gb302, 1, none⟩) (Kd.R_far (p := ⟨gb302, 0, none⟩) (Kd.R_types HO_4.out BK302.out (by decide)) (fun _ hk => hk.2) (.int .i64 t297)) (fun _ hk => hk.2) (.int .i64 t298)) (fun _ hk => hk.2) (.int .i64 t299)) (fun _ hk => hk.2) (.int .i64 t300)) (fun _ hk => trivial)⟩, ⟨by (with_reducible repeat (first | apply Kd.R_alloc | apply Kd.R_drewN | apply Kd.R_drew)); exact Kd.R_mono (Kd.R_far (p := ⟨gb302, 3, none⟩) (Kd.R_far (p := ⟨gb302, 2, none⟩) (Kd.R_far (p := ⟨gb302, 1, none⟩) (Kd.R_far (p := ⟨gb302, 0, none⟩) (Kd.R_types HO_5.out BK302.out (by decide)) (fun _ hk => hk.2) (.int .i64 t297)) (fun _ hk => hk.2) (.int .i64 t298)) (fun _ hk => hk.2) (.int .i64 t299)) (fun _ hk => hk.2) (.int .i64 t300)) (fun _ hk => trivial)⟩, ⟨by (with_reducible repeat (first | refine blk_drewN ?_ _ | refine blk_drew ?_ | refine blk_alloc ?_ _)); refine blk_put (cs := #[.int .i64 t297, .int .i64 t298, .int .i64 t299, .int .i64 0]) ?_ 3 _ rfl; (with_reducible repeat (first | refine blk_drewN ?_ _ | refine blk_drew ?_ | refine blk_alloc ?_ _)); refine blk_put (cs := #[.int .i64 t297, .int .i64 t298, .int .i64 0, .int .i64 0]) ?_ 2 _ rfl; (with_reducible repeat (first | refine blk_drewN ?_ _ | refine blk_drew ?_ | refine blk_alloc ?_ _)); refine blk_put (cs := #[.int .i64 t297, .int .i64 0, .int .i64 0, .int .i64 0]) ?_ 1 _ rfl; (with_reducible repeat (first | refine blk_drewN ?_ _ | refine blk_drew ?_ | refine blk_alloc ?_ _)); refine blk_put (cs := #[.int .i64 0, .int .i64 0, .int .i64 0, .int .i64 0]) ?_ 0 _ rfl; (with_reducible repeat (first | refine blk_drewN ?_ _ | refine blk_drew ?_ | refine blk_alloc ?_ _)); exact BK302.out⟩, ⟨xbl⟩⟩
      case rest =>
       clear HC12
       clear c9b0 c10b0 p296 q296
       try clear hx296_0
       obtain ⟨kq, x37_11, rfl, HA, HJ11, HO_4, HO_5, BK302, HB⟩ := hcut
       cases kq with
       | zero => exact absurd HA.out (by simp [monikerref19_row.j1])
       | succ kj11 =>
        have H := HA.out
        clear HA
        simp only [monikerref19_row.j1] at H
        by_cases c18 : x37_11 = true
        ·
         subst c18
         rw [if_pos rfl] at H
         obtain ⟨y303, hy303⟩ : ∃ y_ : List Int, y_ = (([wrap64 ((wrap64 (256 * t297)) + t298), wrap64 ((wrap64 (256 * t299)) + t300)] : List Int)) := ⟨_, rfl⟩
         replace H : (if x4_1.length + y303.length < 17592186044416 then (some ((x4_1 ++ y303), true)) else (none)) = some (r1, r2) := by first | (rw [hy303]; with_reducible exact H) | (have H2_ := (Option.bind_some _ _).symm.trans H; rw [hy303]; with_reducible exact H2_) | (have H2_ := (Option.bind_some _ _).symm.trans H; with_reducible exact H2_) | with_reducible exact H | (rw [hy303]; exact H) | exact H
         have Ny303 := Aside0.mk hy303
         clear hy303
         by_cases c19 : x4_1.length + y303.length < 17592186044416
         ·
          rw [if_pos c19] at H
          have LMc19 := Aside0.mk c19
          clear c19
          obtain ⟨y306, hy306⟩ : ∃ y_ : List Int, y_ = (x4_1 ++ y303) := ⟨_, rfl⟩
          replace H : (some (y306, true)) = some (r1, r2) := by first | (rw [hy306]; with_reducible exact H) | (have H2_ := (Option.bind_some _ _).symm.trans H; rw [hy306]; with_reducible exact H2_) | (have H2_ := (Option.bind_some _ _).symm.trans H; with_reducible exact H2_) | with_reducible exact H | (rw [hy306]; exact H) | exact H
          have Ny306 := Aside0.mk hy306
          clear hy306
          simp only [Option.some.injEq, Prod.mk.injEq] at H
          obtain ⟨rfl, rfl⟩ := H
          obtain ⟨hcz20_0, hcz20_1, hcz20_2, hcz20_3⟩ := xc4 BK302
          have hfz20_0 := xf BK302 0
          have hfz20_1 := xf BK302 1
          have hfz20_2 := xf BK302 2
          have hfz20_3 := xf BK302 3
          go_wp2_with (first | ((with_reducible refine gate_dst (N := 51) rfl ?_); (try (refine gate_guard (by rfl) ?_; dsimp only)); refine Kd.R_lit (Kd.int .i64) _ 3 ?hg (N := 51) ?hd (xs := ([wrap64 ((wrap64 (256 * t297)) + t298), wrap64 ((wrap64 (256 * t299)) + t300)] : List Int)) (inner := [.int .i64 (wrap64 ((wrap64 (256 * t297)) + t298)), .int .i64 (wrap64 ((wrap64 (256 * t299)) + t300))]) (ok := fun _ => True) (okp := fun _ => True) ?hr ?hp (fun _ hk => hk) trivial (Below.refl _ _) (Nat.le_refl _) (by simp) ?_; (case hd => rfl); (case hg => rfl); (case hr => first | (go_simp; done) | (go_simp; rfl)); (case hp => exact (Reps.one (show Kd.M (Kd.int .i64) _ _ _ (wrap64 ((wrap64 (256 * t297)) + t298)) [.int .i64 (wrap64 ((wrap64 (256 * t297)) + t298))] from rfl) (Reps.one (show Kd.M (Kd.int .i64) _ _ _ (wrap64 ((wrap64 (256 * t299)) + t300)) [.int .i64 (wrap64 ((wrap64 (256 * t299)) + t300))] from rfl) (Reps.none _ _)))); intro v304 w21 ho22 hb hg_ hnew_; clear hg_ hnew_; (first | rw [← Ny303.out] at ho22 | (simp only [Int.reduceToNat] at ho22; rw [← Ny303.out] at ho22)); have HO305 := Aside0.mk (Kd.R_lower (Kd.R_new' ho22 (Kd.R_lt (xkd HO_4))) (below_size xbl)); replace HO_4 := Aside0.mk (Kd.R_elder' (xkd HO_4) (Kd.R_base ho22) hb); replace HO_5 := Aside0.mk (Kd.R_below (xkd HO_5) hb); replace BK302 := xbb (g := gb302) (o := .cells #[.int .i64 t297, .int .i64 t298, .int .i64 t299, .int .i64 t300] 46 (0, 0)) hb; replace HB := xst hb; clear hb ho22; obtain ⟨Ao24, co24, eo24⟩ := Kd.R_slice HO305.out; subst eo24) | ((with_reducible refine gate_builtin (b := .append) (xs := #[.tmp 38, .tmp 51]) rfl ?_); (try (refine gate_guard (by rfl) ?_; dsimp only)); at_builtin; refine Kd.R_append_rows (Kd.int .i64) (w0 := w) w.heap.size rfl (.tmp 38) (.tmp 51) 63 3 (.int .i64 0) 8 rfl Tryd.underlying63 info3 rfl (by decide) (by omega) u4 x4_1 y303 _ _ _ (fun k_ => some k_ ≠ (.slice Ao24 y303.length co24 : Value).ownBlock) (fun _ => False) rfl rfl ?aO ?aR (fun _ _ h => h) (fun _ h => h.elim) ?aF ?aB ?aS ?aL ?_; (case aR => repeat (first | exact (Kd.R_reads' HO305.out).2.2 | (with_reducible refine Kd.C_alloc ?_ _) | (with_reducible refine Kd.C_drewN ?_ _) | (with_reducible refine Kd.C_drew ?_))); (case aB => exact xbl); (case aF => exact (fun k_ hk => Kd.fresh' (Kd.R_lt (xkd HO305)) k_ hk)); (case aO => exact (by (with_reducible repeat (first | apply Kd.R_alloc | apply Kd.R_drewN | apply Kd.R_drew)); exact Kd.R_mono HO_4.out (fun _ hk => hk.2))); (case aS => exact (below_size xbl)); (case aL => have := LMc19.out; omega); intro v307 w23 ho hb hg hat; rw [← Ny306.out] at ho; have n0_ := Aside0.mk (Kd.R_over' (xkd HO_5) (Kd.R_typed (xkd HO_4)) (by decide) hg); have n1_ := Aside0.mk (blk_grown (g := gb302) (o := .cells #[.int .i64 t297, .int .i64 t298, .int .i64 t299, .int .i64 t300] 46 (0, 0)) xbk hg (Kd.R_ne HO_4.out BK302.out (by decide))); have n2_ := Aside0.mk (Kd.R_after (ok := (fun _ => True)) (xkd HO305) hg hat); have n3_ := Aside0.mk (hb); have n4_ := Aside0.mk (ho); clear HO_5; clear BK302; clear HO305; clear HB; clear HO_4; have HO_5 := n0_; have BK302 := n1_; have HO305 := n2_; have HB := n3_; have HO308 := n4_; clear n0_ n1_ n2_ n3_ n4_; clear ho hb hg hat))
          go_ret2
          exact ⟨_, by first | rfl | (simp [errW_none, errW_some] <;> first | rfl | (simp only [xp_isEmpty, bne, Bool.not_not]; done)) | (simp [*, errW_none, errW_some] <;> rfl), by (with_reducible repeat (first | apply Kd.R_alloc | apply Kd.R_drewN | apply Kd.R_drew)); exact Kd.R_mono HO308.out (fun _ hk => trivial), xbl⟩
         ·
          rw [if_neg c19] at H
          exact absurd H (by simp)
        ·
         replace c18 := Bool.eq_false_iff.mpr c18
         subst c18
         rw [if_neg (show ¬ (false = true) by decide)] at H
         by_cases c25 : 0 ≤ x6_1
         ·
          rw [if_pos c25] at H
          have c25b0 := decide_eq_true c25
          clear c25
          by_cases c26 : x6_1 < (t293.length : Int)
          ·
           rw [if_pos c26] at H
           have c26b0 := decide_eq_true c26
           clear c26
           replace H := Option.bind_eq_some_iff.mp H
           obtain ⟨t310, A270, H⟩ := H
           try dsimp only at H
           have A27 := Aside0.mk A270
           clear A270
           by_cases c28 : t310 < 0
           ·
            rw [if_pos c28] at H
            have c28b0 := decide_eq_true c28
            clear c28
            simp only [Option.some.injEq, Prod.mk.injEq] at H
            obtain ⟨rfl, rfl⟩ := H
            have p309 : 0 ≤ (x6_1 : Int) := xod
            have q309 : x6_1 < (t293.length : Int) := xod
            obtain ⟨ad309, e309, hx309_0⟩ := Kd.at_string (Kd.R_reads' HO_5.out).2.2 x6_1 p309 q309
            obtain rfl : ad296 = ad309 := (by injection e309)
            replace p309 := eq_true p309
            replace q309 := eq_true q309
            try (have q309x := q309; simp only [ByteArray.size_extract, Nat.min_self] at q309x)
            go_wp2_with (first | ((with_reducible refine gate_callee (f := 60) rfl ?_); refine xgl 57 Tryd.func60 #[.string (rdOf ByteArray.empty t293 x6_1)] ?_; (with_reducible refine (monikerref19_word.calls kj11 (rdOf ByteArray.empty t293 x6_1) t310 _ A27.out).mono ?_); rintro e w' ⟨rfl, ⟨nd, rfl⟩⟩; refine ⟨_, rfl, ?_⟩))
            go_ret2
            exact ⟨_, by first | rfl | (simp [errW_none, errW_some] <;> first | rfl | (simp only [xp_isEmpty, bne, Bool.not_not]; done)) | (simp [*, errW_none, errW_some] <;> rfl), by first | exact Kd.R_nil _ _ _ _ _ | exact Kd.N_nil _ _ _ _ _ | exact Kd.V_nil _ _ _ _ _ | exact Kd.Q_nil _ _ _ _ _ | exact Kd.S_nil _ _ _ _ _, xbl⟩
           ·
            rw [if_neg c28] at H
            have c28b0 := decide_eq_false c28
            clear c28
            by_cases c29 : x4_1.length < 17592186044416
            ·
             rw [if_pos c29] at H
             have LMc29 := Aside0.mk c29
             clear c29
             obtain ⟨y311, hy311⟩ : ∃ y_ : List Int, y_ = (x4_1 ++ [t310]) := ⟨_, rfl⟩
             replace H : (monikerref19_row.l0 kj11 y311 t293 (wrap64 (x6_1 + 1))) = some (r1, r2) := by first | (rw [hy311]; with_reducible exact H) | (have H2_ := (Option.bind_some _ _).symm.trans H; rw [hy311]; with_reducible exact H2_) | (have H2_ := (Option.bind_some _ _).symm.trans H; with_reducible exact H2_) | with_reducible exact H | (rw [hy311]; exact H) | exact H
             have Ny311 := Aside0.mk hy311
             clear hy311
             have H' := Aside0.mk H
             clear H
             have p309 : 0 ≤ (x6_1 : Int) := xod
             have q309 : x6_1 < (t293.length : Int) := xod
             obtain ⟨ad309, e309, hx309_0⟩ := Kd.at_string (Kd.R_reads' HO_5.out).2.2 x6_1 p309 q309
             obtain rfl : ad296 = ad309 := (by injection e309)
             replace p309 := eq_true p309
             replace q309 := eq_true q309
             try (have q309x := q309; simp only [ByteArray.size_extract, Nat.min_self] at q309x)
             go_wp2_with (first | ((with_reducible refine gate_callee (f := 60) rfl ?_); refine xgl 57 Tryd.func60 #[.string (rdOf ByteArray.empty t293 x6_1)] ?_; (with_reducible refine (monikerref19_word.calls kj11 (rdOf ByteArray.empty t293 x6_1) t310 _ A27.out).mono ?_); rintro e w' ⟨rfl, ⟨nd, rfl⟩⟩; refine ⟨_, rfl, ?_⟩) | ((with_reducible refine gate_builtin (b := .append) (xs := #[.tmp 60, .tmp 62]) rfl ?_); (try (refine gate_guard (by rfl) ?_; dsimp only)); at_builtin; refine Kd.R_append (Kd.int .i64) (w0 := w) w.heap.size rfl (.tmp 60) (.tmp 62) 63 3 (.int .i64 0) 8 rfl Tryd.underlying63 info3 rfl (by decide) (by omega) u4 x4_1 t310 [.int .i64 t310] (fun _ => True) (fun _ => False) rfl rfl ?aP (fun _ hk => hk.elim) ?aF ?aO ?aB ?aS ?aL ?_; (case aP => exact rfl); (case aB => exact xbl); (case aF => exact (fun _ _ => trivial)); (case aO => exact (xkd HO_4)); (case aS => exact (below_size xbl)); (case aL => have := LMc29.out; omega); intro v312 w30 ho hb hg hat; rw [← Ny311.out] at ho; have n0_ := Aside0.mk (Kd.R_over' (xkd HO_5) (Kd.R_typed (xkd HO_4)) (by decide) hg); have n1_ := Aside0.mk (blk_grown (g := gb302) (o := .cells #[.int .i64 t297, .int .i64 t298, .int .i64 t299, .int .i64 t300] 46 (0, 0)) xbk hg (Kd.R_ne HO_4.out BK302.out (by decide))); have n2_ := Aside0.mk (hb); have n3_ := Aside0.mk (ho); clear HO_5; clear BK302; clear HB; clear HO_4; have HO_5 := n0_; have BK302 := n1_; have HB := n2_; have HO313 := n3_; clear n0_ n1_ n2_ n3_; clear ho hb hg hat))
             go_roundg kj11
             case measure => have := HK1.out; have := HJ11.out; omega
             case rel => exact ⟨(y311), (wrap64 (x6_1 + 1)), xrr, H', ⟨by have := HK1.out; have := HJ11.out; omega⟩, ⟨xkd HO313⟩, ⟨xkd HO_5⟩, ⟨xbl⟩⟩
            ·
             rw [if_neg c29] at H
             exact absurd H (by simp)
          ·
           rw [if_neg c26] at H
           exact absurd H (by simp)
         ·
          rw [if_neg c25] at H
          exact absurd H (by simp)
     ·
      rw [if_neg c10] at H
      exact absurd H (by simp)
    ·
     rw [if_neg c9] at H
     have c9b0 := decide_eq_false c9
     clear c9
     simp only [Option.some.injEq, Prod.mk.injEq] at H
     obtain ⟨rfl, rfl⟩ := H
     obtain ⟨Ao31, co31, eo31⟩ := Kd.R_slice HO_5.out
     subst eo31
     go_wp2
     go_ret2
     exact ⟨_, by first | rfl | (simp [errW_none, errW_some] <;> first | rfl | (simp only [xp_isEmpty, bne, Bool.not_not]; done)) | (simp [*, errW_none, errW_some] <;> rfl), by (with_reducible repeat (first | apply Kd.R_alloc | apply Kd.R_drewN | apply Kd.R_drew)); exact HO_4.out, xbl⟩
end Go.Proofs.YtdmigmccfdhdiaaDoor.X
