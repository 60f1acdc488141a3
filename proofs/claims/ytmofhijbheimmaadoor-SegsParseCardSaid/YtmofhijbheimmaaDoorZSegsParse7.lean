/- Texts that the law's proof needs, joined by a program of this session. -/
import Derived.Test.YtmofhijbheimmaaDoorZSegsParse1
import Derived.Test.YtmofhijbheimmaaDoorZSegsParse5
import Derived.Test.YtmofhijbheimmaaDoorZSegsParse6
set_option maxHeartbeats 8000000
set_option maxRecDepth 100000
set_option linter.unusedSimpArgs false
set_option linter.unusedVariables false
namespace Go.Proofs.YtmofhijbheimmaaDoor.X
open Go.RowKit Go.Proofs.YtmofhijbheimmaaDoorW.PrintWords Go.Proofs.YtmofhijbheimmaaDoorW.PrintLast Go.Proofs.YtmofhijbheimmaaDoorW.PrintMore
attribute [local go_sem] cX cN dY e5 fF es e6 el ep eT eU dU dV eo eq
def aH : Nat → ByteArray → Int → List ByteArray → Int → Option (List ByteArray)
  | 0, _, _, _, _ => none
  | k + 1, x0, x1, x5, x6 => if x6 < (x0.size : Int) then (if 0 ≤ x6 then (if (bt x0 x6) = x1 then (if x5.length < 8796093022208 then (aH k x0 x1 (x5 ++ [(⟨#[]⟩ : ByteArray)]) (wrap64 (x6 + 1))) else (none)) else (if 0 ≤ (wrap64 ((x5.length : Int) - 1)) then (if (wrap64 ((x5.length : Int) - 1)) < (x5.length : Int) then (if x6 ≤ (wrap64 (x6 + 1)) then (if (wrap64 (x6 + 1)) ≤ (x0.size : Int) then (if (aG ByteArray.empty x5 (wrap64 ((x5.length : Int) - 1))).size + (x0.extract (x6 : Int).toNat ((wrap64 (x6 + 1)) : Int).toNat).size ≤ 9223372036854775807 then (aH k x0 x1 (x5.set ((wrap64 ((x5.length : Int) - 1)) : Int).toNat ((aG ByteArray.empty x5 (wrap64 ((x5.length : Int) - 1))) ++ (x0.extract (x6 : Int).toNat ((wrap64 (x6 + 1)) : Int).toNat))) (wrap64 (x6 + 1))) else (none)) else (none)) else (none)) else (none)) else (none))) else (none)) else (some x5)
def d6 (k : Nat) (a0 : ByteArray) (a1 : Int) : Option (List ByteArray) := aH k a0 a1 (([(⟨#[]⟩ : ByteArray)] : List ByteArray)) 0
def eV : Bool × List (List Nat × List Nat) := (true, [([], []), ([], []), ([1], [1]), ([2], [2]), ([0, 3], [0, 3]), ([4], [4]), ([], []), ([], []), ([], []), ([8], [8]), ([6, 7, 9], [6, 7, 9]), ([5, 10], [5, 10]), ([0, 3, 0, 1, 2, 3, 4, 5, 6, 7, 8, 9, 10, 11], [0, 3]), ([12, 11, 0, 1, 2, 3, 4, 5, 6, 7, 8, 9, 10, 11], [11, 12])])
def gU : List Nat := [0, 0, 2, 6, 15, 31, 0, 0, 0, 256, 960, 2047, 4095, 8191]
theorem gv : dF .any (nI Tryd.f29 7) = eV := by kernel_rfl
theorem ge : f5 eV.2 gU = true := by kernel_rfl
theorem gf (k : Nat) (a0 : ByteArray) (a1 : Int) (r : List ByteArray) (w : World) (h : d6 k a0 a1 = some r) :
    Calls Tryd.prog 29 #[.string a0, .int .u8 a1] w fun e w' => ∃ v0_ : Value, e = .returned (v0_) ∧ Kd.R Kd.string 9 w' w.heap.size (fun _ => True) v0_ r ∧ Below w.heap.size w w' := by
 have HB := Zz.mk (Below.refl w.heap.size w)
 have H : (aH k a0 a1 (([(⟨#[]⟩ : ByteArray)] : List ByteArray)) 0) = some r := h
 clear h
 obtain ⟨Ar, Af⟩ : ∃ y_ : List ByteArray, y_ = (([(⟨#[]⟩ : ByteArray)] : List ByteArray)) := ⟨_, rfl⟩
 replace H : (aH k a0 a1 Ar 0) = some r := by first | (rw [Af]; with_reducible exact H) | (have H2_ := (Option.bind_some _ _).symm.trans H; rw [Af]; with_reducible exact H2_) | (have H2_ := (Option.bind_some _ _).symm.trans H; with_reducible exact H2_) | with_reducible exact H | (rw [Af]; exact H) | exact H
 have An := Zz.mk Af
 clear Af
 have H' := Zz.mk H
 clear H
 go_enter Tryd.func29, Tryd.ntmps29
 go_wp2_with (first | ((with_reducible refine an (N := 7) rfl ?_); refine Kd.R_lit Kd.string _ 9 ?hg (N := 7) ?hd (xs := ([(⟨#[]⟩ : ByteArray)] : List ByteArray)) (inner := [.string (⟨#[]⟩ : ByteArray)]) (ok := fun _ => True) (okp := fun _ => True) ?hr ?hp (fun _ hk => hk) trivial (Below.refl _ _) (Nat.le_refl _) (by simp) ?_; (case hd => rfl); (case hg => rfl); (case hr => first | (go_simp; done) | (go_simp; rfl)); (case hp => exact (Reps.one (show Kd.M Kd.string _ _ _ (⟨#[]⟩ : ByteArray) [.string (⟨#[]⟩ : ByteArray)] from rfl) (Reps.none _ _))); intro v233 w3 ho4 hb hg_ hnew_; clear hg_ hnew_; (first | rw [← An.out] at ho4 | (simp only [Int.reduceToNat] at ho4; rw [← An.out] at ho4)); have As := Zz.mk (Kd.R_lower ho4 (aK xbl)); replace HB := xst hb; clear hb ho4))
 go_loopg [5, 6] k (fun kq v5 v6 w' => ∃ (Ab : List ByteArray) (Aa : Int), v6 = .int .i64 Aa ∧ Zz (aH kq a0 a1 Ab Aa = some r) ∧ Zz (kq ≤ k) ∧ Zz (Kd.R Kd.string 9 w' w.heap.size (fun _ => True) v5 Ab) ∧ Zz (Below w.heap.size w w'))
 case atStart => exact ⟨(Ar), (0), xrr, H', ⟨Nat.le_refl _⟩, ⟨xkd As⟩, ⟨xbl⟩⟩
 case round =>
  clear H'
  obtain ⟨Ab, Aa, rfl, HA, HK1, Ad, HB⟩ := hrel
  cases gk with
  | zero => exact absurd HA.out (by simp [aH])
  | succ k1 =>
   have H := HA.out
   clear HA
   simp only [aH] at H
   by_cases c5 : Aa < (a0.size : Int)
   ·
    rw [if_pos c5] at H
    have AA := decide_eq_true c5
    clear c5
    by_cases c6 : 0 ≤ Aa
    ·
     rw [if_pos c6] at H
     have AS := decide_eq_true c6
     clear c6
     by_cases c8 : (bt a0 Aa) = a1
     ·
      rw [if_pos c8] at H
      have AB : ((bt a0 Aa) == a1) = true := beq_iff_eq.mpr c8
      have AC : ((bt a0 Aa) != a1) = false := bne_eq_false_iff_eq.mpr c8
      clear c8
      by_cases c9 : Ab.length < 8796093022208
      ·
       rw [if_pos c9] at H
       have LMc9 := Zz.mk c9
       clear c9
       obtain ⟨At, Ag⟩ : ∃ y_ : List ByteArray, y_ = (Ab ++ [(⟨#[]⟩ : ByteArray)]) := ⟨_, rfl⟩
       replace H : (aH k1 a0 a1 At (wrap64 (Aa + 1))) = some r := by first | (rw [Ag]; with_reducible exact H) | (have H2_ := (Option.bind_some _ _).symm.trans H; rw [Ag]; with_reducible exact H2_) | (have H2_ := (Option.bind_some _ _).symm.trans H; with_reducible exact H2_) | with_reducible exact H | (rw [Ag]; exact H) | exact H
       have Au := Zz.mk Ag
       clear Ag
       have H' := Zz.mk H
       clear H
       have p7 : 0 ≤ (Aa : Int) := xod
       have q7 : Aa < (a0.size : Int) := xod
       have hx7 := ar a0 Aa
       replace p7 := eq_true p7
       replace q7 := eq_true q7
       try (have AD := q7; simp only [ByteArray.size_extract, Nat.min_self] at AD)
       go_wp2_with (first | ((with_reducible refine dQ (b := .append) (xs := #[.tmp 19, .tmp 20]) rfl ?_); at_builtin; refine Kd.R_append Kd.string (w0 := w) w.heap.size rfl (.tmp 19) (.tmp 20) 23 9 (.string ⟨#[]⟩) 16 rfl Tryd.underlying23 jU rfl (by decide) (by omega) u5 Ab (⟨#[]⟩ : ByteArray) [.string (⟨#[]⟩ : ByteArray)] (fun _ => True) (fun _ => False) rfl rfl ?aP (fun _ hk => hk.elim) ?aF ?aO ?aB ?aS ?aL ?_; (case aP => exact rfl); (case aB => exact xbl); (case aF => exact (fun _ _ => trivial)); (case aO => exact (xkd Ad)); (case aS => exact (aK xbl)); (case aL => have := LMc9.out; first | omega | exact Nat.le_of_lt this); intro v236 w10 ho hb hg hat; rw [← Au.out] at ho; have n0_ := Zz.mk (hb); have n1_ := Zz.mk (ho); clear HB; clear Ad; have HB := n0_; have Av := n1_; clear n0_ n1_; clear ho hb hg hat))
       go_roundg k1
       case measure => have := HK1.out; omega
       case rel => exact ⟨(At), (wrap64 (Aa + 1)), xrr, H', ⟨by have := HK1.out; omega⟩, ⟨xkd Av⟩, ⟨xbl⟩⟩
      ·
       rw [if_neg c9] at H
       exact absurd H (by simp)
     ·
      rw [if_neg c8] at H
      have AB : ((bt a0 Aa) == a1) = false := beq_eq_false_iff_ne.mpr c8
      have AC : ((bt a0 Aa) != a1) = true := bne_iff_ne.mpr c8
      obtain ⟨Ac, Aj⟩ : ∃ j_ : Int, (wrap64 ((Ab.length : Int) - 1)) = j_ := ⟨_, rfl⟩
      first | rw [Aj] at H | simp only [Aj] at H | skip
      have AE : (IntKind.i64.wrap ((Ab.length : Int) - 1)) = Ac := (ap _).trans Aj
      by_cases c12 : 0 ≤ (Ac)
      ·
       rw [if_pos c12] at H
       have AH := decide_eq_true c12
       clear c12
       by_cases c13 : (Ac) < (Ab.length : Int)
       ·
        rw [if_pos c13] at H
        have AI := decide_eq_true c13
        clear c13
        have AJ := eq_true (xod : 0 ≤ Aa)
        obtain ⟨Al, Ah⟩ : ∃ j_ : Int, (wrap64 (Aa + 1)) = j_ := ⟨_, rfl⟩
        first | rw [Ah] at H | simp only [Ah] at H | skip
        have AF : (IntKind.i64.wrap (Aa + 1)) = Al := (ap _).trans Ah
        by_cases c16 : Aa ≤ (Al)
        ·
         rw [if_pos c16] at H
         have AK := eq_true c16
         have AL := decide_eq_true c16
         clear c16
         by_cases c17 : (Al) ≤ (a0.size : Int)
         ·
          rw [if_pos c17] at H
          have AM := eq_true c17
          have AN := decide_eq_true c17
          clear c17
          obtain ⟨Am, Ak⟩ : ∃ j_ : ByteArray, (a0.extract (Aa : Int).toNat ((Al) : Int).toNat) = j_ := ⟨_, rfl⟩
          try (have Ao := Ak; simp only [Int.toNat_natCast] at Ao)
          first | rw [Ak] at H | simp only [Ak] at H | skip
          by_cases c19 : (aG ByteArray.empty Ab (Ac)).size + (Am).size ≤ 9223372036854775807
          ·
           rw [if_pos c19] at H
           have AO := eq_true c19
           have AP := decide_eq_true c19
           try have AQ : (9223372036854775807 < (aG ByteArray.empty Ab (Ac)).size + (Am).size) = False := eq_false (Nat.not_lt.2 c19)
           obtain ⟨Aw, Ai⟩ : ∃ y_ : List ByteArray, y_ = (Ab.set ((Ac) : Int).toNat ((aG ByteArray.empty Ab (Ac)) ++ (Am))) := ⟨_, rfl⟩
           replace H : (aH k1 a0 a1 Aw Al) = some r := by first | (rw [Ai]; with_reducible exact H) | (have H2_ := (Option.bind_some _ _).symm.trans H; rw [Ai]; with_reducible exact H2_) | (have H2_ := (Option.bind_some _ _).symm.trans H; with_reducible exact H2_) | with_reducible exact H | (rw [Ai]; exact H) | exact H
           have Ax := Zz.mk Ai
           clear Ai
           have H' := Zz.mk H
           clear H
           have p7 : 0 ≤ (Aa : Int) := xod
           have q7 : Aa < (a0.size : Int) := xod
           have hx7 := ar a0 Aa
           replace p7 := eq_true p7
           replace q7 := eq_true q7
           try (have AD := q7; simp only [ByteArray.size_extract, Nat.min_self] at AD)
           try go_wp2
           have n0_ := Zz.mk (Kd.R_drew Ad.out)
           have n1_ := Zz.mk (dn HB.out)
           clear Ad
           clear HB
           have Ad := n0_
           have HB := n1_
           clear n0_ n1_
           obtain ⟨Ao22, co22, eo22⟩ := Kd.R_slice Ad.out
           (first | subst eo22 | (injection eo22 with f1_ f2_ f3_; have f4_ := f1_.symm; have f5_ := f3_.symm; clear f1_ f2_ f3_; subst f4_; subst f5_))
           have p238 : 0 ≤ ((Ac) : Int) := xod
           have q238 : (Ac) < (Ab.length : Int) := xod
           obtain ⟨AR, e238, Ae⟩ := Kd.at_string (Kd.R_reads' Ad.out).2.2 (Ac) p238 q238
           cases e238
           replace p238 := eq_true p238
           replace q238 := eq_true q238
           try (have Ay := q238; simp only [ByteArray.size_extract, Nat.min_self] at Ay)
           have p20 : 0 ≤ ((Ac) : Int) := xod
           have q20 : ((Ac) : Int) < ((Ab.length : Int) : Int) := xod
           obtain ⟨go20, co20, eo20, Az, gl20, cl20, HG20⟩ := Kd.R_form Ad.out (by omega)
           (first | cases eo20 | (injection eo20 with ea_ en_ ec_; (first | subst ea_ | (injection ea_ with ea_; subst ea_)); subst ec_; clear en_))
           have GB20 := Zz.mk Az
           have GG20 := Zz.mk HG20
           clear Az gl20 HG20
           (first | simp only [jt] at Ae | skip)
           obtain ⟨Ap, Aq⟩ := Kd.R_celln (⟨#[]⟩ : ByteArray) Ad.out ((Ac) : Int) p20 q20
           replace p20 := eq_true p20
           replace q20 := eq_true q20
           try (have AG := q20; simp only [ByteArray.size_extract, Nat.min_self] at AG)
           have HP23 := Kd.R_putn Ad.out ((Ac) : Int) ((aG ByteArray.empty Ab (Ac)) ++ (Am))
           rw [← Ax.out] at HP23
           have HQ23 := Zz.mk HP23
           clear HP23
           refine kp (n := 14) (S := fun w' => w'.cell? ⟨go20, ((Ac)).toNat, none⟩ = some (.string (aG ByteArray.empty Ab (Ac)))) (ds := [13]) #[false, false, false, false, false, false, false, false, false, false, false, false, false, false] (by kernel_rfl) rfl rfl (Ae) (fun hHeld => ?_); refine jM gv ge (fun HT_ HW_ => ?_)
           generalize wr.drew = w21 at Ad HB GG20 HQ23 Aq Ap Ae hHeld ⊢
           refine cT (i := 0) (N := some 22) (v := ?_) (a' := ?_) #[true, false, false, false, false, false, false, false, false, false, false, false, false, false] rfl rfl (cU HT_.out (by kernel_rfl)) (fun _ _ _ h => h) (Or.inl ⟨by rfl, ?_⟩) ?_ ?_
           rotate_left
           ·
            intro w'
            go_simp
            with_reducible rfl
           rotate_left
           ·
            simp only [Act.put, List.setIfInBounds_toArray, List.set_cons_zero, List.set_cons_succ, ap, aw]
            rfl
           refine cT (i := 1) (N := some 23) (v := ?_) (a' := ?_) #[true, true, false, false, false, false, false, false, false, false, false, false, false, false] rfl rfl (cU HT_.out (by kernel_rfl)) (fun _ _ _ h => h) (Or.inl ⟨by rfl, ?_⟩) ?_ ?_
           rotate_left
           ·
            intro w'
            go_simp
            with_reducible rfl
           rotate_left
           ·
            simp only [Act.put, List.setIfInBounds_toArray, List.set_cons_zero, List.set_cons_succ, ap, aw]
            rfl
           refine cT (i := 2) (N := some 24) (v := ?_) (a' := ?_) #[true, true, true, false, false, false, false, false, false, false, false, false, false, false] rfl rfl (cU HT_.out (by kernel_rfl)) (fun _ _ _ h => h) (Or.inl ⟨by rfl, ?_⟩) ?_ ?_
           rotate_left
           ·
            intro w'
            go_simp
            with_reducible rfl
           rotate_left
           ·
            simp only [Act.put, List.setIfInBounds_toArray, List.set_cons_zero, List.set_cons_succ, ap, aw]
            rfl
           refine cT (i := 3) (N := some 25) (v := ?_) (a' := ?_) #[true, true, true, true, false, false, false, false, false, false, false, false, false, false] rfl rfl (cU HT_.out (by kernel_rfl)) (fun _ _ _ h => h) (Or.inl ⟨by rfl, ?_⟩) ?_ ?_
           rotate_left
           ·
            intro w'
            go_simp
            with_reducible rfl
           rotate_left
           ·
            simp only [Act.put, List.setIfInBounds_toArray, List.set_cons_zero, List.set_cons_succ, ap, aw]
            rfl
           refine cT (i := 4) (N := some 26) (v := ?_) (a' := ?_) #[true, true, true, true, true, false, false, false, false, false, false, false, false, false] rfl rfl (cU HT_.out (by kernel_rfl)) (fun _ _ _ h => h) (Or.inl ⟨by rfl, ?_⟩) ?_ ?_
           rotate_left
           ·
            intro w'
            go_simp
            with_reducible rfl
           rotate_left
           ·
            simp only [Act.put, List.setIfInBounds_toArray, List.set_cons_zero, List.set_cons_succ, ap, aw]
            rfl
           refine cT (i := 6) (N := some 28) (v := ?_) (a' := ?_) #[true, true, true, true, true, false, true, false, false, false, false, false, false, false] rfl rfl (cU HT_.out (by kernel_rfl)) (fun _ _ _ h => h) (Or.inl ⟨by rfl, ?_⟩) ?_ ?_
           rotate_left
           ·
            intro w'
            go_simp
            with_reducible rfl
           rotate_left
           ·
            simp only [Act.put, List.setIfInBounds_toArray, List.set_cons_zero, List.set_cons_succ, ap, aw]
            rfl
           refine cT (i := 7) (N := some 29) (v := ?_) (a' := ?_) #[true, true, true, true, true, false, true, true, false, false, false, false, false, false] rfl rfl (cU HT_.out (by kernel_rfl)) (fun _ _ _ h => h) (Or.inl ⟨by rfl, ?_⟩) ?_ ?_
           rotate_left
           ·
            intro w'
            go_simp
            with_reducible rfl
           rotate_left
           ·
            simp only [Act.put, List.setIfInBounds_toArray, List.set_cons_zero, List.set_cons_succ, ap, aw]
            rfl
           refine cT (i := 8) (N := some 30) (v := ?_) (a' := ?_) #[true, true, true, true, true, false, true, true, true, false, false, false, false, false] rfl rfl (cU HT_.out (by kernel_rfl)) (fun _ _ _ h => h) (Or.inl ⟨by rfl, ?_⟩) ?_ ?_
           rotate_left
           ·
            intro w'
            go_simp
            with_reducible rfl
           rotate_left
           ·
            simp only [Act.put, List.setIfInBounds_toArray, List.set_cons_zero, List.set_cons_succ, ap, aw]
            rfl
           refine cT (i := 9) (N := some 31) (v := ?_) (a' := ?_) #[true, true, true, true, true, false, true, true, true, true, false, false, false, false] rfl rfl (cU HT_.out (by kernel_rfl)) (fun _ _ _ h => h) (Or.inl ⟨by rfl, ?_⟩) ?_ ?_
           rotate_left
           ·
            intro w'
            go_simp
            with_reducible rfl
           rotate_left
           ·
            simp only [Act.put, List.setIfInBounds_toArray, List.set_cons_zero, List.set_cons_succ, ap, aw]
            rfl
           refine cT (i := 10) (N := some 32) (v := ?_) (a' := ?_) #[true, true, true, true, true, false, true, true, true, true, true, false, false, false] rfl rfl (cU HT_.out (by kernel_rfl)) (fun _ _ _ h => h) (Or.inl ⟨by rfl, ?_⟩) ?_ ?_
           rotate_left
           ·
            intro w'
            go_simp
            with_reducible rfl
           rotate_left
           ·
            simp only [Act.put, List.setIfInBounds_toArray, List.set_cons_zero, List.set_cons_succ, ap, aw]
            rfl
           refine take_ (i := 5) (N := some 27) (v := ?_) (a' := ?_) #[true, true, true, true, true, true, true, true, true, true, true, false, false, false] rfl rfl (iY HT_.out HW_.out (by kernel_rfl)) (fun _ _ _ h => h) (Or.inl ⟨by rfl, ?_⟩) hHeld ?_ ?_
           rotate_left
           ·
            intro w' s0
            go_simp
            with_reducible rfl
           rotate_left
           ·
            simp only [Act.put, List.setIfInBounds_toArray, List.set_cons_zero, List.set_cons_succ, ap, aw]
            rfl
           refine cT (i := 11) (N := some 33) (v := ?_) (a' := ?_) #[true, true, true, true, true, true, true, true, true, true, true, true, false, false] rfl rfl (cU HT_.out (by kernel_rfl)) (fun _ _ _ h => h) (Or.inl ⟨by rfl, ?_⟩) ?_ ?_
           rotate_left
           ·
            intro w'
            go_simp
            with_reducible rfl
           rotate_left
           ·
            simp only [Act.put, List.setIfInBounds_toArray, List.set_cons_zero, List.set_cons_succ, ap, aw]
            rfl
           refine cT (i := 12) (N := some 34) (v := ?_) (a' := ?_) #[true, true, true, true, true, true, true, true, true, true, true, true, true, false] rfl rfl (cU HT_.out (by kernel_rfl)) (fun _ _ _ h => h) (Or.inl ⟨by rfl, ?_⟩) ?_ ?_
           rotate_left
           ·
            intro w'
            go_simp
            with_reducible rfl
           rotate_left
           ·
            simp only [Act.put, List.setIfInBounds_toArray, List.set_cons_zero, List.set_cons_succ, ap, aw]
            rfl
           refine k7 (i := 13) (N := none) #[true, true, true, true, true, true, true, true, true, true, true, true, true, true] rfl rfl (ir HT_.out (by kernel_rfl)) (by decide) (fun K hK => ?_)
           refine lm (w1 := ?_) (by rfl) rfl ?_ ?_
           rotate_left
           ·
            go_simp
            rfl
           refine hK.out _ _ ?_
           clear hK K
           refine k0 (kE HT_.out (by kernel_rfl)) ?_
           try go_wp2
           first | go_roundg k1 | (simp only [← Aj, ← Ah, ← Ak]; go_roundg k1)
           case measure => have := HK1.out; omega
           case rel => exact ⟨(Aw), (Al), (by first | rfl | (simp; done) | (simp only [← Ah] <;> (first | rfl | simp)) | (simp [*]; done) | (simp [wrap64]; done)), H', ⟨by have := HK1.out; omega⟩, ⟨xkd HQ23⟩, ⟨xbl⟩⟩
          ·
           rw [if_neg c19] at H
           exact absurd H (by simp)
         ·
          rw [if_neg c17] at H
          exact absurd H (by simp)
        ·
         rw [if_neg c16] at H
         exact absurd H (by simp)
       ·
        rw [if_neg c13] at H
        exact absurd H (by simp)
      ·
       rw [if_neg c12] at H
       exact absurd H (by simp)
    ·
     rw [if_neg c6] at H
     exact absurd H (by simp)
   ·
    rw [if_neg c5] at H
    have AA := decide_eq_false c5
    clear c5
    obtain rfl := Option.some.inj H
    go_wp2
    go_ret
    exact ⟨_, by first | rfl | (simp [au, av] <;> first | rfl | (simp only [bK, bne, Bool.not_not]; done)) | (simp [*, au, av] <;> rfl), by (with_reducible repeat (first | apply Kd.R_alloc | apply Kd.R_drewN | apply Kd.R_drew)); exact Ad.out, xbl⟩
def eC (a0 : Int) : Option (ByteArray) := if 0 ≤ ((Int.tdiv a0 16) % 256) then (if ((Int.tdiv a0 16) % 256) ≤ ((((Int.tdiv a0 16) % 256) + 1) % 256) then (if ((((Int.tdiv a0 16) % 256) + 1) % 256) ≤ 16 then (if 1 + ((⟨#[48, 49, 50, 51, 52, 53, 54, 55, 56, 57, 65, 66, 67, 68, 69, 70]⟩ : ByteArray).extract (((Int.tdiv a0 16) % 256) : Int).toNat (((((Int.tdiv a0 16) % 256) + 1) % 256) : Int).toNat).size ≤ 9223372036854775807 then (if 0 ≤ (Int.tmod a0 16) then (if (Int.tmod a0 16) ≤ (((Int.tmod a0 16) + 1) % 256) then (if (((Int.tmod a0 16) + 1) % 256) ≤ 16 then (if ((⟨#[37]⟩ : ByteArray) ++ ((⟨#[48, 49, 50, 51, 52, 53, 54, 55, 56, 57, 65, 66, 67, 68, 69, 70]⟩ : ByteArray).extract (((Int.tdiv a0 16) % 256) : Int).toNat (((((Int.tdiv a0 16) % 256) + 1) % 256) : Int).toNat)).size + ((⟨#[48, 49, 50, 51, 52, 53, 54, 55, 56, 57, 65, 66, 67, 68, 69, 70]⟩ : ByteArray).extract ((Int.tmod a0 16) : Int).toNat ((((Int.tmod a0 16) + 1) % 256) : Int).toNat).size ≤ 9223372036854775807 then (some (((⟨#[37]⟩ : ByteArray) ++ ((⟨#[48, 49, 50, 51, 52, 53, 54, 55, 56, 57, 65, 66, 67, 68, 69, 70]⟩ : ByteArray).extract (((Int.tdiv a0 16) % 256) : Int).toNat (((((Int.tdiv a0 16) % 256) + 1) % 256) : Int).toNat)) ++ ((⟨#[48, 49, 50, 51, 52, 53, 54, 55, 56, 57, 65, 66, 67, 68, 69, 70]⟩ : ByteArray).extract ((Int.tmod a0 16) : Int).toNat ((((Int.tmod a0 16) + 1) % 256) : Int).toNat))) else (none)) else (none)) else (none)) else (none)) else (none)) else (none)) else (none)) else (none)
theorem gT (a0 : Int) (r : ByteArray) (w : World) (h : eC a0 = some r) :
    Calls Tryd.prog 35 #[.int .u8 a0] w fun e w' => e = .returned (.string r) ∧ Drawn0 w w' := by
 have H : (if 0 ≤ ((Int.tdiv a0 16) % 256) then (if ((Int.tdiv a0 16) % 256) ≤ ((((Int.tdiv a0 16) % 256) + 1) % 256) then (if ((((Int.tdiv a0 16) % 256) + 1) % 256) ≤ 16 then (if 1 + ((⟨#[48, 49, 50, 51, 52, 53, 54, 55, 56, 57, 65, 66, 67, 68, 69, 70]⟩ : ByteArray).extract (((Int.tdiv a0 16) % 256) : Int).toNat (((((Int.tdiv a0 16) % 256) + 1) % 256) : Int).toNat).size ≤ 9223372036854775807 then (if 0 ≤ (Int.tmod a0 16) then (if (Int.tmod a0 16) ≤ (((Int.tmod a0 16) + 1) % 256) then (if (((Int.tmod a0 16) + 1) % 256) ≤ 16 then (if ((⟨#[37]⟩ : ByteArray) ++ ((⟨#[48, 49, 50, 51, 52, 53, 54, 55, 56, 57, 65, 66, 67, 68, 69, 70]⟩ : ByteArray).extract (((Int.tdiv a0 16) % 256) : Int).toNat (((((Int.tdiv a0 16) % 256) + 1) % 256) : Int).toNat)).size + ((⟨#[48, 49, 50, 51, 52, 53, 54, 55, 56, 57, 65, 66, 67, 68, 69, 70]⟩ : ByteArray).extract ((Int.tmod a0 16) : Int).toNat ((((Int.tmod a0 16) + 1) % 256) : Int).toNat).size ≤ 9223372036854775807 then (some (((⟨#[37]⟩ : ByteArray) ++ ((⟨#[48, 49, 50, 51, 52, 53, 54, 55, 56, 57, 65, 66, 67, 68, 69, 70]⟩ : ByteArray).extract (((Int.tdiv a0 16) % 256) : Int).toNat (((((Int.tdiv a0 16) % 256) + 1) % 256) : Int).toNat)) ++ ((⟨#[48, 49, 50, 51, 52, 53, 54, 55, 56, 57, 65, 66, 67, 68, 69, 70]⟩ : ByteArray).extract ((Int.tmod a0 16) : Int).toNat ((((Int.tmod a0 16) + 1) % 256) : Int).toNat))) else (none)) else (none)) else (none)) else (none)) else (none)) else (none)) else (none)) else (none)) = some r := h
 clear h
 obtain ⟨Aj, Ac⟩ : ∃ j_ : Int, ((Int.tdiv a0 16) % 256) = j_ := ⟨_, rfl⟩
 first | rw [Ac] at H | simp only [Ac] at H | skip
 try (have Ap : (IntKind.u8.wrap (Int.tdiv a0 16)) = Aj := Ac)
 by_cases c3 : 0 ≤ (Aj)
 ·
  rw [if_pos c3] at H
  have AB := eq_true c3
  have AC := decide_eq_true c3
  clear c3
  obtain ⟨An, Ad⟩ : ∃ j_ : Int, (((Aj) + 1) % 256) = j_ := ⟨_, rfl⟩
  first | rw [Ad] at H | simp only [Ad] at H | skip
  try (have Aq : (IntKind.u8.wrap ((Aj) + 1)) = An := Ad)
  by_cases c5 : (Aj) ≤ (An)
  ·
   rw [if_pos c5] at H
   have AD := eq_true c5
   have AE := decide_eq_true c5
   clear c5
   by_cases c6 : (An) ≤ 16
   ·
    rw [if_pos c6] at H
    have AF := eq_true c6
    have AG := decide_eq_true c6
    clear c6
    obtain ⟨Ak, Ae⟩ : ∃ j_ : ByteArray, ((⟨#[48, 49, 50, 51, 52, 53, 54, 55, 56, 57, 65, 66, 67, 68, 69, 70]⟩ : ByteArray).extract ((Aj) : Int).toNat ((An) : Int).toNat) = j_ := ⟨_, rfl⟩
    try (have Al := Ae; simp only [Int.toNat_natCast] at Al)
    first | rw [Ae] at H | simp only [Ae] at H | skip
    by_cases c8 : 1 + (Ak).size ≤ 9223372036854775807
    ·
     rw [if_pos c8] at H
     have AH := eq_true c8
     have AI := decide_eq_true c8
     try have AJ : (9223372036854775807 < 1 + (Ak).size) = False := eq_false (Nat.not_lt.2 c8)
     obtain ⟨Am, Ag⟩ : ∃ j_ : Int, (Int.tmod a0 16) = j_ := ⟨_, rfl⟩
     first | rw [Ag] at H | simp only [Ag] at H | skip
     by_cases c10 : 0 ≤ (Am)
     ·
      rw [if_pos c10] at H
      have Ar := eq_true c10
      have As := decide_eq_true c10
      clear c10
      obtain ⟨Af, Aa⟩ : ∃ j_ : Int, (((Am) + 1) % 256) = j_ := ⟨_, rfl⟩
      first | rw [Aa] at H | simp only [Aa] at H | skip
      try (have Ao : (IntKind.u8.wrap ((Am) + 1)) = Af := Aa)
      by_cases c12 : (Am) ≤ (Af)
      ·
       rw [if_pos c12] at H
       have At := eq_true c12
       have Au := decide_eq_true c12
       clear c12
       by_cases c13 : (Af) ≤ 16
       ·
        rw [if_pos c13] at H
        have Av := eq_true c13
        have Aw := decide_eq_true c13
        clear c13
        obtain ⟨Ah, Ab⟩ : ∃ j_ : ByteArray, ((⟨#[48, 49, 50, 51, 52, 53, 54, 55, 56, 57, 65, 66, 67, 68, 69, 70]⟩ : ByteArray).extract ((Am) : Int).toNat ((Af) : Int).toNat) = j_ := ⟨_, rfl⟩
        try (have Ai := Ab; simp only [Int.toNat_natCast] at Ai)
        first | rw [Ab] at H | simp only [Ab] at H | skip
        by_cases c15 : ((⟨#[37]⟩ : ByteArray) ++ (Ak)).size + (Ah).size ≤ 9223372036854775807
        ·
         rw [if_pos c15] at H
         have Ax := eq_true c15
         have Ay := decide_eq_true c15
         try have Az : (9223372036854775807 < ((⟨#[37]⟩ : ByteArray) ++ (Ak)).size + (Ah).size) = False := eq_false (Nat.not_lt.2 c15)
         try have AA : (9223372036854775807 < 1 + (Ak).size + (Ah).size) = False := eq_false (Nat.not_lt.2 (by have h_ := c15; simp only [ByteArray.size_append] at h_; exact h_))
         obtain rfl := Option.some.inj H
         go_enter Tryd.func35, Tryd.ntmps35
         go_wp2
         repeat (go_quiet (fail); try go_wp2)
         go_ret
         exact ⟨by first | rfl | (simp; done) | (simp only [← Ac, ← Ad, ← Ae, ← Ag, ← Aa, ← Ab] <;> (first | rfl | simp)) | (simp [*]; done) | (simp [wrap64]; done), xdr⟩
        ·
         rw [if_neg c15] at H
         exact absurd H (by simp)
       ·
        rw [if_neg c13] at H
        exact absurd H (by simp)
      ·
       rw [if_neg c12] at H
       exact absurd H (by simp)
     ·
      rw [if_neg c10] at H
      exact absurd H (by simp)
    ·
     rw [if_neg c8] at H
     exact absurd H (by simp)
   ·
    rw [if_neg c6] at H
    exact absurd H (by simp)
  ·
   rw [if_neg c5] at H
   exact absurd H (by simp)
 ·
  rw [if_neg c3] at H
  exact absurd H (by simp)
mutual
def aV : Nat → ByteArray → Int → Bool → Bool → ByteArray → Int → Option (ByteArray)
  | 0, _, _, _, _, _, _ => none
  | k + 1, x0, x1, x2, x3, x9, Aa => if Aa < (x0.size : Int) then ((df k x0 Aa).bind fun Ab => (if Ab < 0 then (if 0 ≤ Aa then (if Aa ≤ (wrap64 (Aa + 1)) then (if (wrap64 (Aa + 1)) ≤ (x0.size : Int) then (if x9.size + (x0.extract (Aa : Int).toNat ((wrap64 (Aa + 1)) : Int).toNat).size ≤ 9223372036854775807 then (aV k x0 x1 x2 x3 (x9 ++ (x0.extract (Aa : Int).toNat ((wrap64 (Aa + 1)) : Int).toNat)) (wrap64 (Aa + 1))) else (none)) else (none)) else (none)) else (none)) else (if x2 = true then (cm k x0 x1 x2 x3 x9 Aa Ab true) else ((bX k ((Ab) % 256)).bind fun Ac => (cm k x0 x1 x2 x3 x9 Aa Ab ((Go.bits .and .i64 Ac x1) != 0)))))) else (some x9)
def cm : Nat → ByteArray → Int → Bool → Bool → ByteArray → Int → Int → Bool → Option (ByteArray)
  | 0, _, _, _, _, _, _, _, _ => none
  | k + 1, x0, x1, x2, x3, x9, Aa, Ad, Ae => if Ae = true then ((some (([(Ad) % 256] : List Int) : List Int)).bind fun Ab => (if x9.size + (strOfNums Ab).size ≤ 9223372036854775807 then (aV k x0 x1 x2 x3 (x9 ++ (strOfNums Ab)) (wrap64 (Aa + 3))) else (none))) else (if x3 = true then ((eC ((Ad) % 256)).bind fun Ac => (if x9.size + Ac.size ≤ 9223372036854775807 then (aV k x0 x1 x2 x3 (x9 ++ Ac) (wrap64 (Aa + 3))) else (none))) else (if 0 ≤ Aa then (if Aa ≤ (wrap64 (Aa + 3)) then (if (wrap64 (Aa + 3)) ≤ (x0.size : Int) then (if x9.size + (x0.extract (Aa : Int).toNat ((wrap64 (Aa + 3)) : Int).toNat).size ≤ 9223372036854775807 then (aV k x0 x1 x2 x3 (x9 ++ (x0.extract (Aa : Int).toNat ((wrap64 (Aa + 3)) : Int).toNat)) (wrap64 (Aa + 3))) else (none)) else (none)) else (none)) else (none)))
end
def eb (k : Nat) (a0 : ByteArray) (a1 : Int) (a2 : Bool) (a3 : Bool) : Option (ByteArray) := aV k a0 a1 a2 a3 (⟨#[]⟩ : ByteArray) 0
theorem gt (k : Nat) (a0 : ByteArray) (a1 : Int) (a2 : Bool) (a3 : Bool) (r : ByteArray) (w : World) (h : eb k a0 a1 a2 a3 = some r) :
    Calls Tryd.prog 30 #[.string a0, .int .i64 a1, .bool a2, .bool a3] w fun e w' => e = .returned (.string r) ∧ Below w.heap.size w w' := by
 have HB := Zz.mk (Below.refl w.heap.size w)
 have H : (aV k a0 a1 a2 a3 (⟨#[]⟩ : ByteArray) 0) = some r := h
 clear h
 have H' := Zz.mk H
 clear H
 go_enter Tryd.func30, Tryd.ntmps30
 go_wp2
 go_loopg [9, 10] k (fun kq v9 v10 w' => ∃ (Ab : ByteArray) (Aa : Int), v9 = .string Ab ∧ v10 = .int .i64 Aa ∧ Zz (aV kq a0 a1 a2 a3 Ab Aa = some r) ∧ Zz (kq ≤ k) ∧ Zz (Below w.heap.size w w'))
 case atStart => exact ⟨((⟨#[]⟩ : ByteArray)), (0), xrr, xrr, H', ⟨Nat.le_refl _⟩, ⟨xbl⟩⟩
 case round =>
  clear H'
  obtain ⟨Ab, Aa, rfl, rfl, HA, HK1, HB⟩ := hrel
  cases gk with
  | zero => exact absurd HA.out (by simp [aV])
  | succ k1 =>
   have H := HA.out
   clear HA
   simp only [aV] at H
   by_cases c5 : Aa < (a0.size : Int)
   ·
    rw [if_pos c5] at H
    have As := decide_eq_true c5
    clear c5
    replace H := Option.bind_eq_some_iff.mp H
    obtain ⟨Ac, A60, H⟩ := H
    try dsimp only at H
    have A6 := Zz.mk A60
    clear A60
    by_cases c7 : Ac < 0
    ·
     rw [if_pos c7] at H
     have At := decide_eq_true c7
     clear c7
     by_cases c8 : 0 ≤ Aa
     ·
      rw [if_pos c8] at H
      have AV := eq_true c8
      have AW := decide_eq_true c8
      clear c8
      obtain ⟨Au, Ai⟩ : ∃ j_ : Int, (wrap64 (Aa + 1)) = j_ := ⟨_, rfl⟩
      first | rw [Ai] at H | simp only [Ai] at H | skip
      (try rw [Ai] at A6)
      have Ay : (IntKind.i64.wrap (Aa + 1)) = Au := (ap _).trans Ai
      by_cases c10 : Aa ≤ (Au)
      ·
       rw [if_pos c10] at H
       have Az := eq_true c10
       have AA := decide_eq_true c10
       clear c10
       by_cases c11 : (Au) ≤ (a0.size : Int)
       ·
        rw [if_pos c11] at H
        have AB := eq_true c11
        have AC := decide_eq_true c11
        clear c11
        obtain ⟨An, Ad⟩ : ∃ j_ : ByteArray, (a0.extract (Aa : Int).toNat ((Au) : Int).toNat) = j_ := ⟨_, rfl⟩
        try (have Ao := Ad; simp only [Int.toNat_natCast] at Ao)
        first | rw [Ad] at H | simp only [Ad] at H | skip
        (try rw [Ad] at A6)
        by_cases c13 : Ab.size + (An).size ≤ 9223372036854775807
        ·
         rw [if_pos c13] at H
         have AD := eq_true c13
         have AE := decide_eq_true c13
         try have AF : (9223372036854775807 < Ab.size + (An).size) = False := eq_false (Nat.not_lt.2 c13)
         have H' := Zz.mk H
         clear H
         go_wp2_with (first | ((with_reducible refine ae (f := 44) rfl ?_); refine xgl 18 Tryd.func44 #[.string a0, .int .i64 Aa] ?_; (with_reducible refine (ce k1 a0 Aa Ac _ A6.out).mono ?_); rintro e w' ⟨rfl, ⟨nd, rfl⟩⟩; refine ⟨_, rfl, ?_⟩))
         first | go_roundg k1 | (simp only [← Ai, ← Ad]; go_roundg k1)
         case measure => have := HK1.out; omega
         case rel => exact ⟨(Ab ++ (An)), (Au), (by first | rfl | (simp; done) | (simp only [← Ad] <;> (first | rfl | simp)) | (simp [*]; done) | (simp [wrap64]; done)), (by first | rfl | (simp; done) | (simp only [← Ai] <;> (first | rfl | simp)) | (simp [*]; done) | (simp [wrap64]; done)), H', ⟨by have := HK1.out; omega⟩, ⟨xbl⟩⟩
        ·
         rw [if_neg c13] at H
         exact absurd H (by simp)
       ·
        rw [if_neg c11] at H
        exact absurd H (by simp)
      ·
       rw [if_neg c10] at H
       exact absurd H (by simp)
     ·
      rw [if_neg c8] at H
      exact absurd H (by simp)
    ·
     rw [if_neg c7] at H
     have At := decide_eq_false c7
     clear c7
     have Ap := Zz.mk H
     clear H
     go_upto_region 8 with (first | ((with_reducible refine ae (f := 44) rfl ?_); refine xgl 18 Tryd.func44 #[.string a0, .int .i64 Aa] ?_; (with_reducible refine (ce k1 a0 Aa Ac _ A6.out).mono ?_); rintro e w' ⟨rfl, ⟨nd, rfl⟩⟩; refine ⟨_, rfl, ?_⟩))
     (try simp only [Act.put, List.setIfInBounds_toArray, List.set_cons_zero, List.set_cons_succ])
     go_cut [38] (fun v38 wc => ∃ (kq : Nat) (Ae : Bool), v38 = .bool Ae ∧ Zz (cm kq a0 a1 a2 a3 Ab Aa Ac Ae = some r) ∧ Zz (kq ≤ k1) ∧ Zz (Below w.heap.size w wc))
     case first =>
      have H := Ap.out
      clear Ap
      by_cases c15 : a2 = true
      ·
       subst c15
       rw [if_pos rfl] at H
       have H' := Zz.mk H
       clear H
       go_wp2
       go_meet
       case rel => exact ⟨_, (true), xrr, H', ⟨by have := HK1.out; first | omega | exact Nat.le_refl _⟩, ⟨xbl⟩⟩
      ·
       replace c15 := Bool.eq_false_iff.mpr c15
       subst c15
       rw [if_neg (show ¬ (false = true) by decide)] at H
       replace H := Option.bind_eq_some_iff.mp H
       obtain ⟨Av, A160, H⟩ := H
       try dsimp only at H
       have A16 := Zz.mk A160
       clear A160
       have H' := Zz.mk H
       clear H
       go_wp2_with (first | (go_at_call 34; (with_reducible refine (aT k1 ((Ac) % 256) Av _ A16.out).mono ?_); rintro e w' ⟨rfl, ⟨nd, rfl⟩⟩))
       go_meet
       case rel => exact ⟨_, (((Go.bits .and .i64 Av a1) != 0)), xrr, H', ⟨by have := HK1.out; first | omega | exact Nat.le_refl _⟩, ⟨xbl⟩⟩
     case rest =>
      clear Ap
      clear As At
      obtain ⟨kq, Ae, rfl, HA, HJ13, HB⟩ := hcut
      cases kq with
      | zero => exact absurd HA.out (by simp [cm])
      | succ kj13 =>
       have H := HA.out
       clear HA
       simp only [cm] at H
       by_cases c17 : Ae = true
       ·
        subst c17
        rw [if_pos rfl] at H
        obtain ⟨Aj, Af⟩ : ∃ y_ : List Int, y_ = (([(Ac) % 256] : List Int)) := ⟨_, rfl⟩
        replace H : (if Ab.size + (strOfNums Aj).size ≤ 9223372036854775807 then (aV kj13 a0 a1 a2 a3 (Ab ++ (strOfNums Aj)) (wrap64 (Aa + 3))) else (none)) = some r := by first | (rw [Af]; with_reducible exact H) | (have H2_ := (Option.bind_some _ _).symm.trans H; rw [Af]; with_reducible exact H2_) | (have H2_ := (Option.bind_some _ _).symm.trans H; with_reducible exact H2_) | with_reducible exact H | (rw [Af]; exact H) | exact H
        have Am := Zz.mk Af
        clear Af
        by_cases c18 : Ab.size + (strOfNums Aj).size ≤ 9223372036854775807
        ·
         rw [if_pos c18] at H
         have AG := eq_true c18
         have AH := decide_eq_true c18
         try have AI : (9223372036854775807 < Ab.size + (strOfNums Aj).size) = False := eq_false (Nat.not_lt.2 c18)
         have H' := Zz.mk H
         clear H
         go_wp2_with (first | ((with_reducible refine an (N := 42) rfl ?_); refine Kd.R_lit (Kd.int .u8) _ 5 ?hg (N := 42) ?hd (xs := ([(Ac) % 256] : List Int)) (inner := [.int .u8 ((Ac) % 256)]) (ok := fun _ => True) (okp := fun _ => True) ?hr ?hp (fun _ hk => hk) trivial (Below.refl _ _) (Nat.le_refl _) (by simp) ?_; (case hd => rfl); (case hg => rfl); (case hr => first | (go_simp; done) | (go_simp; rfl)); (case hp => exact (Reps.one (show Kd.M (Kd.int .u8) _ _ _ ((Ac) % 256) [.int .u8 ((Ac) % 256)] from rfl) (Reps.none _ _))); intro v243 w19 ho20 hb hg_ hnew_; clear hg_ hnew_; (first | rw [← Am.out] at ho20 | (simp only [Int.reduceToNat] at ho20; rw [← Am.out] at ho20)); have Aw := Zz.mk (Kd.R_lower ho20 (aK xbl)); replace HB := xst hb; clear hb ho20; have hcv21 := ew (P := Tryd.prog) Tryd.underlying60 Tryd.underlying5 Tryd.underlying9 (Kd.own_of_R Aw.out)))
         go_roundg kj13
         case measure => have := HK1.out; have := HJ13.out; omega
         case rel => exact ⟨(Ab ++ (strOfNums Aj)), (wrap64 (Aa + 3)), xrr, xrr, H', ⟨by have := HK1.out; have := HJ13.out; omega⟩, ⟨xbl⟩⟩
        ·
         rw [if_neg c18] at H
         exact absurd H (by simp)
       ·
        replace c17 := Bool.eq_false_iff.mpr c17
        subst c17
        rw [if_neg (show ¬ (false = true) by decide)] at H
        by_cases c22 : a3 = true
        ·
         subst c22
         rw [if_pos rfl] at H
         replace H := Option.bind_eq_some_iff.mp H
         obtain ⟨Al, A230, H⟩ := H
         try dsimp only at H
         have A23 := Zz.mk A230
         clear A230
         by_cases c24 : Ab.size + Al.size ≤ 9223372036854775807
         ·
          rw [if_pos c24] at H
          have AJ := eq_true c24
          have AK := decide_eq_true c24
          try have AL : (9223372036854775807 < Ab.size + Al.size) = False := eq_false (Nat.not_lt.2 c24)
          have H' := Zz.mk H
          clear H
          go_wp2_with (first | ((with_reducible refine ae (f := 35) rfl ?_); refine xgl 49 Tryd.func35 #[.int .u8 ((Ac) % 256)] ?_; (with_reducible refine (gT ((Ac) % 256) Al _ A23.out).mono ?_); rintro e w' ⟨rfl, ⟨nd, rfl⟩⟩; refine ⟨_, rfl, ?_⟩))
          go_roundg kj13
          case measure => have := HK1.out; have := HJ13.out; omega
          case rel => exact ⟨(Ab ++ Al), (wrap64 (Aa + 3)), xrr, xrr, H', ⟨by have := HK1.out; have := HJ13.out; omega⟩, ⟨xbl⟩⟩
         ·
          rw [if_neg c24] at H
          exact absurd H (by simp)
        ·
         replace c22 := Bool.eq_false_iff.mpr c22
         subst c22
         rw [if_neg (show ¬ (false = true) by decide)] at H
         by_cases c25 : 0 ≤ Aa
         ·
          rw [if_pos c25] at H
          have AM := eq_true c25
          have AN := decide_eq_true c25
          clear c25
          obtain ⟨Ak, Ag⟩ : ∃ j_ : Int, (wrap64 (Aa + 3)) = j_ := ⟨_, rfl⟩
          first | rw [Ag] at H | simp only [Ag] at H | skip
          have Ax : (IntKind.i64.wrap (Aa + 3)) = Ak := (ap _).trans Ag
          by_cases c27 : Aa ≤ (Ak)
          ·
           rw [if_pos c27] at H
           have AO := eq_true c27
           have AP := decide_eq_true c27
           clear c27
           by_cases c28 : (Ak) ≤ (a0.size : Int)
           ·
            rw [if_pos c28] at H
            have AQ := eq_true c28
            have AR := decide_eq_true c28
            clear c28
            obtain ⟨Aq, Ah⟩ : ∃ j_ : ByteArray, (a0.extract (Aa : Int).toNat ((Ak) : Int).toNat) = j_ := ⟨_, rfl⟩
            try (have Ar := Ah; simp only [Int.toNat_natCast] at Ar)
            first | rw [Ah] at H | simp only [Ah] at H | skip
            by_cases c30 : Ab.size + (Aq).size ≤ 9223372036854775807
            ·
             rw [if_pos c30] at H
             have AS := eq_true c30
             have AT := decide_eq_true c30
             try have AU : (9223372036854775807 < Ab.size + (Aq).size) = False := eq_false (Nat.not_lt.2 c30)
             have H' := Zz.mk H
             clear H
             go_wp2
             first | go_roundg kj13 | (simp only [← Ag, ← Ah]; go_roundg kj13)
             case measure => have := HK1.out; have := HJ13.out; omega
             case rel => exact ⟨(Ab ++ (Aq)), (Ak), (by first | rfl | (simp; done) | (simp only [← Ah] <;> (first | rfl | simp)) | (simp [*]; done) | (simp [wrap64]; done)), (by first | rfl | (simp; done) | (simp only [← Ag] <;> (first | rfl | simp)) | (simp [*]; done) | (simp [wrap64]; done)), H', ⟨by have := HK1.out; have := HJ13.out; omega⟩, ⟨xbl⟩⟩
            ·
             rw [if_neg c30] at H
             exact absurd H (by simp)
           ·
            rw [if_neg c28] at H
            exact absurd H (by simp)
          ·
           rw [if_neg c27] at H
           exact absurd H (by simp)
         ·
          rw [if_neg c25] at H
          exact absurd H (by simp)
   ·
    rw [if_neg c5] at H
    have As := decide_eq_false c5
    clear c5
    obtain rfl := Option.some.inj H
    go_wp2
    go_ret
    exact ⟨xre, xbl⟩
mutual
def a6 : Nat → ByteArray → Bool → List ByteArray → Option (Bool × List ByteArray)
  | 0, _, _, _ => none
  | k + 1, x0, Aa, Ab => (d6 k x0 47).bind fun Ac => (bo k Ac 0 Aa Ab)
def bo : Nat → List ByteArray → Int → Bool → List ByteArray → Option (Bool × List ByteArray)
  | 0, _, _, _, _ => none
  | k + 1, x4, x5, Ab, Aa => if x5 < (x4.length : Int) then (if 0 ≤ x5 then ((eb k (aG ByteArray.empty x4 x5) 0 true false).bind fun Ac => (if Aa.length < 8796093022208 then (bo k x4 (wrap64 (x5 + 1)) Ab (Aa ++ [Ac])) else (none))) else (none)) else (some (Ab, Aa))
end
def cH (k : Nat) (a0 : ByteArray) : Option (Bool × List ByteArray) := (some (([] : List ByteArray) : List ByteArray)).bind fun y247 => (if a0.toList = ([] : List UInt8) then (some (false, y247)) else (if 0 < (a0.size : Int) then (if (bt a0 0) = 47 then (if 1 ≤ (a0.size : Int) then (a6 k (a0.extract 1 a0.size) true y247) else (none)) else (a6 k a0 false y247)) else (none)))
def eI : Bool × List (List Nat × List Nat) := (true, [([], []), ([0], [0]), ([], []), ([], []), ([2, 3], [2, 3]), ([4], [4]), ([5], [5]), ([6], [6]), ([1, 7, 6], [1, 7]), ([0, 1, 2, 3, 4, 5, 6, 7, 8], []), ([9, 8, 8, 0, 1, 2, 3, 4, 5, 6, 7, 8], [8, 9])])
def gL : List Nat := [0, 1, 0, 0, 12, 28, 60, 124, 255, 511, 1023]
theorem gh : dF .any (nI Tryd.f10 11) = eI := by kernel_rfl
theorem fR : f5 eI.2 gL = true := by kernel_rfl
theorem gg (k : Nat) (a0 : ByteArray) (r1 : Bool) (r2 : List ByteArray) (w : World) (h : cH k a0 = some (r1, r2)) :
    Calls Tryd.prog 10 #[.string a0] w fun e w' => ∃ v1_ : Value, e = .returned (.agg #[.bool r1, v1_]) ∧ Kd.R Kd.string 9 w' w.heap.size (fun _ => True) v1_ r2 ∧ Below w.heap.size w w' := by
 have hu31 := Tryd.underlying31
 have HB := Zz.mk (Below.refl w.heap.size w)
 have H : ((some (([] : List ByteArray) : List ByteArray)).bind fun Aj => (if a0.toList = ([] : List UInt8) then (some (false, Aj)) else (if 0 < (a0.size : Int) then (if (bt a0 0) = 47 then (if 1 ≤ (a0.size : Int) then (a6 k (a0.extract 1 a0.size) true Aj) else (none)) else (a6 k a0 false Aj)) else (none)))) = some (r1, r2) := h
 clear h
 obtain ⟨Aj, Ao⟩ : ∃ y_ : List ByteArray, y_ = (([] : List ByteArray)) := ⟨_, rfl⟩
 replace H : (if a0.toList = ([] : List UInt8) then (some (false, Aj)) else (if 0 < (a0.size : Int) then (if (bt a0 0) = 47 then (if 1 ≤ (a0.size : Int) then (a6 k (a0.extract 1 a0.size) true Aj) else (none)) else (a6 k a0 false Aj)) else (none))) = some (r1, r2) := by first | (rw [Ao]; with_reducible exact H) | (have H2_ := (Option.bind_some _ _).symm.trans H; rw [Ao]; with_reducible exact H2_) | (have H2_ := (Option.bind_some _ _).symm.trans H; with_reducible exact H2_) | with_reducible exact H | (rw [Ao]; exact H) | exact H
 have As := Zz.mk Ao
 clear Ao
 by_cases c2 : a0.toList = ([] : List UInt8)
 ·
  rw [if_pos c2] at H
  have AD : (a0.toList == ([] : List UInt8)) = true := beq_iff_eq.mpr c2
  have AE : (a0.toList != ([] : List UInt8)) = false := bne_eq_false_iff_eq.mpr c2
  (try (have AS : a0.toList.isEmpty = true := by simpa using c2))
  clear c2
  simp only [Option.some.injEq, Prod.mk.injEq] at H
  obtain ⟨rfl, rfl⟩ := H
  go_enter Tryd.func10, Tryd.ntmps10
  go_wp2_with (first | ((with_reducible refine an (N := 2) rfl ?_); refine xev 2 #[.bool false, .slice none 0 0] 31 ?_; intro Af hg w3 hbox hb; have Ae := Zz.mk (hbox); have Av := xsz hg; have AF := Av; replace HB := xst hb; clear hb hbox hg) | ((with_reducible refine an (N := 6) rfl ?_); refine Kd.R_lit Kd.string _ 9 ?hg (N := 6) ?hd (xs := ([] : List ByteArray)) (inner := []) (ok := fun _ => True) (okp := fun _ => True) ?hr ?hp (fun _ hk => hk) trivial (Below.refl _ _) (Nat.le_refl _) (by simp) ?_; (case hd => rfl); (case hg => rfl); (case hr => first | (go_simp; done) | (go_simp; rfl)); (case hp => exact (Reps.none _ _)); intro v248 w4 ho5 hb hg_ hnew_; clear hg_ hnew_; (first | rw [← As.out] at ho5 | (simp only [Int.reduceToNat] at ho5; rw [← As.out] at ho5)); have Ak := Zz.mk (Kd.R_lower ho5 (aK xbl)); replace Ae := xbb (g := Af) (o := .cells #[.bool false, .slice none 0 0] 31 (0, 0)) hb; replace HB := xst hb; clear hb ho5; obtain ⟨Ao6, co6, eo6⟩ := Kd.R_slice Ak.out; subst eo6) | ((with_reducible refine an (N := 3) rfl ?_); refine xev 3 #[.bool false, .slice none 0 0] 31 ?_; intro Ah hg w7 hbox hb; have Ab := Zz.mk (hbox); have Aw := xsz hg; have AG := Aw; have Ad := xlt (g := Af) hg; have Ai := xgt (g := Af) hg; replace Ak := Zz.mk (Kd.R_below (xkd Ak) hb); replace Ae := xbb (g := Af) (o := .cells #[.bool false, .slice none 0 0] 31 (0, 0)) hb; replace HB := xst hb; clear hb hbox hg; have A4 := Ai.out; have A5 := Ad.out; obtain ⟨hcz9_0, hcz9_1⟩ := xc2 Ab; have hfz9_0 := xf Ab 0; have hfz9_1 := xf Ab 1; obtain ⟨hcz10_0, hcz10_1⟩ := xc2 Ae; have hfz10_0 := xf Ae 0; have hfz10_1 := xf Ae 1))
  refine bodyPost_ret (results_cell_row rfl _ _ Af 31 #[.bool false, .slice Ao6 Aj.length co6] (0, 0) _ rfl xbk Tryd.underlying31 rfl (by kernel_rfl)) rfl ?_
  exact ⟨_, by first | rfl | (simp [au, av] <;> first | rfl | (simp only [bK, bne, Bool.not_not]; done)) | (simp [*, au, av] <;> rfl), by (with_reducible repeat (first | apply Kd.R_alloc | apply Kd.R_drewN | apply Kd.R_drew)); exact Kd.R_mono (Kd.R_far (p := ⟨Af, 1, none⟩) (Kd.R_far (p := ⟨Af, 0, none⟩) (Kd.R_far (p := ⟨Ah, 1, none⟩) (Kd.R_far (p := ⟨Ah, 0, none⟩) (Kd.R_types (Kd.R_types Ak.out Ab.out (by decide)) Ae.out (by decide)) (fun _ hk => hk.1.2) (.bool false)) (fun _ hk => hk.1.2) (.slice Ao6 Aj.length co6)) (fun _ hk => hk.2) (.bool false)) (fun _ hk => hk.2) (.slice Ao6 Aj.length co6)) (fun _ hk => trivial), xbl⟩
 ·
  rw [if_neg c2] at H
  have AD : (a0.toList == ([] : List UInt8)) = false := beq_eq_false_iff_ne.mpr c2
  have AE : (a0.toList != ([] : List UInt8)) = true := bne_iff_ne.mpr c2
  (try (have AS : a0.toList.isEmpty = false := by simpa using c2))
  by_cases c11 : 0 < (a0.size : Int)
  ·
   rw [if_pos c11] at H
   have AH := decide_eq_true c11
   have AI : decide (0 < a0.size) = true := decide_eq_true (by omega)
   clear c11
   have AB := Zz.mk H
   clear H
   go_enter Tryd.func10, Tryd.ntmps10
   go_upto_if 13 with (first | ((with_reducible refine an (N := 2) rfl ?_); refine xev 2 #[.bool false, .slice none 0 0] 31 ?_; intro Af hg w14 hbox hb; have Ae := Zz.mk (hbox); have Av := xsz hg; have AF := Av; replace HB := xst hb; clear hb hbox hg) | ((with_reducible refine an (N := 6) rfl ?_); refine Kd.R_lit Kd.string _ 9 ?hg (N := 6) ?hd (xs := ([] : List ByteArray)) (inner := []) (ok := fun _ => True) (okp := fun _ => True) ?hr ?hp (fun _ hk => hk) trivial (Below.refl _ _) (Nat.le_refl _) (by simp) ?_; (case hd => rfl); (case hg => rfl); (case hr => first | (go_simp; done) | (go_simp; rfl)); (case hp => exact (Reps.none _ _)); intro v248 w15 ho16 hb hg_ hnew_; clear hg_ hnew_; (first | rw [← As.out] at ho16 | (simp only [Int.reduceToNat] at ho16; rw [← As.out] at ho16)); have Ak := Zz.mk (Kd.R_lower ho16 (aK xbl)); replace Ae := xbb (g := Af) (o := .cells #[.bool false, .slice none 0 0] 31 (0, 0)) hb; replace HB := xst hb; clear hb ho16; obtain ⟨Ao17, co17, eo17⟩ := Kd.R_slice Ak.out; subst eo17) | ((with_reducible refine an (N := 3) rfl ?_); refine xev 3 #[.bool false, .slice none 0 0] 31 ?_; intro Ah hg w18 hbox hb; have Ab := Zz.mk (hbox); have Aw := xsz hg; have AG := Aw; have Ad := xlt (g := Af) hg; have Ai := xgt (g := Af) hg; replace Ak := Zz.mk (Kd.R_below (xkd Ak) hb); replace Ae := xbb (g := Af) (o := .cells #[.bool false, .slice none 0 0] 31 (0, 0)) hb; replace HB := xst hb; clear hb hbox hg; have AU := Ai.out; have AV := Ad.out; obtain ⟨hcz20_0, hcz20_1⟩ := xc2 Ab; have hfz20_0 := xf Ab 0; have hfz20_1 := xf Ab 1; have p12 : 0 ≤ (0 : Int) := (by omega); have q12 : 0 < a0.size := (by have : (0 : Int) < (a0.size : Int) := xod; omega); have hx12 : ∀ h : 0 < a0.size, ((a0[0]'h).toNat : Int) = bt a0 0 := ar a0 0; clear p12; have AJ : (0 < (a0.size : Int)) = True := eq_true (xod); replace q12 := eq_true q12))
   (try simp only [Act.put, List.setIfInBounds_toArray, List.set_cons_zero, List.set_cons_succ])
   go_cut [0] (fun v0 wc => ∃ (kq : Nat) (Ap : ByteArray) (Ac : Bool), v0 = .string Ap ∧ Zz (a6 kq Ap Ac Aj = some (r1, r2)) ∧ Zz (kq ≤ k) ∧ Zz (Kd.R Kd.string 9 wc w.heap.size (fun _ => True) (.slice Ao17 Aj.length co17) Aj) ∧ Zz (wc.heap[Af]? = some (.cells #[.bool false, (.slice none 0 0)] 31 (0, 0))) ∧ Zz (wc.heap[Ah]? = some (.cells #[.bool Ac, (.slice Ao17 Aj.length co17)] 31 (0, 0))) ∧ Zz (Below w.heap.size w wc))
   case first =>
    have H := AB.out
    clear AB
    by_cases c21 : (bt a0 0) = 47
    ·
     rw [if_pos c21] at H
     have Aq : ((bt a0 0) == 47) = true := beq_iff_eq.mpr c21
     have AK : ((bt a0 0) != 47) = false := bne_eq_false_iff_eq.mpr c21
     clear c21
     (first | rw [Aq] | (simp only [ap, aw]; rw [Aq]) | (rw [AL]; (try simp only [Bool.not_false, Bool.not_true])) | (rw [AM]; (try simp only [Bool.not_false, Bool.not_true])) | skip)
     by_cases c22 : 1 ≤ (a0.size : Int)
     ·
      rw [if_pos c22] at H
      have AW := eq_true c22
      have AX := decide_eq_true c22
      clear c22
      obtain ⟨AT, At⟩ : ∃ j_ : ByteArray, (a0.extract 1 a0.size) = j_ := ⟨_, rfl⟩
      try (have AC := At; simp only [Int.toNat_natCast] at AC)
      first | rw [At] at H | simp only [At] at H | skip
      have H' := Zz.mk H
      clear H
      have AY := Ai.out
      have AZ := Ad.out
      obtain ⟨hcz25_0, hcz25_1⟩ := xc2 Ab
      have hfz25_0 := xf Ab 0
      have hfz25_1 := xf Ab 1
      go_wp2
      go_meet
      case rel => exact ⟨_, (AT), (true), (by first | rfl | (simp; done) | (simp only [← At] <;> (first | rfl | simp)) | (simp [*]; done) | (simp [wrap64]; done)), H', ⟨xom⟩, ⟨by (with_reducible repeat (first | apply Kd.R_alloc | apply Kd.R_drewN | apply Kd.R_drew)); exact Kd.R_mono (Kd.R_far (p := ⟨Ah, 0, none⟩) (Kd.R_far (p := ⟨Ah, 1, none⟩) (Kd.R_far (p := ⟨Ah, 0, none⟩) (Kd.R_types Ak.out Ab.out (by decide)) (fun _ hk => hk.2) (.bool false)) (fun _ hk => hk.2) (.slice Ao17 Aj.length co17)) (fun _ hk => hk.2) (.bool true)) (fun _ hk => trivial)⟩, ⟨by (with_reducible repeat (first | refine ai ?_ _ | refine ak ?_ | refine ah ?_ _)); refine cJ ?_ Ad.out _; (with_reducible repeat (first | refine ai ?_ _ | refine ak ?_ | refine ah ?_ _)); refine cJ ?_ Ad.out _; (with_reducible repeat (first | refine ai ?_ _ | refine ak ?_ | refine ah ?_ _)); refine cJ ?_ Ad.out _; (with_reducible repeat (first | refine ai ?_ _ | refine ak ?_ | refine ah ?_ _)); exact Ae.out⟩, ⟨by (with_reducible repeat (first | refine ai ?_ _ | refine ak ?_ | refine ah ?_ _)); refine aj (cs := #[.bool false, .slice Ao17 Aj.length co17]) ?_ 0 _ rfl; (with_reducible repeat (first | refine ai ?_ _ | refine ak ?_ | refine ah ?_ _)); refine aj (cs := #[.bool false, .slice none 0 0]) ?_ 1 _ rfl; (with_reducible repeat (first | refine ai ?_ _ | refine ak ?_ | refine ah ?_ _)); refine aj (cs := #[.bool false, .slice none 0 0]) ?_ 0 _ rfl; (with_reducible repeat (first | refine ai ?_ _ | refine ak ?_ | refine ah ?_ _)); exact Ab.out⟩, ⟨xbl⟩⟩
     ·
      rw [if_neg c22] at H
      exact absurd H (by simp)
    ·
     rw [if_neg c21] at H
     have Aq : ((bt a0 0) == 47) = false := beq_eq_false_iff_ne.mpr c21
     have AK : ((bt a0 0) != 47) = true := bne_iff_ne.mpr c21
     (first | rw [Aq] | (simp only [ap, aw]; rw [Aq]) | (rw [AL]; (try simp only [Bool.not_false, Bool.not_true])) | (rw [AM]; (try simp only [Bool.not_false, Bool.not_true])) | skip)
     have H' := Zz.mk H
     clear H
     go_wp2
     go_meet
     case rel => exact ⟨_, (a0), (false), xrr, H', ⟨xom⟩, ⟨by (with_reducible repeat (first | apply Kd.R_alloc | apply Kd.R_drewN | apply Kd.R_drew)); exact Kd.R_mono (Kd.R_far (p := ⟨Ah, 1, none⟩) (Kd.R_far (p := ⟨Ah, 0, none⟩) (Kd.R_types Ak.out Ab.out (by decide)) (fun _ hk => hk.2) (.bool false)) (fun _ hk => hk.2) (.slice Ao17 Aj.length co17)) (fun _ hk => trivial)⟩, ⟨by (with_reducible repeat (first | refine ai ?_ _ | refine ak ?_ | refine ah ?_ _)); refine cJ ?_ Ad.out _; (with_reducible repeat (first | refine ai ?_ _ | refine ak ?_ | refine ah ?_ _)); refine cJ ?_ Ad.out _; (with_reducible repeat (first | refine ai ?_ _ | refine ak ?_ | refine ah ?_ _)); exact Ae.out⟩, ⟨by (with_reducible repeat (first | refine ai ?_ _ | refine ak ?_ | refine ah ?_ _)); refine aj (cs := #[.bool false, .slice none 0 0]) ?_ 1 _ rfl; (with_reducible repeat (first | refine ai ?_ _ | refine ak ?_ | refine ah ?_ _)); refine aj (cs := #[.bool false, .slice none 0 0]) ?_ 0 _ rfl; (with_reducible repeat (first | refine ai ?_ _ | refine ak ?_ | refine ah ?_ _)); exact Ab.out⟩, ⟨xbl⟩⟩
   case rest =>
    clear AB
    clear AD AE AH AI
    try clear p12
    try clear q12
    try clear hx12
    try clear AJ
    obtain ⟨kq, Ap, Ac, rfl, HA, HJ12, Aa, Ae, Ab, HB⟩ := hcut
    cases kq with
    | zero => exact absurd HA.out (by simp [a6])
    | succ kj12 =>
     have H := HA.out
     clear HA
     simp only [a6] at H
     replace H := Option.bind_eq_some_iff.mp H
     obtain ⟨An, A260, H⟩ := H
     try dsimp only at H
     have A26 := Zz.mk A260
     clear A260
     have H' := Zz.mk H
     clear H
     go_wp2_with (first | ((with_reducible refine ae (f := 29) rfl ?_); refine xgl 18 Tryd.func29 #[.string Ap, .int .u8 47] ?_; (with_reducible refine (gf kj12 Ap 47 An _ A26.out).mono ?_); rintro e w27 ⟨v252, rfl, ho0, hb⟩; refine ⟨_, rfl, ?_⟩; have AN := Zz.mk (Kd.R_lower (Kd.R_new' ho0 (Kd.R_lt (xkd Aa))) (aK xbl)); replace Aa := Zz.mk (Kd.R_elder' (xkd Aa) (Kd.R_base ho0) hb); replace Ae := xbb (g := Af) (o := .cells #[.bool false, .slice none 0 0] 31 (0, 0)) hb; replace Ab := xbb (g := Ah) (o := .cells #[.bool Ac, .slice Ao17 Aj.length co17] 31 (0, 0)) hb; replace HB := xst hb; (try clear hb); (try clear ho0)))
     go_loopg [5] kj12 (fun kq v5 w' => ∃ (Am : Int) (Ag : List ByteArray) (u251001 : Value), v5 = .int .i64 Am ∧ Zz (bo kq An Am Ac Ag = some (r1, r2)) ∧ Zz (kq ≤ kj12) ∧ Zz (Kd.R Kd.string 9 w' w.heap.size (fun k_ => some k_ ≠ (u251001 : Value).ownBlock) v252 An) ∧ Zz (Kd.R Kd.string 9 w' w.heap.size (fun k_ => some k_ ≠ (v252 : Value).ownBlock) u251001 Ag) ∧ Zz (w'.heap[Af]? = some (.cells #[.bool false, (.slice none 0 0)] 31 (0, 0))) ∧ Zz (w'.heap[Ah]? = some (.cells #[.bool Ac, u251001] 31 (0, 0))) ∧ Zz (Below w.heap.size w w'))
     case atStart => exact ⟨(0), (Aj), (.slice Ao17 Aj.length co17), xrr, H', ⟨Nat.le_refl _⟩, ⟨by (with_reducible repeat (first | apply Kd.R_alloc | apply Kd.R_drewN | apply Kd.R_drew)); exact Kd.R_mono AN.out (fun _ hk => hk.2)⟩, ⟨by (with_reducible repeat (first | apply Kd.R_alloc | apply Kd.R_drewN | apply Kd.R_drew)); exact Kd.R_mono Aa.out (fun _ hk => hk.2)⟩, ⟨xbk⟩, ⟨xbk⟩, ⟨xbl⟩⟩
     case round =>
      clear H'
      try clear p12
      try clear q12
      try clear hx12
      try clear AJ
      obtain ⟨Am, Ag, u251001, rfl, HA, HK2, Al, Aa, Ae, Ab, HB⟩ := hrel
      cases gk with
      | zero => exact absurd HA.out (by simp [bo])
      | succ k2 =>
       have H := HA.out
       clear HA
       simp only [bo] at H
       by_cases c28 : Am < (An.length : Int)
       ·
        rw [if_pos c28] at H
        have AO := decide_eq_true c28
        clear c28
        by_cases c29 : 0 ≤ Am
        ·
         rw [if_pos c29] at H
         have A0 := decide_eq_true c29
         clear c29
         replace H := Option.bind_eq_some_iff.mp H
         obtain ⟨Ay, A300, H⟩ := H
         try dsimp only at H
         have A30 := Zz.mk A300
         clear A300
         by_cases c31 : Ag.length < 8796093022208
         ·
          rw [if_pos c31] at H
          have LMc31 := Zz.mk c31
          clear c31
          obtain ⟨Ax, Ar⟩ : ∃ y_ : List ByteArray, y_ = (Ag ++ [Ay]) := ⟨_, rfl⟩
          replace H : (bo k2 An (wrap64 (Am + 1)) Ac Ax) = some (r1, r2) := by first | (rw [Ar]; with_reducible exact H) | (have H2_ := (Option.bind_some _ _).symm.trans H; rw [Ar]; with_reducible exact H2_) | (have H2_ := (Option.bind_some _ _).symm.trans H; with_reducible exact H2_) | with_reducible exact H | (rw [Ar]; exact H) | exact H
          have AP := Zz.mk Ar
          clear Ar
          have H' := Zz.mk H
          clear H
          obtain ⟨Ao32, co32, eo32⟩ := Kd.R_slice Al.out
          subst eo32
          try go_wp2
          have n0_ := Zz.mk (Kd.R_drew Al.out)
          have n1_ := Zz.mk (Kd.R_drew Aa.out)
          have n2_ := Zz.mk (ak Ae.out)
          have n3_ := Zz.mk (ak Ab.out)
          have n4_ := Zz.mk (dn HB.out)
          clear Al
          clear Aa
          clear Ae
          clear Ab
          clear HB
          have Al := n0_
          have Aa := n1_
          have Ae := n2_
          have Ab := n3_
          have HB := n4_
          clear n0_ n1_ n2_ n3_ n4_
          have p254 : 0 ≤ (Am : Int) := xod
          have q254 : Am < (An.length : Int) := xod
          obtain ⟨Az, e254, Au⟩ := Kd.at_string (Kd.R_reads' Al.out).2.2 Am p254 q254
          cases e254
          replace p254 := eq_true p254
          replace q254 := eq_true q254
          try (have AQ := q254; simp only [ByteArray.size_extract, Nat.min_self] at AQ)
          refine kp (n := 11) (S := fun w' => w'.cell? ⟨Ah, 0, none⟩ = some (.bool Ac) ∧ w'.cell? ⟨Ah, 1, none⟩ = some (u251001) ∧ w'.cell? (Az.add (Am).toNat) = some (.string (aG ByteArray.empty An Am))) (ds := [8, 10]) #[false, false, false, false, false, false, false, false, false, false, false] (by kernel_rfl) rfl rfl ⟨(aX Ab.out 0).trans rfl, (aX Ab.out 1).trans rfl, Au⟩ (fun hHeld => ?_); refine jM gh fR (fun HT_ HW_ => ?_)
          generalize wr.drew = w33 at Al Aa Ae Ab HB Au hHeld ⊢
          refine cT (i := 0) (N := some 25) (v := ?_) (a' := ?_) #[true, false, false, false, false, false, false, false, false, false, false] rfl rfl (cU HT_.out (by kernel_rfl)) (fun _ _ _ h => h) (Or.inl ⟨by rfl, ?_⟩) ?_ ?_
          rotate_left
          ·
           intro w'
           go_simp
           with_reducible rfl
          rotate_left
          ·
           simp only [Act.put, List.setIfInBounds_toArray, List.set_cons_zero, List.set_cons_succ, ap, aw]
           rfl
          refine cT (i := 2) (N := some 27) (v := ?_) (a' := ?_) #[true, false, true, false, false, false, false, false, false, false, false] rfl rfl (cU HT_.out (by kernel_rfl)) (fun _ _ _ h => h) (Or.inl ⟨by rfl, ?_⟩) ?_ ?_
          rotate_left
          ·
           intro w'
           go_simp
           with_reducible rfl
          rotate_left
          ·
           simp only [Act.put, List.setIfInBounds_toArray, List.set_cons_zero, List.set_cons_succ, ap, aw]
           rfl
          refine cT (i := 3) (N := some 28) (v := ?_) (a' := ?_) #[true, false, true, true, false, false, false, false, false, false, false] rfl rfl (cU HT_.out (by kernel_rfl)) (fun _ _ _ h => h) (Or.inl ⟨by rfl, ?_⟩) ?_ ?_
          rotate_left
          ·
           intro w'
           go_simp
           with_reducible rfl
          rotate_left
          ·
           simp only [Act.put, List.setIfInBounds_toArray, List.set_cons_zero, List.set_cons_succ, ap, aw]
           rfl
          refine cT (i := 4) (N := some 29) (v := ?_) (a' := ?_) #[true, false, true, true, true, false, false, false, false, false, false] rfl rfl (cU HT_.out (by kernel_rfl)) (fun _ _ _ h => h) (Or.inl ⟨by rfl, ?_⟩) ?_ ?_
          rotate_left
          ·
           intro w'
           go_simp
           with_reducible rfl
          rotate_left
          ·
           simp only [Act.put, List.setIfInBounds_toArray, List.set_cons_zero, List.set_cons_succ, ap, aw]
           rfl
          refine take_ (i := 1) (N := some 26) (v := ?_) (a' := ?_) #[true, true, true, true, true, false, false, false, false, false, false] rfl rfl (iY HT_.out HW_.out (by kernel_rfl)) (fun _ _ _ h => h) (Or.inl ⟨by rfl, ?_⟩) hHeld ?_ ?_
          rotate_left
          ·
           rintro w' ⟨s0, s1, s2⟩
           go_simp
           with_reducible rfl
          rotate_left
          ·
           simp only [Act.put, List.setIfInBounds_toArray, List.set_cons_zero, List.set_cons_succ, ap, aw]
           rfl
          refine take_ (i := 5) (N := some 30) (v := ?_) (a' := ?_) #[true, true, true, true, true, true, false, false, false, false, false] rfl rfl (iY HT_.out HW_.out (by kernel_rfl)) (fun _ _ _ h => h) (Or.inl ⟨by rfl, ?_⟩) hHeld ?_ ?_
          rotate_left
          ·
           rintro w' ⟨s0, s1, s2⟩
           go_simp
           with_reducible rfl
          rotate_left
          ·
           simp only [Act.put, List.setIfInBounds_toArray, List.set_cons_zero, List.set_cons_succ, ap, aw]
           rfl
          refine nj (i := 6) (N := some 31) #[true, true, true, true, true, true, true, false, false, false, false] rfl rfl (ir HT_.out (by kernel_rfl)) (by decide) (fun K hK => ?_)
          refine oQ Tryd.func30 (by kernel_rfl) rfl #[.string (aG ByteArray.empty An Am), .int .i64 0, .bool true, .bool false] (by rfl) rfl rfl (by (try simp only [List.map_toArray, List.map_cons, List.map_nil]); first | done | rfl | (simp only [List.length_drop, List.length_take]; rfl)) ?_
          with_reducible refine (gt k2 (aG ByteArray.empty An Am) 0 true false Ay _ A30.out).mono ?_
          rintro e w34 ⟨rfl, hb⟩
          have HS2_ := (hb.cell (World.block_lt_of_cell? _ _ (hHeld.2.2))).trans (hHeld.2.2)
          refine ⟨_, rfl, ?_⟩
          have n0_ := Zz.mk (Kd.R_below (xkd Al) hb)
          have n1_ := Zz.mk (Kd.R_below (xkd Aa) hb)
          have n2_ := xbb (g := Af) (o := .cells #[.bool false, .slice none 0 0] 31 (0, 0)) hb
          have n3_ := xbb (g := Ah) (o := .cells #[.bool Ac, u251001] 31 (0, 0)) hb
          have n4_ := xst hb
          clear Al
          clear Aa
          clear Ae
          clear Ab
          clear HB
          have Al := n0_
          have Aa := n1_
          have Ae := n2_
          have Ab := n3_
          have HB := n4_
          clear n0_ n1_ n2_ n3_ n4_
          (try clear hb)
          (try clear hb2)
          (try clear hk)
          (try clear hi)
          refine hK.out _ _ ⟨(aX Ab.out 0).trans rfl, (aX Ab.out 1).trans rfl, HS2_⟩ (fun hHeld => ?_)
          clear hK K
          refine k8 (a' := ?_) ?_ ?_
          rotate_left
          ·
           show Act.put _ (some 31) _ = _
           simp only [Act.put, List.setIfInBounds_toArray, List.set_cons_zero, List.set_cons_succ, ap, aw]
           rfl
          refine nj (i := 7) (N := some 32) #[true, true, true, true, true, true, true, true, false, false, false] rfl rfl (ir HT_.out (by kernel_rfl)) (by decide) (fun K hK => ?_)
          refine oK (w1 := ?_) (v := ?_) (by rfl) rfl ?_ ?_
          rotate_left 2
          ·
           go_simp
           constructor
           ·
            rfl
           ·
            rfl
          refine hK.out _ _ ⟨(aX (ah Ab.out _) 0).trans rfl, (aX (ah Ab.out _) 1).trans rfl, (World.cell?_alloc_lt _ _ _ (World.block_lt_of_cell? _ _ (hHeld.2.2))).trans (hHeld.2.2)⟩ (fun hHeld => ?_)
          clear hK K
          refine k8 (a' := ?_) ?_ ?_
          rotate_left
          ·
           show Act.put _ (some 32) _ = _
           simp only [Act.put, List.setIfInBounds_toArray, List.set_cons_zero, List.set_cons_succ, ap, aw]
           rfl
          refine k7 (i := 8) (N := some 33) #[true, true, true, true, true, true, true, true, true, false, false] rfl rfl (ir HT_.out (by kernel_rfl)) (by decide) (fun K hK => ?_)
          refine Kd.R_append_step Kd.string (w0 := w) w.heap.size (by rfl) (.tmp 26) (.tmp 32) 23 9 (.string ⟨#[]⟩) 16 rfl Tryd.underlying23 jU rfl (by decide) (by omega) u251001 Ag Ay [.string Ay] (fun k_ => some k_ ≠ (.slice (some Az) An.length co32 : Value).ownBlock) (fun _ => False) rfl rfl ?aP (fun _ hk => hk.elim) ?aF ?aO ?aB ?aS ?aL ?_
          (case aP => exact rfl)
          (case aB => exact xbl)
          (case aF => exact (fun k_ hk => Kd.fresh' (Kd.R_lt (xkd Al)) k_ hk))
          (case aO => exact (xkd Aa))
          (case aS => exact (aK xbl))
          (case aL => have := LMc31.out; first | omega | exact Nat.le_of_lt this)
          intro v257 w35 ho hb hg hat
          rw [← AP.out] at ho
          have n0_ := Zz.mk (Kd.R_after (ok := (fun _ => True)) (by (with_reducible repeat (first | apply Kd.R_alloc | apply Kd.R_drewN | apply Kd.R_drew)); exact Kd.R_mono Al.out (fun _ hk => ⟨trivial, hk⟩)) hg hat)
          have n1_ := Zz.mk (fv (g := Af) (o := .cells #[.bool false, .slice none 0 0] 31 (0, 0)) xbk hg (Kd.R_ne Aa.out Ae.out (by decide)))
          have n2_ := Zz.mk (fv (g := Ah) (o := .cells #[.bool Ac, u251001] 31 (0, 0)) xbk hg (Kd.R_ne Aa.out Ab.out (by decide)))
          have n3_ := Zz.mk (hb)
          have n4_ := Zz.mk (ho)
          clear Al
          clear Ae
          clear Ab
          clear HB
          clear Aa
          have Al := n0_
          have Ae := n1_
          have Ab := n2_
          have HB := n3_
          have AA := n4_
          clear n0_ n1_ n2_ n3_ n4_
          clear ho hb hg hat
          obtain ⟨Ao36, co36, eo36⟩ := Kd.R_slice AA.out
          (first | subst eo36 | (injection eo36 with f1_ f2_ f3_; have f4_ := f1_.symm; have f5_ := f3_.symm; clear f1_ f2_ f3_; subst f4_; subst f5_))
          refine hK.out _ _ ?_
          clear hK K
          refine k8 (a' := ?_) ?_ ?_
          rotate_left
          ·
           show Act.put _ (some 33) _ = _
           simp only [Act.put, List.setIfInBounds_toArray, List.set_cons_zero, List.set_cons_succ, ap, aw]
           rfl
          refine cT (i := 9) (N := some 34) (v := ?_) (a' := ?_) #[true, true, true, true, true, true, true, true, true, true, false] rfl rfl (cU HT_.out (by kernel_rfl)) (fun _ _ _ h => h) (Or.inl ⟨by rfl, ?_⟩) ?_ ?_
          rotate_left
          ·
           intro w'
           go_simp
           with_reducible rfl
          rotate_left
          ·
           simp only [Act.put, List.setIfInBounds_toArray, List.set_cons_zero, List.set_cons_succ, ap, aw]
           rfl
          refine k7 (i := 10) (N := none) #[true, true, true, true, true, true, true, true, true, true, true] rfl rfl (ir HT_.out (by kernel_rfl)) (by decide) (fun K hK => ?_)
          have hs37 : w35.cell? ⟨Ah, 1, none⟩ = some (u251001) := (aX Ab.out 1).trans rfl
          have A1 := xf Ab 1
          have AR := Ad.out
          have hms37_0 := Ai.out
          refine lm (w1 := ?_) (by rfl) rfl ?_ ?_
          rotate_left
          ·
           go_simp
           rfl
          refine hK.out _ _ ?_
          clear hK K
          refine k0 (kE HT_.out (by kernel_rfl)) ?_
          try go_wp2
          go_roundg k2
          case measure => have := HJ12.out; have := HK2.out; omega
          case rel => exact ⟨(wrap64 (Am + 1)), (Ax), (.slice Ao36 Ax.length co36), xrr, H', ⟨by have := HJ12.out; have := HK2.out; omega⟩, ⟨by (with_reducible repeat (first | apply Kd.R_alloc | apply Kd.R_drewN | apply Kd.R_drew)); exact Kd.R_mono (Kd.R_far (p := ⟨Ah, 1, none⟩) (Kd.R_types Al.out Ab.out (by decide)) (fun _ hk => hk.2) (.slice Ao36 Ax.length co36)) (fun _ hk => hk.1.2)⟩, ⟨by (with_reducible repeat (first | apply Kd.R_alloc | apply Kd.R_drewN | apply Kd.R_drew)); exact Kd.R_mono (Kd.R_far (p := ⟨Ah, 1, none⟩) (Kd.R_types AA.out Ab.out (by decide)) (fun _ hk => hk.2) (.slice Ao36 Ax.length co36)) (fun _ hk => hk.1)⟩, ⟨by (with_reducible repeat (first | refine ai ?_ _ | refine ak ?_ | refine ah ?_ _)); refine cJ ?_ Ad.out _; (with_reducible repeat (first | refine ai ?_ _ | refine ak ?_ | refine ah ?_ _)); exact Ae.out⟩, ⟨by (with_reducible repeat (first | refine ai ?_ _ | refine ak ?_ | refine ah ?_ _)); refine aj (cs := #[.bool Ac, u251001]) ?_ 1 _ rfl; (with_reducible repeat (first | refine ai ?_ _ | refine ak ?_ | refine ah ?_ _)); exact Ab.out⟩, ⟨xbl⟩⟩
         ·
          rw [if_neg c31] at H
          exact absurd H (by simp)
        ·
         rw [if_neg c29] at H
         exact absurd H (by simp)
       ·
        rw [if_neg c28] at H
        have AO := decide_eq_false c28
        clear c28
        simp only [Option.some.injEq, Prod.mk.injEq] at H
        obtain ⟨rfl, rfl⟩ := H
        obtain ⟨Ao38, co38, eo38⟩ := Kd.R_slice Al.out
        subst eo38
        have A2 := Ai.out
        have A3 := Ad.out
        obtain ⟨hcz40_0, hcz40_1⟩ := xc2 Ab
        have hfz40_0 := xf Ab 0
        have hfz40_1 := xf Ab 1
        obtain ⟨hcz41_0, hcz41_1⟩ := xc2 Ae
        have hfz41_0 := xf Ae 0
        have hfz41_1 := xf Ae 1
        obtain ⟨Ao42, co42, eo42⟩ := Kd.R_slice Aa.out
        subst eo42
        go_wp2
        refine bodyPost_ret (results_cell_row rfl _ _ Af 31 #[.bool Ac, .slice Ao42 Ag.length co42] (0, 0) _ rfl xbk Tryd.underlying31 rfl (by kernel_rfl)) rfl ?_
        exact ⟨_, by first | rfl | (simp [au, av] <;> first | rfl | (simp only [bK, bne, Bool.not_not]; done)) | (simp [*, au, av] <;> rfl), by (with_reducible repeat (first | apply Kd.R_alloc | apply Kd.R_drewN | apply Kd.R_drew)); exact Kd.R_mono (Kd.R_far (p := ⟨Af, 1, none⟩) (Kd.R_far (p := ⟨Af, 0, none⟩) (Kd.R_types Aa.out Ae.out (by decide)) (fun _ hk => hk.2) (.bool Ac)) (fun _ hk => hk.2) (.slice Ao42 Ag.length co42)) (fun _ hk => trivial), xbl⟩
  ·
   rw [if_neg c11] at H
   exact absurd H (by simp)
def bu : Nat → List ByteArray → List ByteArray → Int → Option (Bool)
  | 0, _, _, _ => none
  | k + 1, x0, x1, x5 => if x5 < (x0.length : Int) then (if 0 ≤ x5 then (if x5 < (x1.length : Int) then (if (aG ByteArray.empty x0 x5).toList = (aG ByteArray.empty x1 x5).toList then (bu k x0 x1 (wrap64 (x5 + 1))) else (some false)) else (none)) else (none)) else (some true)
def cQ (k : Nat) (l0 : List ByteArray) (l1 : List ByteArray) : Option (Bool) := if (l0.length : Int) = (l1.length : Int) then (bu k l0 l1 0) else (some false)
theorem gx (k : Nat) (A0 : Option Addr) (c0 : Nat) (l0 : List ByteArray) (A1 : Option Addr) (c1 : Nat) (l1 : List ByteArray) (r : Bool) (w : World) (hr0 : Kd.C Kd.string w A0 l0.length l0) (hc0 : l0.length ≤ c0) (hr1 : Kd.C Kd.string w A1 l1.length l1) (hc1 : l1.length ≤ c1) (h : cQ k l0 l1 = some r) :
    Calls Tryd.prog 12 #[.slice A0 l0.length c0, .slice A1 l1.length c1] w fun e w' => e = .returned (.bool r) ∧ Drawn0 w w' := by
 have HR0 := Zz.mk hr0
 have Ap := Zz.mk hc0
 clear hr0 hc0
 have HR1 := Zz.mk hr1
 have Aq := Zz.mk hc1
 clear hr1 hc1
 have H : (if (l0.length : Int) = (l1.length : Int) then (bu k l0 l1 0) else (some false)) = some r := h
 clear h
 by_cases c3 : (l0.length : Int) = (l1.length : Int)
 ·
  rw [if_pos c3] at H
  have Af : ((l0.length : Int) == (l1.length : Int)) = true := beq_iff_eq.mpr c3
  have Ag : ((l0.length : Int) != (l1.length : Int)) = false := bne_eq_false_iff_eq.mpr c3
  have Ah : (l0.length == l1.length) = true := by first | simpa using c3 | (simp at c3 ⊢; omega)
  clear c3
  have H' := Zz.mk H
  clear H
  go_enter Tryd.func12, Tryd.ntmps12
  go_wp2
  repeat (go_quiet (fail); try go_wp2)
  go_loopg [5] k (fun kq v5 w' => ∃ (Aa : Int), v5 = .int .i64 Aa ∧ Zz (bu kq l0 l1 Aa = some r) ∧ Zz (kq ≤ k) ∧ Drawn0 w w')
  case atStart => exact ⟨(0), xrr, H', ⟨Nat.le_refl _⟩, xdr⟩
  case round =>
   clear H'
   clear Af Ag Ah
   obtain ⟨Aa, rfl, HA, HK1, ⟨m1, rfl⟩⟩ := hrel
   cases gk with
   | zero => exact absurd HA.out (by simp [bu])
   | succ k1 =>
    have H := HA.out
    clear HA
    simp only [bu] at H
    by_cases c4 : Aa < (l0.length : Int)
    ·
     rw [if_pos c4] at H
     have Ak := decide_eq_true c4
     clear c4
     by_cases c5 : 0 ≤ Aa
     ·
      rw [if_pos c5] at H
      have An := decide_eq_true c5
      clear c5
      by_cases c6 : Aa < (l1.length : Int)
      ·
       rw [if_pos c6] at H
       have Ao := decide_eq_true c6
       clear c6
       by_cases c7 : (aG ByteArray.empty l0 Aa).toList = (aG ByteArray.empty l1 Aa).toList
       ·
        rw [if_pos c7] at H
        have Al : ((aG ByteArray.empty l0 Aa).toList == (aG ByteArray.empty l1 Aa).toList) = true := beq_iff_eq.mpr c7
        have Am : ((aG ByteArray.empty l0 Aa).toList != (aG ByteArray.empty l1 Aa).toList) = false := bne_eq_false_iff_eq.mpr c7
        clear c7
        have H' := Zz.mk H
        clear H
        have p259 : 0 ≤ (Aa : Int) := xod
        have q259 : Aa < (l0.length : Int) := xod
        obtain ⟨Ai, e259, Ad⟩ := Kd.at_string HR0.out Aa p259 q259
        cases e259
        replace p259 := eq_true p259
        replace q259 := eq_true q259
        try (have Ab := q259; simp only [ByteArray.size_extract, Nat.min_self] at Ab)
        have p260 : 0 ≤ (Aa : Int) := xod
        have q260 : Aa < (l1.length : Int) := xod
        obtain ⟨Aj, e260, Ae⟩ := Kd.at_string HR1.out Aa p260 q260
        cases e260
        replace p260 := eq_true p260
        replace q260 := eq_true q260
        try (have Ac := q260; simp only [ByteArray.size_extract, Nat.min_self] at Ac)
        go_wp2
        repeat (go_quiet (fail); try go_wp2)
        go_roundg k1
        case measure => have := HK1.out; omega
        case rel => exact ⟨(wrap64 (Aa + 1)), xrr, H', ⟨by have := HK1.out; omega⟩, xdr⟩
       ·
        rw [if_neg c7] at H
        have Al : ((aG ByteArray.empty l0 Aa).toList == (aG ByteArray.empty l1 Aa).toList) = false := beq_eq_false_iff_ne.mpr c7
        have Am : ((aG ByteArray.empty l0 Aa).toList != (aG ByteArray.empty l1 Aa).toList) = true := bne_iff_ne.mpr c7
        obtain rfl := Option.some.inj H
        have p259 : 0 ≤ (Aa : Int) := xod
        have q259 : Aa < (l0.length : Int) := xod
        obtain ⟨Ai, e259, Ad⟩ := Kd.at_string HR0.out Aa p259 q259
        cases e259
        replace p259 := eq_true p259
        replace q259 := eq_true q259
        try (have Ab := q259; simp only [ByteArray.size_extract, Nat.min_self] at Ab)
        have p260 : 0 ≤ (Aa : Int) := xod
        have q260 : Aa < (l1.length : Int) := xod
        obtain ⟨Aj, e260, Ae⟩ := Kd.at_string HR1.out Aa p260 q260
        cases e260
        replace p260 := eq_true p260
        replace q260 := eq_true q260
        try (have Ac := q260; simp only [ByteArray.size_extract, Nat.min_self] at Ac)
        go_wp2
        repeat (go_quiet (fail); try go_wp2)
        go_ret
        exact ⟨xrr, xdr⟩
      ·
       rw [if_neg c6] at H
       exact absurd H (by simp)
     ·
      rw [if_neg c5] at H
      exact absurd H (by simp)
    ·
     rw [if_neg c4] at H
     have Ak := decide_eq_false c4
     clear c4
     obtain rfl := Option.some.inj H
     go_wp2
     repeat (go_quiet (fail); try go_wp2)
     go_ret
     exact ⟨xrr, xdr⟩
 ·
  rw [if_neg c3] at H
  have Af : ((l0.length : Int) == (l1.length : Int)) = false := beq_eq_false_iff_ne.mpr c3
  have Ag : ((l0.length : Int) != (l1.length : Int)) = true := bne_iff_ne.mpr c3
  have Ah : (l0.length == l1.length) = false := by first | simpa using c3 | (simp at c3 ⊢; omega)
  obtain rfl := Option.some.inj H
  go_enter Tryd.func12, Tryd.ntmps12
  go_wp2
  repeat (go_quiet (fail); try go_wp2)
  go_ret
  exact ⟨xrr, xdr⟩
def dh (a0_0 : Bool) (l0_1 : List ByteArray) : Option (Bool) := if a0_0 = true then (some (decide ((l0_1.length : Int) > 0))) else (if (l0_1.length : Int) = 0 then (some true) else (if 0 < (l0_1.length : Int) then (some ((aG ByteArray.empty l0_1 0).toList != ([] : List UInt8))) else (none)))
theorem gZ (Ad : Bool) (A0_1 : Option Addr) (c0_1 : Nat) (l0_1 : List ByteArray) (r : Bool) (w : World) (hr0_1 : Kd.C Kd.string w A0_1 l0_1.length l0_1) (hc0_1 : l0_1.length ≤ c0_1) (h : dh Ad l0_1 = some r) :
    Calls Tryd.prog 13 #[.agg #[.bool Ad, .slice A0_1 l0_1.length c0_1]] w fun e w' => e = .returned (.bool r) ∧ Below w.heap.size w w' := by
 have hu25 := Tryd.underlying25
 have HR0_1 := Zz.mk hr0_1
 have HC0_1 := Zz.mk hc0_1
 clear hr0_1 hc0_1
 have HB := Zz.mk (Below.refl w.heap.size w)
 have H : (if Ad = true then (some (decide ((l0_1.length : Int) > 0))) else (if (l0_1.length : Int) = 0 then (some true) else (if 0 < (l0_1.length : Int) then (some ((aG ByteArray.empty l0_1 0).toList != ([] : List UInt8))) else (none)))) = some r := h
 clear h
 by_cases c2 : Ad = true
 ·
  subst c2
  rw [if_pos rfl] at H
  obtain rfl := Option.some.inj H
  go_enter Tryd.func13, Tryd.ntmps13
  go_wp2_with (first | ((with_reducible refine an (N := 1) rfl ?_); refine xev 1 #[.bool true, .slice A0_1 l0_1.length c0_1] 25 ?_; intro Ae hg w3 hbox hb; have Aa := Zz.mk (hbox); have Ac := xsz hg; have Af := Ac; replace HB := xst hb; clear hb hbox hg; obtain ⟨hcz4_0, hcz4_1⟩ := xc2 Aa; have hfz4_0 := xf Aa 0; have hfz4_1 := xf Aa 1))
  go_ret
  exact ⟨xre, xbl⟩
 ·
  replace c2 := Bool.eq_false_iff.mpr c2
  subst c2
  rw [if_neg (show ¬ (false = true) by decide)] at H
  by_cases c5 : (l0_1.length : Int) = 0
  ·
   rw [if_pos c5] at H
   have Ag : ((l0_1.length : Int) == 0) = true := beq_iff_eq.mpr c5
   have Ah : ((l0_1.length : Int) != 0) = false := bne_eq_false_iff_eq.mpr c5
   clear c5
   obtain rfl := Option.some.inj H
   go_enter Tryd.func13, Tryd.ntmps13
   go_wp2_with (first | ((with_reducible refine an (N := 1) rfl ?_); refine xev 1 #[.bool false, .slice A0_1 l0_1.length c0_1] 25 ?_; intro Ae hg w6 hbox hb; have Aa := Zz.mk (hbox); have Ac := xsz hg; have Af := Ac; replace HB := xst hb; clear hb hbox hg; obtain ⟨hcz7_0, hcz7_1⟩ := xc2 Aa; have hfz7_0 := xf Aa 0; have hfz7_1 := xf Aa 1))
   go_ret
   exact ⟨xre, xbl⟩
  ·
   rw [if_neg c5] at H
   have Ag : ((l0_1.length : Int) == 0) = false := beq_eq_false_iff_ne.mpr c5
   have Ah : ((l0_1.length : Int) != 0) = true := bne_iff_ne.mpr c5
   have Ak : ¬ (l0_1 = []) := fun h_ => c5 (by rw [h_]; rfl)
   by_cases c8 : 0 < (l0_1.length : Int)
   ·
    rw [if_pos c8] at H
    have Al := decide_eq_true c8
    have Am : decide (0 < l0_1.length) = true := decide_eq_true (by omega)
    clear c8
    obtain rfl := Option.some.inj H
    go_enter Tryd.func13, Tryd.ntmps13
    go_wp2_with (first | ((with_reducible refine an (N := 1) rfl ?_); refine xev 1 #[.bool false, .slice A0_1 l0_1.length c0_1] 25 ?_; intro Ae hg w9 hbox hb; have Aa := Zz.mk (hbox); have Ac := xsz hg; have Af := Ac; replace HB := xst hb; clear hb hbox hg; obtain ⟨hcz10_0, hcz10_1⟩ := xc2 Aa; have hfz10_0 := xf Aa 0; have hfz10_1 := xf Aa 1; have p262 : 0 ≤ (0 : Int) := (by omega); have q262 : 0 < (l0_1.length : Int) := xod; obtain ⟨Ai, e262, Ab⟩ := Kd.at_string HR0_1.out 0 p262 q262; cases e262; have Aj : (0 < l0_1.length) = True := eq_true (by omega); (try rw [show ((0 : Int)).toNat = 0 from rfl] at Ab); (try rw [Addr.add_zero'] at Ab); replace Ab := (HB.out.cell (World.block_lt_of_cell? w _ Ab)).trans Ab; replace p262 := eq_true p262; replace q262 := eq_true q262))
    go_ret
    exact ⟨xre, xbl⟩
   ·
    rw [if_neg c8] at H
    exact absurd H (by simp)
def aM : Nat → List ByteArray → List ByteArray → Int → Int → Option (Bool)
  | 0, _, _, _, _ => none
  | k + 1, x0, x1, x12, x13 => if x13 < x12 then (if 0 ≤ x13 then (if x13 < (x0.length : Int) then (if x13 < (x1.length : Int) then (if (aG ByteArray.empty x0 x13).toList = (aG ByteArray.empty x1 x13).toList then (aM k x0 x1 x12 (wrap64 (x13 + 1))) else (some false)) else (none)) else (none)) else (none)) else (some true)
def bU (k : Nat) (l0 : List ByteArray) (l1 : List ByteArray) : Option (Bool) := if (l0.length : Int) = (l1.length : Int) then (aM k l0 l1 (l0.length : Int) 0) else (some false)
theorem eO (k : Nat) (A0 : Option Addr) (c0 : Nat) (l0 : List ByteArray) (A1 : Option Addr) (c1 : Nat) (l1 : List ByteArray) (r : Bool) (w : World) (hr0 : Kd.C Kd.string w A0 l0.length l0) (hc0 : l0.length ≤ c0) (hr1 : Kd.C Kd.string w A1 l1.length l1) (hc1 : l1.length ≤ c1) (h : bU k l0 l1 = some r) :
    Calls Tryd.prog 33 #[.slice A0 l0.length c0, .slice A1 l1.length c1] w fun e w' => e = .returned (.bool r) ∧ Drawn0 w w' := by
 have HR0 := Zz.mk hr0
 have Aq := Zz.mk hc0
 clear hr0 hc0
 have HR1 := Zz.mk hr1
 have Ar := Zz.mk hc1
 clear hr1 hc1
 have H : (if (l0.length : Int) = (l1.length : Int) then (aM k l0 l1 (l0.length : Int) 0) else (some false)) = some r := h
 clear h
 by_cases c3 : (l0.length : Int) = (l1.length : Int)
 ·
  rw [if_pos c3] at H
  have Af : ((l0.length : Int) == (l1.length : Int)) = true := beq_iff_eq.mpr c3
  have Ag : ((l0.length : Int) != (l1.length : Int)) = false := bne_eq_false_iff_eq.mpr c3
  have Ah : (l0.length == l1.length) = true := by first | simpa using c3 | (simp at c3 ⊢; omega)
  clear c3
  have H' := Zz.mk H
  clear H
  go_enter Tryd.func33, Tryd.ntmps33
  go_wp2
  repeat (go_quiet (fail); try go_wp2)
  go_loopg [13] k (fun kq v13 w' => ∃ (Aa : Int), v13 = .int .i64 Aa ∧ Zz (aM kq l0 l1 (l0.length : Int) Aa = some r) ∧ Zz (kq ≤ k) ∧ Drawn0 w w')
  case atStart => exact ⟨(0), xrr, H', ⟨Nat.le_refl _⟩, xdr⟩
  case round =>
   clear H'
   clear Af Ag Ah
   obtain ⟨Aa, rfl, HA, HK1, ⟨m1, rfl⟩⟩ := hrel
   cases gk with
   | zero => exact absurd HA.out (by simp [aM])
   | succ k1 =>
    have H := HA.out
    clear HA
    simp only [aM] at H
    by_cases c4 : Aa < (l0.length : Int)
    ·
     rw [if_pos c4] at H
     have Ak := decide_eq_true c4
     clear c4
     by_cases c5 : 0 ≤ Aa
     ·
      rw [if_pos c5] at H
      have An := decide_eq_true c5
      clear c5
      by_cases c6 : Aa < (l0.length : Int)
      ·
       rw [if_pos c6] at H
       have Ao := decide_eq_true c6
       clear c6
       by_cases c7 : Aa < (l1.length : Int)
       ·
        rw [if_pos c7] at H
        have Ap := decide_eq_true c7
        clear c7
        by_cases c8 : (aG ByteArray.empty l0 Aa).toList = (aG ByteArray.empty l1 Aa).toList
        ·
         rw [if_pos c8] at H
         have Al : ((aG ByteArray.empty l0 Aa).toList == (aG ByteArray.empty l1 Aa).toList) = true := beq_iff_eq.mpr c8
         have Am : ((aG ByteArray.empty l0 Aa).toList != (aG ByteArray.empty l1 Aa).toList) = false := bne_eq_false_iff_eq.mpr c8
         clear c8
         have H' := Zz.mk H
         clear H
         have p263 : 0 ≤ (Aa : Int) := xod
         have q263 : Aa < (l0.length : Int) := xod
         obtain ⟨Ai, e263, Ad⟩ := Kd.at_string HR0.out Aa p263 q263
         cases e263
         replace p263 := eq_true p263
         replace q263 := eq_true q263
         try (have Ab := q263; simp only [ByteArray.size_extract, Nat.min_self] at Ab)
         have p264 : 0 ≤ (Aa : Int) := xod
         have q264 : Aa < (l1.length : Int) := xod
         obtain ⟨Aj, e264, Ae⟩ := Kd.at_string HR1.out Aa p264 q264
         cases e264
         replace p264 := eq_true p264
         replace q264 := eq_true q264
         try (have Ac := q264; simp only [ByteArray.size_extract, Nat.min_self] at Ac)
         go_wp2
         repeat (go_quiet (fail); try go_wp2)
         go_roundg k1
         case measure => have := HK1.out; omega
         case rel => exact ⟨(wrap64 (Aa + 1)), xrr, H', ⟨by have := HK1.out; omega⟩, xdr⟩
        ·
         rw [if_neg c8] at H
         have Al : ((aG ByteArray.empty l0 Aa).toList == (aG ByteArray.empty l1 Aa).toList) = false := beq_eq_false_iff_ne.mpr c8
         have Am : ((aG ByteArray.empty l0 Aa).toList != (aG ByteArray.empty l1 Aa).toList) = true := bne_iff_ne.mpr c8
         obtain rfl := Option.some.inj H
         have p263 : 0 ≤ (Aa : Int) := xod
         have q263 : Aa < (l0.length : Int) := xod
         obtain ⟨Ai, e263, Ad⟩ := Kd.at_string HR0.out Aa p263 q263
         cases e263
         replace p263 := eq_true p263
         replace q263 := eq_true q263
         try (have Ab := q263; simp only [ByteArray.size_extract, Nat.min_self] at Ab)
         have p264 : 0 ≤ (Aa : Int) := xod
         have q264 : Aa < (l1.length : Int) := xod
         obtain ⟨Aj, e264, Ae⟩ := Kd.at_string HR1.out Aa p264 q264
         cases e264
         replace p264 := eq_true p264
         replace q264 := eq_true q264
         try (have Ac := q264; simp only [ByteArray.size_extract, Nat.min_self] at Ac)
         go_wp2
         repeat (go_quiet (fail); try go_wp2)
         go_ret
         exact ⟨xrr, xdr⟩
       ·
        rw [if_neg c7] at H
        exact absurd H (by simp)
      ·
       rw [if_neg c6] at H
       exact absurd H (by simp)
     ·
      rw [if_neg c5] at H
      exact absurd H (by simp)
    ·
     rw [if_neg c4] at H
     have Ak := decide_eq_false c4
     clear c4
     obtain rfl := Option.some.inj H
     go_wp2
     repeat (go_quiet (fail); try go_wp2)
     go_ret
     exact ⟨xrr, xdr⟩
 ·
  rw [if_neg c3] at H
  have Af : ((l0.length : Int) == (l1.length : Int)) = false := beq_eq_false_iff_ne.mpr c3
  have Ag : ((l0.length : Int) != (l1.length : Int)) = true := bne_iff_ne.mpr c3
  have Ah : (l0.length == l1.length) = false := by first | simpa using c3 | (simp at c3 ⊢; omega)
  obtain rfl := Option.some.inj H
  go_enter Tryd.func33, Tryd.ntmps33
  go_wp2
  repeat (go_quiet (fail); try go_wp2)
  go_ret
  exact ⟨xrr, xdr⟩
def dg (k : Nat) (a0_0 : Bool) (l0_1 : List ByteArray) (a1_0 : Bool) (l1_1 : List ByteArray) : Option (Bool) := if (a0_0 == a1_0) = true then ((bU k l0_1 l1_1).bind fun t267 => (some t267)) else (some false)
theorem gY (k : Nat) (Aa : Bool) (A0_1 : Option Addr) (c0_1 : Nat) (l0_1 : List ByteArray) (Ac : Bool) (A1_1 : Option Addr) (c1_1 : Nat) (l1_1 : List ByteArray) (r : Bool) (w : World) (hr0_1 : Kd.C Kd.string w A0_1 l0_1.length l0_1) (hc0_1 : l0_1.length ≤ c0_1) (hr1_1 : Kd.C Kd.string w A1_1 l1_1.length l1_1) (hc1_1 : l1_1.length ≤ c1_1) (h : dg k Aa l0_1 Ac l1_1 = some r) :
    Calls Tryd.prog 14 #[.agg #[.bool Aa, .slice A0_1 l0_1.length c0_1], .agg #[.bool Ac, .slice A1_1 l1_1.length c1_1]] w fun e w' => e = .returned (.bool r) ∧ Below w.heap.size w w' := by
 have hu25 := Tryd.underlying25
 have HR0_1 := Zz.mk hr0_1
 have HC0_1 := Zz.mk hc0_1
 clear hr0_1 hc0_1
 have HR1_1 := Zz.mk hr1_1
 have HC1_1 := Zz.mk hc1_1
 clear hr1_1 hc1_1
 have HB := Zz.mk (Below.refl w.heap.size w)
 have H : (if (Aa == Ac) = true then ((bU k l0_1 l1_1).bind fun Aj => (some Aj)) else (some false)) = some r := h
 clear h
 by_cases c3 : (Aa == Ac) = true
 ·
  rw [if_pos c3] at H
  have An : (Aa == Ac) = true := c3
  (try (have Ao : decide (Aa = Ac) = true := by simpa using c3))
  (try (have Ap : (Aa == Ac) = true := by simpa using c3))
  clear c3
  replace H := Option.bind_eq_some_iff.mp H
  obtain ⟨Aj, A40, H⟩ := H
  try dsimp only at H
  have A4 := Zz.mk A40
  clear A40
  obtain rfl := Option.some.inj H
  go_enter Tryd.func14, Tryd.ntmps14
  go_wp2_with (first | ((with_reducible refine an (N := 2) rfl ?_); refine xev 2 #[.bool Aa, .slice A0_1 l0_1.length c0_1] 25 ?_; intro Af hg w5 hbox hb; have Ab := Zz.mk (hbox); have Ah := xsz hg; have Ak := Ah; replace HB := xst hb; clear hb hbox hg) | ((with_reducible refine an (N := 3) rfl ?_); refine xev 3 #[.bool Ac, .slice A1_1 l1_1.length c1_1] 25 ?_; intro Al hg w6 hbox hb; have Ag := Zz.mk (hbox); have Ai := xsz hg; have Am := Ai; have Ad := xlt (g := Af) hg; have Ae := xgt (g := Af) hg; replace Ab := xbb (g := Af) (o := .cells #[.bool Aa, .slice A0_1 l0_1.length c0_1] 25 (0, 0)) hb; replace HB := xst hb; clear hb hbox hg; have As := Ad.out; have At := Ae.out; obtain ⟨hcz8_0, hcz8_1⟩ := xc2 Ab; have hfz8_0 := xf Ab 0; have hfz8_1 := xf Ab 1; obtain ⟨hcz9_0, hcz9_1⟩ := xc2 Ag; have hfz9_0 := xf Ag 0; have hfz9_1 := xf Ag 1) | (go_at_call 33; (with_reducible refine (eO k _ _ l0_1 _ _ l1_1 Aj _ ?side1 ?side2 ?side3 ?side4 A4.out).mono ?_); (case side1 => repeat (first | exact (Kd.C_below HR0_1.out HB.out) | (with_reducible refine Kd.C_alloc ?_ _) | (with_reducible refine Kd.C_drewN ?_ _) | (with_reducible refine Kd.C_drew ?_))); (case side2 => exact HC0_1.out); (case side3 => repeat (first | exact (Kd.C_below HR1_1.out HB.out) | (with_reducible refine Kd.C_alloc ?_ _) | (with_reducible refine Kd.C_drewN ?_ _) | (with_reducible refine Kd.C_drew ?_))); (case side4 => exact HC1_1.out); rintro e w' ⟨rfl, ⟨nd, rfl⟩⟩))
  go_ret
  exact ⟨xre, xbl⟩
 ·
  rw [if_neg c3] at H
  have An : (Aa == Ac) = false := by simpa using c3
  (try (have Ao : decide (Aa = Ac) = false := by simpa using c3))
  (try (have Ap : (Aa == Ac) = false := by simpa using c3))
  (try (have Au : ¬ (Aa = Ac) := by simpa using c3))
  clear c3
  obtain rfl := Option.some.inj H
  go_enter Tryd.func14, Tryd.ntmps14
  go_wp2_with (first | ((with_reducible refine an (N := 2) rfl ?_); refine xev 2 #[.bool Aa, .slice A0_1 l0_1.length c0_1] 25 ?_; intro Af hg w10 hbox hb; have Ab := Zz.mk (hbox); have Ah := xsz hg; have Ak := Ah; replace HB := xst hb; clear hb hbox hg) | ((with_reducible refine an (N := 3) rfl ?_); refine xev 3 #[.bool Ac, .slice A1_1 l1_1.length c1_1] 25 ?_; intro Al hg w11 hbox hb; have Ag := Zz.mk (hbox); have Ai := xsz hg; have Am := Ai; have Ad := xlt (g := Af) hg; have Ae := xgt (g := Af) hg; replace Ab := xbb (g := Af) (o := .cells #[.bool Aa, .slice A0_1 l0_1.length c0_1] 25 (0, 0)) hb; replace HB := xst hb; clear hb hbox hg; have Aq := Ad.out; have Ar := Ae.out; obtain ⟨hcz13_0, hcz13_1⟩ := xc2 Ab; have hfz13_0 := xf Ab 0; have hfz13_1 := xf Ab 1; obtain ⟨hcz14_0, hcz14_1⟩ := xc2 Ag; have hfz14_0 := xf Ag 0; have hfz14_1 := xf Ag 1))
  go_ret
  exact ⟨xre, xbl⟩
end Go.Proofs.YtmofhijbheimmaaDoor.X
