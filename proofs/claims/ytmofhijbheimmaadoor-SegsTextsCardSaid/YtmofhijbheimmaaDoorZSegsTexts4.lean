/- Texts that the law's proof needs, joined by a program of this session. -/
import Derived.Test.YtmofhijbheimmaaDoorZSegsTexts1
import Derived.Test.YtmofhijbheimmaaDoorZSegsTexts2
import Derived.Test.YtmofhijbheimmaaDoorZSegsTexts3
set_option maxHeartbeats 8000000
set_option maxRecDepth 100000
set_option linter.unusedSimpArgs false
set_option linter.unusedVariables false
namespace Go.Proofs.YtmofhijbheimmaaDoor.X
open Go.RowKit Go.Proofs.YtmofhijbheimmaaDoorW.PrintWords Go.Proofs.YtmofhijbheimmaaDoorW.PrintLast Go.Proofs.YtmofhijbheimmaaDoorW.PrintMore
attribute [local go_sem] dg cP eb fs gc eQ ft eI eK fo fp dS dT eJ eL
mutual
def bi : Nat → ByteArray → Bool → Option (Bool × List ByteArray × Int)
  | 0, _, _ => none
  | k + 1, x0, x140000 => (cT x0 (⟨#[47]⟩ : ByteArray)).bind fun t140 => (bj k t140 (t140.length : Int) 0 x140000 ([] : List ByteArray))
def bj : Nat → List ByteArray → Int → Int → Bool → List ByteArray → Option (Bool × List ByteArray × Int)
  | 0, _, _, _, _, _ => none
  | k + 1, Ae, Af, Ac, Ab, Aa => if Ac < Af then (if 0 ≤ Ac then (if Ac < (Ae.length : Int) then ((b5 k (al ByteArray.empty Ae Ac)).bind fun Ad => (if Aa.length < 8796093022208 then (bj k Ae Af (wrap64 (Ac + 1)) Ab (Aa ++ [Ad.1])) else (none))) else (none)) else (none)) else (some (Ab, Aa, 0))
end
def bF (k : Nat) (a0 : ByteArray) : Option (Bool × List ByteArray × Int) := (cC k 5 true a0).bind fun t138 => (if t138 = true then (if a0.toList = ([] : List UInt8) then (some (false, ([] : List ByteArray), 0)) else (if 0 < (a0.size : Int) then (if (bt a0 0) = 47 then (if 1 ≤ (a0.size : Int) then (bi k (a0.extract 1 a0.size) true) else (none)) else (bi k a0 false)) else (none))) else (some (false, ([] : List ByteArray), 4)))
theorem fe : ∀ k, (∀ y0 y1, LeO (bi k y0 y1) (bi (k + 1) y0 y1)) ∧ (∀ y0 y1 y2 y3 y4, LeO (bj k y0 y1 y2 y3 y4) (bj (k + 1) y0 y1 y2 y3 y4))
  | 0 => ⟨fun _ _ r h => by simp [bi] at h, fun _ _ _ _ _ r h => by simp [bj] at h⟩
  | k + 1 => by
    obtain ⟨ih0, ih1⟩ := fe k
    have m0 := @eV; have m1 := @fZ
    refine ⟨?_, ?_⟩
    · intro y0 y1
      unfold bi
      exact xmo
    · intro y0 y1 y2 y3 y4
      unfold bj
      exact xmo
theorem iG : ∀ a0 k, LeO (bF k a0) (bF (k + 1) a0) := by
  intro a0 k
  obtain ⟨ih0, ih1⟩ := fe k
  have m0 := @eV; have m1 := @fZ
  unfold bF
  exact xmo
theorem bX (k : Nat) (a0 : ByteArray) (r1 : Bool) (r2 : List ByteArray) (r3 : Int) (w : World) (hG : GW w) (h : bF k a0 = some (r1, r2, r3)) :
    Calls Tryd.prog 8 #[.string a0] w fun e w' => ∃ v1_ : Value, e = .returned (.tuple #[.agg #[.bool r1, v1_], .int .i64 r3]) ∧ Kd.R Kd.string 9 w' w.heap.size (fun _ => True) v1_ r2 ∧ Below w.heap.size w w' := by
 have hu25 := Tryd.underlying25
 have HB := Zz.mk (Below.refl w.heap.size w)
 have H : ((cC k 5 true a0).bind fun Ax => (if Ax = true then (if a0.toList = ([] : List UInt8) then (some (false, ([] : List ByteArray), 0)) else (if 0 < (a0.size : Int) then (if (bt a0 0) = 47 then (if 1 ≤ (a0.size : Int) then (bi k (a0.extract 1 a0.size) true) else (none)) else (bi k a0 false)) else (none))) else (some (false, ([] : List ByteArray), 4)))) = some (r1, r2, r3) := h
 clear h
 replace H := Option.bind_eq_some_iff.mp H
 obtain ⟨Ax, A20, H⟩ := H
 try dsimp only at H
 have A2 := Zz.mk A20
 clear A20
 by_cases c3 : Ax = true
 ·
  subst c3
  rw [if_pos rfl] at H
  by_cases c4 : a0.toList = ([] : List UInt8)
  ·
   rw [if_pos c4] at H
   have AA : (a0.toList == ([] : List UInt8)) = true := beq_iff_eq.mpr c4
   have AB : (a0.toList != ([] : List UInt8)) = false := bne_eq_false_iff_eq.mpr c4
   (try (have AP : a0.toList.isEmpty = true := by simpa using c4))
   clear c4
   simp only [Option.some.injEq, Prod.mk.injEq] at H
   obtain ⟨rfl, rfl, rfl⟩ := H
   go_enter Tryd.func8, Tryd.ntmps8
   go_wp2_with (first | ((with_reducible refine ak (N := 2) rfl ?_); refine xev 2 #[.bool false, .slice none 0 0] 25 ?_; intro Ad hg w5 hbox hb; have Ab := Zz.mk (hbox); have Am := xsz hg; have Au := Am; replace HB := xst hb; clear hb hbox hg) | ((with_reducible refine ae (f := 25) rfl ?_); refine xgl 10 Tryd.func25 #[.int .i64 5, .bool true, .string a0] ?_; (with_reducible refine (ef k 5 true a0 true _ A2.out).mono ?_); rintro e w6 ⟨rfl, hb⟩; refine ⟨_, rfl, ?_⟩; replace Ab := xbb (g := Ad) (o := .cells #[.bool false, .slice none 0 0] 25 (0, 0)) hb; replace HB := xst hb; (try clear hb)) | ((with_reducible refine ak (N := 4) rfl ?_); refine xev 4 #[.bool false, .slice none 0 0] 25 ?_; intro Aj hg w7 hbox hb; have Ac := Zz.mk (hbox); have Ar := xsz hg; have AC := Ar; have Ag := xlt (g := Ad) hg; have Ah := xgt (g := Ad) hg; replace Ab := xbb (g := Ad) (o := .cells #[.bool false, .slice none 0 0] 25 (0, 0)) hb; replace HB := xst hb; clear hb hbox hg; have A1 := Ah.out; have A3 := Ag.out; obtain ⟨hcz9_0, hcz9_1⟩ := xc2 Ac; have hfz9_0 := xf Ac 0; have hfz9_1 := xf Ac 1; obtain ⟨hcz10_0, hcz10_1⟩ := xc2 Ab; have hfz10_0 := xf Ab 0; have hfz10_1 := xf Ab 1))
   refine bodyPost_ret (gv rfl _ _ Ad 25 #[.bool false, .slice none 0 0] (0, 0) _ rfl xbk Tryd.underlying25 rfl (by kernel_rfl)) rfl ?_
   exact ⟨_, by first | rfl | (simp [aN, aQ] <;> first | rfl | (simp only [ck, bne, Bool.not_not]; done)) | (simp [*, aN, aQ] <;> rfl), by first | exact Kd.R_nil _ _ _ _ _ | exact Kd.N_nil _ _ _ _ _ | exact Kd.V_nil _ _ _ _ _ | exact Kd.Q_nil _ _ _ _ _ | exact Kd.S_nil _ _ _ _ _, xbl⟩
  ·
   rw [if_neg c4] at H
   have AA : (a0.toList == ([] : List UInt8)) = false := beq_eq_false_iff_ne.mpr c4
   have AB : (a0.toList != ([] : List UInt8)) = true := bne_iff_ne.mpr c4
   (try (have AP : a0.toList.isEmpty = false := by simpa using c4))
   by_cases c11 : 0 < (a0.size : Int)
   ·
    rw [if_pos c11] at H
    have AD := decide_eq_true c11
    have AE : decide (0 < a0.size) = true := decide_eq_true (by omega)
    clear c11
    have Ay := Zz.mk H
    clear H
    go_enter Tryd.func8, Tryd.ntmps8
    go_upto_if 18 with (first | ((with_reducible refine ak (N := 2) rfl ?_); refine xev 2 #[.bool false, .slice none 0 0] 25 ?_; intro Ad hg w14 hbox hb; have Ab := Zz.mk (hbox); have Am := xsz hg; have Au := Am; replace HB := xst hb; clear hb hbox hg) | ((with_reducible refine ae (f := 25) rfl ?_); refine xgl 10 Tryd.func25 #[.int .i64 5, .bool true, .string a0] ?_; (with_reducible refine (ef k 5 true a0 true _ A2.out).mono ?_); rintro e w15 ⟨rfl, hb⟩; refine ⟨_, rfl, ?_⟩; replace Ab := xbb (g := Ad) (o := .cells #[.bool false, .slice none 0 0] 25 (0, 0)) hb; replace HB := xst hb; (try clear hb)) | ((with_reducible refine ak (N := 4) rfl ?_); refine xev 4 #[.bool false, .slice none 0 0] 25 ?_; intro Aj hg w16 hbox hb; have Ac := Zz.mk (hbox); have Ar := xsz hg; have AC := Ar; have Ag := xlt (g := Ad) hg; have Ah := xgt (g := Ad) hg; replace Ab := xbb (g := Ad) (o := .cells #[.bool false, .slice none 0 0] 25 (0, 0)) hb; replace HB := xst hb; clear hb hbox hg; have p12 : 0 ≤ (0 : Int) := (by omega); have q12 : 0 < a0.size := (by have : (0 : Int) < (a0.size : Int) := xod; omega); have hx12 : ∀ h : 0 < a0.size, ((a0[0]'h).toNat : Int) = bt a0 0 := aD a0 0; clear p12; have AF : (0 < (a0.size : Int)) = True := eq_true (xod); replace q12 := eq_true q12))
    (try simp only [Act.put, List.setIfInBounds_toArray, List.set_cons_zero, List.set_cons_succ])
    go_cut [0] (fun v0 wc => ∃ (kq : Nat) (An : ByteArray) (Aa : Bool), v0 = .string An ∧ Zz (bi kq An Aa = some (r1, r2, r3)) ∧ Zz (kq ≤ k) ∧ Zz (wc.heap[Ad]? = some (.cells #[.bool false, (.slice none 0 0)] 25 (0, 0))) ∧ Zz (wc.heap[Aj]? = some (.cells #[.bool Aa, (.slice none 0 0)] 25 (0, 0))) ∧ Zz (Below w.heap.size w wc))
    case first =>
     have H := Ay.out
     clear Ay
     by_cases c17 : (bt a0 0) = 47
     ·
      rw [if_pos c17] at H
      have Ao : ((bt a0 0) == 47) = true := beq_iff_eq.mpr c17
      have AG : ((bt a0 0) != 47) = false := bne_eq_false_iff_eq.mpr c17
      clear c17
      (first | rw [Ao] | (simp only [an, au]; rw [Ao]) | (rw [AH]; (try simp only [Bool.not_false, Bool.not_true])) | (rw [AI]; (try simp only [Bool.not_false, Bool.not_true])) | skip)
      by_cases c18 : 1 ≤ (a0.size : Int)
      ·
       rw [if_pos c18] at H
       have AS := eq_true c18
       have AT := decide_eq_true c18
       clear c18
       obtain ⟨AQ, Aq⟩ : ∃ j_ : ByteArray, (a0.extract 1 a0.size) = j_ := ⟨_, rfl⟩
       try (have Az := Aq; simp only [Int.toNat_natCast] at Az)
       first | rw [Aq] at H | simp only [Aq] at H | skip
       have H' := Zz.mk H
       clear H
       try go_wp2
       have n0_ := Zz.mk (aj Ab.out)
       have n1_ := Zz.mk (aj Ac.out)
       have n2_ := Zz.mk (cU HB.out)
       clear Ab
       clear Ac
       clear HB
       have Ab := n0_
       have Ac := n1_
       have HB := n2_
       clear n0_ n1_ n2_
       refine lZ (n := 5) (S := fun w' => True) (ds := []) #[false, false, false, false, false] (by kernel_rfl) rfl rfl trivial (fun hHeld => ?_)
       generalize w16.drew = w20 at Ab Ac HB hHeld ⊢
       refine cz (i := 0) (N := some 19) (v := ?_) (a' := ?_) #[true, false, false, false, false] rfl rfl (by kernel_rfl) (fun _ _ _ h => h) (Or.inl ⟨by rfl, ?_⟩) ?_ ?_
       rotate_left
       ·
        intro w'
        go_simp
        with_reducible rfl
       rotate_left
       ·
        simp only [Act.put, List.setIfInBounds_toArray, List.set_cons_zero, List.set_cons_succ, an, au]
        rfl
       refine cz (i := 1) (N := some 20) (v := ?_) (a' := ?_) #[true, true, false, false, false] rfl rfl (by kernel_rfl) (fun _ _ _ h => h) (Or.inl ⟨by rfl, ?_⟩) ?_ ?_
       rotate_left
       ·
        intro w'
        go_simp
        with_reducible rfl
       rotate_left
       ·
        simp only [Act.put, List.setIfInBounds_toArray, List.set_cons_zero, List.set_cons_succ, an, au]
        rfl
       refine cz (i := 2) (N := some 21) (v := ?_) (a' := ?_) #[true, true, true, false, false] rfl rfl (by kernel_rfl) (fun _ _ _ h => h) (Or.inl ⟨by rfl, ?_⟩) ?_ ?_
       rotate_left
       ·
        intro w'
        go_simp
        with_reducible rfl
       rotate_left
       ·
        simp only [Act.put, List.setIfInBounds_toArray, List.set_cons_zero, List.set_cons_succ, an, au]
        rfl
       refine gq (i := 3) (N := none) #[true, true, true, true, false] rfl rfl (by kernel_rfl) (by decide) (fun K hK => ?_)
       have hs21 : w20.cell? ⟨Aj, 0, none⟩ = some (.bool false) := (ap Ac.out 0).trans rfl
       have AU := xf Ac 0
       have AN := Ag.out
       have hms21_0 := Ah.out
       refine nP (w1 := ?_) (by rfl) rfl ?_ ?_
       rotate_left
       ·
        go_simp
        rfl
       refine hK.out _ _ trivial (fun hHeld => ?_)
       clear hK K
       refine cz (i := 4) (N := some 0) (v := ?_) (a' := ?_) #[true, true, true, true, true] rfl rfl (by kernel_rfl) (fun _ _ _ h => h) (Or.inl ⟨by rfl, ?_⟩) ?_ ?_
       rotate_left
       ·
        intro w'
        go_simp
        with_reducible rfl
       rotate_left
       ·
        simp only [Act.put, List.setIfInBounds_toArray, List.set_cons_zero, List.set_cons_succ, an, au]
        rfl
       refine mE (by kernel_rfl) ?_
       try go_wp2
       go_meet
       case rel => exact ⟨_, (AQ), (true), (by first | rfl | (simp; done) | (simp only [← Aq] <;> (first | rfl | simp)) | (simp [*]; done) | (simp [wrap64]; done)), H', ⟨xom⟩, ⟨by (with_reducible repeat (first | refine ai ?_ _ | refine aj ?_ | refine ah ?_ _)); refine cN ?_ Ag.out _; (with_reducible repeat (first | refine ai ?_ _ | refine aj ?_ | refine ah ?_ _)); exact Ab.out⟩, ⟨by (with_reducible repeat (first | refine ai ?_ _ | refine aj ?_ | refine ah ?_ _)); refine ag (cs := #[.bool false, .slice none 0 0]) ?_ 0 _ rfl; (with_reducible repeat (first | refine ai ?_ _ | refine aj ?_ | refine ah ?_ _)); exact Ac.out⟩, ⟨xbl⟩⟩
      ·
       rw [if_neg c18] at H
       exact absurd H (by simp)
     ·
      rw [if_neg c17] at H
      have Ao : ((bt a0 0) == 47) = false := beq_eq_false_iff_ne.mpr c17
      have AG : ((bt a0 0) != 47) = true := bne_iff_ne.mpr c17
      (first | rw [Ao] | (simp only [an, au]; rw [Ao]) | (rw [AH]; (try simp only [Bool.not_false, Bool.not_true])) | (rw [AI]; (try simp only [Bool.not_false, Bool.not_true])) | skip)
      have H' := Zz.mk H
      clear H
      go_wp2
      go_meet
      case rel => exact ⟨_, (a0), (false), xrr, H', ⟨xom⟩, ⟨xbk⟩, ⟨xbk⟩, ⟨xbl⟩⟩
    case rest =>
     clear Ay
     clear AA AB AD AE
     try clear p12
     try clear q12
     try clear hx12
     try clear AF
     obtain ⟨kq, An, Aa, rfl, HA, HJ12, Ab, Ac, HB⟩ := hcut
     cases kq with
     | zero => exact absurd HA.out (by simp [bi])
     | succ kj12 =>
      have H := HA.out
      clear HA
      simp only [bi] at H
      replace H := Option.bind_eq_some_iff.mp H
      obtain ⟨Ak, A220, H⟩ := H
      try dsimp only at H
      have A22 := Zz.mk A220
      clear A220
      have H' := Zz.mk H
      clear H
      go_wp2_with (first | ((with_reducible refine ae (f := 26) rfl ?_); refine xgl 23 Tryd.func26 #[.string An, .string (⟨#[47]⟩ : ByteArray)] ?_; (with_reducible refine (gH An (⟨#[47]⟩ : ByteArray) Ak _ ?side1 A22.out).mono ?_); (case side1 => first | (with_reducible exact hG) | exact eR hG xbl); rintro e w23 ⟨v141, rfl, ho0, hb⟩; refine ⟨_, rfl, ?_⟩; have Av := Zz.mk (Kd.R_lower ho0 (bh xbl)); replace Ab := xbb (g := Ad) (o := .cells #[.bool false, .slice none 0 0] 25 (0, 0)) hb; replace Ac := xbb (g := Aj) (o := .cells #[.bool Aa, .slice none 0 0] 25 (0, 0)) hb; replace HB := xst hb; (try clear hb); (try clear ho0); obtain ⟨Ao24, co24, eo24⟩ := Kd.R_slice Av.out; subst eo24))
      go_loopg [25] kj12 (fun kq v25 w' => ∃ (Ai : Int) (Ae : List ByteArray) (u140001 : Value), v25 = .int .i64 Ai ∧ Zz (bj kq Ak (Ak.length : Int) Ai Aa Ae = some (r1, r2, r3)) ∧ Zz (kq ≤ kj12) ∧ Zz (Kd.R Kd.string 9 w' w.heap.size (fun k_ => some k_ ≠ (u140001 : Value).ownBlock) (.slice Ao24 Ak.length co24) Ak) ∧ Zz (Kd.R Kd.string 9 w' w.heap.size (fun k_ => some k_ ≠ ((.slice Ao24 Ak.length co24) : Value).ownBlock) u140001 Ae) ∧ Zz (w'.heap[Ad]? = some (.cells #[.bool false, (.slice none 0 0)] 25 (0, 0))) ∧ Zz (w'.heap[Aj]? = some (.cells #[.bool Aa, u140001] 25 (0, 0))) ∧ Zz (Below w.heap.size w w'))
      case atStart => exact ⟨(0), (([] : List ByteArray)), (.slice none 0 0), xrr, H', ⟨Nat.le_refl _⟩, ⟨by (with_reducible repeat (first | apply Kd.R_alloc | apply Kd.R_drewN | apply Kd.R_drew)); exact Kd.R_mono Av.out (fun _ hk => (by simp [Value.ownBlock]))⟩, ⟨by first | exact Kd.R_nil _ _ _ _ _ | exact Kd.N_nil _ _ _ _ _ | exact Kd.V_nil _ _ _ _ _ | exact Kd.Q_nil _ _ _ _ _ | exact Kd.S_nil _ _ _ _ _⟩, ⟨xbk⟩, ⟨xbk⟩, ⟨xbl⟩⟩
      case round =>
       clear H'
       try clear p12
       try clear q12
       try clear hx12
       try clear AF
       obtain ⟨Ai, Ae, u140001, rfl, HA, HK2, Al, Af, Ab, Ac, HB⟩ := hrel
       cases gk with
       | zero => exact absurd HA.out (by simp [bj])
       | succ k2 =>
        have H := HA.out
        clear HA
        simp only [bj] at H
        by_cases c25 : Ai < (Ak.length : Int)
        ·
         rw [if_pos c25] at H
         have AJ := decide_eq_true c25
         clear c25
         by_cases c26 : 0 ≤ Ai
         ·
          rw [if_pos c26] at H
          have AV := decide_eq_true c26
          clear c26
          by_cases c27 : Ai < (Ak.length : Int)
          ·
           rw [if_pos c27] at H
           have AW := decide_eq_true c27
           clear c27
           replace H := Option.bind_eq_some_iff.mp H
           obtain ⟨⟨At, AR⟩, A280, H⟩ := H
           try dsimp only at H
           have A28 := Zz.mk A280
           clear A280
           by_cases c29 : Ae.length < 8796093022208
           ·
            rw [if_pos c29] at H
            have LMc29 := Zz.mk c29
            clear c29
            obtain ⟨As, Ap⟩ : ∃ y_ : List ByteArray, y_ = (Ae ++ [At]) := ⟨_, rfl⟩
            replace H : (bj k2 Ak (Ak.length : Int) (wrap64 (Ai + 1)) Aa As) = some (r1, r2, r3) := by first | (rw [Ap]; with_reducible exact H) | (have H2_ := (Option.bind_some _ _).symm.trans H; rw [Ap]; with_reducible exact H2_) | (have H2_ := (Option.bind_some _ _).symm.trans H; with_reducible exact H2_) | with_reducible exact H | (rw [Ap]; exact H) | exact H
            have AK := Zz.mk Ap
            clear Ap
            have H' := Zz.mk H
            clear H
            have p143 : 0 ≤ (Ai : Int) := xod
            have q143 : Ai < (Ak.length : Int) := xod
            obtain ⟨AL, e143, AO⟩ := Kd.at_string (Kd.R_reads' Al.out).2.2 Ai p143 q143
            cases e143
            replace p143 := eq_true p143
            replace q143 := eq_true q143
            try (have AM := q143; simp only [ByteArray.size_extract, Nat.min_self] at AM)
            go_wp2_with (first | ((with_reducible refine ae (f := 27) rfl ?_); refine xgl 31 Tryd.func27 #[.string (al ByteArray.empty Ak Ai)] ?_; (with_reducible refine (gA k2 (al ByteArray.empty Ak Ai) At AR _ A28.out).mono ?_); rintro e w30 ⟨rfl, hb⟩; refine ⟨_, rfl, ?_⟩; replace Al := Zz.mk (Kd.R_below (xkd Al) hb); replace Af := Zz.mk (Kd.R_below (xkd Af) hb); replace Ab := xbb (g := Ad) (o := .cells #[.bool false, .slice none 0 0] 25 (0, 0)) hb; replace Ac := xbb (g := Aj) (o := .cells #[.bool Aa, u140001] 25 (0, 0)) hb; replace HB := xst hb; (try clear hb); have AX := Ah.out; have AY := Ag.out; obtain ⟨hcz32_0, hcz32_1⟩ := xc2 Ac; have hfz32_0 := xf Ac 0; have hfz32_1 := xf Ac 1) | ((with_reducible refine dv (b := .append) (xs := #[.tmp 35, .tmp 37]) rfl ?_); at_builtin; refine Kd.R_append Kd.string (w0 := w) w.heap.size rfl (.tmp 35) (.tmp 37) 23 9 (.string ⟨#[]⟩) 16 rfl Tryd.underlying23 mG rfl (by decide) (by omega) u140001 Ae At [.string At] (fun k_ => some k_ ≠ (.slice (some AL) Ak.length co24 : Value).ownBlock) (fun _ => False) rfl rfl ?aP (fun _ hk => hk.elim) ?aF ?aO ?aB ?aS ?aL ?_; (case aP => exact rfl); (case aB => exact xbl); (case aF => exact (fun k_ hk => Kd.fresh' (Kd.R_lt (xkd Al)) k_ hk)); (case aO => exact (xkd Af)); (case aS => exact (bh xbl)); (case aL => have := LMc29.out; first | omega | exact Nat.le_of_lt this); intro v147 w33 ho hb hg hat; rw [← AK.out] at ho; have n0_ := Zz.mk (Kd.R_after (ok := (fun _ => True)) (by (with_reducible repeat (first | apply Kd.R_alloc | apply Kd.R_drewN | apply Kd.R_drew)); exact Kd.R_mono Al.out (fun _ hk => ⟨trivial, hk⟩)) hg hat); have n1_ := Zz.mk (gJ (g := Ad) (o := .cells #[.bool false, .slice none 0 0] 25 (0, 0)) xbk hg (Kd.R_ne Af.out Ab.out (by decide))); have n2_ := Zz.mk (gJ (g := Aj) (o := .cells #[.bool Aa, u140001] 25 (0, 0)) xbk hg (Kd.R_ne Af.out Ac.out (by decide))); have n3_ := Zz.mk (hb); have n4_ := Zz.mk (ho); clear Al; clear Ab; clear Ac; clear HB; clear Af; have Al := n0_; have Ab := n1_; have Ac := n2_; have HB := n3_; have Aw := n4_; clear n0_ n1_ n2_ n3_ n4_; clear ho hb hg hat; obtain ⟨Ao34, co34, eo34⟩ := Kd.R_slice Aw.out; subst eo34; obtain ⟨hcz35_0, hcz35_1⟩ := xc2 Ac; have hfz35_0 := xf Ac 0; have hfz35_1 := xf Ac 1))
            go_roundg k2
            case measure => have := HJ12.out; have := HK2.out; omega
            case rel => exact ⟨(wrap64 (Ai + 1)), (As), (.slice Ao34 As.length co34), xrr, H', ⟨by have := HJ12.out; have := HK2.out; omega⟩, ⟨by (with_reducible repeat (first | apply Kd.R_alloc | apply Kd.R_drewN | apply Kd.R_drew)); exact Kd.R_mono (Kd.R_far (p := ⟨Aj, 1, none⟩) (Kd.R_types Al.out Ac.out (by decide)) (fun _ hk => hk.2) (.slice Ao34 As.length co34)) (fun _ hk => hk.1.2)⟩, ⟨by (with_reducible repeat (first | apply Kd.R_alloc | apply Kd.R_drewN | apply Kd.R_drew)); exact Kd.R_mono (Kd.R_far (p := ⟨Aj, 1, none⟩) (Kd.R_types Aw.out Ac.out (by decide)) (fun _ hk => hk.2) (.slice Ao34 As.length co34)) (fun _ hk => hk.1)⟩, ⟨by (with_reducible repeat (first | refine ai ?_ _ | refine aj ?_ | refine ah ?_ _)); refine cN ?_ Ag.out _; (with_reducible repeat (first | refine ai ?_ _ | refine aj ?_ | refine ah ?_ _)); exact Ab.out⟩, ⟨by (with_reducible repeat (first | refine ai ?_ _ | refine aj ?_ | refine ah ?_ _)); refine ag (cs := #[.bool Aa, u140001]) ?_ 1 _ rfl; (with_reducible repeat (first | refine ai ?_ _ | refine aj ?_ | refine ah ?_ _)); exact Ac.out⟩, ⟨xbl⟩⟩
           ·
            rw [if_neg c29] at H
            exact absurd H (by simp)
          ·
           rw [if_neg c27] at H
           exact absurd H (by simp)
         ·
          rw [if_neg c26] at H
          exact absurd H (by simp)
        ·
         rw [if_neg c25] at H
         have AJ := decide_eq_false c25
         clear c25
         simp only [Option.some.injEq, Prod.mk.injEq] at H
         obtain ⟨rfl, rfl, rfl⟩ := H
         have AZ := Ah.out
         have A0 := Ag.out
         obtain ⟨hcz37_0, hcz37_1⟩ := xc2 Ac
         have hfz37_0 := xf Ac 0
         have hfz37_1 := xf Ac 1
         obtain ⟨hcz38_0, hcz38_1⟩ := xc2 Ab
         have hfz38_0 := xf Ab 0
         have hfz38_1 := xf Ab 1
         obtain ⟨Ao39, co39, eo39⟩ := Kd.R_slice Af.out
         subst eo39
         go_wp2
         refine bodyPost_ret (gv rfl _ _ Ad 25 #[.bool Aa, .slice Ao39 Ae.length co39] (0, 0) _ rfl xbk Tryd.underlying25 rfl (by kernel_rfl)) rfl ?_
         exact ⟨_, by first | rfl | (simp [aN, aQ] <;> first | rfl | (simp only [ck, bne, Bool.not_not]; done)) | (simp [*, aN, aQ] <;> rfl), by (with_reducible repeat (first | apply Kd.R_alloc | apply Kd.R_drewN | apply Kd.R_drew)); exact Kd.R_mono (Kd.R_far (p := ⟨Ad, 1, none⟩) (Kd.R_far (p := ⟨Ad, 0, none⟩) (Kd.R_types Af.out Ab.out (by decide)) (fun _ hk => hk.2) (.bool Aa)) (fun _ hk => hk.2) (.slice Ao39 Ae.length co39)) (fun _ hk => trivial), xbl⟩
   ·
    rw [if_neg c11] at H
    exact absurd H (by simp)
 ·
  replace c3 := Bool.eq_false_iff.mpr c3
  subst c3
  rw [if_neg (show ¬ (false = true) by decide)] at H
  simp only [Option.some.injEq, Prod.mk.injEq] at H
  obtain ⟨rfl, rfl, rfl⟩ := H
  go_enter Tryd.func8, Tryd.ntmps8
  go_wp2_with (first | ((with_reducible refine ak (N := 2) rfl ?_); refine xev 2 #[.bool false, .slice none 0 0] 25 ?_; intro Ad hg w40 hbox hb; have Ab := Zz.mk (hbox); have Am := xsz hg; have Au := Am; replace HB := xst hb; clear hb hbox hg) | ((with_reducible refine ae (f := 25) rfl ?_); refine xgl 10 Tryd.func25 #[.int .i64 5, .bool true, .string a0] ?_; (with_reducible refine (ef k 5 true a0 false _ A2.out).mono ?_); rintro e w41 ⟨rfl, hb⟩; refine ⟨_, rfl, ?_⟩; replace Ab := xbb (g := Ad) (o := .cells #[.bool false, .slice none 0 0] 25 (0, 0)) hb; replace HB := xst hb; (try clear hb); obtain ⟨hcz42_0, hcz42_1⟩ := xc2 Ab; have hfz42_0 := xf Ab 0; have hfz42_1 := xf Ab 1))
  refine bodyPost_ret (gv rfl _ _ Ad 25 #[.bool false, .slice none 0 0] (0, 0) _ rfl xbk Tryd.underlying25 rfl (by kernel_rfl)) rfl ?_
  exact ⟨_, by first | rfl | (simp [aN, aQ] <;> first | rfl | (simp only [ck, bne, Bool.not_not]; done)) | (simp [*, aN, aQ] <;> rfl), by first | exact Kd.R_nil _ _ _ _ _ | exact Kd.N_nil _ _ _ _ _ | exact Kd.V_nil _ _ _ _ _ | exact Kd.Q_nil _ _ _ _ _ | exact Kd.S_nil _ _ _ _ _, xbl⟩
def bl : Nat → Int → Bool → Option (Int × Bool)
  | 0, _, _ => none
  | k + 1, x0, x4 => if x4 = true then (some (0, false)) else (if x0 < 10 then (some ((wrap64 (48 + x0)) % 256, true)) else (some ((wrap64 ((wrap64 (65 + x0)) - 10)) % 256, true)))
def bZ (k : Nat) (a0 : Int) : Option (Int × Bool) := if a0 < 0 then (bl k a0 true) else (bl k a0 (decide (a0 > 15)))
theorem eB : ∀ k, (∀ y0 y1, LeO (bl k y0 y1) (bl (k + 1) y0 y1))
  | 0 => fun _ _ r h => by simp [bl] at h
  | k + 1 => by
    have ih0 := eB k
    · intro y0 y1
      unfold bl
      exact xmo
theorem hH : ∀ a0 k, LeO (bZ k a0) (bZ (k + 1) a0) := by
  intro a0 k
  have ih0 := eB k
  unfold bZ
  exact xmo
theorem eY (k : Nat) (a0 : Int) (r1 : Int) (r2 : Bool) (w : World) (h : bZ k a0 = some (r1, r2)) :
    Calls Tryd.prog 72 #[.int .i64 a0] w fun e w' => e = .returned (.tuple #[.int .u8 r1, .bool r2]) ∧ Drawn0 w w' := by
 have H : (if a0 < 0 then (bl k a0 true) else (bl k a0 (decide (a0 > 15)))) = some (r1, r2) := h
 clear h
 have Ac := Zz.mk H
 clear H
 go_enter Tryd.func72, Tryd.ntmps72
 go_upto_region 1 with (fail)
 go_cut [4] (fun v4 wc => ∃ (kq : Nat) (Ab : Bool), v4 = .bool Ab ∧ Zz (bl kq a0 Ab = some (r1, r2)) ∧ Zz (kq ≤ k) ∧ Drawn0 w wc)
 case first =>
  have H := Ac.out
  clear Ac
  by_cases c3 : a0 < 0
  ·
   rw [if_pos c3] at H
   have Aa := decide_eq_true c3
   clear c3
   (first | rw [Aa] | (simp only [an, au]; rw [Aa]) | (rw [Ad]; (try simp only [Bool.not_false, Bool.not_true])) | (rw [Ae]; (try simp only [Bool.not_false, Bool.not_true])) | skip)
   have H' := Zz.mk H
   clear H
   go_wp2
   go_meet
   case rel => exact ⟨_, (true), xrr, H', ⟨xom⟩, xdr⟩
  ·
   rw [if_neg c3] at H
   have Aa := decide_eq_false c3
   clear c3
   (first | rw [Aa] | (simp only [an, au]; rw [Aa]) | (rw [Ad]; (try simp only [Bool.not_false, Bool.not_true])) | (rw [Ae]; (try simp only [Bool.not_false, Bool.not_true])) | skip)
   have H' := Zz.mk H
   clear H
   go_wp2
   go_meet
   case rel => exact ⟨_, (decide (a0 > 15)), xrr, H', ⟨xom⟩, xdr⟩
 case rest =>
  clear Ac
  obtain ⟨kq, Ab, rfl, HA, HJ1, ⟨mc1, rfl⟩⟩ := hcut
  cases kq with
  | zero => exact absurd HA.out (by simp [bl])
  | succ kj1 =>
   have H := HA.out
   clear HA
   simp only [bl] at H
   by_cases c4 : Ab = true
   ·
    subst c4
    rw [if_pos rfl] at H
    simp only [Option.some.injEq, Prod.mk.injEq] at H
    obtain ⟨rfl, rfl⟩ := H
    go_wp2
    go_ret2
    exact ⟨xrr, xdr⟩
   ·
    replace c4 := Bool.eq_false_iff.mpr c4
    subst c4
    rw [if_neg (show ¬ (false = true) by decide)] at H
    by_cases c5 : a0 < 10
    ·
     rw [if_pos c5] at H
     have Af := decide_eq_true c5
     clear c5
     simp only [Option.some.injEq, Prod.mk.injEq] at H
     obtain ⟨rfl, rfl⟩ := H
     go_wp2
     go_ret2
     exact ⟨xrr, xdr⟩
    ·
     rw [if_neg c5] at H
     have Af := decide_eq_false c5
     clear c5
     simp only [Option.some.injEq, Prod.mk.injEq] at H
     obtain ⟨rfl, rfl⟩ := H
     go_wp2
     go_ret2
     exact ⟨xrr, xdr⟩
def cV (k : Nat) (a0 : Int) : Option (ByteArray) := (bZ k (wrap64 (a0 / 16))).bind fun bt149 => ((bZ k (wrap64 (Go.bits .and .u8 a0 15))).bind fun bt151 => (some (strOfNums (([37, bt149.1, bt151.1] : List Int)))))
theorem eH : ∀ a0 k, LeO (cV k a0) (cV (k + 1) a0) := by
  intro a0 k
  have m0 := @hH
  unfold cV
  exact xmo
theorem iz (k : Nat) (a0 : Int) (r : ByteArray) (w : World) (h : cV k a0 = some r) :
    Calls Tryd.prog 48 #[.int .u8 a0] w fun e w' => e = .returned (.string r) ∧ Below w.heap.size w w' := by
 have HB := Zz.mk (Below.refl w.heap.size w)
 have H : ((bZ k (wrap64 (a0 / 16))).bind fun Ae => ((bZ k (wrap64 (Go.bits .and .u8 a0 15))).bind fun Af => (some (strOfNums (([37, Ae.1, Af.1] : List Int)))))) = some r := h
 clear h
 replace H := Option.bind_eq_some_iff.mp H
 obtain ⟨⟨Ab, Ah⟩, A20, H⟩ := H
 try dsimp only at H
 have A2 := Zz.mk A20
 clear A20
 replace H := Option.bind_eq_some_iff.mp H
 obtain ⟨⟨Ac, Ai⟩, A30, H⟩ := H
 try dsimp only at H
 have A3 := Zz.mk A30
 clear A30
 obtain ⟨Aj, Aa⟩ : ∃ y_ : List Int, y_ = (([37, Ab, Ac] : List Int)) := ⟨_, rfl⟩
 replace H : (some (strOfNums Aj)) = some r := by first | (rw [Aa]; with_reducible exact H) | (have H2_ := (Option.bind_some _ _).symm.trans H; rw [Aa]; with_reducible exact H2_) | (have H2_ := (Option.bind_some _ _).symm.trans H; with_reducible exact H2_) | with_reducible exact H | (rw [Aa]; exact H) | exact H
 have Ad := Zz.mk Aa
 clear Aa
 obtain rfl := Option.some.inj H
 go_enter Tryd.func48, Tryd.ntmps48
 go_wp2_with (first | ((with_reducible refine ae (f := 72) rfl ?_); refine xgl 11 Tryd.func72 #[.int .i64 (wrap64 (a0 / 16))] ?_; (with_reducible refine (eY k (wrap64 (a0 / 16)) Ab Ah _ A2.out).mono ?_); rintro e w' ⟨rfl, ⟨nd, rfl⟩⟩; refine ⟨_, rfl, ?_⟩) | ((with_reducible refine ae (f := 72) rfl ?_); refine xgl 18 Tryd.func72 #[.int .i64 (wrap64 (Go.bits .and .u8 a0 15))] ?_; (with_reducible refine (eY k (wrap64 (Go.bits .and .u8 a0 15)) Ac Ai _ A3.out).mono ?_); rintro e w' ⟨rfl, ⟨nd, rfl⟩⟩; refine ⟨_, rfl, ?_⟩) | ((with_reducible refine ak (N := 23) rfl ?_); refine Kd.R_lit (Kd.int .u8) _ 5 ?hg (N := 23) ?hd (xs := ([37, Ab, Ac] : List Int)) (inner := [.int .u8 37, .int .u8 Ab, .int .u8 Ac]) (ok := fun _ => True) (okp := fun _ => True) ?hr ?hp (fun _ hk => hk) trivial (Below.refl _ _) (Nat.le_refl _) (by simp) ?_; (case hd => rfl); (case hg => rfl); (case hr => first | (go_simp; done) | (go_simp; rfl)); (case hp => exact (Reps.one (show Kd.M (Kd.int .u8) _ _ _ 37 [.int .u8 37] from rfl) (Reps.one (show Kd.M (Kd.int .u8) _ _ _ Ab [.int .u8 Ab] from rfl) (Reps.one (show Kd.M (Kd.int .u8) _ _ _ Ac [.int .u8 Ac] from rfl) (Reps.none _ _))))); intro v154 w4 ho5 hb hg_ hnew_; clear hg_ hnew_; (first | rw [← Ad.out] at ho5 | (simp only [Int.reduceToNat] at ho5; rw [← Ad.out] at ho5)); have Ag := Zz.mk (Kd.R_lower ho5 (bh xbl)); replace HB := xst hb; clear hb ho5; have hcv6 := et (P := Tryd.prog) Tryd.underlying60 Tryd.underlying5 Tryd.underlying9 (Kd.own_of_R Ag.out)))
 go_ret
 exact ⟨xre, xbl⟩
def aw : Nat → ByteArray → List Int → Int → Int → Option (ByteArray)
  | 0, _, _, _, _ => none
  | k + 1, x0, x3, x7, x8 => if x8 < x7 then (if 0 ≤ x8 then (if x8 < (x0.size : Int) then ((cy k (bt x0 x8) 15).bind fun t156 => (if t156 = true then (if x3.length < 140737488355328 then (aw k x0 (x3 ++ [bt x0 x8]) x7 (wrap64 (x8 + 1))) else (none)) else (if (bt x0 x8) = 58 then (if x3.length < 140737488355328 then (aw k x0 (x3 ++ [bt x0 x8]) x7 (wrap64 (x8 + 1))) else (none)) else (if (bt x0 x8) = 64 then (if x3.length < 140737488355328 then (aw k x0 (x3 ++ [bt x0 x8]) x7 (wrap64 (x8 + 1))) else (none)) else ((cV k (bt x0 x8)).bind fun t166 => (if x3.length + t166.size < 140737488355328 then (aw k x0 (x3 ++ aa t166) x7 (wrap64 (x8 + 1))) else (none))))))) else (none)) else (none)) else (some (strOfNums x3))
def cO (k : Nat) (a0 : ByteArray) : Option (ByteArray) := aw k a0 ([] : List Int) (a0.size : Int) 0
theorem e6 : ∀ k, (∀ y0 y1 y2 y3, LeO (aw k y0 y1 y2 y3) (aw (k + 1) y0 y1 y2 y3))
  | 0 => fun _ _ _ _ r h => by simp [aw] at h
  | k + 1 => by
    have ih0 := e6 k
    have m0 := @eH; have m1 := @dl
    · intro y0 y1 y2 y3
      unfold aw
      exact xmo
theorem fB : ∀ a0 k, LeO (cO k a0) (cO (k + 1) a0) := by
  intro a0 k
  have ih0 := e6 k
  have m0 := @eH; have m1 := @dl
  unfold cO
  exact xmo
theorem hM (k : Nat) (a0 : ByteArray) (r : ByteArray) (w : World) (h : cO k a0 = some r) :
    Calls Tryd.prog 31 #[.string a0] w fun e w' => e = .returned (.string r) ∧ Below w.heap.size w w' := by
 have HB := Zz.mk (Below.refl w.heap.size w)
 have H : (aw k a0 ([] : List Int) (a0.size : Int) 0) = some r := h
 clear h
 have H' := Zz.mk H
 clear H
 go_enter Tryd.func31, Tryd.ntmps31
 go_wp2
 go_loopg [3, 8] k (fun kq v3 v8 w' => ∃ (Ab : List Int) (Aa : Int), v8 = .int .i64 Aa ∧ Zz (aw kq a0 Ab (a0.size : Int) Aa = some r) ∧ Zz (kq ≤ k) ∧ Zz (Kd.R (Kd.int .u8) 5 w' w.heap.size (fun _ => True) v3 Ab) ∧ Zz (Below w.heap.size w w'))
 case atStart => exact ⟨(([] : List Int)), (0), xrr, H', ⟨Nat.le_refl _⟩, ⟨by first | exact Kd.R_nil _ _ _ _ _ | exact Kd.N_nil _ _ _ _ _ | exact Kd.V_nil _ _ _ _ _ | exact Kd.Q_nil _ _ _ _ _ | exact Kd.S_nil _ _ _ _ _⟩, ⟨xbl⟩⟩
 case round =>
  clear H'
  obtain ⟨Ab, Aa, rfl, HA, HK1, Ac, HB⟩ := hrel
  cases gk with
  | zero => exact absurd HA.out (by simp [aw])
  | succ k1 =>
   have H := HA.out
   clear HA
   simp only [aw] at H
   by_cases c2 : Aa < (a0.size : Int)
   ·
    rw [if_pos c2] at H
    have Az := decide_eq_true c2
    clear c2
    by_cases c3 : 0 ≤ Aa
    ·
     rw [if_pos c3] at H
     have AB := decide_eq_true c3
     clear c3
     by_cases c4 : Aa < (a0.size : Int)
     ·
      rw [if_pos c4] at H
      have AC := decide_eq_true c4
      clear c4
      replace H := Option.bind_eq_some_iff.mp H
      obtain ⟨AA, A60, H⟩ := H
      try dsimp only at H
      have A6 := Zz.mk A60
      clear A60
      by_cases c7 : AA = true
      ·
       subst c7
       rw [if_pos rfl] at H
       by_cases c8 : Ab.length < 140737488355328
       ·
        rw [if_pos c8] at H
        have LMc8 := Zz.mk c8
        clear c8
        obtain ⟨Ak, Ad⟩ : ∃ y_ : List Int, y_ = (Ab ++ [bt a0 Aa]) := ⟨_, rfl⟩
        replace H : (aw k1 a0 Ak (a0.size : Int) (wrap64 (Aa + 1))) = some r := by first | (rw [Ad]; with_reducible exact H) | (have H2_ := (Option.bind_some _ _).symm.trans H; rw [Ad]; with_reducible exact H2_) | (have H2_ := (Option.bind_some _ _).symm.trans H; with_reducible exact H2_) | with_reducible exact H | (rw [Ad]; exact H) | exact H
        have Al := Zz.mk Ad
        clear Ad
        have H' := Zz.mk H
        clear H
        have p5 : 0 ≤ (Aa : Int) := xod
        have q5 : Aa < (a0.size : Int) := xod
        have hx5 := aD a0 Aa
        replace p5 := eq_true p5
        replace q5 := eq_true q5
        try (have Ai := q5; simp only [ByteArray.size_extract, Nat.min_self] at Ai)
        go_wp2_with (first | ((with_reducible refine ae (f := 47) rfl ?_); refine xgl 15 Tryd.func47 #[.int .u8 (bt a0 Aa), .int .i64 15] ?_; (with_reducible refine (bY k1 (bt a0 Aa) 15 true _ A6.out).mono ?_); rintro e w' ⟨rfl, ⟨nd, rfl⟩⟩; refine ⟨_, rfl, ?_⟩) | ((with_reducible refine dv (b := .append) (xs := #[.tmp 24, .tmp 26]) rfl ?_); at_builtin; refine Kd.R_append (Kd.int .u8) (w0 := w) w.heap.size rfl (.tmp 24) (.tmp 26) 60 5 (.int .u8 0) 1 rfl Tryd.underlying60 jj rfl (by decide) (by omega) u3 Ab (bt a0 Aa) [.int .u8 (bt a0 Aa)] (fun _ => True) (fun _ => False) rfl rfl ?aP (fun _ hk => hk.elim) ?aF ?aO ?aB ?aS ?aL ?_; (case aP => exact rfl); (case aB => exact xbl); (case aF => exact (fun _ _ => trivial)); (case aO => exact (xkd Ac)); (case aS => exact (bh xbl)); (case aL => have := LMc8.out; first | omega | exact Nat.le_of_lt this); intro v158 w9 ho hb hg hat; rw [← Al.out] at ho; have n0_ := Zz.mk (hb); have n1_ := Zz.mk (ho); clear HB; clear Ac; have HB := n0_; have Am := n1_; clear n0_ n1_; clear ho hb hg hat))
        go_roundg k1
        case measure => have := HK1.out; omega
        case rel => exact ⟨(Ak), (wrap64 (Aa + 1)), xrr, H', ⟨by have := HK1.out; omega⟩, ⟨xkd Am⟩, ⟨xbl⟩⟩
       ·
        rw [if_neg c8] at H
        exact absurd H (by simp)
      ·
       replace c7 := Bool.eq_false_iff.mpr c7
       subst c7
       rw [if_neg (show ¬ (false = true) by decide)] at H
       by_cases c10 : (bt a0 Aa) = 58
       ·
        rw [if_pos c10] at H
        have An : ((bt a0 Aa) == 58) = true := beq_iff_eq.mpr c10
        have Ao : ((bt a0 Aa) != 58) = false := bne_eq_false_iff_eq.mpr c10
        clear c10
        by_cases c11 : Ab.length < 140737488355328
        ·
         rw [if_pos c11] at H
         have LMc11 := Zz.mk c11
         clear c11
         obtain ⟨Ap, Ae⟩ : ∃ y_ : List Int, y_ = (Ab ++ [bt a0 Aa]) := ⟨_, rfl⟩
         replace H : (aw k1 a0 Ap (a0.size : Int) (wrap64 (Aa + 1))) = some r := by first | (rw [Ae]; with_reducible exact H) | (have H2_ := (Option.bind_some _ _).symm.trans H; rw [Ae]; with_reducible exact H2_) | (have H2_ := (Option.bind_some _ _).symm.trans H; with_reducible exact H2_) | with_reducible exact H | (rw [Ae]; exact H) | exact H
         have Aq := Zz.mk Ae
         clear Ae
         have H' := Zz.mk H
         clear H
         have p5 : 0 ≤ (Aa : Int) := xod
         have q5 : Aa < (a0.size : Int) := xod
         have hx5 := aD a0 Aa
         replace p5 := eq_true p5
         replace q5 := eq_true q5
         try (have Ai := q5; simp only [ByteArray.size_extract, Nat.min_self] at Ai)
         go_wp2_with (first | ((with_reducible refine ae (f := 47) rfl ?_); refine xgl 15 Tryd.func47 #[.int .u8 (bt a0 Aa), .int .i64 15] ?_; (with_reducible refine (bY k1 (bt a0 Aa) 15 false _ A6.out).mono ?_); rintro e w' ⟨rfl, ⟨nd, rfl⟩⟩; refine ⟨_, rfl, ?_⟩) | ((with_reducible refine dv (b := .append) (xs := #[.tmp 24, .tmp 26]) rfl ?_); at_builtin; refine Kd.R_append (Kd.int .u8) (w0 := w) w.heap.size rfl (.tmp 24) (.tmp 26) 60 5 (.int .u8 0) 1 rfl Tryd.underlying60 jj rfl (by decide) (by omega) u3 Ab (bt a0 Aa) [.int .u8 (bt a0 Aa)] (fun _ => True) (fun _ => False) rfl rfl ?aP (fun _ hk => hk.elim) ?aF ?aO ?aB ?aS ?aL ?_; (case aP => exact rfl); (case aB => exact xbl); (case aF => exact (fun _ _ => trivial)); (case aO => exact (xkd Ac)); (case aS => exact (bh xbl)); (case aL => have := LMc11.out; first | omega | exact Nat.le_of_lt this); intro v161 w12 ho hb hg hat; rw [← Aq.out] at ho; have n0_ := Zz.mk (hb); have n1_ := Zz.mk (ho); clear HB; clear Ac; have HB := n0_; have Ar := n1_; clear n0_ n1_; clear ho hb hg hat))
         go_roundg k1
         case measure => have := HK1.out; omega
         case rel => exact ⟨(Ap), (wrap64 (Aa + 1)), xrr, H', ⟨by have := HK1.out; omega⟩, ⟨xkd Ar⟩, ⟨xbl⟩⟩
        ·
         rw [if_neg c11] at H
         exact absurd H (by simp)
       ·
        rw [if_neg c10] at H
        have An : ((bt a0 Aa) == 58) = false := beq_eq_false_iff_ne.mpr c10
        have Ao : ((bt a0 Aa) != 58) = true := bne_iff_ne.mpr c10
        by_cases c13 : (bt a0 Aa) = 64
        ·
         rw [if_pos c13] at H
         have As : ((bt a0 Aa) == 64) = true := beq_iff_eq.mpr c13
         have At : ((bt a0 Aa) != 64) = false := bne_eq_false_iff_eq.mpr c13
         clear c13
         by_cases c14 : Ab.length < 140737488355328
         ·
          rw [if_pos c14] at H
          have LMc14 := Zz.mk c14
          clear c14
          obtain ⟨Au, Af⟩ : ∃ y_ : List Int, y_ = (Ab ++ [bt a0 Aa]) := ⟨_, rfl⟩
          replace H : (aw k1 a0 Au (a0.size : Int) (wrap64 (Aa + 1))) = some r := by first | (rw [Af]; with_reducible exact H) | (have H2_ := (Option.bind_some _ _).symm.trans H; rw [Af]; with_reducible exact H2_) | (have H2_ := (Option.bind_some _ _).symm.trans H; with_reducible exact H2_) | with_reducible exact H | (rw [Af]; exact H) | exact H
          have Av := Zz.mk Af
          clear Af
          have H' := Zz.mk H
          clear H
          have p5 : 0 ≤ (Aa : Int) := xod
          have q5 : Aa < (a0.size : Int) := xod
          have hx5 := aD a0 Aa
          replace p5 := eq_true p5
          replace q5 := eq_true q5
          try (have Ai := q5; simp only [ByteArray.size_extract, Nat.min_self] at Ai)
          go_wp2_with (first | ((with_reducible refine ae (f := 47) rfl ?_); refine xgl 15 Tryd.func47 #[.int .u8 (bt a0 Aa), .int .i64 15] ?_; (with_reducible refine (bY k1 (bt a0 Aa) 15 false _ A6.out).mono ?_); rintro e w' ⟨rfl, ⟨nd, rfl⟩⟩; refine ⟨_, rfl, ?_⟩) | ((with_reducible refine dv (b := .append) (xs := #[.tmp 24, .tmp 26]) rfl ?_); at_builtin; refine Kd.R_append (Kd.int .u8) (w0 := w) w.heap.size rfl (.tmp 24) (.tmp 26) 60 5 (.int .u8 0) 1 rfl Tryd.underlying60 jj rfl (by decide) (by omega) u3 Ab (bt a0 Aa) [.int .u8 (bt a0 Aa)] (fun _ => True) (fun _ => False) rfl rfl ?aP (fun _ hk => hk.elim) ?aF ?aO ?aB ?aS ?aL ?_; (case aP => exact rfl); (case aB => exact xbl); (case aF => exact (fun _ _ => trivial)); (case aO => exact (xkd Ac)); (case aS => exact (bh xbl)); (case aL => have := LMc14.out; first | omega | exact Nat.le_of_lt this); intro v164 w15 ho hb hg hat; rw [← Av.out] at ho; have n0_ := Zz.mk (hb); have n1_ := Zz.mk (ho); clear HB; clear Ac; have HB := n0_; have Aw := n1_; clear n0_ n1_; clear ho hb hg hat))
          go_roundg k1
          case measure => have := HK1.out; omega
          case rel => exact ⟨(Au), (wrap64 (Aa + 1)), xrr, H', ⟨by have := HK1.out; omega⟩, ⟨xkd Aw⟩, ⟨xbl⟩⟩
         ·
          rw [if_neg c14] at H
          exact absurd H (by simp)
        ·
         rw [if_neg c13] at H
         have As : ((bt a0 Aa) == 64) = false := beq_eq_false_iff_ne.mpr c13
         have At : ((bt a0 Aa) != 64) = true := bne_iff_ne.mpr c13
         replace H := Option.bind_eq_some_iff.mp H
         obtain ⟨Ah, A160, H⟩ := H
         try dsimp only at H
         have A16 := Zz.mk A160
         clear A160
         by_cases c17 : Ab.length + Ah.size < 140737488355328
         ·
          rw [if_pos c17] at H
          have LMc17 := Zz.mk c17
          clear c17
          obtain ⟨Aj, Ag⟩ : ∃ y_ : List Int, y_ = (Ab ++ aa Ah) := ⟨_, rfl⟩
          replace H : (aw k1 a0 Aj (a0.size : Int) (wrap64 (Aa + 1))) = some r := by first | (rw [Ag]; with_reducible exact H) | (have H2_ := (Option.bind_some _ _).symm.trans H; rw [Ag]; with_reducible exact H2_) | (have H2_ := (Option.bind_some _ _).symm.trans H; with_reducible exact H2_) | with_reducible exact H | (rw [Ag]; exact H) | exact H
          have Ax := Zz.mk Ag
          clear Ag
          have H' := Zz.mk H
          clear H
          have p5 : 0 ≤ (Aa : Int) := xod
          have q5 : Aa < (a0.size : Int) := xod
          have hx5 := aD a0 Aa
          replace p5 := eq_true p5
          replace q5 := eq_true q5
          try (have Ai := q5; simp only [ByteArray.size_extract, Nat.min_self] at Ai)
          go_wp2_with (first | ((with_reducible refine ae (f := 47) rfl ?_); refine xgl 15 Tryd.func47 #[.int .u8 (bt a0 Aa), .int .i64 15] ?_; (with_reducible refine (bY k1 (bt a0 Aa) 15 false _ A6.out).mono ?_); rintro e w' ⟨rfl, ⟨nd, rfl⟩⟩; refine ⟨_, rfl, ?_⟩) | ((with_reducible refine ae (f := 48) rfl ?_); refine xgl 30 Tryd.func48 #[.int .u8 (bt a0 Aa)] ?_; (with_reducible refine (iz k1 (bt a0 Aa) Ah _ A16.out).mono ?_); rintro e w18 ⟨rfl, hb⟩; refine ⟨_, rfl, ?_⟩; replace Ac := Zz.mk (Kd.R_below (xkd Ac) hb); replace HB := xst hb; (try clear hb)) | (at_builtin; refine it (w0 := w) w.heap.size rfl (.tmp 28) _ 60 9 5 rfl Tryd.underlying60 Tryd.underlying9 jj u3 Ab Ah rfl rfl ?aO ?aB ?aS ?aL ?_; (case aB => exact xbl); (case aO => exact (Kd.own_of_R (xkd Ac))); (case aS => exact (bh xbl)); (case aL => have := LMc17.out; first | omega | exact Nat.le_of_lt this); intro v168 w19 ho0 hb hg; have ho := Kd.R_of_own (h1 := fun _ => rfl) (ok := fun _ => True) ho0 (fun _ _ => trivial); clear ho0; have hat := True.intro; rw [← Ax.out] at ho; change Kd.R (Kd.int .u8) 5 w19 w.heap.size (fun _ => True) v168 Aj at ho; have n0_ := Zz.mk (hb); have n1_ := Zz.mk (ho); clear HB; clear Ac; have HB := n0_; have Ay := n1_; clear n0_ n1_; clear ho hb hg hat))
          go_roundg k1
          case measure => have := HK1.out; omega
          case rel => exact ⟨(Aj), (wrap64 (Aa + 1)), xrr, H', ⟨by have := HK1.out; omega⟩, ⟨xkd Ay⟩, ⟨xbl⟩⟩
         ·
          rw [if_neg c17] at H
          exact absurd H (by simp)
     ·
      rw [if_neg c4] at H
      exact absurd H (by simp)
    ·
     rw [if_neg c3] at H
     exact absurd H (by simp)
   ·
    rw [if_neg c2] at H
    have Az := decide_eq_false c2
    clear c2
    obtain rfl := Option.some.inj H
    have hcv20 := et (P := Tryd.prog) Tryd.underlying60 Tryd.underlying5 Tryd.underlying9 (Kd.own_of_R Ac.out)
    go_wp2
    go_ret
    exact ⟨xre, xbl⟩
def df (l0 : List ByteArray) (a1 : ByteArray) : Option ByteArray := if l0.length ≤ 140737488355328 ∧ (Go.Lib.join (l0.map (·.data.toList)) a1.data.toList).length ≤ 140737488355328 then some ⟨(Go.Lib.join (l0.map (·.data.toList)) a1.data.toList).toArray⟩ else none
theorem e7 (A0 : Option Addr) (c0 : Nat) (l0 : List ByteArray) (a1 : ByteArray) (r : ByteArray) (w : World) (hr0 : Kd.C Kd.string w A0 l0.length l0) (hc0 : l0.length ≤ c0) (h : df l0 a1 = some r) :
    Calls Tryd.prog 32 #[.slice A0 l0.length c0, .string a1] w fun e w' => e = .returned (.string r) ∧ Below w.heap.size w w' := by
  unfold df at h
  by_cases hs : l0.length ≤ 140737488355328 ∧ (Go.Lib.join (l0.map (·.data.toList)) a1.data.toList).length ≤ 140737488355328
  · rw [if_pos hs] at h
    obtain rfl := Option.some.inj h
    cases l0 with
    | nil =>
      refine (Tryd.strings_Join_none A0 c0 a1 w).mono ?_
      rintro e w' ⟨rfl, rfl⟩
      exact ⟨rfl, Below.refl _ _⟩
    | cons x l =>
      obtain ⟨ad, rfl, hc⟩ := hr0.2.2 (by simp)
      have hcell : ∀ (j : Nat) y, (x :: l)[j]? = some y → w.cell? (ad.add j) = some (.string y) := by
        intro j y hj
        obtain ⟨c, hl, hk, hu⟩ := hc j y hj
        have hk : c = [Value.string y] := hk
        subst hk
        have h1 := hu 0 _ rfl
        simpa [Kd.string, Kd.scalar] using h1
      have h0 := hcell 0 x rfl
      have h0 : w.cell? ad = some (.string x) := by simpa [Addr.add] using h0
      obtain ⟨bk, o, sp⟩ := ad
      have hsp : sp = none := by
        cases sp with
        | none => rfl
        | some z => unfold World.cell? at h0; split at h0 <;> simp at h0
      subst hsp
      refine (Tryd.strings_Join bk o c0 (x :: l) a1 w ?_ (World.block_lt_of_cell? w _ h0) hs.1 hc0 hs.2).mono ?_
      · intro j y hj
        have h1 := hcell j y hj
        have ha : (⟨bk, o, none⟩ : Addr).add j = ⟨bk, o + j, none⟩ := by unfold Addr.add; split <;> simp_all
        rwa [ha] at h1
      · rintro e w' ⟨rfl, hb⟩
        exact ⟨rfl, hb⟩
  · rw [if_neg hs] at h; cases h
def aH : Nat → List ByteArray → List ByteArray → Int → Int → Bool → List ByteArray → Option (ByteArray)
  | 0, _, _, _, _, _, _ => none
  | k + 1, x3, x8, x9, Ad, Aa, Ab => if Ad < x9 then (if 0 ≤ Ad then (if Ad < (x8.length : Int) then ((cO k (al ByteArray.empty x8 Ad)).bind fun Ae => (if x3.length < 8796093022208 then (aH k (x3 ++ [Ae]) x8 x9 (wrap64 (Ad + 1)) Aa Ab) else (none))) else (none)) else (none)) else ((df x3 (⟨#[47]⟩ : ByteArray)).bind fun Ac => (if Aa = true then (if 1 + Ac.size ≤ 9223372036854775807 then (some ((⟨#[47]⟩ : ByteArray) ++ Ac)) else (none)) else (some Ac)))
def bn (k : Nat) (a0_0 : Bool) (l0_1 : List ByteArray) : Option (ByteArray) := aH k ([] : List ByteArray) l0_1 (l0_1.length : Int) 0 a0_0 l0_1
theorem d8 : ∀ k, (∀ y0 y1 y2 y3 y4 y5, LeO (aH k y0 y1 y2 y3 y4 y5) (aH (k + 1) y0 y1 y2 y3 y4 y5))
  | 0 => fun _ _ _ _ _ _ r h => by simp [aH] at h
  | k + 1 => by
    have ih0 := d8 k
    have m0 := @fB
    · intro y0 y1 y2 y3 y4 y5
      unfold aH
      exact xmo
theorem gG : ∀ a0 a1 k, LeO (bn k a0 a1) (bn (k + 1) a0 a1) := by
  intro a0 a1 k
  have ih0 := d8 k
  have m0 := @fB
  unfold bn
  exact xmo
theorem ev (k : Nat) (Ad : Bool) (A0_1 : Option Addr) (c0_1 : Nat) (l0_1 : List ByteArray) (r : ByteArray) (w : World) (hr0_1 : Kd.C Kd.string w A0_1 l0_1.length l0_1) (hc0_1 : l0_1.length ≤ c0_1) (h : bn k Ad l0_1 = some r) :
    Calls Tryd.prog 11 #[.agg #[.bool Ad, .slice A0_1 l0_1.length c0_1]] w fun e w' => e = .returned (.string r) ∧ Below w.heap.size w w' := by
 have hu25 := Tryd.underlying25
 have HR0_1 := Zz.mk hr0_1
 have HC0_1 := Zz.mk hc0_1
 clear hr0_1 hc0_1
 have HB := Zz.mk (Below.refl w.heap.size w)
 have H : (aH k ([] : List ByteArray) l0_1 (l0_1.length : Int) 0 Ad l0_1) = some r := h
 clear h
 have H' := Zz.mk H
 clear H
 go_enter Tryd.func11, Tryd.ntmps11
 go_wp2_with (first | ((with_reducible refine ak (N := 1) rfl ?_); refine xev 1 #[.bool Ad, .slice A0_1 l0_1.length c0_1] 25 ?_; intro Ag hg w2 hbox hb; have Aa := Zz.mk (hbox); have Al := xsz hg; have Ar := Al; replace HB := xst hb; clear hb hbox hg; obtain ⟨hcz3_0, hcz3_1⟩ := xc2 Aa; have hfz3_0 := xf Aa 0; have hfz3_1 := xf Aa 1))
 go_loopg [3, 10] k (fun kq v3 v10 w' => ∃ (Ae : List ByteArray) (Ab : Int), v10 = .int .i64 Ab ∧ Zz (aH kq Ae l0_1 (l0_1.length : Int) Ab Ad l0_1 = some r) ∧ Zz (kq ≤ k) ∧ Zz (Kd.R Kd.string 9 w' w.heap.size (fun _ => True) v3 Ae) ∧ Zz (w'.heap[Ag]? = some (.cells #[.bool Ad, (.slice A0_1 l0_1.length c0_1)] 25 (0, 0))) ∧ Zz (Below w.heap.size w w'))
 case atStart => exact ⟨(([] : List ByteArray)), (0), xrr, H', ⟨Nat.le_refl _⟩, ⟨by first | exact Kd.R_nil _ _ _ _ _ | exact Kd.N_nil _ _ _ _ _ | exact Kd.V_nil _ _ _ _ _ | exact Kd.Q_nil _ _ _ _ _ | exact Kd.S_nil _ _ _ _ _⟩, ⟨xbk⟩, ⟨xbl⟩⟩
 case round =>
  clear H'
  obtain ⟨Ae, Ab, rfl, HA, HK1, Ac, Aa, HB⟩ := hrel
  cases gk with
  | zero => exact absurd HA.out (by simp [aH])
  | succ k1 =>
   have H := HA.out
   clear HA
   simp only [aH] at H
   by_cases c4 : Ab < (l0_1.length : Int)
   ·
    rw [if_pos c4] at H
    have Aq := decide_eq_true c4
    clear c4
    by_cases c5 : 0 ≤ Ab
    ·
     rw [if_pos c5] at H
     have Av := decide_eq_true c5
     clear c5
     by_cases c6 : Ab < (l0_1.length : Int)
     ·
      rw [if_pos c6] at H
      have Aw := decide_eq_true c6
      clear c6
      replace H := Option.bind_eq_some_iff.mp H
      obtain ⟨Ai, A70, H⟩ := H
      try dsimp only at H
      have A7 := Zz.mk A70
      clear A70
      by_cases c8 : Ae.length < 8796093022208
      ·
       rw [if_pos c8] at H
       have LMc8 := Zz.mk c8
       clear c8
       obtain ⟨Am, Ah⟩ : ∃ y_ : List ByteArray, y_ = (Ae ++ [Ai]) := ⟨_, rfl⟩
       replace H : (aH k1 Am l0_1 (l0_1.length : Int) (wrap64 (Ab + 1)) Ad l0_1) = some r := by first | (rw [Ah]; with_reducible exact H) | (have H2_ := (Option.bind_some _ _).symm.trans H; rw [Ah]; with_reducible exact H2_) | (have H2_ := (Option.bind_some _ _).symm.trans H; with_reducible exact H2_) | with_reducible exact H | (rw [Ah]; exact H) | exact H
       have An := Zz.mk Ah
       clear Ah
       have H' := Zz.mk H
       clear H
       have p171 : 0 ≤ (Ab : Int) := xod
       have q171 : Ab < (l0_1.length : Int) := xod
       obtain ⟨Ak, e171, Af⟩ := Kd.at_string HR0_1.out Ab p171 q171
       cases e171
       replace Af := (HB.out.cell (World.block_lt_of_cell? w _ Af)).trans Af
       replace p171 := eq_true p171
       replace q171 := eq_true q171
       try (have Ao := q171; simp only [ByteArray.size_extract, Nat.min_self] at Ao)
       go_wp2_with (first | ((with_reducible refine ae (f := 31) rfl ?_); refine xgl 16 Tryd.func31 #[.string (al ByteArray.empty l0_1 Ab)] ?_; (with_reducible refine (hM k1 (al ByteArray.empty l0_1 Ab) Ai _ A7.out).mono ?_); rintro e w9 ⟨rfl, hb⟩; refine ⟨_, rfl, ?_⟩; replace Ac := Zz.mk (Kd.R_below (xkd Ac) hb); replace Aa := xbb (g := Ag) (o := .cells #[.bool Ad, .slice (some Ak) l0_1.length c0_1] 25 (0, 0)) hb; replace HB := xst hb; (try clear hb)) | ((with_reducible refine dv (b := .append) (xs := #[.tmp 14, .tmp 17]) rfl ?_); at_builtin; refine Kd.R_append Kd.string (w0 := w) w.heap.size rfl (.tmp 14) (.tmp 17) 23 9 (.string ⟨#[]⟩) 16 rfl Tryd.underlying23 mG rfl (by decide) (by omega) u3 Ae Ai [.string Ai] (fun _ => True) (fun _ => False) rfl rfl ?aP (fun _ hk => hk.elim) ?aF ?aO ?aB ?aS ?aL ?_; (case aP => exact rfl); (case aB => exact xbl); (case aF => exact (fun _ _ => trivial)); (case aO => exact (xkd Ac)); (case aS => exact (bh xbl)); (case aL => have := LMc8.out; first | omega | exact Nat.le_of_lt this); intro v174 w10 ho hb hg hat; rw [← An.out] at ho; have n0_ := Zz.mk (gJ (g := Ag) (o := .cells #[.bool Ad, .slice (some Ak) l0_1.length c0_1] 25 (0, 0)) xbk hg (Kd.R_ne Ac.out Aa.out (by decide))); have n1_ := Zz.mk (hb); have n2_ := Zz.mk (ho); clear Aa; clear HB; clear Ac; have Aa := n0_; have HB := n1_; have Ap := n2_; clear n0_ n1_ n2_; clear ho hb hg hat))
       go_roundg k1
       case measure => have := HK1.out; omega
       case rel => exact ⟨(Am), (wrap64 (Ab + 1)), xrr, H', ⟨by have := HK1.out; omega⟩, ⟨xkd Ap⟩, ⟨xbk⟩, ⟨xbl⟩⟩
      ·
       rw [if_neg c8] at H
       exact absurd H (by simp)
     ·
      rw [if_neg c6] at H
      exact absurd H (by simp)
    ·
     rw [if_neg c5] at H
     exact absurd H (by simp)
   ·
    rw [if_neg c4] at H
    have Aq := decide_eq_false c4
    clear c4
    replace H := Option.bind_eq_some_iff.mp H
    obtain ⟨Aj, A110, H⟩ := H
    try dsimp only at H
    have A11 := Zz.mk A110
    clear A110
    by_cases c12 : Ad = true
    ·
     subst c12
     rw [if_pos rfl] at H
     by_cases c13 : 1 + Aj.size ≤ 9223372036854775807
     ·
      rw [if_pos c13] at H
      have As := eq_true c13
      have At := decide_eq_true c13
      try have Au : (9223372036854775807 < 1 + Aj.size) = False := eq_false (Nat.not_lt.2 c13)
      obtain rfl := Option.some.inj H
      obtain ⟨Ao14, co14, eo14⟩ := Kd.R_slice Ac.out
      subst eo14
      go_wp2_with (first | ((with_reducible refine ae (f := 32) rfl ?_); refine xgl 21 Tryd.func32 #[.slice Ao14 Ae.length co14, .string (⟨#[47]⟩ : ByteArray)] ?_; (with_reducible refine (e7 _ _ Ae (⟨#[47]⟩ : ByteArray) Aj _ ?side1 ?side2 A11.out).mono ?_); (case side1 => repeat (first | exact (Kd.R_reads' Ac.out).2.2 | (with_reducible refine Kd.C_alloc ?_ _) | (with_reducible refine Kd.C_drewN ?_ _) | (with_reducible refine Kd.C_drew ?_))); (case side2 => exact (Kd.R_reads' Ac.out).2.1); rintro e w15 ⟨rfl, hb⟩; refine ⟨_, rfl, ?_⟩; replace Ac := Zz.mk (Kd.R_below (xkd Ac) hb); replace Aa := xbb (g := Ag) (o := .cells #[.bool true, .slice A0_1 l0_1.length c0_1] 25 (0, 0)) hb; replace HB := xst hb; (try clear hb); obtain ⟨hcz16_0, hcz16_1⟩ := xc2 Aa; have hfz16_0 := xf Aa 0; have hfz16_1 := xf Aa 1))
      go_ret
      exact ⟨xre, xbl⟩
     ·
      rw [if_neg c13] at H
      exact absurd H (by simp)
    ·
     replace c12 := Bool.eq_false_iff.mpr c12
     subst c12
     rw [if_neg (show ¬ (false = true) by decide)] at H
     obtain rfl := Option.some.inj H
     obtain ⟨Ao17, co17, eo17⟩ := Kd.R_slice Ac.out
     subst eo17
     go_wp2_with (first | ((with_reducible refine ae (f := 32) rfl ?_); refine xgl 21 Tryd.func32 #[.slice Ao17 Ae.length co17, .string (⟨#[47]⟩ : ByteArray)] ?_; (with_reducible refine (e7 _ _ Ae (⟨#[47]⟩ : ByteArray) Aj _ ?side1 ?side2 A11.out).mono ?_); (case side1 => repeat (first | exact (Kd.R_reads' Ac.out).2.2 | (with_reducible refine Kd.C_alloc ?_ _) | (with_reducible refine Kd.C_drewN ?_ _) | (with_reducible refine Kd.C_drew ?_))); (case side2 => exact (Kd.R_reads' Ac.out).2.1); rintro e w18 ⟨rfl, hb⟩; refine ⟨_, rfl, ?_⟩; replace Ac := Zz.mk (Kd.R_below (xkd Ac) hb); replace Aa := xbb (g := Ag) (o := .cells #[.bool false, .slice A0_1 l0_1.length c0_1] 25 (0, 0)) hb; replace HB := xst hb; (try clear hb); obtain ⟨hcz19_0, hcz19_1⟩ := xc2 Aa; have hfz19_0 := xf Aa 0; have hfz19_1 := xf Aa 1))
     go_ret
     exact ⟨xre, xbl⟩
def dO (a0_0 : Bool) (l0_1 : List ByteArray) : Option (ByteArray) := if (l0_1.length : Int) > 0 then (if 0 ≤ (wrap64 ((l0_1.length : Int) - 1)) then (if (wrap64 ((l0_1.length : Int) - 1)) < (l0_1.length : Int) then (some (al ByteArray.empty l0_1 (wrap64 ((l0_1.length : Int) - 1)))) else (none)) else (none)) else (some (⟨#[]⟩ : ByteArray))
theorem eu (Ad : Bool) (A0_1 : Option Addr) (c0_1 : Nat) (l0_1 : List ByteArray) (r : ByteArray) (w : World) (hr0_1 : Kd.C Kd.string w A0_1 l0_1.length l0_1) (hc0_1 : l0_1.length ≤ c0_1) (h : dO Ad l0_1 = some r) :
    Calls Tryd.prog 20 #[.agg #[.bool Ad, .slice A0_1 l0_1.length c0_1]] w fun e w' => e = .returned (.string r) ∧ Below w.heap.size w w' := by
 have hu25 := Tryd.underlying25
 have HR0_1 := Zz.mk hr0_1
 have HC0_1 := Zz.mk hc0_1
 clear hr0_1 hc0_1
 have HB := Zz.mk (Below.refl w.heap.size w)
 have H : (if (l0_1.length : Int) > 0 then (if 0 ≤ (wrap64 ((l0_1.length : Int) - 1)) then (if (wrap64 ((l0_1.length : Int) - 1)) < (l0_1.length : Int) then (some (al ByteArray.empty l0_1 (wrap64 ((l0_1.length : Int) - 1)))) else (none)) else (none)) else (some (⟨#[]⟩ : ByteArray))) = some r := h
 clear h
 by_cases c2 : (l0_1.length : Int) > 0
 ·
  rw [if_pos c2] at H
  have Ai := decide_eq_true c2
  have Aj : decide (0 < l0_1.length) = true := decide_eq_true (by omega)
  clear c2
  obtain ⟨Af, Ae⟩ : ∃ j_ : Int, (wrap64 ((l0_1.length : Int) - 1)) = j_ := ⟨_, rfl⟩
  first | rw [Ae] at H | simp only [Ae] at H | skip
  have Ak : (IntKind.i64.wrap ((l0_1.length : Int) - 1)) = Af := (an _).trans Ae
  by_cases c4 : 0 ≤ (Af)
  ·
   rw [if_pos c4] at H
   have Am := decide_eq_true c4
   clear c4
   by_cases c5 : (Af) < (l0_1.length : Int)
   ·
    rw [if_pos c5] at H
    have An := decide_eq_true c5
    clear c5
    obtain rfl := Option.some.inj H
    go_enter Tryd.func20, Tryd.ntmps20
    go_wp2_with (first | ((with_reducible refine ak (N := 1) rfl ?_); refine xev 1 #[.bool Ad, .slice A0_1 l0_1.length c0_1] 25 ?_; intro Ag hg w6 hbox hb; have Aa := Zz.mk (hbox); have Ac := xsz hg; have Ah := Ac; replace HB := xst hb; clear hb hbox hg; obtain ⟨hcz7_0, hcz7_1⟩ := xc2 Aa; have hfz7_0 := xf Aa 0; have hfz7_1 := xf Aa 1; have p178 : 0 ≤ ((Af) : Int) := xod; have q178 : (Af) < (l0_1.length : Int) := xod; obtain ⟨Al, e178, Ab⟩ := Kd.at_string HR0_1.out (Af) p178 q178; cases e178; replace Ab := (HB.out.cell (World.block_lt_of_cell? w _ Ab)).trans Ab; replace p178 := eq_true p178; replace q178 := eq_true q178))
    go_ret
    exact ⟨by first | rfl | (simp [aN, aQ] <;> first | rfl | (simp only [ck, bne, Bool.not_not]; done)) | (simp only [← Ae]; first | rfl | (simp [aN, aQ] <;> rfl)) | (simp [*, aN, aQ] <;> rfl), xbl⟩
   ·
    rw [if_neg c5] at H
    exact absurd H (by simp)
  ·
   rw [if_neg c4] at H
   exact absurd H (by simp)
 ·
  rw [if_neg c2] at H
  have Ai := decide_eq_false c2
  have Aj : decide (0 < l0_1.length) = false := decide_eq_false (by omega)
  clear c2
  obtain rfl := Option.some.inj H
  go_enter Tryd.func20, Tryd.ntmps20
  go_wp2_with (first | ((with_reducible refine ak (N := 1) rfl ?_); refine xev 1 #[.bool Ad, .slice A0_1 l0_1.length c0_1] 25 ?_; intro Ag hg w8 hbox hb; have Aa := Zz.mk (hbox); have Ac := xsz hg; have Ah := Ac; replace HB := xst hb; clear hb hbox hg; obtain ⟨hcz9_0, hcz9_1⟩ := xc2 Aa; have hfz9_0 := xf Aa 0; have hfz9_1 := xf Aa 1))
  go_ret
  exact ⟨xre, xbl⟩
def ar : Nat → ByteArray → Int → Int → Option (Int)
  | 0, _, _, _ => none
  | k + 1, x0, x1, x5 => if x5 ≥ 0 then (if 0 ≤ x5 then (if x5 < (x0.size : Int) then (if (bt x0 x5) = x1 then (some x5) else (ar k x0 x1 (wrap64 (x5 - 1)))) else (none)) else (none)) else (some (-1))
def a8 (k : Nat) (a0 : ByteArray) (a1 : Int) : Option (Int) := ar k a0 a1 (wrap64 ((a0.size : Int) - 1))
theorem ct : ∀ k, (∀ y0 y1 y2, LeO (ar k y0 y1 y2) (ar (k + 1) y0 y1 y2))
  | 0 => fun _ _ _ r h => by simp [ar] at h
  | k + 1 => by
    have ih0 := ct k
    · intro y0 y1 y2
      unfold ar
      exact xmo
theorem dK : ∀ a0 a1 k, LeO (a8 k a0 a1) (a8 (k + 1) a0 a1) := by
  intro a0 a1 k
  have ih0 := ct k
  unfold a8
  exact xmo
theorem dD (k : Nat) (a0 : ByteArray) (a1 : Int) (r : Int) (w : World) (h : a8 k a0 a1 = some r) :
    Calls Tryd.prog 53 #[.string a0, .int .u8 a1] w fun e w' => e = .returned (.int .i64 r) ∧ Drawn0 w w' := by
 have H : (ar k a0 a1 (wrap64 ((a0.size : Int) - 1))) = some r := h
 clear h
 have H' := Zz.mk H
 clear H
 go_enter Tryd.func53, Tryd.ntmps53
 go_wp2
 go_loopg [5] k (fun kq v5 w' => ∃ (Aa : Int), v5 = .int .i64 Aa ∧ Zz (ar kq a0 a1 Aa = some r) ∧ Zz (kq ≤ k) ∧ Drawn0 w w')
 case atStart => exact ⟨(wrap64 ((a0.size : Int) - 1)), xrr, H', ⟨Nat.le_refl _⟩, xdr⟩
 case round =>
  clear H'
  obtain ⟨Aa, rfl, HA, HK1, ⟨m1, rfl⟩⟩ := hrel
  cases gk with
  | zero => exact absurd HA.out (by simp [ar])
  | succ k1 =>
   have H := HA.out
   clear HA
   simp only [ar] at H
   by_cases c3 : Aa ≥ 0
   ·
    rw [if_pos c3] at H
    have Ab := decide_eq_true c3
    clear c3
    by_cases c4 : 0 ≤ Aa
    ·
     rw [if_pos c4] at H
     have Af := decide_eq_true c4
     clear c4
     by_cases c5 : Aa < (a0.size : Int)
     ·
      rw [if_pos c5] at H
      have Ag := decide_eq_true c5
      clear c5
      by_cases c7 : (bt a0 Aa) = a1
      ·
       rw [if_pos c7] at H
       have Ac : ((bt a0 Aa) == a1) = true := beq_iff_eq.mpr c7
       have Ad : ((bt a0 Aa) != a1) = false := bne_eq_false_iff_eq.mpr c7
       clear c7
       obtain rfl := Option.some.inj H
       have p6 : 0 ≤ (Aa : Int) := xod
       have q6 : Aa < (a0.size : Int) := xod
       have hx6 := aD a0 Aa
       replace p6 := eq_true p6
       replace q6 := eq_true q6
       try (have Ae := q6; simp only [ByteArray.size_extract, Nat.min_self] at Ae)
       go_wp2
       go_ret
       exact ⟨xrr, xdr⟩
      ·
       rw [if_neg c7] at H
       have Ac : ((bt a0 Aa) == a1) = false := beq_eq_false_iff_ne.mpr c7
       have Ad : ((bt a0 Aa) != a1) = true := bne_iff_ne.mpr c7
       have H' := Zz.mk H
       clear H
       have p6 : 0 ≤ (Aa : Int) := xod
       have q6 : Aa < (a0.size : Int) := xod
       have hx6 := aD a0 Aa
       replace p6 := eq_true p6
       replace q6 := eq_true q6
       try (have Ae := q6; simp only [ByteArray.size_extract, Nat.min_self] at Ae)
       go_wp2
       go_roundg k1
       case measure => have := HK1.out; omega
       case rel => exact ⟨(wrap64 (Aa - 1)), xrr, H', ⟨by have := HK1.out; omega⟩, xdr⟩
     ·
      rw [if_neg c5] at H
      exact absurd H (by simp)
    ·
     rw [if_neg c4] at H
     exact absurd H (by simp)
   ·
    rw [if_neg c3] at H
    have Ab := decide_eq_false c3
    clear c3
    obtain rfl := Option.some.inj H
    go_wp2
    go_ret
    exact ⟨xrr, xdr⟩
def bx (k : Nat) (a0 : ByteArray) (a1 : Int) : Option (Int) := (a8 k a0 a1).bind fun t179 => (some t179)
theorem e8 : ∀ a0 a1 k, LeO (bx k a0 a1) (bx (k + 1) a0 a1) := by
  intro a0 a1 k
  have m0 := @dK
  unfold bx
  exact xmo
theorem dh (k : Nat) (a0 : ByteArray) (a1 : Int) (r : Int) (w : World) (h : bx k a0 a1 = some r) :
    Calls Tryd.prog 37 #[.string a0, .int .u8 a1] w fun e w' => e = .returned (.int .i64 r) ∧ Drawn0 w w' := by
 have H : ((a8 k a0 a1).bind fun t179 => (some t179)) = some r := h
 clear h
 replace H := Option.bind_eq_some_iff.mp H
 obtain ⟨t179, A30, H⟩ := H
 try dsimp only at H
 have A3 := Zz.mk A30
 clear A30
 obtain rfl := Option.some.inj H
 go_enter Tryd.func37, Tryd.ntmps37
 go_wp2_with (first | ((with_reducible refine ae (f := 53) rfl ?_); refine xgl 7 Tryd.func53 #[.string a0, .int .u8 a1] ?_; (with_reducible refine (dD k a0 a1 t179 _ A3.out).mono ?_); rintro e w' ⟨rfl, ⟨nd, rfl⟩⟩; refine ⟨_, rfl, ?_⟩))
 go_ret
 exact ⟨xrr, xdr⟩
def cp (k : Nat) (Ac : Bool) (l0_1 : List ByteArray) : Option (ByteArray) := (dO Ac l0_1).bind fun Aa => ((bx k Aa 46).bind fun Ab => (if Ab > 0 then (if 0 ≤ (wrap64 (Ab + 1)) then (if (wrap64 (Ab + 1)) ≤ (Aa.size : Int) then (some (Aa.extract ((wrap64 (Ab + 1)) : Int).toNat Aa.size)) else (none)) else (none)) else (some (⟨#[]⟩ : ByteArray))))
theorem gU : ∀ a0 a1 k, LeO (cp k a0 a1) (cp (k + 1) a0 a1) := by
  intro a0 a1 k
  have m0 := @e8
  unfold cp
  exact xmo
theorem eC (k : Nat) (Ac : Bool) (A0_1 : Option Addr) (c0_1 : Nat) (l0_1 : List ByteArray) (r : ByteArray) (w : World) (hr0_1 : Kd.C Kd.string w A0_1 l0_1.length l0_1) (hc0_1 : l0_1.length ≤ c0_1) (h : cp k Ac l0_1 = some r) :
    Calls Tryd.prog 21 #[.agg #[.bool Ac, .slice A0_1 l0_1.length c0_1]] w fun e w' => e = .returned (.string r) ∧ Below w.heap.size w w' := by
 have hu25 := Tryd.underlying25
 have HR0_1 := Zz.mk hr0_1
 have HC0_1 := Zz.mk hc0_1
 clear hr0_1 hc0_1
 have HB := Zz.mk (Below.refl w.heap.size w)
 have H : ((dO Ac l0_1).bind fun Aa => ((bx k Aa 46).bind fun Ad => (if Ad > 0 then (if 0 ≤ (wrap64 (Ad + 1)) then (if (wrap64 (Ad + 1)) ≤ (Aa.size : Int) then (some (Aa.extract ((wrap64 (Ad + 1)) : Int).toNat Aa.size)) else (none)) else (none)) else (some (⟨#[]⟩ : ByteArray))))) = some r := h
 clear h
 replace H := Option.bind_eq_some_iff.mp H
 obtain ⟨Aa, A20, H⟩ := H
 try dsimp only at H
 have A2 := Zz.mk A20
 clear A20
 replace H := Option.bind_eq_some_iff.mp H
 obtain ⟨Ad, A30, H⟩ := H
 try dsimp only at H
 have A3 := Zz.mk A30
 clear A30
 by_cases c4 : Ad > 0
 ·
  rw [if_pos c4] at H
  have Al := decide_eq_true c4
  clear c4
  obtain ⟨Ak, Ae⟩ : ∃ j_ : Int, (wrap64 (Ad + 1)) = j_ := ⟨_, rfl⟩
  first | rw [Ae] at H | simp only [Ae] at H | skip
  (try rw [Ae] at A2)
  (try rw [Ae] at A3)
  have Am : (IntKind.i64.wrap (Ad + 1)) = Ak := (an _).trans Ae
  by_cases c6 : 0 ≤ (Ak)
  ·
   rw [if_pos c6] at H
   have An := eq_true c6
   have Ao := decide_eq_true c6
   clear c6
   by_cases c7 : (Ak) ≤ (Aa.size : Int)
   ·
    rw [if_pos c7] at H
    have Ap := eq_true c7
    have Aq := decide_eq_true c7
    clear c7
    obtain ⟨Ar, Af⟩ : ∃ j_ : ByteArray, (Aa.extract ((Ak) : Int).toNat Aa.size) = j_ := ⟨_, rfl⟩
    try (have Ai := Af; simp only [Int.toNat_natCast] at Ai)
    first | rw [Af] at H | simp only [Af] at H | skip
    (try rw [Af] at A2)
    (try rw [Af] at A3)
    obtain rfl := Option.some.inj H
    go_enter Tryd.func21, Tryd.ntmps21
    go_wp2_with (first | ((with_reducible refine ak (N := 1) rfl ?_); refine xev 1 #[.bool Ac, .slice A0_1 l0_1.length c0_1] 25 ?_; intro Ag hg w9 hbox hb; have Ab := Zz.mk (hbox); have Ah := xsz hg; have Aj := Ah; replace HB := xst hb; clear hb hbox hg; obtain ⟨hcz10_0, hcz10_1⟩ := xc2 Ab; have hfz10_0 := xf Ab 0; have hfz10_1 := xf Ab 1) | ((with_reducible refine ae (f := 20) rfl ?_); refine xgl 6 Tryd.func20 #[.agg #[.bool Ac, .slice A0_1 l0_1.length c0_1]] ?_; (with_reducible refine (eu Ac _ _ l0_1 Aa _ ?side1 ?side2 A2.out).mono ?_); (case side1 => repeat (first | exact (Kd.C_below HR0_1.out HB.out) | (with_reducible refine Kd.C_alloc ?_ _) | (with_reducible refine Kd.C_drewN ?_ _) | (with_reducible refine Kd.C_drew ?_))); (case side2 => exact HC0_1.out); rintro e w11 ⟨rfl, hb⟩; refine ⟨_, rfl, ?_⟩; replace Ab := xbb (g := Ag) (o := .cells #[.bool Ac, .slice A0_1 l0_1.length c0_1] 25 (0, 0)) hb; replace HB := xst hb; (try clear hb)) | ((with_reducible refine ae (f := 37) rfl ?_); refine xgl 8 Tryd.func37 #[.string Aa, .int .u8 46] ?_; (with_reducible refine (dh k Aa 46 Ad _ A3.out).mono ?_); rintro e w' ⟨rfl, ⟨nd, rfl⟩⟩; refine ⟨_, rfl, ?_⟩))
    go_ret
    exact ⟨by first | rfl | (simp [aN, aQ] <;> first | rfl | (simp only [ck, bne, Bool.not_not]; done)) | (simp only [← Ae, ← Af]; first | rfl | (simp [aN, aQ] <;> rfl)) | (simp [*, aN, aQ] <;> rfl), xbl⟩
   ·
    rw [if_neg c7] at H
    exact absurd H (by simp)
  ·
   rw [if_neg c6] at H
   exact absurd H (by simp)
 ·
  rw [if_neg c4] at H
  have Al := decide_eq_false c4
  clear c4
  obtain rfl := Option.some.inj H
  go_enter Tryd.func21, Tryd.ntmps21
  go_wp2_with (first | ((with_reducible refine ak (N := 1) rfl ?_); refine xev 1 #[.bool Ac, .slice A0_1 l0_1.length c0_1] 25 ?_; intro Ag hg w12 hbox hb; have Ab := Zz.mk (hbox); have Ah := xsz hg; have Aj := Ah; replace HB := xst hb; clear hb hbox hg; obtain ⟨hcz13_0, hcz13_1⟩ := xc2 Ab; have hfz13_0 := xf Ab 0; have hfz13_1 := xf Ab 1) | ((with_reducible refine ae (f := 20) rfl ?_); refine xgl 6 Tryd.func20 #[.agg #[.bool Ac, .slice A0_1 l0_1.length c0_1]] ?_; (with_reducible refine (eu Ac _ _ l0_1 Aa _ ?side1 ?side2 A2.out).mono ?_); (case side1 => repeat (first | exact (Kd.C_below HR0_1.out HB.out) | (with_reducible refine Kd.C_alloc ?_ _) | (with_reducible refine Kd.C_drewN ?_ _) | (with_reducible refine Kd.C_drew ?_))); (case side2 => exact HC0_1.out); rintro e w14 ⟨rfl, hb⟩; refine ⟨_, rfl, ?_⟩; replace Ab := xbb (g := Ag) (o := .cells #[.bool Ac, .slice A0_1 l0_1.length c0_1] 25 (0, 0)) hb; replace HB := xst hb; (try clear hb)) | ((with_reducible refine ae (f := 37) rfl ?_); refine xgl 8 Tryd.func37 #[.string Aa, .int .u8 46] ?_; (with_reducible refine (dh k Aa 46 Ad _ A3.out).mono ?_); rintro e w' ⟨rfl, ⟨nd, rfl⟩⟩; refine ⟨_, rfl, ?_⟩))
  go_ret
  exact ⟨xre, xbl⟩
def aE (k : Nat)  : Option (Bool) := (bF k (⟨#[47, 97, 37, 50, 70, 98, 47, 99, 46, 120]⟩ : ByteArray)).bind fun Aa => (if Aa.2.2 = 0 then (if Aa.1 = true then (if (Aa.2.1.length : Int) = 2 then (if 0 < (Aa.2.1.length : Int) then (if (al ByteArray.empty Aa.2.1 0).toList = ([97, 47, 98] : List UInt8) then ((cp k Aa.1 Aa.2.1).bind fun Ab => (if Ab.toList = ([120] : List UInt8) then ((bn k Aa.1 Aa.2.1).bind fun Ac => (some (Ac.toList == ([47, 97, 37, 50, 70, 98, 47, 99, 46, 120] : List UInt8)))) else (some false))) else (some false)) else (none)) else (some false)) else (some false)) else (some false))
theorem fF : ∀ k, LeO (aE k ) (aE (k + 1) ) := by
  intro  k
  have m0 := @iG; have m1 := @gU; have m2 := @gG
  unfold aE
  exact xmo
theorem dz (k : Nat)  (r : Bool) (w : World) (hG : GW w) (h : aE k  = some r) :
    Calls Tryd.prog 7 #[] w fun e w' => e = .returned (.bool r) ∧ Below w.heap.size w w' := by
 have hu25 := Tryd.underlying25
 have HB := Zz.mk (Below.refl w.heap.size w)
 have H : ((bF k (⟨#[47, 97, 37, 50, 70, 98, 47, 99, 46, 120]⟩ : ByteArray)).bind fun Ah => (if Ah.2.2 = 0 then (if Ah.1 = true then (if (Ah.2.1.length : Int) = 2 then (if 0 < (Ah.2.1.length : Int) then (if (al ByteArray.empty Ah.2.1 0).toList = ([97, 47, 98] : List UInt8) then ((cp k Ah.1 Ah.2.1).bind fun Aj => (if Aj.toList = ([120] : List UInt8) then ((bn k Ah.1 Ah.2.1).bind fun Am => (some (Am.toList == ([47, 97, 37, 50, 70, 98, 47, 99, 46, 120] : List UInt8)))) else (some false))) else (some false)) else (none)) else (some false)) else (some false)) else (some false))) = some r := h
 clear h
 replace H := Option.bind_eq_some_iff.mp H
 obtain ⟨⟨An, Ae, Ai⟩, A10, H⟩ := H
 try dsimp only at H
 have A1 := Zz.mk A10
 clear A10
 by_cases c2 : Ai = 0
 ·
  rw [if_pos c2] at H
  have Ao : (Ai == 0) = true := beq_iff_eq.mpr c2
  have Ap : (Ai != 0) = false := bne_eq_false_iff_eq.mpr c2
  clear c2
  by_cases c3 : An = true
  ·
   subst c3
   rw [if_pos rfl] at H
   by_cases c4 : (Ae.length : Int) = 2
   ·
    rw [if_pos c4] at H
    have Aq : ((Ae.length : Int) == 2) = true := beq_iff_eq.mpr c4
    have Ar : ((Ae.length : Int) != 2) = false := bne_eq_false_iff_eq.mpr c4
    clear c4
    by_cases c5 : 0 < (Ae.length : Int)
    ·
     rw [if_pos c5] at H
     have Aw := decide_eq_true c5
     have Ax : decide (0 < Ae.length) = true := decide_eq_true (by omega)
     clear c5
     by_cases c6 : (al ByteArray.empty Ae 0).toList = ([97, 47, 98] : List UInt8)
     ·
      rw [if_pos c6] at H
      have As : ((al ByteArray.empty Ae 0).toList == ([97, 47, 98] : List UInt8)) = true := beq_iff_eq.mpr c6
      have At : ((al ByteArray.empty Ae 0).toList != ([97, 47, 98] : List UInt8)) = false := bne_eq_false_iff_eq.mpr c6
      clear c6
      replace H := Option.bind_eq_some_iff.mp H
      obtain ⟨Aj, A70, H⟩ := H
      try dsimp only at H
      have A7 := Zz.mk A70
      clear A70
      by_cases c8 : Aj.toList = ([120] : List UInt8)
      ·
       rw [if_pos c8] at H
       have Au : (Aj.toList == ([120] : List UInt8)) = true := beq_iff_eq.mpr c8
       have Av : (Aj.toList != ([120] : List UInt8)) = false := bne_eq_false_iff_eq.mpr c8
       clear c8
       replace H := Option.bind_eq_some_iff.mp H
       obtain ⟨Am, A90, H⟩ := H
       try dsimp only at H
       have A9 := Zz.mk A90
       clear A90
       obtain rfl := Option.some.inj H
       go_enter Tryd.func7, Tryd.ntmps7
       go_wp2_with (first | ((with_reducible refine ae (f := 8) rfl ?_); refine xgl 4 Tryd.func8 #[.string (⟨#[47, 97, 37, 50, 70, 98, 47, 99, 46, 120]⟩ : ByteArray)] ?_; (with_reducible refine (bX k (⟨#[47, 97, 37, 50, 70, 98, 47, 99, 46, 120]⟩ : ByteArray) true Ae Ai _ ?side1 A1.out).mono ?_); (case side1 => first | (with_reducible exact hG) | exact eR hG xbl); rintro e w10 ⟨v185, rfl, ho0, hb⟩; refine ⟨_, rfl, ?_⟩; have Aa := Zz.mk (Kd.R_lower ho0 (bh xbl)); replace HB := xst hb; (try clear hb); (try clear ho0)) | ((with_reducible refine ak (N := 1) rfl ?_); (try (refine cQ (by rfl) ?_; dsimp only)); refine xev 1 #[.bool false, .slice none 0 0] 25 ?_; intro Ad hg w11 hbox hb; have Ab := Zz.mk (hbox); have Ag := xsz hg; have Ak := Ag; replace Aa := Zz.mk (Kd.R_below (xkd Aa) hb); replace HB := xst hb; clear hb hbox hg; obtain ⟨hcz12_0, hcz12_1⟩ := xc2 Ab; have hfz12_0 := xf Ab 0; have hfz12_1 := xf Ab 1; obtain ⟨Ao13, co13, eo13⟩ := Kd.R_slice Aa.out; subst eo13; have p189 : 0 ≤ (0 : Int) := (by omega); have q189 : 0 < (Ae.length : Int) := xod; obtain ⟨Af, e189, Ac⟩ := Kd.at_string (Kd.R_reads' Aa.out).2.2 0 p189 q189; cases e189; have Al : (0 < Ae.length) = True := eq_true (by omega); (try rw [show ((0 : Int)).toNat = 0 from rfl] at Ac); (try rw [Addr.add_zero'] at Ac); have hn189_0 : Af.block ≠ Ad := Kd.own_blk (Kd.R_ne Aa.out Ab.out (by decide)); have hn189_1 : Af.block ≠ Ad := Kd.own_blk (Kd.R_ne Aa.out Ab.out (by decide)); replace Ac := (eD (p := ⟨Ad, 0, none⟩) (by first | (rw [bR]; exact hn189_0) | (show (Addr.add _ _).block ≠ _; rw [bR]; exact hn189_0) | exact hn189_0) (.bool true)).trans Ac; replace Ac := (eD (p := ⟨Ad, 1, none⟩) (by first | (rw [bR]; exact hn189_1) | (show (Addr.add _ _).block ≠ _; rw [bR]; exact hn189_1) | exact hn189_1) (.slice (some Af) Ae.length co13)).trans Ac; clear hn189_0; clear hn189_1; replace p189 := eq_true p189; replace q189 := eq_true q189) | (go_at_call 21; (with_reducible refine (eC k true _ _ Ae Aj _ ?side1 ?side2 A7.out).mono ?_); (case side1 => refine (Kd.R_reads' (e := 9) (base := w.heap.size) (ok := fun k_ => True) (n := Ae.length) (c := co13) ?_).2.2; exact (by (with_reducible repeat (first | apply Kd.R_alloc | apply Kd.R_drewN | apply Kd.R_drew)); exact (Kd.R_mono (Kd.R_far (p := ⟨Ad, 1, none⟩) (Kd.R_far (p := ⟨Ad, 0, none⟩) (Kd.R_types Aa.out Ab.out (by decide)) (fun _ hk => hk.2) (.bool true)) (fun _ hk => hk.2) (.slice (some Af) Ae.length co13)) (fun _ h_ => h_.1)))); (case side2 => exact (Kd.R_reads' Aa.out).2.1); rintro e w14 ⟨rfl, hb⟩; replace Aa := Zz.mk (Kd.R_below (by (with_reducible repeat (first | apply Kd.R_alloc | apply Kd.R_drewN | apply Kd.R_drew)); exact (Kd.R_mono (Kd.R_far (p := ⟨Ad, 1, none⟩) (Kd.R_far (p := ⟨Ad, 0, none⟩) (Kd.R_types Aa.out Ab.out (by decide)) (fun _ hk => hk.2) (.bool true)) (fun _ hk => hk.2) (.slice (some Af) Ae.length co13)) (fun _ h_ => h_.1))) hb); replace Ab := xbb (g := Ad) (o := .cells #[.bool true, .slice (some Af) Ae.length co13] 25 (0, 0)) hb; replace HB := xst hb; (try clear hb); obtain ⟨hcz15_0, hcz15_1⟩ := xc2 Ab; have hfz15_0 := xf Ab 0; have hfz15_1 := xf Ab 1) | (go_at_call 11; (with_reducible refine (ev k true _ _ Ae Am _ ?side1 ?side2 A9.out).mono ?_); (case side1 => repeat (first | exact (Kd.R_reads' Aa.out).2.2 | (with_reducible refine Kd.C_alloc ?_ _) | (with_reducible refine Kd.C_drewN ?_ _) | (with_reducible refine Kd.C_drew ?_))); (case side2 => exact (Kd.R_reads' Aa.out).2.1); rintro e w16 ⟨rfl, hb⟩; replace Aa := Zz.mk (Kd.R_below (xkd Aa) hb); replace Ab := xbb (g := Ad) (o := .cells #[.bool true, .slice (some Af) Ae.length co13] 25 (0, 0)) hb; replace HB := xst hb; (try clear hb)))
       go_ret
       exact ⟨xre, xbl⟩
      ·
       rw [if_neg c8] at H
       have Au : (Aj.toList == ([120] : List UInt8)) = false := beq_eq_false_iff_ne.mpr c8
       have Av : (Aj.toList != ([120] : List UInt8)) = true := bne_iff_ne.mpr c8
       obtain rfl := Option.some.inj H
       go_enter Tryd.func7, Tryd.ntmps7
       go_wp2_with (first | ((with_reducible refine ae (f := 8) rfl ?_); refine xgl 4 Tryd.func8 #[.string (⟨#[47, 97, 37, 50, 70, 98, 47, 99, 46, 120]⟩ : ByteArray)] ?_; (with_reducible refine (bX k (⟨#[47, 97, 37, 50, 70, 98, 47, 99, 46, 120]⟩ : ByteArray) true Ae Ai _ ?side1 A1.out).mono ?_); (case side1 => first | (with_reducible exact hG) | exact eR hG xbl); rintro e w17 ⟨v185, rfl, ho0, hb⟩; refine ⟨_, rfl, ?_⟩; have Aa := Zz.mk (Kd.R_lower ho0 (bh xbl)); replace HB := xst hb; (try clear hb); (try clear ho0)) | ((with_reducible refine ak (N := 1) rfl ?_); (try (refine cQ (by rfl) ?_; dsimp only)); refine xev 1 #[.bool false, .slice none 0 0] 25 ?_; intro Ad hg w18 hbox hb; have Ab := Zz.mk (hbox); have Ag := xsz hg; have Ak := Ag; replace Aa := Zz.mk (Kd.R_below (xkd Aa) hb); replace HB := xst hb; clear hb hbox hg; obtain ⟨hcz19_0, hcz19_1⟩ := xc2 Ab; have hfz19_0 := xf Ab 0; have hfz19_1 := xf Ab 1; obtain ⟨Ao20, co20, eo20⟩ := Kd.R_slice Aa.out; subst eo20; have p189 : 0 ≤ (0 : Int) := (by omega); have q189 : 0 < (Ae.length : Int) := xod; obtain ⟨Af, e189, Ac⟩ := Kd.at_string (Kd.R_reads' Aa.out).2.2 0 p189 q189; cases e189; have Al : (0 < Ae.length) = True := eq_true (by omega); (try rw [show ((0 : Int)).toNat = 0 from rfl] at Ac); (try rw [Addr.add_zero'] at Ac); have hn189_0 : Af.block ≠ Ad := Kd.own_blk (Kd.R_ne Aa.out Ab.out (by decide)); have hn189_1 : Af.block ≠ Ad := Kd.own_blk (Kd.R_ne Aa.out Ab.out (by decide)); replace Ac := (eD (p := ⟨Ad, 0, none⟩) (by first | (rw [bR]; exact hn189_0) | (show (Addr.add _ _).block ≠ _; rw [bR]; exact hn189_0) | exact hn189_0) (.bool true)).trans Ac; replace Ac := (eD (p := ⟨Ad, 1, none⟩) (by first | (rw [bR]; exact hn189_1) | (show (Addr.add _ _).block ≠ _; rw [bR]; exact hn189_1) | exact hn189_1) (.slice (some Af) Ae.length co20)).trans Ac; clear hn189_0; clear hn189_1; replace p189 := eq_true p189; replace q189 := eq_true q189) | (go_at_call 21; (with_reducible refine (eC k true _ _ Ae Aj _ ?side1 ?side2 A7.out).mono ?_); (case side1 => refine (Kd.R_reads' (e := 9) (base := w.heap.size) (ok := fun k_ => True) (n := Ae.length) (c := co20) ?_).2.2; exact (by (with_reducible repeat (first | apply Kd.R_alloc | apply Kd.R_drewN | apply Kd.R_drew)); exact (Kd.R_mono (Kd.R_far (p := ⟨Ad, 1, none⟩) (Kd.R_far (p := ⟨Ad, 0, none⟩) (Kd.R_types Aa.out Ab.out (by decide)) (fun _ hk => hk.2) (.bool true)) (fun _ hk => hk.2) (.slice (some Af) Ae.length co20)) (fun _ h_ => h_.1)))); (case side2 => exact (Kd.R_reads' Aa.out).2.1); rintro e w21 ⟨rfl, hb⟩; replace Aa := Zz.mk (Kd.R_below (by (with_reducible repeat (first | apply Kd.R_alloc | apply Kd.R_drewN | apply Kd.R_drew)); exact (Kd.R_mono (Kd.R_far (p := ⟨Ad, 1, none⟩) (Kd.R_far (p := ⟨Ad, 0, none⟩) (Kd.R_types Aa.out Ab.out (by decide)) (fun _ hk => hk.2) (.bool true)) (fun _ hk => hk.2) (.slice (some Af) Ae.length co20)) (fun _ h_ => h_.1))) hb); replace Ab := xbb (g := Ad) (o := .cells #[.bool true, .slice (some Af) Ae.length co20] 25 (0, 0)) hb; replace HB := xst hb; (try clear hb)))
       go_ret
       exact ⟨xre, xbl⟩
     ·
      rw [if_neg c6] at H
      have As : ((al ByteArray.empty Ae 0).toList == ([97, 47, 98] : List UInt8)) = false := beq_eq_false_iff_ne.mpr c6
      have At : ((al ByteArray.empty Ae 0).toList != ([97, 47, 98] : List UInt8)) = true := bne_iff_ne.mpr c6
      obtain rfl := Option.some.inj H
      go_enter Tryd.func7, Tryd.ntmps7
      go_wp2_with (first | ((with_reducible refine ae (f := 8) rfl ?_); refine xgl 4 Tryd.func8 #[.string (⟨#[47, 97, 37, 50, 70, 98, 47, 99, 46, 120]⟩ : ByteArray)] ?_; (with_reducible refine (bX k (⟨#[47, 97, 37, 50, 70, 98, 47, 99, 46, 120]⟩ : ByteArray) true Ae Ai _ ?side1 A1.out).mono ?_); (case side1 => first | (with_reducible exact hG) | exact eR hG xbl); rintro e w22 ⟨v185, rfl, ho0, hb⟩; refine ⟨_, rfl, ?_⟩; have Aa := Zz.mk (Kd.R_lower ho0 (bh xbl)); replace HB := xst hb; (try clear hb); (try clear ho0)) | ((with_reducible refine ak (N := 1) rfl ?_); (try (refine cQ (by rfl) ?_; dsimp only)); refine xev 1 #[.bool false, .slice none 0 0] 25 ?_; intro Ad hg w23 hbox hb; have Ab := Zz.mk (hbox); have Ag := xsz hg; have Ak := Ag; replace Aa := Zz.mk (Kd.R_below (xkd Aa) hb); replace HB := xst hb; clear hb hbox hg; obtain ⟨hcz24_0, hcz24_1⟩ := xc2 Ab; have hfz24_0 := xf Ab 0; have hfz24_1 := xf Ab 1; obtain ⟨Ao25, co25, eo25⟩ := Kd.R_slice Aa.out; subst eo25; have p189 : 0 ≤ (0 : Int) := (by omega); have q189 : 0 < (Ae.length : Int) := xod; obtain ⟨Af, e189, Ac⟩ := Kd.at_string (Kd.R_reads' Aa.out).2.2 0 p189 q189; cases e189; have Al : (0 < Ae.length) = True := eq_true (by omega); (try rw [show ((0 : Int)).toNat = 0 from rfl] at Ac); (try rw [Addr.add_zero'] at Ac); have hn189_0 : Af.block ≠ Ad := Kd.own_blk (Kd.R_ne Aa.out Ab.out (by decide)); have hn189_1 : Af.block ≠ Ad := Kd.own_blk (Kd.R_ne Aa.out Ab.out (by decide)); replace Ac := (eD (p := ⟨Ad, 0, none⟩) (by first | (rw [bR]; exact hn189_0) | (show (Addr.add _ _).block ≠ _; rw [bR]; exact hn189_0) | exact hn189_0) (.bool true)).trans Ac; replace Ac := (eD (p := ⟨Ad, 1, none⟩) (by first | (rw [bR]; exact hn189_1) | (show (Addr.add _ _).block ≠ _; rw [bR]; exact hn189_1) | exact hn189_1) (.slice (some Af) Ae.length co25)).trans Ac; clear hn189_0; clear hn189_1; replace p189 := eq_true p189; replace q189 := eq_true q189))
      go_ret
      exact ⟨xre, xbl⟩
    ·
     rw [if_neg c5] at H
     exact absurd H (by simp)
   ·
    rw [if_neg c4] at H
    have Aq : ((Ae.length : Int) == 2) = false := beq_eq_false_iff_ne.mpr c4
    have Ar : ((Ae.length : Int) != 2) = true := bne_iff_ne.mpr c4
    obtain rfl := Option.some.inj H
    go_enter Tryd.func7, Tryd.ntmps7
    go_wp2_with (first | ((with_reducible refine ae (f := 8) rfl ?_); refine xgl 4 Tryd.func8 #[.string (⟨#[47, 97, 37, 50, 70, 98, 47, 99, 46, 120]⟩ : ByteArray)] ?_; (with_reducible refine (bX k (⟨#[47, 97, 37, 50, 70, 98, 47, 99, 46, 120]⟩ : ByteArray) true Ae Ai _ ?side1 A1.out).mono ?_); (case side1 => first | (with_reducible exact hG) | exact eR hG xbl); rintro e w26 ⟨v185, rfl, ho0, hb⟩; refine ⟨_, rfl, ?_⟩; have Aa := Zz.mk (Kd.R_lower ho0 (bh xbl)); replace HB := xst hb; (try clear hb); (try clear ho0)) | ((with_reducible refine ak (N := 1) rfl ?_); (try (refine cQ (by rfl) ?_; dsimp only)); refine xev 1 #[.bool false, .slice none 0 0] 25 ?_; intro Ad hg w27 hbox hb; have Ab := Zz.mk (hbox); have Ag := xsz hg; have Ak := Ag; replace Aa := Zz.mk (Kd.R_below (xkd Aa) hb); replace HB := xst hb; clear hb hbox hg; obtain ⟨hcz28_0, hcz28_1⟩ := xc2 Ab; have hfz28_0 := xf Ab 0; have hfz28_1 := xf Ab 1; obtain ⟨Ao29, co29, eo29⟩ := Kd.R_slice Aa.out; subst eo29))
    go_ret
    exact ⟨xre, xbl⟩
  ·
   replace c3 := Bool.eq_false_iff.mpr c3
   subst c3
   rw [if_neg (show ¬ (false = true) by decide)] at H
   obtain rfl := Option.some.inj H
   go_enter Tryd.func7, Tryd.ntmps7
   go_wp2_with (first | ((with_reducible refine ae (f := 8) rfl ?_); refine xgl 4 Tryd.func8 #[.string (⟨#[47, 97, 37, 50, 70, 98, 47, 99, 46, 120]⟩ : ByteArray)] ?_; (with_reducible refine (bX k (⟨#[47, 97, 37, 50, 70, 98, 47, 99, 46, 120]⟩ : ByteArray) false Ae Ai _ ?side1 A1.out).mono ?_); (case side1 => first | (with_reducible exact hG) | exact eR hG xbl); rintro e w30 ⟨v185, rfl, ho0, hb⟩; refine ⟨_, rfl, ?_⟩; have Aa := Zz.mk (Kd.R_lower ho0 (bh xbl)); replace HB := xst hb; (try clear hb); (try clear ho0)) | ((with_reducible refine ak (N := 1) rfl ?_); (try (refine cQ (by rfl) ?_; dsimp only)); refine xev 1 #[.bool false, .slice none 0 0] 25 ?_; intro Ad hg w31 hbox hb; have Ab := Zz.mk (hbox); have Ag := xsz hg; have Ak := Ag; replace Aa := Zz.mk (Kd.R_below (xkd Aa) hb); replace HB := xst hb; clear hb hbox hg; obtain ⟨hcz32_0, hcz32_1⟩ := xc2 Ab; have hfz32_0 := xf Ab 0; have hfz32_1 := xf Ab 1; obtain ⟨Ao33, co33, eo33⟩ := Kd.R_slice Aa.out; subst eo33))
   go_ret
   exact ⟨xre, xbl⟩
 ·
  rw [if_neg c2] at H
  have Ao : (Ai == 0) = false := beq_eq_false_iff_ne.mpr c2
  have Ap : (Ai != 0) = true := bne_iff_ne.mpr c2
  obtain rfl := Option.some.inj H
  go_enter Tryd.func7, Tryd.ntmps7
  go_wp2_with (first | ((with_reducible refine ae (f := 8) rfl ?_); refine xgl 4 Tryd.func8 #[.string (⟨#[47, 97, 37, 50, 70, 98, 47, 99, 46, 120]⟩ : ByteArray)] ?_; (with_reducible refine (bX k (⟨#[47, 97, 37, 50, 70, 98, 47, 99, 46, 120]⟩ : ByteArray) An Ae Ai _ ?side1 A1.out).mono ?_); (case side1 => first | (with_reducible exact hG) | exact eR hG xbl); rintro e w34 ⟨v185, rfl, ho0, hb⟩; refine ⟨_, rfl, ?_⟩; have Aa := Zz.mk (Kd.R_lower ho0 (bh xbl)); replace HB := xst hb; (try clear hb); (try clear ho0)) | ((with_reducible refine ak (N := 1) rfl ?_); (try (refine cQ (by rfl) ?_; dsimp only)); refine xev 1 #[.bool false, .slice none 0 0] 25 ?_; intro Ad hg w35 hbox hb; have Ab := Zz.mk (hbox); have Ag := xsz hg; have Ak := Ag; replace Aa := Zz.mk (Kd.R_below (xkd Aa) hb); replace HB := xst hb; clear hb hbox hg; obtain ⟨hcz36_0, hcz36_1⟩ := xc2 Ab; have hfz36_0 := xf Ab 0; have hfz36_1 := xf Ab 1; obtain ⟨Ao37, co37, eo37⟩ := Kd.R_slice Aa.out; subst eo37))
  go_ret
  exact ⟨xre, xbl⟩
def dU : Nat → Int → Int → Option (Int)
  | 0, _, _ => none
  | k + 1, x0, x3 => if x3 < 16 then (if 0 ≤ x3 then (if x0 = (bt (⟨#[48, 49, 50, 51, 52, 53, 54, 55, 56, 57, 65, 66, 67, 68, 69, 70]⟩ : ByteArray) x3) then (some x3) else (if x0 = (bt (⟨#[48, 49, 50, 51, 52, 53, 54, 55, 56, 57, 97, 98, 99, 100, 101, 102]⟩ : ByteArray) x3) then (some x3) else (dU k x0 (wrap64 (x3 + 1))))) else (none)) else (some (-1))
def ek (k : Nat) (a0 : Int) : Option (Int) := dU k a0 0
def cR : Nat → ByteArray → Int → Bool → Option (Int)
  | 0, _, _, _ => none
  | k + 1, x0, x1, x27 => if x27 = true then (some (-1)) else (if 0 ≤ (wrap64 (x1 + 1)) then (if (wrap64 (x1 + 1)) < (x0.size : Int) then ((ek k (bt x0 (wrap64 (x1 + 1)))).bind fun t192 => (if 0 ≤ (wrap64 (x1 + 2)) then (if (wrap64 (x1 + 2)) < (x0.size : Int) then ((ek k (bt x0 (wrap64 (x1 + 2)))).bind fun t193 => (if t192 < 0 then (some (-1)) else (if t193 < 0 then (some (-1)) else (some (wrap64 ((wrap64 (16 * t192)) + t193)))))) else (none)) else (none))) else (none)) else (none))
def fb (k : Nat) (a0 : ByteArray) (a1 : Int) : Option (Int) := if a1 < 0 then (cR k a0 a1 true) else (if a1 ≥ (a0.size : Int) then (cR k a0 a1 true) else (if (wrap64 ((a0.size : Int) - a1)) < 3 then (cR k a0 a1 true) else (if 0 ≤ a1 then (if a1 < (a0.size : Int) then (cR k a0 a1 ((bt a0 a1) != 37)) else (none)) else (none))))
def monikerref02_row_nums : List Int := [0, 127, 0, 0, 1, 194, 223, 128, 191, 2, 224, 224, 160, 191, 3, 225, 236, 128, 191, 3, 237, 237, 128, 159, 3, 238, 239, 128, 191, 3, 240, 240, 144, 191, 4, 241, 243, 128, 191, 4, 244, 244, 128, 143, 4]
def cg (i j : Nat) : Int := monikerref02_row_nums.getD (i * 5 + j) 0
def gQ (a0 : Int) : Option (Int × Int × Int × Int × Int) := if 0 ≤ a0 ∧ a0 < 9 then some (cg a0.toNat 0, cg a0.toNat 1, cg a0.toNat 2, cg a0.toNat 3, cg a0.toNat 4) else none
mutual
def di : Nat → ByteArray → Int → Int → Int → Int → Int → Int → Option (Int)
  | 0, _, _, _, _, _, _, _ => none
  | k + 1, x0, x5, Ab, Ac, Ad, Ae, Aa => if x5 < (x0.size : Int) then (el k x0 x5 (decide (x5 < Aa)) Ab Ac Ad Ae Aa) else (el k x0 x5 false Ab Ac Ad Ae Aa)
def el : Nat → ByteArray → Int → Bool → Int → Int → Int → Int → Int → Option (Int)
  | 0, _, _, _, _, _, _, _, _ => none
  | k + 1, x0, x5, Af, Aa, Ab, Ac, Ad, Ae => if Af = true then (if x5 = 0 then (en k x0 x5 Aa Ab Aa Ab Ac Ad Ae) else (en k x0 x5 128 191 Aa Ab Ac Ad Ae)) else (some x5)
def en : Nat → ByteArray → Int → Int → Int → Int → Int → Int → Int → Int → Option (Int)
  | 0, _, _, _, _, _, _, _, _, _ => none
  | k + 1, x0, x5, x6, x7, Ac, Ad, Aa, Ab, Ae => if x5 = 1 then (if 0 ≤ x5 then (if x5 < (x0.size : Int) then (if (wrap64 (bt x0 x5)) < Aa then (some x5) else (if (wrap64 (bt x0 x5)) > Ab then (some x5) else (di k x0 (wrap64 (x5 + 1)) Ac Ad Aa Ab Ae))) else (none)) else (none)) else (if 0 ≤ x5 then (if x5 < (x0.size : Int) then (if (wrap64 (bt x0 x5)) < x6 then (some x5) else (if (wrap64 (bt x0 x5)) > x7 then (some x5) else (di k x0 (wrap64 (x5 + 1)) Ac Ad Aa Ab Ae))) else (none)) else (none))
end
def gC (k : Nat) (a0 : ByteArray) (a1_0 : Int) (a1_1 : Int) (a1_2 : Int) (a1_3 : Int) (a1_4 : Int) : Option (Int) := di k a0 0 a1_0 a1_1 a1_2 a1_3 a1_4
mutual
def dV : Nat → ByteArray → Int → Option (Int)
  | 0, _, _ => none
  | k + 1, x0, x3 => if (x0.size : Int) = 4 then (if 0 < (x0.size : Int) then (dW k x0 (wrap64 ((wrap64 (bt x0 0)) - 240))) else (none)) else (dW k x0 x3)
def dW : Nat → ByteArray → Int → Option (Int)
  | 0, _, _ => none
  | k + 1, x0, x3 => dX k x0 x3 1
def dX : Nat → ByteArray → Int → Int → Option (Int)
  | 0, _, _, _ => none
  | k + 1, x0, x3, x4 => if x4 < (x0.size : Int) then (if 0 ≤ x4 then (dX k x0 (wrap64 ((wrap64 ((wrap64 (x3 * 64)) + (wrap64 (bt x0 x4)))) - 128)) (wrap64 (x4 + 1))) else (none)) else (some x3)
end
def gl (k : Nat) (a0 : ByteArray) : Option (Int) := if (a0.size : Int) = 1 then (if 0 < (a0.size : Int) then (some (wrap64 (bt a0 0))) else (none)) else (if 0 < (a0.size : Int) then (if (a0.size : Int) = 3 then (dV k a0 (wrap64 ((wrap64 (bt a0 0)) - 224))) else (dV k a0 (wrap64 ((wrap64 (bt a0 0)) - 192)))) else (none))
def dH : Nat → ByteArray → Int → Int → Option (Int × Int × Bool)
  | 0, _, _, _ => none
  | k + 1, x0, x3, x4 => if x4 < 9 then ((gQ x4).bind fun Aa => ((gC k x0 Aa.1 Aa.2.1 Aa.2.2.1 Aa.2.2.2.1 Aa.2.2.2.2).bind fun Ab => (if Ab = Aa.2.2.2.2 then (if 0 ≤ Ab then (if Ab ≤ (x0.size : Int) then ((gl k (x0.extract 0 (Ab : Int).toNat)).bind fun Ac => (some (Ac, Ab, true))) else (none)) else (none)) else (dH k x0 (mx x3 Ab) (wrap64 (x4 + 1)))))) else (some (0, x3, false))
def f5 (k : Nat) (a0 : ByteArray) : Option (Int × Int × Bool) := if a0.toList = ([] : List UInt8) then (some (0, 0, false)) else (dH k a0 1 0)
def be : Nat → Int → ByteArray → Int → Option (Bool)
  | 0, _, _, _ => none
  | k + 1, x0, x1, x5 => if x5 < (x1.size : Int) then (if 0 ≤ x5 then (if (bt x1 x5) = x0 then (some true) else (be k x0 x1 (wrap64 (x5 + 1)))) else (none)) else (some false)
def aq (k : Nat) (a0 : Int) (a1 : ByteArray) : Option (Bool) := be k a0 a1 0
theorem dG : ∀ k, (∀ y0 y1 y2, LeO (be k y0 y1 y2) (be (k + 1) y0 y1 y2))
  | 0 => fun _ _ _ r h => by simp [be] at h
  | k + 1 => by
    have ih0 := dG k
    · intro y0 y1 y2
      unfold be
      exact xmo
theorem ei : ∀ a0 a1 k, LeO (aq k a0 a1) (aq (k + 1) a0 a1) := by
  intro a0 a1 k
  have ih0 := dG k
  unfold aq
  exact xmo
theorem ay (k : Nat) (a0 : Int) (a1 : ByteArray) (r : Bool) (w : World) (h : aq k a0 a1 = some r) :
    Calls Tryd.prog 52 #[.int .u8 a0, .string a1] w fun e w' => e = .returned (.bool r) ∧ Drawn0 w w' := by
 have H : (be k a0 a1 0) = some r := h
 clear h
 have H' := Zz.mk H
 clear H
 go_enter Tryd.func52, Tryd.ntmps52
 go_wp2
 go_loopg [5] k (fun kq v5 w' => ∃ (Aa : Int), v5 = .int .i64 Aa ∧ Zz (be kq a0 a1 Aa = some r) ∧ Zz (kq ≤ k) ∧ Drawn0 w w')
 case atStart => exact ⟨(0), xrr, H', ⟨Nat.le_refl _⟩, xdr⟩
 case round =>
  clear H'
  obtain ⟨Aa, rfl, HA, HK1, ⟨m1, rfl⟩⟩ := hrel
  cases gk with
  | zero => exact absurd HA.out (by simp [be])
  | succ k1 =>
   have H := HA.out
   clear HA
   simp only [be] at H
   by_cases c3 : Aa < (a1.size : Int)
   ·
    rw [if_pos c3] at H
    have Ab := decide_eq_true c3
    clear c3
    by_cases c4 : 0 ≤ Aa
    ·
     rw [if_pos c4] at H
     have Af := decide_eq_true c4
     clear c4
     by_cases c6 : (bt a1 Aa) = a0
     ·
      rw [if_pos c6] at H
      have Ac : ((bt a1 Aa) == a0) = true := beq_iff_eq.mpr c6
      have Ad : ((bt a1 Aa) != a0) = false := bne_eq_false_iff_eq.mpr c6
      clear c6
      obtain rfl := Option.some.inj H
      have p5 : 0 ≤ (Aa : Int) := xod
      have q5 : Aa < (a1.size : Int) := xod
      have hx5 := aD a1 Aa
      replace p5 := eq_true p5
      replace q5 := eq_true q5
      try (have Ae := q5; simp only [ByteArray.size_extract, Nat.min_self] at Ae)
      go_wp2
      go_ret
      exact ⟨xrr, xdr⟩
     ·
      rw [if_neg c6] at H
      have Ac : ((bt a1 Aa) == a0) = false := beq_eq_false_iff_ne.mpr c6
      have Ad : ((bt a1 Aa) != a0) = true := bne_iff_ne.mpr c6
      have H' := Zz.mk H
      clear H
      have p5 : 0 ≤ (Aa : Int) := xod
      have q5 : Aa < (a1.size : Int) := xod
      have hx5 := aD a1 Aa
      replace p5 := eq_true p5
      replace q5 := eq_true q5
      try (have Ae := q5; simp only [ByteArray.size_extract, Nat.min_self] at Ae)
      go_wp2
      go_roundg k1
      case measure => have := HK1.out; omega
      case rel => exact ⟨(wrap64 (Aa + 1)), xrr, H', ⟨by have := HK1.out; omega⟩, xdr⟩
    ·
     rw [if_neg c4] at H
     exact absurd H (by simp)
   ·
    rw [if_neg c3] at H
    have Ab := decide_eq_false c3
    clear c3
    obtain rfl := Option.some.inj H
    go_wp2
    go_ret
    exact ⟨xrr, xdr⟩
end Go.Proofs.YtmofhijbheimmaaDoor.X
