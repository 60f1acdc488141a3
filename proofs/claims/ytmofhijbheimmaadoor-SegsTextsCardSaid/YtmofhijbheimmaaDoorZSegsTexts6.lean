/- Texts that the law's proof needs, joined by a program of this session. -/
import Derived.Test.YtmofhijbheimmaaDoorZSegsTexts0
import Derived.Test.YtmofhijbheimmaaDoorZSegsTexts1
import Derived.Test.YtmofhijbheimmaaDoorZSegsTexts2
import Derived.Test.YtmofhijbheimmaaDoorZSegsTexts4
import Derived.Test.YtmofhijbheimmaaDoorZSegsTexts5
import Derived.Lib.Bytealg
import Derived.Laws.Strings
import Derived.Lib.Split
import Derived.Lib.SplitLaws
import Derived.Lib.Join
set_option maxHeartbeats 8000000
set_option maxRecDepth 100000
set_option linter.unusedSimpArgs false
set_option linter.unusedVariables false
namespace Go.Proofs.YtmofhijbheimmaaDoor.X
open Go.RowKit Go.Proofs.YtmofhijbheimmaaDoorW.PrintWords Go.Proofs.YtmofhijbheimmaaDoorW.PrintLast Go.Proofs.YtmofhijbheimmaaDoorW.PrintMore
attribute [local go_sem] dg cP eb fs gc eQ ft eI eK fo fp dS dT eJ eL
def cw (a0_0 : Bool) (l0_1 : List ByteArray) : Option (Bool) := if a0_0 = true then (some (decide ((l0_1.length : Int) > 0))) else (if (l0_1.length : Int) = 0 then (some true) else (if 0 < (l0_1.length : Int) then (some ((al ByteArray.empty l0_1 0).toList != ([] : List UInt8))) else (none)))
theorem fy (Ad : Bool) (A0_1 : Option Addr) (c0_1 : Nat) (l0_1 : List ByteArray) (r : Bool) (w : World) (hr0_1 : Kd.C Kd.string w A0_1 l0_1.length l0_1) (hc0_1 : l0_1.length ≤ c0_1) (h : cw Ad l0_1 = some r) :
    Calls Tryd.prog 18 #[.agg #[.bool Ad, .slice A0_1 l0_1.length c0_1]] w fun e w' => e = .returned (.bool r) ∧ Below w.heap.size w w' := by
 have hu31 := Tryd.underlying31
 have HR0_1 := Zz.mk hr0_1
 have HC0_1 := Zz.mk hc0_1
 clear hr0_1 hc0_1
 have HB := Zz.mk (Below.refl w.heap.size w)
 have H : (if Ad = true then (some (decide ((l0_1.length : Int) > 0))) else (if (l0_1.length : Int) = 0 then (some true) else (if 0 < (l0_1.length : Int) then (some ((al ByteArray.empty l0_1 0).toList != ([] : List UInt8))) else (none)))) = some r := h
 clear h
 by_cases c2 : Ad = true
 ·
  subst c2
  rw [if_pos rfl] at H
  obtain rfl := Option.some.inj H
  go_enter Tryd.func18, Tryd.ntmps18
  go_wp2_with (first | ((with_reducible refine ak (N := 1) rfl ?_); refine xev 1 #[.bool true, .slice A0_1 l0_1.length c0_1] 31 ?_; intro Ae hg w3 hbox hb; have Aa := Zz.mk (hbox); have Ac := xsz hg; have Af := Ac; replace HB := xst hb; clear hb hbox hg; obtain ⟨hcz4_0, hcz4_1⟩ := xc2 Aa; have hfz4_0 := xf Aa 0; have hfz4_1 := xf Aa 1))
  go_ret
  exact ⟨xre, xbl⟩
 ·
  replace c2 := Bool.eq_false_iff.mpr c2
  subst c2
  rw [if_neg (show ¬ (false = true) by decide)] at H
  by_cases c5 : (l0_1.length : Int) = 0
  ·
   rw [if_pos c5] at H
   have Ag : ((l0_1.length : Int) == 0) = true := beq_iff_eq.mpr c5
   have Ah : ((l0_1.length : Int) != 0) = false := bne_eq_false_iff_eq.mpr c5
   clear c5
   obtain rfl := Option.some.inj H
   go_enter Tryd.func18, Tryd.ntmps18
   go_wp2_with (first | ((with_reducible refine ak (N := 1) rfl ?_); refine xev 1 #[.bool false, .slice A0_1 l0_1.length c0_1] 31 ?_; intro Ae hg w6 hbox hb; have Aa := Zz.mk (hbox); have Ac := xsz hg; have Af := Ac; replace HB := xst hb; clear hb hbox hg; obtain ⟨hcz7_0, hcz7_1⟩ := xc2 Aa; have hfz7_0 := xf Aa 0; have hfz7_1 := xf Aa 1))
   go_ret
   exact ⟨xre, xbl⟩
  ·
   rw [if_neg c5] at H
   have Ag : ((l0_1.length : Int) == 0) = false := beq_eq_false_iff_ne.mpr c5
   have Ah : ((l0_1.length : Int) != 0) = true := bne_iff_ne.mpr c5
   have Ak : ¬ (l0_1 = []) := fun h_ => c5 (by rw [h_]; rfl)
   by_cases c8 : 0 < (l0_1.length : Int)
   ·
    rw [if_pos c8] at H
    have Al := decide_eq_true c8
    have Am : decide (0 < l0_1.length) = true := decide_eq_true (by omega)
    clear c8
    obtain rfl := Option.some.inj H
    go_enter Tryd.func18, Tryd.ntmps18
    go_wp2_with (first | ((with_reducible refine ak (N := 1) rfl ?_); refine xev 1 #[.bool false, .slice A0_1 l0_1.length c0_1] 31 ?_; intro Ae hg w9 hbox hb; have Aa := Zz.mk (hbox); have Ac := xsz hg; have Af := Ac; replace HB := xst hb; clear hb hbox hg; obtain ⟨hcz10_0, hcz10_1⟩ := xc2 Aa; have hfz10_0 := xf Aa 0; have hfz10_1 := xf Aa 1; have p304 : 0 ≤ (0 : Int) := (by omega); have q304 : 0 < (l0_1.length : Int) := xod; obtain ⟨Ai, e304, Ab⟩ := Kd.at_string HR0_1.out 0 p304 q304; cases e304; have Aj : (0 < l0_1.length) = True := eq_true (by omega); (try rw [show ((0 : Int)).toNat = 0 from rfl] at Ab); (try rw [Addr.add_zero'] at Ab); replace Ab := (HB.out.cell (World.block_lt_of_cell? w _ Ab)).trans Ab; replace p304 := eq_true p304; replace q304 := eq_true q304))
    go_ret
    exact ⟨xre, xbl⟩
   ·
    rw [if_neg c8] at H
    exact absurd H (by simp)
def cI (k : Nat) (Aa : Bool) (l0_1 : List ByteArray) : Option (Bool) := (cK k Aa l0_1).bind fun Ad => (if Ad = true then ((aE k).bind fun Ae => (some Ae)) else ((bn k Aa l0_1).bind fun Ac => ((bF k Ac).bind fun Ab => ((b6 Aa l0_1).bind fun Af => ((ci k Af l0_1).bind fun Ag => (if Ac.toList = Ag.toList then ((bH Aa l0_1).bind fun Ah => ((b6 Aa l0_1).bind fun Ai => ((cw Ai l0_1).bind fun Aj => (if (Ah == Aj) = true then (if Ab.2.2 = 0 then ((cb k Ab.1 Ab.2.1 Aa l0_1).bind fun Ak => ((bH Aa l0_1).bind fun Al => (if (Ak == Al) = true then ((aE k).bind fun Am => (some Am)) else (none)))) else (none)) else (none))))) else (none)))))))
def dq : Bool × List (List Nat × List Nat) := (true, [([], []), ([], []), ([1], [1]), ([2, 2], [2]), ([0, 3], [0, 3]), ([4, 3], [4]), ([5], [5]), ([6, 5, 5], [5, 6]), ([5], [5]), ([8, 7, 5], [5, 8]), ([9, 9, 5], [5, 9]), ([7, 10, 5], [5, 7, 10]), ([5, 11], [5, 11]), ([12, 10], [12]), ([13], [13]), ([14, 13], [13, 14]), ([13, 15], [13, 15]), ([16, 13], [16]), ([17], [17]), ([17], [17]), ([18, 19, 17, 17], [17, 18, 19]), ([17], [17]), ([21, 20, 17], [17, 21]), ([20, 22, 17], [17, 20, 22]), ([17, 23], [17, 23]), ([24, 22], [24]), ([25, 25], [25]), ([25, 26], [25, 26]), ([27, 26, 0, 1, 2, 3, 4, 5, 6, 7, 8, 9, 10, 11, 12, 13, 14, 15, 16, 17, 18, 19, 20, 21, 22, 23, 24, 25, 26, 27], [27])])
def fk : List Nat := [0, 0, 2, 6, 15, 31, 63, 127, 63, 511, 1023, 2047, 4095, 8191, 16383, 32767, 65535, 131071, 262143, 262143, 1048575, 262143, 4194303, 8388607, 16777215, 33554431, 67108863, 134217727, 268435455]
theorem eW : cZ .any (nN Tryd.f4 5) = dq := by kernel_rfl
theorem eM : gb dq.2 fk = true := by kernel_rfl
theorem eN (k : Nat) (Ad : Bool) (A0_1 : Option Addr) (c0_1 : Nat) (l0_1 : List ByteArray) (r : Bool) (w : World) (hr0_1 : Kd.C Kd.string w A0_1 l0_1.length l0_1) (hc0_1 : l0_1.length ≤ c0_1) (hG : GW w) (h : cI k Ad l0_1 = some r) :
    Calls Tryd.prog 4 #[.agg #[.bool Ad, .slice A0_1 l0_1.length c0_1]] w fun e w' => e = .returned (.bool r) ∧ Below w.heap.size w w' := by
 have hu25 := Tryd.underlying25
 have HR0_1 := Zz.mk hr0_1
 have HC0_1 := Zz.mk hc0_1
 clear hr0_1 hc0_1
 have HB := Zz.mk (Below.refl w.heap.size w)
 have H : ((cK k Ad l0_1).bind fun Av => (if Av = true then ((aE k).bind fun Aw => (some Aw)) else ((bn k Ad l0_1).bind fun Aj => ((bF k Aj).bind fun Ar => ((b6 Ad l0_1).bind fun As => ((ci k As l0_1).bind fun Ao => (if Aj.toList = Ao.toList then ((bH Ad l0_1).bind fun Ak => ((b6 Ad l0_1).bind fun At => ((cw At l0_1).bind fun Al => (if (Ak == Al) = true then (if Ar.2.2 = 0 then ((cb k Ar.1 Ar.2.1 Ad l0_1).bind fun Am => ((bH Ad l0_1).bind fun An => (if (Am == An) = true then ((aE k).bind fun Ax => (some Ax)) else (none)))) else (none)) else (none))))) else (none)))))))) = some r := h
 clear h
 replace H := Option.bind_eq_some_iff.mp H
 obtain ⟨Av, A20, H⟩ := H
 try dsimp only at H
 have A2 := Zz.mk A20
 clear A20
 by_cases c3 : Av = true
 ·
  subst c3
  rw [if_pos rfl] at H
  replace H := Option.bind_eq_some_iff.mp H
  obtain ⟨Aw, A40, H⟩ := H
  try dsimp only at H
  have A4 := Zz.mk A40
  clear A40
  obtain rfl := Option.some.inj H
  go_enter Tryd.func4, Tryd.ntmps4
  go_wp2_with (first | ((with_reducible refine ak (N := 1) rfl ?_); refine xev 1 #[.bool Ad, .slice A0_1 l0_1.length c0_1] 25 ?_; intro Af hg w5 hbox hb; have Aa := Zz.mk (hbox); have Au := xsz hg; have Ay := Au; replace HB := xst hb; clear hb hbox hg; obtain ⟨hcz6_0, hcz6_1⟩ := xc2 Aa; have hfz6_0 := xf Aa 0; have hfz6_1 := xf Aa 1) | ((with_reducible refine ae (f := 15) rfl ?_); refine xgl 7 Tryd.func15 #[.agg #[.bool Ad, .slice A0_1 l0_1.length c0_1]] ?_; (with_reducible refine (dC k Ad _ _ l0_1 true _ ?side1 ?side2 A2.out).mono ?_); (case side1 => repeat (first | exact (Kd.C_below HR0_1.out HB.out) | (with_reducible refine Kd.C_alloc ?_ _) | (with_reducible refine Kd.C_drewN ?_ _) | (with_reducible refine Kd.C_drew ?_))); (case side2 => exact HC0_1.out); rintro e w7 ⟨rfl, hb⟩; refine ⟨_, rfl, ?_⟩; replace Aa := xbb (g := Af) (o := .cells #[.bool Ad, .slice A0_1 l0_1.length c0_1] 25 (0, 0)) hb; replace HB := xst hb; (try clear hb)) | ((with_reducible refine ae (f := 7) rfl ?_); refine xgl 8 Tryd.func7 #[] ?_; (with_reducible refine (dz k  Aw _ ?side1 A4.out).mono ?_); (case side1 => first | (with_reducible exact hG) | exact eR hG xbl); rintro e w8 ⟨rfl, hb⟩; refine ⟨_, rfl, ?_⟩; replace Aa := xbb (g := Af) (o := .cells #[.bool Ad, .slice A0_1 l0_1.length c0_1] 25 (0, 0)) hb; replace HB := xst hb; (try clear hb)))
  go_ret
  exact ⟨xre, xbl⟩
 ·
  replace c3 := Bool.eq_false_iff.mpr c3
  subst c3
  rw [if_neg (show ¬ (false = true) by decide)] at H
  replace H := Option.bind_eq_some_iff.mp H
  obtain ⟨Aj, A90, H⟩ := H
  try dsimp only at H
  have A9 := Zz.mk A90
  clear A90
  replace H := Option.bind_eq_some_iff.mp H
  obtain ⟨⟨Ah, Ag, Ap⟩, A100, H⟩ := H
  try dsimp only at H
  have A10 := Zz.mk A100
  clear A100
  replace H := Option.bind_eq_some_iff.mp H
  obtain ⟨As, A110, H⟩ := H
  try dsimp only at H
  have A11 := Zz.mk A110
  clear A110
  replace H := Option.bind_eq_some_iff.mp H
  obtain ⟨Ao, A120, H⟩ := H
  try dsimp only at H
  have A12 := Zz.mk A120
  clear A120
  by_cases c13 : Aj.toList = Ao.toList
  ·
   rw [if_pos c13] at H
   have Az : (Aj.toList == Ao.toList) = true := beq_iff_eq.mpr c13
   have AA : (Aj.toList != Ao.toList) = false := bne_eq_false_iff_eq.mpr c13
   clear c13
   replace H := Option.bind_eq_some_iff.mp H
   obtain ⟨Ak, A140, H⟩ := H
   try dsimp only at H
   have A14 := Zz.mk A140
   clear A140
   replace H := Option.bind_eq_some_iff.mp H
   obtain ⟨At, A150, H⟩ := H
   try dsimp only at H
   have A15 := Zz.mk A150
   clear A150
   replace H := Option.bind_eq_some_iff.mp H
   obtain ⟨Al, A160, H⟩ := H
   try dsimp only at H
   have A16 := Zz.mk A160
   clear A160
   by_cases c17 : (Ak == Al) = true
   ·
    rw [if_pos c17] at H
    have AB : (Ak == Al) = true := c17
    (try (have AC : decide (Ak = Al) = true := by simpa using c17))
    (try (have AD : (Ak == Al) = true := by simpa using c17))
    clear c17
    by_cases c18 : Ap = 0
    ·
     rw [if_pos c18] at H
     have AE : (Ap == 0) = true := beq_iff_eq.mpr c18
     have AF : (Ap != 0) = false := bne_eq_false_iff_eq.mpr c18
     clear c18
     replace H := Option.bind_eq_some_iff.mp H
     obtain ⟨Am, A190, H⟩ := H
     try dsimp only at H
     have A19 := Zz.mk A190
     clear A190
     replace H := Option.bind_eq_some_iff.mp H
     obtain ⟨An, A200, H⟩ := H
     try dsimp only at H
     have A20 := Zz.mk A200
     clear A200
     by_cases c21 : (Am == An) = true
     ·
      rw [if_pos c21] at H
      have AG : (Am == An) = true := c21
      (try (have AH : decide (Am = An) = true := by simpa using c21))
      (try (have AI : (Am == An) = true := by simpa using c21))
      clear c21
      replace H := Option.bind_eq_some_iff.mp H
      obtain ⟨Ax, A220, H⟩ := H
      try dsimp only at H
      have A22 := Zz.mk A220
      clear A220
      obtain rfl := Option.some.inj H
      go_enter Tryd.func4, Tryd.ntmps4
      try go_wp2_with (first | ((with_reducible refine ak (N := 1) rfl ?_); refine xev 1 #[.bool Ad, .slice A0_1 l0_1.length c0_1] 25 ?_; intro Af hg w23 hbox hb; have Aa := Zz.mk (hbox); have Au := xsz hg; have Ay := Au; replace HB := xst hb; clear hb hbox hg; obtain ⟨hcz24_0, hcz24_1⟩ := xc2 Aa; have hfz24_0 := xf Aa 0; have hfz24_1 := xf Aa 1) | ((with_reducible refine ae (f := 15) rfl ?_); refine xgl 7 Tryd.func15 #[.agg #[.bool Ad, .slice A0_1 l0_1.length c0_1]] ?_; (with_reducible refine (dC k Ad _ _ l0_1 false _ ?side1 ?side2 A2.out).mono ?_); (case side1 => repeat (first | exact (Kd.C_below HR0_1.out HB.out) | (with_reducible refine Kd.C_alloc ?_ _) | (with_reducible refine Kd.C_drewN ?_ _) | (with_reducible refine Kd.C_drew ?_))); (case side2 => exact HC0_1.out); rintro e w25 ⟨rfl, hb⟩; refine ⟨_, rfl, ?_⟩; replace Aa := xbb (g := Af) (o := .cells #[.bool Ad, .slice A0_1 l0_1.length c0_1] 25 (0, 0)) hb; replace HB := xst hb; (try clear hb); obtain ⟨hcz26_0, hcz26_1⟩ := xc2 Aa; have hfz26_0 := xf Aa 0; have hfz26_1 := xf Aa 1) | ((with_reducible refine ae (f := 11) rfl ?_); refine xgl 10 Tryd.func11 #[.agg #[.bool Ad, .slice A0_1 l0_1.length c0_1]] ?_; (with_reducible refine (ev k Ad _ _ l0_1 Aj _ ?side1 ?side2 A9.out).mono ?_); (case side1 => repeat (first | exact (Kd.C_below HR0_1.out HB.out) | (with_reducible refine Kd.C_alloc ?_ _) | (with_reducible refine Kd.C_drewN ?_ _) | (with_reducible refine Kd.C_drew ?_))); (case side2 => exact HC0_1.out); rintro e w27 ⟨rfl, hb⟩; refine ⟨_, rfl, ?_⟩; replace Aa := xbb (g := Af) (o := .cells #[.bool Ad, .slice A0_1 l0_1.length c0_1] 25 (0, 0)) hb; replace HB := xst hb; (try clear hb)) | ((with_reducible refine ae (f := 8) rfl ?_); refine xgl 13 Tryd.func8 #[.string Aj] ?_; (with_reducible refine (bX k Aj Ah Ag Ap _ ?side1 A10.out).mono ?_); (case side1 => first | (with_reducible exact hG) | exact eR hG xbl); rintro e w28 ⟨v311, rfl, ho0, hb⟩; refine ⟨_, rfl, ?_⟩; have Ac := Zz.mk (Kd.R_lower ho0 (bh xbl)); replace Aa := xbb (g := Af) (o := .cells #[.bool Ad, .slice A0_1 l0_1.length c0_1] 25 (0, 0)) hb; replace HB := xst hb; (try clear hb); (try clear ho0)) | ((with_reducible refine ak (N := 4) rfl ?_); refine xev 4 #[.bool false, .slice none 0 0] 25 ?_; intro Ae hg w29 hbox hb; have Ab := Zz.mk (hbox); have AJ := xsz hg; have AK := AJ; have Ai := xlt (g := Af) hg; have Aq := xgt (g := Af) hg; replace Ac := Zz.mk (Kd.R_below (xkd Ac) hb); replace Aa := xbb (g := Af) (o := .cells #[.bool Ad, .slice A0_1 l0_1.length c0_1] 25 (0, 0)) hb; replace HB := xst hb; clear hb hbox hg; have AL := Aq.out; have AM := Ai.out; obtain ⟨hcz31_0, hcz31_1⟩ := xc2 Ab; have hfz31_0 := xf Ab 0; have hfz31_1 := xf Ab 1; obtain ⟨Ao32, co32, eo32⟩ := Kd.R_slice Ac.out; subst eo32))
      have n0_ : Zz (Kd.R Kd.string 9 ((w29.setCell ⟨Ae, 0, none⟩ (.bool Ah)).setCell ⟨Ae, 1, none⟩ (.slice Ao32 Ag.length co32)) w.heap.size (fun _ => True) (.slice Ao32 Ag.length co32) Ag) := ⟨by (with_reducible repeat (first | apply Kd.R_alloc | apply Kd.R_drewN | apply Kd.R_drew)); exact Kd.R_mono (Kd.R_far (p := ⟨Ae, 1, none⟩) (Kd.R_far (p := ⟨Ae, 0, none⟩) (Kd.R_types Ac.out Ab.out (by decide)) (fun _ hk => hk.2) (.bool Ah)) (fun _ hk => hk.2) (.slice Ao32 Ag.length co32)) (fun _ hk => trivial)⟩
      have n1_ : Zz (((w29.setCell ⟨Ae, 0, none⟩ (.bool Ah)).setCell ⟨Ae, 1, none⟩ (.slice Ao32 Ag.length co32)).heap[Af]? = some (.cells #[.bool Ad, .slice A0_1 l0_1.length c0_1] 25 (0, 0))) := ⟨by (with_reducible repeat (first | refine ai ?_ _ | refine aj ?_ | refine ah ?_ _)); refine cN ?_ Ai.out _; (with_reducible repeat (first | refine ai ?_ _ | refine aj ?_ | refine ah ?_ _)); refine cN ?_ Ai.out _; (with_reducible repeat (first | refine ai ?_ _ | refine aj ?_ | refine ah ?_ _)); exact Aa.out⟩
      have n2_ : Zz (((w29.setCell ⟨Ae, 0, none⟩ (.bool Ah)).setCell ⟨Ae, 1, none⟩ (.slice Ao32 Ag.length co32)).heap[Ae]? = some (.cells #[.bool Ah, .slice Ao32 Ag.length co32] 25 (0, 0))) := ⟨by (with_reducible repeat (first | refine ai ?_ _ | refine aj ?_ | refine ah ?_ _)); refine ag (cs := #[.bool Ah, .slice none 0 0]) ?_ 1 _ rfl; (with_reducible repeat (first | refine ai ?_ _ | refine aj ?_ | refine ah ?_ _)); refine ag (cs := #[.bool false, .slice none 0 0]) ?_ 0 _ rfl; (with_reducible repeat (first | refine ai ?_ _ | refine aj ?_ | refine ah ?_ _)); exact Ab.out⟩
      have n3_ : Zz (Below w.heap.size w ((w29.setCell ⟨Ae, 0, none⟩ (.bool Ah)).setCell ⟨Ae, 1, none⟩ (.slice Ao32 Ag.length co32))) := ⟨xbl⟩
      (try clear Ac)
      (try clear Aa)
      (try clear Ab)
      (try clear HB)
      try simp only [show ∀ (w_ : World) (n_ : Nat) (a_ : Addr) (v_ : Value), (w_.drewN n_).setCell a_ v_ = (w_.setCell a_ v_).drewN n_ from fun _ _ _ _ => rfl]
      generalize ((w29.setCell ⟨Ae, 0, none⟩ (.bool Ah)).setCell ⟨Ae, 1, none⟩ (.slice Ao32 Ag.length co32)) = w33 at n0_ n1_ n2_ n3_ ⊢
      have Ac := n0_
      have Aa := n1_
      have Ab := n2_
      have HB := n3_
      clear n0_ n1_ n2_ n3_
      have n0_ := Zz.mk (Kd.R_drew Ac.out)
      have n1_ := Zz.mk (aj Aa.out)
      have n2_ := Zz.mk (aj Ab.out)
      have n3_ := Zz.mk (cU HB.out)
      clear Ac
      clear Aa
      clear Ab
      clear HB
      have Ac := n0_
      have Aa := n1_
      have Ab := n2_
      have HB := n3_
      clear n0_ n1_ n2_ n3_
      refine lZ (n := 29) (S := fun w' => w'.cell? ⟨Af, 0, none⟩ = some (.bool Ad) ∧ w'.cell? ⟨Af, 1, none⟩ = some (.slice A0_1 l0_1.length c0_1) ∧ w'.cell? ⟨Ae, 0, none⟩ = some (.bool Ah) ∧ w'.cell? ⟨Ae, 1, none⟩ = some (.slice Ao32 Ag.length co32)) (ds := []) #[false, false, false, false, false, false, false, false, false, false, false, false, false, false, false, false, false, false, false, false, false, false, false, false, false, false, false, false, false] (by kernel_rfl) rfl rfl ⟨(ap Aa.out 0).trans rfl, (ap Aa.out 1).trans rfl, (ap Ab.out 0).trans rfl, (ap Ab.out 1).trans rfl⟩ (fun hHeld => ?_); refine l6 eW eM (fun HT_ HW_ => ?_)
      generalize w33.drew = w34 at Ac Aa Ab HB hHeld ⊢
      refine cz (i := 0) (N := some 16) (v := ?_) (a' := ?_) #[true, false, false, false, false, false, false, false, false, false, false, false, false, false, false, false, false, false, false, false, false, false, false, false, false, false, false, false, false] rfl rfl (cH HT_.out (by kernel_rfl)) (fun _ _ _ h => h) (Or.inl ⟨by rfl, ?_⟩) ?_ ?_
      rotate_left
      ·
       intro w'
       go_simp
       with_reducible rfl
      rotate_left
      ·
       simp only [Act.put, List.setIfInBounds_toArray, List.set_cons_zero, List.set_cons_succ, an, au]
       rfl
      refine take_ (i := 1) (N := some 17) (v := ?_) (a' := ?_) #[true, true, false, false, false, false, false, false, false, false, false, false, false, false, false, false, false, false, false, false, false, false, false, false, false, false, false, false, false] rfl rfl (eO HT_.out HW_.out (by kernel_rfl)) (fun _ _ _ h => h) (Or.inl ⟨by rfl, ?_⟩) hHeld ?_ ?_
      rotate_left
      ·
       rintro w' ⟨s0, s1, s2, s3⟩
       go_simp
       with_reducible rfl
      rotate_left
      ·
       simp only [Act.put, List.setIfInBounds_toArray, List.set_cons_zero, List.set_cons_succ, an, au]
       rfl
      refine gq (i := 2) (N := some 18) #[true, true, true, false, false, false, false, false, false, false, false, false, false, false, false, false, false, false, false, false, false, false, false, false, false, false, false, false, false] rfl rfl (e4 HT_.out (by kernel_rfl)) (by decide) (fun K hK => ?_)
      refine fK Tryd.func17 (by kernel_rfl) rfl #[.agg #[.bool Ad, .slice A0_1 l0_1.length c0_1]] (by rfl) rfl rfl (by (try simp only [List.map_toArray, List.map_cons, List.map_nil]); first | done | rfl | (simp only [List.length_drop, List.length_take]; rfl)) ?_
      with_reducible refine (dy Ad _ _ l0_1 As _ ?side1 ?side2 A11.out).mono ?_
      (case side1 => repeat (first | exact (Kd.C_below HR0_1.out HB.out) | (with_reducible refine Kd.C_alloc ?_ _) | (with_reducible refine Kd.C_drewN ?_ _) | (with_reducible refine Kd.C_drew ?_)))
      (case side2 => exact HC0_1.out)
      rintro e w35 ⟨rfl, hb⟩
      refine ⟨_, rfl, ?_⟩
      have n0_ := Zz.mk (Kd.R_below (xkd Ac) hb)
      have n1_ := xbb (g := Af) (o := .cells #[.bool Ad, .slice A0_1 l0_1.length c0_1] 25 (0, 0)) hb
      have n2_ := xbb (g := Ae) (o := .cells #[.bool Ah, .slice Ao32 Ag.length co32] 25 (0, 0)) hb
      have n3_ := xst hb
      clear Ac
      clear Aa
      clear Ab
      clear HB
      have Ac := n0_
      have Aa := n1_
      have Ab := n2_
      have HB := n3_
      clear n0_ n1_ n2_ n3_
      (try clear hb)
      (try clear hb2)
      (try clear hk)
      (try clear hi)
      refine hK.out _ _ ⟨(ap Aa.out 0).trans rfl, (ap Aa.out 1).trans rfl, (ap Ab.out 0).trans rfl, (ap Ab.out 1).trans rfl⟩ (fun hHeld => ?_)
      clear hK K
      refine fM (a' := ?_) ?_ ?_
      rotate_left
      ·
       show Act.put _ (some 18) _ = _
       simp only [Act.put, List.setIfInBounds_toArray, List.set_cons_zero, List.set_cons_succ, an, au]
       rfl
      refine gq (i := 3) (N := some 19) #[true, true, true, true, false, false, false, false, false, false, false, false, false, false, false, false, false, false, false, false, false, false, false, false, false, false, false, false, false] rfl rfl (e4 HT_.out (by kernel_rfl)) (by decide) (fun K hK => ?_)
      refine fK Tryd.func16 (by kernel_rfl) rfl #[.agg #[.bool As, .slice A0_1 l0_1.length c0_1]] (by rfl) rfl rfl (by (try simp only [List.map_toArray, List.map_cons, List.map_nil]); first | done | rfl | (simp only [List.length_drop, List.length_take]; rfl)) ?_
      with_reducible refine (fH k As _ _ l0_1 Ao _ ?side1 ?side2 A12.out).mono ?_
      (case side1 => repeat (first | exact (Kd.C_below HR0_1.out HB.out) | (with_reducible refine Kd.C_alloc ?_ _) | (with_reducible refine Kd.C_drewN ?_ _) | (with_reducible refine Kd.C_drew ?_)))
      (case side2 => exact HC0_1.out)
      rintro e w36 ⟨rfl, hb⟩
      refine ⟨_, rfl, ?_⟩
      have n0_ := Zz.mk (Kd.R_below (xkd Ac) hb)
      have n1_ := xbb (g := Af) (o := .cells #[.bool Ad, .slice A0_1 l0_1.length c0_1] 25 (0, 0)) hb
      have n2_ := xbb (g := Ae) (o := .cells #[.bool Ah, .slice Ao32 Ag.length co32] 25 (0, 0)) hb
      have n3_ := xst hb
      clear Ac
      clear Aa
      clear Ab
      clear HB
      have Ac := n0_
      have Aa := n1_
      have Ab := n2_
      have HB := n3_
      clear n0_ n1_ n2_ n3_
      (try clear hb)
      (try clear hb2)
      (try clear hk)
      (try clear hi)
      refine hK.out _ _ ⟨(ap Aa.out 0).trans rfl, (ap Aa.out 1).trans rfl, (ap Ab.out 0).trans rfl, (ap Ab.out 1).trans rfl⟩ (fun hHeld => ?_)
      clear hK K
      refine fM (a' := ?_) ?_ ?_
      rotate_left
      ·
       show Act.put _ (some 19) _ = _
       simp only [Act.put, List.setIfInBounds_toArray, List.set_cons_zero, List.set_cons_succ, an, au]
       rfl
      refine cz (i := 4) (N := some 20) (v := ?_) (a' := ?_) #[true, true, true, true, true, false, false, false, false, false, false, false, false, false, false, false, false, false, false, false, false, false, false, false, false, false, false, false, false] rfl rfl (cH HT_.out (by kernel_rfl)) (fun _ _ _ h => h) (Or.inl ⟨by rfl, ?_⟩) ?_ ?_
      rotate_left
      ·
       intro w'
       go_simp
       with_reducible rfl
      rotate_left
      ·
       simp only [Act.put, List.setIfInBounds_toArray, List.set_cons_zero, List.set_cons_succ, an, au]
       rfl
      refine cz (i := 5) (N := some 21) (v := ?_) (a' := ?_) #[true, true, true, true, true, true, false, false, false, false, false, false, false, false, false, false, false, false, false, false, false, false, false, false, false, false, false, false, false] rfl rfl (cH HT_.out (by kernel_rfl)) (fun _ _ _ h => h) (Or.inl ⟨by rfl, ?_⟩) ?_ ?_
      rotate_left
      ·
       intro w'
       go_simp
       with_reducible rfl
      rotate_left
      ·
       simp only [Act.put, List.setIfInBounds_toArray, List.set_cons_zero, List.set_cons_succ, an, au]
       rfl
      refine take_ (i := 6) (N := some 22) (v := ?_) (a' := ?_) #[true, true, true, true, true, true, true, false, false, false, false, false, false, false, false, false, false, false, false, false, false, false, false, false, false, false, false, false, false] rfl rfl (eO HT_.out HW_.out (by kernel_rfl)) (fun _ _ _ h => h) (Or.inl ⟨by rfl, ?_⟩) hHeld ?_ ?_
      rotate_left
      ·
       rintro w' ⟨s0, s1, s2, s3⟩
       go_simp
       with_reducible rfl
      rotate_left
      ·
       simp only [Act.put, List.setIfInBounds_toArray, List.set_cons_zero, List.set_cons_succ, an, au]
       rfl
      refine take_ (i := 8) (N := some 24) (v := ?_) (a' := ?_) #[true, true, true, true, true, true, true, false, true, false, false, false, false, false, false, false, false, false, false, false, false, false, false, false, false, false, false, false, false] rfl rfl (eO HT_.out HW_.out (by kernel_rfl)) (fun _ _ _ h => h) (Or.inl ⟨by rfl, ?_⟩) hHeld ?_ ?_
      rotate_left
      ·
       rintro w' ⟨s0, s1, s2, s3⟩
       go_simp
       with_reducible rfl
      rotate_left
      ·
       simp only [Act.put, List.setIfInBounds_toArray, List.set_cons_zero, List.set_cons_succ, an, au]
       rfl
      refine gq (i := 7) (N := some 23) #[true, true, true, true, true, true, true, true, true, false, false, false, false, false, false, false, false, false, false, false, false, false, false, false, false, false, false, false, false] rfl rfl (e4 HT_.out (by kernel_rfl)) (by decide) (fun K hK => ?_)
      refine fK Tryd.func13 (by kernel_rfl) rfl #[.agg #[.bool Ad, .slice A0_1 l0_1.length c0_1]] (by rfl) rfl rfl (by (try simp only [List.map_toArray, List.map_cons, List.map_nil]); first | done | rfl | (simp only [List.length_drop, List.length_take]; rfl)) ?_
      with_reducible refine (d7 Ad _ _ l0_1 Ak _ ?side1 ?side2 A14.out).mono ?_
      (case side1 => repeat (first | exact (Kd.C_below HR0_1.out HB.out) | (with_reducible refine Kd.C_alloc ?_ _) | (with_reducible refine Kd.C_drewN ?_ _) | (with_reducible refine Kd.C_drew ?_)))
      (case side2 => exact HC0_1.out)
      rintro e w37 ⟨rfl, hb⟩
      refine ⟨_, rfl, ?_⟩
      have n0_ := Zz.mk (Kd.R_below (xkd Ac) hb)
      have n1_ := xbb (g := Af) (o := .cells #[.bool Ad, .slice A0_1 l0_1.length c0_1] 25 (0, 0)) hb
      have n2_ := xbb (g := Ae) (o := .cells #[.bool Ah, .slice Ao32 Ag.length co32] 25 (0, 0)) hb
      have n3_ := xst hb
      clear Ac
      clear Aa
      clear Ab
      clear HB
      have Ac := n0_
      have Aa := n1_
      have Ab := n2_
      have HB := n3_
      clear n0_ n1_ n2_ n3_
      (try clear hb)
      (try clear hb2)
      (try clear hk)
      (try clear hi)
      refine hK.out _ _ ⟨(ap Aa.out 0).trans rfl, (ap Aa.out 1).trans rfl, (ap Ab.out 0).trans rfl, (ap Ab.out 1).trans rfl⟩ (fun hHeld => ?_)
      clear hK K
      refine fM (a' := ?_) ?_ ?_
      rotate_left
      ·
       show Act.put _ (some 23) _ = _
       simp only [Act.put, List.setIfInBounds_toArray, List.set_cons_zero, List.set_cons_succ, an, au]
       rfl
      refine gq (i := 9) (N := some 25) #[true, true, true, true, true, true, true, true, true, true, false, false, false, false, false, false, false, false, false, false, false, false, false, false, false, false, false, false, false] rfl rfl (e4 HT_.out (by kernel_rfl)) (by decide) (fun K hK => ?_)
      refine fK Tryd.func17 (by kernel_rfl) rfl #[.agg #[.bool Ad, .slice A0_1 l0_1.length c0_1]] (by rfl) rfl rfl (by (try simp only [List.map_toArray, List.map_cons, List.map_nil]); first | done | rfl | (simp only [List.length_drop, List.length_take]; rfl)) ?_
      with_reducible refine (dy Ad _ _ l0_1 At _ ?side1 ?side2 A15.out).mono ?_
      (case side1 => repeat (first | exact (Kd.C_below HR0_1.out HB.out) | (with_reducible refine Kd.C_alloc ?_ _) | (with_reducible refine Kd.C_drewN ?_ _) | (with_reducible refine Kd.C_drew ?_)))
      (case side2 => exact HC0_1.out)
      rintro e w38 ⟨rfl, hb⟩
      refine ⟨_, rfl, ?_⟩
      have n0_ := Zz.mk (Kd.R_below (xkd Ac) hb)
      have n1_ := xbb (g := Af) (o := .cells #[.bool Ad, .slice A0_1 l0_1.length c0_1] 25 (0, 0)) hb
      have n2_ := xbb (g := Ae) (o := .cells #[.bool Ah, .slice Ao32 Ag.length co32] 25 (0, 0)) hb
      have n3_ := xst hb
      clear Ac
      clear Aa
      clear Ab
      clear HB
      have Ac := n0_
      have Aa := n1_
      have Ab := n2_
      have HB := n3_
      clear n0_ n1_ n2_ n3_
      (try clear hb)
      (try clear hb2)
      (try clear hk)
      (try clear hi)
      refine hK.out _ _ ⟨(ap Aa.out 0).trans rfl, (ap Aa.out 1).trans rfl, (ap Ab.out 0).trans rfl, (ap Ab.out 1).trans rfl⟩ (fun hHeld => ?_)
      clear hK K
      refine fM (a' := ?_) ?_ ?_
      rotate_left
      ·
       show Act.put _ (some 25) _ = _
       simp only [Act.put, List.setIfInBounds_toArray, List.set_cons_zero, List.set_cons_succ, an, au]
       rfl
      refine gq (i := 10) (N := some 26) #[true, true, true, true, true, true, true, true, true, true, true, false, false, false, false, false, false, false, false, false, false, false, false, false, false, false, false, false, false] rfl rfl (e4 HT_.out (by kernel_rfl)) (by decide) (fun K hK => ?_)
      refine fK Tryd.func18 (by kernel_rfl) rfl #[.agg #[.bool At, .slice A0_1 l0_1.length c0_1]] (by rfl) rfl rfl (by (try simp only [List.map_toArray, List.map_cons, List.map_nil]); first | done | rfl | (simp only [List.length_drop, List.length_take]; rfl)) ?_
      with_reducible refine (fy At _ _ l0_1 Al _ ?side1 ?side2 A16.out).mono ?_
      (case side1 => repeat (first | exact (Kd.C_below HR0_1.out HB.out) | (with_reducible refine Kd.C_alloc ?_ _) | (with_reducible refine Kd.C_drewN ?_ _) | (with_reducible refine Kd.C_drew ?_)))
      (case side2 => exact HC0_1.out)
      rintro e w39 ⟨rfl, hb⟩
      refine ⟨_, rfl, ?_⟩
      have n0_ := Zz.mk (Kd.R_below (xkd Ac) hb)
      have n1_ := xbb (g := Af) (o := .cells #[.bool Ad, .slice A0_1 l0_1.length c0_1] 25 (0, 0)) hb
      have n2_ := xbb (g := Ae) (o := .cells #[.bool Ah, .slice Ao32 Ag.length co32] 25 (0, 0)) hb
      have n3_ := xst hb
      clear Ac
      clear Aa
      clear Ab
      clear HB
      have Ac := n0_
      have Aa := n1_
      have Ab := n2_
      have HB := n3_
      clear n0_ n1_ n2_ n3_
      (try clear hb)
      (try clear hb2)
      (try clear hk)
      (try clear hi)
      refine hK.out _ _ ⟨(ap Aa.out 0).trans rfl, (ap Aa.out 1).trans rfl, (ap Ab.out 0).trans rfl, (ap Ab.out 1).trans rfl⟩ (fun hHeld => ?_)
      clear hK K
      refine fM (a' := ?_) ?_ ?_
      rotate_left
      ·
       show Act.put _ (some 26) _ = _
       simp only [Act.put, List.setIfInBounds_toArray, List.set_cons_zero, List.set_cons_succ, an, au]
       rfl
      refine cz (i := 11) (N := some 27) (v := ?_) (a' := ?_) #[true, true, true, true, true, true, true, true, true, true, true, true, false, false, false, false, false, false, false, false, false, false, false, false, false, false, false, false, false] rfl rfl (cH HT_.out (by kernel_rfl)) (fun _ _ _ h => h) (Or.inl ⟨by rfl, ?_⟩) ?_ ?_
      rotate_left
      ·
       intro w'
       go_simp
       with_reducible rfl
      rotate_left
      ·
       simp only [Act.put, List.setIfInBounds_toArray, List.set_cons_zero, List.set_cons_succ, an, au]
       rfl
      refine cz (i := 12) (N := some 28) (v := ?_) (a' := ?_) #[true, true, true, true, true, true, true, true, true, true, true, true, true, false, false, false, false, false, false, false, false, false, false, false, false, false, false, false, false] rfl rfl (cH HT_.out (by kernel_rfl)) (fun _ _ _ h => h) (Or.inl ⟨by rfl, ?_⟩) ?_ ?_
      rotate_left
      ·
       intro w'
       go_simp
       with_reducible rfl
      rotate_left
      ·
       simp only [Act.put, List.setIfInBounds_toArray, List.set_cons_zero, List.set_cons_succ, an, au]
       rfl
      refine cz (i := 13) (N := some 29) (v := ?_) (a' := ?_) #[true, true, true, true, true, true, true, true, true, true, true, true, true, true, false, false, false, false, false, false, false, false, false, false, false, false, false, false, false] rfl rfl (cH HT_.out (by kernel_rfl)) (fun _ _ _ h => h) (Or.inl ⟨by rfl, ?_⟩) ?_ ?_
      rotate_left
      ·
       intro w'
       go_simp
       with_reducible rfl
      rotate_left
      ·
       simp only [Act.put, List.setIfInBounds_toArray, List.set_cons_zero, List.set_cons_succ, an, au]
       rfl
      refine cz (i := 14) (N := some 30) (v := ?_) (a' := ?_) #[true, true, true, true, true, true, true, true, true, true, true, true, true, true, true, false, false, false, false, false, false, false, false, false, false, false, false, false, false] rfl rfl (cH HT_.out (by kernel_rfl)) (fun _ _ _ h => h) (Or.inl ⟨by rfl, ?_⟩) ?_ ?_
      rotate_left
      ·
       intro w'
       go_simp
       with_reducible rfl
      rotate_left
      ·
       simp only [Act.put, List.setIfInBounds_toArray, List.set_cons_zero, List.set_cons_succ, an, au]
       rfl
      refine cz (i := 15) (N := some 31) (v := ?_) (a' := ?_) #[true, true, true, true, true, true, true, true, true, true, true, true, true, true, true, true, false, false, false, false, false, false, false, false, false, false, false, false, false] rfl rfl (cH HT_.out (by kernel_rfl)) (fun _ _ _ h => h) (Or.inl ⟨by rfl, ?_⟩) ?_ ?_
      rotate_left
      ·
       intro w'
       go_simp
       with_reducible rfl
      rotate_left
      ·
       simp only [Act.put, List.setIfInBounds_toArray, List.set_cons_zero, List.set_cons_succ, an, au]
       rfl
      refine cz (i := 16) (N := some 32) (v := ?_) (a' := ?_) #[true, true, true, true, true, true, true, true, true, true, true, true, true, true, true, true, true, false, false, false, false, false, false, false, false, false, false, false, false] rfl rfl (cH HT_.out (by kernel_rfl)) (fun _ _ _ h => h) (Or.inl ⟨by rfl, ?_⟩) ?_ ?_
      rotate_left
      ·
       intro w'
       go_simp
       with_reducible rfl
      rotate_left
      ·
       simp only [Act.put, List.setIfInBounds_toArray, List.set_cons_zero, List.set_cons_succ, an, au]
       rfl
      refine cz (i := 17) (N := some 33) (v := ?_) (a' := ?_) #[true, true, true, true, true, true, true, true, true, true, true, true, true, true, true, true, true, true, false, false, false, false, false, false, false, false, false, false, false] rfl rfl (cH HT_.out (by kernel_rfl)) (fun _ _ _ h => h) (Or.inl ⟨by rfl, ?_⟩) ?_ ?_
      rotate_left
      ·
       intro w'
       go_simp
       with_reducible rfl
      rotate_left
      ·
       simp only [Act.put, List.setIfInBounds_toArray, List.set_cons_zero, List.set_cons_succ, an, au]
       rfl
      refine take_ (i := 18) (N := some 34) (v := ?_) (a' := ?_) #[true, true, true, true, true, true, true, true, true, true, true, true, true, true, true, true, true, true, true, false, false, false, false, false, false, false, false, false, false] rfl rfl (eO HT_.out HW_.out (by kernel_rfl)) (fun _ _ _ h => h) (Or.inl ⟨by rfl, ?_⟩) hHeld ?_ ?_
      rotate_left
      ·
       rintro w' ⟨s0, s1, s2, s3⟩
       go_simp
       with_reducible rfl
      rotate_left
      ·
       simp only [Act.put, List.setIfInBounds_toArray, List.set_cons_zero, List.set_cons_succ, an, au]
       rfl
      refine take_ (i := 19) (N := some 35) (v := ?_) (a' := ?_) #[true, true, true, true, true, true, true, true, true, true, true, true, true, true, true, true, true, true, true, true, false, false, false, false, false, false, false, false, false] rfl rfl (eO HT_.out HW_.out (by kernel_rfl)) (fun _ _ _ h => h) (Or.inl ⟨by rfl, ?_⟩) hHeld ?_ ?_
      rotate_left
      ·
       rintro w' ⟨s0, s1, s2, s3⟩
       go_simp
       with_reducible rfl
      rotate_left
      ·
       simp only [Act.put, List.setIfInBounds_toArray, List.set_cons_zero, List.set_cons_succ, an, au]
       rfl
      refine take_ (i := 21) (N := some 37) (v := ?_) (a' := ?_) #[true, true, true, true, true, true, true, true, true, true, true, true, true, true, true, true, true, true, true, true, false, true, false, false, false, false, false, false, false] rfl rfl (eO HT_.out HW_.out (by kernel_rfl)) (fun _ _ _ h => h) (Or.inl ⟨by rfl, ?_⟩) hHeld ?_ ?_
      rotate_left
      ·
       rintro w' ⟨s0, s1, s2, s3⟩
       go_simp
       with_reducible rfl
      rotate_left
      ·
       simp only [Act.put, List.setIfInBounds_toArray, List.set_cons_zero, List.set_cons_succ, an, au]
       rfl
      refine gq (i := 20) (N := some 36) #[true, true, true, true, true, true, true, true, true, true, true, true, true, true, true, true, true, true, true, true, true, true, false, false, false, false, false, false, false] rfl rfl (e4 HT_.out (by kernel_rfl)) (by decide) (fun K hK => ?_)
      refine fK Tryd.func14 (by kernel_rfl) rfl #[.agg #[.bool Ah, .slice Ao32 Ag.length co32], .agg #[.bool Ad, .slice A0_1 l0_1.length c0_1]] (by rfl) rfl rfl (by (try simp only [List.map_toArray, List.map_cons, List.map_nil]); first | done | rfl | (simp only [List.length_drop, List.length_take]; rfl)) ?_
      with_reducible refine (f9 k Ah _ _ Ag Ad _ _ l0_1 Am _ ?side1 ?side2 ?side3 ?side4 A19.out).mono ?_
      (case side1 => repeat (first | exact (Kd.R_reads' Ac.out).2.2 | (with_reducible refine Kd.C_alloc ?_ _) | (with_reducible refine Kd.C_drewN ?_ _) | (with_reducible refine Kd.C_drew ?_)))
      (case side2 => exact (Kd.R_reads' Ac.out).2.1)
      (case side3 => repeat (first | exact (Kd.C_below HR0_1.out HB.out) | (with_reducible refine Kd.C_alloc ?_ _) | (with_reducible refine Kd.C_drewN ?_ _) | (with_reducible refine Kd.C_drew ?_)))
      (case side4 => exact HC0_1.out)
      rintro e w40 ⟨rfl, hb⟩
      refine ⟨_, rfl, ?_⟩
      have n0_ := Zz.mk (Kd.R_below (xkd Ac) hb)
      have n1_ := xbb (g := Af) (o := .cells #[.bool Ad, .slice A0_1 l0_1.length c0_1] 25 (0, 0)) hb
      have n2_ := xbb (g := Ae) (o := .cells #[.bool Ah, .slice Ao32 Ag.length co32] 25 (0, 0)) hb
      have n3_ := xst hb
      clear Ac
      clear Aa
      clear Ab
      clear HB
      have Ac := n0_
      have Aa := n1_
      have Ab := n2_
      have HB := n3_
      clear n0_ n1_ n2_ n3_
      (try clear hb)
      (try clear hb2)
      (try clear hk)
      (try clear hi)
      refine hK.out _ _ ⟨(ap Aa.out 0).trans rfl, (ap Aa.out 1).trans rfl, (ap Ab.out 0).trans rfl, (ap Ab.out 1).trans rfl⟩ (fun hHeld => ?_)
      clear hK K
      refine fM (a' := ?_) ?_ ?_
      rotate_left
      ·
       show Act.put _ (some 36) _ = _
       simp only [Act.put, List.setIfInBounds_toArray, List.set_cons_zero, List.set_cons_succ, an, au]
       rfl
      refine gq (i := 22) (N := some 38) #[true, true, true, true, true, true, true, true, true, true, true, true, true, true, true, true, true, true, true, true, true, true, true, false, false, false, false, false, false] rfl rfl (e4 HT_.out (by kernel_rfl)) (by decide) (fun K hK => ?_)
      refine fK Tryd.func13 (by kernel_rfl) rfl #[.agg #[.bool Ad, .slice A0_1 l0_1.length c0_1]] (by rfl) rfl rfl (by (try simp only [List.map_toArray, List.map_cons, List.map_nil]); first | done | rfl | (simp only [List.length_drop, List.length_take]; rfl)) ?_
      with_reducible refine (d7 Ad _ _ l0_1 An _ ?side1 ?side2 A20.out).mono ?_
      (case side1 => repeat (first | exact (Kd.C_below HR0_1.out HB.out) | (with_reducible refine Kd.C_alloc ?_ _) | (with_reducible refine Kd.C_drewN ?_ _) | (with_reducible refine Kd.C_drew ?_)))
      (case side2 => exact HC0_1.out)
      rintro e w41 ⟨rfl, hb⟩
      refine ⟨_, rfl, ?_⟩
      have n0_ := Zz.mk (Kd.R_below (xkd Ac) hb)
      have n1_ := xbb (g := Af) (o := .cells #[.bool Ad, .slice A0_1 l0_1.length c0_1] 25 (0, 0)) hb
      have n2_ := xbb (g := Ae) (o := .cells #[.bool Ah, .slice Ao32 Ag.length co32] 25 (0, 0)) hb
      have n3_ := xst hb
      clear Ac
      clear Aa
      clear Ab
      clear HB
      have Ac := n0_
      have Aa := n1_
      have Ab := n2_
      have HB := n3_
      clear n0_ n1_ n2_ n3_
      (try clear hb)
      (try clear hb2)
      (try clear hk)
      (try clear hi)
      refine hK.out _ _ ⟨(ap Aa.out 0).trans rfl, (ap Aa.out 1).trans rfl, (ap Ab.out 0).trans rfl, (ap Ab.out 1).trans rfl⟩ (fun hHeld => ?_)
      clear hK K
      refine fM (a' := ?_) ?_ ?_
      rotate_left
      ·
       show Act.put _ (some 38) _ = _
       simp only [Act.put, List.setIfInBounds_toArray, List.set_cons_zero, List.set_cons_succ, an, au]
       rfl
      refine cz (i := 23) (N := some 39) (v := ?_) (a' := ?_) #[true, true, true, true, true, true, true, true, true, true, true, true, true, true, true, true, true, true, true, true, true, true, true, true, false, false, false, false, false] rfl rfl (cH HT_.out (by kernel_rfl)) (fun _ _ _ h => h) (Or.inl ⟨by rfl, ?_⟩) ?_ ?_
      rotate_left
      ·
       intro w'
       go_simp
       with_reducible rfl
      rotate_left
      ·
       simp only [Act.put, List.setIfInBounds_toArray, List.set_cons_zero, List.set_cons_succ, an, au]
       rfl
      refine cz (i := 24) (N := some 40) (v := ?_) (a' := ?_) #[true, true, true, true, true, true, true, true, true, true, true, true, true, true, true, true, true, true, true, true, true, true, true, true, true, false, false, false, false] rfl rfl (cH HT_.out (by kernel_rfl)) (fun _ _ _ h => h) (Or.inl ⟨by rfl, ?_⟩) ?_ ?_
      rotate_left
      ·
       intro w'
       go_simp
       with_reducible rfl
      rotate_left
      ·
       simp only [Act.put, List.setIfInBounds_toArray, List.set_cons_zero, List.set_cons_succ, an, au]
       rfl
      refine cz (i := 25) (N := some 41) (v := ?_) (a' := ?_) #[true, true, true, true, true, true, true, true, true, true, true, true, true, true, true, true, true, true, true, true, true, true, true, true, true, true, false, false, false] rfl rfl (cH HT_.out (by kernel_rfl)) (fun _ _ _ h => h) (Or.inl ⟨by rfl, ?_⟩) ?_ ?_
      rotate_left
      ·
       intro w'
       go_simp
       with_reducible rfl
      rotate_left
      ·
       simp only [Act.put, List.setIfInBounds_toArray, List.set_cons_zero, List.set_cons_succ, an, au]
       rfl
      refine gq (i := 26) (N := some 42) #[true, true, true, true, true, true, true, true, true, true, true, true, true, true, true, true, true, true, true, true, true, true, true, true, true, true, true, false, false] rfl rfl (e4 HT_.out (by kernel_rfl)) (by decide) (fun K hK => ?_)
      refine fK Tryd.func7 (by kernel_rfl) rfl #[] (by rfl) rfl rfl (by (try simp only [List.map_toArray, List.map_cons, List.map_nil]); first | done | rfl | (simp only [List.length_drop, List.length_take]; rfl)) ?_
      with_reducible refine (dz k  Ax _ ?side1 A22.out).mono ?_
      (case side1 => first | (with_reducible exact hG) | exact eR hG xbl)
      rintro e w42 ⟨rfl, hb⟩
      refine ⟨_, rfl, ?_⟩
      have n0_ := Zz.mk (Kd.R_below (xkd Ac) hb)
      have n1_ := xbb (g := Af) (o := .cells #[.bool Ad, .slice A0_1 l0_1.length c0_1] 25 (0, 0)) hb
      have n2_ := xbb (g := Ae) (o := .cells #[.bool Ah, .slice Ao32 Ag.length co32] 25 (0, 0)) hb
      have n3_ := xst hb
      clear Ac
      clear Aa
      clear Ab
      clear HB
      have Ac := n0_
      have Aa := n1_
      have Ab := n2_
      have HB := n3_
      clear n0_ n1_ n2_ n3_
      (try clear hb)
      (try clear hb2)
      (try clear hk)
      (try clear hi)
      refine hK.out _ _ ⟨(ap Aa.out 0).trans rfl, (ap Aa.out 1).trans rfl, (ap Ab.out 0).trans rfl, (ap Ab.out 1).trans rfl⟩ (fun hHeld => ?_)
      clear hK K
      refine fM (a' := ?_) ?_ ?_
      rotate_left
      ·
       show Act.put _ (some 42) _ = _
       simp only [Act.put, List.setIfInBounds_toArray, List.set_cons_zero, List.set_cons_succ, an, au]
       rfl
      refine cz (i := 27) (N := some 43) (v := ?_) (a' := ?_) #[true, true, true, true, true, true, true, true, true, true, true, true, true, true, true, true, true, true, true, true, true, true, true, true, true, true, true, true, false] rfl rfl (cH HT_.out (by kernel_rfl)) (fun _ _ _ h => h) (Or.inl ⟨by rfl, ?_⟩) ?_ ?_
      rotate_left
      ·
       intro w'
       go_simp
       with_reducible rfl
      rotate_left
      ·
       simp only [Act.put, List.setIfInBounds_toArray, List.set_cons_zero, List.set_cons_succ, an, au]
       rfl
      refine cz (i := 28) (N := some 2) (v := ?_) (a' := ?_) #[true, true, true, true, true, true, true, true, true, true, true, true, true, true, true, true, true, true, true, true, true, true, true, true, true, true, true, true, true] rfl rfl (cH HT_.out (by kernel_rfl)) (fun _ _ _ h => h) (Or.inl ⟨by rfl, ?_⟩) ?_ ?_
      rotate_left
      ·
       intro w'
       go_simp
       with_reducible rfl
      rotate_left
      ·
       simp only [Act.put, List.setIfInBounds_toArray, List.set_cons_zero, List.set_cons_succ, an, au]
       rfl
      refine mE (mQ HT_.out (by kernel_rfl)) ?_
      try go_wp2
      go_ret
      exact ⟨xre, xbl⟩
     ·
      rw [if_neg c21] at H
      have AG : (Am == An) = false := by simpa using c21
      (try (have AH : decide (Am = An) = false := by simpa using c21))
      (try (have AI : (Am == An) = false := by simpa using c21))
      (try (have AN : ¬ (Am = An) := by simpa using c21))
      clear c21
      exact absurd H (by simp)
    ·
     rw [if_neg c18] at H
     have AE : (Ap == 0) = false := beq_eq_false_iff_ne.mpr c18
     have AF : (Ap != 0) = true := bne_iff_ne.mpr c18
     exact absurd H (by simp)
   ·
    rw [if_neg c17] at H
    have AB : (Ak == Al) = false := by simpa using c17
    (try (have AC : decide (Ak = Al) = false := by simpa using c17))
    (try (have AD : (Ak == Al) = false := by simpa using c17))
    (try (have AO : ¬ (Ak = Al) := by simpa using c17))
    clear c17
    exact absurd H (by simp)
  ·
   rw [if_neg c13] at H
   have Az : (Aj.toList == Ao.toList) = false := beq_eq_false_iff_ne.mpr c13
   have AA : (Aj.toList != Ao.toList) = true := bne_iff_ne.mpr c13
   exact absurd H (by simp)
end Go.Proofs.YtmofhijbheimmaaDoor.X
namespace Go.Proofs.YtmofhijbheimmaaDoor.M
open Go Go.RowKit Go.Proofs.YtmofhijbheimmaaDoorW.PrintWords
theorem w64 {x : Int} (h1 : -9223372036854775808 ≤ x) (h2 : x ≤ 9223372036854775807) : wrap64 x = x := by unfold wrap64; omega
theorem dI (s : ByteArray) : s.toList = s.data.toList := ByteArray.toList_eq s
theorem fJ {a b : ByteArray} (h : aa a = aa b) : a = b := by
  unfold aa at h
  have : a.data.toList = b.data.toList := by
    apply List.map_inj_right (f := fun b : UInt8 => (b.toNat : Int)) _ |>.1 h
    intro x y hxy
    exact UInt8.toNat_inj.1 (by omega)
  cases a; cases b
  simp only [ByteArray.mk.injEq]
  exact Array.toList_inj.1 this
theorem lz {a b : ByteArray} : aa a = aa b ↔ a = b := ⟨fJ, fun h => h ▸ rfl⟩
theorem iJ {a b : ByteArray} : a.toList = b.toList ↔ aa a = aa b := by
  rw [dI, dI]
  exact ⟨fun h => by unfold aa; rw [h], fun h => by rw [fJ h]⟩
theorem ec (a b : ByteArray) : aa (a ++ b) = aa a ++ aa b := by
  unfold aa
  rw [ByteArray.data_append, Array.toList_append, List.map_append]
theorem bV (a : ByteArray) (i j : Nat) : aa (a.extract i j) = ((aa a).take j).drop i := by
  unfold aa
  rw [ByteArray.data_extract, Array.toList_extract, List.extract_eq_take_drop, List.map_take, List.map_drop, List.drop_take]
theorem hP {s : ByteArray} {x : Int} (h : x ∈ aa s) : 0 ≤ x ∧ x ≤ 255 := by
  unfold aa at h
  obtain ⟨b, _, rfl⟩ := List.mem_map.1 h
  have := b.toNat_lt
  omega
theorem am (s : ByteArray) : (aa s).length = s.size := dB s
theorem jP (s : ByteArray) (i : Nat) : bt s (i : Int) = (aa s).getD i 0 := by
  rw [← kr]; unfold rd; simp
theorem l5 {s : ByteArray} {n : Nat} (h : n < s.size) : (aa s).take (n + 1) = (aa s).take n ++ [bt s (n : Int)] := by
  have hl : n < (aa s).length := by rw [am]; exact h
  rw [List.take_succ_eq_append_getElem hl, jP, List.getD_eq_getElem?_getD, List.getElem?_eq_getElem hl]
  rfl
theorem gK (s : ByteArray) (i : Int) : 0 ≤ bt s i ∧ bt s i ≤ 255 := l8 s i
theorem nU {α : Type} {g : Nat → Option α} {r : α} (h : ∀ k, g k = some r) : Ev g r := ⟨0, fun k _ => h k⟩
theorem az {α β : Type} {g : Nat → Option α} {f : Nat → α → Option β} {a : α} {r : β} (h : Ev g a) (k : Ev (fun n => f n a) r) : Ev (fun n => (g n).bind fun t => f n t) r := Ev.bind h k
theorem br {α β : Type} {o : Option α} {f : Nat → α → Option β} {a : α} {r : β} (h : o = some a) (k : Ev (fun n => f n a) r) : Ev (fun n => o.bind fun t => f n t) r := by
  subst h; exact k
theorem ab {α : Type} {c : Prop} [Decidable c] {g f : Nat → Option α} {r : α} (h : c) (k : Ev g r) : Ev (fun n => if c then g n else f n) r := by
  simp only [if_pos h]; exact k
theorem af {α : Type} {c : Prop} [Decidable c] {g f : Nat → Option α} {r : α} (h : ¬ c) (k : Ev f r) : Ev (fun n => if c then g n else f n) r := by
  simp only [if_neg h]; exact k
theorem Ev.ite {α : Type} {c : Prop} [Decidable c] {g f : Nat → Option α} {r : α} (h : c → Ev g r) (k : ¬ c → Ev f r) : Ev (fun n => if c then g n else f n) r := by
  by_cases hc : c
  · exact ab hc (h hc)
  · exact af hc (k hc)
theorem Ev.val {α : Type} {a r : α} (h : a = r) : Ev (fun _ => some a) r := by subst h; exact aI _
def idx (c : Int) : List Int → Int
  | [] => -1
  | b :: t => if b = c then 0 else if idx c t = -1 then -1 else idx c t + 1
theorem ju (c : Int) (l : List Int) : -1 ≤ idx c l := by
  induction l with
  | nil => simp [idx]
  | cons b t ih => unfold idx; split <;> (try split) <;> omega
theorem jv {c : Int} {l : List Int} : idx c l = -1 ↔ c ∉ l := by
  induction l with
  | nil => simp [idx]
  | cons b t ih =>
    have := ju c t
    unfold idx
    by_cases hb : b = c
    · simp [hb]
    · simp only [if_neg hb, List.mem_cons, not_or]
      by_cases h1 : idx c t = -1
      · simp [h1, ih.1 h1, Ne.symm hb]
      · rw [if_neg h1]
        constructor
        · intro h; omega
        · intro h; exact absurd (ih.2 h.2) h1
theorem i5 {c : Int} {l : List Int} (h : 0 ≤ idx c l) : l = l.take (idx c l).toNat ++ c :: l.drop ((idx c l).toNat + 1) ∧ c ∉ l.take (idx c l).toNat := by
  induction l with
  | nil => simp [idx] at h
  | cons b t ih =>
    unfold idx at h ⊢
    by_cases hb : b = c
    · simp [hb]
    · rw [if_neg hb] at h ⊢
      by_cases h1 : idx c t = -1
      · rw [if_pos h1] at h; omega
      · have hg := ju c t
        rw [if_neg h1]
        obtain ⟨e1, e2⟩ := ih (by omega)
        have e : (idx c t + 1).toNat = (idx c t).toNat + 1 := by omega
        rw [e, List.take_succ_cons, List.drop_succ_cons, List.cons_append]
        refine ⟨by rw [← e1], ?_⟩
        rw [List.mem_cons, not_or]
        exact ⟨Ne.symm hb, e2⟩
theorem cq {p : Int → Prop} (h : ∀ n : Fin 256, p ((n.val : Nat) : Int)) {b : Int} (h0 : 0 ≤ b) (h1 : b ≤ 255) : p b := by
  have := h ⟨b.toNat, by omega⟩
  simp only at this
  rwa [Int.toNat_of_nonneg h0] at this
def mB (b : Int) : Bool := decide (65 ≤ b ∧ b ≤ 90 ∨ 97 ≤ b ∧ b ≤ 122)
def mD (b : Int) : Bool := decide (48 ≤ b ∧ b ≤ 57)
def jt (b : Int) : Bool := decide (48 ≤ b ∧ b ≤ 57 ∨ 65 ≤ b ∧ b ≤ 70 ∨ 97 ≤ b ∧ b ≤ 102)
def mI (b : Int) : Bool := decide (b = 45 ∨ b = 46 ∨ b = 95 ∨ b = 126)
def nF (b : Int) : Bool := decide (b = 33 ∨ b = 36 ∨ 38 ≤ b ∧ b ≤ 44 ∨ b = 59 ∨ b = 61)
def nR (b : Int) : Bool := decide (b = 58 ∨ b = 47 ∨ b = 63 ∨ b = 35 ∨ b = 91 ∨ b = 93 ∨ b = 64)
def cls (b : Int) : Int := (if mB b then 1 else 0) + (if mD b then 2 else 0) + (if mI b then 4 else 0) + (if nF b then 8 else 0) + (if nR b then 16 else 0) + (if jt b then 32 else 0)
def nC (b : Int) : Bool := mB b || mD b || mI b || nF b
def isc (b c : Int) : Bool := Go.bits .and .i64 (cls b) c != 0
def hv (b : Int) : Int := if 48 ≤ b ∧ b ≤ 57 then b - 48 else if 65 ≤ b ∧ b ≤ 70 then b - 55 else if 97 ≤ b ∧ b ≤ 102 then b - 87 else -1
theorem gj (b : Int) : -1 ≤ hv b ∧ hv b ≤ 15 := by unfold hv; (repeat' split) <;> omega
theorem jU (b : Int) : (0 ≤ hv b) ↔ jt b = true := by
  unfold hv jt
  rw [decide_eq_true_iff]
  (repeat' split) <;> omega
def cW (p : Int → Bool) : List Int → Int
  | [] => -1
  | b :: t => if p b then 0 else if cW p t = -1 then -1 else cW p t + 1
theorem gO (p : Int → Bool) (b : Int) (t : List Int) : cW p (b :: t) = if p b then 0 else if cW p t = -1 then -1 else cW p t + 1 := rfl
theorem iS (p : Int → Bool) (l : List Int) : -1 ≤ cW p l := by
  induction l with
  | nil => simp [cW]
  | cons b t ih => unfold cW; split <;> (try split) <;> omega
theorem lL {p : Int → Bool} {l : List Int} : cW p l = -1 ↔ ∀ b ∈ l, p b = false := by
  induction l with
  | nil => simp [cW]
  | cons b t ih =>
    have := iS p t
    unfold cW
    cases hb : p b
    · simp only [Bool.false_eq_true, if_false, List.mem_cons, forall_eq_or_imp, hb, true_and]
      rw [← ih]
      split <;> omega
    · simp [hb]
def shp (b : Int) : Int × Int × Int :=
  if b < 128 then (1, 0, 0) else if 194 ≤ b ∧ b ≤ 223 then (2, 128, 191) else if b = 224 then (3, 160, 191) else if b = 237 then (3, 128, 159)
  else if 225 ≤ b ∧ b ≤ 239 then (3, 128, 191) else if b = 240 then (4, 144, 191) else if b = 244 then (4, 128, 143) else if 241 ≤ b ∧ b ≤ 243 then (4, 128, 191) else (0, 0, 0)
def bo : Nat → Int → Int → List Int → Nat
  | 0, _, _, _ => 0
  | _ + 1, _, _, [] => 0
  | n + 1, lo, hi, c :: t => if lo ≤ c ∧ c ≤ hi then bo n 128 191 t + 1 else 0
def fI (r : Int) : List Int → Int
  | [] => r
  | c :: t => fI (r * 64 + (c - 128)) t
def dw (n b : Int) : Int := if n = 1 then b else if n = 2 then b - 192 else if n = 3 then b - 224 else b - 240
def dec : List Int → Int × Int × Bool
  | [] => (0, 0, false)
  | b :: t => if (shp b).1 = 0 then (0, 1, false)
    else if (bo ((shp b).1.toNat - 1) (shp b).2.1 (shp b).2.2 t : Int) + 1 < (shp b).1 then (0, (bo ((shp b).1.toNat - 1) (shp b).2.1 (shp b).2.2 t : Int) + 1, false)
    else (fI (dw (shp b).1 b) (t.take ((shp b).1.toNat - 1)), (shp b).1, true)
theorem eE (b : Int) (t : List Int) : dec (b :: t) = if (shp b).1 = 0 then (0, 1, false)
    else if (bo ((shp b).1.toNat - 1) (shp b).2.1 (shp b).2.2 t : Int) + 1 < (shp b).1 then (0, (bo ((shp b).1.toNat - 1) (shp b).2.1 (shp b).2.2 t : Int) + 1, false)
    else (fI (dw (shp b).1 b) (t.take ((shp b).1.toNat - 1)), (shp b).1, true) := rfl
theorem d9 (b : Int) : 0 ≤ (shp b).1 ∧ (shp b).1 ≤ 4 := by
  unfold shp
  (repeat' split) <;> simp
theorem ew {b : Int} (h : 2 ≤ (shp b).1) : 128 ≤ (shp b).2.1 ∧ (shp b).2.2 ≤ 191 := by
  revert h
  unfold shp
  (repeat' split) <;> simp
theorem jC {b : Int} (h0 : 0 ≤ b) (h1 : b ≤ 255) (h : 1 ≤ (shp b).1) : 0 ≤ dw (shp b).1 b ∧ dw (shp b).1 b < 128 := by
  have := cq (p := fun b => 1 ≤ (shp b).1 → 0 ≤ dw (shp b).1 b ∧ dw (shp b).1 b < 128) (by decide +kernel) h0 h1
  exact this h
theorem gg (n : Nat) (lo hi : Int) (l : List Int) : bo n lo hi l ≤ n ∧ bo n lo hi l ≤ l.length := by
  induction n generalizing lo hi l with
  | zero => simp [bo]
  | succ n ih =>
    cases l with
    | nil => simp [bo]
    | cons c t =>
      unfold bo
      have := ih 128 191 t
      rw [List.length_cons]
      split <;> omega
theorem gL (n : Nat) (lo hi : Int) (h0 : 128 ≤ lo) (h1 : hi ≤ 191) (l : List Int) : ∀ c ∈ l.take (bo n lo hi l), 128 ≤ c ∧ c ≤ 191 := by
  induction n generalizing lo hi l with
  | zero => simp [bo]
  | succ n ih =>
    cases l with
    | nil => simp [bo]
    | cons c t =>
      unfold bo
      split
      · rename_i h
        simp only [List.take_succ_cons]
        intro d hd
        rcases List.mem_cons.1 hd with rfl | hd
        · omega
        · exact ih 128 191 (by omega) (by omega) t d hd
      · simp
theorem lE (lo hi : Int) (l : List Int) : bo 0 lo hi l = 0 := by unfold bo; rfl
theorem mC (l : List Int) : 0 ≤ (dec l).2.1 ∧ (dec l).2.1 ≤ 4 ∧ (dec l).2.1 ≤ l.length := by
  cases l with
  | nil => simp [dec]
  | cons b t =>
    have h1 := d9 b
    have h2 := gg ((shp b).1.toNat - 1) (shp b).2.1 (shp b).2.2 t
    rw [List.length_cons, eE]
    split
    · simp only; omega
    · split
      · simp only
        omega
      · simp only
        omega
theorem mP {b : Int} {t : List Int} : 1 ≤ (dec (b :: t)).2.1 := by
  have h1 := d9 b
  rw [eE]
  split
  · simp
  · split <;> simp only <;> omega
theorem gM {b : Int} (t : List Int) (h : b < 128) : dec (b :: t) = (b, 1, true) := by
  have : shp b = (1, 0, 0) := by unfold shp; rw [if_pos h]
  rw [eE, this]
  simp [bo, dw, fI]
theorem mb {b : Int} {t : List Int} (h : 128 ≤ b) (hb : b ≤ 255) (ok : (dec (b :: t)).2.2 = true) : 2 ≤ (dec (b :: t)).2.1 ∧ ∀ c ∈ (b :: t).take (dec (b :: t)).2.1.toNat, 128 ≤ c := by
  have h1 := d9 b
  have h2 : (shp b).1 ≠ 1 := cq (p := fun b => 128 ≤ b → (shp b).1 ≠ 1) (by decide +kernel) (by omega) hb h
  rw [eE] at ok ⊢
  by_cases e : (shp b).1 = 0
  · rw [if_pos e] at ok; cases ok
  · rw [if_neg e] at ok ⊢
    by_cases e2 : (bo ((shp b).1.toNat - 1) (shp b).2.1 (shp b).2.2 t : Int) + 1 < (shp b).1
    · rw [if_pos e2] at ok; cases ok
    · rw [if_neg e2]
      have h3 := gg ((shp b).1.toNat - 1) (shp b).2.1 (shp b).2.2 t
      have h4 := ew (b := b) (by omega)
      have h5 := gL ((shp b).1.toNat - 1) (shp b).2.1 (shp b).2.2 h4.1 h4.2 t
      have e3 : (shp b).1.toNat = bo ((shp b).1.toNat - 1) (shp b).2.1 (shp b).2.2 t + 1 := by omega
      refine ⟨by simp only; omega, ?_⟩
      simp only
      rw [e3, List.take_succ_cons]
      intro c hc
      rcases List.mem_cons.1 hc with rfl | hc
      · exact h
      · exact (h5 c hc).1
theorem ma {l : List Int} (ok : (dec l).2.2 = true) : 1 ≤ (dec l).2.1 := by
  cases l with
  | nil => cases ok
  | cons b t => exact mP
end Go.Proofs.YtmofhijbheimmaaDoor.M
namespace Go.Proofs.YtmofhijbheimmaaDoor.M
open Go Go.RowKit Go.Proofs.YtmofhijbheimmaaDoorW.PrintWords
def ba : List Int → Int
  | p :: a :: b :: _ => if p = 37 then (if hv a < 0 ∨ hv b < 0 then -1 else 16 * hv a + hv b) else -1
  | _ => -1
theorem gi (l : List Int) : -1 ≤ ba l ∧ ba l ≤ 255 := by
  unfold ba
  split
  · rename_i p a b t
    have := gj a
    have := gj b
    split
    · split <;> omega
    · omega
  · omega
theorem du {l : List Int} (h : 0 ≤ ba l) : ∃ a b t, l = 37 :: a :: b :: t ∧ jt a = true ∧ jt b = true ∧ ba l = 16 * hv a + hv b := by
  unfold ba at h ⊢
  split at h
  · rename_i p a b t
    by_cases hp : p = 37
    · rw [if_pos hp] at h ⊢
      by_cases h2 : hv a < 0 ∨ hv b < 0
      · rw [if_pos h2] at h; omega
      · rw [if_neg h2]
        subst hp
        exact ⟨a, b, t, rfl, (jU a).1 (by omega), (jU b).1 (by omega), rfl⟩
    · rw [if_neg hp] at h; omega
  · omega
def db (p : Int) : Bool := decide (1 ≤ p ∧ p ≤ 7)
def mV (p b : Int) : Bool :=
  if p = 1 then b == 58 else if p = 3 then b == 58 || b == 64 else if p = 4 then b == 64 else if p = 5 then b == 58 || b == 64 || b == 47
  else if p = 6 ∨ p = 7 then b == 58 || b == 64 || b == 47 || b == 63 else false
def cG (p b : Int) : Bool := db p && (nC b || mV p b)
def fX (r : Int) : Bool := decide (160 ≤ r ∧ r ≤ 55295 ∨ 63744 ≤ r ∧ r ≤ 64975 ∨ 65008 ≤ r ∧ r ≤ 65519 ∨ 65536 ≤ r ∧ r ≤ 983037 ∧ r % 65536 ≤ 65533 ∧ (r < 917504 ∨ 921600 ≤ r))
def mv (r : Int) : Bool := decide (57344 ≤ r ∧ r ≤ 63743 ∨ 983040 ≤ r ∧ r ≤ 1048573 ∨ 1048576 ≤ r ∧ r ≤ 1114109)
def eh (p : Int) (iri : Bool) (r : Int) : Bool := if 0 ≤ r ∧ r < 128 then cG p r else (iri && db p && (fX r || (decide (p = 6) && mv r)))
def bm (p : Int) (iri : Bool) (l : List Int) : Nat :=
  if db p then (if 0 ≤ ba l then 3 else if (dec l).2.2 && eh p iri (dec l).1 then (dec l).2.1.toNat else 0) else 0
theorem g7 (p : Int) (iri : Bool) (l : List Int) : bm p iri l ≤ l.length := by
  unfold bm
  split
  · split
    · rename_i h
      obtain ⟨a, b, t, rfl, _⟩ := du h
      simp
    · split
      · have := mC l; omega
      · omega
  · omega
def cv (p : Int) (iri : Bool) (l : List Int) : Nat :=
  if h : bm p iri l = 0 then 0 else bm p iri l + cv p iri (l.drop (bm p iri l))
termination_by l.length
decreasing_by
  have := g7 p iri l
  rw [List.length_drop]
  omega
theorem ea (p : Int) (iri : Bool) (l : List Int) : cv p iri l = if bm p iri l = 0 then 0 else bm p iri l + cv p iri (l.drop (bm p iri l)) := by
  rw [cv]
  split <;> simp_all
theorem jY (p : Int) (iri : Bool) (l : List Int) : cv p iri l ≤ l.length := by
  induction hn : l.length using Nat.strongRecOn generalizing l with
  | _ n ih =>
    rw [ea]
    split
    · omega
    · have h1 := g7 p iri l
      have := ih (l.drop (bm p iri l)).length (by rw [List.length_drop]; omega) (l.drop (bm p iri l)) rfl
      rw [List.length_drop] at this
      omega
theorem jE (p : Int) (iri : Bool) : cv p iri [] = 0 := by
  have := jY p iri []
  simpa using this
def bU (p : Int) (iri : Bool) (l : List Int) : Bool := cv p iri l == l.length
theorem i1 (p : Int) (iri : Bool) : bU p iri [] = true := by simp [bU, jE]
end Go.Proofs.YtmofhijbheimmaaDoor.M
namespace Go.Proofs.YtmofhijbheimmaaDoor.M
open Go Go.RowKit Go.Proofs.YtmofhijbheimmaaDoorW.PrintWords
end Go.Proofs.YtmofhijbheimmaaDoor.M
namespace Go.Proofs.YtmofhijbheimmaaDoor.M
open Go Go.RowKit Go.Proofs.YtmofhijbheimmaaDoorW.PrintWords
def fU (sub : List Int) : List Int → Int
  | [] => if sub = [] then 0 else -1
  | b :: t => if sub.isPrefixOf (b :: t) then 0 else if fU sub t = -1 then -1 else fU sub t + 1
theorem jb (sub : List Int) (b : Int) (t : List Int) : fU sub (b :: t) = if sub.isPrefixOf (b :: t) then 0 else if fU sub t = -1 then -1 else fU sub t + 1 := rfl
theorem kp (a l : List UInt8) : (a.map fun b => (b.toNat : Int)).isPrefixOf (l.map fun b => (b.toNat : Int)) = a.isPrefixOf l := by
  induction a generalizing l with
  | nil => rfl
  | cons x t ih =>
    cases l with
    | nil => rfl
    | cons y r =>
      rw [List.map_cons, List.map_cons, List.isPrefixOf_cons_cons, List.isPrefixOf_cons_cons, ih]
      congr 1
      rw [Bool.eq_iff_iff, beq_iff_eq, beq_iff_eq]
      constructor
      · intro h; exact UInt8.toNat_inj.1 (by omega)
      · intro h; rw [h]
theorem kl (l sub : List UInt8) : Go.Lib.index l sub = fU (sub.map fun b => (b.toNat : Int)) (l.map fun b => (b.toNat : Int)) := by
  induction l with
  | nil =>
    unfold Go.Lib.index
    rw [List.map_nil]
    unfold fU
    cases sub <;> simp
  | cons b t ih =>
    unfold Go.Lib.index
    have hp := kp sub (b :: t)
    rw [List.map_cons] at hp ⊢
    rw [jb, hp, ih]
    by_cases h : sub.isPrefixOf (b :: t) = true
    · rw [if_pos h, if_pos h]
    · rw [if_neg h, if_neg h]
      simp only [beq_iff_eq]
theorem ia (s sub : ByteArray) : Go.Lib.indexB s sub = fU (aa sub) (aa s) := kl _ _
theorem jD (c : Int) (l : List Int) : fU [c] l = idx c l := by
  induction l with
  | nil => unfold fU idx; simp
  | cons b t ih =>
    rw [jb, ih]
    have : idx c (b :: t) = if b = c then 0 else if idx c t = -1 then -1 else idx c t + 1 := rfl
    rw [this]
    by_cases h : b = c
    · rw [if_pos h, if_pos (by simp [h])]
    · rw [if_neg h, if_neg (by simp; exact fun x => h x.symm)]
def aV (c : Int) : List Int → List (List Int)
  | [] => [[]]
  | b :: t => if b = c then [] :: aV c t else (b :: (aV c t).headD []) :: (aV c t).tail
theorem dm (c b : Int) (t : List Int) : aV c (b :: t) = if b = c then [] :: aV c t else (b :: (aV c t).headD []) :: (aV c t).tail := rfl
theorem lY (c : Int) (l : List Int) : aV c l ≠ [] := by
  cases l with
  | nil => simp [aV]
  | cons b t => rw [dm]; split <;> simp
theorem jN (c : Int) (l : List Int) : aV c l = (aV c l).headD [] :: (aV c l).tail := by
  cases h : aV c l with
  | nil => exact absurd h (lY c l)
  | cons a r => rfl
theorem fV {c : Int} {l : List Int} (h : c ∉ l) : aV c l = [l] := by
  induction l with
  | nil => rfl
  | cons b t ih =>
    rw [List.mem_cons, not_or] at h
    rw [dm, if_neg (fun x => h.1 x.symm), ih h.2]; rfl
theorem gV {c : Int} {a : List Int} (h : c ∉ a) (r : List Int) : aV c (a ++ c :: r) = a :: aV c r := by
  induction a with
  | nil => rw [List.nil_append, dm, if_pos rfl]
  | cons b t ih =>
    rw [List.mem_cons, not_or] at h
    rw [List.cons_append, dm, if_neg (fun x => h.1 x.symm), ih h.2]; rfl
theorem gy (c : Int) (l : List Int) : (aV c l).length ≤ l.length + 1 := by
  induction l with
  | nil => simp [aV]
  | cons b t ih =>
    rw [dm]
    split
    · simp; omega
    · simp only [List.length_cons, List.length_tail]; omega
theorem iH {c : Int} {l : List Int} : ∀ p ∈ aV c l, c ∉ p ∧ (∀ b ∈ p, b ∈ l) ∧ p.length ≤ l.length := by
  induction l with
  | nil => intro p hp; simp [aV] at hp; subst hp; simp
  | cons b t ih =>
    intro p hp
    rw [dm] at hp
    by_cases h : b = c
    · rw [if_pos h] at hp
      rcases List.mem_cons.1 hp with rfl | hp
      · simp
      · obtain ⟨h1, h2, h3⟩ := ih p hp
        exact ⟨h1, fun x hx => List.mem_cons_of_mem _ (h2 x hx), by rw [List.length_cons]; omega⟩
    · rw [if_neg h] at hp
      rcases List.mem_cons.1 hp with rfl | hp
      · obtain ⟨h1, h2, h3⟩ := ih ((aV c t).headD []) (by rw [jN c t]; simp)
        refine ⟨?_, ?_, by simp only [List.length_cons]; omega⟩
        · rw [List.mem_cons, not_or]; exact ⟨fun x => h x.symm, h1⟩
        · intro x hx
          rcases List.mem_cons.1 hx with rfl | hx
          · exact List.mem_cons_self ..
          · exact List.mem_cons_of_mem _ (h2 x hx)
      · obtain ⟨h1, h2, h3⟩ := ih p (List.mem_of_mem_tail hp)
        exact ⟨h1, fun x hx => List.mem_cons_of_mem _ (h2 x hx), by rw [List.length_cons]; omega⟩
theorem jg (c : Int) (sep : ByteArray) (hsep : aa sep = [c]) : ∀ (k : Nat) (s : ByteArray), Go.Lib.countB s sep = k → (Go.Lib.splitB sep 0 k s).map aa = aV c (aa s) := by
  have h1 : sep.size = 1 := by rw [← am, hsep]; rfl
  intro k
  induction k with
  | zero =>
    intro s hk
    rcases Go.Lib.indexB_cases s sep with hix | ⟨i, hix, hr⟩
    · rw [Go.Lib.splitB_zero, List.map_cons, List.map_nil]
      rw [ia, hsep, jD] at hix
      rw [fV (jv.1 hix)]
    · have := Go.Lib.countB_hit s sep i (by omega) hix; omega
  | succ k ih =>
    intro s hk
    rcases Go.Lib.indexB_cases s sep with hix | ⟨i, hix, hr⟩
    · rw [Go.Lib.countB_miss s sep hix] at hk; omega
    · have hc := Go.Lib.countB_hit s sep i (by omega) hix
      rw [Go.Lib.splitB_hit sep 0 k s i hix, List.map_cons, ih _ (by omega)]
      rw [ia, hsep, jD] at hix
      obtain ⟨e1, e2⟩ := i5 (c := c) (l := aa s) (by omega)
      rw [hix, Int.toNat_natCast] at e1 e2
      conv => rhs; rw [e1]
      rw [gV e2, bV, bV, h1, List.drop_zero, Nat.add_zero]
      rw [← am, List.take_length]
end Go.Proofs.YtmofhijbheimmaaDoor.M
namespace Go.Proofs.YtmofhijbheimmaaDoor.M
open Go Go.RowKit Go.Proofs.YtmofhijbheimmaaDoorW.PrintWords
theorem lX (p : Int) (iri : Bool) (l : List Int) : cv p iri l = 0 ↔ bm p iri l = 0 := by
  rw [ea]
  constructor
  · intro h
    by_cases hs : bm p iri l = 0
    · exact hs
    · rw [if_neg hs] at h; omega
  · intro h; rw [if_pos h]
theorem kb {p : Int} {iri : Bool} {l : List Int} (h : bU p iri l = true) (hl : l ≠ []) : bm p iri l ≠ 0 := by
  unfold bU at h
  rw [beq_iff_eq] at h
  intro hs
  have := (lX p iri l).2 hs
  have hz : l.length ≠ 0 := fun hz => hl (List.length_eq_zero_iff.1 hz)
  omega
theorem ki (t : List Int) : ba (47 :: t) < 0 := by
  match t with
  | [] => exact show (-1 : Int) < 0 by decide
  | [_] => exact show (-1 : Int) < 0 by decide
  | a :: b :: u => show (if (47 : Int) = 37 then (if hv a < 0 ∨ hv b < 0 then -1 else 16 * hv a + hv b) else (-1 : Int)) < 0; rw [if_neg (by decide)]; decide
theorem jO (iri : Bool) (t : List Int) : bm 5 iri (47 :: t) = 1 := by
  have := ki t
  unfold bm
  rw [if_pos (by decide), if_neg (by omega), gM t (by decide)]
  have : eh 5 iri 47 = true := by cases iri <;> decide
  simp [this]
theorem hO (iri : Bool) (t : List Int) : bU 5 iri (47 :: t) = bU 5 iri t := by
  unfold bU
  rw [ea, jO, if_neg (by decide), List.length_cons, Bool.eq_iff_iff, beq_iff_eq, beq_iff_eq]
  simp only [List.drop_succ_cons, List.drop_zero]
  omega
end Go.Proofs.YtmofhijbheimmaaDoor.M
namespace Go.Proofs.YtmofhijbheimmaaDoor.M
open Go Go.RowKit Go.Proofs.YtmofhijbheimmaaDoorW.PrintWords
def jn (c : Int) : List (List Int) → List Int
  | [] => []
  | [a] => a
  | a :: b :: r => a ++ c :: jn c (b :: r)
theorem lN (c : Int) : ∀ L : List (List Int), L ≠ [] → (jn c L).length + 1 = (L.map List.length).sum + L.length
  | [], h => absurd rfl h
  | [a], _ => by simp [jn]
  | a :: b :: r, _ => by
    have ih := lN c (b :: r) (by simp)
    rw [jn, List.length_append, List.length_cons, List.map_cons, List.sum_cons]
    simp only [List.length_cons] at ih ⊢
    omega
theorem jc (c : Int) : ∀ L : List (List Int), L ≠ [] → (∀ p ∈ L, c ∉ p) → aV c (jn c L) = L
  | [], h, _ => absurd rfl h
  | [a], _, h => fV (h a (List.mem_cons_self ..))
  | a :: b :: r, _, h => by
    have ih := jc c (b :: r) (by simp) (fun p hp => h p (List.mem_cons_of_mem _ hp))
    rw [jn, gV (h a (List.mem_cons_self ..)), ih]
def cl : List Int → List Int
  | [] => []
  | b :: t => if 0 ≤ ba (b :: t) then ba (b :: t) :: cl (t.drop 2) else b :: cl t
termination_by l => l.length
decreasing_by
  all_goals simp only [List.length_drop, List.length_cons]
  all_goals omega
theorem il : cl [] = [] := by rw [cl]
theorem ik {l : List Int} (h : 0 ≤ ba l) : cl l = ba l :: cl (l.drop 3) := by
  obtain ⟨a, b, t, rfl, _⟩ := du h
  rw [cl, if_pos h]; rfl
theorem iO {b : Int} {t : List Int} (h : ba (b :: t) < 0) : cl (b :: t) = b :: cl t := by
  rw [cl, if_neg (by omega)]
theorem kh : ∀ (n : Nat) (l : List Int), l.length = n → (∀ b ∈ l, 0 ≤ b ∧ b ≤ 255) → ∀ b ∈ cl l, 0 ≤ b ∧ b ≤ 255 := by
  intro n
  induction n using Nat.strongRecOn with
  | _ n ih =>
    intro l hn hl
    cases l with
    | nil => rw [il]; intro b hb; cases hb
    | cons b t =>
      rw [List.length_cons] at hn
      by_cases h : 0 ≤ ba (b :: t)
      · rw [ik h]
        have hr := gi (b :: t)
        have := ih ((b :: t).drop 3).length (by rw [List.length_drop, List.length_cons]; omega) _ rfl (fun c hc => hl c (List.mem_of_mem_drop hc))
        intro c hc
        rcases List.mem_cons.1 hc with rfl | hc
        · omega
        · exact this c hc
      · rw [iO (by omega)]
        have := ih t.length (by omega) t rfl (fun c hc => hl c (List.mem_cons_of_mem _ hc))
        intro c hc
        rcases List.mem_cons.1 hc with rfl | hc
        · exact hl c (List.mem_cons_self ..)
        · exact this c hc
def bw : List Int → Bool
  | [] => true
  | b :: t => if 0 ≤ ba (b :: t) then bw (t.drop 2) else b != 37 && bw t
termination_by l => l.length
decreasing_by
  all_goals simp only [List.length_drop, List.length_cons]
  all_goals omega
theorem gx : bw [] = true := by rw [bw]
theorem fl {l : List Int} (h : 0 ≤ ba l) : bw l = bw (l.drop 3) := by
  obtain ⟨a, b, t, rfl, _⟩ := du h
  rw [bw, if_pos h]; rfl
theorem d6 {b : Int} {t : List Int} (h : ba (b :: t) < 0) : bw (b :: t) = (b != 37 && bw t) := by
  rw [bw, if_neg (by omega)]
theorem fm {b : Int} (t : List Int) (h : b ≠ 37) : ba (b :: t) < 0 := by
  have := gi (b :: t)
  rcases Int.lt_or_le (ba (b :: t)) 0 with h1 | h1
  · exact h1
  · obtain ⟨a, c, u, e, _⟩ := du h1
    injection e with e1 _
    exact absurd e1 h
theorem kx {l : List Int} {n : Nat} (hn : ∀ b ∈ l.take n, b ≠ 37) : bw (l.drop n) = bw l := by
  induction n generalizing l with
  | zero => rfl
  | succ n ih =>
    cases l with
    | nil => rfl
    | cons b t =>
      have hb : b ≠ 37 := hn b (by simp)
      rw [List.drop_succ_cons, ih (fun c hc => hn c (by rw [List.take_succ_cons]; exact List.mem_cons_of_mem _ hc)), d6 (fm t hb)]
      have : (b != 37) = true := bne_iff_ne.2 hb
      rw [this, Bool.true_and]
def hdu (d : Int) : Int := if d < 10 then 48 + d else 55 + d
def ed (b : Int) : List Int := [37, hdu (b / 16), hdu (b % 16)]
theorem fY {d : Int} (h0 : 0 ≤ d) (h1 : d < 16) : hv (hdu d) = d ∧ hdu d ≠ 47 ∧ 0 ≤ hdu d ∧ hdu d < 128 := by
  have : ∀ n : Fin 16, hv (hdu (n.val : Int)) = (n.val : Int) ∧ hdu (n.val : Int) ≠ 47 ∧ 0 ≤ hdu (n.val : Int) ∧ hdu (n.val : Int) < 128 := by decide
  have h := this ⟨d.toNat, by omega⟩
  have e : ((d.toNat : Nat) : Int) = d := by omega
  simp only [e] at h
  exact h
theorem i4 {b : Int} (h0 : 0 ≤ b) (h1 : b ≤ 255) (t : List Int) : ba (ed b ++ t) = b := by
  have a := fY (d := b / 16) (by omega) (by omega)
  have c := fY (d := b % 16) (by omega) (by omega)
  show (if (37 : Int) = 37 then (if hv (hdu (b / 16)) < 0 ∨ hv (hdu (b % 16)) < 0 then -1 else 16 * hv (hdu (b / 16)) + hv (hdu (b % 16))) else -1) = b
  rw [if_pos rfl, a.1, c.1, if_neg (by omega)]
  omega
def aU (keep : Int → Bool) (l : List Int) : List Int := l.flatMap fun b => if keep b then [b] else ed b
theorem dt (keep : Int → Bool) (b : Int) (t : List Int) : aU keep (b :: t) = (if keep b then [b] else ed b) ++ aU keep t := rfl
theorem i2 {keep : Int → Bool} (hk : keep 37 = false) : ∀ l : List Int, (∀ b ∈ l, 0 ≤ b ∧ b ≤ 255) → cl (aU keep l) = l
  | [], _ => il
  | b :: t, h => by
    have hb := h b (List.mem_cons_self ..)
    have ih := i2 hk t (fun c hc => h c (List.mem_cons_of_mem _ hc))
    rw [dt]
    by_cases hkb : keep b = true
    · have hne : b ≠ 37 := fun e => by rw [e, hk] at hkb; cases hkb
      rw [if_pos hkb, List.singleton_append, iO (fm _ hne), ih]
    · have he := i4 hb.1 hb.2 (aU keep t)
      rw [if_neg hkb, ik (by omega), he]
      show b :: cl (aU keep t) = _
      rw [ih]
theorem iP {keep : Int → Bool} {c : Int} (hk : keep c = false) (hc : c = 47) : ∀ l : List Int, (∀ b ∈ l, 0 ≤ b ∧ b ≤ 255) → c ∉ aU keep l
  | [], _ => by simp [aU]
  | b :: t, h => by
    have hb := h b (List.mem_cons_self ..)
    have ih := iP hk hc t (fun c hc => h c (List.mem_cons_of_mem _ hc))
    rw [dt, List.mem_append, not_or]
    refine ⟨?_, ih⟩
    by_cases hkb : keep b = true
    · rw [if_pos hkb, List.mem_singleton]
      exact fun e => by rw [e, hkb] at hk; cases hk
    · rw [if_neg hkb]
      have a := fY (d := b / 16) (by omega) (by omega)
      have d := fY (d := b % 16) (by omega) (by omega)
      unfold ed
      simp only [List.mem_cons, List.mem_nil_iff, or_false, not_or]
      rw [hc]
      exact ⟨by decide, fun e => a.2.1 e.symm, fun e => d.2.1 e.symm⟩
theorem jq {keep : Int → Bool} {l : List Int} : aU keep l = [] ↔ l = [] := by
  cases l with
  | nil => simp [aU]
  | cons b t =>
    rw [dt]
    constructor
    · intro h
      have := congrArg List.length h
      split at this <;> simp [ed] at this
    · intro h; cases h
theorem im {keep : Int → Bool} : ∀ l : List Int, (aU keep l).length ≤ 3 * l.length
  | [] => by simp [aU]
  | b :: t => by
    have ih := im (keep := keep) t
    rw [dt, List.length_append, List.length_cons]
    split
    · rw [List.length_singleton]; omega
    · show 3 + _ ≤ _; omega
theorem jH {p : Int} {iri : Bool} {b : Int} {t : List Int} (h0 : 0 ≤ b) (h1 : b < 128) (h37 : b ≠ 37) (hp : cG p b = true) : bU p iri (b :: t) = bU p iri t := by
  have hpl : db p = true := by unfold cG at hp; rw [Bool.and_eq_true] at hp; exact hp.1
  have hs : bm p iri (b :: t) = 1 := by
    have he := fm t h37
    unfold bm
    rw [if_pos hpl, if_neg (by omega), gM t h1]
    have : eh p iri b = true := by unfold eh; rw [if_pos ⟨h0, h1⟩]; exact hp
    dsimp only
    rw [this]; rfl
  unfold bU
  rw [ea, hs, if_neg (by omega), List.length_cons]
  show (1 + cv p iri t == t.length + 1) = (cv p iri t == t.length)
  rw [Bool.eq_iff_iff, beq_iff_eq, beq_iff_eq]; omega
theorem iZ {p : Int} {iri : Bool} {l : List Int} (hp : db p = true) (h : 0 ≤ ba l) : bU p iri l = bU p iri (l.drop 3) := by
  obtain ⟨a, b, t, e, _⟩ := du h
  have hs : bm p iri l = 3 := by unfold bm; rw [if_pos hp, if_pos h]
  have hl : 3 ≤ l.length := by rw [e]; simp
  have hle := jY p iri (l.drop 3)
  rw [List.length_drop] at hle
  unfold bU
  rw [ea, hs, if_neg (by omega), List.length_drop, Bool.eq_iff_iff, beq_iff_eq, beq_iff_eq]; omega
theorem gf {p : Int} {iri : Bool} {keep : Int → Bool} (hp : db p = true) (hk : ∀ b, 0 ≤ b → b ≤ 255 → keep b = true → b < 128 ∧ b ≠ 37 ∧ cG p b = true) (r : List Int) : ∀ l : List Int, (∀ b ∈ l, 0 ≤ b ∧ b ≤ 255) → bU p iri (aU keep l ++ r) = bU p iri r
  | [], _ => rfl
  | b :: t, h => by
    have hb := h b (List.mem_cons_self ..)
    have ih := gf (iri := iri) hp hk r t (fun c hc => h c (List.mem_cons_of_mem _ hc))
    rw [dt, List.append_assoc]
    by_cases hkb : keep b = true
    · obtain ⟨h1, h2, h3⟩ := hk b hb.1 hb.2 hkb
      rw [if_pos hkb, List.singleton_append, jH hb.1 h1 h2 h3, ih]
    · have he := i4 hb.1 hb.2 (aU keep t ++ r)
      rw [if_neg hkb, iZ hp (by omega)]
      exact ih
theorem jm {iri : Bool} {keep : Int → Bool} (hk : ∀ b, 0 ≤ b → b ≤ 255 → keep b = true → b < 128 ∧ b ≠ 37 ∧ cG 5 b = true) : ∀ L : List (List Int), (∀ l ∈ L, ∀ b ∈ l, 0 ≤ b ∧ b ≤ 255) → bU 5 iri (jn 47 (L.map (aU keep))) = true
  | [], _ => i1 _ _
  | [a], h => by
    have := gf (p := 5) (iri := iri) (by decide) hk [] a (h a (List.mem_cons_self ..))
    rw [List.append_nil, i1] at this
    exact this
  | a :: b :: r, h => by
    have ih := jm (iri := iri) hk (b :: r) (fun l hl => h l (List.mem_cons_of_mem _ hl))
    show bU 5 iri (aU keep a ++ 47 :: jn 47 ((b :: r).map (aU keep))) = true
    rw [gf (by decide) hk _ a (h a (List.mem_cons_self ..)), hO, ih]
theorem jI {p : Int} {iri : Bool} (hp : db p = true) (h37 : cG p 37 = false) : ∀ (n : Nat) (l : List Int), l.length = n → (∀ b ∈ l, 0 ≤ b ∧ b ≤ 255) → bU p iri l = true → bw l = true := by
  intro n
  induction n using Nat.strongRecOn with
  | _ n ih =>
    intro l hn hl ha
    cases l with
    | nil => exact gx
    | cons b t =>
      rw [List.length_cons] at hn
      by_cases h : 0 ≤ ba (b :: t)
      · rw [iZ hp h] at ha
        rw [fl h]
        exact ih ((b :: t).drop 3).length (by rw [List.length_drop, List.length_cons]; omega) _ rfl (fun c hc => hl c (List.mem_of_mem_drop hc)) ha
      · have hs := kb ha (by simp)
        have hle := g7 p iri (b :: t)
        have hspan := ha
        unfold bU at hspan
        rw [beq_iff_eq, ea, if_neg hs] at hspan
        have hstep : bm p iri (b :: t) = (dec (b :: t)).2.1.toNat ∧ (dec (b :: t)).2.2 = true ∧ eh p iri (dec (b :: t)).1 = true := by
          unfold bm at hs ⊢
          rw [if_pos hp, if_neg h] at hs ⊢
          by_cases hd : ((dec (b :: t)).2.2 && eh p iri (dec (b :: t)).1) = true
          · rw [if_pos hd]
            rw [Bool.and_eq_true] at hd
            exact ⟨rfl, hd⟩
          · rw [if_neg hd] at hs; exact absurd rfl hs
        have hb := hl b (List.mem_cons_self ..)
        have hno : ∀ c ∈ (b :: t).take (bm p iri (b :: t)), c ≠ 37 := by
          rw [hstep.1]
          rcases Int.lt_or_le b 128 with hb1 | hb1
          · have hd := gM t hb1
            rw [hd] at hstep ⊢
            intro c hc
            have : c = b := by simpa using hc
            rw [this]
            intro e
            have hm := hstep.2.2
            rw [e] at hm
            unfold eh at hm
            rw [if_pos (by decide), h37] at hm
            cases hm
          · have hw := (mb (t := t) hb1 hb.2 hstep.2.1).2
            intro c hc e
            have := hw c hc
            omega
        rw [← kx hno]
        refine ih ((b :: t).drop (bm p iri (b :: t))).length (by rw [List.length_drop, List.length_cons]; omega) _ rfl (fun c hc => hl c (List.mem_of_mem_drop hc)) ?_
        unfold bU
        rw [beq_iff_eq, List.length_drop]; omega
end Go.Proofs.YtmofhijbheimmaaDoor.M
namespace Go.Proofs.YtmofhijbheimmaaDoor.M
open Go Go.RowKit Go.Proofs.YtmofhijbheimmaaDoorW.PrintWords Go.Proofs.YtmofhijbheimmaaDoorW.PrintLast Go.Proofs.YtmofhijbheimmaaDoorW.PrintMore
theorem cS {l : List Int} (h : ∀ b ∈ l, 0 ≤ b ∧ b ≤ 255) : aa (strOfNums l) = l := by
  unfold aa strOfNums
  show ((l.map fun n => UInt8.ofNat n.toNat).toArray.toList).map _ = l
  rw [List.map_map]
  have : ∀ b ∈ l, ((fun b : UInt8 => (b.toNat : Int)) ∘ fun n : Int => UInt8.ofNat n.toNat) b = b := by
    intro b hb
    have := h b hb
    show ((UInt8.ofNat b.toNat).toNat : Int) = b
    rw [UInt8.toNat_ofNat']
    omega
  rw [List.map_congr_left this, List.map_id'']
  intro b; rfl
theorem gX {s : ByteArray} {l : List Int} (h : aa s = l) : s = strOfNums l := by
  subst h
  exact fJ (cS (fun b hb => hP hb)).symm
theorem gW (s : ByteArray) : strOfNums (aa s) = s := (gX rfl).symm
theorem fC {l : List Int} (h : ∀ b ∈ l, 0 ≤ b ∧ b ≤ 255) : (strOfNums l).size = l.length := by rw [← am, cS h]
theorem mj (x y : List UInt8) (r : List (List UInt8)) (sep : List UInt8) : Go.Lib.join (x :: y :: r) sep = x ++ (sep ++ Go.Lib.join (y :: r) sep) := by
  rw [Go.Lib.join_cons, Go.Lib.join_cons]; simp [Go.Lib.joinTail]
theorem jW (c : UInt8) : ∀ L : List (List UInt8), (Go.Lib.join L [c]).map (fun b => (b.toNat : Int)) = jn (c.toNat : Int) (L.map (List.map fun b => (b.toNat : Int)))
  | [] => rfl
  | [x] => by rw [Go.Lib.join_one]; rfl
  | x :: y :: r => by
    rw [mj, List.map_append, List.map_append, jW c (y :: r)]; rfl
theorem io {c : Int} (hc : 0 ≤ c ∧ c ≤ 255) : ∀ {L : List (List Int)}, (∀ p ∈ L, ∀ b ∈ p, 0 ≤ b ∧ b ≤ 255) → ∀ b ∈ jn c L, 0 ≤ b ∧ b ≤ 255
  | [], _ => by intro b hb; cases hb
  | [a], h => h a (List.mem_cons_self ..)
  | a :: d :: r, h => by
    have ih := io hc (L := d :: r) (fun p hp => h p (List.mem_cons_of_mem _ hp))
    intro b hb
    rcases List.mem_append.1 (show b ∈ a ++ c :: jn c (d :: r) from hb) with hb | hb
    · exact h a (List.mem_cons_self ..) b hb
    · rcases List.mem_cons.1 hb with rfl | hb
      · exact hc
      · exact ih b hb
theorem mz {L : List (List Int)} (h : ∀ p ∈ L, ∀ b ∈ p, 0 ≤ b ∧ b ≤ 255) : (L.map strOfNums).map aa = L := by
  rw [List.map_map]
  have : ∀ p ∈ L, (aa ∘ strOfNums) p = p := fun p hp => cS (h p hp)
  rw [List.map_congr_left this, List.map_id'']
  intro b; rfl
theorem mr {R : List ByteArray} {L : List (List Int)} (h : R.map aa = L) : R = L.map strOfNums := by
  subst h
  rw [List.map_map]
  have : ∀ p ∈ R, (strOfNums ∘ aa) p = p := fun p hp => gW p
  rw [List.map_congr_left this, List.map_id'']
  intro b; rfl
end Go.Proofs.YtmofhijbheimmaaDoor.M
namespace Go.Proofs.YtmofhijbheimmaaDoor.M
open Go Go.RowKit Go.Proofs.YtmofhijbheimmaaDoorW.PrintWords
def cF : Nat → List Int → List (Int × Int)
  | _, [] => []
  | i, b :: t => if 0 ≤ ba (b :: t) then ((i : Int), ba (b :: t)) :: cF (i + 3) (t.drop 2) else cF (i + 1) t
termination_by _ l => l.length
decreasing_by
  all_goals simp only [List.length_drop, List.length_cons]; omega
theorem gu (i : Nat) : cF i [] = [] := by rw [cF]
theorem gt {i : Nat} {l : List Int} (h : 0 ≤ ba l) : cF i l = ((i : Int), ba l) :: cF (i + 3) (l.drop 3) := by
  obtain ⟨a, b, t, rfl, _⟩ := du h
  rw [cF, if_pos h]; rfl
theorem gS {i : Nat} {b : Int} {t : List Int} (h : ba (b :: t) < 0) : cF i (b :: t) = cF (i + 1) t := by
  rw [cF, if_neg (by omega)]
theorem je (A : List Int) (x : Int) : (!A.contains 37 && x != 37) = !(A ++ [x]).contains 37 := by
  rw [Bool.eq_iff_iff]
  simp only [Bool.and_eq_true, Bool.not_eq_true', bne_iff_ne, List.contains_eq_mem, decide_eq_false_iff_not, List.mem_append, List.mem_singleton, not_or]
  exact ⟨fun h => ⟨h.1, fun e => h.2 e.symm⟩, fun h => ⟨h.1, fun e => h.2 e.symm⟩⟩
theorem ii (l : List Int) (p : Nat) : ∀ n : Nat, p + n ≤ l.length → (∀ j, p ≤ j → j < p + n → ba (l.drop j) < 0) → bw (l.drop p) = (!((l.drop p).take n).contains 37 && bw (l.drop (p + n)))
  | 0, _, _ => by simp
  | n + 1, hl, h => by
    have ih := ii l p n (by omega) (fun j h1 h2 => h j h1 (by omega))
    have hd : l.drop (p + n) = l[p + n] :: l.drop (p + n + 1) := List.drop_eq_getElem_cons (by omega)
    have he := h (p + n) (by omega) (by omega)
    rw [hd] at he
    rw [ih, hd, d6 he, List.take_add_one, List.getElem?_drop, List.getElem?_eq_getElem (by omega)]
    rw [← Bool.and_assoc, show p + (n + 1) = p + n + 1 by omega]
    congr 1
    rw [Option.toList_some]
    exact je _ _
def eg (f : Int → Option (List Int)) : List Int → List Int
  | [] => []
  | b :: t => if 0 ≤ ba (b :: t) then ((f (ba (b :: t))).getD ((b :: t).take 3)) ++ eg f (t.drop 2) else b :: eg f t
termination_by l => l.length
decreasing_by
  all_goals simp only [List.length_drop, List.length_cons]; omega
theorem jx (f : Int → Option (List Int)) : eg f [] = [] := by rw [eg]
theorem jw {f : Int → Option (List Int)} {l : List Int} (h : 0 ≤ ba l) : eg f l = ((f (ba l)).getD (l.take 3)) ++ eg f (l.drop 3) := by
  obtain ⟨a, b, t, rfl, _⟩ := du h
  rw [eg, if_pos h]; rfl
theorem jX {f : Int → Option (List Int)} {b : Int} {t : List Int} (h : ba (b :: t) < 0) : eg f (b :: t) = b :: eg f t := by
  rw [eg, if_neg (by omega)]
theorem mq : ∀ (n : Nat) (l : List Int), l.length = n → eg (fun b => some [b]) l = cl l := by
  intro n
  induction n using Nat.strongRecOn with
  | _ n ih =>
    intro l hn
    cases l with
    | nil => rw [jx, il]
    | cons b t =>
      rw [List.length_cons] at hn
      by_cases h : 0 ≤ ba (b :: t)
      · rw [jw h, ik h, ih ((b :: t).drop 3).length (by rw [List.length_drop, List.length_cons]; omega) _ rfl]; rfl
      · rw [jX (by omega), iO (by omega), ih t.length (by omega) t rfl]
theorem jM : ∀ (n : Nat) (a r : List Int), a.length = n → 47 ∉ a → bw (a ++ 47 :: r) = true → bw a = true ∧ bw r = true := by
  intro n
  induction n using Nat.strongRecOn with
  | _ n ih =>
    intro a r hn ha h
    cases a with
    | nil =>
      rw [List.nil_append, d6 (fm r (by decide))] at h
      exact ⟨gx, (Bool.and_eq_true_iff.1 h).2⟩
    | cons b t =>
      rw [List.length_cons] at hn
      rw [List.mem_cons, not_or] at ha
      by_cases he : 0 ≤ ba (b :: t ++ 47 :: r)
      · obtain ⟨x, y, u, e, hx, hy, hv⟩ := du he
        have nx : x ≠ 47 := by intro e; subst e; revert hx; decide
        have ny : y ≠ 47 := by intro e; subst e; revert hy; decide
        cases t with
        | nil => simp at e; exact absurd e.2.1.symm nx
        | cons c t =>
          cases t with
          | nil => simp at e; exact absurd e.2.2.1.symm ny
          | cons d t =>
            have e1 : ba (b :: c :: d :: t) = ba (b :: c :: d :: t ++ 47 :: r) := rfl
            rw [fl he] at h
            have := ih t.length (by simp at hn; omega) t r rfl (fun hm => ha.2 (by simp [hm])) h
            refine ⟨?_, this.2⟩
            rw [fl (by rw [e1]; exact he)]
            exact this.1
      · rw [List.cons_append] at he h
        rw [d6 (by omega)] at h
        obtain ⟨hb, h⟩ := Bool.and_eq_true_iff.1 h
        have := ih t.length (by omega) t r rfl ha.2 h
        refine ⟨?_, this.2⟩
        rw [d6 (fm t (bne_iff_ne.1 hb)), hb, this.1]; rfl
theorem jL : ∀ (n : Nat) (l : List Int), l.length = n → bw l = true → ∀ p ∈ aV 47 l, bw p = true := by
  intro n
  induction n using Nat.strongRecOn with
  | _ n ih =>
    intro l hn h
    by_cases hc : 47 ∈ l
    · have hi : 0 ≤ idx 47 l := by
        have := ju 47 l
        have : idx 47 l ≠ -1 := fun e => (jv.1 e) hc
        omega
      obtain ⟨e, hnot⟩ := i5 hi
      generalize l.take (idx 47 l).toNat = a at e hnot
      generalize l.drop ((idx 47 l).toNat + 1) = r at e
      subst e
      obtain ⟨h1, h2⟩ := jM a.length a r rfl hnot h
      rw [gV hnot]
      intro p hp
      rcases List.mem_cons.1 hp with rfl | hp
      · exact h1
      · exact ih r.length (by rw [← hn]; simp; omega) r rfl h2 p hp
    · rw [fV hc]
      intro p hp
      rw [List.mem_singleton.1 hp]; exact h
def cL : List Int → Bool × List (List Int)
  | [] => (false, [])
  | b :: t => if b = 47 then (true, (aV 47 t).map cl) else (false, (aV 47 (b :: t)).map cl)
theorem gr (b : Int) (t : List Int) : cL (b :: t) = if b = 47 then (true, (aV 47 t).map cl) else (false, (aV 47 (b :: t)).map cl) := rfl
def cM (keep : Int → Bool) (P : Bool × List (List Int)) : List Int := (if P.1 then [47] else []) ++ jn 47 (P.2.map (aU keep))
def iF (P : Bool × List (List Int)) : Bool := if P.1 then !P.2.isEmpty else P.2.isEmpty || !(P.2.headD []).isEmpty
theorem hU {keep : Int → Bool} (hk : keep 37 = false) {L : List (List Int)} (h : ∀ p ∈ L, ∀ b ∈ p, 0 ≤ b ∧ b ≤ 255) : (L.map (aU keep)).map cl = L := by
  rw [List.map_map]
  have : ∀ p ∈ L, (cl ∘ aU keep) p = p := fun p hp => i2 hk p (h p hp)
  rw [List.map_congr_left this, List.map_id'']
  intro b; rfl
theorem jd {keep : Int → Bool} (hk : keep 47 = false) {L : List (List Int)} (h : ∀ p ∈ L, ∀ b ∈ p, 0 ≤ b ∧ b ≤ 255) (hL : L ≠ []) : aV 47 (jn 47 (L.map (aU keep))) = L.map (aU keep) := by
  refine jc 47 _ (by simpa using hL) ?_
  intro p hp
  obtain ⟨q, hq, rfl⟩ := List.mem_map.1 hp
  exact iP hk rfl q (h q hq)
theorem lT {keep : Int → Bool} (h37 : keep 37 = false) (h47 : keep 47 = false) (P : Bool × List (List Int)) (h : ∀ p ∈ P.2, ∀ b ∈ p, 0 ≤ b ∧ b ≤ 255) : cL (cM keep P) = P ↔ iF P = true := by
  obtain ⟨r, L⟩ := P
  cases r with
  | true =>
    show cL (47 :: jn 47 (L.map (aU keep))) = (true, L) ↔ (!L.isEmpty) = true
    rw [cL, if_pos rfl]
    cases L with
    | nil => simp [jn, aV]
    | cons a L =>
      rw [jd h47 h (by simp), hU h37 h]
      simp
  | false =>
    show cL (jn 47 (L.map (aU keep))) = (false, L) ↔ (L.isEmpty || !(L.headD []).isEmpty) = true
    cases L with
    | nil => simp [jn, cL]
    | cons a L =>
      cases a with
      | nil =>
        cases L with
        | nil => simp [jn, aU, cL]
        | cons c L =>
          show cL (47 :: jn 47 ((c :: L).map (aU keep))) = _ ↔ _
          rw [cL, if_pos rfl]
          simp
      | cons b t =>
        have hs := jd h47 h (by simp)
        have hd := hU h37 h
        have hn : aU keep (b :: t) ≠ [] := fun e => by have := jq.1 e; simp at this
        have ht : ∃ x u, jn 47 (((b :: t) :: L).map (aU keep)) = x :: u ∧ x ∈ aU keep (b :: t) := by
          cases e : aU keep (b :: t) with
          | nil => exact absurd e hn
          | cons x u =>
            cases L with
            | nil => exact ⟨x, u, by simp [jn, e], by simp⟩
            | cons c L => exact ⟨x, u ++ 47 :: jn 47 ((c :: L).map (aU keep)), by
                show aU keep (b :: t) ++ 47 :: jn 47 ((c :: L).map (aU keep)) = _
                rw [e]; rfl, by simp⟩
        obtain ⟨x, u, e, hx⟩ := ht
        have hx47 : x ≠ 47 := by
          intro e; subst e
          exact iP h47 rfl _ (h _ (List.mem_cons_self ..)) hx
        have : cL (jn 47 (((b :: t) :: L).map (aU keep))) = (false, ((aV 47 (jn 47 (((b :: t) :: L).map (aU keep)))).map cl)) := by
          rw [e, cL, if_neg hx47]
        rw [this, hs, hd]
        simp
theorem ko {l : List Int} (h : ∀ b ∈ l, 0 ≤ b ∧ b ≤ 255) : ∀ p ∈ (cL l).2, ∀ b ∈ p, 0 ≤ b ∧ b ≤ 255 := by
  have key : ∀ m : List Int, (∀ b ∈ m, 0 ≤ b ∧ b ≤ 255) → ∀ p ∈ (aV 47 m).map cl, ∀ b ∈ p, 0 ≤ b ∧ b ≤ 255 := by
    intro m hm p hp
    obtain ⟨q, hq, rfl⟩ := List.mem_map.1 hp
    exact kh q.length q rfl (fun b hb => hm b ((iH q hq).2.1 b hb))
  cases l with
  | nil => intro p hp; simp [cL] at hp
  | cons b t =>
    rw [gr]
    by_cases e : b = 47
    · rw [if_pos e]; exact key t (fun c hc => h c (List.mem_cons_of_mem _ hc))
    · rw [if_neg e]; exact key _ h
theorem mu {l : List Int} : (cL l).2.length ≤ l.length + 1 := by
  cases l with
  | nil => simp [cL]
  | cons b t =>
    rw [gr]
    by_cases e : b = 47
    · rw [if_pos e]
      have := gy 47 t
      simp only [List.length_map, List.length_cons]; omega
    · rw [if_neg e]
      have := gy 47 (b :: t)
      simp only [List.length_map]; omega
theorem mA {iri : Bool} {keep : Int → Bool} (hk : ∀ b, 0 ≤ b → b ≤ 255 → keep b = true → b < 128 ∧ b ≠ 37 ∧ cG 5 b = true) (P : Bool × List (List Int)) (h : ∀ p ∈ P.2, ∀ b ∈ p, 0 ≤ b ∧ b ≤ 255) : bU 5 iri (cM keep P) = true := by
  unfold cM
  have := jm (iri := iri) hk P.2 h
  cases P.1 with
  | true => exact (hO _ _).trans this
  | false => exact this
end Go.Proofs.YtmofhijbheimmaaDoor.M
namespace Go.Proofs.YtmofhijbheimmaaDoor.Y
open Go.RowKit Go.Proofs.YtmofhijbheimmaaDoor.X Go.Proofs.YtmofhijbheimmaaDoor.M Go.Proofs.YtmofhijbheimmaaDoorW.PrintWords Go.Proofs.YtmofhijbheimmaaDoorW.PrintLast Go.Proofs.YtmofhijbheimmaaDoorW.PrintMore
theorem mO {b : Int} (h0 : 0 ≤ b) (h1 : b ≤ 255) : Ev (fun k => ce k b) (cls b) :=
  ge (fun k => fz b k) (k := 12) (cq (p := fun b => ce 12 b = some (cls b)) (by decide +kernel) h0 h1)
theorem nS {b : Int} (c : Int) (h0 : 0 ≤ b) (h1 : b ≤ 255) : Ev (fun k => cy k b c) (isc b c) := az (mO h0 h1) (aI _)
theorem j9 {b : Int} (h0 : 0 ≤ b) (h1 : b ≤ 255) : Ev (fun k => cf k b) (if hv b < 0 then (0, false) else (hv b, true)) :=
  ge (fun k => dM b k) (k := 14) (cq (p := fun b => cf 14 b = some (if hv b < 0 then (0, false) else (hv b, true))) (by decide +kernel) h0 h1)
theorem ku {b : Int} (h0 : 0 ≤ b) (h1 : b ≤ 255) : Ev (fun k => bc k b) (cls b) :=
  ge (fun k => fG b k) (k := 60) (cq (p := fun b => bc 60 b = some (cls b)) (by decide +kernel) h0 h1)
theorem cd (s : ByteArray) (n : Nat) (h : n ≤ s.size) : (n = s.size ∧ (aa s).drop n = []) ∨ (n < s.size ∧ (aa s).drop n = bt s (n : Int) :: (aa s).drop (n + 1) ∧ 0 ≤ bt s (n : Int) ∧ bt s (n : Int) ≤ 255) := by
  rcases Nat.lt_or_ge n s.size with h1 | h1
  · right
    have hl : n < (aa s).length := by rw [am]; exact h1
    refine ⟨h1, ?_, (gK s n).1, (gK s n).2⟩
    rw [List.drop_eq_getElem_cons hl, jP, List.getD_eq_getElem?_getD, List.getElem?_eq_getElem hl]
    rfl
  · left
    exact ⟨by omega, List.drop_of_length_le (by rw [am]; exact h1)⟩
theorem ij (s : ByteArray) : (s.size = 0 ∧ aa s = []) ∨ (0 < s.size ∧ aa s = bt s 0 :: (aa s).drop 1 ∧ 0 ≤ bt s 0 ∧ bt s 0 ≤ 255) := by
  have := cd s 0 (by omega)
  rw [List.drop_zero] at this
  rcases this with ⟨h, e⟩ | h
  · exact .inl ⟨h.symm, e⟩
  · exact .inr h
theorem mX (s t : ByteArray) (hs : s.size ≤ 140737488351232) (ht : t.size ≤ 140737488351232) (i : Nat) (hi : i < s.size) (r : Int) (next : Ev (fun k => bq k s t ((i + 1 : Nat) : Int)) r) : ∀ d n : Nat, n + d = t.size →
    Ev (fun k => bN k s t (i : Int) (t.size : Int) (n : Int)) (if ((aa t).drop n).contains (bt s i) then (i : Int) else r) := by
  intro d
  induction d with
  | zero =>
    intro n hn
    refine Ev.step (fun k => rfl) (af (by omega) ?_)
    rw [List.drop_of_length_le (by rw [am]; omega), w64 (by omega) (by omega)]
    exact next
  | succ d ih =>
    intro n hn
    rcases cd t n (by omega) with ⟨h, _⟩ | ⟨h, e, b0, b1⟩
    · omega
    refine Ev.step (fun k => rfl) (ab (by omega) (ab (by omega) (ab (by omega) (ab (by omega) (ab (by omega) ?_)))))
    rw [e, List.contains_cons]
    by_cases hb : bt s i = bt t n
    · refine ab hb ?_
      have : (bt s (i : Int) == bt t (n : Int)) = true := by simpa using hb
      rw [this]
      exact aI _
    · refine af hb ?_
      rw [w64 (by omega) (by omega)]
      have : (bt s (i : Int) == bt t (n : Int)) = false := by simpa using hb
      rw [this, Bool.false_or]
      exact ih (n + 1) (by omega)
theorem mW (s t : ByteArray) (hs : s.size ≤ 140737488351232) (ht : t.size ≤ 140737488351232) : ∀ d n : Nat, n + d = s.size →
    Ev (fun k => bq k s t (n : Int)) (let j := cW (fun b => (aa t).contains b) ((aa s).drop n); if j = -1 then -1 else (n : Int) + j) := by
  intro d
  induction d with
  | zero =>
    intro n hn
    refine Ev.step (fun k => rfl) (af (by omega) ?_)
    rw [List.drop_of_length_le (by rw [am]; omega)]
    exact aI _
  | succ d ih =>
    intro n hn
    rcases cd s n (by omega) with ⟨h, _⟩ | ⟨h, e, b0, b1⟩
    · omega
    refine Ev.step (fun k => rfl) (ab (by omega) ?_)
    have h1 := mX s t hs ht n h _ (ih (n + 1) (by omega)) t.size 0 (by omega)
    simp only [List.drop_zero] at h1
    rw [e]
    have hg := iS (fun b => (aa t).contains b) ((aa s).drop (n + 1))
    have key : (if (aa t).contains (bt s (n : Int)) = true then (n : Int) else (let j := cW (fun b => (aa t).contains b) ((aa s).drop (n + 1)); if j = -1 then -1 else ((n + 1 : Nat) : Int) + j)) = (let j := cW (fun b => (aa t).contains b) (bt s (n : Int) :: (aa s).drop (n + 1)); if j = -1 then -1 else (n : Int) + j) := by
      generalize hq : (fun b => (aa t).contains b) = q at *
      have hq2 : (aa t).contains (bt s (n : Int)) = q (bt s (n : Int)) := by rw [← hq]
      rw [hq2]
      by_cases hc : q (bt s (n : Int)) = true
      · have hz : cW q (bt s (n : Int) :: (aa s).drop (n + 1)) = 0 := by rw [gO, if_pos hc]
        simp only [hz, if_pos hc]
        simp
      · by_cases hj : cW q ((aa s).drop (n + 1)) = -1
        · have hz : cW q (bt s (n : Int) :: (aa s).drop (n + 1)) = -1 := by rw [gO, if_neg hc, if_pos hj]
          simp only [hz, hj, if_neg hc, if_true]
        · have hz : cW q (bt s (n : Int) :: (aa s).drop (n + 1)) = cW q ((aa s).drop (n + 1)) + 1 := by
            rw [gO, if_neg hc, if_neg hj]
          simp only [hz, if_neg hc, if_neg hj]
          rw [if_neg (by omega)]
          omega
    rw [← key]
    exact h1
theorem nv (s t : ByteArray) (n : Nat) (hn : n ≤ s.size) (hs : s.size ≤ 140737488351232) (ht : t.size ≤ 140737488351232) :
    Ev (fun k => bE k s (n : Int) t) (let j := cW (fun b => (aa t).contains b) ((aa s).drop n); if j = -1 then -1 else (n : Int) + j) := by
  unfold bE
  have : mx (n : Int) 0 = (n : Int) := by unfold mx; rw [if_neg (by omega)]
  rw [this]
  exact mW s t hs ht (s.size - n) n (by omega)
end Go.Proofs.YtmofhijbheimmaaDoor.Y
