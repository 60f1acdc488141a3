/- Texts that the law's proof needs, joined by a program of this session. -/
import Derived.Test.YtmofhijbheimmaaDoorZSegsParse0
import Derived.Test.YtmofhijbheimmaaDoorZSegsParse1
import Derived.Test.YtmofhijbheimmaaDoorZSegsParse2
import Derived.Test.YtmofhijbheimmaaDoorZSegsParse4
import Derived.Test.YtmofhijbheimmaaDoorZSegsParse5
import Derived.Test.YtmofhijbheimmaaDoorZSegsParse6
import Derived.Test.YtmofhijbheimmaaDoorZSegsParse7
import Derived.Lib.Bytealg
import Derived.Laws.Strings
import Derived.Lib.Split
import Derived.Lib.SplitLaws
import Derived.Lib.Join
set_option maxHeartbeats 8000000
set_option maxRecDepth 100000
set_option linter.unusedSimpArgs false
set_option linter.unusedVariables false
namespace Go.Proofs.YtmofhijbheimmaaDoor.X
open Go.RowKit Go.Proofs.YtmofhijbheimmaaDoorW.PrintWords Go.Proofs.YtmofhijbheimmaaDoorW.PrintLast Go.Proofs.YtmofhijbheimmaaDoorW.PrintMore
attribute [local go_sem] cX cN dY e5 fF es e6 el ep eT eU dU dV eo eq
def dy (k : Nat) (a0 : ByteArray) : Option (Bool) := if (a0.size : Int) > 200 then ((bd k).bind fun Ad => (some Ad)) else ((ca k a0).bind fun Aa => ((cO k 5 true a0).bind fun Ae => (if Ae = (a0.size : Int) then ((cH k a0).bind fun Ac => ((b5 k Aa.1 Aa.2.1).bind fun Af => ((ca k Af).bind fun Ab => (if Aa.2.2 = 0 then (if (Aa.1 == Ac.1) = true then ((cQ k Aa.2.1 Ac.2).bind fun Ag => (if Ag = true then ((dh Aa.1 Aa.2.1).bind fun Ah => (if Ah = true then (if Ab.2.2 = 0 then ((dg k Ab.1 Ab.2.1 Aa.1 Aa.2.1).bind fun Ai => (if Ai = true then ((bd k).bind fun Aj => (some Aj)) else (none))) else (none)) else (none))) else (none))) else (none)) else (none))))) else (if Aa.2.2 = 4 then (if (Aa.2.1.length : Int) = 0 then (if Aa.1 = true then (none) else ((bd k).bind fun Ak => (some Ak))) else (none)) else (none)))))
theorem fp (k : Nat) (a0 : ByteArray) (r : Bool) (w : World) (hG : GW w) (h : dy k a0 = some r) :
    Calls Tryd.prog 3 #[.string a0] w fun e w' => e = .returned (.bool r) ∧ Below w.heap.size w w' := by
 have hu25 := Tryd.underlying25
 have hu31 := Tryd.underlying31
 have HB := Zz.mk (Below.refl w.heap.size w)
 have H : (if (a0.size : Int) > 200 then ((bd k).bind fun AD => (some AD)) else ((ca k a0).bind fun Ak => ((cO k 5 true a0).bind fun Aq => (if Aq = (a0.size : Int) then ((cH k a0).bind fun AC => ((b5 k Ak.1 Ak.2.1).bind fun Ay => ((ca k Ay).bind fun Az => (if Ak.2.2 = 0 then (if (Ak.1 == AC.1) = true then ((cQ k Ak.2.1 AC.2).bind fun AE => (if AE = true then ((dh Ak.1 Ak.2.1).bind fun AF => (if AF = true then (if Az.2.2 = 0 then ((dg k Az.1 Az.2.1 Ak.1 Ak.2.1).bind fun AG => (if AG = true then ((bd k).bind fun AH => (some AH)) else (none))) else (none)) else (none))) else (none))) else (none)) else (none))))) else (if Ak.2.2 = 4 then (if (Ak.2.1.length : Int) = 0 then (if Ak.1 = true then (none) else ((bd k).bind fun AI => (some AI))) else (none)) else (none)))))) = some r := h
 clear h
 by_cases c2 : (a0.size : Int) > 200
 ·
  rw [if_pos c2] at H
  have AM := decide_eq_true c2
  have AN : decide (200 < a0.size) = true := decide_eq_true (by omega)
  clear c2
  replace H := Option.bind_eq_some_iff.mp H
  obtain ⟨AD, A30, H⟩ := H
  try dsimp only at H
  have A3 := Zz.mk A30
  clear A30
  obtain rfl := Option.some.inj H
  go_enter Tryd.func3, Tryd.ntmps3
  go_wp2_with (first | ((with_reducible refine ae (f := 7) rfl ?_); refine xgl 11 Tryd.func7 #[] ?_; (with_reducible refine (dz k  AD _ ?side1 A3.out).mono ?_); (case side1 => first | (with_reducible exact hG) | exact et hG xbl); rintro e w4 ⟨rfl, hb⟩; refine ⟨_, rfl, ?_⟩; replace HB := xst hb; (try clear hb)))
  go_ret
  exact ⟨xre, xbl⟩
 ·
  rw [if_neg c2] at H
  have AM := decide_eq_false c2
  have AN : decide (200 < a0.size) = false := decide_eq_false (by omega)
  clear c2
  replace H := Option.bind_eq_some_iff.mp H
  obtain ⟨⟨Aj, Ae, Ar⟩, A50, H⟩ := H
  try dsimp only at H
  have A5 := Zz.mk A50
  clear A50
  replace H := Option.bind_eq_some_iff.mp H
  obtain ⟨Aq, A60, H⟩ := H
  try dsimp only at H
  have A6 := Zz.mk A60
  clear A60
  by_cases c7 : Aq = (a0.size : Int)
  ·
   rw [if_pos c7] at H
   have AO : (Aq == (a0.size : Int)) = true := beq_iff_eq.mpr c7
   have AP : (Aq != (a0.size : Int)) = false := bne_eq_false_iff_eq.mpr c7
   clear c7
   replace H := Option.bind_eq_some_iff.mp H
   obtain ⟨⟨An, Am⟩, A80, H⟩ := H
   try dsimp only at H
   have A8 := Zz.mk A80
   clear A80
   replace H := Option.bind_eq_some_iff.mp H
   obtain ⟨Ay, A90, H⟩ := H
   try dsimp only at H
   have A9 := Zz.mk A90
   clear A90
   replace H := Option.bind_eq_some_iff.mp H
   obtain ⟨⟨Ap, Ao, AB⟩, A100, H⟩ := H
   try dsimp only at H
   have A10 := Zz.mk A100
   clear A100
   by_cases c11 : Ar = 0
   ·
    rw [if_pos c11] at H
    have AQ : (Ar == 0) = true := beq_iff_eq.mpr c11
    have AR : (Ar != 0) = false := bne_eq_false_iff_eq.mpr c11
    clear c11
    by_cases c12 : (Aj == An) = true
    ·
     rw [if_pos c12] at H
     have AS : (Aj == An) = true := c12
     (try (have AT : decide (Aj = An) = true := by simpa using c12))
     (try (have AU : (Aj == An) = true := by simpa using c12))
     clear c12
     replace H := Option.bind_eq_some_iff.mp H
     obtain ⟨AE, A130, H⟩ := H
     try dsimp only at H
     have A13 := Zz.mk A130
     clear A130
     by_cases c14 : AE = true
     ·
      subst c14
      rw [if_pos rfl] at H
      replace H := Option.bind_eq_some_iff.mp H
      obtain ⟨AF, A150, H⟩ := H
      try dsimp only at H
      have A15 := Zz.mk A150
      clear A150
      by_cases c16 : AF = true
      ·
       subst c16
       rw [if_pos rfl] at H
       by_cases c17 : AB = 0
       ·
        rw [if_pos c17] at H
        have AV : (AB == 0) = true := beq_iff_eq.mpr c17
        have AW : (AB != 0) = false := bne_eq_false_iff_eq.mpr c17
        clear c17
        replace H := Option.bind_eq_some_iff.mp H
        obtain ⟨AG, A180, H⟩ := H
        try dsimp only at H
        have A18 := Zz.mk A180
        clear A180
        by_cases c19 : AG = true
        ·
         subst c19
         rw [if_pos rfl] at H
         replace H := Option.bind_eq_some_iff.mp H
         obtain ⟨AH, A200, H⟩ := H
         try dsimp only at H
         have A20 := Zz.mk A200
         clear A200
         obtain rfl := Option.some.inj H
         go_enter Tryd.func3, Tryd.ntmps3
         go_wp2_with (first | ((with_reducible refine ae (f := 8) rfl ?_); refine xgl 14 Tryd.func8 #[.string a0] ?_; (with_reducible refine (bZ k a0 Aj Ae Ar _ ?side1 A5.out).mono ?_); (case side1 => first | (with_reducible exact hG) | exact et hG xbl); rintro e w21 ⟨v271, rfl, ho0, hb⟩; refine ⟨_, rfl, ?_⟩; have Aa := Zz.mk (Kd.R_lower ho0 (aK xbl)); replace HB := xst hb; (try clear hb); (try clear ho0)) | ((with_reducible refine an (N := 3) rfl ?_); (try (refine cF (by rfl) ?_; dsimp only)); refine xev 3 #[.bool false, .slice none 0 0] 25 ?_; intro Ac hg w22 hbox hb; have Ab := Zz.mk (hbox); have AA := xsz hg; have AJ := AA; replace Aa := Zz.mk (Kd.R_below (xkd Aa) hb); replace HB := xst hb; clear hb hbox hg; obtain ⟨hcz23_0, hcz23_1⟩ := xc2 Ab; have hfz23_0 := xf Ab 0; have hfz23_1 := xf Ab 1; obtain ⟨Ao24, co24, eo24⟩ := Kd.R_slice Aa.out; subst eo24) | ((with_reducible refine ae (f := 9) rfl ?_); refine xgl 18 Tryd.func9 #[.int .i64 5, .bool true, .string a0] ?_; (with_reducible refine (eB k 5 true a0 Aq _ A6.out).mono ?_); rintro e w25 ⟨rfl, hb⟩; refine ⟨_, rfl, ?_⟩; replace Aa := Zz.mk (Kd.R_below (by (with_reducible repeat (first | apply Kd.R_alloc | apply Kd.R_drewN | apply Kd.R_drew)); exact (Kd.R_mono (Kd.R_far (p := ⟨Ac, 1, none⟩) (Kd.R_far (p := ⟨Ac, 0, none⟩) (Kd.R_types Aa.out Ab.out (by decide)) (fun _ hk => hk.2) (.bool Aj)) (fun _ hk => hk.2) (.slice Ao24 Ae.length co24)) (fun _ h_ => h_.1))) hb); replace Ab := xbb (g := Ac) (o := .cells #[.bool Aj, .slice Ao24 Ae.length co24] 25 (0, 0)) hb; replace HB := xst hb; (try clear hb)) | ((with_reducible refine ae (f := 10) rfl ?_); refine xgl 39 Tryd.func10 #[.string a0] ?_; (with_reducible refine (gg k a0 An Am _ A8.out).mono ?_); rintro e w26 ⟨v279, rfl, ho0, hb⟩; refine ⟨_, rfl, ?_⟩; have Ad := Zz.mk (Kd.R_lower (Kd.R_new' ho0 (Kd.R_lt (xkd Aa))) (aK xbl)); replace Aa := Zz.mk (Kd.R_elder' (xkd Aa) (Kd.R_base ho0) hb); replace Ab := xbb (g := Ac) (o := .cells #[.bool Aj, .slice Ao24 Ae.length co24] 25 (0, 0)) hb; replace HB := xst hb; (try clear hb); (try clear ho0)) | ((with_reducible refine an (N := 5) rfl ?_); (try (refine cF (by rfl) ?_; dsimp only)); refine xev 5 #[.bool false, .slice none 0 0] 31 ?_; intro Ai hg w27 hbox hb; have Af := Zz.mk (hbox); have AK := xsz hg; have AX := AK; have As := xlt (g := Ac) hg; have At := xgt (g := Ac) hg; replace Aa := Zz.mk (Kd.R_below (xkd Aa) hb); replace Ad := Zz.mk (Kd.R_below (xkd Ad) hb); replace Ab := xbb (g := Ac) (o := .cells #[.bool Aj, .slice Ao24 Ae.length co24] 25 (0, 0)) hb; replace HB := xst hb; clear hb hbox hg; have AY := At.out; have AZ := As.out; obtain ⟨hcz29_0, hcz29_1⟩ := xc2 Af; have hfz29_0 := xf Af 0; have hfz29_1 := xf Af 1; obtain ⟨Ao30, co30, eo30⟩ := Kd.R_slice Ad.out; subst eo30; obtain ⟨hcz31_0, hcz31_1⟩ := xc2 Ab; have hfz31_0 := xf Ab 0; have hfz31_1 := xf Ab 1) | ((with_reducible refine ae (f := 11) rfl ?_); refine xgl 42 Tryd.func11 #[.agg #[.bool Aj, .slice Ao24 Ae.length co24]] ?_; (with_reducible refine (fd k Aj _ _ Ae Ay _ ?side1 ?side2 A9.out).mono ?_); (case side1 => refine (Kd.R_reads' (e := 9) (base := w.heap.size) (ok := fun k_ => (True ∧ some k_ ≠ (.slice Ao30 Am.length co30 : Value).ownBlock)) (n := Ae.length) (c := co24) ?_).2.2; exact (by (with_reducible repeat (first | apply Kd.R_alloc | apply Kd.R_drewN | apply Kd.R_drew)); exact (Kd.R_mono (Kd.R_far (p := ⟨Ai, 1, none⟩) (Kd.R_far (p := ⟨Ai, 0, none⟩) (Kd.R_types Aa.out Af.out (by decide)) (fun _ hk => hk.2) (.bool An)) (fun _ hk => hk.2) (.slice Ao30 Am.length co30)) (fun _ h_ => h_.1)))); (case side2 => exact (Kd.R_reads' Aa.out).2.1); rintro e w32 ⟨rfl, hb⟩; refine ⟨_, rfl, ?_⟩; replace Aa := Zz.mk (Kd.R_below (by (with_reducible repeat (first | apply Kd.R_alloc | apply Kd.R_drewN | apply Kd.R_drew)); exact (Kd.R_mono (Kd.R_far (p := ⟨Ai, 1, none⟩) (Kd.R_far (p := ⟨Ai, 0, none⟩) (Kd.R_types Aa.out Af.out (by decide)) (fun _ hk => hk.2) (.bool An)) (fun _ hk => hk.2) (.slice Ao30 Am.length co30)) (fun _ h_ => h_.1))) hb); replace Ad := Zz.mk (Kd.R_below (by (with_reducible repeat (first | apply Kd.R_alloc | apply Kd.R_drewN | apply Kd.R_drew)); exact (Kd.R_mono (Kd.R_far (p := ⟨Ai, 1, none⟩) (Kd.R_far (p := ⟨Ai, 0, none⟩) (Kd.R_types Ad.out Af.out (by decide)) (fun _ hk => hk.2) (.bool An)) (fun _ hk => hk.2) (.slice Ao30 Am.length co30)) (fun _ h_ => h_.1))) hb); replace Ab := xbb (g := Ac) (o := .cells #[.bool Aj, .slice Ao24 Ae.length co24] 25 (0, 0)) hb; replace Af := xbb (g := Ai) (o := .cells #[.bool An, .slice Ao30 Am.length co30] 31 (0, 0)) hb; replace HB := xst hb; (try clear hb)) | ((with_reducible refine ae (f := 8) rfl ?_); refine xgl 43 Tryd.func8 #[.string Ay] ?_; (with_reducible refine (bZ k Ay Ap Ao AB _ ?side1 A10.out).mono ?_); (case side1 => first | (with_reducible exact hG) | exact et hG xbl); rintro e w33 ⟨v285, rfl, ho0, hb⟩; refine ⟨_, rfl, ?_⟩; have Al := Zz.mk (Kd.R_lower (Kd.R_new' (Kd.R_new' ho0 (Kd.R_lt (xkd Aa))) (Kd.R_lt (xkd Ad))) (aK xbl)); replace Aa := Zz.mk (Kd.R_elder' (xkd Aa) (Kd.R_base ho0) hb); replace Ad := Zz.mk (Kd.R_elder' (xkd Ad) (Kd.R_base ho0) hb); replace Ab := xbb (g := Ac) (o := .cells #[.bool Aj, .slice Ao24 Ae.length co24] 25 (0, 0)) hb; replace Af := xbb (g := Ai) (o := .cells #[.bool An, .slice Ao30 Am.length co30] 31 (0, 0)) hb; replace HB := xst hb; (try clear hb); (try clear ho0)) | ((with_reducible refine an (N := 6) rfl ?_); (try (refine cF (by rfl) ?_; dsimp only)); refine xev 6 #[.bool false, .slice none 0 0] 25 ?_; intro Ag hg w34 hbox hb; have Ah := Zz.mk (hbox); have AL := xsz hg; have A0 := AL; have Au := xlt (g := Ac) hg; have Av := xgt (g := Ac) hg; have Aw := xlt (g := Ai) hg; have Ax := xgt (g := Ai) hg; replace Aa := Zz.mk (Kd.R_below (xkd Aa) hb); replace Ad := Zz.mk (Kd.R_below (xkd Ad) hb); replace Al := Zz.mk (Kd.R_below (xkd Al) hb); replace Ab := xbb (g := Ac) (o := .cells #[.bool Aj, .slice Ao24 Ae.length co24] 25 (0, 0)) hb; replace Af := xbb (g := Ai) (o := .cells #[.bool An, .slice Ao30 Am.length co30] 31 (0, 0)) hb; replace HB := xst hb; clear hb hbox hg; have A1 := Av.out; have A2 := Au.out; have A4 := Ax.out; have A7 := Aw.out; obtain ⟨hcz37_0, hcz37_1⟩ := xc2 Ah; have hfz37_0 := xf Ah 0; have hfz37_1 := xf Ah 1; obtain ⟨Ao38, co38, eo38⟩ := Kd.R_slice Al.out; subst eo38; obtain ⟨hcz39_0, hcz39_1⟩ := xc2 Ab; have hfz39_0 := xf Ab 0; have hfz39_1 := xf Ab 1; obtain ⟨hcz40_0, hcz40_1⟩ := xc2 Af; have hfz40_0 := xf Af 0; have hfz40_1 := xf Af 1) | (go_at_call 12; (with_reducible refine (gx k _ _ Ae _ _ Am true _ ?side1 ?side2 ?side3 ?side4 A13.out).mono ?_); (case side1 => refine (Kd.R_reads' (e := 9) (base := w.heap.size) (ok := fun k_ => ((True ∧ some k_ ≠ (.slice Ao30 Am.length co30 : Value).ownBlock) ∧ some k_ ≠ (.slice Ao38 Ao.length co38 : Value).ownBlock)) (n := Ae.length) (c := co24) ?_).2.2; exact (by (with_reducible repeat (first | apply Kd.R_alloc | apply Kd.R_drewN | apply Kd.R_drew)); exact (Kd.R_mono (Kd.R_far (p := ⟨Ag, 1, none⟩) (Kd.R_far (p := ⟨Ag, 0, none⟩) (Kd.R_types Aa.out Ah.out (by decide)) (fun _ hk => hk.2) (.bool Ap)) (fun _ hk => hk.2) (.slice Ao38 Ao.length co38)) (fun _ h_ => h_.1)))); (case side2 => exact (Kd.R_reads' Aa.out).2.1); (case side3 => refine (Kd.R_reads' (e := 9) (base := w.heap.size) (ok := fun k_ => ((True ∧ some k_ ≠ (.slice Ao24 Ae.length co24 : Value).ownBlock) ∧ some k_ ≠ (.slice Ao38 Ao.length co38 : Value).ownBlock)) (n := Am.length) (c := co30) ?_).2.2; exact (by (with_reducible repeat (first | apply Kd.R_alloc | apply Kd.R_drewN | apply Kd.R_drew)); exact (Kd.R_mono (Kd.R_far (p := ⟨Ag, 1, none⟩) (Kd.R_far (p := ⟨Ag, 0, none⟩) (Kd.R_types Ad.out Ah.out (by decide)) (fun _ hk => hk.2) (.bool Ap)) (fun _ hk => hk.2) (.slice Ao38 Ao.length co38)) (fun _ h_ => h_.1)))); (case side4 => exact (Kd.R_reads' Ad.out).2.1); rintro e w' ⟨rfl, ⟨nd, rfl⟩⟩) | (go_at_call 13; (with_reducible refine (gZ Aj _ _ Ae true _ ?side1 ?side2 A15.out).mono ?_); (case side1 => refine (Kd.R_reads' (e := 9) (base := w.heap.size) (ok := fun k_ => ((True ∧ some k_ ≠ (.slice Ao30 Am.length co30 : Value).ownBlock) ∧ some k_ ≠ (.slice Ao38 Ao.length co38 : Value).ownBlock)) (n := Ae.length) (c := co24) ?_).2.2; exact (by (with_reducible repeat (first | apply Kd.R_alloc | apply Kd.R_drewN | apply Kd.R_drew)); exact (Kd.R_mono (Kd.R_far (p := ⟨Ag, 1, none⟩) (Kd.R_far (p := ⟨Ag, 0, none⟩) (Kd.R_types Aa.out Ah.out (by decide)) (fun _ hk => hk.2) (.bool Ap)) (fun _ hk => hk.2) (.slice Ao38 Ao.length co38)) (fun _ h_ => h_.1)))); (case side2 => exact (Kd.R_reads' Aa.out).2.1); rintro e w41 ⟨rfl, hb⟩; replace Aa := Zz.mk (Kd.R_below (by (with_reducible repeat (first | apply Kd.R_alloc | apply Kd.R_drewN | apply Kd.R_drew)); exact (Kd.R_mono (Kd.R_far (p := ⟨Ag, 1, none⟩) (Kd.R_far (p := ⟨Ag, 0, none⟩) (Kd.R_types Aa.out Ah.out (by decide)) (fun _ hk => hk.2) (.bool Ap)) (fun _ hk => hk.2) (.slice Ao38 Ao.length co38)) (fun _ h_ => h_.1))) hb); replace Ad := Zz.mk (Kd.R_below (by (with_reducible repeat (first | apply Kd.R_alloc | apply Kd.R_drewN | apply Kd.R_drew)); exact (Kd.R_mono (Kd.R_far (p := ⟨Ag, 1, none⟩) (Kd.R_far (p := ⟨Ag, 0, none⟩) (Kd.R_types Ad.out Ah.out (by decide)) (fun _ hk => hk.2) (.bool Ap)) (fun _ hk => hk.2) (.slice Ao38 Ao.length co38)) (fun _ h_ => h_.1))) hb); replace Al := Zz.mk (Kd.R_below (by (with_reducible repeat (first | apply Kd.R_alloc | apply Kd.R_drewN | apply Kd.R_drew)); exact (Kd.R_mono (Kd.R_far (p := ⟨Ag, 1, none⟩) (Kd.R_far (p := ⟨Ag, 0, none⟩) (Kd.R_types Al.out Ah.out (by decide)) (fun _ hk => hk.2) (.bool Ap)) (fun _ hk => hk.2) (.slice Ao38 Ao.length co38)) (fun _ h_ => h_.1))) hb); replace Ab := xbb (g := Ac) (o := .cells #[.bool Aj, .slice Ao24 Ae.length co24] 25 (0, 0)) hb; replace Af := xbb (g := Ai) (o := .cells #[.bool An, .slice Ao30 Am.length co30] 31 (0, 0)) hb; replace Ah := xbb (g := Ag) (o := .cells #[.bool Ap, .slice Ao38 Ao.length co38] 25 (0, 0)) hb; replace HB := xst hb; (try clear hb); obtain ⟨hcz42_0, hcz42_1⟩ := xc2 Ah; have hfz42_0 := xf Ah 0; have hfz42_1 := xf Ah 1; obtain ⟨hcz43_0, hcz43_1⟩ := xc2 Ab; have hfz43_0 := xf Ab 0; have hfz43_1 := xf Ab 1) | (go_at_call 14; (with_reducible refine (gY k Ap _ _ Ao Aj _ _ Ae true _ ?side1 ?side2 ?side3 ?side4 A18.out).mono ?_); (case side1 => repeat (first | exact (Kd.R_reads' Al.out).2.2 | (with_reducible refine Kd.C_alloc ?_ _) | (with_reducible refine Kd.C_drewN ?_ _) | (with_reducible refine Kd.C_drew ?_))); (case side2 => exact (Kd.R_reads' Al.out).2.1); (case side3 => repeat (first | exact (Kd.R_reads' Aa.out).2.2 | (with_reducible refine Kd.C_alloc ?_ _) | (with_reducible refine Kd.C_drewN ?_ _) | (with_reducible refine Kd.C_drew ?_))); (case side4 => exact (Kd.R_reads' Aa.out).2.1); rintro e w44 ⟨rfl, hb⟩; replace Aa := Zz.mk (Kd.R_below (xkd Aa) hb); replace Ad := Zz.mk (Kd.R_below (xkd Ad) hb); replace Al := Zz.mk (Kd.R_below (xkd Al) hb); replace Ab := xbb (g := Ac) (o := .cells #[.bool Aj, .slice Ao24 Ae.length co24] 25 (0, 0)) hb; replace Af := xbb (g := Ai) (o := .cells #[.bool An, .slice Ao30 Am.length co30] 31 (0, 0)) hb; replace Ah := xbb (g := Ag) (o := .cells #[.bool Ap, .slice Ao38 Ao.length co38] 25 (0, 0)) hb; replace HB := xst hb; (try clear hb)) | (go_at_call 7; (with_reducible refine (dz k  AH _ ?side1 A20.out).mono ?_); (case side1 => first | (with_reducible exact hG) | exact et hG xbl); rintro e w45 ⟨rfl, hb⟩; replace Aa := Zz.mk (Kd.R_below (xkd Aa) hb); replace Ad := Zz.mk (Kd.R_below (xkd Ad) hb); replace Al := Zz.mk (Kd.R_below (xkd Al) hb); replace Ab := xbb (g := Ac) (o := .cells #[.bool Aj, .slice Ao24 Ae.length co24] 25 (0, 0)) hb; replace Af := xbb (g := Ai) (o := .cells #[.bool An, .slice Ao30 Am.length co30] 31 (0, 0)) hb; replace Ah := xbb (g := Ag) (o := .cells #[.bool Ap, .slice Ao38 Ao.length co38] 25 (0, 0)) hb; replace HB := xst hb; (try clear hb)))
         go_ret
         exact ⟨xre, xbl⟩
        ·
         replace c19 := Bool.eq_false_iff.mpr c19
         subst c19
         rw [if_neg (show ¬ (false = true) by decide)] at H
         exact absurd H (by simp)
       ·
        rw [if_neg c17] at H
        exact absurd H (by simp)
      ·
       replace c16 := Bool.eq_false_iff.mpr c16
       subst c16
       rw [if_neg (show ¬ (false = true) by decide)] at H
       exact absurd H (by simp)
     ·
      replace c14 := Bool.eq_false_iff.mpr c14
      subst c14
      rw [if_neg (show ¬ (false = true) by decide)] at H
      exact absurd H (by simp)
    ·
     rw [if_neg c12] at H
     exact absurd H (by simp)
   ·
    rw [if_neg c11] at H
    exact absurd H (by simp)
  ·
   rw [if_neg c7] at H
   have AO : (Aq == (a0.size : Int)) = false := beq_eq_false_iff_ne.mpr c7
   have AP : (Aq != (a0.size : Int)) = true := bne_iff_ne.mpr c7
   by_cases c46 : Ar = 4
   ·
    rw [if_pos c46] at H
    have Ba : (Ar == 4) = true := beq_iff_eq.mpr c46
    have Bb : (Ar != 4) = false := bne_eq_false_iff_eq.mpr c46
    clear c46
    by_cases c47 : (Ae.length : Int) = 0
    ·
     rw [if_pos c47] at H
     have Bc : ((Ae.length : Int) == 0) = true := beq_iff_eq.mpr c47
     have Bd : ((Ae.length : Int) != 0) = false := bne_eq_false_iff_eq.mpr c47
     clear c47
     by_cases c48 : Aj = true
     ·
      subst c48
      rw [if_pos rfl] at H
      exact absurd H (by simp)
     ·
      replace c48 := Bool.eq_false_iff.mpr c48
      subst c48
      rw [if_neg (show ¬ (false = true) by decide)] at H
      replace H := Option.bind_eq_some_iff.mp H
      obtain ⟨AI, A490, H⟩ := H
      try dsimp only at H
      have A49 := Zz.mk A490
      clear A490
      obtain rfl := Option.some.inj H
      go_enter Tryd.func3, Tryd.ntmps3
      go_wp2_with (first | ((with_reducible refine ae (f := 8) rfl ?_); refine xgl 14 Tryd.func8 #[.string a0] ?_; (with_reducible refine (bZ k a0 false Ae Ar _ ?side1 A5.out).mono ?_); (case side1 => first | (with_reducible exact hG) | exact et hG xbl); rintro e w50 ⟨v271, rfl, ho0, hb⟩; refine ⟨_, rfl, ?_⟩; have Aa := Zz.mk (Kd.R_lower ho0 (aK xbl)); replace HB := xst hb; (try clear hb); (try clear ho0)) | ((with_reducible refine an (N := 3) rfl ?_); (try (refine cF (by rfl) ?_; dsimp only)); refine xev 3 #[.bool false, .slice none 0 0] 25 ?_; intro Ac hg w51 hbox hb; have Ab := Zz.mk (hbox); have AA := xsz hg; have AJ := AA; replace Aa := Zz.mk (Kd.R_below (xkd Aa) hb); replace HB := xst hb; clear hb hbox hg; obtain ⟨hcz52_0, hcz52_1⟩ := xc2 Ab; have hfz52_0 := xf Ab 0; have hfz52_1 := xf Ab 1; obtain ⟨Ao53, co53, eo53⟩ := Kd.R_slice Aa.out; subst eo53) | ((with_reducible refine ae (f := 9) rfl ?_); refine xgl 18 Tryd.func9 #[.int .i64 5, .bool true, .string a0] ?_; (with_reducible refine (eB k 5 true a0 Aq _ A6.out).mono ?_); rintro e w54 ⟨rfl, hb⟩; refine ⟨_, rfl, ?_⟩; replace Aa := Zz.mk (Kd.R_below (by (with_reducible repeat (first | apply Kd.R_alloc | apply Kd.R_drewN | apply Kd.R_drew)); exact (Kd.R_mono (Kd.R_far (p := ⟨Ac, 1, none⟩) (Kd.R_far (p := ⟨Ac, 0, none⟩) (Kd.R_types Aa.out Ab.out (by decide)) (fun _ hk => hk.2) (.bool false)) (fun _ hk => hk.2) (.slice Ao53 Ae.length co53)) (fun _ h_ => h_.1))) hb); replace Ab := xbb (g := Ac) (o := .cells #[.bool false, .slice Ao53 Ae.length co53] 25 (0, 0)) hb; replace HB := xst hb; (try clear hb); obtain ⟨hcz55_0, hcz55_1⟩ := xc2 Ab; have hfz55_0 := xf Ab 0; have hfz55_1 := xf Ab 1) | (go_at_call 7; (with_reducible refine (dz k  AI _ ?side1 A49.out).mono ?_); (case side1 => first | (with_reducible exact hG) | exact et hG xbl); rintro e w56 ⟨rfl, hb⟩; replace Aa := Zz.mk (Kd.R_below (xkd Aa) hb); replace Ab := xbb (g := Ac) (o := .cells #[.bool false, .slice Ao53 Ae.length co53] 25 (0, 0)) hb; replace HB := xst hb; (try clear hb)))
      go_ret
      exact ⟨xre, xbl⟩
    ·
     rw [if_neg c47] at H
     exact absurd H (by simp)
   ·
    rw [if_neg c46] at H
    exact absurd H (by simp)
def fy : Prop := ∀ (a0 : ByteArray), a0.size ≤ 140737488351232 → ∃ k, dy k a0 = some true
mutual
def monikerref31_Text.j0 : Nat → ByteArray → Bool → List ByteArray → Option (ByteArray)
  | 0, _, _, _ => none
  | k + 1, x3, x296000, x296001 => monikerref31_Text.l0 k x3 0 x296000 x296001
def monikerref31_Text.l0 : Nat → ByteArray → Int → Bool → List ByteArray → Option (ByteArray)
  | 0, _, _, _, _ => none
  | k + 1, x3, x4, Ab, Aa => if x4 < (Aa.length : Int) then (if x4 > 0 then (if x3.size + 1 ≤ 9223372036854775807 then (monikerref31_Text.j2 k (x3 ++ (⟨#[47]⟩ : ByteArray)) x4 Ab Aa) else (none)) else (monikerref31_Text.j2 k x3 x4 Ab Aa)) else (some x3)
def monikerref31_Text.j2 : Nat → ByteArray → Int → Bool → List ByteArray → Option (ByteArray)
  | 0, _, _, _, _ => none
  | k + 1, x3, x4, x296000, x296001 => monikerref31_Text.l1 k x3 x4 0 x296000 x296001
def monikerref31_Text.l1 : Nat → ByteArray → Int → Int → Bool → List ByteArray → Option (ByteArray)
  | 0, _, _, _, _, _ => none
  | k + 1, x3, x4, x5, Ab, Aa => if 0 ≤ x4 then (if x4 < (Aa.length : Int) then (if x5 < ((aG ByteArray.empty Aa x4).size : Int) then (if 0 ≤ x5 then ((bX k (bt (aG ByteArray.empty Aa x4) x5)).bind fun Ad => (if (Go.bits .and .i64 Ad 15) = 0 then (if (bt (aG ByteArray.empty Aa x4) x5) = 58 then (if x5 ≤ (wrap64 (x5 + 1)) then (if (wrap64 (x5 + 1)) ≤ ((aG ByteArray.empty Aa x4).size : Int) then (if x3.size + ((aG ByteArray.empty Aa x4).extract (x5 : Int).toNat ((wrap64 (x5 + 1)) : Int).toNat).size ≤ 9223372036854775807 then (monikerref31_Text.l1 k (x3 ++ ((aG ByteArray.empty Aa x4).extract (x5 : Int).toNat ((wrap64 (x5 + 1)) : Int).toNat)) x4 (wrap64 (x5 + 1)) Ab Aa) else (none)) else (none)) else (none)) else (if (bt (aG ByteArray.empty Aa x4) x5) = 64 then (if x5 ≤ (wrap64 (x5 + 1)) then (if (wrap64 (x5 + 1)) ≤ ((aG ByteArray.empty Aa x4).size : Int) then (if x3.size + ((aG ByteArray.empty Aa x4).extract (x5 : Int).toNat ((wrap64 (x5 + 1)) : Int).toNat).size ≤ 9223372036854775807 then (monikerref31_Text.l1 k (x3 ++ ((aG ByteArray.empty Aa x4).extract (x5 : Int).toNat ((wrap64 (x5 + 1)) : Int).toNat)) x4 (wrap64 (x5 + 1)) Ab Aa) else (none)) else (none)) else (none)) else ((eC (bt (aG ByteArray.empty Aa x4) x5)).bind fun Ac => (if x3.size + Ac.size ≤ 9223372036854775807 then (monikerref31_Text.l1 k (x3 ++ Ac) x4 (wrap64 (x5 + 1)) Ab Aa) else (none))))) else (if x5 ≤ (wrap64 (x5 + 1)) then (if (wrap64 (x5 + 1)) ≤ ((aG ByteArray.empty Aa x4).size : Int) then (if x3.size + ((aG ByteArray.empty Aa x4).extract (x5 : Int).toNat ((wrap64 (x5 + 1)) : Int).toNat).size ≤ 9223372036854775807 then (monikerref31_Text.l1 k (x3 ++ ((aG ByteArray.empty Aa x4).extract (x5 : Int).toNat ((wrap64 (x5 + 1)) : Int).toNat)) x4 (wrap64 (x5 + 1)) Ab Aa) else (none)) else (none)) else (none)))) else (none)) else (monikerref31_Text.l0 k x3 (wrap64 (x4 + 1)) Ab Aa)) else (none)) else (none)
end
end Go.Proofs.YtmofhijbheimmaaDoor.X
namespace Go.Proofs.YtmofhijbheimmaaDoor.M
open Go Go.RowKit Go.Proofs.YtmofhijbheimmaaDoorW.PrintWords
theorem w64 {x : Int} (h1 : -9223372036854775808 ≤ x) (h2 : x ≤ 9223372036854775807) : wrap64 x = x := by unfold wrap64; omega
theorem dt (s : ByteArray) : s.toList = s.data.toList := ByteArray.toList_eq s
theorem fw {a b : ByteArray} (h : aa a = aa b) : a = b := by
  unfold aa at h
  have : a.data.toList = b.data.toList := by
    apply List.map_inj_right (f := fun b : UInt8 => (b.toNat : Int)) _ |>.1 h
    intro x y hxy
    exact UInt8.toNat_inj.1 (by omega)
  cases a; cases b
  simp only [ByteArray.mk.injEq]
  exact Array.toList_inj.1 this
theorem mn {a b : ByteArray} : aa a = aa b ↔ a = b := ⟨fw, fun h => h ▸ rfl⟩
theorem ie {a b : ByteArray} : a.toList = b.toList ↔ aa a = aa b := by
  rw [dt, dt]
  exact ⟨fun h => by unfold aa; rw [h], fun h => by rw [fw h]⟩
theorem e8 (a b : ByteArray) : aa (a ++ b) = aa a ++ aa b := by
  unfold aa
  rw [ByteArray.data_append, Array.toList_append, List.map_append]
theorem b6 (a : ByteArray) (i j : Nat) : aa (a.extract i j) = ((aa a).take j).drop i := by
  unfold aa
  rw [ByteArray.data_extract, Array.toList_extract, List.extract_eq_take_drop, List.map_take, List.map_drop, List.drop_take]
theorem iG {s : ByteArray} {x : Int} (h : x ∈ aa s) : 0 ≤ x ∧ x ≤ 255 := by
  unfold aa at h
  obtain ⟨b, _, rfl⟩ := List.mem_map.1 h
  have := b.toNat_lt
  omega
theorem am (s : ByteArray) : (aa s).length = s.size := ev s
theorem kD (s : ByteArray) (i : Nat) : bt s (i : Int) = (aa s).getD i 0 := by
  rw [← lc]; unfold rd; simp
theorem mQ {s : ByteArray} {n : Nat} (h : n < s.size) : (aa s).take (n + 1) = (aa s).take n ++ [bt s (n : Int)] := by
  have hl : n < (aa s).length := by rw [am]; exact h
  rw [List.take_succ_eq_append_getElem hl, kD, List.getD_eq_getElem?_getD, List.getElem?_eq_getElem hl]
  rfl
theorem e7 (s : ByteArray) (i : Int) : 0 ≤ bt s i ∧ bt s i ≤ 255 := mS s i
theorem oX {α : Type} {g : Nat → Option α} {r : α} (h : ∀ k, g k = some r) : Ev g r := ⟨0, fun k _ => h k⟩
theorem ax {α β : Type} {g : Nat → Option α} {f : Nat → α → Option β} {a : α} {r : β} (h : Ev g a) (k : Ev (fun n => f n a) r) : Ev (fun n => (g n).bind fun t => f n t) r := Ev.bind h k
theorem bF {α β : Type} {o : Option α} {f : Nat → α → Option β} {a : α} {r : β} (h : o = some a) (k : Ev (fun n => f n a) r) : Ev (fun n => o.bind fun t => f n t) r := by
  subst h; exact k
theorem ab {α : Type} {c : Prop} [Decidable c] {g f : Nat → Option α} {r : α} (h : c) (k : Ev g r) : Ev (fun n => if c then g n else f n) r := by
  simp only [if_pos h]; exact k
theorem ag {α : Type} {c : Prop} [Decidable c] {g f : Nat → Option α} {r : α} (h : ¬ c) (k : Ev f r) : Ev (fun n => if c then g n else f n) r := by
  simp only [if_neg h]; exact k
theorem Ev.ite {α : Type} {c : Prop} [Decidable c] {g f : Nat → Option α} {r : α} (h : c → Ev g r) (k : ¬ c → Ev f r) : Ev (fun n => if c then g n else f n) r := by
  by_cases hc : c
  · exact ab hc (h hc)
  · exact ag hc (k hc)
theorem Ev.val {α : Type} {a r : α} (h : a = r) : Ev (fun _ => some a) r := by subst h; exact az _
def idx (c : Int) : List Int → Int
  | [] => -1
  | b :: t => if b = c then 0 else if idx c t = -1 then -1 else idx c t + 1
theorem ka (c : Int) (l : List Int) : -1 ≤ idx c l := by
  induction l with
  | nil => simp [idx]
  | cons b t ih => unfold idx; split <;> (try split) <;> omega
theorem kb {c : Int} {l : List Int} : idx c l = -1 ↔ c ∉ l := by
  induction l with
  | nil => simp [idx]
  | cons b t ih =>
    have := ka c t
    unfold idx
    by_cases hb : b = c
    · simp [hb]
    · simp only [if_neg hb, List.mem_cons, not_or]
      by_cases h1 : idx c t = -1
      · simp [h1, ih.1 h1, Ne.symm hb]
      · rw [if_neg h1]
        constructor
        · intro h; omega
        · intro h; exact absurd (ih.2 h.2) h1
theorem jC {c : Int} {l : List Int} (h : 0 ≤ idx c l) : l = l.take (idx c l).toNat ++ c :: l.drop ((idx c l).toNat + 1) ∧ c ∉ l.take (idx c l).toNat := by
  induction l with
  | nil => simp [idx] at h
  | cons b t ih =>
    unfold idx at h ⊢
    by_cases hb : b = c
    · simp [hb]
    · rw [if_neg hb] at h ⊢
      by_cases h1 : idx c t = -1
      · rw [if_pos h1] at h; omega
      · have hg := ka c t
        rw [if_neg h1]
        obtain ⟨e1, e2⟩ := ih (by omega)
        have e : (idx c t + 1).toNat = (idx c t).toNat + 1 := by omega
        rw [e, List.take_succ_cons, List.drop_succ_cons, List.cons_append]
        refine ⟨by rw [← e1], ?_⟩
        rw [List.mem_cons, not_or]
        exact ⟨Ne.symm hb, e2⟩
theorem cD {p : Int → Prop} (h : ∀ n : Fin 256, p ((n.val : Nat) : Int)) {b : Int} (h0 : 0 ≤ b) (h1 : b ≤ 255) : p b := by
  have := h ⟨b.toNat, by omega⟩
  simp only at this
  rwa [Int.toNat_of_nonneg h0] at this
def nB (b : Int) : Bool := decide (65 ≤ b ∧ b ≤ 90 ∨ 97 ≤ b ∧ b ≤ 122)
def nC (b : Int) : Bool := decide (48 ≤ b ∧ b ≤ 57)
def j9 (b : Int) : Bool := decide (48 ≤ b ∧ b ≤ 57 ∨ 65 ≤ b ∧ b ≤ 70 ∨ 97 ≤ b ∧ b ≤ 102)
def nH (b : Int) : Bool := decide (b = 45 ∨ b = 46 ∨ b = 95 ∨ b = 126)
def oI (b : Int) : Bool := decide (b = 33 ∨ b = 36 ∨ 38 ≤ b ∧ b ≤ 44 ∨ b = 59 ∨ b = 61)
def oU (b : Int) : Bool := decide (b = 58 ∨ b = 47 ∨ b = 63 ∨ b = 35 ∨ b = 91 ∨ b = 93 ∨ b = 64)
def cls (b : Int) : Int := (if nB b then 1 else 0) + (if nC b then 2 else 0) + (if nH b then 4 else 0) + (if oI b then 8 else 0) + (if oU b then 16 else 0) + (if j9 b then 32 else 0)
def oD (b : Int) : Bool := nB b || nC b || nH b || oI b
def isc (b c : Int) : Bool := Go.bits .and .i64 (cls b) c != 0
def hv (b : Int) : Int := if 48 ≤ b ∧ b ≤ 57 then b - 48 else if 65 ≤ b ∧ b ≤ 70 then b - 55 else if 97 ≤ b ∧ b ≤ 102 then b - 87 else -1
theorem fo (b : Int) : -1 ≤ hv b ∧ hv b ≤ 15 := by unfold hv; (repeat' split) <;> omega
theorem kJ (b : Int) : (0 ≤ hv b) ↔ j9 b = true := by
  unfold hv j9
  rw [decide_eq_true_iff]
  (repeat' split) <;> omega
def dM (p : Int → Bool) : List Int → Int
  | [] => -1
  | b :: t => if p b then 0 else if dM p t = -1 then -1 else dM p t + 1
theorem ip (p : Int → Bool) (b : Int) (t : List Int) : dM p (b :: t) = if p b then 0 else if dM p t = -1 then -1 else dM p t + 1 := rfl
theorem jl (p : Int → Bool) (l : List Int) : -1 ≤ dM p l := by
  induction l with
  | nil => simp [dM]
  | cons b t ih => unfold dM; split <;> (try split) <;> omega
theorem mz {p : Int → Bool} {l : List Int} : dM p l = -1 ↔ ∀ b ∈ l, p b = false := by
  induction l with
  | nil => simp [dM]
  | cons b t ih =>
    have := jl p t
    unfold dM
    cases hb : p b
    · simp only [Bool.false_eq_true, if_false, List.mem_cons, forall_eq_or_imp, hb, true_and]
      rw [← ih]
      split <;> omega
    · simp [hb]
def shp (b : Int) : Int × Int × Int :=
  if b < 128 then (1, 0, 0) else if 194 ≤ b ∧ b ≤ 223 then (2, 128, 191) else if b = 224 then (3, 160, 191) else if b = 237 then (3, 128, 159)
  else if 225 ≤ b ∧ b ≤ 239 then (3, 128, 191) else if b = 240 then (4, 144, 191) else if b = 244 then (4, 128, 143) else if 241 ≤ b ∧ b ≤ 243 then (4, 128, 191) else (0, 0, 0)
def bc : Nat → Int → Int → List Int → Nat
  | 0, _, _, _ => 0
  | _ + 1, _, _, [] => 0
  | n + 1, lo, hi, c :: t => if lo ≤ c ∧ c ≤ hi then bc n 128 191 t + 1 else 0
def eu (r : Int) : List Int → Int
  | [] => r
  | c :: t => eu (r * 64 + (c - 128)) t
def cp (n b : Int) : Int := if n = 1 then b else if n = 2 then b - 192 else if n = 3 then b - 224 else b - 240
def dec : List Int → Int × Int × Bool
  | [] => (0, 0, false)
  | b :: t => if (shp b).1 = 0 then (0, 1, false)
    else if (bc ((shp b).1.toNat - 1) (shp b).2.1 (shp b).2.2 t : Int) + 1 < (shp b).1 then (0, (bc ((shp b).1.toNat - 1) (shp b).2.1 (shp b).2.2 t : Int) + 1, false)
    else (eu (cp (shp b).1 b) (t.take ((shp b).1.toNat - 1)), (shp b).1, true)
theorem eh (b : Int) (t : List Int) : dec (b :: t) = if (shp b).1 = 0 then (0, 1, false)
    else if (bc ((shp b).1.toNat - 1) (shp b).2.1 (shp b).2.2 t : Int) + 1 < (shp b).1 then (0, (bc ((shp b).1.toNat - 1) (shp b).2.1 (shp b).2.2 t : Int) + 1, false)
    else (eu (cp (shp b).1 b) (t.take ((shp b).1.toNat - 1)), (shp b).1, true) := rfl
theorem eZ (b : Int) : 0 ≤ (shp b).1 ∧ (shp b).1 ≤ 4 := by
  unfold shp
  (repeat' split) <;> simp
theorem d8 {b : Int} (h : 2 ≤ (shp b).1) : 128 ≤ (shp b).2.1 ∧ (shp b).2.2 ≤ 191 := by
  revert h
  unfold shp
  (repeat' split) <;> simp
theorem iX {b : Int} (h0 : 0 ≤ b) (h1 : b ≤ 255) (h : 1 ≤ (shp b).1) : 0 ≤ cp (shp b).1 b ∧ cp (shp b).1 b < 128 := by
  have := cD (p := fun b => 1 ≤ (shp b).1 → 0 ≤ cp (shp b).1 b ∧ cp (shp b).1 b < 128) (by decide +kernel) h0 h1
  exact this h
theorem f7 (n : Nat) (lo hi : Int) (l : List Int) : bc n lo hi l ≤ n ∧ bc n lo hi l ≤ l.length := by
  induction n generalizing lo hi l with
  | zero => simp [bc]
  | succ n ih =>
    cases l with
    | nil => simp [bc]
    | cons c t =>
      unfold bc
      have := ih 128 191 t
      rw [List.length_cons]
      split <;> omega
theorem gA (n : Nat) (lo hi : Int) (h0 : 128 ≤ lo) (h1 : hi ≤ 191) (l : List Int) : ∀ c ∈ l.take (bc n lo hi l), 128 ≤ c ∧ c ≤ 191 := by
  induction n generalizing lo hi l with
  | zero => simp [bc]
  | succ n ih =>
    cases l with
    | nil => simp [bc]
    | cons c t =>
      unfold bc
      split
      · rename_i h
        simp only [List.take_succ_cons]
        intro d hd
        rcases List.mem_cons.1 hd with rfl | hd
        · omega
        · exact ih 128 191 (by omega) (by omega) t d hd
      · simp
theorem jw (lo hi : Int) (l : List Int) : bc 0 lo hi l = 0 := by unfold bc; rfl
theorem kZ (l : List Int) : 0 ≤ (dec l).2.1 ∧ (dec l).2.1 ≤ 4 ∧ (dec l).2.1 ≤ l.length := by
  cases l with
  | nil => simp [dec]
  | cons b t =>
    have h1 := eZ b
    have h2 := f7 ((shp b).1.toNat - 1) (shp b).2.1 (shp b).2.2 t
    rw [List.length_cons, eh]
    split
    · simp only; omega
    · split
      · simp only
        omega
      · simp only
        omega
theorem nR {b : Int} {t : List Int} : 1 ≤ (dec (b :: t)).2.1 := by
  have h1 := eZ b
  rw [eh]
  split
  · simp
  · split <;> simp only <;> omega
theorem im {b : Int} (t : List Int) (h : b < 128) : dec (b :: t) = (b, 1, true) := by
  have : shp b = (1, 0, 0) := by unfold shp; rw [if_pos h]
  rw [eh, this]
  simp [bc, cp, eu]
theorem mW {b : Int} {t : List Int} (h : 128 ≤ b) (hb : b ≤ 255) (ok : (dec (b :: t)).2.2 = true) : 2 ≤ (dec (b :: t)).2.1 ∧ ∀ c ∈ (b :: t).take (dec (b :: t)).2.1.toNat, 128 ≤ c := by
  have h1 := eZ b
  have h2 : (shp b).1 ≠ 1 := cD (p := fun b => 128 ≤ b → (shp b).1 ≠ 1) (by decide +kernel) (by omega) hb h
  rw [eh] at ok ⊢
  by_cases e : (shp b).1 = 0
  · rw [if_pos e] at ok; cases ok
  · rw [if_neg e] at ok ⊢
    by_cases e2 : (bc ((shp b).1.toNat - 1) (shp b).2.1 (shp b).2.2 t : Int) + 1 < (shp b).1
    · rw [if_pos e2] at ok; cases ok
    · rw [if_neg e2]
      have h3 := f7 ((shp b).1.toNat - 1) (shp b).2.1 (shp b).2.2 t
      have h4 := d8 (b := b) (by omega)
      have h5 := gA ((shp b).1.toNat - 1) (shp b).2.1 (shp b).2.2 h4.1 h4.2 t
      have e3 : (shp b).1.toNat = bc ((shp b).1.toNat - 1) (shp b).2.1 (shp b).2.2 t + 1 := by omega
      refine ⟨by simp only; omega, ?_⟩
      simp only
      rw [e3, List.take_succ_cons]
      intro c hc
      rcases List.mem_cons.1 hc with rfl | hc
      · exact h
      · exact (h5 c hc).1
theorem mV {l : List Int} (ok : (dec l).2.2 = true) : 1 ≤ (dec l).2.1 := by
  cases l with
  | nil => cases ok
  | cons b t => exact nR
end Go.Proofs.YtmofhijbheimmaaDoor.M
namespace Go.Proofs.YtmofhijbheimmaaDoor.M
open Go Go.RowKit Go.Proofs.YtmofhijbheimmaaDoorW.PrintWords
def bh : List Int → Int
  | p :: a :: b :: _ => if p = 37 then (if hv a < 0 ∨ hv b < 0 then -1 else 16 * hv a + hv b) else -1
  | _ => -1
theorem fQ (l : List Int) : -1 ≤ bh l ∧ bh l ≤ 255 := by
  unfold bh
  split
  · rename_i p a b t
    have := fo a
    have := fo b
    split
    · split <;> omega
    · omega
  · omega
theorem ei {l : List Int} (h : 0 ≤ bh l) : ∃ a b t, l = 37 :: a :: b :: t ∧ j9 a = true ∧ j9 b = true ∧ bh l = 16 * hv a + hv b := by
  unfold bh at h ⊢
  split at h
  · rename_i p a b t
    by_cases hp : p = 37
    · rw [if_pos hp] at h ⊢
      by_cases h2 : hv a < 0 ∨ hv b < 0
      · rw [if_pos h2] at h; omega
      · rw [if_neg h2]
        subst hp
        exact ⟨a, b, t, rfl, (kJ a).1 (by omega), (kJ b).1 (by omega), rfl⟩
    · rw [if_neg hp] at h; omega
  · omega
def ct (p : Int) : Bool := decide (1 ≤ p ∧ p ≤ 7)
def nW (p b : Int) : Bool :=
  if p = 1 then b == 58 else if p = 3 then b == 58 || b == 64 else if p = 4 then b == 64 else if p = 5 then b == 58 || b == 64 || b == 47
  else if p = 6 ∨ p = 7 then b == 58 || b == 64 || b == 47 || b == 63 else false
def cA (p b : Int) : Bool := ct p && (oD b || nW p b)
def dH (r : Int) : Bool := decide (160 ≤ r ∧ r ≤ 55295 ∨ 63744 ≤ r ∧ r ≤ 64975 ∨ 65008 ≤ r ∧ r ≤ 65519 ∨ 65536 ≤ r ∧ r ≤ 983037 ∧ r % 65536 ≤ 65533 ∧ (r < 917504 ∨ 921600 ≤ r))
def kf (r : Int) : Bool := decide (57344 ≤ r ∧ r ≤ 63743 ∨ 983040 ≤ r ∧ r ≤ 1048573 ∨ 1048576 ≤ r ∧ r ≤ 1114109)
def ed (p : Int) (iri : Bool) (r : Int) : Bool := if 0 ≤ r ∧ r < 128 then cA p r else (iri && ct p && (dH r || (decide (p = 6) && kf r)))
def a8 (p : Int) (iri : Bool) (l : List Int) : Nat :=
  if ct p then (if 0 ≤ bh l then 3 else if (dec l).2.2 && ed p iri (dec l).1 then (dec l).2.1.toNat else 0) else 0
theorem fZ (p : Int) (iri : Bool) (l : List Int) : a8 p iri l ≤ l.length := by
  unfold a8
  split
  · split
    · rename_i h
      obtain ⟨a, b, t, rfl, _⟩ := ei h
      simp
    · split
      · have := kZ l; omega
      · omega
  · omega
theorem nz (p : Int) (iri : Bool) : a8 p iri [] = 0 := by
  have := fZ p iri []
  simpa using this
def cv (p : Int) (iri : Bool) (l : List Int) : Nat :=
  if h : a8 p iri l = 0 then 0 else a8 p iri l + cv p iri (l.drop (a8 p iri l))
termination_by l.length
decreasing_by
  have := fZ p iri l
  rw [List.length_drop]
  omega
theorem ey (p : Int) (iri : Bool) (l : List Int) : cv p iri l = if a8 p iri l = 0 then 0 else a8 p iri l + cv p iri (l.drop (a8 p iri l)) := by
  rw [cv]
  split <;> simp_all
theorem kO (p : Int) (iri : Bool) (l : List Int) : cv p iri l ≤ l.length := by
  induction hn : l.length using Nat.strongRecOn generalizing l with
  | _ n ih =>
    rw [ey]
    split
    · omega
    · have h1 := fZ p iri l
      have := ih (l.drop (a8 p iri l)).length (by rw [List.length_drop]; omega) (l.drop (a8 p iri l)) rfl
      rw [List.length_drop] at this
      omega
theorem ko (p : Int) (iri : Bool) : cv p iri [] = 0 := by
  have := kO p iri []
  simpa using this
def cf (p : Int) (iri : Bool) (l : List Int) : Bool := cv p iri l == l.length
theorem jv (p : Int) (iri : Bool) : cf p iri [] = true := by simp [cf, ko]
end Go.Proofs.YtmofhijbheimmaaDoor.M
namespace Go.Proofs.YtmofhijbheimmaaDoor.M
open Go Go.RowKit Go.Proofs.YtmofhijbheimmaaDoorW.PrintWords
end Go.Proofs.YtmofhijbheimmaaDoor.M
namespace Go.Proofs.YtmofhijbheimmaaDoor.M
open Go Go.RowKit Go.Proofs.YtmofhijbheimmaaDoorW.PrintWords
def gM (sub : List Int) : List Int → Int
  | [] => if sub = [] then 0 else -1
  | b :: t => if sub.isPrefixOf (b :: t) then 0 else if gM sub t = -1 then -1 else gM sub t + 1
theorem jI (sub : List Int) (b : Int) (t : List Int) : gM sub (b :: t) = if sub.isPrefixOf (b :: t) then 0 else if gM sub t = -1 then -1 else gM sub t + 1 := rfl
theorem lb (a l : List UInt8) : (a.map fun b => (b.toNat : Int)).isPrefixOf (l.map fun b => (b.toNat : Int)) = a.isPrefixOf l := by
  induction a generalizing l with
  | nil => rfl
  | cons x t ih =>
    cases l with
    | nil => rfl
    | cons y r =>
      rw [List.map_cons, List.map_cons, List.isPrefixOf_cons_cons, List.isPrefixOf_cons_cons, ih]
      congr 1
      rw [Bool.eq_iff_iff, beq_iff_eq, beq_iff_eq]
      constructor
      · intro h; exact UInt8.toNat_inj.1 (by omega)
      · intro h; rw [h]
theorem k6 (l sub : List UInt8) : Go.Lib.index l sub = gM (sub.map fun b => (b.toNat : Int)) (l.map fun b => (b.toNat : Int)) := by
  induction l with
  | nil =>
    unfold Go.Lib.index
    rw [List.map_nil]
    unfold gM
    cases sub <;> simp
  | cons b t ih =>
    unfold Go.Lib.index
    have hp := lb sub (b :: t)
    rw [List.map_cons] at hp ⊢
    rw [jI, hp, ih]
    by_cases h : sub.isPrefixOf (b :: t) = true
    · rw [if_pos h, if_pos h]
    · rw [if_neg h, if_neg h]
      simp only [beq_iff_eq]
theorem iK (s sub : ByteArray) : Go.Lib.indexB s sub = gM (aa sub) (aa s) := k6 _ _
theorem kn (c : Int) (l : List Int) : gM [c] l = idx c l := by
  induction l with
  | nil => unfold gM idx; simp
  | cons b t ih =>
    rw [jI, ih]
    have : idx c (b :: t) = if b = c then 0 else if idx c t = -1 then -1 else idx c t + 1 := rfl
    rw [this]
    by_cases h : b = c
    · rw [if_pos h, if_pos (by simp [h])]
    · rw [if_neg h, if_neg (by simp; exact fun x => h x.symm)]
def aW (c : Int) : List Int → List (List Int)
  | [] => [[]]
  | b :: t => if b = c then [] :: aW c t else (b :: (aW c t).headD []) :: (aW c t).tail
theorem dr (c b : Int) (t : List Int) : aW c (b :: t) = if b = c then [] :: aW c t else (b :: (aW c t).headD []) :: (aW c t).tail := rfl
theorem jK (c : Int) (l : List Int) : aW c l ≠ [] := by
  cases l with
  | nil => simp [aW]
  | cons b t => rw [dr]; split <;> simp
theorem gN (c : Int) (l : List Int) : aW c l = (aW c l).headD [] :: (aW c l).tail := by
  cases h : aW c l with
  | nil => exact absurd h (jK c l)
  | cons a r => rfl
theorem gO {c : Int} {l : List Int} (h : c ∉ l) : aW c l = [l] := by
  induction l with
  | nil => rfl
  | cons b t ih =>
    rw [List.mem_cons, not_or] at h
    rw [dr, if_neg (fun x => h.1 x.symm), ih h.2]; rfl
theorem ix {c : Int} {a : List Int} (h : c ∉ a) (r : List Int) : aW c (a ++ c :: r) = a :: aW c r := by
  induction a with
  | nil => rw [List.nil_append, dr, if_pos rfl]
  | cons b t ih =>
    rw [List.mem_cons, not_or] at h
    rw [List.cons_append, dr, if_neg (fun x => h.1 x.symm), ih h.2]; rfl
theorem fT (c : Int) (l : List Int) : (aW c l).length ≤ l.length + 1 := by
  induction l with
  | nil => simp [aW]
  | cons b t ih =>
    rw [dr]
    split
    · simp; omega
    · simp only [List.length_cons, List.length_tail]; omega
theorem fU {c : Int} {l : List Int} : ∀ p ∈ aW c l, c ∉ p ∧ (∀ b ∈ p, b ∈ l) ∧ p.length ≤ l.length := by
  induction l with
  | nil => intro p hp; simp [aW] at hp; subst hp; simp
  | cons b t ih =>
    intro p hp
    rw [dr] at hp
    by_cases h : b = c
    · rw [if_pos h] at hp
      rcases List.mem_cons.1 hp with rfl | hp
      · simp
      · obtain ⟨h1, h2, h3⟩ := ih p hp
        exact ⟨h1, fun x hx => List.mem_cons_of_mem _ (h2 x hx), by rw [List.length_cons]; omega⟩
    · rw [if_neg h] at hp
      rcases List.mem_cons.1 hp with rfl | hp
      · obtain ⟨h1, h2, h3⟩ := ih ((aW c t).headD []) (by rw [gN c t]; simp)
        refine ⟨?_, ?_, by simp only [List.length_cons]; omega⟩
        · rw [List.mem_cons, not_or]; exact ⟨fun x => h x.symm, h1⟩
        · intro x hx
          rcases List.mem_cons.1 hx with rfl | hx
          · exact List.mem_cons_self ..
          · exact List.mem_cons_of_mem _ (h2 x hx)
      · obtain ⟨h1, h2, h3⟩ := ih p (List.mem_of_mem_tail hp)
        exact ⟨h1, fun x hx => List.mem_cons_of_mem _ (h2 x hx), by rw [List.length_cons]; omega⟩
theorem jP (c : Int) (sep : ByteArray) (hsep : aa sep = [c]) : ∀ (k : Nat) (s : ByteArray), Go.Lib.countB s sep = k → (Go.Lib.splitB sep 0 k s).map aa = aW c (aa s) := by
  have h1 : sep.size = 1 := by rw [← am, hsep]; rfl
  intro k
  induction k with
  | zero =>
    intro s hk
    rcases Go.Lib.indexB_cases s sep with hix | ⟨i, hix, hr⟩
    · rw [Go.Lib.splitB_zero, List.map_cons, List.map_nil]
      rw [iK, hsep, kn] at hix
      rw [gO (kb.1 hix)]
    · have := Go.Lib.countB_hit s sep i (by omega) hix; omega
  | succ k ih =>
    intro s hk
    rcases Go.Lib.indexB_cases s sep with hix | ⟨i, hix, hr⟩
    · rw [Go.Lib.countB_miss s sep hix] at hk; omega
    · have hc := Go.Lib.countB_hit s sep i (by omega) hix
      rw [Go.Lib.splitB_hit sep 0 k s i hix, List.map_cons, ih _ (by omega)]
      rw [iK, hsep, kn] at hix
      obtain ⟨e1, e2⟩ := jC (c := c) (l := aa s) (by omega)
      rw [hix, Int.toNat_natCast] at e1 e2
      conv => rhs; rw [e1]
      rw [ix e2, b6, b6, h1, List.drop_zero, Nat.add_zero]
      rw [← am, List.take_length]
end Go.Proofs.YtmofhijbheimmaaDoor.M
namespace Go.Proofs.YtmofhijbheimmaaDoor.M
open Go Go.RowKit Go.Proofs.YtmofhijbheimmaaDoorW.PrintWords
theorem mO (p : Int) (iri : Bool) (l : List Int) : cv p iri l = 0 ↔ a8 p iri l = 0 := by
  rw [ey]
  constructor
  · intro h
    by_cases hs : a8 p iri l = 0
    · exact hs
    · rw [if_neg hs] at h; omega
  · intro h; rw [if_pos h]
theorem kT {p : Int} {iri : Bool} {l : List Int} (h : cf p iri l = true) (hl : l ≠ []) : a8 p iri l ≠ 0 := by
  unfold cf at h
  rw [beq_iff_eq] at h
  intro hs
  have := (mO p iri l).2 hs
  have hz : l.length ≠ 0 := fun hz => hl (List.length_eq_zero_iff.1 hz)
  omega
theorem k5 (t : List Int) : bh (47 :: t) < 0 := by
  match t with
  | [] => exact show (-1 : Int) < 0 by decide
  | [_] => exact show (-1 : Int) < 0 by decide
  | a :: b :: u => show (if (47 : Int) = 37 then (if hv a < 0 ∨ hv b < 0 then -1 else 16 * hv a + hv b) else (-1 : Int)) < 0; rw [if_neg (by decide)]; decide
theorem kC (iri : Bool) (t : List Int) : a8 5 iri (47 :: t) = 1 := by
  have := k5 t
  unfold a8
  rw [if_pos (by decide), if_neg (by omega), im t (by decide)]
  have : ed 5 iri 47 = true := by cases iri <;> decide
  simp [this]
theorem iF (iri : Bool) (t : List Int) : cf 5 iri (47 :: t) = cf 5 iri t := by
  unfold cf
  rw [ey, kC, if_neg (by decide), List.length_cons, Bool.eq_iff_iff, beq_iff_eq, beq_iff_eq]
  simp only [List.drop_succ_cons, List.drop_zero]
  omega
end Go.Proofs.YtmofhijbheimmaaDoor.M
namespace Go.Proofs.YtmofhijbheimmaaDoor.M
open Go Go.RowKit Go.Proofs.YtmofhijbheimmaaDoorW.PrintWords
def jn (c : Int) : List (List Int) → List Int
  | [] => []
  | [a] => a
  | a :: b :: r => a ++ c :: jn c (b :: r)
theorem mC (c : Int) : ∀ L : List (List Int), L ≠ [] → (jn c L).length + 1 = (L.map List.length).sum + L.length
  | [], h => absurd rfl h
  | [a], _ => by simp [jn]
  | a :: b :: r, _ => by
    have ih := mC c (b :: r) (by simp)
    rw [jn, List.length_append, List.length_cons, List.map_cons, List.sum_cons]
    simp only [List.length_cons] at ih ⊢
    omega
theorem jJ (c : Int) : ∀ L : List (List Int), L ≠ [] → (∀ p ∈ L, c ∉ p) → aW c (jn c L) = L
  | [], h, _ => absurd rfl h
  | [a], _, h => gO (h a (List.mem_cons_self ..))
  | a :: b :: r, _, h => by
    have ih := jJ c (b :: r) (by simp) (fun p hp => h p (List.mem_cons_of_mem _ hp))
    rw [jn, ix (h a (List.mem_cons_self ..)), ih]
def cd : List Int → List Int
  | [] => []
  | b :: t => if 0 ≤ bh (b :: t) then bh (b :: t) :: cd (t.drop 2) else b :: cd t
termination_by l => l.length
decreasing_by
  all_goals simp only [List.length_drop, List.length_cons]
  all_goals omega
theorem fk : cd [] = [] := by rw [cd]
theorem fj {l : List Int} (h : 0 ≤ bh l) : cd l = bh l :: cd (l.drop 3) := by
  obtain ⟨a, b, t, rfl, _⟩ := ei h
  rw [cd, if_pos h]; rfl
theorem fW {b : Int} {t : List Int} (h : bh (b :: t) < 0) : cd (b :: t) = b :: cd t := by
  rw [cd, if_neg (by omega)]
theorem mU : ∀ (n : Nat) (l : List Int), l.length = n → (cd l).length ≤ l.length := by
  intro n
  induction n using Nat.strongRecOn with
  | _ n ih =>
    intro l hn
    cases l with
    | nil => rw [fk]; exact Nat.le_refl _
    | cons b t =>
      rw [List.length_cons] at hn
      by_cases h : 0 ≤ bh (b :: t)
      · obtain ⟨a, c, u, e, _⟩ := ei h
        have hl := congrArg List.length e
        simp only [List.length_cons] at hl
        rw [fj h]
        have := ih ((b :: t).drop 3).length (by rw [List.length_drop, List.length_cons]; omega) _ rfl
        rw [List.length_drop, List.length_cons] at this
        rw [List.length_cons, List.length_cons]; omega
      · rw [fW (by omega), List.length_cons, List.length_cons]
        have := ih t.length (by omega) t rfl
        omega
theorem kY : ∀ (n : Nat) (l : List Int), l.length = n → (∀ b ∈ l, 0 ≤ b ∧ b ≤ 255) → ∀ b ∈ cd l, 0 ≤ b ∧ b ≤ 255 := by
  intro n
  induction n using Nat.strongRecOn with
  | _ n ih =>
    intro l hn hl
    cases l with
    | nil => rw [fk]; intro b hb; cases hb
    | cons b t =>
      rw [List.length_cons] at hn
      by_cases h : 0 ≤ bh (b :: t)
      · rw [fj h]
        have hr := fQ (b :: t)
        have := ih ((b :: t).drop 3).length (by rw [List.length_drop, List.length_cons]; omega) _ rfl (fun c hc => hl c (List.mem_of_mem_drop hc))
        intro c hc
        rcases List.mem_cons.1 hc with rfl | hc
        · omega
        · exact this c hc
      · rw [fW (by omega)]
        have := ih t.length (by omega) t rfl (fun c hc => hl c (List.mem_cons_of_mem _ hc))
        intro c hc
        rcases List.mem_cons.1 hc with rfl | hc
        · exact hl c (List.mem_cons_self ..)
        · exact this c hc
def bV : List Int → Bool
  | [] => true
  | b :: t => if 0 ≤ bh (b :: t) then bV (t.drop 2) else b != 37 && bV t
termination_by l => l.length
decreasing_by
  all_goals simp only [List.length_drop, List.length_cons]
  all_goals omega
theorem ia : bV [] = true := by rw [bV]
theorem fS {l : List Int} (h : 0 ≤ bh l) : bV l = bV (l.drop 3) := by
  obtain ⟨a, b, t, rfl, _⟩ := ei h
  rw [bV, if_pos h]; rfl
theorem eX {b : Int} {t : List Int} (h : bh (b :: t) < 0) : bV (b :: t) = (b != 37 && bV t) := by
  rw [bV, if_neg (by omega)]
theorem fX {b : Int} (t : List Int) (h : b ≠ 37) : bh (b :: t) < 0 := by
  have := fQ (b :: t)
  rcases Int.lt_or_le (bh (b :: t)) 0 with h1 | h1
  · exact h1
  · obtain ⟨a, c, u, e, _⟩ := ei h1
    injection e with e1 _
    exact absurd e1 h
theorem ll {l : List Int} {n : Nat} (hn : ∀ b ∈ l.take n, b ≠ 37) : bV (l.drop n) = bV l := by
  induction n generalizing l with
  | zero => rfl
  | succ n ih =>
    cases l with
    | nil => rfl
    | cons b t =>
      have hb : b ≠ 37 := hn b (by simp)
      rw [List.drop_succ_cons, ih (fun c hc => hn c (by rw [List.take_succ_cons]; exact List.mem_cons_of_mem _ hc)), eX (fX t hb)]
      have : (b != 37) = true := bne_iff_ne.2 hb
      rw [this, Bool.true_and]
def hdu (d : Int) : Int := if d < 10 then 48 + d else 55 + d
def f8 (b : Int) : List Int := [37, hdu (b / 16), hdu (b % 16)]
theorem gQ {d : Int} (h0 : 0 ≤ d) (h1 : d < 16) : hv (hdu d) = d ∧ hdu d ≠ 47 ∧ 0 ≤ hdu d ∧ hdu d < 128 := by
  have : ∀ n : Fin 16, hv (hdu (n.val : Int)) = (n.val : Int) ∧ hdu (n.val : Int) ≠ 47 ∧ 0 ≤ hdu (n.val : Int) ∧ hdu (n.val : Int) < 128 := by decide
  have h := this ⟨d.toNat, by omega⟩
  have e : ((d.toNat : Nat) : Int) = d := by omega
  simp only [e] at h
  exact h
theorem jB {b : Int} (h0 : 0 ≤ b) (h1 : b ≤ 255) (t : List Int) : bh (f8 b ++ t) = b := by
  have a := gQ (d := b / 16) (by omega) (by omega)
  have c := gQ (d := b % 16) (by omega) (by omega)
  show (if (37 : Int) = 37 then (if hv (hdu (b / 16)) < 0 ∨ hv (hdu (b % 16)) < 0 then -1 else 16 * hv (hdu (b / 16)) + hv (hdu (b % 16))) else -1) = b
  rw [if_pos rfl, a.1, c.1, if_neg (by omega)]
  omega
def bz (keep : Int → Bool) (l : List Int) : List Int := l.flatMap fun b => if keep b then [b] else f8 b
theorem eS (keep : Int → Bool) (b : Int) (t : List Int) : bz keep (b :: t) = (if keep b then [b] else f8 b) ++ bz keep t := rfl
theorem jx {keep : Int → Bool} (hk : keep 37 = false) : ∀ l : List Int, (∀ b ∈ l, 0 ≤ b ∧ b ≤ 255) → cd (bz keep l) = l
  | [], _ => fk
  | b :: t, h => by
    have hb := h b (List.mem_cons_self ..)
    have ih := jx hk t (fun c hc => h c (List.mem_cons_of_mem _ hc))
    rw [eS]
    by_cases hkb : keep b = true
    · have hne : b ≠ 37 := fun e => by rw [e, hk] at hkb; cases hkb
      rw [if_pos hkb, List.singleton_append, fW (fX _ hne), ih]
    · have he := jB hb.1 hb.2 (bz keep t)
      rw [if_neg hkb, fj (by omega), he]
      show b :: cd (bz keep t) = _
      rw [ih]
theorem ji {keep : Int → Bool} {c : Int} (hk : keep c = false) (hc : c = 47) : ∀ l : List Int, (∀ b ∈ l, 0 ≤ b ∧ b ≤ 255) → c ∉ bz keep l
  | [], _ => by simp [bz]
  | b :: t, h => by
    have hb := h b (List.mem_cons_self ..)
    have ih := ji hk hc t (fun c hc => h c (List.mem_cons_of_mem _ hc))
    rw [eS, List.mem_append, not_or]
    refine ⟨?_, ih⟩
    by_cases hkb : keep b = true
    · rw [if_pos hkb, List.mem_singleton]
      exact fun e => by rw [e, hkb] at hk; cases hk
    · rw [if_neg hkb]
      have a := gQ (d := b / 16) (by omega) (by omega)
      have d := gQ (d := b % 16) (by omega) (by omega)
      unfold f8
      simp only [List.mem_cons, List.mem_nil_iff, or_false, not_or]
      rw [hc]
      exact ⟨by decide, fun e => a.2.1 e.symm, fun e => d.2.1 e.symm⟩
theorem jY {keep : Int → Bool} {l : List Int} : bz keep l = [] ↔ l = [] := by
  cases l with
  | nil => simp [bz]
  | cons b t =>
    rw [eS]
    constructor
    · intro h
      have := congrArg List.length h
      split at this <;> simp [f8] at this
    · intro h; cases h
theorem iS {keep : Int → Bool} : ∀ l : List Int, (bz keep l).length ≤ 3 * l.length
  | [] => by simp [bz]
  | b :: t => by
    have ih := iS (keep := keep) t
    rw [eS, List.length_append, List.length_cons]
    split
    · rw [List.length_singleton]; omega
    · show 3 + _ ≤ _; omega
theorem ks {p : Int} {iri : Bool} {b : Int} {t : List Int} (h0 : 0 ≤ b) (h1 : b < 128) (h37 : b ≠ 37) (hp : cA p b = true) : cf p iri (b :: t) = cf p iri t := by
  have hpl : ct p = true := by unfold cA at hp; rw [Bool.and_eq_true] at hp; exact hp.1
  have hs : a8 p iri (b :: t) = 1 := by
    have he := fX t h37
    unfold a8
    rw [if_pos hpl, if_neg (by omega), im t h1]
    have : ed p iri b = true := by unfold ed; rw [if_pos ⟨h0, h1⟩]; exact hp
    dsimp only
    rw [this]; rfl
  unfold cf
  rw [ey, hs, if_neg (by omega), List.length_cons]
  show (1 + cv p iri t == t.length + 1) = (cv p iri t == t.length)
  rw [Bool.eq_iff_iff, beq_iff_eq, beq_iff_eq]; omega
theorem ju {p : Int} {iri : Bool} {l : List Int} (hp : ct p = true) (h : 0 ≤ bh l) : cf p iri l = cf p iri (l.drop 3) := by
  obtain ⟨a, b, t, e, _⟩ := ei h
  have hs : a8 p iri l = 3 := by unfold a8; rw [if_pos hp, if_pos h]
  have hl : 3 ≤ l.length := by rw [e]; simp
  have hle := kO p iri (l.drop 3)
  rw [List.length_drop] at hle
  unfold cf
  rw [ey, hs, if_neg (by omega), List.length_drop, Bool.eq_iff_iff, beq_iff_eq, beq_iff_eq]; omega
theorem g8 {p : Int} {iri : Bool} {keep : Int → Bool} (hp : ct p = true) (hk : ∀ b, 0 ≤ b → b ≤ 255 → keep b = true → b < 128 ∧ b ≠ 37 ∧ cA p b = true) (r : List Int) : ∀ l : List Int, (∀ b ∈ l, 0 ≤ b ∧ b ≤ 255) → cf p iri (bz keep l ++ r) = cf p iri r
  | [], _ => rfl
  | b :: t, h => by
    have hb := h b (List.mem_cons_self ..)
    have ih := g8 (iri := iri) hp hk r t (fun c hc => h c (List.mem_cons_of_mem _ hc))
    rw [eS, List.append_assoc]
    by_cases hkb : keep b = true
    · obtain ⟨h1, h2, h3⟩ := hk b hb.1 hb.2 hkb
      rw [if_pos hkb, List.singleton_append, ks hb.1 h1 h2 h3, ih]
    · have he := jB hb.1 hb.2 (bz keep t ++ r)
      rw [if_neg hkb, ju hp (by omega)]
      exact ih
theorem jW {iri : Bool} {keep : Int → Bool} (hk : ∀ b, 0 ≤ b → b ≤ 255 → keep b = true → b < 128 ∧ b ≠ 37 ∧ cA 5 b = true) : ∀ L : List (List Int), (∀ l ∈ L, ∀ b ∈ l, 0 ≤ b ∧ b ≤ 255) → cf 5 iri (jn 47 (L.map (bz keep))) = true
  | [], _ => jv _ _
  | [a], h => by
    have := g8 (p := 5) (iri := iri) (by decide) hk [] a (h a (List.mem_cons_self ..))
    rw [List.append_nil, jv] at this
    exact this
  | a :: b :: r, h => by
    have ih := jW (iri := iri) hk (b :: r) (fun l hl => h l (List.mem_cons_of_mem _ hl))
    show cf 5 iri (bz keep a ++ 47 :: jn 47 ((b :: r).map (bz keep))) = true
    rw [g8 (by decide) hk _ a (h a (List.mem_cons_self ..)), iF, ih]
theorem kt {p : Int} {iri : Bool} (hp : ct p = true) (h37 : cA p 37 = false) : ∀ (n : Nat) (l : List Int), l.length = n → (∀ b ∈ l, 0 ≤ b ∧ b ≤ 255) → cf p iri l = true → bV l = true := by
  intro n
  induction n using Nat.strongRecOn with
  | _ n ih =>
    intro l hn hl ha
    cases l with
    | nil => exact ia
    | cons b t =>
      rw [List.length_cons] at hn
      by_cases h : 0 ≤ bh (b :: t)
      · rw [ju hp h] at ha
        rw [fS h]
        exact ih ((b :: t).drop 3).length (by rw [List.length_drop, List.length_cons]; omega) _ rfl (fun c hc => hl c (List.mem_of_mem_drop hc)) ha
      · have hs := kT ha (by simp)
        have hle := fZ p iri (b :: t)
        have hspan := ha
        unfold cf at hspan
        rw [beq_iff_eq, ey, if_neg hs] at hspan
        have hstep : a8 p iri (b :: t) = (dec (b :: t)).2.1.toNat ∧ (dec (b :: t)).2.2 = true ∧ ed p iri (dec (b :: t)).1 = true := by
          unfold a8 at hs ⊢
          rw [if_pos hp, if_neg h] at hs ⊢
          by_cases hd : ((dec (b :: t)).2.2 && ed p iri (dec (b :: t)).1) = true
          · rw [if_pos hd]
            rw [Bool.and_eq_true] at hd
            exact ⟨rfl, hd⟩
          · rw [if_neg hd] at hs; exact absurd rfl hs
        have hb := hl b (List.mem_cons_self ..)
        have hno : ∀ c ∈ (b :: t).take (a8 p iri (b :: t)), c ≠ 37 := by
          rw [hstep.1]
          rcases Int.lt_or_le b 128 with hb1 | hb1
          · have hd := im t hb1
            rw [hd] at hstep ⊢
            intro c hc
            have : c = b := by simpa using hc
            rw [this]
            intro e
            have hm := hstep.2.2
            rw [e] at hm
            unfold ed at hm
            rw [if_pos (by decide), h37] at hm
            cases hm
          · have hw := (mW (t := t) hb1 hb.2 hstep.2.1).2
            intro c hc e
            have := hw c hc
            omega
        rw [← ll hno]
        refine ih ((b :: t).drop (a8 p iri (b :: t))).length (by rw [List.length_drop, List.length_cons]; omega) _ rfl (fun c hc => hl c (List.mem_of_mem_drop hc)) ?_
        unfold cf
        rw [beq_iff_eq, List.length_drop]; omega
end Go.Proofs.YtmofhijbheimmaaDoor.M
namespace Go.Proofs.YtmofhijbheimmaaDoor.M
open Go Go.RowKit Go.Proofs.YtmofhijbheimmaaDoorW.PrintWords Go.Proofs.YtmofhijbheimmaaDoorW.PrintLast Go.Proofs.YtmofhijbheimmaaDoorW.PrintMore
theorem dW {l : List Int} (h : ∀ b ∈ l, 0 ≤ b ∧ b ≤ 255) : aa (strOfNums l) = l := by
  unfold aa strOfNums
  show ((l.map fun n => UInt8.ofNat n.toNat).toArray.toList).map _ = l
  rw [List.map_map]
  have : ∀ b ∈ l, ((fun b : UInt8 => (b.toNat : Int)) ∘ fun n : Int => UInt8.ofNat n.toNat) b = b := by
    intro b hb
    have := h b hb
    show ((UInt8.ofNat b.toNat).toNat : Int) = b
    rw [UInt8.toNat_ofNat']
    omega
  rw [List.map_congr_left this, List.map_id'']
  intro b; rfl
theorem jd {s : ByteArray} {l : List Int} (h : aa s = l) : s = strOfNums l := by
  subst h
  exact fw (dW (fun b hb => iG hb)).symm
theorem mP (s : ByteArray) : strOfNums (aa s) = s := (jd rfl).symm
theorem ib {l : List Int} (h : ∀ b ∈ l, 0 ≤ b ∧ b ≤ 255) : (strOfNums l).size = l.length := by rw [← am, dW h]
theorem nf (x y : List UInt8) (r : List (List UInt8)) (sep : List UInt8) : Go.Lib.join (x :: y :: r) sep = x ++ (sep ++ Go.Lib.join (y :: r) sep) := by
  rw [Go.Lib.join_cons, Go.Lib.join_cons]; simp [Go.Lib.joinTail]
theorem kK (c : UInt8) : ∀ L : List (List UInt8), (Go.Lib.join L [c]).map (fun b => (b.toNat : Int)) = jn (c.toNat : Int) (L.map (List.map fun b => (b.toNat : Int)))
  | [] => rfl
  | [x] => by rw [Go.Lib.join_one]; rfl
  | x :: y :: r => by
    rw [nf, List.map_append, List.map_append, kK c (y :: r)]; rfl
theorem iT {c : Int} (hc : 0 ≤ c ∧ c ≤ 255) : ∀ {L : List (List Int)}, (∀ p ∈ L, ∀ b ∈ p, 0 ≤ b ∧ b ≤ 255) → ∀ b ∈ jn c L, 0 ≤ b ∧ b ≤ 255
  | [], _ => by intro b hb; cases hb
  | [a], h => h a (List.mem_cons_self ..)
  | a :: d :: r, h => by
    have ih := iT hc (L := d :: r) (fun p hp => h p (List.mem_cons_of_mem _ hp))
    intro b hb
    rcases List.mem_append.1 (show b ∈ a ++ c :: jn c (d :: r) from hb) with hb | hb
    · exact h a (List.mem_cons_self ..) b hb
    · rcases List.mem_cons.1 hb with rfl | hb
      · exact hc
      · exact ih b hb
theorem ic {L : List (List Int)} (h : ∀ p ∈ L, ∀ b ∈ p, 0 ≤ b ∧ b ≤ 255) : (L.map strOfNums).map aa = L := by
  rw [List.map_map]
  have : ∀ p ∈ L, (aa ∘ strOfNums) p = p := fun p hp => dW (h p hp)
  rw [List.map_congr_left this, List.map_id'']
  intro b; rfl
end Go.Proofs.YtmofhijbheimmaaDoor.M
namespace Go.Proofs.YtmofhijbheimmaaDoor.M
open Go Go.RowKit Go.Proofs.YtmofhijbheimmaaDoorW.PrintWords
def dw : Nat → List Int → List (Int × Int)
  | _, [] => []
  | i, b :: t => if 0 ≤ bh (b :: t) then ((i : Int), bh (b :: t)) :: dw (i + 3) (t.drop 2) else dw (i + 1) t
termination_by _ l => l.length
decreasing_by
  all_goals simp only [List.length_drop, List.length_cons]; omega
theorem hX (i : Nat) : dw i [] = [] := by rw [dw]
theorem hU {i : Nat} {l : List Int} (h : 0 ≤ bh l) : dw i l = ((i : Int), bh l) :: dw (i + 3) (l.drop 3) := by
  obtain ⟨a, b, t, rfl, _⟩ := ei h
  rw [dw, if_pos h]; rfl
theorem it {i : Nat} {b : Int} {t : List Int} (h : bh (b :: t) < 0) : dw i (b :: t) = dw (i + 1) t := by
  rw [dw, if_neg (by omega)]
theorem jy (l : List Int) (p : Nat) : ∀ n : Nat, p + n ≤ l.length → (∀ j, p ≤ j → j < p + n → bh (l.drop j) < 0) → cd (l.drop p) = (l.drop p).take n ++ cd (l.drop (p + n))
  | 0, _, _ => by simp
  | n + 1, hl, h => by
    have ih := jy l p n (by omega) (fun j h1 h2 => h j h1 (by omega))
    have hd : l.drop (p + n) = l[p + n] :: l.drop (p + n + 1) := List.drop_eq_getElem_cons (by omega)
    have he := h (p + n) (by omega) (by omega)
    rw [hd] at he
    rw [ih, hd, fW he, List.take_add_one, List.getElem?_drop, List.getElem?_eq_getElem (by omega)]
    simp [Nat.add_assoc]
theorem jN (A : List Int) (x : Int) : (!A.contains 37 && x != 37) = !(A ++ [x]).contains 37 := by
  rw [Bool.eq_iff_iff]
  simp only [Bool.and_eq_true, Bool.not_eq_true', bne_iff_ne, List.contains_eq_mem, decide_eq_false_iff_not, List.mem_append, List.mem_singleton, not_or]
  exact ⟨fun h => ⟨h.1, fun e => h.2 e.symm⟩, fun h => ⟨h.1, fun e => h.2 e.symm⟩⟩
theorem iQ (l : List Int) (p : Nat) : ∀ n : Nat, p + n ≤ l.length → (∀ j, p ≤ j → j < p + n → bh (l.drop j) < 0) → bV (l.drop p) = (!((l.drop p).take n).contains 37 && bV (l.drop (p + n)))
  | 0, _, _ => by simp
  | n + 1, hl, h => by
    have ih := iQ l p n (by omega) (fun j h1 h2 => h j h1 (by omega))
    have hd : l.drop (p + n) = l[p + n] :: l.drop (p + n + 1) := List.drop_eq_getElem_cons (by omega)
    have he := h (p + n) (by omega) (by omega)
    rw [hd] at he
    rw [ih, hd, eX he, List.take_add_one, List.getElem?_drop, List.getElem?_eq_getElem (by omega)]
    rw [← Bool.and_assoc, show p + (n + 1) = p + n + 1 by omega]
    congr 1
    rw [Option.toList_some]
    exact jN _ _
theorem kB : ∀ (n : Nat) (a r : List Int), a.length = n → 47 ∉ a → bV (a ++ 47 :: r) = true → bV a = true ∧ bV r = true := by
  intro n
  induction n using Nat.strongRecOn with
  | _ n ih =>
    intro a r hn ha h
    cases a with
    | nil =>
      rw [List.nil_append, eX (fX r (by decide))] at h
      exact ⟨ia, (Bool.and_eq_true_iff.1 h).2⟩
    | cons b t =>
      rw [List.length_cons] at hn
      rw [List.mem_cons, not_or] at ha
      by_cases he : 0 ≤ bh (b :: t ++ 47 :: r)
      · obtain ⟨x, y, u, e, hx, hy, hv⟩ := ei he
        have nx : x ≠ 47 := by intro e; subst e; revert hx; decide
        have ny : y ≠ 47 := by intro e; subst e; revert hy; decide
        cases t with
        | nil => simp at e; exact absurd e.2.1.symm nx
        | cons c t =>
          cases t with
          | nil => simp at e; exact absurd e.2.2.1.symm ny
          | cons d t =>
            have e1 : bh (b :: c :: d :: t) = bh (b :: c :: d :: t ++ 47 :: r) := rfl
            rw [fS he] at h
            have := ih t.length (by simp at hn; omega) t r rfl (fun hm => ha.2 (by simp [hm])) h
            refine ⟨?_, this.2⟩
            rw [fS (by rw [e1]; exact he)]
            exact this.1
      · rw [List.cons_append] at he h
        rw [eX (by omega)] at h
        obtain ⟨hb, h⟩ := Bool.and_eq_true_iff.1 h
        have := ih t.length (by omega) t r rfl ha.2 h
        refine ⟨?_, this.2⟩
        rw [eX (fX t (bne_iff_ne.1 hb)), hb, this.1]; rfl
theorem kA : ∀ (n : Nat) (l : List Int), l.length = n → bV l = true → ∀ p ∈ aW 47 l, bV p = true := by
  intro n
  induction n using Nat.strongRecOn with
  | _ n ih =>
    intro l hn h
    by_cases hc : 47 ∈ l
    · have hi : 0 ≤ idx 47 l := by
        have := ka 47 l
        have : idx 47 l ≠ -1 := fun e => (kb.1 e) hc
        omega
      obtain ⟨e, hnot⟩ := jC hi
      generalize l.take (idx 47 l).toNat = a at e hnot
      generalize l.drop ((idx 47 l).toNat + 1) = r at e
      subst e
      obtain ⟨h1, h2⟩ := kB a.length a r rfl hnot h
      rw [ix hnot]
      intro p hp
      rcases List.mem_cons.1 hp with rfl | hp
      · exact h1
      · exact ih r.length (by rw [← hn]; simp; omega) r rfl h2 p hp
    · rw [gO hc]
      intro p hp
      rw [List.mem_singleton.1 hp]; exact h
def bM : List Int → Bool × List (List Int)
  | [] => (false, [])
  | b :: t => if b = 47 then (true, (aW 47 t).map cd) else (false, (aW 47 (b :: t)).map cd)
theorem ex (b : Int) (t : List Int) : bM (b :: t) = if b = 47 then (true, (aW 47 t).map cd) else (false, (aW 47 (b :: t)).map cd) := rfl
def fu (keep : Int → Bool) (P : Bool × List (List Int)) : List Int := (if P.1 then [47] else []) ++ jn 47 (P.2.map (bz keep))
def gX (P : Bool × List (List Int)) : Bool := if P.1 then !P.2.isEmpty else P.2.isEmpty || !(P.2.headD []).isEmpty
theorem iH {keep : Int → Bool} (hk : keep 37 = false) {L : List (List Int)} (h : ∀ p ∈ L, ∀ b ∈ p, 0 ≤ b ∧ b ≤ 255) : (L.map (bz keep)).map cd = L := by
  rw [List.map_map]
  have : ∀ p ∈ L, (cd ∘ bz keep) p = p := fun p hp => jx hk p (h p hp)
  rw [List.map_congr_left this, List.map_id'']
  intro b; rfl
theorem jL {keep : Int → Bool} (hk : keep 47 = false) {L : List (List Int)} (h : ∀ p ∈ L, ∀ b ∈ p, 0 ≤ b ∧ b ≤ 255) (hL : L ≠ []) : aW 47 (jn 47 (L.map (bz keep))) = L.map (bz keep) := by
  refine jJ 47 _ (by simpa using hL) ?_
  intro p hp
  obtain ⟨q, hq, rfl⟩ := List.mem_map.1 hp
  exact ji hk rfl q (h q hq)
theorem mJ {keep : Int → Bool} (h37 : keep 37 = false) (h47 : keep 47 = false) (P : Bool × List (List Int)) (h : ∀ p ∈ P.2, ∀ b ∈ p, 0 ≤ b ∧ b ≤ 255) : bM (fu keep P) = P ↔ gX P = true := by
  obtain ⟨r, L⟩ := P
  cases r with
  | true =>
    show bM (47 :: jn 47 (L.map (bz keep))) = (true, L) ↔ (!L.isEmpty) = true
    rw [bM, if_pos rfl]
    cases L with
    | nil => simp [jn, aW]
    | cons a L =>
      rw [jL h47 h (by simp), iH h37 h]
      simp
  | false =>
    show bM (jn 47 (L.map (bz keep))) = (false, L) ↔ (L.isEmpty || !(L.headD []).isEmpty) = true
    cases L with
    | nil => simp [jn, bM]
    | cons a L =>
      cases a with
      | nil =>
        cases L with
        | nil => simp [jn, bz, bM]
        | cons c L =>
          show bM (47 :: jn 47 ((c :: L).map (bz keep))) = _ ↔ _
          rw [bM, if_pos rfl]
          simp
      | cons b t =>
        have hs := jL h47 h (by simp)
        have hd := iH h37 h
        have hn : bz keep (b :: t) ≠ [] := fun e => by have := jY.1 e; simp at this
        have ht : ∃ x u, jn 47 (((b :: t) :: L).map (bz keep)) = x :: u ∧ x ∈ bz keep (b :: t) := by
          cases e : bz keep (b :: t) with
          | nil => exact absurd e hn
          | cons x u =>
            cases L with
            | nil => exact ⟨x, u, by simp [jn, e], by simp⟩
            | cons c L => exact ⟨x, u ++ 47 :: jn 47 ((c :: L).map (bz keep)), by
                show bz keep (b :: t) ++ 47 :: jn 47 ((c :: L).map (bz keep)) = _
                rw [e]; rfl, by simp⟩
        obtain ⟨x, u, e, hx⟩ := ht
        have hx47 : x ≠ 47 := by
          intro e; subst e
          exact ji h47 rfl _ (h _ (List.mem_cons_self ..)) hx
        have : bM (jn 47 (((b :: t) :: L).map (bz keep))) = (false, ((aW 47 (jn 47 (((b :: t) :: L).map (bz keep)))).map cd)) := by
          rw [e, bM, if_neg hx47]
        rw [this, hs, hd]
        simp
theorem jX {l : List Int} : cd l = [] ↔ l = [] := by
  cases l with
  | nil => simp [fk]
  | cons b t =>
    by_cases h : 0 ≤ bh (b :: t)
    · rw [fj h]; simp
    · rw [fW (by omega)]; simp
theorem ja : ∀ l : List Int, gX (bM l) = true
  | [] => rfl
  | b :: t => by
    rw [ex]
    by_cases h : b = 47
    · rw [if_pos h]
      have := jK 47 t
      simp [gX, this]
    · rw [if_neg h]
      rw [dr, if_neg h]
      simp [gX, jX]
theorem la {l : List Int} (h : ∀ b ∈ l, 0 ≤ b ∧ b ≤ 255) : ∀ p ∈ (bM l).2, ∀ b ∈ p, 0 ≤ b ∧ b ≤ 255 := by
  have key : ∀ m : List Int, (∀ b ∈ m, 0 ≤ b ∧ b ≤ 255) → ∀ p ∈ (aW 47 m).map cd, ∀ b ∈ p, 0 ≤ b ∧ b ≤ 255 := by
    intro m hm p hp
    obtain ⟨q, hq, rfl⟩ := List.mem_map.1 hp
    exact kY q.length q rfl (fun b hb => hm b ((fU q hq).2.1 b hb))
  cases l with
  | nil => intro p hp; simp [bM] at hp
  | cons b t =>
    rw [ex]
    by_cases e : b = 47
    · rw [if_pos e]; exact key t (fun c hc => h c (List.mem_cons_of_mem _ hc))
    · rw [if_neg e]; exact key _ h
theorem np {l : List Int} : (bM l).2.length ≤ l.length + 1 := by
  cases l with
  | nil => simp [bM]
  | cons b t =>
    rw [ex]
    by_cases e : b = 47
    · rw [if_pos e]
      have := fT 47 t
      simp only [List.length_map, List.length_cons]; omega
    · rw [if_neg e]
      have := fT 47 (b :: t)
      simp only [List.length_map]; omega
theorem nq {l : List Int} : ∀ p ∈ (bM l).2, p.length ≤ l.length := by
  have key : ∀ m : List Int, ∀ p ∈ (aW 47 m).map cd, p.length ≤ m.length := by
    intro m p hp
    obtain ⟨q, hq, rfl⟩ := List.mem_map.1 hp
    have := mU q.length q rfl
    have := (fU q hq).2.2
    omega
  cases l with
  | nil => intro p hp; simp [bM] at hp
  | cons b t =>
    rw [ex]
    by_cases e : b = 47
    · rw [if_pos e]
      intro p hp
      have := key t p hp
      rw [List.length_cons]; omega
    · rw [if_neg e]; exact key _
theorem nA {iri : Bool} {keep : Int → Bool} (hk : ∀ b, 0 ≤ b → b ≤ 255 → keep b = true → b < 128 ∧ b ≠ 37 ∧ cA 5 b = true) (P : Bool × List (List Int)) (h : ∀ p ∈ P.2, ∀ b ∈ p, 0 ≤ b ∧ b ≤ 255) : cf 5 iri (fu keep P) = true := by
  unfold fu
  have := jW (iri := iri) hk P.2 h
  cases P.1 with
  | true => exact (iF _ _).trans this
  | false => exact this
end Go.Proofs.YtmofhijbheimmaaDoor.M
namespace Go.Proofs.YtmofhijbheimmaaDoor.Y
open Go.RowKit Go.Proofs.YtmofhijbheimmaaDoor.X Go.Proofs.YtmofhijbheimmaaDoor.M Go.Proofs.YtmofhijbheimmaaDoorW.PrintWords Go.Proofs.YtmofhijbheimmaaDoorW.PrintLast Go.Proofs.YtmofhijbheimmaaDoorW.PrintMore
theorem nQ {b : Int} (h0 : 0 ≤ b) (h1 : b ≤ 255) : Ev (fun k => cL k b) (cls b) :=
  gy (fun k => gi b k) (k := 12) (cD (p := fun b => cL 12 b = some (cls b)) (by decide +kernel) h0 h1)
theorem oV {b : Int} (c : Int) (h0 : 0 ≤ b) (h1 : b ≤ 255) : Ev (fun k => dl k b c) (isc b c) := ax (nQ h0 h1) (az _)
theorem kR {b : Int} (h0 : 0 ≤ b) (h1 : b ≤ 255) : Ev (fun k => cM k b) (if hv b < 0 then (0, false) else (hv b, true)) :=
  gy (fun k => eM b k) (k := 14) (cD (p := fun b => cM 14 b = some (if hv b < 0 then (0, false) else (hv b, true))) (by decide +kernel) h0 h1)
theorem jb {b : Int} (h0 : 0 ≤ b) (h1 : b ≤ 255) : Ev (fun k => bG k b) (hv b) :=
  gy (fun k => gr b k) (k := 20) (cD (p := fun b => bG 20 b = some (hv b)) (by decide +kernel) h0 h1)
theorem cg (s : ByteArray) (n : Nat) (h : n ≤ s.size) : (n = s.size ∧ (aa s).drop n = []) ∨ (n < s.size ∧ (aa s).drop n = bt s (n : Int) :: (aa s).drop (n + 1) ∧ 0 ≤ bt s (n : Int) ∧ bt s (n : Int) ≤ 255) := by
  rcases Nat.lt_or_ge n s.size with h1 | h1
  · right
    have hl : n < (aa s).length := by rw [am]; exact h1
    refine ⟨h1, ?_, (e7 s n).1, (e7 s n).2⟩
    rw [List.drop_eq_getElem_cons hl, kD, List.getD_eq_getElem?_getD, List.getElem?_eq_getElem hl]
    rfl
  · left
    exact ⟨by omega, List.drop_of_length_le (by rw [am]; exact h1)⟩
theorem dZ (s : ByteArray) : (s.size = 0 ∧ aa s = []) ∨ (0 < s.size ∧ aa s = bt s 0 :: (aa s).drop 1 ∧ 0 ≤ bt s 0 ∧ bt s 0 ≤ 255) := by
  have := cg s 0 (by omega)
  rw [List.drop_zero] at this
  rcases this with ⟨h, e⟩ | h
  · exact .inl ⟨h.symm, e⟩
  · exact .inr h
theorem nY (s t : ByteArray) (hs : s.size ≤ 140737488351232) (ht : t.size ≤ 140737488351232) (i : Nat) (hi : i < s.size) (r : Int) (next : Ev (fun k => bP k s t ((i + 1 : Nat) : Int)) r) : ∀ d n : Nat, n + d = t.size →
    Ev (fun k => cl k s t (i : Int) (t.size : Int) (n : Int)) (if ((aa t).drop n).contains (bt s i) then (i : Int) else r) := by
  intro d
  induction d with
  | zero =>
    intro n hn
    refine Ev.step (fun k => rfl) (ag (by omega) ?_)
    rw [List.drop_of_length_le (by rw [am]; omega), w64 (by omega) (by omega)]
    exact next
  | succ d ih =>
    intro n hn
    rcases cg t n (by omega) with ⟨h, _⟩ | ⟨h, e, b0, b1⟩
    · omega
    refine Ev.step (fun k => rfl) (ab (by omega) (ab (by omega) (ab (by omega) (ab (by omega) (ab (by omega) ?_)))))
    rw [e, List.contains_cons]
    by_cases hb : bt s i = bt t n
    · refine ab hb ?_
      have : (bt s (i : Int) == bt t (n : Int)) = true := by simpa using hb
      rw [this]
      exact az _
    · refine ag hb ?_
      rw [w64 (by omega) (by omega)]
      have : (bt s (i : Int) == bt t (n : Int)) = false := by simpa using hb
      rw [this, Bool.false_or]
      exact ih (n + 1) (by omega)
theorem nX (s t : ByteArray) (hs : s.size ≤ 140737488351232) (ht : t.size ≤ 140737488351232) : ∀ d n : Nat, n + d = s.size →
    Ev (fun k => bP k s t (n : Int)) (let j := dM (fun b => (aa t).contains b) ((aa s).drop n); if j = -1 then -1 else (n : Int) + j) := by
  intro d
  induction d with
  | zero =>
    intro n hn
    refine Ev.step (fun k => rfl) (ag (by omega) ?_)
    rw [List.drop_of_length_le (by rw [am]; omega)]
    exact az _
  | succ d ih =>
    intro n hn
    rcases cg s n (by omega) with ⟨h, _⟩ | ⟨h, e, b0, b1⟩
    · omega
    refine Ev.step (fun k => rfl) (ab (by omega) ?_)
    have h1 := nY s t hs ht n h _ (ih (n + 1) (by omega)) t.size 0 (by omega)
    simp only [List.drop_zero] at h1
    rw [e]
    have hg := jl (fun b => (aa t).contains b) ((aa s).drop (n + 1))
    have key : (if (aa t).contains (bt s (n : Int)) = true then (n : Int) else (let j := dM (fun b => (aa t).contains b) ((aa s).drop (n + 1)); if j = -1 then -1 else ((n + 1 : Nat) : Int) + j)) = (let j := dM (fun b => (aa t).contains b) (bt s (n : Int) :: (aa s).drop (n + 1)); if j = -1 then -1 else (n : Int) + j) := by
      generalize hq : (fun b => (aa t).contains b) = q at *
      have hq2 : (aa t).contains (bt s (n : Int)) = q (bt s (n : Int)) := by rw [← hq]
      rw [hq2]
      by_cases hc : q (bt s (n : Int)) = true
      · have hz : dM q (bt s (n : Int) :: (aa s).drop (n + 1)) = 0 := by rw [ip, if_pos hc]
        simp only [hz, if_pos hc]
        simp
      · by_cases hj : dM q ((aa s).drop (n + 1)) = -1
        · have hz : dM q (bt s (n : Int) :: (aa s).drop (n + 1)) = -1 := by rw [ip, if_neg hc, if_pos hj]
          simp only [hz, hj, if_neg hc, if_true]
        · have hz : dM q (bt s (n : Int) :: (aa s).drop (n + 1)) = dM q ((aa s).drop (n + 1)) + 1 := by
            rw [ip, if_neg hc, if_neg hj]
          simp only [hz, if_neg hc, if_neg hj]
          rw [if_neg (by omega)]
          omega
    rw [← key]
    exact h1
theorem oA (s t : ByteArray) (n : Nat) (hn : n ≤ s.size) (hs : s.size ≤ 140737488351232) (ht : t.size ≤ 140737488351232) :
    Ev (fun k => b9 k s (n : Int) t) (let j := dM (fun b => (aa t).contains b) ((aa s).drop n); if j = -1 then -1 else (n : Int) + j) := by
  unfold b9
  have : mx (n : Int) 0 = (n : Int) := by unfold mx; rw [if_neg (by omega)]
  rw [this]
  exact nX s t hs ht (s.size - n) n (by omega)
end Go.Proofs.YtmofhijbheimmaaDoor.Y
