/- Texts that the law's proof needs, joined by a program of this session. -/
import Derived.Test.YtmofhijbheimmaaDoorZSegsParse1
import Derived.Test.YtmofhijbheimmaaDoorZSegsParse4
set_option maxHeartbeats 8000000
set_option maxRecDepth 100000
set_option linter.unusedSimpArgs false
set_option linter.unusedVariables false
namespace Go.Proofs.YtmofhijbheimmaaDoor.X
open Go.RowKit Go.Proofs.YtmofhijbheimmaaDoorW.PrintWords Go.Proofs.YtmofhijbheimmaaDoorW.PrintLast Go.Proofs.YtmofhijbheimmaaDoorW.PrintMore
attribute [local go_sem] cX cN dY e5 fF es e6 el ep eT eU dU dV eo eq
def aD : Nat → ByteArray → Int → Int → Option (Int)
  | 0, _, _, _ => none
  | k + 1, x0, x1, x5 => if x5 ≥ 0 then (if 0 ≤ x5 then (if x5 < (x0.size : Int) then (if (bt x0 x5) = x1 then (some x5) else (aD k x0 x1 (wrap64 (x5 - 1)))) else (none)) else (none)) else (some (-1))
def br (k : Nat) (a0 : ByteArray) (a1 : Int) : Option (Int) := aD k a0 a1 (wrap64 ((a0.size : Int) - 1))
theorem de : ∀ k, (∀ y0 y1 y2, LeO (aD k y0 y1 y2) (aD (k + 1) y0 y1 y2))
  | 0 => fun _ _ _ r h => by simp [aD] at h
  | k + 1 => by
    have ih0 := de k
    · intro y0 y1 y2
      unfold aD
      exact xmo
theorem eK : ∀ a0 a1 k, LeO (br k a0 a1) (br (k + 1) a0 a1) := by
  intro a0 a1 k
  have ih0 := de k
  unfold br
  exact xmo
theorem eD (k : Nat) (a0 : ByteArray) (a1 : Int) (r : Int) (w : World) (h : br k a0 a1 = some r) :
    Calls Tryd.prog 53 #[.string a0, .int .u8 a1] w fun e w' => e = .returned (.int .i64 r) ∧ Drawn0 w w' := by
 have H : (aD k a0 a1 (wrap64 ((a0.size : Int) - 1))) = some r := h
 clear h
 have H' := Zz.mk H
 clear H
 go_enter Tryd.func53, Tryd.ntmps53
 go_wp2
 go_loopg [5] k (fun kq v5 w' => ∃ (Aa : Int), v5 = .int .i64 Aa ∧ Zz (aD kq a0 a1 Aa = some r) ∧ Zz (kq ≤ k) ∧ Drawn0 w w')
 case atStart => exact ⟨(wrap64 ((a0.size : Int) - 1)), xrr, H', ⟨Nat.le_refl _⟩, xdr⟩
 case round =>
  clear H'
  obtain ⟨Aa, rfl, HA, HK1, ⟨m1, rfl⟩⟩ := hrel
  cases gk with
  | zero => exact absurd HA.out (by simp [aD])
  | succ k1 =>
   have H := HA.out
   clear HA
   simp only [aD] at H
   by_cases c3 : Aa ≥ 0
   ·
    rw [if_pos c3] at H
    have Ab := decide_eq_true c3
    clear c3
    by_cases c4 : 0 ≤ Aa
    ·
     rw [if_pos c4] at H
     have Af := decide_eq_true c4
     clear c4
     by_cases c5 : Aa < (a0.size : Int)
     ·
      rw [if_pos c5] at H
      have Ag := decide_eq_true c5
      clear c5
      by_cases c7 : (bt a0 Aa) = a1
      ·
       rw [if_pos c7] at H
       have Ac : ((bt a0 Aa) == a1) = true := beq_iff_eq.mpr c7
       have Ad : ((bt a0 Aa) != a1) = false := bne_eq_false_iff_eq.mpr c7
       clear c7
       obtain rfl := Option.some.inj H
       have p6 : 0 ≤ (Aa : Int) := xod
       have q6 : Aa < (a0.size : Int) := xod
       have hx6 := ar a0 Aa
       replace p6 := eq_true p6
       replace q6 := eq_true q6
       try (have Ae := q6; simp only [ByteArray.size_extract, Nat.min_self] at Ae)
       go_wp2
       go_ret
       exact ⟨xrr, xdr⟩
      ·
       rw [if_neg c7] at H
       have Ac : ((bt a0 Aa) == a1) = false := beq_eq_false_iff_ne.mpr c7
       have Ad : ((bt a0 Aa) != a1) = true := bne_iff_ne.mpr c7
       have H' := Zz.mk H
       clear H
       have p6 : 0 ≤ (Aa : Int) := xod
       have q6 : Aa < (a0.size : Int) := xod
       have hx6 := ar a0 Aa
       replace p6 := eq_true p6
       replace q6 := eq_true q6
       try (have Ae := q6; simp only [ByteArray.size_extract, Nat.min_self] at Ae)
       go_wp2
       go_roundg k1
       case measure => have := HK1.out; omega
       case rel => exact ⟨(wrap64 (Aa - 1)), xrr, H', ⟨by have := HK1.out; omega⟩, xdr⟩
     ·
      rw [if_neg c5] at H
      exact absurd H (by simp)
    ·
     rw [if_neg c4] at H
     exact absurd H (by simp)
   ·
    rw [if_neg c3] at H
    have Ab := decide_eq_false c3
    clear c3
    obtain rfl := Option.some.inj H
    go_wp2
    go_ret
    exact ⟨xrr, xdr⟩
def bW (k : Nat) (a0 : ByteArray) (a1 : Int) : Option (Int) := (br k a0 a1).bind fun t179 => (some t179)
theorem fH : ∀ a0 a1 k, LeO (bW k a0 a1) (bW (k + 1) a0 a1) := by
  intro a0 a1 k
  have m0 := @eK
  unfold bW
  exact xmo
theorem dX (k : Nat) (a0 : ByteArray) (a1 : Int) (r : Int) (w : World) (h : bW k a0 a1 = some r) :
    Calls Tryd.prog 37 #[.string a0, .int .u8 a1] w fun e w' => e = .returned (.int .i64 r) ∧ Drawn0 w w' := by
 have H : ((br k a0 a1).bind fun t179 => (some t179)) = some r := h
 clear h
 replace H := Option.bind_eq_some_iff.mp H
 obtain ⟨t179, A30, H⟩ := H
 try dsimp only at H
 have A3 := Zz.mk A30
 clear A30
 obtain rfl := Option.some.inj H
 go_enter Tryd.func37, Tryd.ntmps37
 go_wp2_with (first | ((with_reducible refine ae (f := 53) rfl ?_); refine xgl 7 Tryd.func53 #[.string a0, .int .u8 a1] ?_; (with_reducible refine (eD k a0 a1 t179 _ A3.out).mono ?_); rintro e w' ⟨rfl, ⟨nd, rfl⟩⟩; refine ⟨_, rfl, ?_⟩))
 go_ret
 exact ⟨xrr, xdr⟩
def dc (k : Nat) (Ac : Bool) (l0_1 : List ByteArray) : Option (ByteArray) := (eN Ac l0_1).bind fun Aa => ((bW k Aa 46).bind fun Ab => (if Ab > 0 then (if 0 ≤ (wrap64 (Ab + 1)) then (if (wrap64 (Ab + 1)) ≤ (Aa.size : Int) then (some (Aa.extract ((wrap64 (Ab + 1)) : Int).toNat Aa.size)) else (none)) else (none)) else (some (⟨#[]⟩ : ByteArray))))
theorem iw : ∀ a0 a1 k, LeO (dc k a0 a1) (dc (k + 1) a0 a1) := by
  intro a0 a1 k
  have m0 := @fH
  unfold dc
  exact xmo
theorem fh (k : Nat) (Ac : Bool) (A0_1 : Option Addr) (c0_1 : Nat) (l0_1 : List ByteArray) (r : ByteArray) (w : World) (hr0_1 : Kd.C Kd.string w A0_1 l0_1.length l0_1) (hc0_1 : l0_1.length ≤ c0_1) (h : dc k Ac l0_1 = some r) :
    Calls Tryd.prog 21 #[.agg #[.bool Ac, .slice A0_1 l0_1.length c0_1]] w fun e w' => e = .returned (.string r) ∧ Below w.heap.size w w' := by
 have hu25 := Tryd.underlying25
 have HR0_1 := Zz.mk hr0_1
 have HC0_1 := Zz.mk hc0_1
 clear hr0_1 hc0_1
 have HB := Zz.mk (Below.refl w.heap.size w)
 have H : ((eN Ac l0_1).bind fun Aa => ((bW k Aa 46).bind fun Ad => (if Ad > 0 then (if 0 ≤ (wrap64 (Ad + 1)) then (if (wrap64 (Ad + 1)) ≤ (Aa.size : Int) then (some (Aa.extract ((wrap64 (Ad + 1)) : Int).toNat Aa.size)) else (none)) else (none)) else (some (⟨#[]⟩ : ByteArray))))) = some r := h
 clear h
 replace H := Option.bind_eq_some_iff.mp H
 obtain ⟨Aa, A20, H⟩ := H
 try dsimp only at H
 have A2 := Zz.mk A20
 clear A20
 replace H := Option.bind_eq_some_iff.mp H
 obtain ⟨Ad, A30, H⟩ := H
 try dsimp only at H
 have A3 := Zz.mk A30
 clear A30
 by_cases c4 : Ad > 0
 ·
  rw [if_pos c4] at H
  have Al := decide_eq_true c4
  clear c4
  obtain ⟨Ak, Ae⟩ : ∃ j_ : Int, (wrap64 (Ad + 1)) = j_ := ⟨_, rfl⟩
  first | rw [Ae] at H | simp only [Ae] at H | skip
  (try rw [Ae] at A2)
  (try rw [Ae] at A3)
  have Am : (IntKind.i64.wrap (Ad + 1)) = Ak := (ap _).trans Ae
  by_cases c6 : 0 ≤ (Ak)
  ·
   rw [if_pos c6] at H
   have An := eq_true c6
   have Ao := decide_eq_true c6
   clear c6
   by_cases c7 : (Ak) ≤ (Aa.size : Int)
   ·
    rw [if_pos c7] at H
    have Ap := eq_true c7
    have Aq := decide_eq_true c7
    clear c7
    obtain ⟨Ar, Af⟩ : ∃ j_ : ByteArray, (Aa.extract ((Ak) : Int).toNat Aa.size) = j_ := ⟨_, rfl⟩
    try (have Ai := Af; simp only [Int.toNat_natCast] at Ai)
    first | rw [Af] at H | simp only [Af] at H | skip
    (try rw [Af] at A2)
    (try rw [Af] at A3)
    obtain rfl := Option.some.inj H
    go_enter Tryd.func21, Tryd.ntmps21
    go_wp2_with (first | ((with_reducible refine an (N := 1) rfl ?_); refine xev 1 #[.bool Ac, .slice A0_1 l0_1.length c0_1] 25 ?_; intro Ag hg w9 hbox hb; have Ab := Zz.mk (hbox); have Ah := xsz hg; have Aj := Ah; replace HB := xst hb; clear hb hbox hg; obtain ⟨hcz10_0, hcz10_1⟩ := xc2 Ab; have hfz10_0 := xf Ab 0; have hfz10_1 := xf Ab 1) | ((with_reducible refine ae (f := 20) rfl ?_); refine xgl 6 Tryd.func20 #[.agg #[.bool Ac, .slice A0_1 l0_1.length c0_1]] ?_; (with_reducible refine (fc Ac _ _ l0_1 Aa _ ?side1 ?side2 A2.out).mono ?_); (case side1 => repeat (first | exact (Kd.C_below HR0_1.out HB.out) | (with_reducible refine Kd.C_alloc ?_ _) | (with_reducible refine Kd.C_drewN ?_ _) | (with_reducible refine Kd.C_drew ?_))); (case side2 => exact HC0_1.out); rintro e w11 ⟨rfl, hb⟩; refine ⟨_, rfl, ?_⟩; replace Ab := xbb (g := Ag) (o := .cells #[.bool Ac, .slice A0_1 l0_1.length c0_1] 25 (0, 0)) hb; replace HB := xst hb; (try clear hb)) | ((with_reducible refine ae (f := 37) rfl ?_); refine xgl 8 Tryd.func37 #[.string Aa, .int .u8 46] ?_; (with_reducible refine (dX k Aa 46 Ad _ A3.out).mono ?_); rintro e w' ⟨rfl, ⟨nd, rfl⟩⟩; refine ⟨_, rfl, ?_⟩))
    go_ret
    exact ⟨by first | rfl | (simp [au, av] <;> first | rfl | (simp only [bK, bne, Bool.not_not]; done)) | (simp only [← Ae, ← Af]; first | rfl | (simp [au, av] <;> rfl)) | (simp [*, au, av] <;> rfl), xbl⟩
   ·
    rw [if_neg c7] at H
    exact absurd H (by simp)
  ·
   rw [if_neg c6] at H
   exact absurd H (by simp)
 ·
  rw [if_neg c4] at H
  have Al := decide_eq_false c4
  clear c4
  obtain rfl := Option.some.inj H
  go_enter Tryd.func21, Tryd.ntmps21
  go_wp2_with (first | ((with_reducible refine an (N := 1) rfl ?_); refine xev 1 #[.bool Ac, .slice A0_1 l0_1.length c0_1] 25 ?_; intro Ag hg w12 hbox hb; have Ab := Zz.mk (hbox); have Ah := xsz hg; have Aj := Ah; replace HB := xst hb; clear hb hbox hg; obtain ⟨hcz13_0, hcz13_1⟩ := xc2 Ab; have hfz13_0 := xf Ab 0; have hfz13_1 := xf Ab 1) | ((with_reducible refine ae (f := 20) rfl ?_); refine xgl 6 Tryd.func20 #[.agg #[.bool Ac, .slice A0_1 l0_1.length c0_1]] ?_; (with_reducible refine (fc Ac _ _ l0_1 Aa _ ?side1 ?side2 A2.out).mono ?_); (case side1 => repeat (first | exact (Kd.C_below HR0_1.out HB.out) | (with_reducible refine Kd.C_alloc ?_ _) | (with_reducible refine Kd.C_drewN ?_ _) | (with_reducible refine Kd.C_drew ?_))); (case side2 => exact HC0_1.out); rintro e w14 ⟨rfl, hb⟩; refine ⟨_, rfl, ?_⟩; replace Ab := xbb (g := Ag) (o := .cells #[.bool Ac, .slice A0_1 l0_1.length c0_1] 25 (0, 0)) hb; replace HB := xst hb; (try clear hb)) | ((with_reducible refine ae (f := 37) rfl ?_); refine xgl 8 Tryd.func37 #[.string Aa, .int .u8 46] ?_; (with_reducible refine (dX k Aa 46 Ad _ A3.out).mono ?_); rintro e w' ⟨rfl, ⟨nd, rfl⟩⟩; refine ⟨_, rfl, ?_⟩))
  go_ret
  exact ⟨xre, xbl⟩
def bd (k : Nat)  : Option (Bool) := (ca k (⟨#[47, 97, 37, 50, 70, 98, 47, 99, 46, 120]⟩ : ByteArray)).bind fun Aa => (if Aa.2.2 = 0 then (if Aa.1 = true then (if (Aa.2.1.length : Int) = 2 then (if 0 < (Aa.2.1.length : Int) then (if (aG ByteArray.empty Aa.2.1 0).toList = ([97, 47, 98] : List UInt8) then ((dc k Aa.1 Aa.2.1).bind fun Ab => (if Ab.toList = ([120] : List UInt8) then ((b5 k Aa.1 Aa.2.1).bind fun Ac => (some (Ac.toList == ([47, 97, 37, 50, 70, 98, 47, 99, 46, 120] : List UInt8)))) else (some false))) else (some false)) else (none)) else (some false)) else (some false)) else (some false))
theorem gq : ∀ k, LeO (bd k ) (bd (k + 1) ) := by
  intro  k
  have m0 := @jc; have m1 := @iw; have m2 := @ik
  unfold bd
  exact xmo
theorem dz (k : Nat)  (r : Bool) (w : World) (hG : GW w) (h : bd k  = some r) :
    Calls Tryd.prog 7 #[] w fun e w' => e = .returned (.bool r) ∧ Below w.heap.size w w' := by
 have hu25 := Tryd.underlying25
 have HB := Zz.mk (Below.refl w.heap.size w)
 have H : ((ca k (⟨#[47, 97, 37, 50, 70, 98, 47, 99, 46, 120]⟩ : ByteArray)).bind fun Ah => (if Ah.2.2 = 0 then (if Ah.1 = true then (if (Ah.2.1.length : Int) = 2 then (if 0 < (Ah.2.1.length : Int) then (if (aG ByteArray.empty Ah.2.1 0).toList = ([97, 47, 98] : List UInt8) then ((dc k Ah.1 Ah.2.1).bind fun Aj => (if Aj.toList = ([120] : List UInt8) then ((b5 k Ah.1 Ah.2.1).bind fun Am => (some (Am.toList == ([47, 97, 37, 50, 70, 98, 47, 99, 46, 120] : List UInt8)))) else (some false))) else (some false)) else (none)) else (some false)) else (some false)) else (some false))) = some r := h
 clear h
 replace H := Option.bind_eq_some_iff.mp H
 obtain ⟨⟨An, Ae, Ai⟩, A10, H⟩ := H
 try dsimp only at H
 have A1 := Zz.mk A10
 clear A10
 by_cases c2 : Ai = 0
 ·
  rw [if_pos c2] at H
  have Ao : (Ai == 0) = true := beq_iff_eq.mpr c2
  have Ap : (Ai != 0) = false := bne_eq_false_iff_eq.mpr c2
  clear c2
  by_cases c3 : An = true
  ·
   subst c3
   rw [if_pos rfl] at H
   by_cases c4 : (Ae.length : Int) = 2
   ·
    rw [if_pos c4] at H
    have Aq : ((Ae.length : Int) == 2) = true := beq_iff_eq.mpr c4
    have Ar : ((Ae.length : Int) != 2) = false := bne_eq_false_iff_eq.mpr c4
    clear c4
    by_cases c5 : 0 < (Ae.length : Int)
    ·
     rw [if_pos c5] at H
     have Aw := decide_eq_true c5
     have Ax : decide (0 < Ae.length) = true := decide_eq_true (by omega)
     clear c5
     by_cases c6 : (aG ByteArray.empty Ae 0).toList = ([97, 47, 98] : List UInt8)
     ·
      rw [if_pos c6] at H
      have As : ((aG ByteArray.empty Ae 0).toList == ([97, 47, 98] : List UInt8)) = true := beq_iff_eq.mpr c6
      have At : ((aG ByteArray.empty Ae 0).toList != ([97, 47, 98] : List UInt8)) = false := bne_eq_false_iff_eq.mpr c6
      clear c6
      replace H := Option.bind_eq_some_iff.mp H
      obtain ⟨Aj, A70, H⟩ := H
      try dsimp only at H
      have A7 := Zz.mk A70
      clear A70
      by_cases c8 : Aj.toList = ([120] : List UInt8)
      ·
       rw [if_pos c8] at H
       have Au : (Aj.toList == ([120] : List UInt8)) = true := beq_iff_eq.mpr c8
       have Av : (Aj.toList != ([120] : List UInt8)) = false := bne_eq_false_iff_eq.mpr c8
       clear c8
       replace H := Option.bind_eq_some_iff.mp H
       obtain ⟨Am, A90, H⟩ := H
       try dsimp only at H
       have A9 := Zz.mk A90
       clear A90
       obtain rfl := Option.some.inj H
       go_enter Tryd.func7, Tryd.ntmps7
       go_wp2_with (first | ((with_reducible refine ae (f := 8) rfl ?_); refine xgl 4 Tryd.func8 #[.string (⟨#[47, 97, 37, 50, 70, 98, 47, 99, 46, 120]⟩ : ByteArray)] ?_; (with_reducible refine (bZ k (⟨#[47, 97, 37, 50, 70, 98, 47, 99, 46, 120]⟩ : ByteArray) true Ae Ai _ ?side1 A1.out).mono ?_); (case side1 => first | (with_reducible exact hG) | exact et hG xbl); rintro e w10 ⟨v185, rfl, ho0, hb⟩; refine ⟨_, rfl, ?_⟩; have Aa := Zz.mk (Kd.R_lower ho0 (aK xbl)); replace HB := xst hb; (try clear hb); (try clear ho0)) | ((with_reducible refine an (N := 1) rfl ?_); (try (refine cF (by rfl) ?_; dsimp only)); refine xev 1 #[.bool false, .slice none 0 0] 25 ?_; intro Ad hg w11 hbox hb; have Ab := Zz.mk (hbox); have Ag := xsz hg; have Ak := Ag; replace Aa := Zz.mk (Kd.R_below (xkd Aa) hb); replace HB := xst hb; clear hb hbox hg; obtain ⟨hcz12_0, hcz12_1⟩ := xc2 Ab; have hfz12_0 := xf Ab 0; have hfz12_1 := xf Ab 1; obtain ⟨Ao13, co13, eo13⟩ := Kd.R_slice Aa.out; subst eo13; have p189 : 0 ≤ (0 : Int) := (by omega); have q189 : 0 < (Ae.length : Int) := xod; obtain ⟨Af, e189, Ac⟩ := Kd.at_string (Kd.R_reads' Aa.out).2.2 0 p189 q189; cases e189; have Al : (0 < Ae.length) = True := eq_true (by omega); (try rw [show ((0 : Int)).toNat = 0 from rfl] at Ac); (try rw [Addr.add_zero'] at Ac); have hn189_0 : Af.block ≠ Ad := Kd.own_blk (Kd.R_ne Aa.out Ab.out (by decide)); have hn189_1 : Af.block ≠ Ad := Kd.own_blk (Kd.R_ne Aa.out Ab.out (by decide)); replace Ac := (fi (p := ⟨Ad, 0, none⟩) (by first | (rw [cq]; exact hn189_0) | (show (Addr.add _ _).block ≠ _; rw [cq]; exact hn189_0) | exact hn189_0) (.bool true)).trans Ac; replace Ac := (fi (p := ⟨Ad, 1, none⟩) (by first | (rw [cq]; exact hn189_1) | (show (Addr.add _ _).block ≠ _; rw [cq]; exact hn189_1) | exact hn189_1) (.slice (some Af) Ae.length co13)).trans Ac; clear hn189_0; clear hn189_1; replace p189 := eq_true p189; replace q189 := eq_true q189) | (go_at_call 21; (with_reducible refine (fh k true _ _ Ae Aj _ ?side1 ?side2 A7.out).mono ?_); (case side1 => refine (Kd.R_reads' (e := 9) (base := w.heap.size) (ok := fun k_ => True) (n := Ae.length) (c := co13) ?_).2.2; exact (by (with_reducible repeat (first | apply Kd.R_alloc | apply Kd.R_drewN | apply Kd.R_drew)); exact (Kd.R_mono (Kd.R_far (p := ⟨Ad, 1, none⟩) (Kd.R_far (p := ⟨Ad, 0, none⟩) (Kd.R_types Aa.out Ab.out (by decide)) (fun _ hk => hk.2) (.bool true)) (fun _ hk => hk.2) (.slice (some Af) Ae.length co13)) (fun _ h_ => h_.1)))); (case side2 => exact (Kd.R_reads' Aa.out).2.1); rintro e w14 ⟨rfl, hb⟩; replace Aa := Zz.mk (Kd.R_below (by (with_reducible repeat (first | apply Kd.R_alloc | apply Kd.R_drewN | apply Kd.R_drew)); exact (Kd.R_mono (Kd.R_far (p := ⟨Ad, 1, none⟩) (Kd.R_far (p := ⟨Ad, 0, none⟩) (Kd.R_types Aa.out Ab.out (by decide)) (fun _ hk => hk.2) (.bool true)) (fun _ hk => hk.2) (.slice (some Af) Ae.length co13)) (fun _ h_ => h_.1))) hb); replace Ab := xbb (g := Ad) (o := .cells #[.bool true, .slice (some Af) Ae.length co13] 25 (0, 0)) hb; replace HB := xst hb; (try clear hb); obtain ⟨hcz15_0, hcz15_1⟩ := xc2 Ab; have hfz15_0 := xf Ab 0; have hfz15_1 := xf Ab 1) | (go_at_call 11; (with_reducible refine (fd k true _ _ Ae Am _ ?side1 ?side2 A9.out).mono ?_); (case side1 => repeat (first | exact (Kd.R_reads' Aa.out).2.2 | (with_reducible refine Kd.C_alloc ?_ _) | (with_reducible refine Kd.C_drewN ?_ _) | (with_reducible refine Kd.C_drew ?_))); (case side2 => exact (Kd.R_reads' Aa.out).2.1); rintro e w16 ⟨rfl, hb⟩; replace Aa := Zz.mk (Kd.R_below (xkd Aa) hb); replace Ab := xbb (g := Ad) (o := .cells #[.bool true, .slice (some Af) Ae.length co13] 25 (0, 0)) hb; replace HB := xst hb; (try clear hb)))
       go_ret
       exact ⟨xre, xbl⟩
      ·
       rw [if_neg c8] at H
       have Au : (Aj.toList == ([120] : List UInt8)) = false := beq_eq_false_iff_ne.mpr c8
       have Av : (Aj.toList != ([120] : List UInt8)) = true := bne_iff_ne.mpr c8
       obtain rfl := Option.some.inj H
       go_enter Tryd.func7, Tryd.ntmps7
       go_wp2_with (first | ((with_reducible refine ae (f := 8) rfl ?_); refine xgl 4 Tryd.func8 #[.string (⟨#[47, 97, 37, 50, 70, 98, 47, 99, 46, 120]⟩ : ByteArray)] ?_; (with_reducible refine (bZ k (⟨#[47, 97, 37, 50, 70, 98, 47, 99, 46, 120]⟩ : ByteArray) true Ae Ai _ ?side1 A1.out).mono ?_); (case side1 => first | (with_reducible exact hG) | exact et hG xbl); rintro e w17 ⟨v185, rfl, ho0, hb⟩; refine ⟨_, rfl, ?_⟩; have Aa := Zz.mk (Kd.R_lower ho0 (aK xbl)); replace HB := xst hb; (try clear hb); (try clear ho0)) | ((with_reducible refine an (N := 1) rfl ?_); (try (refine cF (by rfl) ?_; dsimp only)); refine xev 1 #[.bool false, .slice none 0 0] 25 ?_; intro Ad hg w18 hbox hb; have Ab := Zz.mk (hbox); have Ag := xsz hg; have Ak := Ag; replace Aa := Zz.mk (Kd.R_below (xkd Aa) hb); replace HB := xst hb; clear hb hbox hg; obtain ⟨hcz19_0, hcz19_1⟩ := xc2 Ab; have hfz19_0 := xf Ab 0; have hfz19_1 := xf Ab 1; obtain ⟨Ao20, co20, eo20⟩ := Kd.R_slice Aa.out; subst eo20; have p189 : 0 ≤ (0 : Int) := (by omega); have q189 : 0 < (Ae.length : Int) := xod; obtain ⟨Af, e189, Ac⟩ := Kd.at_string (Kd.R_reads' Aa.out).2.2 0 p189 q189; cases e189; have Al : (0 < Ae.length) = True := eq_true (by omega); (try rw [show ((0 : Int)).toNat = 0 from rfl] at Ac); (try rw [Addr.add_zero'] at Ac); have hn189_0 : Af.block ≠ Ad := Kd.own_blk (Kd.R_ne Aa.out Ab.out (by decide)); have hn189_1 : Af.block ≠ Ad := Kd.own_blk (Kd.R_ne Aa.out Ab.out (by decide)); replace Ac := (fi (p := ⟨Ad, 0, none⟩) (by first | (rw [cq]; exact hn189_0) | (show (Addr.add _ _).block ≠ _; rw [cq]; exact hn189_0) | exact hn189_0) (.bool true)).trans Ac; replace Ac := (fi (p := ⟨Ad, 1, none⟩) (by first | (rw [cq]; exact hn189_1) | (show (Addr.add _ _).block ≠ _; rw [cq]; exact hn189_1) | exact hn189_1) (.slice (some Af) Ae.length co20)).trans Ac; clear hn189_0; clear hn189_1; replace p189 := eq_true p189; replace q189 := eq_true q189) | (go_at_call 21; (with_reducible refine (fh k true _ _ Ae Aj _ ?side1 ?side2 A7.out).mono ?_); (case side1 => refine (Kd.R_reads' (e := 9) (base := w.heap.size) (ok := fun k_ => True) (n := Ae.length) (c := co20) ?_).2.2; exact (by (with_reducible repeat (first | apply Kd.R_alloc | apply Kd.R_drewN | apply Kd.R_drew)); exact (Kd.R_mono (Kd.R_far (p := ⟨Ad, 1, none⟩) (Kd.R_far (p := ⟨Ad, 0, none⟩) (Kd.R_types Aa.out Ab.out (by decide)) (fun _ hk => hk.2) (.bool true)) (fun _ hk => hk.2) (.slice (some Af) Ae.length co20)) (fun _ h_ => h_.1)))); (case side2 => exact (Kd.R_reads' Aa.out).2.1); rintro e w21 ⟨rfl, hb⟩; replace Aa := Zz.mk (Kd.R_below (by (with_reducible repeat (first | apply Kd.R_alloc | apply Kd.R_drewN | apply Kd.R_drew)); exact (Kd.R_mono (Kd.R_far (p := ⟨Ad, 1, none⟩) (Kd.R_far (p := ⟨Ad, 0, none⟩) (Kd.R_types Aa.out Ab.out (by decide)) (fun _ hk => hk.2) (.bool true)) (fun _ hk => hk.2) (.slice (some Af) Ae.length co20)) (fun _ h_ => h_.1))) hb); replace Ab := xbb (g := Ad) (o := .cells #[.bool true, .slice (some Af) Ae.length co20] 25 (0, 0)) hb; replace HB := xst hb; (try clear hb)))
       go_ret
       exact ⟨xre, xbl⟩
     ·
      rw [if_neg c6] at H
      have As : ((aG ByteArray.empty Ae 0).toList == ([97, 47, 98] : List UInt8)) = false := beq_eq_false_iff_ne.mpr c6
      have At : ((aG ByteArray.empty Ae 0).toList != ([97, 47, 98] : List UInt8)) = true := bne_iff_ne.mpr c6
      obtain rfl := Option.some.inj H
      go_enter Tryd.func7, Tryd.ntmps7
      go_wp2_with (first | ((with_reducible refine ae (f := 8) rfl ?_); refine xgl 4 Tryd.func8 #[.string (⟨#[47, 97, 37, 50, 70, 98, 47, 99, 46, 120]⟩ : ByteArray)] ?_; (with_reducible refine (bZ k (⟨#[47, 97, 37, 50, 70, 98, 47, 99, 46, 120]⟩ : ByteArray) true Ae Ai _ ?side1 A1.out).mono ?_); (case side1 => first | (with_reducible exact hG) | exact et hG xbl); rintro e w22 ⟨v185, rfl, ho0, hb⟩; refine ⟨_, rfl, ?_⟩; have Aa := Zz.mk (Kd.R_lower ho0 (aK xbl)); replace HB := xst hb; (try clear hb); (try clear ho0)) | ((with_reducible refine an (N := 1) rfl ?_); (try (refine cF (by rfl) ?_; dsimp only)); refine xev 1 #[.bool false, .slice none 0 0] 25 ?_; intro Ad hg w23 hbox hb; have Ab := Zz.mk (hbox); have Ag := xsz hg; have Ak := Ag; replace Aa := Zz.mk (Kd.R_below (xkd Aa) hb); replace HB := xst hb; clear hb hbox hg; obtain ⟨hcz24_0, hcz24_1⟩ := xc2 Ab; have hfz24_0 := xf Ab 0; have hfz24_1 := xf Ab 1; obtain ⟨Ao25, co25, eo25⟩ := Kd.R_slice Aa.out; subst eo25; have p189 : 0 ≤ (0 : Int) := (by omega); have q189 : 0 < (Ae.length : Int) := xod; obtain ⟨Af, e189, Ac⟩ := Kd.at_string (Kd.R_reads' Aa.out).2.2 0 p189 q189; cases e189; have Al : (0 < Ae.length) = True := eq_true (by omega); (try rw [show ((0 : Int)).toNat = 0 from rfl] at Ac); (try rw [Addr.add_zero'] at Ac); have hn189_0 : Af.block ≠ Ad := Kd.own_blk (Kd.R_ne Aa.out Ab.out (by decide)); have hn189_1 : Af.block ≠ Ad := Kd.own_blk (Kd.R_ne Aa.out Ab.out (by decide)); replace Ac := (fi (p := ⟨Ad, 0, none⟩) (by first | (rw [cq]; exact hn189_0) | (show (Addr.add _ _).block ≠ _; rw [cq]; exact hn189_0) | exact hn189_0) (.bool true)).trans Ac; replace Ac := (fi (p := ⟨Ad, 1, none⟩) (by first | (rw [cq]; exact hn189_1) | (show (Addr.add _ _).block ≠ _; rw [cq]; exact hn189_1) | exact hn189_1) (.slice (some Af) Ae.length co25)).trans Ac; clear hn189_0; clear hn189_1; replace p189 := eq_true p189; replace q189 := eq_true q189))
      go_ret
      exact ⟨xre, xbl⟩
    ·
     rw [if_neg c5] at H
     exact absurd H (by simp)
   ·
    rw [if_neg c4] at H
    have Aq : ((Ae.length : Int) == 2) = false := beq_eq_false_iff_ne.mpr c4
    have Ar : ((Ae.length : Int) != 2) = true := bne_iff_ne.mpr c4
    obtain rfl := Option.some.inj H
    go_enter Tryd.func7, Tryd.ntmps7
    go_wp2_with (first | ((with_reducible refine ae (f := 8) rfl ?_); refine xgl 4 Tryd.func8 #[.string (⟨#[47, 97, 37, 50, 70, 98, 47, 99, 46, 120]⟩ : ByteArray)] ?_; (with_reducible refine (bZ k (⟨#[47, 97, 37, 50, 70, 98, 47, 99, 46, 120]⟩ : ByteArray) true Ae Ai _ ?side1 A1.out).mono ?_); (case side1 => first | (with_reducible exact hG) | exact et hG xbl); rintro e w26 ⟨v185, rfl, ho0, hb⟩; refine ⟨_, rfl, ?_⟩; have Aa := Zz.mk (Kd.R_lower ho0 (aK xbl)); replace HB := xst hb; (try clear hb); (try clear ho0)) | ((with_reducible refine an (N := 1) rfl ?_); (try (refine cF (by rfl) ?_; dsimp only)); refine xev 1 #[.bool false, .slice none 0 0] 25 ?_; intro Ad hg w27 hbox hb; have Ab := Zz.mk (hbox); have Ag := xsz hg; have Ak := Ag; replace Aa := Zz.mk (Kd.R_below (xkd Aa) hb); replace HB := xst hb; clear hb hbox hg; obtain ⟨hcz28_0, hcz28_1⟩ := xc2 Ab; have hfz28_0 := xf Ab 0; have hfz28_1 := xf Ab 1; obtain ⟨Ao29, co29, eo29⟩ := Kd.R_slice Aa.out; subst eo29))
    go_ret
    exact ⟨xre, xbl⟩
  ·
   replace c3 := Bool.eq_false_iff.mpr c3
   subst c3
   rw [if_neg (show ¬ (false = true) by decide)] at H
   obtain rfl := Option.some.inj H
   go_enter Tryd.func7, Tryd.ntmps7
   go_wp2_with (first | ((with_reducible refine ae (f := 8) rfl ?_); refine xgl 4 Tryd.func8 #[.string (⟨#[47, 97, 37, 50, 70, 98, 47, 99, 46, 120]⟩ : ByteArray)] ?_; (with_reducible refine (bZ k (⟨#[47, 97, 37, 50, 70, 98, 47, 99, 46, 120]⟩ : ByteArray) false Ae Ai _ ?side1 A1.out).mono ?_); (case side1 => first | (with_reducible exact hG) | exact et hG xbl); rintro e w30 ⟨v185, rfl, ho0, hb⟩; refine ⟨_, rfl, ?_⟩; have Aa := Zz.mk (Kd.R_lower ho0 (aK xbl)); replace HB := xst hb; (try clear hb); (try clear ho0)) | ((with_reducible refine an (N := 1) rfl ?_); (try (refine cF (by rfl) ?_; dsimp only)); refine xev 1 #[.bool false, .slice none 0 0] 25 ?_; intro Ad hg w31 hbox hb; have Ab := Zz.mk (hbox); have Ag := xsz hg; have Ak := Ag; replace Aa := Zz.mk (Kd.R_below (xkd Aa) hb); replace HB := xst hb; clear hb hbox hg; obtain ⟨hcz32_0, hcz32_1⟩ := xc2 Ab; have hfz32_0 := xf Ab 0; have hfz32_1 := xf Ab 1; obtain ⟨Ao33, co33, eo33⟩ := Kd.R_slice Aa.out; subst eo33))
   go_ret
   exact ⟨xre, xbl⟩
 ·
  rw [if_neg c2] at H
  have Ao : (Ai == 0) = false := beq_eq_false_iff_ne.mpr c2
  have Ap : (Ai != 0) = true := bne_iff_ne.mpr c2
  obtain rfl := Option.some.inj H
  go_enter Tryd.func7, Tryd.ntmps7
  go_wp2_with (first | ((with_reducible refine ae (f := 8) rfl ?_); refine xgl 4 Tryd.func8 #[.string (⟨#[47, 97, 37, 50, 70, 98, 47, 99, 46, 120]⟩ : ByteArray)] ?_; (with_reducible refine (bZ k (⟨#[47, 97, 37, 50, 70, 98, 47, 99, 46, 120]⟩ : ByteArray) An Ae Ai _ ?side1 A1.out).mono ?_); (case side1 => first | (with_reducible exact hG) | exact et hG xbl); rintro e w34 ⟨v185, rfl, ho0, hb⟩; refine ⟨_, rfl, ?_⟩; have Aa := Zz.mk (Kd.R_lower ho0 (aK xbl)); replace HB := xst hb; (try clear hb); (try clear ho0)) | ((with_reducible refine an (N := 1) rfl ?_); (try (refine cF (by rfl) ?_; dsimp only)); refine xev 1 #[.bool false, .slice none 0 0] 25 ?_; intro Ad hg w35 hbox hb; have Ab := Zz.mk (hbox); have Ag := xsz hg; have Ak := Ag; replace Aa := Zz.mk (Kd.R_below (xkd Aa) hb); replace HB := xst hb; clear hb hbox hg; obtain ⟨hcz36_0, hcz36_1⟩ := xc2 Ab; have hfz36_0 := xf Ab 0; have hfz36_1 := xf Ab 1; obtain ⟨Ao37, co37, eo37⟩ := Kd.R_slice Aa.out; subst eo37))
  go_ret
  exact ⟨xre, xbl⟩
def bf : Nat → Int → Int → Option (Int)
  | 0, _, _ => none
  | k + 1, x0, x3 => if x3 < 16 then (if 0 ≤ x3 then (if x0 = (bt (⟨#[48, 49, 50, 51, 52, 53, 54, 55, 56, 57, 65, 66, 67, 68, 69, 70]⟩ : ByteArray) x3) then (some x3) else (if x0 = (bt (⟨#[48, 49, 50, 51, 52, 53, 54, 55, 56, 57, 97, 98, 99, 100, 101, 102]⟩ : ByteArray) x3) then (some x3) else (bf k x0 (wrap64 (x3 + 1))))) else (none)) else (some (-1))
def bG (k : Nat) (a0 : Int) : Option (Int) := bf k a0 0
theorem ef : ∀ k, (∀ y0 y1, LeO (bf k y0 y1) (bf (k + 1) y0 y1))
  | 0 => fun _ _ r h => by simp [bf] at h
  | k + 1 => by
    have ih0 := ef k
    · intro y0 y1
      unfold bf
      exact xmo
theorem gr : ∀ a0 k, LeO (bG k a0) (bG (k + 1) a0) := by
  intro a0 k
  have ih0 := ef k
  unfold bG
  exact xmo
theorem ao (k : Nat) (a0 : Int) (r : Int) (w : World) (h : bG k a0 = some r) :
    Calls Tryd.prog 64 #[.int .u8 a0] w fun e w' => e = .returned (.int .i64 r) ∧ Drawn0 w w' := by
 have H : (bf k a0 0) = some r := h
 clear h
 have H' := Zz.mk H
 clear H
 go_enter Tryd.func64, Tryd.ntmps64
 go_wp2
 go_loopg [3] k (fun kq v3 w' => ∃ (Aa : Int), v3 = .int .i64 Aa ∧ Zz (bf kq a0 Aa = some r) ∧ Zz (kq ≤ k) ∧ Drawn0 w w')
 case atStart => exact ⟨(0), xrr, H', ⟨Nat.le_refl _⟩, xdr⟩
 case round =>
  clear H'
  obtain ⟨Aa, rfl, HA, HK1, ⟨m1, rfl⟩⟩ := hrel
  cases gk with
  | zero => exact absurd HA.out (by simp [bf])
  | succ k1 =>
   have H := HA.out
   clear HA
   simp only [bf] at H
   by_cases c2 : Aa < 16
   ·
    rw [if_pos c2] at H
    have Ac := decide_eq_true c2
    clear c2
    by_cases c3 : 0 ≤ Aa
    ·
     rw [if_pos c3] at H
     have Ai := decide_eq_true c3
     clear c3
     by_cases c5 : a0 = (bt (⟨#[48, 49, 50, 51, 52, 53, 54, 55, 56, 57, 65, 66, 67, 68, 69, 70]⟩ : ByteArray) Aa)
     ·
      rw [if_pos c5] at H
      have Ad : (a0 == (bt (⟨#[48, 49, 50, 51, 52, 53, 54, 55, 56, 57, 65, 66, 67, 68, 69, 70]⟩ : ByteArray) Aa)) = true := beq_iff_eq.mpr c5
      have Ae : (a0 != (bt (⟨#[48, 49, 50, 51, 52, 53, 54, 55, 56, 57, 65, 66, 67, 68, 69, 70]⟩ : ByteArray) Aa)) = false := bne_eq_false_iff_eq.mpr c5
      clear c5
      obtain rfl := Option.some.inj H
      have p4 : 0 ≤ (Aa : Int) := xod
      have q4 : Aa < (16 : Int) := xod
      have hx4 := ar (⟨#[48, 49, 50, 51, 52, 53, 54, 55, 56, 57, 65, 66, 67, 68, 69, 70]⟩ : ByteArray) Aa
      replace p4 := eq_true p4
      replace q4 := eq_true q4
      try (have Ab := q4; simp only [ByteArray.size_extract, Nat.min_self] at Ab)
      go_wp2
      go_ret
      exact ⟨xrr, xdr⟩
     ·
      rw [if_neg c5] at H
      have Ad : (a0 == (bt (⟨#[48, 49, 50, 51, 52, 53, 54, 55, 56, 57, 65, 66, 67, 68, 69, 70]⟩ : ByteArray) Aa)) = false := beq_eq_false_iff_ne.mpr c5
      have Ae : (a0 != (bt (⟨#[48, 49, 50, 51, 52, 53, 54, 55, 56, 57, 65, 66, 67, 68, 69, 70]⟩ : ByteArray) Aa)) = true := bne_iff_ne.mpr c5
      by_cases c7 : a0 = (bt (⟨#[48, 49, 50, 51, 52, 53, 54, 55, 56, 57, 97, 98, 99, 100, 101, 102]⟩ : ByteArray) Aa)
      ·
       rw [if_pos c7] at H
       have Af : (a0 == (bt (⟨#[48, 49, 50, 51, 52, 53, 54, 55, 56, 57, 97, 98, 99, 100, 101, 102]⟩ : ByteArray) Aa)) = true := beq_iff_eq.mpr c7
       have Ag : (a0 != (bt (⟨#[48, 49, 50, 51, 52, 53, 54, 55, 56, 57, 97, 98, 99, 100, 101, 102]⟩ : ByteArray) Aa)) = false := bne_eq_false_iff_eq.mpr c7
       clear c7
       obtain rfl := Option.some.inj H
       have p4 : 0 ≤ (Aa : Int) := xod
       have q4 : Aa < (16 : Int) := xod
       have hx4 := ar (⟨#[48, 49, 50, 51, 52, 53, 54, 55, 56, 57, 65, 66, 67, 68, 69, 70]⟩ : ByteArray) Aa
       replace p4 := eq_true p4
       replace q4 := eq_true q4
       try (have Ab := q4; simp only [ByteArray.size_extract, Nat.min_self] at Ab)
       have p6 : 0 ≤ (Aa : Int) := xod
       have q6 : Aa < (16 : Int) := xod
       have hx6 := ar (⟨#[48, 49, 50, 51, 52, 53, 54, 55, 56, 57, 97, 98, 99, 100, 101, 102]⟩ : ByteArray) Aa
       replace p6 := eq_true p6
       replace q6 := eq_true q6
       try (have Ah := q6; simp only [ByteArray.size_extract, Nat.min_self] at Ah)
       go_wp2
       go_ret
       exact ⟨xrr, xdr⟩
      ·
       rw [if_neg c7] at H
       have Af : (a0 == (bt (⟨#[48, 49, 50, 51, 52, 53, 54, 55, 56, 57, 97, 98, 99, 100, 101, 102]⟩ : ByteArray) Aa)) = false := beq_eq_false_iff_ne.mpr c7
       have Ag : (a0 != (bt (⟨#[48, 49, 50, 51, 52, 53, 54, 55, 56, 57, 97, 98, 99, 100, 101, 102]⟩ : ByteArray) Aa)) = true := bne_iff_ne.mpr c7
       have H' := Zz.mk H
       clear H
       have p4 : 0 ≤ (Aa : Int) := xod
       have q4 : Aa < (16 : Int) := xod
       have hx4 := ar (⟨#[48, 49, 50, 51, 52, 53, 54, 55, 56, 57, 65, 66, 67, 68, 69, 70]⟩ : ByteArray) Aa
       replace p4 := eq_true p4
       replace q4 := eq_true q4
       try (have Ab := q4; simp only [ByteArray.size_extract, Nat.min_self] at Ab)
       have p6 : 0 ≤ (Aa : Int) := xod
       have q6 : Aa < (16 : Int) := xod
       have hx6 := ar (⟨#[48, 49, 50, 51, 52, 53, 54, 55, 56, 57, 97, 98, 99, 100, 101, 102]⟩ : ByteArray) Aa
       replace p6 := eq_true p6
       replace q6 := eq_true q6
       try (have Ah := q6; simp only [ByteArray.size_extract, Nat.min_self] at Ah)
       go_wp2
       go_roundg k1
       case measure => have := HK1.out; omega
       case rel => exact ⟨(wrap64 (Aa + 1)), xrr, H', ⟨by have := HK1.out; omega⟩, xdr⟩
    ·
     rw [if_neg c3] at H
     exact absurd H (by simp)
   ·
    rw [if_neg c2] at H
    have Ac := decide_eq_false c2
    clear c2
    obtain rfl := Option.some.inj H
    go_wp2
    go_ret
    exact ⟨xrr, xdr⟩
def aR : Nat → ByteArray → Int → Bool → Option (Int)
  | 0, _, _, _ => none
  | k + 1, x0, x1, x27 => if x27 = true then (some (-1)) else (if 0 ≤ (wrap64 (x1 + 1)) then (if (wrap64 (x1 + 1)) < (x0.size : Int) then ((bG k (bt x0 (wrap64 (x1 + 1)))).bind fun t192 => (if 0 ≤ (wrap64 (x1 + 2)) then (if (wrap64 (x1 + 2)) < (x0.size : Int) then ((bG k (bt x0 (wrap64 (x1 + 2)))).bind fun t193 => (if t192 < 0 then (some (-1)) else (if t193 < 0 then (some (-1)) else (some (wrap64 ((wrap64 (16 * t192)) + t193)))))) else (none)) else (none))) else (none)) else (none))
def df (k : Nat) (a0 : ByteArray) (a1 : Int) : Option (Int) := if a1 < 0 then (aR k a0 a1 true) else (if a1 ≥ (a0.size : Int) then (aR k a0 a1 true) else (if (wrap64 ((a0.size : Int) - a1)) < 3 then (aR k a0 a1 true) else (if 0 ≤ a1 then (if a1 < (a0.size : Int) then (aR k a0 a1 ((bt a0 a1) != 37)) else (none)) else (none))))
theorem ce (k : Nat) (a0 : ByteArray) (a1 : Int) (r : Int) (w : World) (h : df k a0 a1 = some r) :
    Calls Tryd.prog 44 #[.string a0, .int .i64 a1] w fun e w' => e = .returned (.int .i64 r) ∧ Drawn0 w w' := by
 have H : (if a1 < 0 then (aR k a0 a1 true) else (if a1 ≥ (a0.size : Int) then (aR k a0 a1 true) else (if (wrap64 ((a0.size : Int) - a1)) < 3 then (aR k a0 a1 true) else (if 0 ≤ a1 then (if a1 < (a0.size : Int) then (aR k a0 a1 ((bt a0 a1) != 37)) else (none)) else (none))))) = some r := h
 clear h
 have Al := Zz.mk H
 clear H
 go_enter Tryd.func44, Tryd.ntmps44
 go_upto_region 1 with (fail)
 repeat (go_quiet (fail); go_upto_region 1 with (fail))
 go_cut [27] (fun v27 wc => ∃ (kq : Nat) (Ag : Bool), v27 = .bool Ag ∧ Zz (aR kq a0 a1 Ag = some r) ∧ Zz (kq ≤ k) ∧ Drawn0 w wc)
 case first =>
  have H := Al.out
  clear Al
  by_cases c4 : a1 < 0
  ·
   rw [if_pos c4] at H
   have Ah := decide_eq_true c4
   clear c4
   (first | rw [Ah] | (simp only [ap, aw]; rw [Ah]) | (rw [Am]; (try simp only [Bool.not_false, Bool.not_true])) | (rw [An]; (try simp only [Bool.not_false, Bool.not_true])) | skip)
   have H' := Zz.mk H
   clear H
   go_wp2
   repeat (go_quiet (fail); try go_wp2)
   go_meet
   case rel => exact ⟨_, (true), xrr, H', ⟨xom⟩, xdr⟩
  ·
   rw [if_neg c4] at H
   have Ah := decide_eq_false c4
   clear c4
   (first | rw [Ah] | (simp only [ap, aw]; rw [Ah]) | (rw [Am]; (try simp only [Bool.not_false, Bool.not_true])) | (rw [An]; (try simp only [Bool.not_false, Bool.not_true])) | skip)
   by_cases c5 : a1 ≥ (a0.size : Int)
   ·
    rw [if_pos c5] at H
    have Ao := decide_eq_true c5
    clear c5
    have H' := Zz.mk H
    clear H
    go_wp2
    repeat (go_quiet (fail); try go_wp2)
    go_meet
    case rel => exact ⟨_, (true), xrr, H', ⟨xom⟩, xdr⟩
   ·
    rw [if_neg c5] at H
    have Ao := decide_eq_false c5
    clear c5
    by_cases c6 : (wrap64 ((a0.size : Int) - a1)) < 3
    ·
     rw [if_pos c6] at H
     have Ap := decide_eq_true c6
     clear c6
     have H' := Zz.mk H
     clear H
     go_wp2
     repeat (go_quiet (fail); try go_wp2)
     go_meet
     case rel => exact ⟨_, (true), xrr, H', ⟨xom⟩, xdr⟩
    ·
     rw [if_neg c6] at H
     have Ap := decide_eq_false c6
     clear c6
     by_cases c7 : 0 ≤ a1
     ·
      rw [if_pos c7] at H
      have Aw := decide_eq_true c7
      clear c7
      by_cases c8 : a1 < (a0.size : Int)
      ·
       rw [if_pos c8] at H
       have Ax := decide_eq_true c8
       clear c8
       have H' := Zz.mk H
       clear H
       have p9 : 0 ≤ (a1 : Int) := xod
       have q9 : a1 < (a0.size : Int) := xod
       have hx9 := ar a0 a1
       replace p9 := eq_true p9
       replace q9 := eq_true q9
       try (have Ay := q9; simp only [ByteArray.size_extract, Nat.min_self] at Ay)
       go_wp2
       repeat (go_quiet (fail); try go_wp2)
       go_meet
       case rel => exact ⟨_, (((bt a0 a1) != 37)), xrr, H', ⟨xom⟩, xdr⟩
      ·
       rw [if_neg c8] at H
       exact absurd H (by simp)
     ·
      rw [if_neg c7] at H
      exact absurd H (by simp)
 case rest =>
  clear Al
  obtain ⟨kq, Ag, rfl, HA, HJ2, ⟨mc2, rfl⟩⟩ := hcut
  cases kq with
  | zero => exact absurd HA.out (by simp [aR])
  | succ kj2 =>
   have H := HA.out
   clear HA
   simp only [aR] at H
   by_cases c10 : Ag = true
   ·
    subst c10
    rw [if_pos rfl] at H
    obtain rfl := Option.some.inj H
    go_wp2
    repeat (go_quiet (fail); try go_wp2)
    go_ret
    exact ⟨xrr, xdr⟩
   ·
    replace c10 := Bool.eq_false_iff.mpr c10
    subst c10
    rw [if_neg (show ¬ (false = true) by decide)] at H
    obtain ⟨Ab, Af⟩ : ∃ j_ : Int, (wrap64 (a1 + 1)) = j_ := ⟨_, rfl⟩
    first | rw [Af] at H | simp only [Af] at H | skip
    have Aq : (IntKind.i64.wrap (a1 + 1)) = Ab := (ap _).trans Af
    by_cases c12 : 0 ≤ (Ab)
    ·
     rw [if_pos c12] at H
     have As := decide_eq_true c12
     clear c12
     by_cases c13 : (Ab) < (a0.size : Int)
     ·
      rw [if_pos c13] at H
      have At := decide_eq_true c13
      clear c13
      replace H := Option.bind_eq_some_iff.mp H
      obtain ⟨Ad, A150, H⟩ := H
      try dsimp only at H
      have A15 := Zz.mk A150
      clear A150
      obtain ⟨Aa, Ac⟩ : ∃ j_ : Int, (wrap64 (a1 + 2)) = j_ := ⟨_, rfl⟩
      first | rw [Ac] at H | simp only [Ac] at H | skip
      (try rw [Ac] at A15)
      have Ar : (IntKind.i64.wrap (a1 + 2)) = Aa := (ap _).trans Ac
      by_cases c17 : 0 ≤ (Aa)
      ·
       rw [if_pos c17] at H
       have Au := decide_eq_true c17
       clear c17
       by_cases c18 : (Aa) < (a0.size : Int)
       ·
        rw [if_pos c18] at H
        have Av := decide_eq_true c18
        clear c18
        replace H := Option.bind_eq_some_iff.mp H
        obtain ⟨Ae, A200, H⟩ := H
        try dsimp only at H
        have A20 := Zz.mk A200
        clear A200
        by_cases c21 : Ad < 0
        ·
         rw [if_pos c21] at H
         have Aj := decide_eq_true c21
         clear c21
         obtain rfl := Option.some.inj H
         have p14 : 0 ≤ ((Ab) : Int) := xod
         have q14 : (Ab) < (a0.size : Int) := xod
         have hx14 := ar a0 (Ab)
         replace p14 := eq_true p14
         replace q14 := eq_true q14
         try (have Ai := q14; simp only [ByteArray.size_extract, Nat.min_self] at Ai)
         go_wp2_with (first | (go_at_call 64; (with_reducible refine (ao kj2 (bt a0 (Ab)) Ad _ A15.out).mono ?_); rintro e w' ⟨rfl, ⟨nd, rfl⟩⟩; (try first | exact ⟨rfl, _, World.drewN_drewN _ _ _⟩ | exact ⟨rfl, _, Eq.trans (World.drewN_drewN _ _ _) (congrArg (World.drewN _) (Nat.add_assoc _ _ _))⟩); have p19 : 0 ≤ ((Aa) : Int) := xod; have q19 : (Aa) < (a0.size : Int) := xod; have hx19 := ar a0 (Aa); replace p19 := eq_true p19; replace q19 := eq_true q19) | (go_at_call 64; (with_reducible refine (ao kj2 (bt a0 (Aa)) Ae _ A20.out).mono ?_); rintro e w' ⟨rfl, ⟨nd, rfl⟩⟩; (try first | exact ⟨rfl, _, World.drewN_drewN _ _ _⟩ | exact ⟨rfl, _, Eq.trans (World.drewN_drewN _ _ _) (congrArg (World.drewN _) (Nat.add_assoc _ _ _))⟩)))
         repeat (go_quiet (first | (go_at_call 64; (with_reducible refine (ao kj2 (bt a0 (Ab)) Ad _ A15.out).mono ?_); rintro e w' ⟨rfl, ⟨nd, rfl⟩⟩; (try first | exact ⟨rfl, _, World.drewN_drewN _ _ _⟩ | exact ⟨rfl, _, Eq.trans (World.drewN_drewN _ _ _) (congrArg (World.drewN _) (Nat.add_assoc _ _ _))⟩); have p19 : 0 ≤ ((Aa) : Int) := xod; have q19 : (Aa) < (a0.size : Int) := xod; have hx19 := ar a0 (Aa); replace p19 := eq_true p19; replace q19 := eq_true q19) | (go_at_call 64; (with_reducible refine (ao kj2 (bt a0 (Aa)) Ae _ A20.out).mono ?_); rintro e w' ⟨rfl, ⟨nd, rfl⟩⟩; (try first | exact ⟨rfl, _, World.drewN_drewN _ _ _⟩ | exact ⟨rfl, _, Eq.trans (World.drewN_drewN _ _ _) (congrArg (World.drewN _) (Nat.add_assoc _ _ _))⟩))); try go_wp2_with (first | (go_at_call 64; (with_reducible refine (ao kj2 (bt a0 (Ab)) Ad _ A15.out).mono ?_); rintro e w' ⟨rfl, ⟨nd, rfl⟩⟩; (try first | exact ⟨rfl, _, World.drewN_drewN _ _ _⟩ | exact ⟨rfl, _, Eq.trans (World.drewN_drewN _ _ _) (congrArg (World.drewN _) (Nat.add_assoc _ _ _))⟩); have p19 : 0 ≤ ((Aa) : Int) := xod; have q19 : (Aa) < (a0.size : Int) := xod; have hx19 := ar a0 (Aa); replace p19 := eq_true p19; replace q19 := eq_true q19) | (go_at_call 64; (with_reducible refine (ao kj2 (bt a0 (Aa)) Ae _ A20.out).mono ?_); rintro e w' ⟨rfl, ⟨nd, rfl⟩⟩; (try first | exact ⟨rfl, _, World.drewN_drewN _ _ _⟩ | exact ⟨rfl, _, Eq.trans (World.drewN_drewN _ _ _) (congrArg (World.drewN _) (Nat.add_assoc _ _ _))⟩))))
         go_ret
         exact ⟨by first | rfl | (simp; done) | (simp only [← Af, ← Ac] <;> (first | rfl | simp)) | (simp [*]; done) | (simp [wrap64]; done), xdr⟩
        ·
         rw [if_neg c21] at H
         have Aj := decide_eq_false c21
         clear c21
         by_cases c22 : Ae < 0
         ·
          rw [if_pos c22] at H
          have Ak := decide_eq_true c22
          clear c22
          obtain rfl := Option.some.inj H
          have p14 : 0 ≤ ((Ab) : Int) := xod
          have q14 : (Ab) < (a0.size : Int) := xod
          have hx14 := ar a0 (Ab)
          replace p14 := eq_true p14
          replace q14 := eq_true q14
          try (have Ai := q14; simp only [ByteArray.size_extract, Nat.min_self] at Ai)
          go_wp2_with (first | (go_at_call 64; (with_reducible refine (ao kj2 (bt a0 (Ab)) Ad _ A15.out).mono ?_); rintro e w' ⟨rfl, ⟨nd, rfl⟩⟩; (try first | exact ⟨rfl, _, World.drewN_drewN _ _ _⟩ | exact ⟨rfl, _, Eq.trans (World.drewN_drewN _ _ _) (congrArg (World.drewN _) (Nat.add_assoc _ _ _))⟩); have p19 : 0 ≤ ((Aa) : Int) := xod; have q19 : (Aa) < (a0.size : Int) := xod; have hx19 := ar a0 (Aa); replace p19 := eq_true p19; replace q19 := eq_true q19) | (go_at_call 64; (with_reducible refine (ao kj2 (bt a0 (Aa)) Ae _ A20.out).mono ?_); rintro e w' ⟨rfl, ⟨nd, rfl⟩⟩; (try first | exact ⟨rfl, _, World.drewN_drewN _ _ _⟩ | exact ⟨rfl, _, Eq.trans (World.drewN_drewN _ _ _) (congrArg (World.drewN _) (Nat.add_assoc _ _ _))⟩)))
          repeat (go_quiet (first | (go_at_call 64; (with_reducible refine (ao kj2 (bt a0 (Ab)) Ad _ A15.out).mono ?_); rintro e w' ⟨rfl, ⟨nd, rfl⟩⟩; (try first | exact ⟨rfl, _, World.drewN_drewN _ _ _⟩ | exact ⟨rfl, _, Eq.trans (World.drewN_drewN _ _ _) (congrArg (World.drewN _) (Nat.add_assoc _ _ _))⟩); have p19 : 0 ≤ ((Aa) : Int) := xod; have q19 : (Aa) < (a0.size : Int) := xod; have hx19 := ar a0 (Aa); replace p19 := eq_true p19; replace q19 := eq_true q19) | (go_at_call 64; (with_reducible refine (ao kj2 (bt a0 (Aa)) Ae _ A20.out).mono ?_); rintro e w' ⟨rfl, ⟨nd, rfl⟩⟩; (try first | exact ⟨rfl, _, World.drewN_drewN _ _ _⟩ | exact ⟨rfl, _, Eq.trans (World.drewN_drewN _ _ _) (congrArg (World.drewN _) (Nat.add_assoc _ _ _))⟩))); try go_wp2_with (first | (go_at_call 64; (with_reducible refine (ao kj2 (bt a0 (Ab)) Ad _ A15.out).mono ?_); rintro e w' ⟨rfl, ⟨nd, rfl⟩⟩; (try first | exact ⟨rfl, _, World.drewN_drewN _ _ _⟩ | exact ⟨rfl, _, Eq.trans (World.drewN_drewN _ _ _) (congrArg (World.drewN _) (Nat.add_assoc _ _ _))⟩); have p19 : 0 ≤ ((Aa) : Int) := xod; have q19 : (Aa) < (a0.size : Int) := xod; have hx19 := ar a0 (Aa); replace p19 := eq_true p19; replace q19 := eq_true q19) | (go_at_call 64; (with_reducible refine (ao kj2 (bt a0 (Aa)) Ae _ A20.out).mono ?_); rintro e w' ⟨rfl, ⟨nd, rfl⟩⟩; (try first | exact ⟨rfl, _, World.drewN_drewN _ _ _⟩ | exact ⟨rfl, _, Eq.trans (World.drewN_drewN _ _ _) (congrArg (World.drewN _) (Nat.add_assoc _ _ _))⟩))))
          go_ret
          exact ⟨by first | rfl | (simp; done) | (simp only [← Af, ← Ac] <;> (first | rfl | simp)) | (simp [*]; done) | (simp [wrap64]; done), xdr⟩
         ·
          rw [if_neg c22] at H
          have Ak := decide_eq_false c22
          clear c22
          obtain rfl := Option.some.inj H
          have p14 : 0 ≤ ((Ab) : Int) := xod
          have q14 : (Ab) < (a0.size : Int) := xod
          have hx14 := ar a0 (Ab)
          replace p14 := eq_true p14
          replace q14 := eq_true q14
          try (have Ai := q14; simp only [ByteArray.size_extract, Nat.min_self] at Ai)
          go_wp2_with (first | (go_at_call 64; (with_reducible refine (ao kj2 (bt a0 (Ab)) Ad _ A15.out).mono ?_); rintro e w' ⟨rfl, ⟨nd, rfl⟩⟩; (try first | exact ⟨rfl, _, World.drewN_drewN _ _ _⟩ | exact ⟨rfl, _, Eq.trans (World.drewN_drewN _ _ _) (congrArg (World.drewN _) (Nat.add_assoc _ _ _))⟩); have p19 : 0 ≤ ((Aa) : Int) := xod; have q19 : (Aa) < (a0.size : Int) := xod; have hx19 := ar a0 (Aa); replace p19 := eq_true p19; replace q19 := eq_true q19) | (go_at_call 64; (with_reducible refine (ao kj2 (bt a0 (Aa)) Ae _ A20.out).mono ?_); rintro e w' ⟨rfl, ⟨nd, rfl⟩⟩; (try first | exact ⟨rfl, _, World.drewN_drewN _ _ _⟩ | exact ⟨rfl, _, Eq.trans (World.drewN_drewN _ _ _) (congrArg (World.drewN _) (Nat.add_assoc _ _ _))⟩)))
          repeat (go_quiet (first | (go_at_call 64; (with_reducible refine (ao kj2 (bt a0 (Ab)) Ad _ A15.out).mono ?_); rintro e w' ⟨rfl, ⟨nd, rfl⟩⟩; (try first | exact ⟨rfl, _, World.drewN_drewN _ _ _⟩ | exact ⟨rfl, _, Eq.trans (World.drewN_drewN _ _ _) (congrArg (World.drewN _) (Nat.add_assoc _ _ _))⟩); have p19 : 0 ≤ ((Aa) : Int) := xod; have q19 : (Aa) < (a0.size : Int) := xod; have hx19 := ar a0 (Aa); replace p19 := eq_true p19; replace q19 := eq_true q19) | (go_at_call 64; (with_reducible refine (ao kj2 (bt a0 (Aa)) Ae _ A20.out).mono ?_); rintro e w' ⟨rfl, ⟨nd, rfl⟩⟩; (try first | exact ⟨rfl, _, World.drewN_drewN _ _ _⟩ | exact ⟨rfl, _, Eq.trans (World.drewN_drewN _ _ _) (congrArg (World.drewN _) (Nat.add_assoc _ _ _))⟩))); try go_wp2_with (first | (go_at_call 64; (with_reducible refine (ao kj2 (bt a0 (Ab)) Ad _ A15.out).mono ?_); rintro e w' ⟨rfl, ⟨nd, rfl⟩⟩; (try first | exact ⟨rfl, _, World.drewN_drewN _ _ _⟩ | exact ⟨rfl, _, Eq.trans (World.drewN_drewN _ _ _) (congrArg (World.drewN _) (Nat.add_assoc _ _ _))⟩); have p19 : 0 ≤ ((Aa) : Int) := xod; have q19 : (Aa) < (a0.size : Int) := xod; have hx19 := ar a0 (Aa); replace p19 := eq_true p19; replace q19 := eq_true q19) | (go_at_call 64; (with_reducible refine (ao kj2 (bt a0 (Aa)) Ae _ A20.out).mono ?_); rintro e w' ⟨rfl, ⟨nd, rfl⟩⟩; (try first | exact ⟨rfl, _, World.drewN_drewN _ _ _⟩ | exact ⟨rfl, _, Eq.trans (World.drewN_drewN _ _ _) (congrArg (World.drewN _) (Nat.add_assoc _ _ _))⟩))))
          go_ret
          exact ⟨by first | rfl | (simp; done) | (simp only [← Af, ← Ac] <;> (first | rfl | simp)) | (simp [*]; done) | (simp [wrap64]; done), xdr⟩
       ·
        rw [if_neg c18] at H
        exact absurd H (by simp)
      ·
       rw [if_neg c17] at H
       exact absurd H (by simp)
     ·
      rw [if_neg c13] at H
      exact absurd H (by simp)
    ·
     rw [if_neg c12] at H
     exact absurd H (by simp)
def monikerref02_row_nums : List Int := [0, 127, 0, 0, 1, 194, 223, 128, 191, 2, 224, 224, 160, 191, 3, 225, 236, 128, 191, 3, 237, 237, 128, 159, 3, 238, 239, 128, 191, 3, 240, 240, 144, 191, 4, 241, 243, 128, 191, 4, 244, 244, 128, 143, 4]
def cu : Array Value := (monikerref02_row_nums.map (Value.int .i64)).toArray
def eG : Array Value := #[.int .i64 0, .int .i64 0, .int .i64 0, .int .i64 0, .int .i64 0]
def af (i j : Nat) : Int := monikerref02_row_nums.getD (i * 5 + j) 0
theorem cx {w : World} {g : Nat} (h : w.heap[g]? = some (.cells cu 108 (0, 0))) (i j : Nat) (hi : i < 9) (hj : j < 5) : w.cell? ⟨g, i * 5 + j, none⟩ = some (.int .i64 (af i j)) := by
  rw [cell_of_row w g _ _ _ _ h]
  unfold cu af
  have hl : i * 5 + j < monikerref02_row_nums.length := by show i * 5 + j < 45; omega
  simp [List.getElem?_eq_getElem hl, List.getD_eq_getElem?_getD]
theorem dO (w : World) (g i : Nat) (cs : Array Value) (h : i ≠ g) : (w.setRow g cs).heap[i]? = w.heap[i]? := by
  simp only [World.setRow, Array.getElem?_modify, if_neg (Ne.symm h)]
theorem gK {b : Nat} {w w2 : World} (h : Below b w w2) {g : Nat} (hg : b ≤ g) (cs : Array Value) : Below b w (w2.setRow g cs) :=
  h.trans ⟨rfl, rfl, rfl, by simp, fun k hk => dO _ _ _ _ (by omega)⟩
theorem hP (w : World) (a b c : Array Value) (s t : TypeId) :
    let w2 := ((w.alloc (.cells a s)).alloc (.cells b t)).setRow (w.heap.size + 1) c
    w2.heap[w.heap.size]? = some (.cells a s (0, 0)) ∧ w2.heap[w.heap.size + 1]? = some (.cells c t (0, 0)) ∧ Below w.heap.size w w2 := by
  intro w2
  refine ⟨?_, setRow_heap _ _ _ _ _ _ (heap_alloc2_new w _ _), ?_⟩
  · rw [dO _ _ _ _ (by omega)]
    exact heap_alloc2_old w _ _
  · exact gK (((Below.refl _ _).alloc (Nat.le_refl _) _).alloc (by simp) _) (by omega) _
set_option maxHeartbeats 2000000 in
theorem hO (i : Nat) (hi : i < 9) (w : World) : Calls Tryd.prog 65 #[.int .i64 i] w fun e w' => e = .returned (.agg #[.int .i64 (af i 0), .int .i64 (af i 1), .int .i64 (af i 2), .int .i64 (af i 3), .int .i64 (af i 4)]) ∧ Below w.heap.size w w' := by
  have hu5 := Tryd.underlying91
  have hu9 := Tryd.underlying108
  go_enter Tryd.func65, Tryd.ntmps65
  go_wp2_with (refine wpList_store_row rfl 108 (.tmp 3) (.tmp 13) rfl (w.heap.size + 1) cu (by as_aux_lemma => rfl) (by as_aux_lemma => rfl) 108 (Array.replicate 45 (.int .i64 0)) (by as_aux_lemma => exact heap_alloc2_new _ _ _) (by as_aux_lemma => kernel_rfl) (by as_aux_lemma => kernel_rfl) (by as_aux_lemma => kernel_rfl) ?_; have h2 := hP w eG (Array.replicate 45 (.int .i64 0)) cu 91 108; generalize hg : World.setRow _ _ _ = w2; have h3 : w2.heap[w.heap.size]? = some (.cells eG 91 (0, 0)) ∧ w2.heap[w.heap.size + 1]? = some (.cells cu 108 (0, 0)) ∧ Below w.heap.size w w2 := hg ▸ h2; clear hg h2; obtain ⟨b1, b2, b3⟩ := h3; have hB1 := Zz.mk b1; have hB2 := Zz.mk b2; have hB3 := Zz.mk b3; have c0 : w2.cell? ⟨w.heap.size + 1, i * 5, none⟩ = some (.int .i64 (af i 0)) := cx b2 i 0 hi (by omega); have c1 := cx b2 i 1 hi (by omega); have c2 := cx b2 i 2 hi (by omega); have c3 := cx b2 i 3 hi (by omega); have c4 := cx b2 i 4 hi (by omega); clear b1 b2 b3; have z0 : w2.cell? ⟨w.heap.size, 0, none⟩ = some (.int .i64 0) := (aX hB1.out 0).trans rfl; have z1 : w2.cell? ⟨w.heap.size, 1, none⟩ = some (.int .i64 0) := (aX hB1.out 1).trans rfl; have z2 : w2.cell? ⟨w.heap.size, 2, none⟩ = some (.int .i64 0) := (aX hB1.out 2).trans rfl; have z3 : w2.cell? ⟨w.heap.size, 3, none⟩ = some (.int .i64 0) := (aX hB1.out 3).trans rfl; have z4 : w2.cell? ⟨w.heap.size, 4, none⟩ = some (.int .i64 0) := (aX hB1.out 4).trans rfl; have f0 := xf hB1 0; have f1 := xf hB1 1; have f2 := xf hB1 2; have f3 := xf hB1 3; have f4 := xf hB1 4; generalize hg : w.heap.size = g at *; have hG := Zz.mk hg; clear hg)
  refine bodyPost_ret (results_cell_row rfl _ _ g 91 #[.int .i64 (af i 0), .int .i64 (af i 1), .int .i64 (af i 2), .int .i64 (af i 3), .int .i64 (af i 4)] (0, 0) _ rfl (by refine aj (cs := #[.int .i64 (af i 0), .int .i64 (af i 1), .int .i64 (af i 2), .int .i64 (af i 3), .int .i64 0]) ?_ 4 _ rfl; refine aj (cs := #[.int .i64 (af i 0), .int .i64 (af i 1), .int .i64 (af i 2), .int .i64 0, .int .i64 0]) ?_ 3 _ rfl; refine aj (cs := #[.int .i64 (af i 0), .int .i64 (af i 1), .int .i64 0, .int .i64 0, .int .i64 0]) ?_ 2 _ rfl; refine aj (cs := #[.int .i64 (af i 0), .int .i64 0, .int .i64 0, .int .i64 0, .int .i64 0]) ?_ 1 _ rfl; refine aj (cs := #[.int .i64 0, .int .i64 0, .int .i64 0, .int .i64 0, .int .i64 0]) ?_ 0 _ rfl; exact hB1.out) Tryd.underlying91 rfl (by kernel_rfl)) rfl ⟨rfl, ?_⟩
  have hB4 : Below w.heap.size w w2 := by rw [hG.out]; exact hB3.out
  repeat (first | exact hB4 | refine gz ?_ (Nat.le_of_eq hG.out))
def cW (a0 : Int) : Option (Int × Int × Int × Int × Int) := if 0 ≤ a0 ∧ a0 < 9 then some (af a0.toNat 0, af a0.toNat 1, af a0.toNat 2, af a0.toNat 3, af a0.toNat 4) else none
theorem eF (a0 : Int) (r1 : Int) (r2 : Int) (r3 : Int) (r4 : Int) (r5 : Int) (w : World) (h : cW a0 = some (r1, r2, r3, r4, r5)) :
    Calls Tryd.prog 65 #[.int .i64 a0] w fun e w' => e = .returned (.agg #[.int .i64 r1, .int .i64 r2, .int .i64 r3, .int .i64 r4, .int .i64 r5]) ∧ Below w.heap.size w w' := by
  unfold cW at h
  by_cases hc : 0 ≤ a0 ∧ a0 < 9
  · rw [if_pos hc] at h
    simp only [Option.some.injEq, Prod.mk.injEq] at h
    obtain ⟨rfl, rfl, rfl, rfl, rfl⟩ := h
    have := hO a0.toNat (by omega) w
    rw [Int.toNat_of_nonneg hc.1] at this
    exact this
  · rw [if_neg hc] at h; cases h
mutual
def aU : Nat → ByteArray → Int → Int → Int → Int → Int → Int → Option (Int)
  | 0, _, _, _, _, _, _, _ => none
  | k + 1, x0, x5, Ab, Ac, Ad, Ae, Aa => if x5 < (x0.size : Int) then (be k x0 x5 (decide (x5 < Aa)) Ab Ac Ad Ae Aa) else (be k x0 x5 false Ab Ac Ad Ae Aa)
def be : Nat → ByteArray → Int → Bool → Int → Int → Int → Int → Int → Option (Int)
  | 0, _, _, _, _, _, _, _, _ => none
  | k + 1, x0, x5, Af, Aa, Ab, Ac, Ad, Ae => if Af = true then (if x5 = 0 then (bY k x0 x5 Aa Ab Aa Ab Ac Ad Ae) else (bY k x0 x5 128 191 Aa Ab Ac Ad Ae)) else (some x5)
def bY : Nat → ByteArray → Int → Int → Int → Int → Int → Int → Int → Int → Option (Int)
  | 0, _, _, _, _, _, _, _, _, _ => none
  | k + 1, x0, x5, x6, x7, Ac, Ad, Aa, Ab, Ae => if x5 = 1 then (if 0 ≤ x5 then (if x5 < (x0.size : Int) then (if (wrap64 (bt x0 x5)) < Aa then (some x5) else (if (wrap64 (bt x0 x5)) > Ab then (some x5) else (aU k x0 (wrap64 (x5 + 1)) Ac Ad Aa Ab Ae))) else (none)) else (none)) else (if 0 ≤ x5 then (if x5 < (x0.size : Int) then (if (wrap64 (bt x0 x5)) < x6 then (some x5) else (if (wrap64 (bt x0 x5)) > x7 then (some x5) else (aU k x0 (wrap64 (x5 + 1)) Ac Ad Aa Ab Ae))) else (none)) else (none))
end
def dC (k : Nat) (a0 : ByteArray) (a1_0 : Int) (a1_1 : Int) (a1_2 : Int) (a1_3 : Int) (a1_4 : Int) : Option (Int) := aU k a0 0 a1_0 a1_1 a1_2 a1_3 a1_4
theorem eA (k : Nat) (a0 : ByteArray) (Ac : Int) (Ad : Int) (Ae : Int) (Af : Int) (Ag : Int) (r : Int) (w : World) (h : dC k a0 Ac Ad Ae Af Ag = some r) :
    Calls Tryd.prog 66 #[.string a0, .agg #[.int .i64 Ac, .int .i64 Ad, .int .i64 Ae, .int .i64 Af, .int .i64 Ag]] w fun e w' => e = .returned (.int .i64 r) ∧ Below w.heap.size w w' := by
 have hu91 := Tryd.underlying91
 have HB := Zz.mk (Below.refl w.heap.size w)
 have H : (aU k a0 0 Ac Ad Ae Af Ag) = some r := h
 clear h
 have H' := Zz.mk H
 clear H
 go_enter Tryd.func66, Tryd.ntmps66
 go_wp2_with (first | ((with_reducible refine an (N := 3) rfl ?_); refine xev 3 #[.int .i64 Ac, .int .i64 Ad, .int .i64 Ae, .int .i64 Af, .int .i64 Ag] 91 ?_; intro Ai hg w3 hbox hb; have Ab := Zz.mk (hbox); have Ar := xsz hg; have AF := Ar; replace HB := xst hb; clear hb hbox hg))
 go_loopg [5] k (fun kq v5 w' => ∃ (Aa : Int), v5 = .int .i64 Aa ∧ Zz (aU kq a0 Aa Ac Ad Ae Af Ag = some r) ∧ Zz (kq ≤ k) ∧ Zz (w'.heap[Ai]? = some (.cells #[.int .i64 Ac, .int .i64 Ad, .int .i64 Ae, .int .i64 Af, .int .i64 Ag] 91 (0, 0))) ∧ Zz (Below w.heap.size w w'))
 case atStart => exact ⟨(0), xrr, H', ⟨Nat.le_refl _⟩, ⟨xbk⟩, ⟨xbl⟩⟩
 case round =>
  clear H'
  obtain ⟨Aa, rfl, HA, HK1, Ab, HB⟩ := hrel
  cases gk with
  | zero => exact absurd HA.out (by simp [aU])
  | succ k1 =>
   have H := HA.out
   clear HA
   simp only [aU] at H
   have Ay := Zz.mk H
   clear H
   go_upto_region 2 with (fail)
   go_cut [17] (fun v17 wc => ∃ (kq : Nat) (Ah : Bool), v17 = .bool Ah ∧ Zz (be kq a0 Aa Ah Ac Ad Ae Af Ag = some r) ∧ Zz (kq ≤ k1) ∧ Zz (wc.heap[Ai]? = some (.cells #[.int .i64 Ac, .int .i64 Ad, .int .i64 Ae, .int .i64 Af, .int .i64 Ag] 91 (0, 0))) ∧ Zz (Below w.heap.size w wc))
   case first =>
    have H := Ay.out
    clear Ay
    by_cases c5 : Aa < (a0.size : Int)
    ·
     rw [if_pos c5] at H
     have Aj := decide_eq_true c5
     clear c5
     (first | rw [Aj] | (simp only [ap, aw]; rw [Aj]) | (rw [Az]; (try simp only [Bool.not_false, Bool.not_true])) | (rw [AA]; (try simp only [Bool.not_false, Bool.not_true])) | skip)
     have H' := Zz.mk H
     clear H
     obtain ⟨hcz6_0, hcz6_1, hcz6_2, hcz6_3, hcz6_4⟩ := xc5 Ab
     have hfz6_0 := xf Ab 0
     have hfz6_1 := xf Ab 1
     have hfz6_2 := xf Ab 2
     have hfz6_3 := xf Ab 3
     have hfz6_4 := xf Ab 4
     go_wp2
     go_meet
     case rel => exact ⟨_, (decide (Aa < Ag)), xrr, H', ⟨by have := HK1.out; first | omega | exact Nat.le_refl _⟩, ⟨xbk⟩, ⟨xbl⟩⟩
    ·
     rw [if_neg c5] at H
     have Aj := decide_eq_false c5
     clear c5
     (first | rw [Aj] | (simp only [ap, aw]; rw [Aj]) | (rw [Az]; (try simp only [Bool.not_false, Bool.not_true])) | (rw [AA]; (try simp only [Bool.not_false, Bool.not_true])) | skip)
     have H' := Zz.mk H
     clear H
     go_wp2
     go_meet
     case rel => exact ⟨_, (false), xrr, H', ⟨by have := HK1.out; first | omega | exact Nat.le_refl _⟩, ⟨xbk⟩, ⟨xbl⟩⟩
   case rest =>
    clear Ay
    obtain ⟨kq, Ah, rfl, HA, HJ3, Ab, HB⟩ := hcut
    cases kq with
    | zero => exact absurd HA.out (by simp [be])
    | succ kj3 =>
     have H := HA.out
     clear HA
     simp only [be] at H
     by_cases c7 : Ah = true
     ·
      subst c7
      rw [if_pos rfl] at H
      have AB := Zz.mk H
      clear H
      go_upto_if 19 with (fail)
      go_cut [6, 7] (fun v6 v7 wc => ∃ (kq : Nat) (An : Int) (Ao : Int), v6 = .int .i64 An ∧ v7 = .int .i64 Ao ∧ Zz (bY kq a0 Aa An Ao Ac Ad Ae Af Ag = some r) ∧ Zz (kq ≤ kj3) ∧ Zz (wc.heap[Ai]? = some (.cells #[.int .i64 Ac, .int .i64 Ad, .int .i64 Ae, .int .i64 Af, .int .i64 Ag] 91 (0, 0))) ∧ Zz (Below w.heap.size w wc))
      case first =>
       have H := AB.out
       clear AB
       by_cases c9 : Aa = 0
       ·
        rw [if_pos c9] at H
        have Ak : (Aa == 0) = true := beq_iff_eq.mpr c9
        have AC : (Aa != 0) = false := bne_eq_false_iff_eq.mpr c9
        clear c9
        (first | rw [Ak] | (simp only [ap, aw]; rw [Ak]) | (rw [AD]; (try simp only [Bool.not_false, Bool.not_true])) | (rw [AE]; (try simp only [Bool.not_false, Bool.not_true])) | skip)
        have H' := Zz.mk H
        clear H
        obtain ⟨hcz10_0, hcz10_1, hcz10_2, hcz10_3, hcz10_4⟩ := xc5 Ab
        have hfz10_0 := xf Ab 0
        have hfz10_1 := xf Ab 1
        have hfz10_2 := xf Ab 2
        have hfz10_3 := xf Ab 3
        have hfz10_4 := xf Ab 4
        go_wp2
        go_meet
        case rel => exact ⟨_, (Ac), (Ad), xrr, xrr, H', ⟨by have := HK1.out; have := HJ3.out; first | omega | exact Nat.le_refl _⟩, ⟨xbk⟩, ⟨xbl⟩⟩
       ·
        rw [if_neg c9] at H
        have Ak : (Aa == 0) = false := beq_eq_false_iff_ne.mpr c9
        have AC : (Aa != 0) = true := bne_iff_ne.mpr c9
        (first | rw [Ak] | (simp only [ap, aw]; rw [Ak]) | (rw [AD]; (try simp only [Bool.not_false, Bool.not_true])) | (rw [AE]; (try simp only [Bool.not_false, Bool.not_true])) | skip)
        have H' := Zz.mk H
        clear H
        go_wp2
        go_meet
        case rel => exact ⟨_, (128), (191), xrr, xrr, H', ⟨by have := HK1.out; have := HJ3.out; first | omega | exact Nat.le_refl _⟩, ⟨xbk⟩, ⟨xbl⟩⟩
      case rest =>
       clear AB
       obtain ⟨kq, An, Ao, rfl, rfl, HA, HJ7, Ab, HB⟩ := hcut
       cases kq with
       | zero => exact absurd HA.out (by simp [bY])
       | succ kj7 =>
        have H := HA.out
        clear HA
        simp only [bY] at H
        by_cases c11 : Aa = 1
        ·
         rw [if_pos c11] at H
         have As : (Aa == 1) = true := beq_iff_eq.mpr c11
         have At : (Aa != 1) = false := bne_eq_false_iff_eq.mpr c11
         clear c11
         by_cases c12 : 0 ≤ Aa
         ·
          rw [if_pos c12] at H
          have AG := decide_eq_true c12
          clear c12
          by_cases c13 : Aa < (a0.size : Int)
          ·
           rw [if_pos c13] at H
           have AH := decide_eq_true c13
           clear c13
           by_cases c15 : (wrap64 (bt a0 Aa)) < Ae
           ·
            rw [if_pos c15] at H
            have Au := decide_eq_true c15
            clear c15
            obtain rfl := Option.some.inj H
            obtain ⟨hcz16_0, hcz16_1, hcz16_2, hcz16_3, hcz16_4⟩ := xc5 Ab
            have hfz16_0 := xf Ab 0
            have hfz16_1 := xf Ab 1
            have hfz16_2 := xf Ab 2
            have hfz16_3 := xf Ab 3
            have hfz16_4 := xf Ab 4
            have p14 : 0 ≤ (Aa : Int) := xod
            have q14 : Aa < (a0.size : Int) := xod
            have hx14 := ar a0 Aa
            replace p14 := eq_true p14
            replace q14 := eq_true q14
            try (have Al := q14; simp only [ByteArray.size_extract, Nat.min_self] at Al)
            go_wp2
            go_ret
            exact ⟨xre, xbl⟩
           ·
            rw [if_neg c15] at H
            have Au := decide_eq_false c15
            clear c15
            by_cases c18 : (wrap64 (bt a0 Aa)) > Af
            ·
             rw [if_pos c18] at H
             have Av := decide_eq_true c18
             clear c18
             obtain rfl := Option.some.inj H
             obtain ⟨hcz19_0, hcz19_1, hcz19_2, hcz19_3, hcz19_4⟩ := xc5 Ab
             have hfz19_0 := xf Ab 0
             have hfz19_1 := xf Ab 1
             have hfz19_2 := xf Ab 2
             have hfz19_3 := xf Ab 3
             have hfz19_4 := xf Ab 4
             have p14 : 0 ≤ (Aa : Int) := xod
             have q14 : Aa < (a0.size : Int) := xod
             have hx14 := ar a0 Aa
             replace p14 := eq_true p14
             replace q14 := eq_true q14
             try (have Al := q14; simp only [ByteArray.size_extract, Nat.min_self] at Al)
             have p17 : 0 ≤ (Aa : Int) := xod
             have q17 : Aa < (a0.size : Int) := xod
             have hx17 := ar a0 Aa
             replace p17 := eq_true p17
             replace q17 := eq_true q17
             try (have Ap := q17; simp only [ByteArray.size_extract, Nat.min_self] at Ap)
             go_wp2
             go_ret
             exact ⟨xre, xbl⟩
            ·
             rw [if_neg c18] at H
             have Av := decide_eq_false c18
             clear c18
             have H' := Zz.mk H
             clear H
             obtain ⟨hcz20_0, hcz20_1, hcz20_2, hcz20_3, hcz20_4⟩ := xc5 Ab
             have hfz20_0 := xf Ab 0
             have hfz20_1 := xf Ab 1
             have hfz20_2 := xf Ab 2
             have hfz20_3 := xf Ab 3
             have hfz20_4 := xf Ab 4
             have p14 : 0 ≤ (Aa : Int) := xod
             have q14 : Aa < (a0.size : Int) := xod
             have hx14 := ar a0 Aa
             replace p14 := eq_true p14
             replace q14 := eq_true q14
             try (have Al := q14; simp only [ByteArray.size_extract, Nat.min_self] at Al)
             have p17 : 0 ≤ (Aa : Int) := xod
             have q17 : Aa < (a0.size : Int) := xod
             have hx17 := ar a0 Aa
             replace p17 := eq_true p17
             replace q17 := eq_true q17
             try (have Ap := q17; simp only [ByteArray.size_extract, Nat.min_self] at Ap)
             go_wp2
             go_roundg kj7
             case measure => have := HK1.out; have := HJ3.out; have := HJ7.out; omega
             case rel => exact ⟨(wrap64 (Aa + 1)), xrr, H', ⟨by have := HK1.out; have := HJ3.out; have := HJ7.out; omega⟩, ⟨xbk⟩, ⟨xbl⟩⟩
          ·
           rw [if_neg c13] at H
           exact absurd H (by simp)
         ·
          rw [if_neg c12] at H
          exact absurd H (by simp)
        ·
         rw [if_neg c11] at H
         have As : (Aa == 1) = false := beq_eq_false_iff_ne.mpr c11
         have At : (Aa != 1) = true := bne_iff_ne.mpr c11
         by_cases c21 : 0 ≤ Aa
         ·
          rw [if_pos c21] at H
          have AI := decide_eq_true c21
          clear c21
          by_cases c22 : Aa < (a0.size : Int)
          ·
           rw [if_pos c22] at H
           have AJ := decide_eq_true c22
           clear c22
           by_cases c24 : (wrap64 (bt a0 Aa)) < An
           ·
            rw [if_pos c24] at H
            have Aw := decide_eq_true c24
            clear c24
            obtain rfl := Option.some.inj H
            have p23 : 0 ≤ (Aa : Int) := xod
            have q23 : Aa < (a0.size : Int) := xod
            have hx23 := ar a0 Aa
            replace p23 := eq_true p23
            replace q23 := eq_true q23
            try (have Am := q23; simp only [ByteArray.size_extract, Nat.min_self] at Am)
            go_wp2
            go_ret
            exact ⟨xre, xbl⟩
           ·
            rw [if_neg c24] at H
            have Aw := decide_eq_false c24
            clear c24
            by_cases c26 : (wrap64 (bt a0 Aa)) > Ao
            ·
             rw [if_pos c26] at H
             have Ax := decide_eq_true c26
             clear c26
             obtain rfl := Option.some.inj H
             have p23 : 0 ≤ (Aa : Int) := xod
             have q23 : Aa < (a0.size : Int) := xod
             have hx23 := ar a0 Aa
             replace p23 := eq_true p23
             replace q23 := eq_true q23
             try (have Am := q23; simp only [ByteArray.size_extract, Nat.min_self] at Am)
             have p25 : 0 ≤ (Aa : Int) := xod
             have q25 : Aa < (a0.size : Int) := xod
             have hx25 := ar a0 Aa
             replace p25 := eq_true p25
             replace q25 := eq_true q25
             try (have Aq := q25; simp only [ByteArray.size_extract, Nat.min_self] at Aq)
             go_wp2
             go_ret
             exact ⟨xre, xbl⟩
            ·
             rw [if_neg c26] at H
             have Ax := decide_eq_false c26
             clear c26
             have H' := Zz.mk H
             clear H
             have p23 : 0 ≤ (Aa : Int) := xod
             have q23 : Aa < (a0.size : Int) := xod
             have hx23 := ar a0 Aa
             replace p23 := eq_true p23
             replace q23 := eq_true q23
             try (have Am := q23; simp only [ByteArray.size_extract, Nat.min_self] at Am)
             have p25 : 0 ≤ (Aa : Int) := xod
             have q25 : Aa < (a0.size : Int) := xod
             have hx25 := ar a0 Aa
             replace p25 := eq_true p25
             replace q25 := eq_true q25
             try (have Aq := q25; simp only [ByteArray.size_extract, Nat.min_self] at Aq)
             go_wp2
             go_roundg kj7
             case measure => have := HK1.out; have := HJ3.out; have := HJ7.out; omega
             case rel => exact ⟨(wrap64 (Aa + 1)), xrr, H', ⟨by have := HK1.out; have := HJ3.out; have := HJ7.out; omega⟩, ⟨xbk⟩, ⟨xbl⟩⟩
          ·
           rw [if_neg c22] at H
           exact absurd H (by simp)
         ·
          rw [if_neg c21] at H
          exact absurd H (by simp)
     ·
      replace c7 := Bool.eq_false_iff.mpr c7
      subst c7
      rw [if_neg (show ¬ (false = true) by decide)] at H
      obtain rfl := Option.some.inj H
      go_wp2
      go_ret
      exact ⟨xre, xbl⟩
mutual
def bm : Nat → ByteArray → Int → Option (Int)
  | 0, _, _ => none
  | k + 1, x0, x3 => if (x0.size : Int) = 4 then (if 0 < (x0.size : Int) then (bQ k x0 (wrap64 ((wrap64 (bt x0 0)) - 240))) else (none)) else (bQ k x0 x3)
def bQ : Nat → ByteArray → Int → Option (Int)
  | 0, _, _ => none
  | k + 1, x0, x3 => bn k x0 x3 1
def bn : Nat → ByteArray → Int → Int → Option (Int)
  | 0, _, _, _ => none
  | k + 1, x0, x3, x4 => if x4 < (x0.size : Int) then (if 0 ≤ x4 then (bn k x0 (wrap64 ((wrap64 ((wrap64 (x3 * 64)) + (wrap64 (bt x0 x4)))) - 128)) (wrap64 (x4 + 1))) else (none)) else (some x3)
end
def cG (k : Nat) (a0 : ByteArray) : Option (Int) := if (a0.size : Int) = 1 then (if 0 < (a0.size : Int) then (some (wrap64 (bt a0 0))) else (none)) else (if 0 < (a0.size : Int) then (if (a0.size : Int) = 3 then (bm k a0 (wrap64 ((wrap64 (bt a0 0)) - 224))) else (bm k a0 (wrap64 ((wrap64 (bt a0 0)) - 192)))) else (none))
theorem gb (k : Nat) (a0 : ByteArray) (r : Int) (w : World) (h : cG k a0 = some r) :
    Calls Tryd.prog 67 #[.string a0] w fun e w' => e = .returned (.int .i64 r) ∧ Drawn0 w w' := by
 have H : (if (a0.size : Int) = 1 then (if 0 < (a0.size : Int) then (some (wrap64 (bt a0 0))) else (none)) else (if 0 < (a0.size : Int) then (if (a0.size : Int) = 3 then (bm k a0 (wrap64 ((wrap64 (bt a0 0)) - 224))) else (bm k a0 (wrap64 ((wrap64 (bt a0 0)) - 192)))) else (none))) = some r := h
 clear h
 by_cases c2 : (a0.size : Int) = 1
 ·
  rw [if_pos c2] at H
  have Ah : ((a0.size : Int) == 1) = true := beq_iff_eq.mpr c2
  have Ai : ((a0.size : Int) != 1) = false := bne_eq_false_iff_eq.mpr c2
  clear c2
  by_cases c3 : 0 < (a0.size : Int)
  ·
   rw [if_pos c3] at H
   have Ay := decide_eq_true c3
   have Az : decide (0 < a0.size) = true := decide_eq_true (by omega)
   clear c3
   obtain rfl := Option.some.inj H
   have p4 : 0 ≤ (0 : Int) := (by omega)
   have q4 : 0 < a0.size := (by have : (0 : Int) < (a0.size : Int) := xod; omega)
   have hx4 : ∀ h : 0 < a0.size, ((a0[0]'h).toNat : Int) = bt a0 0 := ar a0 0
   clear p4
   have AF : (0 < (a0.size : Int)) = True := eq_true (xod)
   replace q4 := eq_true q4
   try (have AA := q4; simp only [ByteArray.size_extract, Nat.min_self] at AA)
   go_enter Tryd.func67, Tryd.ntmps67
   go_wp2
   go_ret
   exact ⟨xrr, xdr⟩
  ·
   rw [if_neg c3] at H
   exact absurd H (by simp)
 ·
  rw [if_neg c2] at H
  have Ah : ((a0.size : Int) == 1) = false := beq_eq_false_iff_ne.mpr c2
  have Ai : ((a0.size : Int) != 1) = true := bne_iff_ne.mpr c2
  by_cases c5 : 0 < (a0.size : Int)
  ·
   rw [if_pos c5] at H
   have An := decide_eq_true c5
   have Ao : decide (0 < a0.size) = true := decide_eq_true (by omega)
   clear c5
   have Ap := Zz.mk H
   clear H
   have p6 : 0 ≤ (0 : Int) := (by omega)
   have q6 : 0 < a0.size := (by have : (0 : Int) < (a0.size : Int) := xod; omega)
   have hx6 : ∀ h : 0 < a0.size, ((a0[0]'h).toNat : Int) = bt a0 0 := ar a0 0
   clear p6
   have AB : (0 < (a0.size : Int)) = True := eq_true (xod)
   replace q6 := eq_true q6
   try (have AC := q6; simp only [ByteArray.size_extract, Nat.min_self] at AC)
   go_enter Tryd.func67, Tryd.ntmps67
   go_upto_if 17 with (fail)
   go_cut [3] (fun v3 wc => ∃ (kq : Nat) (Ad : Int), v3 = .int .i64 Ad ∧ Zz (bm kq a0 Ad = some r) ∧ Zz (kq ≤ k) ∧ Drawn0 w wc)
   case first =>
    have H := Ap.out
    clear Ap
    by_cases c8 : (a0.size : Int) = 3
    ·
     rw [if_pos c8] at H
     have Ac : ((a0.size : Int) == 3) = true := beq_iff_eq.mpr c8
     have Aq : ((a0.size : Int) != 3) = false := bne_eq_false_iff_eq.mpr c8
     clear c8
     (first | rw [Ac] | (simp only [ap, aw]; rw [Ac]) | (rw [Ar]; (try simp only [Bool.not_false, Bool.not_true])) | (rw [As]; (try simp only [Bool.not_false, Bool.not_true])) | skip)
     have H' := Zz.mk H
     clear H
     have p9 : 0 ≤ (0 : Int) := (by omega)
     have q9 : 0 < a0.size := (by have : (0 : Int) < (a0.size : Int) := xod; omega)
     have hx9 : ∀ h : 0 < a0.size, ((a0[0]'h).toNat : Int) = bt a0 0 := ar a0 0
     clear p9
     have AG : (0 < (a0.size : Int)) = True := eq_true (xod)
     replace q9 := eq_true q9
     try (have AD := q9; simp only [ByteArray.size_extract, Nat.min_self] at AD)
     go_wp2
     go_meet
     case rel => exact ⟨_, (wrap64 ((wrap64 (bt a0 0)) - 224)), xrr, H', ⟨xom⟩, xdr⟩
    ·
     rw [if_neg c8] at H
     have Ac : ((a0.size : Int) == 3) = false := beq_eq_false_iff_ne.mpr c8
     have Aq : ((a0.size : Int) != 3) = true := bne_iff_ne.mpr c8
     (first | rw [Ac] | (simp only [ap, aw]; rw [Ac]) | (rw [Ar]; (try simp only [Bool.not_false, Bool.not_true])) | (rw [As]; (try simp only [Bool.not_false, Bool.not_true])) | skip)
     have H' := Zz.mk H
     clear H
     go_wp2
     go_meet
     case rel => exact ⟨_, (wrap64 ((wrap64 (bt a0 0)) - 192)), xrr, H', ⟨xom⟩, xdr⟩
   case rest =>
    clear Ap
    clear Ah Ai An Ao q6 hx6 AB
    obtain ⟨kq, Ad, rfl, HA, HJ6, ⟨mc6, rfl⟩⟩ := hcut
    cases kq with
    | zero => exact absurd HA.out (by simp [bm])
    | succ kj6 =>
     have H := HA.out
     clear HA
     simp only [bm] at H
     have Ag := Zz.mk H
     clear H
     go_upto_if 24 with (fail)
     go_cut [3] (fun v3 wc => ∃ (kq : Nat) (Ae : Int), v3 = .int .i64 Ae ∧ Zz (bQ kq a0 Ae = some r) ∧ Zz (kq ≤ kj6) ∧ Drawn0 w wc)
     case first =>
      have H := Ag.out
      clear Ag
      by_cases c11 : (a0.size : Int) = 4
      ·
       rw [if_pos c11] at H
       have Ab : ((a0.size : Int) == 4) = true := beq_iff_eq.mpr c11
       have Aj : ((a0.size : Int) != 4) = false := bne_eq_false_iff_eq.mpr c11
       clear c11
       (first | rw [Ab] | (simp only [ap, aw]; rw [Ab]) | (rw [Ak]; (try simp only [Bool.not_false, Bool.not_true])) | (rw [Al]; (try simp only [Bool.not_false, Bool.not_true])) | skip)
       by_cases c12 : 0 < (a0.size : Int)
       ·
        rw [if_pos c12] at H
        have Av := decide_eq_true c12
        have Aw : decide (0 < a0.size) = true := decide_eq_true (by omega)
        clear c12
        have H' := Zz.mk H
        clear H
        have p13 : 0 ≤ (0 : Int) := (by omega)
        have q13 : 0 < a0.size := (by have : (0 : Int) < (a0.size : Int) := xod; omega)
        have hx13 : ∀ h : 0 < a0.size, ((a0[0]'h).toNat : Int) = bt a0 0 := ar a0 0
        clear p13
        have AE : (0 < (a0.size : Int)) = True := eq_true (xod)
        replace q13 := eq_true q13
        try (have At := q13; simp only [ByteArray.size_extract, Nat.min_self] at At)
        go_wp2
        go_meet
        case rel => exact ⟨_, (wrap64 ((wrap64 (bt a0 0)) - 240)), xrr, H', ⟨by have := HJ6.out; first | omega | exact Nat.le_refl _⟩, xdr⟩
       ·
        rw [if_neg c12] at H
        exact absurd H (by simp)
      ·
       rw [if_neg c11] at H
       have Ab : ((a0.size : Int) == 4) = false := beq_eq_false_iff_ne.mpr c11
       have Aj : ((a0.size : Int) != 4) = true := bne_iff_ne.mpr c11
       (first | rw [Ab] | (simp only [ap, aw]; rw [Ab]) | (rw [Ak]; (try simp only [Bool.not_false, Bool.not_true])) | (rw [Al]; (try simp only [Bool.not_false, Bool.not_true])) | skip)
       have H' := Zz.mk H
       clear H
       go_wp2
       go_meet
       case rel => exact ⟨_, (Ad), xrr, H', ⟨by have := HJ6.out; first | omega | exact Nat.le_refl _⟩, xdr⟩
     case rest =>
      clear Ag
      obtain ⟨kq, Ae, rfl, HA, HJ9, ⟨mc9, rfl⟩⟩ := hcut
      cases kq with
      | zero => exact absurd HA.out (by simp [bQ])
      | succ kj9 =>
       have H := HA.out
       clear HA
       simp only [bQ] at H
       have H' := Zz.mk H
       clear H
       go_wp2
       go_loopg [3, 4] kj9 (fun kq v3 v4 w' => ∃ (Af : Int) (Aa : Int), v3 = .int .i64 Af ∧ v4 = .int .i64 Aa ∧ Zz (bn kq a0 Af Aa = some r) ∧ Zz (kq ≤ kj9) ∧ Drawn0 w w')
       case atStart => exact ⟨(Ae), (1), xrr, xrr, H', ⟨Nat.le_refl _⟩, xdr⟩
       case round =>
        clear H'
        obtain ⟨Af, Aa, rfl, rfl, HA, HK3, ⟨m3, rfl⟩⟩ := hrel
        cases gk with
        | zero => exact absurd HA.out (by simp [bn])
        | succ k3 =>
         have H := HA.out
         clear HA
         simp only [bn] at H
         by_cases c14 : Aa < (a0.size : Int)
         ·
          rw [if_pos c14] at H
          have Am := decide_eq_true c14
          clear c14
          by_cases c15 : 0 ≤ Aa
          ·
           rw [if_pos c15] at H
           have Ax := decide_eq_true c15
           clear c15
           have H' := Zz.mk H
           clear H
           have p16 : 0 ≤ (Aa : Int) := xod
           have q16 : Aa < (a0.size : Int) := xod
           have hx16 := ar a0 Aa
           replace p16 := eq_true p16
           replace q16 := eq_true q16
           try (have Au := q16; simp only [ByteArray.size_extract, Nat.min_self] at Au)
           go_wp2
           go_roundg k3
           case measure => have := HJ6.out; have := HJ9.out; have := HK3.out; omega
           case rel => exact ⟨(wrap64 ((wrap64 ((wrap64 (Af * 64)) + (wrap64 (bt a0 Aa)))) - 128)), (wrap64 (Aa + 1)), xrr, xrr, H', ⟨by have := HJ6.out; have := HJ9.out; have := HK3.out; omega⟩, xdr⟩
          ·
           rw [if_neg c15] at H
           exact absurd H (by simp)
         ·
          rw [if_neg c14] at H
          have Am := decide_eq_false c14
          clear c14
          obtain rfl := Option.some.inj H
          go_wp2
          go_ret
          exact ⟨xrr, xdr⟩
  ·
   rw [if_neg c5] at H
   exact absurd H (by simp)
def ay : Nat → ByteArray → Int → Int → Option (Int × Int × Bool)
  | 0, _, _, _ => none
  | k + 1, x0, x3, x4 => if x4 < 9 then ((cW x4).bind fun Aa => ((dC k x0 Aa.1 Aa.2.1 Aa.2.2.1 Aa.2.2.2.1 Aa.2.2.2.2).bind fun Ab => (if Ab = Aa.2.2.2.2 then (if 0 ≤ Ab then (if Ab ≤ (x0.size : Int) then ((cG k (x0.extract 0 (Ab : Int).toNat)).bind fun Ac => (some (Ac, Ab, true))) else (none)) else (none)) else (ay k x0 (mx x3 Ab) (wrap64 (x4 + 1)))))) else (some (0, x3, false))
def da (k : Nat) (a0 : ByteArray) : Option (Int × Int × Bool) := if a0.toList = ([] : List UInt8) then (some (0, 0, false)) else (ay k a0 1 0)
theorem dj (k : Nat) (a0 : ByteArray) (r1 : Int) (r2 : Int) (r3 : Bool) (w : World) (h : da k a0 = some (r1, r2, r3)) :
    Calls Tryd.prog 45 #[.string a0] w fun e w' => e = .returned (.agg #[.int .i64 r1, .int .i64 r2, .bool r3]) ∧ Below w.heap.size w w' := by
 have hu64 := Tryd.underlying64
 have hu91 := Tryd.underlying91
 have HB := Zz.mk (Below.refl w.heap.size w)
 have H : (if a0.toList = ([] : List UInt8) then (some (0, 0, false)) else (ay k a0 1 0)) = some (r1, r2, r3) := h
 clear h
 by_cases c2 : a0.toList = ([] : List UInt8)
 ·
  rw [if_pos c2] at H
  have Aw : (a0.toList == ([] : List UInt8)) = true := beq_iff_eq.mpr c2
  have Ax : (a0.toList != ([] : List UInt8)) = false := bne_eq_false_iff_eq.mpr c2
  (try (have AD : a0.toList.isEmpty = true := by simpa using c2))
  clear c2
  simp only [Option.some.injEq, Prod.mk.injEq] at H
  obtain ⟨rfl, rfl, rfl⟩ := H
  go_enter Tryd.func45, Tryd.ntmps45
  go_wp2_with (first | ((with_reducible refine an (N := 2) rfl ?_); refine xev 2 #[.int .i64 0, .int .i64 0, .bool false] 64 ?_; intro Af hg w3 hbox hb; have Ae := Zz.mk (hbox); have At := xsz hg; have Ay := At; replace HB := xst hb; clear hb hbox hg; obtain ⟨hcz4_0, hcz4_1, hcz4_2⟩ := xc3 Ae; have hfz4_0 := xf Ae 0; have hfz4_1 := xf Ae 1; have hfz4_2 := xf Ae 2))
  refine bodyPost_ret (results_cell_row rfl _ _ Af 64 #[.int .i64 0, .int .i64 0, .bool false] (0, 0) _ rfl xbk Tryd.underlying64 rfl (by kernel_rfl)) rfl ?_
  exact ⟨xre, xbl⟩
 ·
  rw [if_neg c2] at H
  have Aw : (a0.toList == ([] : List UInt8)) = false := beq_eq_false_iff_ne.mpr c2
  have Ax : (a0.toList != ([] : List UInt8)) = true := bne_iff_ne.mpr c2
  (try (have AD : a0.toList.isEmpty = false := by simpa using c2))
  have H' := Zz.mk H
  clear H
  go_enter Tryd.func45, Tryd.ntmps45
  go_wp2_with (first | ((with_reducible refine an (N := 2) rfl ?_); refine xev 2 #[.int .i64 0, .int .i64 0, .bool false] 64 ?_; intro Af hg w5 hbox hb; have Ae := Zz.mk (hbox); have At := xsz hg; have Ay := At; replace HB := xst hb; clear hb hbox hg))
  go_loopg [3, 4] k (fun kq v3 v4 w' => ∃ (Ar : Int) (Am : Int) (Ab : Int) (Ac : Int) (Ad : Bool), v3 = .int .i64 Ar ∧ v4 = .int .i64 Am ∧ Zz (ay kq a0 Ar Am = some (r1, r2, r3)) ∧ Zz (kq ≤ k) ∧ Zz (w'.heap[Af]? = some (.cells #[.int .i64 Ab, .int .i64 Ac, .bool Ad] 64 (0, 0))) ∧ Zz (Below w.heap.size w w'))
  case atStart => exact ⟨(1), (0), (0), (0), (false), xrr, xrr, H', ⟨Nat.le_refl _⟩, ⟨xbk⟩, ⟨xbl⟩⟩
  case round =>
   clear H'
   clear Aw Ax
   obtain ⟨Ar, Am, Ab, Ac, Ad, rfl, rfl, HA, HK1, Ae, HB⟩ := hrel
   cases gk with
   | zero => exact absurd HA.out (by simp [ay])
   | succ k1 =>
    have H := HA.out
    clear HA
    simp only [ay] at H
    by_cases c6 : Am < 9
    ·
     rw [if_pos c6] at H
     have AE := decide_eq_true c6
     clear c6
     replace H := Option.bind_eq_some_iff.mp H
     obtain ⟨⟨An, Ao, Ap, Aq, Ag⟩, A70, H⟩ := H
     try dsimp only at H
     have A7 := Zz.mk A70
     clear A70
     replace H := Option.bind_eq_some_iff.mp H
     obtain ⟨Ah, A80, H⟩ := H
     try dsimp only at H
     have A8 := Zz.mk A80
     clear A80
     by_cases c9 : Ah = Ag
     ·
      rw [if_pos c9] at H
      have AF : (Ah == Ag) = true := beq_iff_eq.mpr c9
      have AG : (Ah != Ag) = false := bne_eq_false_iff_eq.mpr c9
      clear c9
      by_cases c10 : 0 ≤ Ah
      ·
       rw [if_pos c10] at H
       have AH := eq_true c10
       have AI := decide_eq_true c10
       clear c10
       by_cases c11 : Ah ≤ (a0.size : Int)
       ·
        rw [if_pos c11] at H
        have AJ := eq_true c11
        have AK := decide_eq_true c11
        clear c11
        obtain ⟨Az, Ak⟩ : ∃ j_ : ByteArray, (a0.extract 0 (Ah : Int).toNat) = j_ := ⟨_, rfl⟩
        try (have Av := Ak; simp only [Int.toNat_natCast] at Av)
        first | rw [Ak] at H | simp only [Ak] at H | skip
        (try rw [Ak] at A7)
        (try rw [Ak] at A8)
        replace H := Option.bind_eq_some_iff.mp H
        obtain ⟨AA, A130, H⟩ := H
        try dsimp only at H
        have A13 := Zz.mk A130
        clear A130
        simp only [Option.some.injEq, Prod.mk.injEq] at H
        obtain ⟨rfl, rfl, rfl⟩ := H
        go_wp2_with (first | ((with_reducible refine ae (f := 65) rfl ?_); refine xgl 15 Tryd.func65 #[.int .i64 Am] ?_; (with_reducible refine (eF Am An Ao Ap Aq Ag _ A7.out).mono ?_); rintro e w14 ⟨rfl, hb⟩; refine ⟨_, rfl, ?_⟩; replace Ae := xbb (g := Af) (o := .cells #[.int .i64 Ab, .int .i64 Ac, .bool Ad] 64 (0, 0)) hb; replace HB := xst hb; (try clear hb)) | ((with_reducible refine an (N := 5) rfl ?_); refine xev 5 #[.int .i64 0, .int .i64 0, .int .i64 0, .int .i64 0, .int .i64 0] 91 ?_; intro As hg w15 hbox hb; have Aa := Zz.mk (hbox); have Au := xsz hg; have AB := Au; have Ai := xlt (g := Af) hg; have Aj := xgt (g := Af) hg; replace Ae := xbb (g := Af) (o := .cells #[.int .i64 Ab, .int .i64 Ac, .bool Ad] 64 (0, 0)) hb; replace HB := xst hb; clear hb hbox hg; have AL := Aj.out; have AM := Ai.out; obtain ⟨hcz17_0, hcz17_1, hcz17_2, hcz17_3, hcz17_4⟩ := xc5 Aa; have hfz17_0 := xf Aa 0; have hfz17_1 := xf Aa 1; have hfz17_2 := xf Aa 2; have hfz17_3 := xf Aa 3; have hfz17_4 := xf Aa 4) | ((with_reducible refine ae (f := 66) rfl ?_); refine xgl 18 Tryd.func66 #[.string a0, .agg #[.int .i64 An, .int .i64 Ao, .int .i64 Ap, .int .i64 Aq, .int .i64 Ag]] ?_; (with_reducible refine (eA k1 a0 An Ao Ap Aq Ag Ah _ A8.out).mono ?_); rintro e w18 ⟨rfl, hb⟩; refine ⟨_, rfl, ?_⟩; replace Ae := xbb (g := Af) (o := .cells #[.int .i64 Ab, .int .i64 Ac, .bool Ad] 64 (0, 0)) hb; replace Aa := xbb (g := As) (o := .cells #[.int .i64 An, .int .i64 Ao, .int .i64 Ap, .int .i64 Aq, .int .i64 Ag] 91 (0, 0)) hb; replace HB := xst hb; (try clear hb); obtain ⟨hcz19_0, hcz19_1, hcz19_2, hcz19_3, hcz19_4⟩ := xc5 Aa; have hfz19_0 := xf Aa 0; have hfz19_1 := xf Aa 1; have hfz19_2 := xf Aa 2; have hfz19_3 := xf Aa 3; have hfz19_4 := xf Aa 4) | ((with_reducible refine ae (f := 67) rfl ?_); refine dI (some 26) rfl rfl Tryd.func67 (by kernel_rfl) rfl #[.string Az] rfl (by (try simp only [List.map_toArray, List.map_cons, List.map_nil]); first | done | (simp only [Ak]; rfl) | rfl | (simp only [List.length_drop, List.length_take]; rfl)) ?_; (with_reducible refine (gb k1 Az AA _ A13.out).mono ?_); rintro e w' ⟨rfl, ⟨nd, rfl⟩⟩; refine ⟨_, rfl, ?_⟩; (try (rw [fO w18]; generalize hq_ : World.drewN w18 _ = w18; have n0_ : Zz (w18.heap[Af]? = some (.cells #[.int .i64 Ab, .int .i64 Ac, .bool Ad] 64 (0, 0))) := ⟨by rw [← hq_]; exact xbk⟩; have n1_ : Zz (w18.heap[As]? = some (.cells #[.int .i64 An, .int .i64 Ao, .int .i64 Ap, .int .i64 Aq, .int .i64 Ag] 91 (0, 0))) := ⟨by rw [← hq_]; exact xbk⟩; have n2_ : Zz (Below w.heap.size w w18) := ⟨by rw [← hq_]; exact xbl⟩; clear Ae Aa HB hq_; have Ae := n0_; have Aa := n1_; have HB := n2_; clear n0_ n1_ n2_)); obtain ⟨hcz20_0, hcz20_1, hcz20_2⟩ := xc3 Ae; have hfz20_0 := xf Ae 0; have hfz20_1 := xf Ae 1; have hfz20_2 := xf Ae 2))
        refine bodyPost_ret (results_cell_row rfl _ _ Af 64 #[.int .i64 AA, .int .i64 Ah, .bool true] (0, 0) _ rfl xbk Tryd.underlying64 rfl (by kernel_rfl)) rfl ?_
        exact ⟨by first | rfl | (simp [au, av] <;> first | rfl | (simp only [bK, bne, Bool.not_not]; done)) | (simp only [← Ak]; first | rfl | (simp [au, av] <;> rfl)) | (simp [*, au, av] <;> rfl), xbl⟩
       ·
        rw [if_neg c11] at H
        exact absurd H (by simp)
      ·
       rw [if_neg c10] at H
       exact absurd H (by simp)
     ·
      rw [if_neg c9] at H
      have AF : (Ah == Ag) = false := beq_eq_false_iff_ne.mpr c9
      have AG : (Ah != Ag) = true := bne_iff_ne.mpr c9
      obtain ⟨AC, Al⟩ : ∃ j_ : Int, (mx Ar Ah) = j_ := ⟨_, rfl⟩
      first | rw [Al] at H | simp only [Al] at H | skip
      (try rw [Al] at A7)
      (try rw [Al] at A8)
      have hji21_ : (if Ar < Ah then Ah else Ar) = AC := Al
      have H' := Zz.mk H
      clear H
      go_wp2_with (first | ((with_reducible refine ae (f := 65) rfl ?_); refine xgl 15 Tryd.func65 #[.int .i64 Am] ?_; (with_reducible refine (eF Am An Ao Ap Aq Ag _ A7.out).mono ?_); rintro e w22 ⟨rfl, hb⟩; refine ⟨_, rfl, ?_⟩; replace Ae := xbb (g := Af) (o := .cells #[.int .i64 Ab, .int .i64 Ac, .bool Ad] 64 (0, 0)) hb; replace HB := xst hb; (try clear hb)) | ((with_reducible refine an (N := 5) rfl ?_); refine xev 5 #[.int .i64 0, .int .i64 0, .int .i64 0, .int .i64 0, .int .i64 0] 91 ?_; intro As hg w23 hbox hb; have Aa := Zz.mk (hbox); have Au := xsz hg; have AB := Au; have Ai := xlt (g := Af) hg; have Aj := xgt (g := Af) hg; replace Ae := xbb (g := Af) (o := .cells #[.int .i64 Ab, .int .i64 Ac, .bool Ad] 64 (0, 0)) hb; replace HB := xst hb; clear hb hbox hg; have AN := Aj.out; have AO := Ai.out; obtain ⟨hcz25_0, hcz25_1, hcz25_2, hcz25_3, hcz25_4⟩ := xc5 Aa; have hfz25_0 := xf Aa 0; have hfz25_1 := xf Aa 1; have hfz25_2 := xf Aa 2; have hfz25_3 := xf Aa 3; have hfz25_4 := xf Aa 4) | ((with_reducible refine ae (f := 66) rfl ?_); refine xgl 18 Tryd.func66 #[.string a0, .agg #[.int .i64 An, .int .i64 Ao, .int .i64 Ap, .int .i64 Aq, .int .i64 Ag]] ?_; (with_reducible refine (eA k1 a0 An Ao Ap Aq Ag Ah _ A8.out).mono ?_); rintro e w26 ⟨rfl, hb⟩; refine ⟨_, rfl, ?_⟩; replace Ae := xbb (g := Af) (o := .cells #[.int .i64 Ab, .int .i64 Ac, .bool Ad] 64 (0, 0)) hb; replace Aa := xbb (g := As) (o := .cells #[.int .i64 An, .int .i64 Ao, .int .i64 Ap, .int .i64 Aq, .int .i64 Ag] 91 (0, 0)) hb; replace HB := xst hb; (try clear hb); obtain ⟨hcz27_0, hcz27_1, hcz27_2, hcz27_3, hcz27_4⟩ := xc5 Aa; have hfz27_0 := xf Aa 0; have hfz27_1 := xf Aa 1; have hfz27_2 := xf Aa 2; have hfz27_3 := xf Aa 3; have hfz27_4 := xf Aa 4))
      first | go_roundg k1 | (simp only [← Al]; go_roundg k1)
      case measure => have := HK1.out; omega
      case rel => exact ⟨(AC), (wrap64 (Am + 1)), (Ab), (Ac), (Ad), (by first | rfl | (simp; done) | (simp only [← Al] <;> (first | rfl | simp)) | (simp [*]; done) | (simp [wrap64]; done)), xrr, H', ⟨by have := HK1.out; omega⟩, ⟨xbk⟩, ⟨xbl⟩⟩
    ·
     rw [if_neg c6] at H
     have AE := decide_eq_false c6
     clear c6
     simp only [Option.some.injEq, Prod.mk.injEq] at H
     obtain ⟨rfl, rfl, rfl⟩ := H
     obtain ⟨hcz28_0, hcz28_1, hcz28_2⟩ := xc3 Ae
     have hfz28_0 := xf Ae 0
     have hfz28_1 := xf Ae 1
     have hfz28_2 := xf Ae 2
     go_wp2
     refine bodyPost_ret (results_cell_row rfl _ _ Af 64 #[.int .i64 0, .int .i64 Ar, .bool false] (0, 0) _ rfl xbk Tryd.underlying64 rfl (by kernel_rfl)) rfl ?_
     exact ⟨xre, xbl⟩
def bv : Nat → Int → ByteArray → Int → Option (Bool)
  | 0, _, _, _ => none
  | k + 1, x0, x1, x5 => if x5 < (x1.size : Int) then (if 0 ≤ x5 then (if (bt x1 x5) = x0 then (some true) else (bv k x0 x1 (wrap64 (x5 + 1)))) else (none)) else (some false)
def aC (k : Nat) (a0 : Int) (a1 : ByteArray) : Option (Bool) := bv k a0 a1 0
theorem eE : ∀ k, (∀ y0 y1 y2, LeO (bv k y0 y1 y2) (bv (k + 1) y0 y1 y2))
  | 0 => fun _ _ _ r h => by simp [bv] at h
  | k + 1 => by
    have ih0 := eE k
    · intro y0 y1 y2
      unfold bv
      exact xmo
theorem di : ∀ a0 a1 k, LeO (aC k a0 a1) (aC (k + 1) a0 a1) := by
  intro a0 a1 k
  have ih0 := eE k
  unfold aC
  exact xmo
theorem aq (k : Nat) (a0 : Int) (a1 : ByteArray) (r : Bool) (w : World) (h : aC k a0 a1 = some r) :
    Calls Tryd.prog 52 #[.int .u8 a0, .string a1] w fun e w' => e = .returned (.bool r) ∧ Drawn0 w w' := by
 have H : (bv k a0 a1 0) = some r := h
 clear h
 have H' := Zz.mk H
 clear H
 go_enter Tryd.func52, Tryd.ntmps52
 go_wp2
 go_loopg [5] k (fun kq v5 w' => ∃ (Aa : Int), v5 = .int .i64 Aa ∧ Zz (bv kq a0 a1 Aa = some r) ∧ Zz (kq ≤ k) ∧ Drawn0 w w')
 case atStart => exact ⟨(0), xrr, H', ⟨Nat.le_refl _⟩, xdr⟩
 case round =>
  clear H'
  obtain ⟨Aa, rfl, HA, HK1, ⟨m1, rfl⟩⟩ := hrel
  cases gk with
  | zero => exact absurd HA.out (by simp [bv])
  | succ k1 =>
   have H := HA.out
   clear HA
   simp only [bv] at H
   by_cases c3 : Aa < (a1.size : Int)
   ·
    rw [if_pos c3] at H
    have Ab := decide_eq_true c3
    clear c3
    by_cases c4 : 0 ≤ Aa
    ·
     rw [if_pos c4] at H
     have Af := decide_eq_true c4
     clear c4
     by_cases c6 : (bt a1 Aa) = a0
     ·
      rw [if_pos c6] at H
      have Ac : ((bt a1 Aa) == a0) = true := beq_iff_eq.mpr c6
      have Ad : ((bt a1 Aa) != a0) = false := bne_eq_false_iff_eq.mpr c6
      clear c6
      obtain rfl := Option.some.inj H
      have p5 : 0 ≤ (Aa : Int) := xod
      have q5 : Aa < (a1.size : Int) := xod
      have hx5 := ar a1 Aa
      replace p5 := eq_true p5
      replace q5 := eq_true q5
      try (have Ae := q5; simp only [ByteArray.size_extract, Nat.min_self] at Ae)
      go_wp2
      go_ret
      exact ⟨xrr, xdr⟩
     ·
      rw [if_neg c6] at H
      have Ac : ((bt a1 Aa) == a0) = false := beq_eq_false_iff_ne.mpr c6
      have Ad : ((bt a1 Aa) != a0) = true := bne_iff_ne.mpr c6
      have H' := Zz.mk H
      clear H
      have p5 : 0 ≤ (Aa : Int) := xod
      have q5 : Aa < (a1.size : Int) := xod
      have hx5 := ar a1 Aa
      replace p5 := eq_true p5
      replace q5 := eq_true q5
      try (have Ae := q5; simp only [ByteArray.size_extract, Nat.min_self] at Ae)
      go_wp2
      go_roundg k1
      case measure => have := HK1.out; omega
      case rel => exact ⟨(wrap64 (Aa + 1)), xrr, H', ⟨by have := HK1.out; omega⟩, xdr⟩
    ·
     rw [if_neg c4] at H
     exact absurd H (by simp)
   ·
    rw [if_neg c3] at H
    have Ab := decide_eq_false c3
    clear c3
    obtain rfl := Option.some.inj H
    go_wp2
    go_ret
    exact ⟨xrr, xdr⟩
end Go.Proofs.YtmofhijbheimmaaDoor.X
