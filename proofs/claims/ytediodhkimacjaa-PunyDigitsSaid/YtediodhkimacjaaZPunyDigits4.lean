/- Texts that the law's proof needs, joined by a program of this session. -/
import Derived.Test.YtediodhkimacjaaZPunyDigits0
import Derived.Test.YtediodhkimacjaaZPunyDigits1
import Derived.Test.YtediodhkimacjaaZPunyDigits2
import Derived.Test.YtediodhkimacjaaZPunyDigits3
import Derived.Lib.Bytealg
import Derived.Laws.Strings
set_option maxHeartbeats 8000000
set_option maxRecDepth 100000
set_option linter.unusedSimpArgs false
set_option linter.unusedVariables false
namespace Go.Proofs.Ytediodhkimacjaa.X
open Go.RowKit Go.Proofs.YtediodhkimacjaaW.PrintWords Go.Proofs.YtediodhkimacjaaW.PrintLast Go.Proofs.YtediodhkimacjaaW.PrintMore
attribute [local go_sem] ci b7 cT dk cg de bR cZ db di dj cN cO da dd
mutual
def aA : Nat → Int → Int → Option (Int)
  | 0, _, _ => none
  | k + 1, x7, x8 => if x8 = 0 then (none) else (aC k (wrap64 (x7 + (wrap64 (Int.tdiv x7 x8)))) 0)
def aC : Nat → Int → Int → Option (Int)
  | 0, _, _ => none
  | k + 1, x7, x9 => if x7 > 455 then (aC k (wrap64 (Int.tdiv x7 35)) (wrap64 (x9 + 36))) else (if (wrap64 (x7 + 38)) = 0 then (none) else (some (wrap64 (x9 + (wrap64 (Int.tdiv (wrap64 (36 * x7)) (wrap64 (x7 + 38))))))))
end
def bz (k : Nat) (a0 : Int) (a1 : Int) (a2 : Bool) : Option (Int) := if a2 = true then (aA k (wrap64 ((mx a0 0) / 700)) (mx a1 1)) else (aA k (wrap64 ((mx a0 0) / 2)) (mx a1 1))
theorem bx (k : Nat) (a0 : Int) (a1 : Int) (a2 : Bool) (r : Int) (w : World) (h : bz k a0 a1 a2 = some r) :
    Calls Try.prog 17 #[.int .i64 a0, .int .i64 a1, .bool a2] w fun e w' => e = .returned (.int .i64 r) ∧ Below w.heap.size w w' := by
 have HB := Zz.mk (Below.refl w.heap.size w)
 have H : (if a2 = true then (aA k (wrap64 ((mx a0 0) / 700)) (mx a1 1)) else (aA k (wrap64 ((mx a0 0) / 2)) (mx a1 1))) = some r := h
 clear h
 obtain ⟨Ag, Ab⟩ : ∃ j_ : Int, (mx a0 0) = j_ := ⟨_, rfl⟩
 first | rw [Ab] at H | simp only [Ab] at H | skip
 (try (have Al : 0 ≤ Ag := by (rw [← Ab]; unfold mx; (repeat' split) <;> omega)))
 (try (have Am : 0 ≤ Ag := by omega))
 have hji4_ : (if a0 < 0 then 0 else a0) = Ag := Ab
 obtain ⟨Af, Ac⟩ : ∃ j_ : Int, (mx a1 1) = j_ := ⟨_, rfl⟩
 first | rw [Ac] at H | simp only [Ac] at H | skip
 (try (have An : 1 ≤ Af := by (rw [← Ac]; unfold mx; (repeat' split) <;> omega)))
 (try (have Ao : 0 ≤ Af := by omega))
 have hji5_ : (if a1 < 1 then 1 else a1) = Af := Ac
 have Ah := Zz.mk H
 clear H
 go_enter Try.func17, Try.ntmps17
 go_upto_if 14 with (fail)
 go_cut [7] (fun v7 wc => ∃ (kq : Nat) (Ad : Int), v7 = .int .i64 Ad ∧ Zz (aA kq Ad Af = some r) ∧ Zz (kq ≤ k) ∧ Zz (Below w.heap.size w wc))
 case first =>
  have H := Ah.out
  clear Ah
  by_cases c7 : a2 = true
  ·
   subst c7
   rw [if_pos rfl] at H
   have H' := Zz.mk H
   clear H
   go_wp2
   go_meet
   case rel => exact ⟨_, (wrap64 ((Ag) / 700)), (by first | rfl | (simp; done) | (simp only [← Ab] <;> (first | rfl | (rw [Int.tdiv_eq_ediv_of_nonneg (by unfold mx; split <;> omega)]; done) | simp)) | (simp [*]; done) | (simp [wrap64]; done)), H', ⟨xom⟩, ⟨xbl⟩⟩
  ·
   replace c7 := Bool.eq_false_iff.mpr c7
   subst c7
   rw [if_neg (show ¬ (false = true) by decide)] at H
   have H' := Zz.mk H
   clear H
   go_wp2
   go_meet
   case rel => exact ⟨_, (wrap64 ((Ag) / 2)), (by first | rfl | (simp; done) | (simp only [← Ab] <;> (first | rfl | (rw [Int.tdiv_eq_ediv_of_nonneg (by unfold mx; split <;> omega)]; done) | simp)) | (simp [*]; done) | (simp [wrap64]; done)), H', ⟨xom⟩, ⟨xbl⟩⟩
 case rest =>
  clear Ah
  obtain ⟨kq, Ad, rfl, HA, HJ5, HB⟩ := hcut
  cases kq with
  | zero => exact absurd HA.out (by simp [aA])
  | succ kj5 =>
   have H := HA.out
   clear HA
   simp only [aA] at H
   by_cases c8 : Af = 0
   ·
    rw [if_pos c8] at H
    exact absurd H (by simp)
   ·
    rw [if_neg c8] at H
    have Ai : (Af == 0) = false := beq_eq_false_iff_ne.mpr c8
    have Aj : (Af != 0) = true := bne_iff_ne.mpr c8
    have H' := Zz.mk H
    clear H
    go_wp2
    go_loopg [7, 9] kj5 (fun kq v7 v9 w' => ∃ (Aa : Int) (Ae : Int), v7 = .int .i64 Aa ∧ v9 = .int .i64 Ae ∧ Zz (aC kq Aa Ae = some r) ∧ Zz (kq ≤ kj5) ∧ Zz (Below w.heap.size w w'))
    case atStart => exact ⟨(wrap64 (Ad + (wrap64 (Int.tdiv Ad Af)))), (0), (by first | rfl | (simp; done) | (simp only [← Ac] <;> (first | rfl | (rw [Int.tdiv_eq_ediv_of_nonneg (by unfold mx; split <;> omega)]; done) | simp)) | (simp [*]; done) | (simp [wrap64]; done)), xrr, H', ⟨Nat.le_refl _⟩, ⟨xbl⟩⟩
    case round =>
     clear H'
     clear c8 Ai Aj
     obtain ⟨Aa, Ae, rfl, rfl, HA, HK2, HB⟩ := hrel
     cases gk with
     | zero => exact absurd HA.out (by simp [aC])
     | succ k2 =>
      have H := HA.out
      clear HA
      simp only [aC] at H
      by_cases c9 : Aa > 455
      ·
       rw [if_pos c9] at H
       have Ak := decide_eq_true c9
       clear c9
       have H' := Zz.mk H
       clear H
       go_wp2
       go_roundg k2
       case measure => have := HJ5.out; have := HK2.out; omega
       case rel => exact ⟨(wrap64 (Int.tdiv Aa 35)), (wrap64 (Ae + 36)), xrr, xrr, H', ⟨by have := HJ5.out; have := HK2.out; omega⟩, ⟨xbl⟩⟩
      ·
       rw [if_neg c9] at H
       have Ak := decide_eq_false c9
       clear c9
       by_cases c10 : (wrap64 (Aa + 38)) = 0
       ·
        rw [if_pos c10] at H
        exact absurd H (by simp)
       ·
        rw [if_neg c10] at H
        have Ap : ((wrap64 (Aa + 38)) == 0) = false := beq_eq_false_iff_ne.mpr c10
        have Aq : ((wrap64 (Aa + 38)) != 0) = true := bne_iff_ne.mpr c10
        obtain rfl := Option.some.inj H
        go_wp2
        go_ret
        exact ⟨by first | rfl | (simp [ai, aj] <;> first | rfl | (simp only [aD, bne, Bool.not_not]; done)) | (simp only [← Ab, ← Ac]; first | rfl | (simp [ai, aj] <;> rfl)) | (simp [*, ai, aj] <;> rfl), xbl⟩
def bc : Nat → ByteArray → Int → Int → Option (Int)
  | 0, _, _, _ => none
  | k + 1, x0, x3, x4 => if x4 < (x0.size : Int) then (if 0 ≤ x4 then (if (bt x0 x4) = 45 then (bc k x0 (wrap64 (x4 + 1)) (wrap64 (x4 + 1))) else (bc k x0 x3 (wrap64 (x4 + 1)))) else (none)) else (some x3)
def b2 (k : Nat) (a0 : ByteArray) : Option (Int) := bc k a0 0 0
theorem cU (k : Nat) (a0 : ByteArray) (r : Int) (w : World) (h : b2 k a0 = some r) :
    Calls Try.prog 22 #[.string a0] w fun e w' => e = .returned (.int .i64 r) ∧ Drawn0 w w' := by
 have H : (bc k a0 0 0) = some r := h
 clear h
 have H' := Zz.mk H
 clear H
 go_enter Try.func22, Try.ntmps22
 go_wp2
 go_loopg [3, 4] k (fun kq v3 v4 w' => ∃ (Ab : Int) (Aa : Int), v3 = .int .i64 Ab ∧ v4 = .int .i64 Aa ∧ Zz (bc kq a0 Ab Aa = some r) ∧ Zz (kq ≤ k) ∧ Drawn0 w w')
 case atStart => exact ⟨(0), (0), xrr, xrr, H', ⟨Nat.le_refl _⟩, xdr⟩
 case round =>
  clear H'
  obtain ⟨Ab, Aa, rfl, rfl, HA, HK1, ⟨m1, rfl⟩⟩ := hrel
  cases gk with
  | zero => exact absurd HA.out (by simp [bc])
  | succ k1 =>
   have H := HA.out
   clear HA
   simp only [bc] at H
   by_cases c2 : Aa < (a0.size : Int)
   ·
    rw [if_pos c2] at H
    have Ac := decide_eq_true c2
    clear c2
    by_cases c3 : 0 ≤ Aa
    ·
     rw [if_pos c3] at H
     have Ag := decide_eq_true c3
     clear c3
     by_cases c5 : (bt a0 Aa) = 45
     ·
      rw [if_pos c5] at H
      have Ad : ((bt a0 Aa) == 45) = true := beq_iff_eq.mpr c5
      have Ae : ((bt a0 Aa) != 45) = false := bne_eq_false_iff_eq.mpr c5
      clear c5
      have H' := Zz.mk H
      clear H
      have p4 : 0 ≤ (Aa : Int) := xod
      have q4 : Aa < (a0.size : Int) := xod
      have hx4 := be a0 Aa
      replace p4 := eq_true p4
      replace q4 := eq_true q4
      try (have Af := q4; simp only [ByteArray.size_extract, Nat.min_self] at Af)
      go_wp2
      go_roundg k1
      case measure => have := HK1.out; omega
      case rel => exact ⟨(wrap64 (Aa + 1)), (wrap64 (Aa + 1)), xrr, xrr, H', ⟨by have := HK1.out; omega⟩, xdr⟩
     ·
      rw [if_neg c5] at H
      have Ad : ((bt a0 Aa) == 45) = false := beq_eq_false_iff_ne.mpr c5
      have Ae : ((bt a0 Aa) != 45) = true := bne_iff_ne.mpr c5
      have H' := Zz.mk H
      clear H
      have p4 : 0 ≤ (Aa : Int) := xod
      have q4 : Aa < (a0.size : Int) := xod
      have hx4 := be a0 Aa
      replace p4 := eq_true p4
      replace q4 := eq_true q4
      try (have Af := q4; simp only [ByteArray.size_extract, Nat.min_self] at Af)
      go_wp2
      go_roundg k1
      case measure => have := HK1.out; omega
      case rel => exact ⟨(Ab), (wrap64 (Aa + 1)), xrr, xrr, H', ⟨by have := HK1.out; omega⟩, xdr⟩
    ·
     rw [if_neg c3] at H
     exact absurd H (by simp)
   ·
    rw [if_neg c2] at H
    have Ac := decide_eq_false c2
    clear c2
    obtain rfl := Option.some.inj H
    go_wp2
    go_ret
    exact ⟨xrr, xdr⟩
def cr (l0 : List Int) (a1 : Int) (a2 : Int) : Option (List Int) := (some (([] : List Int) : List Int)).bind fun y164 => (if 0 ≤ a1 then (if a1 ≤ (l0.length : Int) then (if y164.length + (l0.take (a1 : Int).toNat).length < 17592186044416 then ((some (y164 ++ (l0.take (a1 : Int).toNat) : List Int)).bind fun y168 => (if y168.length < 17592186044416 then ((some (y168 ++ [a2] : List Int)).bind fun y171 => (if y171.length + (l0.drop (a1 : Int).toNat).length < 17592186044416 then (some (y171 ++ (l0.drop (a1 : Int).toNat))) else (none))) else (none))) else (none)) else (none)) else (none))
theorem cV (A0 : Option Addr) (c0 : Nat) (l0 : List Int) (a1 : Int) (a2 : Int) (r : List Int) (w : World) (hr0 : Kd.C (Kd.int .i64) w A0 l0.length l0) (hc0 : l0.length ≤ c0) (h : cr l0 a1 a2 = some r) :
    Calls Try.prog 23 #[.slice A0 l0.length c0, .int .i64 a1, .int .i64 a2] w fun e w' => ∃ v0_ : Value, e = .returned (v0_) ∧ Kd.R (Kd.int .i64) 3 w' w.heap.size (fun _ => True) v0_ r ∧ Below w.heap.size w w' := by
 have HR0 := Zz.mk hr0
 have Aq := Zz.mk hc0
 clear hr0 hc0
 have HB := Zz.mk (Below.refl w.heap.size w)
 have H : ((some (([] : List Int) : List Int)).bind fun Ac => (if 0 ≤ a1 then (if a1 ≤ (l0.length : Int) then (if Ac.length + (l0.take (a1 : Int).toNat).length < 17592186044416 then ((some (Ac ++ (l0.take (a1 : Int).toNat) : List Int)).bind fun Ab => (if Ab.length < 17592186044416 then ((some (Ab ++ [a2] : List Int)).bind fun Aa => (if Aa.length + (l0.drop (a1 : Int).toNat).length < 17592186044416 then (some (Aa ++ (l0.drop (a1 : Int).toNat))) else (none))) else (none))) else (none)) else (none)) else (none))) = some r := h
 clear h
 obtain ⟨Ac, Ad⟩ : ∃ y_ : List Int, y_ = (([] : List Int)) := ⟨_, rfl⟩
 replace H : (if 0 ≤ a1 then (if a1 ≤ (l0.length : Int) then (if Ac.length + (l0.take (a1 : Int).toNat).length < 17592186044416 then ((some (Ac ++ (l0.take (a1 : Int).toNat) : List Int)).bind fun Ab => (if Ab.length < 17592186044416 then ((some (Ab ++ [a2] : List Int)).bind fun Aa => (if Aa.length + (l0.drop (a1 : Int).toNat).length < 17592186044416 then (some (Aa ++ (l0.drop (a1 : Int).toNat))) else (none))) else (none))) else (none)) else (none)) else (none)) = some r := by first | (rw [Ad]; with_reducible exact H) | (have H2_ := (Option.bind_some _ _).symm.trans H; rw [Ad]; with_reducible exact H2_) | (have H2_ := (Option.bind_some _ _).symm.trans H; with_reducible exact H2_) | with_reducible exact H | (rw [Ad]; exact H) | exact H
 have Ah := Zz.mk Ad
 clear Ad
 by_cases c4 : 0 ≤ a1
 ·
  rw [if_pos c4] at H
  have At := eq_true c4
  have Au := decide_eq_true c4
  clear c4
  by_cases c5 : a1 ≤ (l0.length : Int)
  ·
   rw [if_pos c5] at H
   have Av := eq_true c5
   have Aw := decide_eq_true c5
   clear c5
   by_cases c6 : Ac.length + (l0.take (a1 : Int).toNat).length < 17592186044416
   ·
    rw [if_pos c6] at H
    have LMc6 := Zz.mk c6
    clear c6
    obtain ⟨Ab, Ae⟩ : ∃ y_ : List Int, y_ = (Ac ++ (l0.take (a1 : Int).toNat)) := ⟨_, rfl⟩
    replace H : (if Ab.length < 17592186044416 then ((some (Ab ++ [a2] : List Int)).bind fun Aa => (if Aa.length + (l0.drop (a1 : Int).toNat).length < 17592186044416 then (some (Aa ++ (l0.drop (a1 : Int).toNat))) else (none))) else (none)) = some r := by first | (rw [Ae]; with_reducible exact H) | (have H2_ := (Option.bind_some _ _).symm.trans H; rw [Ae]; with_reducible exact H2_) | (have H2_ := (Option.bind_some _ _).symm.trans H; with_reducible exact H2_) | with_reducible exact H | (rw [Ae]; exact H) | exact H
    have Al := Zz.mk Ae
    clear Ae
    by_cases c7 : Ab.length < 17592186044416
    ·
     rw [if_pos c7] at H
     have LMc7 := Zz.mk c7
     clear c7
     obtain ⟨Aa, Af⟩ : ∃ y_ : List Int, y_ = (Ab ++ [a2]) := ⟨_, rfl⟩
     replace H : (if Aa.length + (l0.drop (a1 : Int).toNat).length < 17592186044416 then (some (Aa ++ (l0.drop (a1 : Int).toNat))) else (none)) = some r := by first | (rw [Af]; with_reducible exact H) | (have H2_ := (Option.bind_some _ _).symm.trans H; rw [Af]; with_reducible exact H2_) | (have H2_ := (Option.bind_some _ _).symm.trans H; with_reducible exact H2_) | with_reducible exact H | (rw [Af]; exact H) | exact H
     have Am := Zz.mk Af
     clear Af
     have Ax := eq_true (xod : 0 ≤ a1)
     have Ay := eq_true (xod : a1 ≤ (l0.length : Int))
     by_cases c10 : Aa.length + (l0.drop (a1 : Int).toNat).length < 17592186044416
     ·
      rw [if_pos c10] at H
      have LMc10 := Zz.mk c10
      clear c10
      obtain ⟨Ap, Ag⟩ : ∃ y_ : List Int, y_ = (Aa ++ (l0.drop (a1 : Int).toNat)) := ⟨_, rfl⟩
      replace H : (some Ap) = some r := by first | (rw [Ag]; with_reducible exact H) | (have H2_ := (Option.bind_some _ _).symm.trans H; rw [Ag]; with_reducible exact H2_) | (have H2_ := (Option.bind_some _ _).symm.trans H; with_reducible exact H2_) | with_reducible exact H | (rw [Ag]; exact H) | exact H
      have An := Zz.mk Ag
      clear Ag
      obtain rfl := Option.some.inj H
      go_enter Try.func23, Try.ntmps23
      go_wp2_with (first | ((with_reducible refine aW (N := 8) rfl ?_); refine Kd.R_lit (Kd.int .i64) _ 3 ?hg (N := 8) ?hd (xs := ([] : List Int)) (inner := []) (ok := fun _ => True) (okp := fun _ => True) ?hr ?hp (fun _ hk => hk) trivial (Below.refl _ _) (Nat.le_refl _) (by simp) ?_; (case hd => rfl); (case hg => rfl); (case hr => first | (go_simp; done) | (go_simp; rfl)); (case hp => exact (Reps.none _ _)); intro v165 w11 ho12 hb hg_ hnew_; clear hg_ hnew_; (first | rw [← Ah.out] at ho12 | (simp only [Int.reduceToNat] at ho12; rw [← Ah.out] at ho12)); have Ai := Zz.mk (Kd.R_lower ho12 (af xbl)); replace HB := xst hb; clear hb ho12; obtain ⟨i013, hi013, _, hsz13, _⟩ := info_parts cY; obtain ⟨hcut13, hA13, hC13⟩ := dE (P := Try.prog) (Value.int .i64) 0 27 3 .i64 Try.underlying27 hi013 hsz13 A0 c0 l0 a1 (xod) (xod) Aq.out; have HR167 := Zz.mk (Kd.C_of_reads (h1 := fun _ => rfl) (hA13 _ (Kd.reads_of_C HR0.out))); have Ar := Zz.mk hC13; clear hA13 hC13 hi013 hsz13) | ((with_reducible refine bo (b := .append) (xs := #[.tmp 9, .tmp 12]) rfl ?_); at_builtin; refine Kd.R_append_rows (Kd.int .i64) (w0 := w) w.heap.size rfl (.tmp 9) (.tmp 12) 27 3 (.int .i64 0) 8 rfl Try.underlying27 cY rfl (by decide) (by omega) v165 Ac (l0.take (a1 : Int).toNat) _ _ _ (fun _ => True) (fun _ => False) rfl rfl ?aO ?aR (fun _ _ h => h) (fun _ h => h.elim) ?aF ?aB ?aS ?aL ?_; (case aR => first | exact (show Kd.C (Kd.int .i64) _ _ _ _ from Eq.mp (congrArg (fun n_ => Kd.C (Kd.int .i64) _ _ n_ _) (show (l0.take (a1 : Int).toNat).length = a1.toNat from (by rw [List.length_take]; have h_ : (a1 : Int) ≤ (l0.length : Int) := xod; omega))) (Kd.C_below HR167.out HB.out)) | (rw [← show (l0.take (a1 : Int).toNat).length = a1.toNat from (by rw [List.length_take]; have h_ : (a1 : Int) ≤ (l0.length : Int) := xod; omega)]; repeat (first | exact (show Kd.C (Kd.int .i64) _ _ _ _ from Kd.C_below HR167.out HB.out) | (with_reducible refine Kd.C_alloc ?_ _) | (with_reducible refine Kd.C_drewN ?_ _) | (with_reducible refine Kd.C_drew ?_))) | (repeat (first | exact (show Kd.C (Kd.int .i64) _ _ _ _ from Kd.C_below HR167.out HB.out) | (with_reducible refine Kd.C_alloc ?_ _) | (with_reducible refine Kd.C_drewN ?_ _) | (with_reducible refine Kd.C_drew ?_)))); (case aB => exact xbl); (case aF => exact (fun _ _ => trivial)); (case aO => exact (xkd Ai)); (case aS => exact (af xbl)); (case aL => have := LMc6.out; have hlx_ := (show (l0.take (a1 : Int).toNat).length = a1.toNat from (by rw [List.length_take]; have h_ : (a1 : Int) ≤ (l0.length : Int) := xod; omega)); omega); intro v169 w14 ho hb hg hat; rw [← Al.out] at ho; have n0_ := Zz.mk (hb); have n1_ := Zz.mk (ho); clear HB; clear Ai; have HB := n0_; have Aj := n1_; clear n0_ n1_; clear ho hb hg hat) | ((with_reducible refine bo (b := .append) (xs := #[.tmp 14, .tmp 16]) rfl ?_); at_builtin; refine Kd.R_append (Kd.int .i64) (w0 := w) w.heap.size rfl (.tmp 14) (.tmp 16) 27 3 (.int .i64 0) 8 rfl Try.underlying27 cY rfl (by decide) (by omega) v169 Ab a2 [.int .i64 a2] (fun _ => True) (fun _ => False) rfl rfl ?aP (fun _ hk => hk.elim) ?aF ?aO ?aB ?aS ?aL ?_; (case aP => exact rfl); (case aB => exact xbl); (case aF => exact (fun _ _ => trivial)); (case aO => exact (xkd Aj)); (case aS => exact (af xbl)); (case aL => have := LMc7.out; first | omega | exact Nat.le_of_lt this); intro v172 w15 ho hb hg hat; rw [← Am.out] at ho; have n0_ := Zz.mk (hb); have n1_ := Zz.mk (ho); clear HB; clear Aj; have HB := n0_; have Ak := n1_; clear n0_ n1_; clear ho hb hg hat; obtain ⟨i016, hi016, _, hsz16, _⟩ := info_parts cY; obtain ⟨A16, hcut16, hA16, hC16⟩ := dD (P := Try.prog) (Value.int .i64) 0 27 3 .i64 Try.underlying27 hi016 hsz16 A0 c0 l0 a1 (xod) (xod) Aq.out; have HR174 := Zz.mk (Kd.C_of_reads (h1 := fun _ => rfl) (hA16 _ (Kd.reads_of_C HR0.out))); have As := Zz.mk hC16; clear hA16 hC16 hi016 hsz16) | ((with_reducible refine bo (b := .append) (xs := #[.tmp 18, .tmp 21]) rfl ?_); at_builtin; refine Kd.R_append_rows (Kd.int .i64) (w0 := w) w.heap.size rfl (.tmp 18) (.tmp 21) 27 3 (.int .i64 0) 8 rfl Try.underlying27 cY rfl (by decide) (by omega) v172 Aa (l0.drop (a1 : Int).toNat) _ _ _ (fun _ => True) (fun _ => False) rfl rfl ?aO ?aR (fun _ _ h => h) (fun _ h => h.elim) ?aF ?aB ?aS ?aL ?_; (case aR => first | exact (show Kd.C (Kd.int .i64) _ _ _ _ from Eq.mp (congrArg (fun n_ => Kd.C (Kd.int .i64) _ _ n_ _) (show (l0.drop (a1 : Int).toNat).length = (l0.length - a1.toNat) from List.length_drop)) (Kd.C_below HR174.out HB.out)) | (rw [← show (l0.drop (a1 : Int).toNat).length = (l0.length - a1.toNat) from List.length_drop]; repeat (first | exact (show Kd.C (Kd.int .i64) _ _ _ _ from Kd.C_below HR174.out HB.out) | (with_reducible refine Kd.C_alloc ?_ _) | (with_reducible refine Kd.C_drewN ?_ _) | (with_reducible refine Kd.C_drew ?_))) | (repeat (first | exact (show Kd.C (Kd.int .i64) _ _ _ _ from Kd.C_below HR174.out HB.out) | (with_reducible refine Kd.C_alloc ?_ _) | (with_reducible refine Kd.C_drewN ?_ _) | (with_reducible refine Kd.C_drew ?_)))); (case aB => exact xbl); (case aF => exact (fun _ _ => trivial)); (case aO => exact (xkd Ak)); (case aS => exact (af xbl)); (case aL => have := LMc10.out; have hlx_ := (show (l0.drop (a1 : Int).toNat).length = (l0.length - a1.toNat) from List.length_drop); omega); intro v176 w17 ho hb hg hat; rw [← An.out] at ho; have n0_ := Zz.mk (hb); have n1_ := Zz.mk (ho); clear HB; clear Ak; have HB := n0_; have Ao := n1_; clear n0_ n1_; clear ho hb hg hat))
      go_ret
      exact ⟨_, by first | rfl | (simp [ai, aj] <;> first | rfl | (simp only [aD, bne, Bool.not_not]; done)) | (simp [*, ai, aj] <;> rfl), by (with_reducible repeat (first | apply Kd.R_alloc | apply Kd.R_drewN | apply Kd.R_drew)); exact Ao.out, xbl⟩
     ·
      rw [if_neg c10] at H
      exact absurd H (by simp)
    ·
     rw [if_neg c7] at H
     exact absurd H (by simp)
   ·
    rw [if_neg c6] at H
    exact absurd H (by simp)
  ·
   rw [if_neg c5] at H
   exact absurd H (by simp)
 ·
  rw [if_neg c4] at H
  exact absurd H (by simp)
mutual
def aE : Nat → ByteArray → Int → List Int → Int → Option (List Int × Int)
  | 0, _, _, _, _ => none
  | k + 1, x0, x4, x5, x6 => if (wrap64 (x6 + 1)) < x4 then (if 0 ≤ x6 then (if x6 < (x0.size : Int) then (if (bt x0 x6) > 127 then (some (([] : List Int), 9)) else (if x5.length < 17592186044416 then (aE k x0 x4 (x5 ++ [wrap64 (bt x0 x6)]) (wrap64 (x6 + 1))) else (none))) else (none)) else (none)) else (bq k x0 x4 x5 128 0 72 false)
def bq : Nat → ByteArray → Int → List Int → Int → Int → Int → Bool → Option (List Int × Int)
  | 0, _, _, _, _, _, _, _ => none
  | k + 1, x0, x4, x5, x7, x8, x9, x10 => if x4 < (x0.size : Int) then (br k x0 x4 x5 x7 x8 x9 x10 x8 1 36) else (some (x5, 0))
def br : Nat → ByteArray → Int → List Int → Int → Int → Int → Bool → Int → Int → Int → Option (List Int × Int)
  | 0, _, _, _, _, _, _, _, _, _, _ => none
  | k + 1, x0, x4, x5, x7, x8, x9, x10, x11, x12, x13 => if x4 ≥ (x0.size : Int) then (bp k x0 x4 x5 x7 x8 x9 x10 x11 x12 x13 true) else (if 0 ≤ x4 then (if x4 < (x0.size : Int) then ((an k (bt x0 x4)).bind fun t185 => (bp k x0 x4 x5 x7 x8 x9 x10 x11 x12 x13 (decide (t185 < 0)))) else (none)) else (none))
def bp : Nat → ByteArray → Int → List Int → Int → Int → Int → Bool → Int → Int → Int → Bool → Option (List Int × Int)
  | 0, _, _, _, _, _, _, _, _, _, _, _ => none
  | k + 1, x0, x4, x5, x7, x8, x9, Af, Ag, Ab, Ah, Ai => if Ai = true then (some (([] : List Int), 9)) else (if 0 ≤ x4 then (if x4 < (x0.size : Int) then ((an k (bt x0 x4)).bind fun Aa => (if (wrap64 (x8 + (wrap64 (Aa * Ab)))) > 2147483647 then (some (([] : List Int), 11)) else ((bf Ah x9).bind fun Ac => (if Aa < Ac then ((bz k (wrap64 ((wrap64 (x8 + (wrap64 (Aa * Ab)))) - Ag)) (wrap64 ((x5.length : Int) + 1)) (!Af)).bind fun Ad => (if (wrap64 ((x5.length : Int) + 1)) = 0 then (none) else (if (wrap64 (x7 + (wrap64 (Int.tdiv (wrap64 (x8 + (wrap64 (Aa * Ab)))) (wrap64 ((x5.length : Int) + 1)))))) > 2147483647 then (some (([] : List Int), 11)) else (if (wrap64 (x7 + (wrap64 (Int.tdiv (wrap64 (x8 + (wrap64 (Aa * Ab)))) (wrap64 ((x5.length : Int) + 1)))))) > 1114111 then (some (([] : List Int), 7)) else ((cr x5 (Int.tmod (wrap64 (x8 + (wrap64 (Aa * Ab)))) (wrap64 ((x5.length : Int) + 1))) (wrap64 (x7 + (wrap64 (Int.tdiv (wrap64 (x8 + (wrap64 (Aa * Ab)))) (wrap64 ((x5.length : Int) + 1))))))).bind fun Ae => (bq k x0 (wrap64 (x4 + 1)) Ae (wrap64 (x7 + (wrap64 (Int.tdiv (wrap64 (x8 + (wrap64 (Aa * Ab)))) (wrap64 ((x5.length : Int) + 1)))))) (wrap64 ((Int.tmod (wrap64 (x8 + (wrap64 (Aa * Ab)))) (wrap64 ((x5.length : Int) + 1))) + 1)) Ad true)))))) else (if (wrap64 (Ab * (wrap64 (36 - Ac)))) > 2147483647 then (some (([] : List Int), 11)) else (br k x0 (wrap64 (x4 + 1)) x5 x7 (wrap64 (x8 + (wrap64 (Aa * Ab)))) x9 Af Ag (wrap64 (Ab * (wrap64 (36 - Ac)))) (wrap64 (Ah + 36)))))))) else (none)) else (none))
end
def bO (k : Nat) (a0 : ByteArray) : Option (List Int × Int) := (b2 k a0).bind fun t178 => (aE k a0 t178 (([] : List Int)) 0)
theorem cC (k : Nat) (a0 : ByteArray) (r1 : List Int) (r2 : Int) (w : World) (h : bO k a0 = some (r1, r2)) :
    Calls Try.prog 8 #[.string a0] w fun e w' => ∃ v0_ : Value, e = .returned (.tuple #[v0_, .int .i64 r2]) ∧ Kd.R (Kd.int .i64) 3 w' w.heap.size (fun _ => True) v0_ r1 ∧ Below w.heap.size w w' := by
 have HB := Zz.mk (Below.refl w.heap.size w)
 have H : ((b2 k a0).bind fun Ao => (aE k a0 Ao (([] : List Int)) 0)) = some (r1, r2) := h
 clear h
 replace H := Option.bind_eq_some_iff.mp H
 obtain ⟨Ao, A20, H⟩ := H
 try dsimp only at H
 have A2 := Zz.mk A20
 clear A20
 obtain ⟨Az, Ap⟩ : ∃ y_ : List Int, y_ = (([] : List Int)) := ⟨_, rfl⟩
 replace H : (aE k a0 Ao Az 0) = some (r1, r2) := by first | (rw [Ap]; with_reducible exact H) | (have H2_ := (Option.bind_some _ _).symm.trans H; rw [Ap]; with_reducible exact H2_) | (have H2_ := (Option.bind_some _ _).symm.trans H; with_reducible exact H2_) | with_reducible exact H | (rw [Ap]; exact H) | exact H
 have Aw := Zz.mk Ap
 clear Ap
 have H' := Zz.mk H
 clear H
 go_enter Try.func8, Try.ntmps8
 go_wp2_with (first | ((with_reducible refine ae (f := 22) rfl ?_); refine xgl 18 Try.func22 #[.string a0] ?_; (with_reducible refine (cU k a0 Ao _ A2.out).mono ?_); rintro e w' ⟨rfl, ⟨nd, rfl⟩⟩; refine ⟨_, rfl, ?_⟩) | ((with_reducible refine aW (N := 19) rfl ?_); refine Kd.R_lit (Kd.int .i64) _ 3 ?hg (N := 19) ?hd (xs := ([] : List Int)) (inner := []) (ok := fun _ => True) (okp := fun _ => True) ?hr ?hp (fun _ hk => hk) trivial (Below.refl _ _) (Nat.le_refl _) (by simp) ?_; (case hd => rfl); (case hg => rfl); (case hr => first | (go_simp; done) | (go_simp; rfl)); (case hp => exact (Reps.none _ _)); intro v180 w3 ho4 hb hg_ hnew_; clear hg_ hnew_; (first | rw [← Aw.out] at ho4 | (simp only [Int.reduceToNat] at ho4; rw [← Aw.out] at ho4)); have AA := Zz.mk (Kd.R_lower ho4 (af xbl)); replace HB := xst hb; clear hb ho4))
 go_loopg [5, 6] k (fun kq v5 v6 w' => ∃ (At : List Int) (Ag : Int), v6 = .int .i64 Ag ∧ Zz (aE kq a0 Ao At Ag = some (r1, r2)) ∧ Zz (kq ≤ k) ∧ Zz (Kd.R (Kd.int .i64) 3 w' w.heap.size (fun _ => True) v5 At) ∧ Zz (Below w.heap.size w w'))
 case atStart => exact ⟨(Az), (0), xrr, H', ⟨Nat.le_refl _⟩, ⟨xkd AA⟩, ⟨xbl⟩⟩
 case round =>
  clear H'
  obtain ⟨At, Ag, rfl, HA, HK1, Ad, HB⟩ := hrel
  cases gk with
  | zero => exact absurd HA.out (by simp [aE])
  | succ k1 =>
   have H := HA.out
   clear HA
   simp only [aE] at H
   by_cases c5 : (wrap64 (Ag + 1)) < Ao
   ·
    rw [if_pos c5] at H
    have AB := decide_eq_true c5
    clear c5
    by_cases c6 : 0 ≤ Ag
    ·
     rw [if_pos c6] at H
     have A0 := decide_eq_true c6
     clear c6
     by_cases c7 : Ag < (a0.size : Int)
     ·
      rw [if_pos c7] at H
      have A1 := decide_eq_true c7
      clear c7
      by_cases c9 : (bt a0 Ag) > 127
      ·
       rw [if_pos c9] at H
       have AQ := decide_eq_true c9
       clear c9
       simp only [Option.some.injEq, Prod.mk.injEq] at H
       obtain ⟨rfl, rfl⟩ := H
       have p8 : 0 ≤ (Ag : Int) := xod
       have q8 : Ag < (a0.size : Int) := xod
       have hx8 := be a0 Ag
       replace p8 := eq_true p8
       replace q8 := eq_true q8
       try (have AR := q8; simp only [ByteArray.size_extract, Nat.min_self] at AR)
       go_wp2
       go_ret2
       exact ⟨_, by first | rfl | (simp [ai, aj] <;> first | rfl | (simp only [aD, bne, Bool.not_not]; done)) | (simp [*, ai, aj] <;> rfl), by first | exact Kd.R_nil _ _ _ _ _ | exact Kd.N_nil _ _ _ _ _ | exact Kd.V_nil _ _ _ _ _ | exact Kd.Q_nil _ _ _ _ _ | exact Kd.S_nil _ _ _ _ _, xbl⟩
      ·
       rw [if_neg c9] at H
       have AQ := decide_eq_false c9
       clear c9
       by_cases c11 : At.length < 17592186044416
       ·
        rw [if_pos c11] at H
        have LMc11 := Zz.mk c11
        clear c11
        obtain ⟨AC, Aq⟩ : ∃ y_ : List Int, y_ = (At ++ [wrap64 (bt a0 Ag)]) := ⟨_, rfl⟩
        replace H : (aE k1 a0 Ao AC (wrap64 (Ag + 1))) = some (r1, r2) := by first | (rw [Aq]; with_reducible exact H) | (have H2_ := (Option.bind_some _ _).symm.trans H; rw [Aq]; with_reducible exact H2_) | (have H2_ := (Option.bind_some _ _).symm.trans H; with_reducible exact H2_) | with_reducible exact H | (rw [Aq]; exact H) | exact H
        have AD := Zz.mk Aq
        clear Aq
        have H' := Zz.mk H
        clear H
        have p8 : 0 ≤ (Ag : Int) := xod
        have q8 : Ag < (a0.size : Int) := xod
        have hx8 := be a0 Ag
        replace p8 := eq_true p8
        replace q8 := eq_true q8
        try (have AR := q8; simp only [ByteArray.size_extract, Nat.min_self] at AR)
        have p10 : 0 ≤ (Ag : Int) := xod
        have q10 : Ag < (a0.size : Int) := xod
        have hx10 := be a0 Ag
        replace p10 := eq_true p10
        replace q10 := eq_true q10
        try (have AS := q10; simp only [ByteArray.size_extract, Nat.min_self] at AS)
        go_wp2_with (first | ((with_reducible refine bo (b := .append) (xs := #[.tmp 30, .tmp 35]) rfl ?_); at_builtin; refine Kd.R_append (Kd.int .i64) (w0 := w) w.heap.size rfl (.tmp 30) (.tmp 35) 27 3 (.int .i64 0) 8 rfl Try.underlying27 cY rfl (by decide) (by omega) u5 At (wrap64 (bt a0 Ag)) [.int .i64 (wrap64 (bt a0 Ag))] (fun _ => True) (fun _ => False) rfl rfl ?aP (fun _ hk => hk.elim) ?aF ?aO ?aB ?aS ?aL ?_; (case aP => exact rfl); (case aB => exact xbl); (case aF => exact (fun _ _ => trivial)); (case aO => exact (xkd Ad)); (case aS => exact (af xbl)); (case aL => have := LMc11.out; first | omega | exact Nat.le_of_lt this); intro v183 w12 ho hb hg hat; rw [← AD.out] at ho; have n0_ := Zz.mk (hb); have n1_ := Zz.mk (ho); clear HB; clear Ad; have HB := n0_; have AE := n1_; clear n0_ n1_; clear ho hb hg hat))
        go_roundg k1
        case measure => have := HK1.out; omega
        case rel => exact ⟨(AC), (wrap64 (Ag + 1)), xrr, H', ⟨by have := HK1.out; omega⟩, ⟨xkd AE⟩, ⟨xbl⟩⟩
       ·
        rw [if_neg c11] at H
        exact absurd H (by simp)
     ·
      rw [if_neg c7] at H
      exact absurd H (by simp)
    ·
     rw [if_neg c6] at H
     exact absurd H (by simp)
   ·
    rw [if_neg c5] at H
    have AB := decide_eq_false c5
    clear c5
    have H' := Zz.mk H
    clear H
    go_wp2
    go_loopg [4, 5, 7, 8, 9, 10] k1 (fun kq v4 v5 v7 v8 v9 v10 w' => ∃ (Au : Int) (Ac : List Int) (Am : Int) (Ak : Int) (Aj : Int) (Ai : Bool), v4 = .int .i64 Au ∧ v7 = .int .i64 Am ∧ v8 = .int .i64 Ak ∧ v9 = .int .i64 Aj ∧ v10 = .bool Ai ∧ Zz (bq kq a0 Au Ac Am Ak Aj Ai = some (r1, r2)) ∧ Zz (kq ≤ k1) ∧ Zz (Kd.R (Kd.int .i64) 3 w' w.heap.size (fun _ => True) v5 Ac) ∧ Zz (Below w.heap.size w w'))
    case atStart => exact ⟨(Ao), (At), (128), (0), (72), (false), xrr, xrr, xrr, xrr, xrr, H', ⟨Nat.le_refl _⟩, ⟨xkd Ad⟩, ⟨xbl⟩⟩
    case round =>
     clear H'
     clear AB
     obtain ⟨Au, Ac, Am, Ak, Aj, Ai, rfl, rfl, rfl, rfl, rfl, HA, HK2, Ad, HB⟩ := hrel
     cases gk with
     | zero => exact absurd HA.out (by simp [bq])
     | succ k2 =>
      have H := HA.out
      clear HA
      simp only [bq] at H
      by_cases c13 : Au < (a0.size : Int)
      ·
       rw [if_pos c13] at H
       have Ax := decide_eq_true c13
       clear c13
       have H' := Zz.mk H
       clear H
       go_wp2
       go_loopg [4, 8, 12, 13] k2 (fun kq v4 v8 v12 v13 w' => ∃ (Aa : Int) (Ah : Int) (Ab : Int) (Ae : Int), v4 = .int .i64 Aa ∧ v8 = .int .i64 Ah ∧ v12 = .int .i64 Ab ∧ v13 = .int .i64 Ae ∧ Zz (br kq a0 Aa Ac Am Ah Aj Ai Ak Ab Ae = some (r1, r2)) ∧ Zz (kq ≤ k2) ∧ Zz (Kd.R (Kd.int .i64) 3 w' w.heap.size (fun _ => True) u5 Ac) ∧ Zz (Below w.heap.size w w'))
       case atStart => exact ⟨(Au), (Ak), (1), (36), xrr, xrr, xrr, xrr, H', ⟨Nat.le_refl _⟩, ⟨xkd Ad⟩, ⟨xbl⟩⟩
       case round =>
        clear H'
        clear Ax
        obtain ⟨Aa, Ah, Ab, Ae, rfl, rfl, rfl, rfl, HA, HK3, Ad, HB⟩ := hrel
        cases gk with
        | zero => exact absurd HA.out (by simp [br])
        | succ k3 =>
         have H := HA.out
         clear HA
         simp only [br] at H
         have Ay := Zz.mk H
         clear H
         go_upto_region 15 with (fail)
         go_cut [52] (fun v52 wc => ∃ (kq : Nat) (An : Bool), v52 = .bool An ∧ Zz (bp kq a0 Aa Ac Am Ah Aj Ai Ak Ab Ae An = some (r1, r2)) ∧ Zz (kq ≤ k3) ∧ Zz (Kd.R (Kd.int .i64) 3 wc w.heap.size (fun _ => True) u5 Ac) ∧ Zz (Below w.heap.size w wc))
         case first =>
          have H := Ay.out
          clear Ay
          by_cases c15 : Aa ≥ (a0.size : Int)
          ·
           rw [if_pos c15] at H
           have Ar := decide_eq_true c15
           clear c15
           (first | rw [Ar] | (simp only [bG, bF]; rw [Ar]) | (rw [AF]; (try simp only [Bool.not_false, Bool.not_true])) | (rw [AG]; (try simp only [Bool.not_false, Bool.not_true])) | rw [AH] | skip)
           have H' := Zz.mk H
           clear H
           go_wp2
           go_meet
           case rel => exact ⟨_, (true), xrr, H', ⟨by have := HK1.out; have := HK2.out; have := HK3.out; first | omega | exact Nat.le_refl _⟩, ⟨xkd Ad⟩, ⟨xbl⟩⟩
          ·
           rw [if_neg c15] at H
           have Ar := decide_eq_false c15
           clear c15
           (first | rw [Ar] | (simp only [bG, bF]; rw [Ar]) | (rw [AF]; (try simp only [Bool.not_false, Bool.not_true])) | (rw [AG]; (try simp only [Bool.not_false, Bool.not_true])) | rw [AH] | skip)
           by_cases c16 : 0 ≤ Aa
           ·
            rw [if_pos c16] at H
            have AU := decide_eq_true c16
            clear c16
            by_cases c17 : Aa < (a0.size : Int)
            ·
             rw [if_pos c17] at H
             have AV := decide_eq_true c17
             clear c17
             replace H := Option.bind_eq_some_iff.mp H
             obtain ⟨AI, A190, H⟩ := H
             try dsimp only at H
             have A19 := Zz.mk A190
             clear A190
             have H' := Zz.mk H
             clear H
             have p18 : 0 ≤ (Aa : Int) := xod
             have q18 : Aa < (a0.size : Int) := xod
             have hx18 := be a0 Aa
             replace p18 := eq_true p18
             replace q18 := eq_true q18
             try (have AT := q18; simp only [ByteArray.size_extract, Nat.min_self] at AT)
             go_wp2_with (first | (go_at_call 12; (with_reducible refine (ah k3 (bt a0 Aa) AI _ A19.out).mono ?_); rintro e w' ⟨rfl, ⟨nd, rfl⟩⟩))
             go_meet
             case rel => exact ⟨_, (decide (AI < 0)), xrr, H', ⟨by have := HK1.out; have := HK2.out; have := HK3.out; first | omega | exact Nat.le_refl _⟩, ⟨xkd Ad⟩, ⟨xbl⟩⟩
            ·
             rw [if_neg c17] at H
             exact absurd H (by simp)
           ·
            rw [if_neg c16] at H
            exact absurd H (by simp)
         case rest =>
          clear Ay
          obtain ⟨kq, An, rfl, HA, HJ13, Ad, HB⟩ := hcut
          cases kq with
          | zero => exact absurd HA.out (by simp [bp])
          | succ kj13 =>
           have H := HA.out
           clear HA
           simp only [bp] at H
           by_cases c20 : An = true
           ·
            subst c20
            rw [if_pos rfl] at H
            simp only [Option.some.injEq, Prod.mk.injEq] at H
            obtain ⟨rfl, rfl⟩ := H
            go_wp2
            go_ret2
            exact ⟨_, by first | rfl | (simp [ai, aj] <;> first | rfl | (simp only [aD, bne, Bool.not_not]; done)) | (simp [*, ai, aj] <;> rfl), by first | exact Kd.R_nil _ _ _ _ _ | exact Kd.N_nil _ _ _ _ _ | exact Kd.V_nil _ _ _ _ _ | exact Kd.Q_nil _ _ _ _ _ | exact Kd.S_nil _ _ _ _ _, xbl⟩
           ·
            replace c20 := Bool.eq_false_iff.mpr c20
            subst c20
            rw [if_neg (show ¬ (false = true) by decide)] at H
            by_cases c21 : 0 ≤ Aa
            ·
             rw [if_pos c21] at H
             have AW := decide_eq_true c21
             clear c21
             by_cases c22 : Aa < (a0.size : Int)
             ·
              rw [if_pos c22] at H
              have AX := decide_eq_true c22
              clear c22
              replace H := Option.bind_eq_some_iff.mp H
              obtain ⟨Af, A240, H⟩ := H
              try dsimp only at H
              have A24 := Zz.mk A240
              clear A240
              by_cases c25 : (wrap64 (Ah + (wrap64 (Af * Ab)))) > 2147483647
              ·
               rw [if_pos c25] at H
               have AJ := decide_eq_true c25
               clear c25
               simp only [Option.some.injEq, Prod.mk.injEq] at H
               obtain ⟨rfl, rfl⟩ := H
               have p23 : 0 ≤ (Aa : Int) := xod
               have q23 : Aa < (a0.size : Int) := xod
               have hx23 := be a0 Aa
               replace p23 := eq_true p23
               replace q23 := eq_true q23
               try (have Al := q23; simp only [ByteArray.size_extract, Nat.min_self] at Al)
               go_wp2_with (first | ((with_reducible refine ae (f := 12) rfl ?_); refine xgl 56 Try.func12 #[.int .u8 (bt a0 Aa)] ?_; (with_reducible refine (ah kj13 (bt a0 Aa) Af _ A24.out).mono ?_); rintro e w' ⟨rfl, ⟨nd, rfl⟩⟩; refine ⟨_, rfl, ?_⟩))
               go_ret2
               exact ⟨_, by first | rfl | (simp [ai, aj] <;> first | rfl | (simp only [aD, bne, Bool.not_not]; done)) | (simp [*, ai, aj] <;> rfl), by first | exact Kd.R_nil _ _ _ _ _ | exact Kd.N_nil _ _ _ _ _ | exact Kd.V_nil _ _ _ _ _ | exact Kd.Q_nil _ _ _ _ _ | exact Kd.S_nil _ _ _ _ _, xbl⟩
              ·
               rw [if_neg c25] at H
               have AJ := decide_eq_false c25
               clear c25
               replace H := Option.bind_eq_some_iff.mp H
               obtain ⟨As, A260, H⟩ := H
               try dsimp only at H
               have A26 := Zz.mk A260
               clear A260
               by_cases c27 : Af < As
               ·
                rw [if_pos c27] at H
                have AK := decide_eq_true c27
                clear c27
                replace H := Option.bind_eq_some_iff.mp H
                obtain ⟨Av, A280, H⟩ := H
                try dsimp only at H
                have A28 := Zz.mk A280
                clear A280
                by_cases c29 : (wrap64 ((Ac.length : Int) + 1)) = 0
                ·
                 rw [if_pos c29] at H
                 exact absurd H (by simp)
                ·
                 rw [if_neg c29] at H
                 have AY : ((wrap64 ((Ac.length : Int) + 1)) == 0) = false := beq_eq_false_iff_ne.mpr c29
                 have AZ : ((wrap64 ((Ac.length : Int) + 1)) != 0) = true := bne_iff_ne.mpr c29
                 by_cases c30 : (wrap64 (Am + (wrap64 (Int.tdiv (wrap64 (Ah + (wrap64 (Af * Ab)))) (wrap64 ((Ac.length : Int) + 1)))))) > 2147483647
                 ·
                  rw [if_pos c30] at H
                  have AL := decide_eq_true c30
                  clear c30
                  simp only [Option.some.injEq, Prod.mk.injEq] at H
                  obtain ⟨rfl, rfl⟩ := H
                  have p23 : 0 ≤ (Aa : Int) := xod
                  have q23 : Aa < (a0.size : Int) := xod
                  have hx23 := be a0 Aa
                  replace p23 := eq_true p23
                  replace q23 := eq_true q23
                  try (have Al := q23; simp only [ByteArray.size_extract, Nat.min_self] at Al)
                  go_wp2_with (first | ((with_reducible refine ae (f := 12) rfl ?_); refine xgl 56 Try.func12 #[.int .u8 (bt a0 Aa)] ?_; (with_reducible refine (ah kj13 (bt a0 Aa) Af _ A24.out).mono ?_); rintro e w' ⟨rfl, ⟨nd, rfl⟩⟩; refine ⟨_, rfl, ?_⟩) | ((with_reducible refine ae (f := 15) rfl ?_); refine xgl 72 Try.func15 #[.int .i64 Ae, .int .i64 Aj] ?_; (with_reducible refine (aH Ae Aj As _ A26.out).mono ?_); rintro e w' ⟨rfl, ⟨nd, rfl⟩⟩; refine ⟨_, rfl, ?_⟩; obtain ⟨Ao31, co31, eo31⟩ := Kd.R_slice Ad.out; subst eo31) | ((with_reducible refine ae (f := 17) rfl ?_); refine xgl 93 Try.func17 #[.int .i64 (wrap64 ((wrap64 (Ah + (wrap64 (Af * Ab)))) - Ak)), .int .i64 (wrap64 ((Ac.length : Int) + 1)), .bool (!Ai)] ?_; (with_reducible refine (bx kj13 (wrap64 ((wrap64 (Ah + (wrap64 (Af * Ab)))) - Ak)) (wrap64 ((Ac.length : Int) + 1)) (!Ai) Av _ A28.out).mono ?_); rintro e w32 ⟨rfl, hb⟩; refine ⟨_, rfl, ?_⟩; replace Ad := Zz.mk (Kd.R_below (xkd Ad) hb); replace HB := xst hb; (try clear hb)))
                  go_ret2
                  exact ⟨_, by first | rfl | (simp [ai, aj] <;> first | rfl | (simp only [aD, bne, Bool.not_not]; done)) | (simp [*, ai, aj] <;> rfl), by first | exact Kd.R_nil _ _ _ _ _ | exact Kd.N_nil _ _ _ _ _ | exact Kd.V_nil _ _ _ _ _ | exact Kd.Q_nil _ _ _ _ _ | exact Kd.S_nil _ _ _ _ _, xbl⟩
                 ·
                  rw [if_neg c30] at H
                  have AL := decide_eq_false c30
                  clear c30
                  by_cases c33 : (wrap64 (Am + (wrap64 (Int.tdiv (wrap64 (Ah + (wrap64 (Af * Ab)))) (wrap64 ((Ac.length : Int) + 1)))))) > 1114111
                  ·
                   rw [if_pos c33] at H
                   have AM := decide_eq_true c33
                   clear c33
                   simp only [Option.some.injEq, Prod.mk.injEq] at H
                   obtain ⟨rfl, rfl⟩ := H
                   have p23 : 0 ≤ (Aa : Int) := xod
                   have q23 : Aa < (a0.size : Int) := xod
                   have hx23 := be a0 Aa
                   replace p23 := eq_true p23
                   replace q23 := eq_true q23
                   try (have Al := q23; simp only [ByteArray.size_extract, Nat.min_self] at Al)
                   go_wp2_with (first | ((with_reducible refine ae (f := 12) rfl ?_); refine xgl 56 Try.func12 #[.int .u8 (bt a0 Aa)] ?_; (with_reducible refine (ah kj13 (bt a0 Aa) Af _ A24.out).mono ?_); rintro e w' ⟨rfl, ⟨nd, rfl⟩⟩; refine ⟨_, rfl, ?_⟩) | ((with_reducible refine ae (f := 15) rfl ?_); refine xgl 72 Try.func15 #[.int .i64 Ae, .int .i64 Aj] ?_; (with_reducible refine (aH Ae Aj As _ A26.out).mono ?_); rintro e w' ⟨rfl, ⟨nd, rfl⟩⟩; refine ⟨_, rfl, ?_⟩; obtain ⟨Ao34, co34, eo34⟩ := Kd.R_slice Ad.out; subst eo34) | ((with_reducible refine ae (f := 17) rfl ?_); refine xgl 93 Try.func17 #[.int .i64 (wrap64 ((wrap64 (Ah + (wrap64 (Af * Ab)))) - Ak)), .int .i64 (wrap64 ((Ac.length : Int) + 1)), .bool (!Ai)] ?_; (with_reducible refine (bx kj13 (wrap64 ((wrap64 (Ah + (wrap64 (Af * Ab)))) - Ak)) (wrap64 ((Ac.length : Int) + 1)) (!Ai) Av _ A28.out).mono ?_); rintro e w35 ⟨rfl, hb⟩; refine ⟨_, rfl, ?_⟩; replace Ad := Zz.mk (Kd.R_below (xkd Ad) hb); replace HB := xst hb; (try clear hb)))
                   go_ret2
                   exact ⟨_, by first | rfl | (simp [ai, aj] <;> first | rfl | (simp only [aD, bne, Bool.not_not]; done)) | (simp [*, ai, aj] <;> rfl), by first | exact Kd.R_nil _ _ _ _ _ | exact Kd.N_nil _ _ _ _ _ | exact Kd.V_nil _ _ _ _ _ | exact Kd.Q_nil _ _ _ _ _ | exact Kd.S_nil _ _ _ _ _, xbl⟩
                  ·
                   rw [if_neg c33] at H
                   have AM := decide_eq_false c33
                   clear c33
                   replace H := Option.bind_eq_some_iff.mp H
                   obtain ⟨AN, A360, H⟩ := H
                   try dsimp only at H
                   have A36 := Zz.mk A360
                   clear A360
                   have H' := Zz.mk H
                   clear H
                   have p23 : 0 ≤ (Aa : Int) := xod
                   have q23 : Aa < (a0.size : Int) := xod
                   have hx23 := be a0 Aa
                   replace p23 := eq_true p23
                   replace q23 := eq_true q23
                   try (have Al := q23; simp only [ByteArray.size_extract, Nat.min_self] at Al)
                   go_wp2_with (first | ((with_reducible refine ae (f := 12) rfl ?_); refine xgl 56 Try.func12 #[.int .u8 (bt a0 Aa)] ?_; (with_reducible refine (ah kj13 (bt a0 Aa) Af _ A24.out).mono ?_); rintro e w' ⟨rfl, ⟨nd, rfl⟩⟩; refine ⟨_, rfl, ?_⟩) | ((with_reducible refine ae (f := 15) rfl ?_); refine xgl 72 Try.func15 #[.int .i64 Ae, .int .i64 Aj] ?_; (with_reducible refine (aH Ae Aj As _ A26.out).mono ?_); rintro e w' ⟨rfl, ⟨nd, rfl⟩⟩; refine ⟨_, rfl, ?_⟩; obtain ⟨Ao37, co37, eo37⟩ := Kd.R_slice Ad.out; subst eo37) | ((with_reducible refine ae (f := 17) rfl ?_); refine xgl 93 Try.func17 #[.int .i64 (wrap64 ((wrap64 (Ah + (wrap64 (Af * Ab)))) - Ak)), .int .i64 (wrap64 ((Ac.length : Int) + 1)), .bool (!Ai)] ?_; (with_reducible refine (bx kj13 (wrap64 ((wrap64 (Ah + (wrap64 (Af * Ab)))) - Ak)) (wrap64 ((Ac.length : Int) + 1)) (!Ai) Av _ A28.out).mono ?_); rintro e w38 ⟨rfl, hb⟩; refine ⟨_, rfl, ?_⟩; replace Ad := Zz.mk (Kd.R_below (xkd Ad) hb); replace HB := xst hb; (try clear hb)) | ((with_reducible refine ae (f := 23) rfl ?_); refine xgl 109 Try.func23 #[.slice Ao37 Ac.length co37, .int .i64 (Int.tmod (wrap64 (Ah + (wrap64 (Af * Ab)))) (wrap64 ((Ac.length : Int) + 1))), .int .i64 (wrap64 (Am + (wrap64 (Int.tdiv (wrap64 (Ah + (wrap64 (Af * Ab)))) (wrap64 ((Ac.length : Int) + 1))))))] ?_; (with_reducible refine (cV _ _ Ac (Int.tmod (wrap64 (Ah + (wrap64 (Af * Ab)))) (wrap64 ((Ac.length : Int) + 1))) (wrap64 (Am + (wrap64 (Int.tdiv (wrap64 (Ah + (wrap64 (Af * Ab)))) (wrap64 ((Ac.length : Int) + 1)))))) AN _ ?side1 ?side2 A36.out).mono ?_); (case side1 => repeat (first | exact (Kd.R_reads' Ad.out).2.2 | (with_reducible refine Kd.C_alloc ?_ _) | (with_reducible refine Kd.C_drewN ?_ _) | (with_reducible refine Kd.C_drew ?_))); (case side2 => exact (Kd.R_reads' Ad.out).2.1); rintro e w39 ⟨v190, rfl, ho0, hb⟩; refine ⟨_, rfl, ?_⟩; have AO := Zz.mk (Kd.R_lower (Kd.R_new' ho0 (Kd.R_lt (xkd Ad))) (af xbl)); replace Ad := Zz.mk (Kd.R_elder' (xkd Ad) (Kd.R_base ho0) hb); replace HB := xst hb; (try clear hb); (try clear ho0)))
                   go_roundg kj13
                   case measure => have := HK1.out; have := HK2.out; have := HK3.out; have := HJ13.out; omega
                   case rel => exact ⟨(wrap64 (Aa + 1)), (AN), (wrap64 (Am + (wrap64 (Int.tdiv (wrap64 (Ah + (wrap64 (Af * Ab)))) (wrap64 ((Ac.length : Int) + 1)))))), (wrap64 ((Int.tmod (wrap64 (Ah + (wrap64 (Af * Ab)))) (wrap64 ((Ac.length : Int) + 1))) + 1)), (Av), (true), xrr, xrr, xrr, xrr, xrr, H', ⟨by have := HK1.out; have := HK2.out; have := HK3.out; have := HJ13.out; omega⟩, ⟨by (with_reducible repeat (first | apply Kd.R_alloc | apply Kd.R_drewN | apply Kd.R_drew)); exact Kd.R_mono AO.out (fun _ hk => trivial)⟩, ⟨xbl⟩⟩
               ·
                rw [if_neg c27] at H
                have AK := decide_eq_false c27
                clear c27
                by_cases c40 : (wrap64 (Ab * (wrap64 (36 - As)))) > 2147483647
                ·
                 rw [if_pos c40] at H
                 have AP := decide_eq_true c40
                 clear c40
                 simp only [Option.some.injEq, Prod.mk.injEq] at H
                 obtain ⟨rfl, rfl⟩ := H
                 have p23 : 0 ≤ (Aa : Int) := xod
                 have q23 : Aa < (a0.size : Int) := xod
                 have hx23 := be a0 Aa
                 replace p23 := eq_true p23
                 replace q23 := eq_true q23
                 try (have Al := q23; simp only [ByteArray.size_extract, Nat.min_self] at Al)
                 go_wp2_with (first | ((with_reducible refine ae (f := 12) rfl ?_); refine xgl 56 Try.func12 #[.int .u8 (bt a0 Aa)] ?_; (with_reducible refine (ah kj13 (bt a0 Aa) Af _ A24.out).mono ?_); rintro e w' ⟨rfl, ⟨nd, rfl⟩⟩; refine ⟨_, rfl, ?_⟩) | ((with_reducible refine ae (f := 15) rfl ?_); refine xgl 72 Try.func15 #[.int .i64 Ae, .int .i64 Aj] ?_; (with_reducible refine (aH Ae Aj As _ A26.out).mono ?_); rintro e w' ⟨rfl, ⟨nd, rfl⟩⟩; refine ⟨_, rfl, ?_⟩))
                 go_ret2
                 exact ⟨_, by first | rfl | (simp [ai, aj] <;> first | rfl | (simp only [aD, bne, Bool.not_not]; done)) | (simp [*, ai, aj] <;> rfl), by first | exact Kd.R_nil _ _ _ _ _ | exact Kd.N_nil _ _ _ _ _ | exact Kd.V_nil _ _ _ _ _ | exact Kd.Q_nil _ _ _ _ _ | exact Kd.S_nil _ _ _ _ _, xbl⟩
                ·
                 rw [if_neg c40] at H
                 have AP := decide_eq_false c40
                 clear c40
                 have H' := Zz.mk H
                 clear H
                 have p23 : 0 ≤ (Aa : Int) := xod
                 have q23 : Aa < (a0.size : Int) := xod
                 have hx23 := be a0 Aa
                 replace p23 := eq_true p23
                 replace q23 := eq_true q23
                 try (have Al := q23; simp only [ByteArray.size_extract, Nat.min_self] at Al)
                 go_wp2_with (first | ((with_reducible refine ae (f := 12) rfl ?_); refine xgl 56 Try.func12 #[.int .u8 (bt a0 Aa)] ?_; (with_reducible refine (ah kj13 (bt a0 Aa) Af _ A24.out).mono ?_); rintro e w' ⟨rfl, ⟨nd, rfl⟩⟩; refine ⟨_, rfl, ?_⟩) | ((with_reducible refine ae (f := 15) rfl ?_); refine xgl 72 Try.func15 #[.int .i64 Ae, .int .i64 Aj] ?_; (with_reducible refine (aH Ae Aj As _ A26.out).mono ?_); rintro e w' ⟨rfl, ⟨nd, rfl⟩⟩; refine ⟨_, rfl, ?_⟩))
                 go_roundg kj13
                 case measure => have := HK1.out; have := HK2.out; have := HK3.out; have := HJ13.out; omega
                 case rel => exact ⟨(wrap64 (Aa + 1)), (wrap64 (Ah + (wrap64 (Af * Ab)))), (wrap64 (Ab * (wrap64 (36 - As)))), (wrap64 (Ae + 36)), xrr, xrr, xrr, xrr, H', ⟨by have := HK1.out; have := HK2.out; have := HK3.out; have := HJ13.out; omega⟩, ⟨xkd Ad⟩, ⟨xbl⟩⟩
             ·
              rw [if_neg c22] at H
              exact absurd H (by simp)
            ·
             rw [if_neg c21] at H
             exact absurd H (by simp)
      ·
       rw [if_neg c13] at H
       have Ax := decide_eq_false c13
       clear c13
       simp only [Option.some.injEq, Prod.mk.injEq] at H
       obtain ⟨rfl, rfl⟩ := H
       go_wp2
       go_ret2
       exact ⟨_, by first | rfl | (simp [ai, aj] <;> first | rfl | (simp only [aD, bne, Bool.not_not]; done)) | (simp [*, ai, aj] <;> rfl), by (with_reducible repeat (first | apply Kd.R_alloc | apply Kd.R_drewN | apply Kd.R_drew)); exact Ad.out, xbl⟩
def bj : Nat → List Int → List Int → Int → Option (Bool)
  | 0, _, _, _ => none
  | k + 1, x0, x1, x5 => if x5 < (x0.length : Int) then (if 0 ≤ x5 then (if x5 < (x1.length : Int) then (if (rd x0 x5) = (rd x1 x5) then (bj k x0 x1 (wrap64 (x5 + 1))) else (some false)) else (none)) else (none)) else (some true)
def bY (k : Nat) (l0 : List Int) (l1 : List Int) : Option (Bool) := if (l0.length : Int) = (l1.length : Int) then (bj k l0 l1 0) else (some false)
theorem cL (k : Nat) (A0 : Option Addr) (c0 : Nat) (l0 : List Int) (A1 : Option Addr) (c1 : Nat) (l1 : List Int) (r : Bool) (w : World) (hr0 : Kd.C (Kd.int .i64) w A0 l0.length l0) (hc0 : l0.length ≤ c0) (hr1 : Kd.C (Kd.int .i64) w A1 l1.length l1) (hc1 : l1.length ≤ c1) (h : bY k l0 l1 = some r) :
    Calls Try.prog 9 #[.slice A0 l0.length c0, .slice A1 l1.length c1] w fun e w' => e = .returned (.bool r) ∧ Drawn0 w w' := by
 have HR0 := Zz.mk hr0
 have Ap := Zz.mk hc0
 clear hr0 hc0
 have HR1 := Zz.mk hr1
 have Aq := Zz.mk hc1
 clear hr1 hc1
 have H : (if (l0.length : Int) = (l1.length : Int) then (bj k l0 l1 0) else (some false)) = some r := h
 clear h
 by_cases c3 : (l0.length : Int) = (l1.length : Int)
 ·
  rw [if_pos c3] at H
  have Af : ((l0.length : Int) == (l1.length : Int)) = true := beq_iff_eq.mpr c3
  have Ag : ((l0.length : Int) != (l1.length : Int)) = false := bne_eq_false_iff_eq.mpr c3
  have Ah : (l0.length == l1.length) = true := by first | simpa using c3 | (simp at c3 ⊢; omega)
  clear c3
  have H' := Zz.mk H
  clear H
  go_enter Try.func9, Try.ntmps9
  go_wp2
  repeat (go_quiet (fail); try go_wp2)
  go_loopg [5] k (fun kq v5 w' => ∃ (Aa : Int), v5 = .int .i64 Aa ∧ Zz (bj kq l0 l1 Aa = some r) ∧ Zz (kq ≤ k) ∧ Drawn0 w w')
  case atStart => exact ⟨(0), xrr, H', ⟨Nat.le_refl _⟩, xdr⟩
  case round =>
   clear H'
   clear Af Ag Ah
   obtain ⟨Aa, rfl, HA, HK1, ⟨m1, rfl⟩⟩ := hrel
   cases gk with
   | zero => exact absurd HA.out (by simp [bj])
   | succ k1 =>
    have H := HA.out
    clear HA
    simp only [bj] at H
    by_cases c4 : Aa < (l0.length : Int)
    ·
     rw [if_pos c4] at H
     have Ak := decide_eq_true c4
     clear c4
     by_cases c5 : 0 ≤ Aa
     ·
      rw [if_pos c5] at H
      have An := decide_eq_true c5
      clear c5
      by_cases c6 : Aa < (l1.length : Int)
      ·
       rw [if_pos c6] at H
       have Ao := decide_eq_true c6
       clear c6
       by_cases c7 : (rd l0 Aa) = (rd l1 Aa)
       ·
        rw [if_pos c7] at H
        have Al : ((rd l0 Aa) == (rd l1 Aa)) = true := beq_iff_eq.mpr c7
        have Am : ((rd l0 Aa) != (rd l1 Aa)) = false := bne_eq_false_iff_eq.mpr c7
        clear c7
        have H' := Zz.mk H
        clear H
        have p192 : 0 ≤ (Aa : Int) := xod
        have q192 : Aa < (l0.length : Int) := xod
        obtain ⟨Ai, e192, Ad⟩ := Kd.at_int HR0.out Aa p192 q192
        cases e192
        replace p192 := eq_true p192
        replace q192 := eq_true q192
        try (have Ab := q192; simp only [ByteArray.size_extract, Nat.min_self] at Ab)
        have p193 : 0 ≤ (Aa : Int) := xod
        have q193 : Aa < (l1.length : Int) := xod
        obtain ⟨Aj, e193, Ae⟩ := Kd.at_int HR1.out Aa p193 q193
        cases e193
        replace p193 := eq_true p193
        replace q193 := eq_true q193
        try (have Ac := q193; simp only [ByteArray.size_extract, Nat.min_self] at Ac)
        go_wp2
        repeat (go_quiet (fail); try go_wp2)
        go_roundg k1
        case measure => have := HK1.out; omega
        case rel => exact ⟨(wrap64 (Aa + 1)), xrr, H', ⟨by have := HK1.out; omega⟩, xdr⟩
       ·
        rw [if_neg c7] at H
        have Al : ((rd l0 Aa) == (rd l1 Aa)) = false := beq_eq_false_iff_ne.mpr c7
        have Am : ((rd l0 Aa) != (rd l1 Aa)) = true := bne_iff_ne.mpr c7
        obtain rfl := Option.some.inj H
        have p192 : 0 ≤ (Aa : Int) := xod
        have q192 : Aa < (l0.length : Int) := xod
        obtain ⟨Ai, e192, Ad⟩ := Kd.at_int HR0.out Aa p192 q192
        cases e192
        replace p192 := eq_true p192
        replace q192 := eq_true q192
        try (have Ab := q192; simp only [ByteArray.size_extract, Nat.min_self] at Ab)
        have p193 : 0 ≤ (Aa : Int) := xod
        have q193 : Aa < (l1.length : Int) := xod
        obtain ⟨Aj, e193, Ae⟩ := Kd.at_int HR1.out Aa p193 q193
        cases e193
        replace p193 := eq_true p193
        replace q193 := eq_true q193
        try (have Ac := q193; simp only [ByteArray.size_extract, Nat.min_self] at Ac)
        go_wp2
        repeat (go_quiet (fail); try go_wp2)
        go_ret
        exact ⟨xrr, xdr⟩
      ·
       rw [if_neg c6] at H
       exact absurd H (by simp)
     ·
      rw [if_neg c5] at H
      exact absurd H (by simp)
    ·
     rw [if_neg c4] at H
     have Ak := decide_eq_false c4
     clear c4
     obtain rfl := Option.some.inj H
     go_wp2
     repeat (go_quiet (fail); try go_wp2)
     go_ret
     exact ⟨xrr, xdr⟩
 ·
  rw [if_neg c3] at H
  have Af : ((l0.length : Int) == (l1.length : Int)) = false := beq_eq_false_iff_ne.mpr c3
  have Ag : ((l0.length : Int) != (l1.length : Int)) = true := bne_iff_ne.mpr c3
  have Ah : (l0.length == l1.length) = false := by first | simpa using c3 | (simp at c3 ⊢; omega)
  obtain rfl := Option.some.inj H
  go_enter Try.func9, Try.ntmps9
  go_wp2
  repeat (go_quiet (fail); try go_wp2)
  go_ret
  exact ⟨xrr, xdr⟩
def aN : Nat → List Int → List Int → Int → Int → Option (List Int)
  | 0, _, _, _, _ => none
  | k + 1, x3, x7, x8, x9 => if x9 < x8 then (if 0 ≤ x9 then (if x9 < (x7.length : Int) then (if x3.length < 17592186044416 then (aN k (x3 ++ [wrap64 (rd x7 x9)]) x7 x8 (wrap64 (x9 + 1))) else (none)) else (none)) else (none)) else (some x3)
def bX (k : Nat) (l0 : List Int) : Option (List Int) := aN k (([] : List Int)) l0 (l0.length : Int) 0
theorem cK (k : Nat) (A0 : Option Addr) (c0 : Nat) (l0 : List Int) (r : List Int) (w : World) (hr0 : Kd.C (Kd.int .i32) w A0 l0.length l0) (hc0 : l0.length ≤ c0) (h : bX k l0 = some r) :
    Calls Try.prog 10 #[.slice A0 l0.length c0] w fun e w' => ∃ v0_ : Value, e = .returned (v0_) ∧ Kd.R (Kd.int .i64) 3 w' w.heap.size (fun _ => True) v0_ r ∧ Below w.heap.size w w' := by
 have HR0 := Zz.mk hr0
 have Ar := Zz.mk hc0
 clear hr0 hc0
 have HB := Zz.mk (Below.refl w.heap.size w)
 have H : (aN k (([] : List Int)) l0 (l0.length : Int) 0) = some r := h
 clear h
 obtain ⟨Ah, Ac⟩ : ∃ y_ : List Int, y_ = (([] : List Int)) := ⟨_, rfl⟩
 replace H : (aN k Ah l0 (l0.length : Int) 0) = some r := by first | (rw [Ac]; with_reducible exact H) | (have H2_ := (Option.bind_some _ _).symm.trans H; rw [Ac]; with_reducible exact H2_) | (have H2_ := (Option.bind_some _ _).symm.trans H; with_reducible exact H2_) | with_reducible exact H | (rw [Ac]; exact H) | exact H
 have Af := Zz.mk Ac
 clear Ac
 have H' := Zz.mk H
 clear H
 go_enter Try.func10, Try.ntmps10
 go_wp2_with (first | ((with_reducible refine aW (N := 6) rfl ?_); refine Kd.R_lit (Kd.int .i64) _ 3 ?hg (N := 6) ?hd (xs := ([] : List Int)) (inner := []) (ok := fun _ => True) (okp := fun _ => True) ?hr ?hp (fun _ hk => hk) trivial (Below.refl _ _) (Nat.le_refl _) (by simp) ?_; (case hd => rfl); (case hg => rfl); (case hr => first | (go_simp; done) | (go_simp; rfl)); (case hp => exact (Reps.none _ _)); intro v195 w2 ho3 hb hg_ hnew_; clear hg_ hnew_; (first | rw [← Af.out] at ho3 | (simp only [Int.reduceToNat] at ho3; rw [← Af.out] at ho3)); have Ai := Zz.mk (Kd.R_lower ho3 (af xbl)); replace HB := xst hb; clear hb ho3))
 go_loopg [3, 9] k (fun kq v3 v9 w' => ∃ (Ae : List Int) (Aa : Int), v9 = .int .i64 Aa ∧ Zz (aN kq Ae l0 (l0.length : Int) Aa = some r) ∧ Zz (kq ≤ k) ∧ Zz (Kd.R (Kd.int .i64) 3 w' w.heap.size (fun _ => True) v3 Ae) ∧ Zz (Below w.heap.size w w'))
 case atStart => exact ⟨(Ah), (0), xrr, H', ⟨Nat.le_refl _⟩, ⟨xkd Ai⟩, ⟨xbl⟩⟩
 case round =>
  clear H'
  obtain ⟨Ae, Aa, rfl, HA, HK1, Ag, HB⟩ := hrel
  cases gk with
  | zero => exact absurd HA.out (by simp [aN])
  | succ k1 =>
   have H := HA.out
   clear HA
   simp only [aN] at H
   by_cases c4 : Aa < (l0.length : Int)
   ·
    rw [if_pos c4] at H
    have An := decide_eq_true c4
    clear c4
    by_cases c5 : 0 ≤ Aa
    ·
     rw [if_pos c5] at H
     have Ap := decide_eq_true c5
     clear c5
     by_cases c6 : Aa < (l0.length : Int)
     ·
      rw [if_pos c6] at H
      have Aq := decide_eq_true c6
      clear c6
      by_cases c7 : Ae.length < 17592186044416
      ·
       rw [if_pos c7] at H
       have LMc7 := Zz.mk c7
       clear c7
       obtain ⟨Aj, Ad⟩ : ∃ y_ : List Int, y_ = (Ae ++ [wrap64 (rd l0 Aa)]) := ⟨_, rfl⟩
       replace H : (aN k1 Aj l0 (l0.length : Int) (wrap64 (Aa + 1))) = some r := by first | (rw [Ad]; with_reducible exact H) | (have H2_ := (Option.bind_some _ _).symm.trans H; rw [Ad]; with_reducible exact H2_) | (have H2_ := (Option.bind_some _ _).symm.trans H; with_reducible exact H2_) | with_reducible exact H | (rw [Ad]; exact H) | exact H
       have Ak := Zz.mk Ad
       clear Ad
       have H' := Zz.mk H
       clear H
       have p197 : 0 ≤ (Aa : Int) := xod
       have q197 : Aa < (l0.length : Int) := xod
       obtain ⟨Ao, e197, Ab⟩ := Kd.at_int HR0.out Aa p197 q197
       cases e197
       replace Ab := (HB.out.cell (World.block_lt_of_cell? w _ Ab)).trans Ab
       replace p197 := eq_true p197
       replace q197 := eq_true q197
       try (have Al := q197; simp only [ByteArray.size_extract, Nat.min_self] at Al)
       go_wp2_with (first | ((with_reducible refine bo (b := .append) (xs := #[.tmp 13, .tmp 16]) rfl ?_); at_builtin; refine Kd.R_append (Kd.int .i64) (w0 := w) w.heap.size rfl (.tmp 13) (.tmp 16) 27 3 (.int .i64 0) 8 rfl Try.underlying27 cY rfl (by decide) (by omega) u3 Ae (wrap64 (rd l0 Aa)) [.int .i64 (wrap64 (rd l0 Aa))] (fun _ => True) (fun _ => False) rfl rfl ?aP (fun _ hk => hk.elim) ?aF ?aO ?aB ?aS ?aL ?_; (case aP => exact rfl); (case aB => exact xbl); (case aF => exact (fun _ _ => trivial)); (case aO => exact (xkd Ag)); (case aS => exact (af xbl)); (case aL => have := LMc7.out; first | omega | exact Nat.le_of_lt this); intro v199 w8 ho hb hg hat; rw [← Ak.out] at ho; have n0_ := Zz.mk (hb); have n1_ := Zz.mk (ho); clear HB; clear Ag; have HB := n0_; have Am := n1_; clear n0_ n1_; clear ho hb hg hat))
       go_roundg k1
       case measure => have := HK1.out; omega
       case rel => exact ⟨(Aj), (wrap64 (Aa + 1)), xrr, H', ⟨by have := HK1.out; omega⟩, ⟨xkd Am⟩, ⟨xbl⟩⟩
      ·
       rw [if_neg c7] at H
       exact absurd H (by simp)
     ·
      rw [if_neg c6] at H
      exact absurd H (by simp)
    ·
     rw [if_neg c5] at H
     exact absurd H (by simp)
   ·
    rw [if_neg c4] at H
    have An := decide_eq_false c4
    clear c4
    obtain rfl := Option.some.inj H
    go_wp2
    go_ret
    exact ⟨_, by first | rfl | (simp [ai, aj] <;> first | rfl | (simp only [aD, bne, Bool.not_not]; done)) | (simp [*, ai, aj] <;> rfl), by (with_reducible repeat (first | apply Kd.R_alloc | apply Kd.R_drewN | apply Kd.R_drew)); exact Ag.out, xbl⟩
def bW (k : Nat) (a0 : ByteArray) : Option (Bool) := if (a0.size : Int) > 100 then ((ay k).bind fun Ac => (some Ac)) else ((bh k a0).bind fun Aa => ((bO k a0).bind fun Ab => (if Aa.2 = Ab.2 then ((bX k Aa.1).bind fun Ad => ((bY k Ad Ab.1).bind fun Ae => (if Ae = true then ((ay k).bind fun Af => (some Af)) else (none)))) else (none))))
theorem cd (k : Nat) (a0 : ByteArray) (r : Bool) (w : World) (h : bW k a0 = some r) :
    Calls Try.prog 3 #[.string a0] w fun e w' => e = .returned (.bool r) ∧ Below w.heap.size w w' := by
 have HB := Zz.mk (Below.refl w.heap.size w)
 have H : (if (a0.size : Int) > 100 then ((ay k).bind fun Ai => (some Ai)) else ((bh k a0).bind fun Ag => ((bO k a0).bind fun Ah => (if Ag.2 = Ah.2 then ((bX k Ag.1).bind fun Ad => ((bY k Ad Ah.1).bind fun Aj => (if Aj = true then ((ay k).bind fun Ak => (some Ak)) else (none)))) else (none))))) = some r := h
 clear h
 by_cases c2 : (a0.size : Int) > 100
 ·
  rw [if_pos c2] at H
  have An := decide_eq_true c2
  have Ao : decide (100 < a0.size) = true := decide_eq_true (by omega)
  clear c2
  replace H := Option.bind_eq_some_iff.mp H
  obtain ⟨Ai, A30, H⟩ := H
  try dsimp only at H
  have A3 := Zz.mk A30
  clear A30
  obtain rfl := Option.some.inj H
  go_enter Try.func3, Try.ntmps3
  go_wp2_with (first | ((with_reducible refine ae (f := 6) rfl ?_); refine xgl 10 Try.func6 #[] ?_; (with_reducible refine (bw k  Ai _ A3.out).mono ?_); rintro e w4 ⟨rfl, hb⟩; refine ⟨_, rfl, ?_⟩; replace HB := xst hb; (try clear hb)))
  go_ret
  exact ⟨xre, xbl⟩
 ·
  rw [if_neg c2] at H
  have An := decide_eq_false c2
  have Ao : decide (100 < a0.size) = false := decide_eq_false (by omega)
  clear c2
  replace H := Option.bind_eq_some_iff.mp H
  obtain ⟨⟨Al, Ae⟩, A50, H⟩ := H
  try dsimp only at H
  have A5 := Zz.mk A50
  clear A50
  replace H := Option.bind_eq_some_iff.mp H
  obtain ⟨⟨Am, Af⟩, A60, H⟩ := H
  try dsimp only at H
  have A6 := Zz.mk A60
  clear A60
  by_cases c7 : Ae = Af
  ·
   rw [if_pos c7] at H
   have Ap : (Ae == Af) = true := beq_iff_eq.mpr c7
   have Aq : (Ae != Af) = false := bne_eq_false_iff_eq.mpr c7
   clear c7
   replace H := Option.bind_eq_some_iff.mp H
   obtain ⟨Ad, A80, H⟩ := H
   try dsimp only at H
   have A8 := Zz.mk A80
   clear A80
   replace H := Option.bind_eq_some_iff.mp H
   obtain ⟨Aj, A90, H⟩ := H
   try dsimp only at H
   have A9 := Zz.mk A90
   clear A90
   by_cases c10 : Aj = true
   ·
    subst c10
    rw [if_pos rfl] at H
    replace H := Option.bind_eq_some_iff.mp H
    obtain ⟨Ak, A110, H⟩ := H
    try dsimp only at H
    have A11 := Zz.mk A110
    clear A110
    obtain rfl := Option.some.inj H
    go_enter Try.func3, Try.ntmps3
    go_wp2_with (first | ((with_reducible refine ae (f := 7) rfl ?_); refine xgl 13 Try.func7 #[.string a0] ?_; (with_reducible refine (bb k a0 Al Ae _ A5.out).mono ?_); rintro e w12 ⟨v204, rfl, ho0, hb⟩; refine ⟨_, rfl, ?_⟩; have Aa := Zz.mk (Kd.R_lower ho0 (af xbl)); replace HB := xst hb; (try clear hb); (try clear ho0)) | ((with_reducible refine ae (f := 8) rfl ?_); refine xgl 18 Try.func8 #[.string a0] ?_; (with_reducible refine (cC k a0 Am Af _ A6.out).mono ?_); rintro e w13 ⟨v208, rfl, ho0, hb⟩; refine ⟨_, rfl, ?_⟩; have Ab := Zz.mk (Kd.R_lower ho0 (af xbl)); replace Aa := Zz.mk (Kd.R_below (xkd Aa) hb); replace HB := xst hb; (try clear hb); (try clear ho0); obtain ⟨Ao14, co14, eo14⟩ := Kd.R_slice Aa.out; subst eo14) | (go_at_call 10; (with_reducible refine (cK k _ _ Al Ad _ ?side1 ?side2 A8.out).mono ?_); (case side1 => repeat (first | exact (Kd.R_reads' Aa.out).2.2 | (with_reducible refine Kd.C_alloc ?_ _) | (with_reducible refine Kd.C_drewN ?_ _) | (with_reducible refine Kd.C_drew ?_))); (case side2 => exact (Kd.R_reads' Aa.out).2.1); rintro e w15 ⟨v211, rfl, ho0, hb⟩; have Ac := Zz.mk (Kd.R_lower (Kd.R_new' ho0 (Kd.R_lt (xkd Ab))) (af xbl)); replace Aa := Zz.mk (Kd.R_below (xkd Aa) hb); replace Ab := Zz.mk (Kd.R_elder' (xkd Ab) (Kd.R_base ho0) hb); replace HB := xst hb; (try clear hb); (try clear ho0); obtain ⟨Ao16, co16, eo16⟩ := Kd.R_slice Ac.out; subst eo16; obtain ⟨Ao17, co17, eo17⟩ := Kd.R_slice Ab.out; subst eo17) | (go_at_call 9; (with_reducible refine (cL k _ _ Ad _ _ Am true _ ?side1 ?side2 ?side3 ?side4 A9.out).mono ?_); (case side1 => repeat (first | exact (Kd.R_reads' Ac.out).2.2 | (with_reducible refine Kd.C_alloc ?_ _) | (with_reducible refine Kd.C_drewN ?_ _) | (with_reducible refine Kd.C_drew ?_))); (case side2 => exact (Kd.R_reads' Ac.out).2.1); (case side3 => repeat (first | exact (Kd.R_reads' Ab.out).2.2 | (with_reducible refine Kd.C_alloc ?_ _) | (with_reducible refine Kd.C_drewN ?_ _) | (with_reducible refine Kd.C_drew ?_))); (case side4 => exact (Kd.R_reads' Ab.out).2.1); rintro e w' ⟨rfl, ⟨nd, rfl⟩⟩) | (go_at_call 6; (with_reducible refine (bw k  Ak _ A11.out).mono ?_); rintro e w18 ⟨rfl, hb⟩; replace Aa := Zz.mk (Kd.R_below (xkd Aa) hb); replace Ab := Zz.mk (Kd.R_below (xkd Ab) hb); replace Ac := Zz.mk (Kd.R_below (xkd Ac) hb); replace HB := xst hb; (try clear hb)))
    go_ret
    exact ⟨xre, xbl⟩
   ·
    replace c10 := Bool.eq_false_iff.mpr c10
    subst c10
    rw [if_neg (show ¬ (false = true) by decide)] at H
    exact absurd H (by simp)
  ·
   rw [if_neg c7] at H
   exact absurd H (by simp)
def cj : Prop := ∀ (a0 : ByteArray), a0.size ≤ 140737488351232 → ∃ k, bW k a0 = some true
theorem dx (P : cj) (a0 : ByteArray) (w : World) (w0 : a0.size ≤ 140737488351232) :
    Calls Try.prog 3 #[.string a0] w fun e w' => e = .returned (.bool true) ∧ Below w.heap.size w w' := by
 obtain ⟨k, h⟩ := P a0 w0
 refine (cd k a0 true w h).mono ?_
 rintro e w' ⟨rfl, hd⟩
 exact ⟨rfl, hd⟩
mutual
def ab : Nat → Int → Int → Int → Int → Int → Bool → Bool → Option (Bool)
  | 0, _, _, _, _, _, _, _ => none
  | k + 1, x1, x2, x3, x4, x5, x6, Ac => if Ac = true then (none) else ((bE k x5).bind fun Aa => ((an k x5).bind fun Ab => (if (Aa.2 != (decide (Ab ≥ 0))) = true then (aq k x1 x2 x3 x4 x6 true) else (if Aa.2 = true then (if Aa.1 = Ab then (aq k x1 x2 x3 x4 x6 false) else (aq k x1 x2 x3 x4 x6 true)) else (aq k x1 x2 x3 x4 x6 (Aa.1 != 0))))))
def aq : Nat → Int → Int → Int → Int → Bool → Bool → Option (Bool)
  | 0, _, _, _, _, _, _ => none
  | k + 1, x1, x2, x3, x4, x6, x87 => if x87 = true then (none) else (if x1 > 1099511627776 then (al k x1 x2 x3 x4 x6 true) else (if x1 < (-1099511627776) then (al k x1 x2 x3 x4 x6 true) else (if x2 > 1099511627776 then (al k x1 x2 x3 x4 x6 true) else (if x2 < (-1099511627776) then (al k x1 x2 x3 x4 x6 true) else (if x3 > 2147483648 then (al k x1 x2 x3 x4 x6 true) else (al k x1 x2 x3 x4 x6 (decide (x4 > 2147483648))))))))
def al : Nat → Int → Int → Int → Int → Bool → Bool → Option (Bool)
  | 0, _, _, _, _, _, _ => none
  | k + 1, x1, x2, x3, x4, x6, Aa => if Aa = true then ((ay k).bind fun Ab => (some Ab)) else ((bB x1 x2).bind fun Ac => ((bf x1 x2).bind fun Ad => (if Ac = Ad then ((bA k x3 x4 x6).bind fun Ae => ((bz k x3 x4 x6).bind fun Af => (if Ae = Af then ((ay k).bind fun Ag => (some Ag)) else (none)))) else (none))))
end
def bJ (k : Nat) (a0 : Int) (a1 : Int) (a2 : Int) (a3 : Int) (a4 : Int) (a5 : Int) (a6 : Bool) : Option (Bool) := (bs k a0).bind fun Aa => (if a0 ≥ 0 then (if (Aa.2 != (decide (a0 < 36))) = true then (ab k a1 a2 a3 a4 a5 a6 true) else (if Aa.2 = true then ((an k Aa.1).bind fun Ab => (if Ab = a0 then (if Aa.1 ≥ 65 then (if Aa.1 ≤ 90 then (ab k a1 a2 a3 a4 a5 a6 true) else (ab k a1 a2 a3 a4 a5 a6 false)) else (ab k a1 a2 a3 a4 a5 a6 false)) else (ab k a1 a2 a3 a4 a5 a6 true))) else (ab k a1 a2 a3 a4 a5 a6 (Aa.1 != 0)))) else (if (Aa.2 != false) = true then (ab k a1 a2 a3 a4 a5 a6 true) else (if Aa.2 = true then ((an k Aa.1).bind fun Ac => (if Ac = a0 then (if Aa.1 ≥ 65 then (if Aa.1 ≤ 90 then (ab k a1 a2 a3 a4 a5 a6 true) else (ab k a1 a2 a3 a4 a5 a6 false)) else (ab k a1 a2 a3 a4 a5 a6 false)) else (ab k a1 a2 a3 a4 a5 a6 true))) else (ab k a1 a2 a3 a4 a5 a6 (Aa.1 != 0)))))
theorem ck (k : Nat) (a0 : Int) (a1 : Int) (a2 : Int) (a3 : Int) (a4 : Int) (a5 : Int) (a6 : Bool) (r : Bool) (w : World) (h : bJ k a0 a1 a2 a3 a4 a5 a6 = some r) :
    Calls Try.prog 4 #[.int .i64 a0, .int .i64 a1, .int .i64 a2, .int .i64 a3, .int .i64 a4, .int .u8 a5, .bool a6] w fun e w' => e = .returned (.bool r) ∧ Below w.heap.size w w' := by
 have HB := Zz.mk (Below.refl w.heap.size w)
 have H : ((bs k a0).bind fun Ab => (if a0 ≥ 0 then (if (Ab.2 != (decide (a0 < 36))) = true then (ab k a1 a2 a3 a4 a5 a6 true) else (if Ab.2 = true then ((an k Ab.1).bind fun Af => (if Af = a0 then (if Ab.1 ≥ 65 then (if Ab.1 ≤ 90 then (ab k a1 a2 a3 a4 a5 a6 true) else (ab k a1 a2 a3 a4 a5 a6 false)) else (ab k a1 a2 a3 a4 a5 a6 false)) else (ab k a1 a2 a3 a4 a5 a6 true))) else (ab k a1 a2 a3 a4 a5 a6 (Ab.1 != 0)))) else (if (Ab.2 != false) = true then (ab k a1 a2 a3 a4 a5 a6 true) else (if Ab.2 = true then ((an k Ab.1).bind fun Ag => (if Ag = a0 then (if Ab.1 ≥ 65 then (if Ab.1 ≤ 90 then (ab k a1 a2 a3 a4 a5 a6 true) else (ab k a1 a2 a3 a4 a5 a6 false)) else (ab k a1 a2 a3 a4 a5 a6 false)) else (ab k a1 a2 a3 a4 a5 a6 true))) else (ab k a1 a2 a3 a4 a5 a6 (Ab.1 != 0)))))) = some r := h
 clear h
 replace H := Option.bind_eq_some_iff.mp H
 obtain ⟨⟨Ac, Aa⟩, A80, H⟩ := H
 try dsimp only at H
 have A8 := Zz.mk A80
 clear A80
 have AX := Zz.mk H
 clear H
 go_enter Try.func4, Try.ntmps4
 go_upto_region 2 with (first | ((with_reducible refine ae (f := 11) rfl ?_); refine xgl 22 Try.func11 #[.int .i64 a0] ?_; (with_reducible refine (b8 k a0 Ac Aa _ A8.out).mono ?_); rintro e w' ⟨rfl, ⟨nd, rfl⟩⟩; refine ⟨_, rfl, ?_⟩))
 (try simp only [Act.put, List.setIfInBounds_toArray, List.set_cons_zero, List.set_cons_succ])
 go_cut [60] (fun v60 wc => ∃ (kq : Nat) (An : Bool), v60 = .bool An ∧ Zz (ab kq a1 a2 a3 a4 a5 a6 An = some r) ∧ Zz (kq ≤ k) ∧ Zz (Below w.heap.size w wc))
 case first =>
  have H := AX.out
  clear AX
  by_cases c10 : a0 ≥ 0
  ·
   rw [if_pos c10] at H
   have Aj := decide_eq_true c10
   clear c10
   (first | rw [Aj] | (simp only [bG, bF]; rw [Aj]) | (rw [Ax]; (try simp only [Bool.not_false, Bool.not_true])) | (rw [Ay]; (try simp only [Bool.not_false, Bool.not_true])) | rw [Az] | skip)
   by_cases c11 : (Aa != (decide (a0 < 36))) = true
   ·
    rw [if_pos c11] at H
    have AA : (Aa != (decide (a0 < 36))) = true := c11
    (try (have AB : decide (Aa = (decide (a0 < 36))) = false := by simpa using c11))
    (try (have AC : (Aa == (decide (a0 < 36))) = false := by simpa using c11))
    (try (have A0 : ¬ (Aa = (decide (a0 < 36))) := by simpa using c11))
    clear c11
    have H' := Zz.mk H
    clear H
    go_wp2
    go_meet
    case rel => exact ⟨_, (true), xrr, H', ⟨xom⟩, ⟨xbl⟩⟩
   ·
    rw [if_neg c11] at H
    have AA : (Aa != (decide (a0 < 36))) = false := by simpa using c11
    (try (have AB : decide (Aa = (decide (a0 < 36))) = true := by simpa using c11))
    (try (have AC : (Aa == (decide (a0 < 36))) = true := by simpa using c11))
    clear c11
    by_cases c12 : Aa = true
    ·
     subst c12
     rw [if_pos rfl] at H
     replace H := Option.bind_eq_some_iff.mp H
     obtain ⟨Af, A130, H⟩ := H
     try dsimp only at H
     have A13 := Zz.mk A130
     clear A130
     by_cases c14 : Af = a0
     ·
      rw [if_pos c14] at H
      have AD : (Af == a0) = true := beq_iff_eq.mpr c14
      have AE : (Af != a0) = false := bne_eq_false_iff_eq.mpr c14
      clear c14
      by_cases c15 : Ac ≥ 65
      ·
       rw [if_pos c15] at H
       have AF := decide_eq_true c15
       clear c15
       by_cases c16 : Ac ≤ 90
       ·
        rw [if_pos c16] at H
        have AG := decide_eq_true c16
        clear c16
        have H' := Zz.mk H
        clear H
        go_wp2_with (first | (go_at_call 12; (with_reducible refine (ah k Ac Af _ A13.out).mono ?_); rintro e w' ⟨rfl, ⟨nd, rfl⟩⟩))
        go_meet
        case rel => exact ⟨_, (true), xrr, H', ⟨xom⟩, ⟨xbl⟩⟩
       ·
        rw [if_neg c16] at H
        have AG := decide_eq_false c16
        clear c16
        have H' := Zz.mk H
        clear H
        go_wp2_with (first | (go_at_call 12; (with_reducible refine (ah k Ac Af _ A13.out).mono ?_); rintro e w' ⟨rfl, ⟨nd, rfl⟩⟩))
        go_meet
        case rel => exact ⟨_, (false), xrr, H', ⟨xom⟩, ⟨xbl⟩⟩
      ·
       rw [if_neg c15] at H
       have AF := decide_eq_false c15
       clear c15
       have H' := Zz.mk H
       clear H
       go_wp2_with (first | (go_at_call 12; (with_reducible refine (ah k Ac Af _ A13.out).mono ?_); rintro e w' ⟨rfl, ⟨nd, rfl⟩⟩))
       go_meet
       case rel => exact ⟨_, (false), xrr, H', ⟨xom⟩, ⟨xbl⟩⟩
     ·
      rw [if_neg c14] at H
      have AD : (Af == a0) = false := beq_eq_false_iff_ne.mpr c14
      have AE : (Af != a0) = true := bne_iff_ne.mpr c14
      have H' := Zz.mk H
      clear H
      go_wp2_with (first | (go_at_call 12; (with_reducible refine (ah k Ac Af _ A13.out).mono ?_); rintro e w' ⟨rfl, ⟨nd, rfl⟩⟩))
      go_meet
      case rel => exact ⟨_, (true), xrr, H', ⟨xom⟩, ⟨xbl⟩⟩
    ·
     replace c12 := Bool.eq_false_iff.mpr c12
     subst c12
     rw [if_neg (show ¬ (false = true) by decide)] at H
     have H' := Zz.mk H
     clear H
     go_wp2
     go_meet
     case rel => exact ⟨_, ((Ac != 0)), xrr, H', ⟨xom⟩, ⟨xbl⟩⟩
  ·
   rw [if_neg c10] at H
   have Aj := decide_eq_false c10
   clear c10
   (first | rw [Aj] | (simp only [bG, bF]; rw [Aj]) | (rw [Ax]; (try simp only [Bool.not_false, Bool.not_true])) | (rw [Ay]; (try simp only [Bool.not_false, Bool.not_true])) | rw [Az] | skip)
   by_cases c17 : (Aa != false) = true
   ·
    rw [if_pos c17] at H
    have AH : (Aa != false) = true := c17
    (try (have AI : decide (Aa = false) = false := by simpa using c17))
    (try (have AJ : (Aa == false) = false := by simpa using c17))
    (try (have A1 : ¬ (Aa = false) := by simpa using c17))
    clear c17
    have H' := Zz.mk H
    clear H
    go_wp2
    go_meet
    case rel => exact ⟨_, (true), xrr, H', ⟨xom⟩, ⟨xbl⟩⟩
   ·
    rw [if_neg c17] at H
    have AH : (Aa != false) = false := by simpa using c17
    (try (have AI : decide (Aa = false) = true := by simpa using c17))
    (try (have AJ : (Aa == false) = true := by simpa using c17))
    clear c17
    by_cases c18 : Aa = true
    ·
     subst c18
     rw [if_pos rfl] at H
     replace H := Option.bind_eq_some_iff.mp H
     obtain ⟨Ag, A190, H⟩ := H
     try dsimp only at H
     have A19 := Zz.mk A190
     clear A190
     by_cases c20 : Ag = a0
     ·
      rw [if_pos c20] at H
      have AK : (Ag == a0) = true := beq_iff_eq.mpr c20
      have AL : (Ag != a0) = false := bne_eq_false_iff_eq.mpr c20
      clear c20
      by_cases c21 : Ac ≥ 65
      ·
       rw [if_pos c21] at H
       have AM := decide_eq_true c21
       clear c21
       by_cases c22 : Ac ≤ 90
       ·
        rw [if_pos c22] at H
        have AN := decide_eq_true c22
        clear c22
        have H' := Zz.mk H
        clear H
        go_wp2_with (first | (go_at_call 12; (with_reducible refine (ah k Ac Ag _ A19.out).mono ?_); rintro e w' ⟨rfl, ⟨nd, rfl⟩⟩))
        go_meet
        case rel => exact ⟨_, (true), xrr, H', ⟨xom⟩, ⟨xbl⟩⟩
       ·
        rw [if_neg c22] at H
        have AN := decide_eq_false c22
        clear c22
        have H' := Zz.mk H
        clear H
        go_wp2_with (first | (go_at_call 12; (with_reducible refine (ah k Ac Ag _ A19.out).mono ?_); rintro e w' ⟨rfl, ⟨nd, rfl⟩⟩))
        go_meet
        case rel => exact ⟨_, (false), xrr, H', ⟨xom⟩, ⟨xbl⟩⟩
      ·
       rw [if_neg c21] at H
       have AM := decide_eq_false c21
       clear c21
       have H' := Zz.mk H
       clear H
       go_wp2_with (first | (go_at_call 12; (with_reducible refine (ah k Ac Ag _ A19.out).mono ?_); rintro e w' ⟨rfl, ⟨nd, rfl⟩⟩))
       go_meet
       case rel => exact ⟨_, (false), xrr, H', ⟨xom⟩, ⟨xbl⟩⟩
     ·
      rw [if_neg c20] at H
      have AK : (Ag == a0) = false := beq_eq_false_iff_ne.mpr c20
      have AL : (Ag != a0) = true := bne_iff_ne.mpr c20
      have H' := Zz.mk H
      clear H
      go_wp2_with (first | (go_at_call 12; (with_reducible refine (ah k Ac Ag _ A19.out).mono ?_); rintro e w' ⟨rfl, ⟨nd, rfl⟩⟩))
      go_meet
      case rel => exact ⟨_, (true), xrr, H', ⟨xom⟩, ⟨xbl⟩⟩
    ·
     replace c18 := Bool.eq_false_iff.mpr c18
     subst c18
     rw [if_neg (show ¬ (false = true) by decide)] at H
     have H' := Zz.mk H
     clear H
     go_wp2
     go_meet
     case rel => exact ⟨_, ((Ac != 0)), xrr, H', ⟨xom⟩, ⟨xbl⟩⟩
 case rest =>
  clear AX
  obtain ⟨kq, An, rfl, HA, HJ8, HB⟩ := hcut
  cases kq with
  | zero => exact absurd HA.out (by simp [ab])
  | succ kj8 =>
   have H := HA.out
   clear HA
   simp only [ab] at H
   by_cases c23 : An = true
   ·
    subst c23
    rw [if_pos rfl] at H
    exact absurd H (by simp)
   ·
    replace c23 := Bool.eq_false_iff.mpr c23
    subst c23
    rw [if_neg (show ¬ (false = true) by decide)] at H
    replace H := Option.bind_eq_some_iff.mp H
    obtain ⟨⟨Am, Ah⟩, A240, H⟩ := H
    try dsimp only at H
    have A24 := Zz.mk A240
    clear A240
    replace H := Option.bind_eq_some_iff.mp H
    obtain ⟨Ad, A250, H⟩ := H
    try dsimp only at H
    have A25 := Zz.mk A250
    clear A250
    have Av := Zz.mk H
    clear H
    go_upto_region 6 with (first | ((with_reducible refine ae (f := 13) rfl ?_); refine xgl 63 Try.func13 #[.int .u8 a5] ?_; (with_reducible refine (ao kj8 a5 Am Ah _ A24.out).mono ?_); rintro e w' ⟨rfl, ⟨nd, rfl⟩⟩; refine ⟨_, rfl, ?_⟩) | ((with_reducible refine ae (f := 12) rfl ?_); refine xgl 67 Try.func12 #[.int .u8 a5] ?_; (with_reducible refine (ah kj8 a5 Ad _ A25.out).mono ?_); rintro e w' ⟨rfl, ⟨nd, rfl⟩⟩; refine ⟨_, rfl, ?_⟩))
    (try simp only [Act.put, List.setIfInBounds_toArray, List.set_cons_zero, List.set_cons_succ])
    go_cut [87] (fun v87 wc => ∃ (kq : Nat) (Ai : Bool), v87 = .bool Ai ∧ Zz (aq kq a1 a2 a3 a4 a6 Ai = some r) ∧ Zz (kq ≤ kj8) ∧ Zz (Below w.heap.size w wc))
    case first =>
     have H := Av.out
     clear Av
     by_cases c27 : (Ah != (decide (Ad ≥ 0))) = true
     ·
      rw [if_pos c27] at H
      have Ak : (Ah != (decide (Ad ≥ 0))) = true := c27
      (try (have Ao : decide (Ah = (decide (Ad ≥ 0))) = false := by simpa using c27))
      (try (have Ap : (Ah == (decide (Ad ≥ 0))) = false := by simpa using c27))
      (try (have Au : ¬ (Ah = (decide (Ad ≥ 0))) := by simpa using c27))
      clear c27
      (first | rw [Ak] | (simp only [bG, bF]; rw [Ak]) | (rw [Ap]; (try simp only [Bool.not_false, Bool.not_true])) | (rw [Au]; (try simp only [Bool.not_false, Bool.not_true])) | rw [Ao] | skip)
      have H' := Zz.mk H
      clear H
      go_wp2
      go_meet
      case rel => exact ⟨_, (true), xrr, H', ⟨by have := HJ8.out; first | omega | exact Nat.le_refl _⟩, ⟨xbl⟩⟩
     ·
      rw [if_neg c27] at H
      have Ak : (Ah != (decide (Ad ≥ 0))) = false := by simpa using c27
      (try (have Ao : decide (Ah = (decide (Ad ≥ 0))) = true := by simpa using c27))
      (try (have Ap : (Ah == (decide (Ad ≥ 0))) = true := by simpa using c27))
      clear c27
      (first | rw [Ak] | (simp only [bG, bF]; rw [Ak]) | (rw [Ap]; (try simp only [Bool.not_false, Bool.not_true])) | (rw [Au]; (try simp only [Bool.not_false, Bool.not_true])) | rw [Ao] | skip)
      by_cases c28 : Ah = true
      ·
       subst c28
       rw [if_pos rfl] at H
       by_cases c29 : Am = Ad
       ·
        rw [if_pos c29] at H
        have AO : (Am == Ad) = true := beq_iff_eq.mpr c29
        have AP : (Am != Ad) = false := bne_eq_false_iff_eq.mpr c29
        clear c29
        have H' := Zz.mk H
        clear H
        go_wp2
        go_meet
        case rel => exact ⟨_, (false), xrr, H', ⟨by have := HJ8.out; first | omega | exact Nat.le_refl _⟩, ⟨xbl⟩⟩
       ·
        rw [if_neg c29] at H
        have AO : (Am == Ad) = false := beq_eq_false_iff_ne.mpr c29
        have AP : (Am != Ad) = true := bne_iff_ne.mpr c29
        have H' := Zz.mk H
        clear H
        go_wp2
        go_meet
        case rel => exact ⟨_, (true), xrr, H', ⟨by have := HJ8.out; first | omega | exact Nat.le_refl _⟩, ⟨xbl⟩⟩
      ·
       replace c28 := Bool.eq_false_iff.mpr c28
       subst c28
       rw [if_neg (show ¬ (false = true) by decide)] at H
       have H' := Zz.mk H
       clear H
       go_wp2
       go_meet
       case rel => exact ⟨_, ((Am != 0)), xrr, H', ⟨by have := HJ8.out; first | omega | exact Nat.le_refl _⟩, ⟨xbl⟩⟩
    case rest =>
     clear Av
     obtain ⟨kq, Ai, rfl, HA, HJ25, HB⟩ := hcut
     cases kq with
     | zero => exact absurd HA.out (by simp [aq])
     | succ kj25 =>
      have H := HA.out
      clear HA
      simp only [aq] at H
      by_cases c30 : Ai = true
      ·
       subst c30
       rw [if_pos rfl] at H
       exact absurd H (by simp)
      ·
       replace c30 := Bool.eq_false_iff.mpr c30
       subst c30
       rw [if_neg (show ¬ (false = true) by decide)] at H
       have Aw := Zz.mk H
       clear H
       go_upto_region 8 with (fail)
       go_cut [109] (fun v109 wc => ∃ (kq : Nat) (Ae : Bool), v109 = .bool Ae ∧ Zz (al kq a1 a2 a3 a4 a6 Ae = some r) ∧ Zz (kq ≤ kj25) ∧ Zz (Below w.heap.size w wc))
       case first =>
        have H := Aw.out
        clear Aw
        by_cases c32 : a1 > 1099511627776
        ·
         rw [if_pos c32] at H
         have Al := decide_eq_true c32
         clear c32
         (first | rw [Al] | (simp only [bG, bF]; rw [Al]) | (rw [AQ]; (try simp only [Bool.not_false, Bool.not_true])) | (rw [AR]; (try simp only [Bool.not_false, Bool.not_true])) | rw [AS] | skip)
         have H' := Zz.mk H
         clear H
         go_wp2
         go_meet
         case rel => exact ⟨_, (true), xrr, H', ⟨by have := HJ8.out; have := HJ25.out; first | omega | exact Nat.le_refl _⟩, ⟨xbl⟩⟩
        ·
         rw [if_neg c32] at H
         have Al := decide_eq_false c32
         clear c32
         (first | rw [Al] | (simp only [bG, bF]; rw [Al]) | (rw [AQ]; (try simp only [Bool.not_false, Bool.not_true])) | (rw [AR]; (try simp only [Bool.not_false, Bool.not_true])) | rw [AS] | skip)
         by_cases c33 : a1 < (-1099511627776)
         ·
          rw [if_pos c33] at H
          have AT := decide_eq_true c33
          clear c33
          have H' := Zz.mk H
          clear H
          go_wp2
          go_meet
          case rel => exact ⟨_, (true), xrr, H', ⟨by have := HJ8.out; have := HJ25.out; first | omega | exact Nat.le_refl _⟩, ⟨xbl⟩⟩
         ·
          rw [if_neg c33] at H
          have AT := decide_eq_false c33
          clear c33
          by_cases c34 : a2 > 1099511627776
          ·
           rw [if_pos c34] at H
           have AU := decide_eq_true c34
           clear c34
           have H' := Zz.mk H
           clear H
           go_wp2
           go_meet
           case rel => exact ⟨_, (true), xrr, H', ⟨by have := HJ8.out; have := HJ25.out; first | omega | exact Nat.le_refl _⟩, ⟨xbl⟩⟩
          ·
           rw [if_neg c34] at H
           have AU := decide_eq_false c34
           clear c34
           by_cases c35 : a2 < (-1099511627776)
           ·
            rw [if_pos c35] at H
            have AV := decide_eq_true c35
            clear c35
            have H' := Zz.mk H
            clear H
            go_wp2
            go_meet
            case rel => exact ⟨_, (true), xrr, H', ⟨by have := HJ8.out; have := HJ25.out; first | omega | exact Nat.le_refl _⟩, ⟨xbl⟩⟩
           ·
            rw [if_neg c35] at H
            have AV := decide_eq_false c35
            clear c35
            by_cases c36 : a3 > 2147483648
            ·
             rw [if_pos c36] at H
             have AW := decide_eq_true c36
             clear c36
             have H' := Zz.mk H
             clear H
             go_wp2
             go_meet
             case rel => exact ⟨_, (true), xrr, H', ⟨by have := HJ8.out; have := HJ25.out; first | omega | exact Nat.le_refl _⟩, ⟨xbl⟩⟩
            ·
             rw [if_neg c36] at H
             have AW := decide_eq_false c36
             clear c36
             have H' := Zz.mk H
             clear H
             go_wp2
             go_meet
             case rel => exact ⟨_, (decide (a4 > 2147483648)), xrr, H', ⟨by have := HJ8.out; have := HJ25.out; first | omega | exact Nat.le_refl _⟩, ⟨xbl⟩⟩
       case rest =>
        clear Aw
        obtain ⟨kq, Ae, rfl, HA, HJ30, HB⟩ := hcut
        cases kq with
        | zero => exact absurd HA.out (by simp [al])
        | succ kj30 =>
         have H := HA.out
         clear HA
         simp only [al] at H
         by_cases c37 : Ae = true
         ·
          subst c37
          rw [if_pos rfl] at H
          replace H := Option.bind_eq_some_iff.mp H
          obtain ⟨AY, A380, H⟩ := H
          try dsimp only at H
          have A38 := Zz.mk A380
          clear A380
          obtain rfl := Option.some.inj H
          go_wp2_with (first | ((with_reducible refine ae (f := 6) rfl ?_); refine xgl 110 Try.func6 #[] ?_; (with_reducible refine (bw kj30  AY _ A38.out).mono ?_); rintro e w39 ⟨rfl, hb⟩; refine ⟨_, rfl, ?_⟩; replace HB := xst hb; (try clear hb)))
          go_ret
          exact ⟨xre, xbl⟩
         ·
          replace c37 := Bool.eq_false_iff.mpr c37
          subst c37
          rw [if_neg (show ¬ (false = true) by decide)] at H
          replace H := Option.bind_eq_some_iff.mp H
          obtain ⟨Aq, A400, H⟩ := H
          try dsimp only at H
          have A40 := Zz.mk A400
          clear A400
          replace H := Option.bind_eq_some_iff.mp H
          obtain ⟨Ar, A410, H⟩ := H
          try dsimp only at H
          have A41 := Zz.mk A410
          clear A410
          by_cases c42 : Aq = Ar
          ·
           rw [if_pos c42] at H
           have A2 : (Aq == Ar) = true := beq_iff_eq.mpr c42
           have A3 : (Aq != Ar) = false := bne_eq_false_iff_eq.mpr c42
           clear c42
           replace H := Option.bind_eq_some_iff.mp H
           obtain ⟨As, A430, H⟩ := H
           try dsimp only at H
           have A43 := Zz.mk A430
           clear A430
           replace H := Option.bind_eq_some_iff.mp H
           obtain ⟨At, A440, H⟩ := H
           try dsimp only at H
           have A44 := Zz.mk A440
           clear A440
           by_cases c45 : As = At
           ·
            rw [if_pos c45] at H
            have A4 : (As == At) = true := beq_iff_eq.mpr c45
            have A5 : (As != At) = false := bne_eq_false_iff_eq.mpr c45
            clear c45
            replace H := Option.bind_eq_some_iff.mp H
            obtain ⟨AZ, A460, H⟩ := H
            try dsimp only at H
            have A46 := Zz.mk A460
            clear A460
            obtain rfl := Option.some.inj H
            go_wp2_with (first | ((with_reducible refine ae (f := 14) rfl ?_); refine xgl 113 Try.func14 #[.int .i64 a1, .int .i64 a2] ?_; (with_reducible refine (ar a1 a2 Aq _ A40.out).mono ?_); rintro e w' ⟨rfl, ⟨nd, rfl⟩⟩; refine ⟨_, rfl, ?_⟩) | ((with_reducible refine ae (f := 15) rfl ?_); refine xgl 116 Try.func15 #[.int .i64 a1, .int .i64 a2] ?_; (with_reducible refine (aH a1 a2 Ar _ A41.out).mono ?_); rintro e w' ⟨rfl, ⟨nd, rfl⟩⟩; refine ⟨_, rfl, ?_⟩) | (go_at_call 16; (with_reducible refine (bK kj30 a3 a4 a6 As _ A43.out).mono ?_); rintro e w47 ⟨rfl, hb⟩; replace HB := xst hb; (try clear hb)) | (go_at_call 17; (with_reducible refine (bx kj30 a3 a4 a6 At _ A44.out).mono ?_); rintro e w48 ⟨rfl, hb⟩; replace HB := xst hb; (try clear hb)) | (go_at_call 6; (with_reducible refine (bw kj30  AZ _ A46.out).mono ?_); rintro e w49 ⟨rfl, hb⟩; replace HB := xst hb; (try clear hb)))
            go_ret
            exact ⟨xre, xbl⟩
           ·
            rw [if_neg c45] at H
            exact absurd H (by simp)
          ·
           rw [if_neg c42] at H
           exact absurd H (by simp)
def bN : Prop := ∀ (a0 : Int) (a1 : Int) (a2 : Int) (a3 : Int) (a4 : Int) (a5 : Int) (a6 : Bool), (Lit.int .i64 a0).wf = true → (Lit.int .i64 a1).wf = true → (Lit.int .i64 a2).wf = true → (Lit.int .i64 a3).wf = true → (Lit.int .i64 a4).wf = true → (Lit.int .u8 a5).wf = true → ∃ k, bJ k a0 a1 a2 a3 a4 a5 a6 = some true
theorem cn (P : bN) (a0 : Int) (a1 : Int) (a2 : Int) (a3 : Int) (a4 : Int) (a5 : Int) (a6 : Bool) (w : World) (w0 : (Lit.int .i64 a0).wf = true) (w1 : (Lit.int .i64 a1).wf = true) (w2 : (Lit.int .i64 a2).wf = true) (w3 : (Lit.int .i64 a3).wf = true) (w4 : (Lit.int .i64 a4).wf = true) (w5 : (Lit.int .u8 a5).wf = true) :
    Calls Try.prog 4 #[.int .i64 a0, .int .i64 a1, .int .i64 a2, .int .i64 a3, .int .i64 a4, .int .u8 a5, .bool a6] w fun e w' => e = .returned (.bool true) ∧ Below w.heap.size w w' := by
 obtain ⟨k, h⟩ := P a0 a1 a2 a3 a4 a5 a6 w0 w1 w2 w3 w4 w5
 refine (ck k a0 a1 a2 a3 a4 a5 a6 true w h).mono ?_
 rintro e w' ⟨rfl, hd⟩
 exact ⟨rfl, hd⟩
end Go.Proofs.Ytediodhkimacjaa.X
namespace Go.Proofs.Ytediodhkimacjaa.M
open Go Go.RowKit Go.Proofs.YtediodhkimacjaaW.PrintWords
theorem w64 {x : Int} (h1 : -9223372036854775808 ≤ x) (h2 : x ≤ 9223372036854775807) : wrap64 x = x := by unfold wrap64; omega
theorem eN {α : Type} {g : Nat → Option α} {r : α} (h : ∀ k, g k = some r) : Ev g r := ⟨0, fun k _ => h k⟩
theorem bM {α β : Type} {g : Nat → Option α} {f : Nat → α → Option β} {a : α} {r : β} (h : Ev g a) (k : Ev (fun n => f n a) r) : Ev (fun n => (g n).bind fun t => f n t) r := Ev.bind h k
theorem dg {α β : Type} {o : Option α} {f : Nat → α → Option β} {a : α} {r : β} (h : o = some a) (k : Ev (fun n => f n a) r) : Ev (fun n => o.bind fun t => f n t) r := by
  subst h; exact k
theorem aV {α : Type} {c : Prop} [Decidable c] {g f : Nat → Option α} {r : α} (h : c) (k : Ev g r) : Ev (fun n => if c then g n else f n) r := by
  simp only [if_pos h]; exact k
theorem ap {α : Type} {c : Prop} [Decidable c] {g f : Nat → Option α} {r : α} (h : ¬ c) (k : Ev f r) : Ev (fun n => if c then g n else f n) r := by
  simp only [if_neg h]; exact k
theorem Ev.ite {α : Type} {c : Prop} [Decidable c] {g f : Nat → Option α} {r : α} (h : c → Ev g r) (k : ¬ c → Ev f r) : Ev (fun n => if c then g n else f n) r := by
  by_cases hc : c
  · exact aV hc (h hc)
  · exact ap hc (k hc)
theorem Ev.val {α : Type} {a r : α} (h : a = r) : Ev (fun _ => some a) r := by subst h; exact dq _
theorem dJ {p : Int → Prop} (h : ∀ n : Fin 256, p ((n.val : Nat) : Int)) {b : Int} (h0 : 0 ≤ b) (h1 : b ≤ 255) : p b := by
  have := h ⟨b.toNat, by omega⟩
  simp only at this
  rwa [Int.toNat_of_nonneg h0] at this
def hv (b : Int) : Int := if 48 ≤ b ∧ b ≤ 57 then b - 48 else if 65 ≤ b ∧ b ≤ 70 then b - 55 else if 97 ≤ b ∧ b ≤ 102 then b - 87 else -1
end Go.Proofs.Ytediodhkimacjaa.M
namespace Go.Proofs.Ytediodhkimacjaa.Y
open Go.RowKit Go.Proofs.Ytediodhkimacjaa.X Go.Proofs.Ytediodhkimacjaa.M Go.Proofs.YtediodhkimacjaaW.PrintWords Go.Proofs.YtediodhkimacjaaW.PrintLast Go.Proofs.YtediodhkimacjaaW.PrintMore
def dv (b : Int) : Int := if 97 ≤ b ∧ b ≤ 122 then b - 97 else if 65 ≤ b ∧ b ≤ 90 then b - 65 else if 48 ≤ b ∧ b ≤ 57 then b - 22 else -1
theorem ej {b : Int} (h0 : 0 ≤ b) (h1 : b ≤ 255) : Ev (fun k => bE k b) (if dv b < 0 then (0, false) else (dv b, true)) :=
  dR (fun k => ce b k) (k := 6) (dJ (p := fun b => bE 6 b = some (if dv b < 0 then (0, false) else (dv b, true))) (by decide +kernel) h0 h1)
theorem dM {b : Int} (h0 : 0 ≤ b) (h1 : b ≤ 255) : Ev (fun k => an k b) (dv b) :=
  dR (fun k => cM b k) (k := 40) (dJ (p := fun b => an 40 b = some (dv b)) (by decide +kernel) h0 h1)
def dig (v : Int) : Int := if v < 26 then v + 97 else v + 22
theorem ea {v : Int} (h0 : 0 ≤ v) (h1 : v < 36) : 0 ≤ dig v ∧ dig v ≤ 255 ∧ dv (dig v) = v ∧ ¬ (65 ≤ dig v ∧ dig v ≤ 90) := by
  unfold dig dv
  split
  · rw [if_pos (by omega)]; omega
  · rw [if_neg (by omega), if_neg (by omega), if_pos (by omega)]; omega
theorem es (v : Int) (hv : -9223372036854775808 ≤ v ∧ v ≤ 9223372036854775807) : Ev (fun k => bs k v) (if 0 ≤ v ∧ v < 36 then (dig v, true) else (0, false)) := by
  have bad : Ev (fun k => aI k v true) (0, false) := Ev.step (fun k => by rw [aI]) (aV rfl (dq _))
  unfold bs
  by_cases h0 : v < 0
  · rw [if_neg (by omega)]; exact aV h0 bad
  · refine ap h0 ?_
    by_cases h36 : v ≥ 36
    · rw [if_neg (by omega), decide_eq_true h36]; exact bad
    · rw [if_pos (by omega), decide_eq_false h36]
      refine Ev.step (fun k => by rw [aI]) (ap (by simp) ?_)
      unfold dig
      by_cases h26 : v < 26
      · rw [if_pos h26, w64 (by omega) (by omega)]
        refine Ev.val ?_
        rw [if_pos h26, Int.emod_eq_of_lt (by omega) (by omega), Int.add_comm]
      · rw [if_neg h26, w64 (x := 48 + v) (by omega) (by omega), w64 (by omega) (by omega)]
        refine Ev.val ?_
        rw [if_neg h26, Int.emod_eq_of_lt (by omega) (by omega), show 48 + v - 26 = v + 22 by omega]
def thr (a b : Int) : Int := if a - b < 1 then 1 else if a - b > 26 then 26 else a - b
theorem eF {a b : Int} (ha : -4000000000000000000 ≤ a ∧ a ≤ 4000000000000000000) (hb : -4000000000000000000 ≤ b ∧ b ≤ 4000000000000000000) : bB a b = some (thr a b) := by
  unfold bB thr
  rw [w64 (x := a - 26) (by omega) (by omega), w64 (x := a - b) (by omega) (by omega)]
  by_cases h1 : a ≤ b
  · rw [if_pos h1, if_pos (by omega)]
  · rw [if_neg h1, if_neg (show ¬ a - b < 1 by omega)]
    by_cases h2 : a - 26 ≥ b
    · rw [if_pos h2]
      by_cases h3 : a - b > 26
      · rw [if_pos h3]
      · rw [if_neg h3, show a - b = 26 by omega]
    · rw [if_neg h2, if_neg (by omega)]
theorem eG {a b : Int} (ha : -4000000000000000000 ≤ a ∧ a ≤ 4000000000000000000) (hb : -4000000000000000000 ≤ b ∧ b ≤ 4000000000000000000) : bf a b = some (thr a b) := by
  unfold bf thr
  rw [w64 (x := a - b) (by omega) (by omega)]
  by_cases h1 : a - b < 1
  · rw [if_pos h1, if_pos h1]
  · rw [if_neg h1, if_neg h1]
    by_cases h2 : a - b > 26
    · rw [if_pos h2, if_pos h2]
    · rw [if_neg h2, if_neg h2]
theorem ee : ∀ n : Nat, ∀ d x : Int, 0 ≤ d → 0 ≤ x → x + d ≤ 1000000000000000 → d.toNat ≤ n → ∃ r, Ev (fun k => aK k d x) r ∧ Ev (fun k => aC k d x) r ∧ 0 ≤ r ∧ r ≤ 1000000000000036 := by
  intro n
  induction n with
  | zero =>
    intro d x h0 hx hb hn
    have hd : d = 0 := by omega
    subst hd
    refine ⟨x, Ev.step (fun k => by rw [aK]) (ap (by omega) (ap (by decide +kernel) (Ev.val ?_))), Ev.step (fun k => by rw [aC]) (ap (by omega) (ap (by decide +kernel) (Ev.val ?_))), hx, by omega⟩ <;>
      (rw [show wrap64 ((wrap64 (36 * 0)).tdiv (wrap64 (0 + 38))) = 0 by decide +kernel, w64 (by omega) (by omega)]; omega)
  | succ n ih =>
    intro d x h0 hx hb hn
    have e35 : Int.tdiv d 35 = d / 35 := Int.tdiv_eq_ediv_of_nonneg h0
    by_cases h455 : d > 455
    · obtain ⟨r, h1, h2, h3, h4⟩ := ih (d / 35) (x + 36) (by omega) (by omega) (by omega) (by omega)
      have w1 : wrap64 (Int.tdiv d 35) = d / 35 := by rw [e35, w64 (by omega) (by omega)]
      have w2 : wrap64 (x + 36) = x + 36 := w64 (by omega) (by omega)
      exact ⟨r, Ev.step (fun k => by rw [aK]) (aV h455 (by rw [w1, w2]; exact h1)), Ev.step (fun k => by rw [aC]) (aV h455 (by rw [w1, w2]; exact h2)), h3, h4⟩
    · have w1 : wrap64 (36 * d) = 36 * d := w64 (by omega) (by omega)
      have w2 : wrap64 (d + 38) = d + 38 := w64 (by omega) (by omega)
      have e : Int.tdiv (36 * d) (d + 38) = (36 * d) / (d + 38) := Int.tdiv_eq_ediv_of_nonneg (by omega)
      have q0 : 0 ≤ (36 * d) / (d + 38) := Int.ediv_nonneg (by omega) (by omega)
      have q1 : (36 * d) / (d + 38) ≤ 36 := Int.ediv_le_of_le_mul (by omega) (by omega)
      generalize (36 * d) / (d + 38) = q at e q0 q1
      have w3 : wrap64 q = q := w64 (by omega) (by omega)
      refine ⟨x + q, Ev.step (fun k => by rw [aK]) (ap h455 (ap (by rw [w2]; omega) (Ev.val ?_))), Ev.step (fun k => by rw [aC]) (ap h455 (ap (by rw [w2]; omega) (Ev.val ?_))), by omega, by omega⟩ <;>
        rw [w1, w2, e, w3, w64 (by omega) (by omega)]
theorem eb (a b : Int) : mx a b = max a b := by unfold mx; split <;> omega
theorem eq (a c : Int) (f : Bool) (ha : a ≤ 10000000000000) (hc : c ≤ 10000000000000) : ∃ r, Ev (fun k => bA k a c f) r ∧ Ev (fun k => bz k a c f) r ∧ 0 ≤ r ∧ r ≤ 1000000000000036 := by
  have h0 : 0 ≤ mx a 0 ∧ mx a 0 ≤ 10000000000000 := by rw [eb]; omega
  have h1 : 1 ≤ mx c 1 ∧ mx c 1 ≤ 10000000000000 := by rw [eb]; omega
  unfold bA bz
  generalize mx a 0 = x at h0 ⊢
  generalize mx c 1 = y at h1 ⊢
  have go : ∀ z : Int, 0 ≤ z → z ≤ 10000000000000 → ∃ r, Ev (fun k => aJ k z y) r ∧ Ev (fun k => aA k z y) r ∧ 0 ≤ r ∧ r ≤ 1000000000000036 := by
    intro z z0 z1
    have e : Int.tdiv z y = z / y := Int.tdiv_eq_ediv_of_nonneg z0
    have q0 : 0 ≤ z / y := Int.ediv_nonneg z0 (by omega)
    have q1 : z / y ≤ z := Int.ediv_le_self _ z0
    obtain ⟨r, r1, r2, r3, r4⟩ := ee (z + z / y).toNat (z + z / y) 0 (by omega) (by omega) (by omega) (by omega)
    have w1 : wrap64 (z + wrap64 (Int.tdiv z y)) = z + z / y := by rw [e, w64 (x := z / y) (by omega) (by omega), w64 (by omega) (by omega)]
    exact ⟨r, Ev.step (fun k => by rw [aJ]) (ap (by omega) (by rw [w1]; exact r1)), Ev.step (fun k => by rw [aA]) (ap (by omega) (by rw [w1]; exact r2)), r3, r4⟩
  have w1 : wrap64 (x / 700) = x / 700 := w64 (by omega) (by omega)
  have w2 : wrap64 (x / 2) = x / 2 := w64 (by omega) (by omega)
  rw [w1, w2]
  cases f with
  | true =>
    obtain ⟨r, r1, r2, r3, r4⟩ := go (x / 700) (by omega) (by omega)
    exact ⟨r, aV rfl r1, aV rfl r2, r3, r4⟩
  | false =>
    obtain ⟨r, r1, r2, r3, r4⟩ := go (x / 2) (by omega) (by omega)
    exact ⟨r, ap (by simp) r1, ap (by simp) r2, r3, r4⟩
end Go.Proofs.Ytediodhkimacjaa.Y
namespace Go.Proofs.Ytediodhkimacjaa.Y
open Go.RowKit Go.Proofs.Ytediodhkimacjaa.X Go.Proofs.Ytediodhkimacjaa.M Go.Proofs.YtediodhkimacjaaW.PrintWords Go.Proofs.YtediodhkimacjaaW.PrintLast Go.Proofs.YtediodhkimacjaaW.PrintMore
theorem dr : Ev (fun k => ay k) true := dR (fun k => cJ k) (k := 60) (by decide +kernel)
end Go.Proofs.Ytediodhkimacjaa.Y
