/- The law SegsParts of layer 31, for every input: A path's last segment, what stands behind its full stop, and the path above are the document's. No condition beside the row's own. -/
import Derived.Test.YtmofhijbheimmaaDoorZSegsParts0
import Derived.Test.YtmofhijbheimmaaDoorZSegsParts1
import Derived.Test.YtmofhijbheimmaaDoorZSegsParts2
import Derived.Test.YtmofhijbheimmaaDoorZSegsParts3
import Derived.Test.YtmofhijbheimmaaDoorZSegsParts4
import Derived.Lib.Bytealg
import Derived.Laws.Strings
import Derived.Lib.Split
import Derived.Lib.SplitLaws
import Derived.Lib.Join
import Derived.Laws.BitsLemmas
import Derived.Test.YtmofhijbheimmaaDoorRows
import Derived.Test.YtmofhijbheimmaaDoorCards
import Derived.Test.YtmofhijbheimmaaDoorTie
import Derived.WalkKit
import Derived.ProofKit
import Derived.OpenShut
import Derived.ShutString
import Derived.ChangeOld
import Derived.Below
import Derived.SizedLaws
import Derived.ChangeArms
import Derived.Lib.SmallJoins
import Derived.Deep.DeepHandedRow
import Derived.Lib.LaidTab
import Derived.Shelf.Vars
import Derived.MakeChecks
import Derived.SliceStrings
import Derived.Carry
set_option maxHeartbeats 8000000
set_option maxRecDepth 100000
set_option linter.unusedSimpArgs false
set_option linter.unusedVariables false
namespace Go.Proofs.YtmofhijbheimmaaDoor.X
open Go.RowKit Go.Proofs.YtmofhijbheimmaaDoorW.PrintWords Go.Proofs.YtmofhijbheimmaaDoorW.PrintLast Go.Proofs.YtmofhijbheimmaaDoorW.PrintMore
attribute [local go_sem] cJ cx dT eS fs er eT ef eh eJ eK dK dL eg ei
def ek (k : Nat) (a0 : ByteArray) : Option (Bool) := if (a0.size : Int) > 200 then ((aq k).bind fun Ad => (some Ad)) else ((bQ k a0).bind fun Aa => ((ff k 5 true a0).bind fun Ae => (if Ae = (a0.size : Int) then ((e6 k a0).bind fun Ac => ((bm k Aa.1 Aa.2.1).bind fun Af => ((bQ k Af).bind fun Ab => (if Aa.2.2 = 0 then (if (Aa.1 == Ac.1) = true then ((bf k Aa.2.1 Ac.2).bind fun Ag => (if Ag = true then ((fz Aa.1 Aa.2.1).bind fun Ah => (if Ah = true then (if Ab.2.2 = 0 then ((fy k Ab.1 Ab.2.1 Aa.1 Aa.2.1).bind fun Ai => (if Ai = true then ((aq k).bind fun Aj => (some Aj)) else (none))) else (none)) else (none))) else (none))) else (none)) else (none))))) else (if Aa.2.2 = 4 then (if (Aa.2.1.length : Int) = 0 then (if Aa.1 = true then (none) else ((aq k).bind fun Ak => (some Ak))) else (none)) else (none)))))
def gi : Prop := ∀ (a0 : ByteArray), a0.size ≤ 140737488351232 → ∃ k, ek k a0 = some true
def av : Nat → Int → Int → Bool → List ByteArray → Option (Bool)
  | 0, _, _, _, _ => none
  | k + 1, x3, x4, Ab, Aa => if x4 < (Aa.length : Int) then (if x4 ≤ 20 then (if 0 ≤ x4 then (av k (wrap64 (x3 + (1 + (mn ((aQ ByteArray.empty Aa x4).size : Int) 300)))) (wrap64 (x4 + 1)) Ab Aa) else (none)) else (if x3 > 200 then (some true) else (some (decide ((Aa.length : Int) > 20))))) else (if x3 > 200 then (some true) else (some (decide ((Aa.length : Int) > 20))))
def cD (k : Nat) (a0_0 : Bool) (l0_1 : List ByteArray) : Option (Bool) := av k 0 0 a0_0 l0_1
theorem cN (k : Nat) (Ad : Bool) (A0_1 : Option Addr) (c0_1 : Nat) (l0_1 : List ByteArray) (r : Bool) (w : World) (hr0_1 : Kd.C Kd.string w A0_1 l0_1.length l0_1) (hc0_1 : l0_1.length ≤ c0_1) (h : cD k Ad l0_1 = some r) :
    Calls Tryd.prog 15 #[.agg #[.bool Ad, .slice A0_1 l0_1.length c0_1]] w fun e w' => e = .returned (.bool r) ∧ Below w.heap.size w w' := by
 have hu25 := Tryd.underlying25
 have HR0_1 := Zz.mk hr0_1
 have HC0_1 := Zz.mk hc0_1
 clear hr0_1 hc0_1
 have HB := Zz.mk (Below.refl w.heap.size w)
 have H : (av k 0 0 Ad l0_1) = some r := h
 clear h
 have H' := Zz.mk H
 clear H
 go_enter Tryd.func15, Tryd.ntmps15
 go_wp2_with (first | ((with_reducible refine ab (N := 1) rfl ?_); (try (refine al (by rfl) ?_; dsimp only)); refine xev 1 #[.bool Ad, .slice A0_1 l0_1.length c0_1] 25 ?_; intro Ag hg w2 hbox hb; have Aa := Zz.mk (hbox); have Ah := xsz hg; have An := Ah; replace HB := xst hb; clear hb hbox hg))
 go_loopg [3, 4] k (fun kq v3 v4 w' => ∃ (Ae : Int) (Ab : Int), v3 = .int .i64 Ae ∧ v4 = .int .i64 Ab ∧ Zz (av kq Ae Ab Ad l0_1 = some r) ∧ Zz (kq ≤ k) ∧ Zz (w'.heap[Ag]? = some (.cells #[.bool Ad, (.slice A0_1 l0_1.length c0_1)] 25 (0, 0))) ∧ Zz (Below w.heap.size w w'))
 case atStart => exact ⟨(0), (0), xrr, xrr, H', ⟨Nat.le_refl _⟩, ⟨xbk⟩, ⟨xbl⟩⟩
 case round =>
  clear H'
  obtain ⟨Ae, Ab, rfl, rfl, HA, HK1, Aa, HB⟩ := hrel
  cases gk with
  | zero => exact absurd HA.out (by simp [av])
  | succ k1 =>
   have H := HA.out
   clear HA
   simp only [av] at H
   by_cases c3 : Ab < (l0_1.length : Int)
   ·
    rw [if_pos c3] at H
    have Ak := decide_eq_true c3
    clear c3
    by_cases c4 : Ab ≤ 20
    ·
     rw [if_pos c4] at H
     have Al := decide_eq_true c4
     clear c4
     by_cases c5 : 0 ≤ Ab
     ·
      rw [if_pos c5] at H
      have Aq := decide_eq_true c5
      clear c5
      obtain ⟨Ao, Af⟩ : ∃ j_ : Int, (mn ((aQ ByteArray.empty l0_1 Ab).size : Int) 300) = j_ := ⟨_, rfl⟩
      first | rw [Af] at H | simp only [Af] at H | skip
      have hji6_ : (if 300 < ((aQ ByteArray.empty l0_1 Ab).size : Int) then 300 else ((aQ ByteArray.empty l0_1 Ab).size : Int)) = Ao := Af
      have H' := Zz.mk H
      clear H
      obtain ⟨hcz7_0, hcz7_1⟩ := xc2 Aa
      have hfz7_0 := xf Aa 0
      have hfz7_1 := xf Aa 1
      have p294 : 0 ≤ (Ab : Int) := xod
      have q294 : Ab < (l0_1.length : Int) := xod
      obtain ⟨Ap, e294, Ac⟩ := Kd.at_string HR0_1.out Ab p294 q294
      cases e294
      replace Ac := (HB.out.cell (World.block_lt_of_cell? w _ Ac)).trans Ac
      replace p294 := eq_true p294
      replace q294 := eq_true q294
      try (have Ai := q294; simp only [ByteArray.size_extract, Nat.min_self] at Ai)
      go_wp2
      first | go_roundg k1 | (simp only [← Af]; go_roundg k1)
      case measure => have := HK1.out; omega
      case rel => exact ⟨(wrap64 (Ae + (1 + (Ao)))), (wrap64 (Ab + 1)), (by first | rfl | (simp; done) | (simp only [← Af] <;> (first | rfl | (rw [Int.tdiv_eq_ediv_of_nonneg (by unfold mx; split <;> omega)]; done) | simp)) | (simp [*]; done) | (simp [wrap64]; done)), xrr, H', ⟨by have := HK1.out; omega⟩, ⟨xbk⟩, ⟨xbl⟩⟩
     ·
      rw [if_neg c5] at H
      exact absurd H (by simp)
    ·
     rw [if_neg c4] at H
     have Al := decide_eq_false c4
     clear c4
     by_cases c8 : Ae > 200
     ·
      rw [if_pos c8] at H
      have Am := decide_eq_true c8
      clear c8
      obtain rfl := Option.some.inj H
      obtain ⟨hcz9_0, hcz9_1⟩ := xc2 Aa
      have hfz9_0 := xf Aa 0
      have hfz9_1 := xf Aa 1
      go_wp2
      go_ret
      exact ⟨xre, xbl⟩
     ·
      rw [if_neg c8] at H
      have Am := decide_eq_false c8
      clear c8
      obtain rfl := Option.some.inj H
      obtain ⟨hcz10_0, hcz10_1⟩ := xc2 Aa
      have hfz10_0 := xf Aa 0
      have hfz10_1 := xf Aa 1
      go_wp2
      go_ret
      exact ⟨xre, xbl⟩
   ·
    rw [if_neg c3] at H
    have Ak := decide_eq_false c3
    clear c3
    by_cases c11 : Ae > 200
    ·
     rw [if_pos c11] at H
     have Aj := decide_eq_true c11
     clear c11
     obtain rfl := Option.some.inj H
     obtain ⟨hcz12_0, hcz12_1⟩ := xc2 Aa
     have hfz12_0 := xf Aa 0
     have hfz12_1 := xf Aa 1
     go_wp2
     go_ret
     exact ⟨xre, xbl⟩
    ·
     rw [if_neg c11] at H
     have Aj := decide_eq_false c11
     clear c11
     obtain rfl := Option.some.inj H
     obtain ⟨hcz13_0, hcz13_1⟩ := xc2 Aa
     have hfz13_0 := xf Aa 0
     have hfz13_1 := xf Aa 1
     go_wp2
     go_ret
     exact ⟨xre, xbl⟩
mutual
def monikerref31_Text.j0 : Nat → ByteArray → Bool → List ByteArray → Option (ByteArray)
  | 0, _, _, _ => none
  | k + 1, x3, x296000, x296001 => monikerref31_Text.l0 k x3 0 x296000 x296001
def monikerref31_Text.l0 : Nat → ByteArray → Int → Bool → List ByteArray → Option (ByteArray)
  | 0, _, _, _, _ => none
  | k + 1, x3, x4, Ab, Aa => if x4 < (Aa.length : Int) then (if x4 > 0 then (if x3.size + 1 ≤ 9223372036854775807 then (monikerref31_Text.j2 k (x3 ++ (⟨#[47]⟩ : ByteArray)) x4 Ab Aa) else (none)) else (monikerref31_Text.j2 k x3 x4 Ab Aa)) else (some x3)
def monikerref31_Text.j2 : Nat → ByteArray → Int → Bool → List ByteArray → Option (ByteArray)
  | 0, _, _, _, _ => none
  | k + 1, x3, x4, x296000, x296001 => monikerref31_Text.l1 k x3 x4 0 x296000 x296001
def monikerref31_Text.l1 : Nat → ByteArray → Int → Int → Bool → List ByteArray → Option (ByteArray)
  | 0, _, _, _, _, _ => none
  | k + 1, x3, x4, x5, Ab, Aa => if 0 ≤ x4 then (if x4 < (Aa.length : Int) then (if x5 < ((aQ ByteArray.empty Aa x4).size : Int) then (if 0 ≤ x5 then ((cp k (bt (aQ ByteArray.empty Aa x4) x5)).bind fun Ad => (if (Go.bits .and .i64 Ad 15) = 0 then (if (bt (aQ ByteArray.empty Aa x4) x5) = 58 then (if x5 ≤ (wrap64 (x5 + 1)) then (if (wrap64 (x5 + 1)) ≤ ((aQ ByteArray.empty Aa x4).size : Int) then (if x3.size + ((aQ ByteArray.empty Aa x4).extract (x5 : Int).toNat ((wrap64 (x5 + 1)) : Int).toNat).size ≤ 9223372036854775807 then (monikerref31_Text.l1 k (x3 ++ ((aQ ByteArray.empty Aa x4).extract (x5 : Int).toNat ((wrap64 (x5 + 1)) : Int).toNat)) x4 (wrap64 (x5 + 1)) Ab Aa) else (none)) else (none)) else (none)) else (if (bt (aQ ByteArray.empty Aa x4) x5) = 64 then (if x5 ≤ (wrap64 (x5 + 1)) then (if (wrap64 (x5 + 1)) ≤ ((aQ ByteArray.empty Aa x4).size : Int) then (if x3.size + ((aQ ByteArray.empty Aa x4).extract (x5 : Int).toNat ((wrap64 (x5 + 1)) : Int).toNat).size ≤ 9223372036854775807 then (monikerref31_Text.l1 k (x3 ++ ((aQ ByteArray.empty Aa x4).extract (x5 : Int).toNat ((wrap64 (x5 + 1)) : Int).toNat)) x4 (wrap64 (x5 + 1)) Ab Aa) else (none)) else (none)) else (none)) else ((dY (bt (aQ ByteArray.empty Aa x4) x5)).bind fun Ac => (if x3.size + Ac.size ≤ 9223372036854775807 then (monikerref31_Text.l1 k (x3 ++ Ac) x4 (wrap64 (x5 + 1)) Ab Aa) else (none))))) else (if x5 ≤ (wrap64 (x5 + 1)) then (if (wrap64 (x5 + 1)) ≤ ((aQ ByteArray.empty Aa x4).size : Int) then (if x3.size + ((aQ ByteArray.empty Aa x4).extract (x5 : Int).toNat ((wrap64 (x5 + 1)) : Int).toNat).size ≤ 9223372036854775807 then (monikerref31_Text.l1 k (x3 ++ ((aQ ByteArray.empty Aa x4).extract (x5 : Int).toNat ((wrap64 (x5 + 1)) : Int).toNat)) x4 (wrap64 (x5 + 1)) Ab Aa) else (none)) else (none)) else (none)))) else (none)) else (monikerref31_Text.l0 k x3 (wrap64 (x4 + 1)) Ab Aa)) else (none)) else (none)
end
def aN (l0 : List ByteArray) : Option (List ByteArray) := if l0.length ≤ 1000000000 then some l0 else none
set_option maxHeartbeats 2000000 in
theorem cT (A0 : Option Addr) (c0 : Nat) (l0 : List ByteArray) (r : List ByteArray) (w : World) (hr0 : Kd.C Kd.string w A0 l0.length l0) (hc0 : l0.length ≤ c0) (h : aN l0 = some r) :
    Calls Tryd.prog 36 #[.slice A0 l0.length c0] w fun e w' => ∃ v0_ : Value, e = .returned (v0_) ∧ Kd.R Kd.string 9 w' w.heap.size (fun _ => True) v0_ r ∧ Below w.heap.size w w' := by
 unfold aN at h
 by_cases hs : l0.length ≤ 1000000000
 case neg => rw [if_neg hs] at h; cases h
 rw [if_pos hs] at h
 obtain rfl := Option.some.inj h
 cases A0 with
 | none =>
  have hl : l0 = [] := by
   refine List.eq_nil_of_length_eq_zero ?_
   rcases Nat.eq_zero_or_pos l0.length with h0 | h0
   · exact h0
   · obtain ⟨ad, he, _⟩ := hr0.2.2 h0
     cases he
  subst hl
  have hnil := fun W => Go.Lib.run_eql_slice_nil_nil (P := Tryd.prog) W 0 c0 Tryd.underlying23
  go_enter Tryd.func36, Tryd.ntmps36
  go_wp2
  go_ret
  exact ⟨_, rfl, Kd.R_nil _ _ _ _ _, Below.refl _ _⟩
 | some a =>
  generalize hn : l0.length = n at hr0 hc0 hs ⊢
  have hnil := fun W => Go.Lib.run_eql_slice_some_nil (P := Tryd.prog) W a n c0 Tryd.underlying23
  go_enter Tryd.func36, Tryd.ntmps36
  go_wp2_with (first
   | ((with_reducible refine ab (N := 5) rfl ?_); refine Kd.R_lit Kd.string _ 9 ?hg (N := 5) ?hd (xs := ([] : List ByteArray)) (inner := []) (ok := fun _ => True) (okp := fun _ => True) ?hr ?hp (fun _ hk => hk) trivial (Below.refl _ _) (Nat.le_refl _) (by simp) ?_; (case hd => rfl); (case hg => rfl); (case hr => first | (go_simp; done) | (go_simp; rfl)); (case hp => exact (Reps.none _ _)); intro v1 w1 ho hb hg_ hnew_)
   | (at_builtin; refine Kd.R_append_row (w0 := w) Value.string ⟨#[]⟩ (h1 := fun _ => rfl) w.heap.size rfl (.tmp 5) (.tmp 6) 23 9 (.string ⟨#[]⟩) 16 rfl Tryd.underlying23 (by kernel_rfl) rfl (by decide) v1 [] l0 (some a) n c0 (fun _ => True) rfl rfl (fun _ _ => trivial) ho (Kd.C_below hr0 hb) hb hb.size (by simp only [List.length_nil]; omega) ?_; intro v2 w2 hR hb2 _ _))
  go_ret
  exact ⟨_, rfl, hR, hb2⟩
def aY (a0_0 : Bool) (l0_1 : List ByteArray) : Option (Bool × List ByteArray × Bool) := if (l0_1.length : Int) < 2 then (some (false, ([] : List ByteArray), false)) else (if 0 ≤ (wrap64 ((l0_1.length : Int) - 1)) then (if (wrap64 ((l0_1.length : Int) - 1)) ≤ (l0_1.length : Int) then ((aN (l0_1.take ((wrap64 ((l0_1.length : Int) - 1)) : Int).toNat)).bind fun t332 => (some (a0_0, t332, true))) else (none)) else (none))
theorem eE (Ag : Bool) (A0_1 : Option Addr) (c0_1 : Nat) (l0_1 : List ByteArray) (r1 : Bool) (r2 : List ByteArray) (r3 : Bool) (w : World) (hr0_1 : Kd.C Kd.string w A0_1 l0_1.length l0_1) (hc0_1 : l0_1.length ≤ c0_1) (h : aY Ag l0_1 = some (r1, r2, r3)) :
    Calls Tryd.prog 19 #[.agg #[.bool Ag, .slice A0_1 l0_1.length c0_1]] w fun e w' => ∃ v1_ : Value, e = .returned (.tuple #[.agg #[.bool r1, v1_], .bool r3]) ∧ Kd.R Kd.string 9 w' w.heap.size (fun _ => True) v1_ r2 ∧ Below w.heap.size w w' := by
 have hu25 := Tryd.underlying25
 have HR0_1 := Zz.mk hr0_1
 have HC0_1 := Zz.mk hc0_1
 clear hr0_1 hc0_1
 have HB := Zz.mk (Below.refl w.heap.size w)
 have H := h
 clear h
 unfold aY at H
 refine xid H ?_ ?_ <;> clear H <;> intro c2 H
 {
 have Aq := xdt c2
 have Ar : decide (l0_1.length < 2) = true := decide_eq_true (by omega)
 clear c2
 simp only [Option.some.injEq, Prod.mk.injEq] at H
 obtain ⟨rfl, rfl, rfl⟩ := H
 go_enter Tryd.func19, Tryd.ntmps19
 go_wp2_with (first | ((with_reducible refine ab (N := 1) rfl ?_); refine xew 1 ?_; intro Af w3 Ac Al hb hg; replace HB := xst hb; clear hb hg) | ((with_reducible refine ab (N := 2) rfl ?_); refine xew 2 ?_; intro Ad w4 Ae Am hb hg; have Aa := xlt (g := Af) hg; have Ab := xgt (g := Af) hg; replace Ac := xbq Af hb; replace HB := xst hb; clear hb hg; have Az := Aa.out; have AA := Ab.out; have AE := xz2 Ac.out; have AF := xz2 Ae.out))
 refine bodyPost_ret (dy rfl _ _ Ad 25 #[.bool false, .slice none 0 0] (0, 0) _ rfl xbk Tryd.underlying25 rfl (by kernel_rfl)) rfl ?_
 exact ⟨_, by first | rfl | (simp [bO, bP] <;> first | rfl | (simp only [cM, bne, Bool.not_not]; done)) | (simp [*, bO, bP] <;> rfl), by first | exact Kd.R_nil _ _ _ _ _ | exact Kd.N_nil _ _ _ _ _ | exact Kd.V_nil _ _ _ _ _ | exact Kd.Q_nil _ _ _ _ _ | exact Kd.S_nil _ _ _ _ _, xbl⟩
 }
 have Aq := xdf c2
 have Ar : decide (l0_1.length < 2) = false := decide_eq_false (by omega)
 clear c2
 obtain ⟨Aj, Ah⟩ : ∃ j_ : Int, (wrap64 ((l0_1.length : Int) - 1)) = j_ := ⟨_, rfl⟩
 first | rw [Ah] at H | simp only [Ah] at H | skip
 have As : (IntKind.i64.wrap ((l0_1.length : Int) - 1)) = Aj := (am _).trans Ah
 refine xin H ?_; clear H; intro c9 H
 obtain ⟨AB, AC⟩ := xcp c9
 clear c9
 refine xin H ?_; clear H; intro c10 H
 obtain ⟨At, Au⟩ := xcp c10
 clear c10
 replace H := xbd H
 obtain ⟨Ak, A11, H⟩ := H
 try dsimp only at H
 simp only [Option.some.injEq, Prod.mk.injEq] at H
 obtain ⟨rfl, rfl, rfl⟩ := H
 go_enter Tryd.func19, Tryd.ntmps19
 try go_wp2_with (first | ((with_reducible refine ab (N := 1) rfl ?_); refine xew 1 ?_; intro Af w12 Ac Al hb hg; replace HB := xst hb; clear hb hg) | ((with_reducible refine ab (N := 2) rfl ?_); refine xew 2 ?_; intro Ad w13 Ae Am hb hg; have Aa := xlt (g := Af) hg; have Ab := xgt (g := Af) hg; replace Ac := xbq Af hb; replace HB := xst hb; clear hb hg; have Av := Aa.out; have Aw := Ab.out; have AD := xz2 Ac.out))
 replace Ac := Zz.mk (bT Ac.out)
 replace Ae := Zz.mk (bT Ae.out)
 replace HB := Zz.mk (bM HB.out)
 obtain ⟨i017, hi017, _, hsz17, _⟩ := info_parts eY
 obtain ⟨hcut17, hA17, hC17⟩ := cw (P := Tryd.prog) Value.string (⟨#[]⟩ : ByteArray) 23 9 .i64 Tryd.underlying23 hi017 hsz17 A0_1 c0_1 l0_1 (Aj) (xod) (xod) HC0_1.out
 have HR331 := Zz.mk (Kd.C_of_reads (h1 := fun _ => rfl) (hA17 _ (Kd.reads_of_C HR0_1.out)))
 have An := Zz.mk hC17
 clear hA17 hC17 hi017 hsz17
 refine xsr 11 [] (xs2 Ac.out) (fun hHeld => ?_)
 generalize w13.drew = w16 at Ac Ae HB HR331 hHeld ⊢
 refine xpu 0 11 ?_
 refine xpu 2 13 ?_
 refine xpu 4 15 ?_
 refine xpu 5 16 ?_
 refine xtk 1 12 ?_
 refine xtk 3 14 ?_
 refine xpu 6 17 ?_
 refine fI (i := 7) (N := some 18) #[true, true, true, true, true, true, true, true, false, false, false] rfl rfl (eN rfl (by kernel_rfl)) (by decide) (fun K hK => ?_)
 refine fQ Tryd.func36 (by kernel_rfl) rfl #[.slice A0_1 (l0_1.take ((Aj) : Int).toNat).length c0_1] (by rfl) rfl rfl (by (try simp only [List.map_toArray, List.map_cons, List.map_nil]); first | done | (rw [show (l0_1.take ((Aj) : Int).toNat).length = (Aj).toNat from (by rw [List.length_take]; have h_ : ((Aj) : Int) ≤ (l0_1.length : Int) := xod; omega)] <;> rfl) | (simp only [Ah]; rfl) | rfl | (simp only [List.length_drop, List.length_take]; rfl)) ?_
 with_reducible refine (cT _ _ (l0_1.take ((Aj) : Int).toNat) Ak _ ?side1 ?side2 A11.out).mono ?_
 (case side1 => repeat (first | exact (Kd.C_below HR331.out HB.out) | (with_reducible refine Kd.C_alloc ?_ _) | (with_reducible refine Kd.C_drewN ?_ _) | (with_reducible refine Kd.C_drew ?_)))
 (case side2 => exact An.out)
 rintro e w18 ⟨v333, rfl, ho0, hb⟩
 refine ⟨_, rfl, ?_⟩
 have n0_ := Zz.mk (Kd.R_lower ho0 (aA xbl))
 have n1_ := xbb (g := Af) (o := .cells #[.bool Ag, .slice A0_1 l0_1.length c0_1] 25 (0, 0)) hb
 have n2_ := xbb (g := Ad) (o := .cells #[.bool false, .slice none 0 0] 25 (0, 0)) hb
 have n3_ := xst hb
 clear Ac
 clear Ae
 clear HB
 have Ai := n0_
 have Ac := n1_
 have Ae := n2_
 have HB := n3_
 clear n0_ n1_ n2_ n3_
 (try clear hb)
 (try clear ho0)
 obtain ⟨Ao19, co19, eo19⟩ := Kd.R_slice Ai.out
 (first | subst eo19 | (injection eo19 with f1_ f2_ f3_; have f4_ := f1_.symm; have f5_ := f3_.symm; clear f1_ f2_ f3_; subst f4_; subst f5_))
 refine hK.out _ _ (xs2 Ac.out) (fun hHeld => ?_)
 clear hK K
 refine fS (a' := ?_) ?_ ?_
 rotate_left
 {
 show Act.put _ (some 18) _ = _
 simp only [Act.put, xl1, xl2, xl3, am, az]
 rfl
 }
 refine xpu 8 19 ?_
 refine fI (i := 9) (N := none) #[true, true, true, true, true, true, true, true, true, true, false] rfl rfl (eN rfl (by kernel_rfl)) (by decide) (fun K hK => ?_)
 have hs20 : w18.cell? ⟨Ad, 0, none⟩ = some (.bool false) := (an Ae.out 0).trans rfl
 have Ax := xf Ae 0
 have Ao := Aa.out
 have hms20_0 := Ab.out
 have hs21 : w18.cell? ⟨Ad, 1, none⟩ = some (.slice none 0 0) := (an Ae.out 1).trans rfl
 have Ay := xf Ae 1
 have Ap := Aa.out
 have hms21_0 := Ab.out
 refine i7 (w1 := ?_) (by rfl) rfl ?_ ?_
 rotate_left
 {
 go_simp
 rfl
 }
 refine hK.out _ _ ⟨((ci (p := ⟨Ad, _, none⟩) Aa.out _).trans (((ci (p := ⟨Ad, _, none⟩) Aa.out _).trans (hHeld.1)))), ((ci (p := ⟨Ad, _, none⟩) Aa.out _).trans (((ci (p := ⟨Ad, _, none⟩) Aa.out _).trans (hHeld.2))))⟩ (fun hHeld => ?_)
 clear hK K
 refine xpu 10 3 ?_
 refine xdn ?_
 try go_wp2
 refine bodyPost_ret (dy rfl _ _ Ad 25 #[.bool Ag, .slice Ao19 Ak.length co19] (0, 0) _ rfl xbk Tryd.underlying25 rfl (by kernel_rfl)) rfl ?_
 exact ⟨_, by first | exact xrd | (simp only [← Ah]; exact xrd) | exact xre, by (with_reducible repeat (first | apply Kd.R_alloc | apply Kd.R_drewN | apply Kd.R_drew)); exact Kd.R_mono (Kd.R_far (p := ⟨Ad, 1, none⟩) (Kd.R_far (p := ⟨Ad, 0, none⟩) (Kd.R_types Ai.out Ae.out (by decide)) (fun _ hk => hk.2) (.bool Ag)) (fun _ hk => hk.2) (.slice Ao19 Ak.length co19)) (fun _ hk => trivial), xbl⟩
def aD : Nat → ByteArray → Int → Int → Option (ByteArray)
  | 0, _, _, _ => none
  | k + 1, x0, x3, x4 => if x4 < (x0.size : Int) then (if 0 ≤ x4 then (if (bt x0 x4) = 46 then (aD k x0 x4 (wrap64 (x4 + 1))) else (aD k x0 x3 (wrap64 (x4 + 1)))) else (none)) else (if x3 = 0 then (some (⟨#[]⟩ : ByteArray)) else (if 0 ≤ (wrap64 (x3 + 1)) then (if (wrap64 (x3 + 1)) ≤ (x0.size : Int) then (some (x0.extract ((wrap64 (x3 + 1)) : Int).toNat x0.size)) else (none)) else (none)))
def bo (k : Nat) (a0 : ByteArray) : Option (ByteArray) := aD k a0 0 1
theorem cQ (k : Nat) (a0 : ByteArray) (r : ByteArray) (w : World) (h : bo k a0 = some r) :
    Calls Tryd.prog 22 #[.string a0] w fun e w' => e = .returned (.string r) ∧ Drawn0 w w' := by
 have H := h
 clear h
 unfold bo at H
 have H' := Zz.mk H
 clear H
 go_enter Tryd.func22, Tryd.ntmps22
 go_wp2
 go_loopg [3, 4] k (fun kq v3 v4 w' => ∃ Ab Aa, v3 = .int .i64 Ab ∧ v4 = .int .i64 Aa ∧ Zz (aD kq a0 Ab Aa = some r) ∧ Zz (kq ≤ k) ∧ Drawn0 w w')
 case atStart => exact ⟨(0), (1), xrr, xrr, H', ⟨Nat.le_refl _⟩, xdr⟩
 case round => (
 clear H'
 obtain ⟨Ab, Aa, rfl, rfl, HA, HK1, ⟨m1, rfl⟩⟩ := hrel
 cases gk with
 | zero => exact absurd HA.out (by simp [aD])
 | succ k1 => (
 have H := HA.out
 clear HA
 simp only [aD] at H
 refine xid H ?_ ?_ <;> clear H <;> intro c2 H
 {
 have Ae := xdt c2
 clear c2
 refine xin H ?_; clear H; intro c3 H
 have Al := xdt c3
 clear c3
 refine xid H ?_ ?_ <;> clear H <;> intro c5 H
 {
 obtain ⟨Af, Ag⟩ := xqe c5
 clear c5
 replace H := xa H
 obtain ⟨p4, q4, hx4⟩ := xiv a0 Aa xod xod
 go_wp2
 go_roundg k1
 case measure => have := HK1.out; omega
 case rel => exact ⟨(Aa), (wrap64 (Aa + 1)), xrr, xrr, H, ⟨by have := HK1.out; omega⟩, xdr⟩
 }
 obtain ⟨Af, Ag⟩ := xqn c5
 replace H := xa H
 obtain ⟨p4, q4, hx4⟩ := xiv a0 Aa xod xod
 go_wp2
 go_roundg k1
 case measure => have := HK1.out; omega
 case rel => exact ⟨(Ab), (wrap64 (Aa + 1)), xrr, xrr, H, ⟨by have := HK1.out; omega⟩, xdr⟩
 }
 have Ae := xdf c2
 clear c2
 refine xid H ?_ ?_ <;> clear H <;> intro c6 H
 {
 obtain ⟨Ah, Ai⟩ := xqe c6
 clear c6
 obtain rfl := Option.some.inj H
 go_wp2
 go_ret
 exact ⟨xrr, xdr⟩
 }
 obtain ⟨Ah, Ai⟩ := xqn c6
 obtain ⟨Aj, Ad⟩ : ∃ j_ : Int, (wrap64 (Ab + 1)) = j_ := ⟨_, rfl⟩
 first | rw [Ad] at H | simp only [Ad] at H | skip
 have Ak : (IntKind.i64.wrap (Ab + 1)) = Aj := (am _).trans Ad
 refine xin H ?_; clear H; intro c8 H
 obtain ⟨Am, An⟩ := xcp c8
 clear c8
 refine xin H ?_; clear H; intro c9 H
 obtain ⟨Ao, Ap⟩ := xcp c9
 clear c9
 obtain ⟨Aq, Ac⟩ : ∃ j_ : ByteArray, (a0.extract ((Aj) : Int).toNat a0.size) = j_ := ⟨_, rfl⟩
 first | rw [Ac] at H | simp only [Ac] at H | skip
 obtain rfl := Option.some.inj H
 go_wp2
 go_ret
 exact ⟨by first | exact xrs | (simp only [← Ad, ← Ac] <;> (first | rfl | simp)) | exact xrr, xdr⟩
 )
 )
def aV (k : Nat) (a0_0 : Bool) (l0_1 : List ByteArray) (a1_0 : Bool) (l1_1 : List ByteArray) : Option (Bool) := if (a0_0 == a1_0) = true then (if (l0_1.length : Int) > (l1_1.length : Int) then (if 0 ≤ (l1_1.length : Int) then (if (l1_1.length : Int) ≤ (l0_1.length : Int) then ((aH k (l0_1.take ((l1_1.length : Int) : Int).toNat) l1_1).bind fun t338 => (some t338)) else (none)) else (none)) else (some false)) else (some false)
theorem dl (k : Nat) (Af : Bool) (A0_1 : Option Addr) (c0_1 : Nat) (l0_1 : List ByteArray) (Aj : Bool) (A1_1 : Option Addr) (c1_1 : Nat) (l1_1 : List ByteArray) (r : Bool) (w : World) (hr0_1 : Kd.C Kd.string w A0_1 l0_1.length l0_1) (hc0_1 : l0_1.length ≤ c0_1) (hr1_1 : Kd.C Kd.string w A1_1 l1_1.length l1_1) (hc1_1 : l1_1.length ≤ c1_1) (h : aV k Af l0_1 Aj l1_1 = some r) :
    Calls Tryd.prog 23 #[.agg #[.bool Af, .slice A0_1 l0_1.length c0_1], .agg #[.bool Aj, .slice A1_1 l1_1.length c1_1]] w fun e w' => e = .returned (.bool r) ∧ Below w.heap.size w w' := by
 have hu25 := Tryd.underlying25
 have HR0_1 := Zz.mk hr0_1
 have HC0_1 := Zz.mk hc0_1
 clear hr0_1 hc0_1
 have HR1_1 := Zz.mk hr1_1
 have HC1_1 := Zz.mk hc1_1
 clear hr1_1 hc1_1
 have HB := Zz.mk (Below.refl w.heap.size w)
 have H := h
 clear h
 unfold aV at H
 refine xid H ?_ ?_ <;> clear H <;> intro c3 H
 {
 have Ay : (Af == Aj) = true := c3
 (try (have Az : decide (Af = Aj) = true := by simpa using c3))
 (try (have AA : (Af == Aj) = true := by simpa using c3))
 clear c3
 refine xid H ?_ ?_ <;> clear H <;> intro c4 H
 {
 have AB := xdt c4
 have AC : decide (l1_1.length < l0_1.length) = true := decide_eq_true (Int.ofNat_lt.mp c4)
 clear c4
 refine xin H ?_; clear H; intro c5 H
 obtain ⟨AD, AE⟩ := xcp c5
 clear c5
 refine xin H ?_; clear H; intro c6 H
 obtain ⟨AF, AG⟩ := xcp c6
 clear c6
 replace H := xbd H
 obtain ⟨Ar, A7, H⟩ := H
 try dsimp only at H
 obtain rfl := Option.some.inj H
 go_enter Tryd.func23, Tryd.ntmps23
 go_wp2_with (first | ((with_reducible refine ab (N := 2) rfl ?_); (try (refine al (by rfl) ?_; dsimp only)); refine xew 2 ?_; intro Ac w8 Ad Ag hb hg; replace HB := xst hb; clear hb hg) | ((with_reducible refine ab (N := 3) rfl ?_); (try (refine al (by rfl) ?_; dsimp only)); refine xew 3 ?_; intro Ah w9 Ae Ai hb hg; have Aa := xlt (g := Ac) hg; have Ab := xgt (g := Ac) hg; replace Ad := xbq Ac hb; replace HB := xst hb; clear hb hg; have Al := Ab.out; have Am := Aa.out; have As := xz2 Ae.out; have At := xz2 Ad.out; obtain ⟨i013, hi013, _, hsz13, _⟩ := info_parts eY; obtain ⟨hcut13, hA13, hC13⟩ := cw (P := Tryd.prog) Value.string (⟨#[]⟩ : ByteArray) 23 9 .i64 Tryd.underlying23 hi013 hsz13 A0_1 c0_1 l0_1 (l1_1.length : Int) (xod) (xod) HC0_1.out; have HR337 := Zz.mk (Kd.C_of_reads (h1 := fun _ => rfl) (hA13 _ (Kd.reads_of_C HR0_1.out))); have Ak := Zz.mk hC13; clear hA13 hC13 hi013 hsz13) | (go_at_call 33; refine Eq.mp (congrArg (fun n_ => Calls Tryd.prog 33 #[.slice A0_1 n_ c0_1, .slice A1_1 l1_1.length c1_1] _ _) (show (l0_1.take ((l1_1.length : Int) : Int).toNat).length = min l1_1.length l0_1.length from List.length_take)) ?_; (with_reducible refine (bn k _ _ (l0_1.take ((l1_1.length : Int) : Int).toNat) _ _ l1_1 Ar _ ?side1 ?side2 ?side3 ?side4 A7.out).mono ?_); (case side1 => repeat (first | exact (Kd.C_below HR337.out HB.out) | (with_reducible refine Kd.C_alloc ?_ _) | (with_reducible refine Kd.C_drewN ?_ _) | (with_reducible refine Kd.C_drew ?_))); (case side2 => exact Ak.out); (case side3 => repeat (first | exact (Kd.C_below HR1_1.out HB.out) | (with_reducible refine Kd.C_alloc ?_ _) | (with_reducible refine Kd.C_drewN ?_ _) | (with_reducible refine Kd.C_drew ?_))); (case side4 => exact HC1_1.out); rintro e w' ⟨rfl, ⟨nd, rfl⟩⟩; (try exact xdd)))
 repeat (go_quiet (first | ((with_reducible refine ab (N := 2) rfl ?_); (try (refine al (by rfl) ?_; dsimp only)); refine xew 2 ?_; intro Ac w8 Ad Ag hb hg; replace HB := xst hb; clear hb hg) | ((with_reducible refine ab (N := 3) rfl ?_); (try (refine al (by rfl) ?_; dsimp only)); refine xew 3 ?_; intro Ah w9 Ae Ai hb hg; have Aa := xlt (g := Ac) hg; have Ab := xgt (g := Ac) hg; replace Ad := xbb (g := Ac) (o := .cells #[.bool Af, .slice A0_1 l0_1.length c0_1] 25 (0, 0)) hb; replace HB := xst hb; clear hb hg; have Al := Ab.out; have Am := Aa.out; have As := xz2 Ae.out; have At := xz2 Ad.out; obtain ⟨i013, hi013, _, hsz13, _⟩ := info_parts eY; obtain ⟨hcut13, hA13, hC13⟩ := cw (P := Tryd.prog) Value.string (⟨#[]⟩ : ByteArray) 23 9 .i64 Tryd.underlying23 hi013 hsz13 A0_1 c0_1 l0_1 (l1_1.length : Int) (xod) (xod) HC0_1.out; have HR337 := Zz.mk (Kd.C_of_reads (h1 := fun _ => rfl) (hA13 _ (Kd.reads_of_C HR0_1.out))); have Ak := Zz.mk hC13; clear hA13 hC13 hi013 hsz13) | (go_at_call 33; refine Eq.mp (congrArg (fun n_ => Calls Tryd.prog 33 #[.slice A0_1 n_ c0_1, .slice A1_1 l1_1.length c1_1] _ _) (show (l0_1.take ((l1_1.length : Int) : Int).toNat).length = min l1_1.length l0_1.length from List.length_take)) ?_; (with_reducible refine (bn k _ _ (l0_1.take ((l1_1.length : Int) : Int).toNat) _ _ l1_1 Ar _ ?side1 ?side2 ?side3 ?side4 A7.out).mono ?_); (case side1 => repeat (first | exact (Kd.C_below HR337.out HB.out) | (with_reducible refine Kd.C_alloc ?_ _) | (with_reducible refine Kd.C_drewN ?_ _) | (with_reducible refine Kd.C_drew ?_))); (case side2 => exact Ak.out); (case side3 => repeat (first | exact (Kd.C_below HR1_1.out HB.out) | (with_reducible refine Kd.C_alloc ?_ _) | (with_reducible refine Kd.C_drewN ?_ _) | (with_reducible refine Kd.C_drew ?_))); (case side4 => exact HC1_1.out); rintro e w' ⟨rfl, ⟨nd, rfl⟩⟩; (try exact xdd))); try go_wp2_with (first | ((with_reducible refine ab (N := 2) rfl ?_); (try (refine al (by rfl) ?_; dsimp only)); refine xew 2 ?_; intro Ac w8 Ad Ag hb hg; replace HB := xst hb; clear hb hg) | ((with_reducible refine ab (N := 3) rfl ?_); (try (refine al (by rfl) ?_; dsimp only)); refine xew 3 ?_; intro Ah w9 Ae Ai hb hg; have Aa := xlt (g := Ac) hg; have Ab := xgt (g := Ac) hg; replace Ad := xbb (g := Ac) (o := .cells #[.bool Af, .slice A0_1 l0_1.length c0_1] 25 (0, 0)) hb; replace HB := xst hb; clear hb hg; have Al := Ab.out; have Am := Aa.out; have As := xz2 Ae.out; have At := xz2 Ad.out; obtain ⟨i013, hi013, _, hsz13, _⟩ := info_parts eY; obtain ⟨hcut13, hA13, hC13⟩ := cw (P := Tryd.prog) Value.string (⟨#[]⟩ : ByteArray) 23 9 .i64 Tryd.underlying23 hi013 hsz13 A0_1 c0_1 l0_1 (l1_1.length : Int) (xod) (xod) HC0_1.out; have HR337 := Zz.mk (Kd.C_of_reads (h1 := fun _ => rfl) (hA13 _ (Kd.reads_of_C HR0_1.out))); have Ak := Zz.mk hC13; clear hA13 hC13 hi013 hsz13) | (go_at_call 33; refine Eq.mp (congrArg (fun n_ => Calls Tryd.prog 33 #[.slice A0_1 n_ c0_1, .slice A1_1 l1_1.length c1_1] _ _) (show (l0_1.take ((l1_1.length : Int) : Int).toNat).length = min l1_1.length l0_1.length from List.length_take)) ?_; (with_reducible refine (bn k _ _ (l0_1.take ((l1_1.length : Int) : Int).toNat) _ _ l1_1 Ar _ ?side1 ?side2 ?side3 ?side4 A7.out).mono ?_); (case side1 => repeat (first | exact (Kd.C_below HR337.out HB.out) | (with_reducible refine Kd.C_alloc ?_ _) | (with_reducible refine Kd.C_drewN ?_ _) | (with_reducible refine Kd.C_drew ?_))); (case side2 => exact Ak.out); (case side3 => repeat (first | exact (Kd.C_below HR1_1.out HB.out) | (with_reducible refine Kd.C_alloc ?_ _) | (with_reducible refine Kd.C_drewN ?_ _) | (with_reducible refine Kd.C_drew ?_))); (case side4 => exact HC1_1.out); rintro e w' ⟨rfl, ⟨nd, rfl⟩⟩; (try exact xdd))))
 go_ret
 exact ⟨xre, xbl⟩
 }
 have AB := xdf c4
 have AC : decide (l1_1.length < l0_1.length) = false := decide_eq_false (fun h => c4 (Int.ofNat_lt.mpr h))
 clear c4
 obtain rfl := Option.some.inj H
 go_enter Tryd.func23, Tryd.ntmps23
 go_wp2_with (first | ((with_reducible refine ab (N := 2) rfl ?_); (try (refine al (by rfl) ?_; dsimp only)); refine xew 2 ?_; intro Ac w14 Ad Ag hb hg; replace HB := xst hb; clear hb hg) | ((with_reducible refine ab (N := 3) rfl ?_); (try (refine al (by rfl) ?_; dsimp only)); refine xew 3 ?_; intro Ah w15 Ae Ai hb hg; have Aa := xlt (g := Ac) hg; have Ab := xgt (g := Ac) hg; replace Ad := xbq Ac hb; replace HB := xst hb; clear hb hg; have An := Ab.out; have Ao := Aa.out; have Au := xz2 Ae.out; have Av := xz2 Ad.out))
 repeat (go_quiet (first | ((with_reducible refine ab (N := 2) rfl ?_); (try (refine al (by rfl) ?_; dsimp only)); refine xew 2 ?_; intro Ac w14 Ad Ag hb hg; replace HB := xst hb; clear hb hg) | ((with_reducible refine ab (N := 3) rfl ?_); (try (refine al (by rfl) ?_; dsimp only)); refine xew 3 ?_; intro Ah w15 Ae Ai hb hg; have Aa := xlt (g := Ac) hg; have Ab := xgt (g := Ac) hg; replace Ad := xbb (g := Ac) (o := .cells #[.bool Af, .slice A0_1 l0_1.length c0_1] 25 (0, 0)) hb; replace HB := xst hb; clear hb hg; have An := Ab.out; have Ao := Aa.out; have Au := xz2 Ae.out; have Av := xz2 Ad.out)); try go_wp2_with (first | ((with_reducible refine ab (N := 2) rfl ?_); (try (refine al (by rfl) ?_; dsimp only)); refine xew 2 ?_; intro Ac w14 Ad Ag hb hg; replace HB := xst hb; clear hb hg) | ((with_reducible refine ab (N := 3) rfl ?_); (try (refine al (by rfl) ?_; dsimp only)); refine xew 3 ?_; intro Ah w15 Ae Ai hb hg; have Aa := xlt (g := Ac) hg; have Ab := xgt (g := Ac) hg; replace Ad := xbb (g := Ac) (o := .cells #[.bool Af, .slice A0_1 l0_1.length c0_1] 25 (0, 0)) hb; replace HB := xst hb; clear hb hg; have An := Ab.out; have Ao := Aa.out; have Au := xz2 Ae.out; have Av := xz2 Ad.out)))
 go_ret
 exact ⟨xre, xbl⟩
 }
 have Ay : (Af == Aj) = false := by simpa using c3
 (try (have Az : decide (Af = Aj) = false := by simpa using c3))
 (try (have AA : (Af == Aj) = false := by simpa using c3))
 (try (have AH : ¬ (Af = Aj) := by simpa using c3))
 clear c3
 obtain rfl := Option.some.inj H
 go_enter Tryd.func23, Tryd.ntmps23
 go_wp2_with (first | ((with_reducible refine ab (N := 2) rfl ?_); (try (refine al (by rfl) ?_; dsimp only)); refine xew 2 ?_; intro Ac w19 Ad Ag hb hg; replace HB := xst hb; clear hb hg) | ((with_reducible refine ab (N := 3) rfl ?_); (try (refine al (by rfl) ?_; dsimp only)); refine xew 3 ?_; intro Ah w20 Ae Ai hb hg; have Aa := xlt (g := Ac) hg; have Ab := xgt (g := Ac) hg; replace Ad := xbq Ac hb; replace HB := xst hb; clear hb hg; have Ap := Ab.out; have Aq := Aa.out; have Aw := xz2 Ae.out; have Ax := xz2 Ad.out))
 repeat (go_quiet (first | ((with_reducible refine ab (N := 2) rfl ?_); (try (refine al (by rfl) ?_; dsimp only)); refine xew 2 ?_; intro Ac w19 Ad Ag hb hg; replace HB := xst hb; clear hb hg) | ((with_reducible refine ab (N := 3) rfl ?_); (try (refine al (by rfl) ?_; dsimp only)); refine xew 3 ?_; intro Ah w20 Ae Ai hb hg; have Aa := xlt (g := Ac) hg; have Ab := xgt (g := Ac) hg; replace Ad := xbb (g := Ac) (o := .cells #[.bool Af, .slice A0_1 l0_1.length c0_1] 25 (0, 0)) hb; replace HB := xst hb; clear hb hg; have Ap := Ab.out; have Aq := Aa.out; have Aw := xz2 Ae.out; have Ax := xz2 Ad.out)); try go_wp2_with (first | ((with_reducible refine ab (N := 2) rfl ?_); (try (refine al (by rfl) ?_; dsimp only)); refine xew 2 ?_; intro Ac w19 Ad Ag hb hg; replace HB := xst hb; clear hb hg) | ((with_reducible refine ab (N := 3) rfl ?_); (try (refine al (by rfl) ?_; dsimp only)); refine xew 3 ?_; intro Ah w20 Ae Ai hb hg; have Aa := xlt (g := Ac) hg; have Ab := xgt (g := Ac) hg; replace Ad := xbb (g := Ac) (o := .cells #[.bool Af, .slice A0_1 l0_1.length c0_1] 25 (0, 0)) hb; replace HB := xst hb; clear hb hg; have Ap := Ab.out; have Aq := Aa.out; have Aw := xz2 Ae.out; have Ax := xz2 Ad.out)))
 go_ret
 exact ⟨xre, xbl⟩
mutual
def aG : Nat → Int → ByteArray → Bool → List ByteArray → Option (Bool)
  | 0, _, _, _, _ => none
  | k + 1, x3, x4, Aa, Ab => (aY Aa Ab).bind fun Ac => ((aK Aa Ab).bind fun Ad => (if Ad.toList = x4.toList then ((aX k Aa Ab).bind fun Ae => ((bo k x4).bind fun Af => (if Ae.toList = Af.toList then (ai k x3 Ac.2.2 (Ac.2.2 != (decide (x3 > 1))) Aa Ab Ac.1 Ac.2.1) else (ai k x3 Ac.2.2 true Aa Ab Ac.1 Ac.2.1)))) else (ai k x3 Ac.2.2 true Aa Ab Ac.1 Ac.2.1)))
def ai : Nat → Int → Bool → Bool → Bool → List ByteArray → Bool → List ByteArray → Option (Bool)
  | 0, _, _, _, _, _, _, _ => none
  | k + 1, x3, x6, Aj, Ad, Aa, Ab, Ac => if Aj = true then (none) else (if x6 = true then (if (Ab == Ad) = true then (if 0 ≤ (wrap64 (x3 - 1)) then (if (wrap64 (x3 - 1)) ≤ (Aa.length : Int) then ((bf k Ac (Aa.take ((wrap64 (x3 - 1)) : Int).toNat)).bind fun Ae => (if Ae = true then ((aV k Ad Aa Ab Ac).bind fun Af => (if Af = true then ((aV k Ab Ac Ad Aa).bind fun Ag => (if Ag = true then (none) else ((aq k).bind fun Ah => (some Ah)))) else (none))) else (none))) else (none)) else (none)) else (none)) else (if (Ac.length : Int) = 0 then (if Ab = true then (none) else ((aq k).bind fun Ai => (some Ai))) else (none)))
end
def bu (k : Nat) (a0_0 : Bool) (l0_1 : List ByteArray) : Option (Bool) := (cD k a0_0 l0_1).bind fun t340 => (if t340 = true then ((aq k).bind fun t341 => (some t341)) else (if (l0_1.length : Int) > 0 then (if 0 ≤ (wrap64 ((l0_1.length : Int) - 1)) then (if (wrap64 ((l0_1.length : Int) - 1)) < (l0_1.length : Int) then (aG k (l0_1.length : Int) (aQ ByteArray.empty l0_1 (wrap64 ((l0_1.length : Int) - 1))) a0_0 l0_1) else (none)) else (none)) else (aG k (l0_1.length : Int) (⟨#[]⟩ : ByteArray) a0_0 l0_1)))
theorem dG (k : Nat) (Ad : Bool) (A0_1 : Option Addr) (c0_1 : Nat) (l0_1 : List ByteArray) (r : Bool) (w : World) (hr0_1 : Kd.C Kd.string w A0_1 l0_1.length l0_1) (hc0_1 : l0_1.length ≤ c0_1) (hG : GW w) (h : bu k Ad l0_1 = some r) :
    Calls Tryd.prog 5 #[.agg #[.bool Ad, .slice A0_1 l0_1.length c0_1]] w fun e w' => e = .returned (.bool r) ∧ Below w.heap.size w w' := by
 have hu25 := Tryd.underlying25
 have HR0_1 := Zz.mk hr0_1
 have HC0_1 := Zz.mk hc0_1
 clear hr0_1 hc0_1
 have HB := Zz.mk (Below.refl w.heap.size w)
 have H := h
 clear h
 unfold bu at H
 replace H := xbd H
 obtain ⟨AM, A2, H⟩ := H
 try dsimp only at H
 by_cases c3 : AM = true
 {
 subst c3
 rw [if_pos rfl] at H
 replace H := xbd H
 obtain ⟨AN, A4, H⟩ := H
 try dsimp only at H
 obtain rfl := Option.some.inj H
 go_enter Tryd.func5, Tryd.ntmps5
 go_wp2_with (first | ((with_reducible refine ab (N := 1) rfl ?_); refine xew 1 ?_; intro Ae w5 Ab Az hb hg; replace HB := xst hb; clear hb hg; have Bv := xz2 Ab.out) | ((with_reducible refine xgc (f := 15) rfl ?_); refine xgl 8 Tryd.func15 #[.agg #[.bool Ad, .slice A0_1 l0_1.length c0_1]] ?_; (with_reducible refine (cN k Ad _ _ l0_1 true _ ?side1 ?side2 A2.out).mono ?_); (case side1 => repeat (first | exact (Kd.C_below HR0_1.out HB.out) | (with_reducible refine Kd.C_alloc ?_ _) | (with_reducible refine Kd.C_drewN ?_ _) | (with_reducible refine Kd.C_drew ?_))); (case side2 => exact HC0_1.out); rintro e w7 ⟨rfl, hb⟩; refine ⟨_, rfl, ?_⟩; replace Ab := xbq Ae hb; replace HB := xst hb; (try clear hb)) | ((with_reducible refine xgc (f := 7) rfl ?_); refine xgl 9 Tryd.func7 #[] ?_; (with_reducible refine (b6 k  AN _ ?side1 A4.out).mono ?_); (case side1 => first | (with_reducible exact hG) | exact gp hG xbl); rintro e w8 ⟨rfl, hb⟩; refine ⟨_, rfl, ?_⟩; replace Ab := xbq Ae hb; replace HB := xst hb; (try clear hb)))
 go_ret
 exact ⟨xre, xbl⟩
 }
 {
 replace c3 := Bool.eq_false_iff.mpr c3
 subst c3
 rw [if_neg (show ¬ (false = true) by decide)] at H
 have AO := Zz.mk H
 clear H
 go_enter Tryd.func5, Tryd.ntmps5
 go_upto_if 14 with (first | ((with_reducible refine ab (N := 1) rfl ?_); refine xew 1 ?_; intro Ae w10 Ab Az hb hg; replace HB := xst hb; clear hb hg; have Bg := xz2 Ab.out) | ((with_reducible refine xgc (f := 15) rfl ?_); refine xgl 8 Tryd.func15 #[.agg #[.bool Ad, .slice A0_1 l0_1.length c0_1]] ?_; (with_reducible refine (cN k Ad _ _ l0_1 false _ ?side1 ?side2 A2.out).mono ?_); (case side1 => repeat (first | exact (Kd.C_below HR0_1.out HB.out) | (with_reducible refine Kd.C_alloc ?_ _) | (with_reducible refine Kd.C_drewN ?_ _) | (with_reducible refine Kd.C_drew ?_))); (case side2 => exact HC0_1.out); rintro e w12 ⟨rfl, hb⟩; refine ⟨_, rfl, ?_⟩; replace Ab := xbq Ae hb; replace HB := xst hb; (try clear hb); have Bh := xz2 Ab.out))
 (try simp only [Act.put, xl1, xl2, xl3])
 go_cut [4] (fun v4 wc => ∃ kq Av, v4 = .string Av ∧ Zz (aG kq (l0_1.length : Int) Av Ad l0_1 = some r) ∧ Zz (kq ≤ k) ∧ Zz (wc.heap[Ae]? = some (.cells #[.bool Ad, (.slice A0_1 l0_1.length c0_1)] 25 (0, 0))) ∧ Zz (Below w.heap.size w wc))
 case first => (
 have H := AO.out
 clear AO
 refine xid H ?_ ?_ <;> clear H <;> intro c14 H
 {
 have Am := xdt c14
 have As : decide (0 < l0_1.length) = true := decide_eq_true (by omega)
 clear c14
 (first | rw [Am] | (simp only [am, az]; rw [Am]) | (rw [AA]; (try simp only [Bool.not_false, Bool.not_true])) | (rw [AB]; (try simp only [Bool.not_false, Bool.not_true])) | rw [As] | skip)
 obtain ⟨At, Ar⟩ : ∃ j_ : Int, (wrap64 ((l0_1.length : Int) - 1)) = j_ := ⟨_, rfl⟩
 first | rw [Ar] at H | simp only [Ar] at H | skip
 have AP : (IntKind.i64.wrap ((l0_1.length : Int) - 1)) = At := (am _).trans Ar
 refine xin H ?_; clear H; intro c16 H
 have AT := xdt c16
 clear c16
 refine xin H ?_; clear H; intro c17 H
 have AU := xdt c17
 clear c17
 replace H := xa H
 have Bi := xz2 Ab.out
 have p342 : 0 ≤ ((At) : Int) := xod
 have q342 : (At) < (l0_1.length : Int) := xod
 obtain ⟨AV, e342, Al⟩ := Kd.at_string HR0_1.out (At) p342 q342
 cases e342
 replace Al := (HB.out.cell (World.block_lt_of_cell? w _ Al)).trans Al
 replace p342 := eq_true p342
 replace q342 := eq_true q342
 try (have AC := q342; simp only [ByteArray.size_extract, Nat.min_self] at AC)
 go_wp2
 go_meet
 case rel => exact ⟨_, (aQ ByteArray.empty l0_1 (At)), (by first | rfl | (simp; done) | (simp only [← Ar] <;> (first | rfl | (rw [Int.tdiv_eq_ediv_of_nonneg (by unfold mx; split <;> omega)]; done) | simp)) | (simp [*]; done) | (simp [wrap64]; done)), H, ⟨xom⟩, ⟨xbk⟩, ⟨xbl⟩⟩
 }
 have Am := xdf c14
 have As : decide (0 < l0_1.length) = false := decide_eq_false (by omega)
 clear c14
 (first | rw [Am] | (simp only [am, az]; rw [Am]) | (rw [AA]; (try simp only [Bool.not_false, Bool.not_true])) | (rw [AB]; (try simp only [Bool.not_false, Bool.not_true])) | rw [As] | skip)
 replace H := xa H
 go_wp2
 go_meet
 case rel => exact ⟨_, ((⟨#[]⟩ : ByteArray)), xrr, H, ⟨xom⟩, ⟨xbk⟩, ⟨xbl⟩⟩
 )
 case rest => (
 clear AO
 try clear Al
 obtain ⟨kq, Av, rfl, HA, HJ8, Ab, HB⟩ := hcut
 cases kq with
 | zero => exact absurd HA.out (by simp [aG])
 | succ kj8 => (
 have H := HA.out
 clear HA
 simp only [aG] at H
 replace H := xbd H
 obtain ⟨⟨Ah, Ai, Aw⟩, A19, H⟩ := H
 try dsimp only at H
 have Ax := Zz.mk H
 clear H
 have Bj := xz2 Ab.out
 go_upto_region 8 with (first | ((with_reducible refine xgc (f := 19) rfl ?_); refine xgl 23 Tryd.func19 #[.agg #[.bool Ad, .slice A0_1 l0_1.length c0_1]] ?_; (with_reducible refine (eE Ad _ _ l0_1 Ah Ai Aw _ ?side1 ?side2 A19.out).mono ?_); (case side1 => repeat (first | exact (Kd.C_below HR0_1.out HB.out) | (with_reducible refine Kd.C_alloc ?_ _) | (with_reducible refine Kd.C_drewN ?_ _) | (with_reducible refine Kd.C_drew ?_))); (case side2 => exact HC0_1.out); rintro e w22 ⟨v345, rfl, ho0, hb⟩; refine ⟨_, rfl, ?_⟩; have Ag := Zz.mk (Kd.R_lower ho0 (aA xbl)); replace Ab := xbb (g := Ae) (o := .cells #[.bool Ad, .slice A0_1 l0_1.length c0_1] 25 (0, 0)) hb; replace HB := xst hb; (try clear hb); (try clear ho0)) | ((with_reducible refine ab (N := 5) rfl ?_); refine xew 5 ?_; intro Af w23 Ac AW hb hg; have Aj := xlt (g := Ae) hg; have Ak := xgt (g := Ae) hg; replace Ag := Zz.mk (Kd.R_below (xkd Ag) hb); replace Ab := xbq Ae hb; replace HB := xst hb; clear hb hg; have AX := Ak.out; have AY := Aj.out; have Bk := xz2 Ac.out; obtain ⟨Ao26, co26, eo26⟩ := Kd.R_slice Ag.out; subst eo26))
 (try simp only [Act.put, xl1, xl2, xl3])
 go_cut [42] (fun v42 wc => ∃ kq Ap, v42 = .bool Ap ∧ Zz (ai kq (l0_1.length : Int) Aw Ap Ad l0_1 Ah Ai = some r) ∧ Zz (kq ≤ kj8) ∧ Zz (Kd.R Kd.string 9 wc w.heap.size (fun _ => True) (.slice Ao26 Ai.length co26) Ai) ∧ Zz (wc.heap[Ae]? = some (.cells #[.bool Ad, (.slice A0_1 l0_1.length c0_1)] 25 (0, 0))) ∧ Zz (wc.heap[Af]? = some (.cells #[.bool Ah, (.slice Ao26 Ai.length co26)] 25 (0, 0))) ∧ Zz (Below w.heap.size w wc))
 case first => (
 have H := Ax.out
 clear Ax
 replace H := xbd H
 obtain ⟨Ay, A27, H⟩ := H
 try dsimp only at H
 refine xid H ?_ ?_ <;> clear H <;> intro c28 H
 {
 obtain ⟨An, Au⟩ := xqe c28
 clear c28
 (first | rw [An] | (simp only [am, az]; rw [An]) | (rw [AD]; (try simp only [Bool.not_false, Bool.not_true])) | (rw [AE]; (try simp only [Bool.not_false, Bool.not_true])) | rw [Au] | skip)
 replace H := xbd H
 obtain ⟨AF, A29, H⟩ := H
 try dsimp only at H
 replace H := xbd H
 obtain ⟨Bl, A30, H⟩ := H
 try dsimp only at H
 refine xid H ?_ ?_ <;> clear H <;> intro c31 H
 {
 obtain ⟨AG, AH⟩ := xqe c31
 clear c31
 replace H := xa H
 have AZ := Aj.out
 have A0 := Ak.out
 have Bm := xz2 Ab.out
 go_wp2_with (first | ((with_reducible refine xgc (f := 20) rfl ?_); refine xgl 27 Tryd.func20 #[.agg #[.bool Ad, .slice A0_1 l0_1.length c0_1]] ?_; (with_reducible refine (bx Ad _ _ l0_1 Ay _ ?side1 ?side2 A27.out).mono ?_); (case side1 => exact Kd.C_below HR0_1.out xbl); (case side2 => exact HC0_1.out); rintro e w34 ⟨rfl, hb⟩; refine ⟨_, rfl, ?_⟩; replace Ag := Zz.mk (Kd.R_below (by (with_reducible repeat (first | apply Kd.R_alloc | apply Kd.R_drewN | apply Kd.R_drew)); exact (Kd.R_mono (Kd.R_far (p := ⟨Af, 1, none⟩) (Kd.R_far (p := ⟨Af, 0, none⟩) (Kd.R_types Ag.out Ac.out (by decide)) (fun _ hk => hk.2) (.bool Ah)) (fun _ hk => hk.2) (.slice Ao26 Ai.length co26)) (fun _ h_ => h_.1))) hb); replace Ab := xbb (g := Ae) (o := .cells #[.bool Ad, .slice A0_1 l0_1.length c0_1] 25 (0, 0)) hb; replace Ac := xbb (g := Af) (o := .cells #[.bool Ah, .slice Ao26 Ai.length co26] 25 (0, 0)) hb; replace HB := xst hb; (try clear hb); have Bn := xz2 Ab.out) | (go_at_call 21; (with_reducible refine (b8 kj8 Ad _ _ l0_1 AF _ ?side1 ?side2 A29.out).mono ?_); (case side1 => repeat (first | exact (Kd.C_below HR0_1.out HB.out) | (with_reducible refine Kd.C_alloc ?_ _) | (with_reducible refine Kd.C_drewN ?_ _) | (with_reducible refine Kd.C_drew ?_))); (case side2 => exact HC0_1.out); rintro e w36 ⟨rfl, hb⟩; replace Ag := Zz.mk (Kd.R_below (xkd Ag) hb); replace Ab := xbq Ae hb; replace Ac := xbq Af hb; replace HB := xst hb; (try clear hb)) | (go_at_call 22; (with_reducible refine (cQ (w := _) (h := A30.out)).mono ?_); rintro e w' ⟨rfl, ⟨nd, rfl⟩⟩))
 go_meet
 case rel => exact ⟨_, ((Aw != (decide ((l0_1.length : Int) > 1)))), xrr, H, ⟨xoj HJ8⟩, ⟨xkd Ag⟩, ⟨xbk⟩, ⟨xbk⟩, ⟨xbl⟩⟩
 }
 obtain ⟨AG, AH⟩ := xqn c31
 replace H := xa H
 have A1 := Aj.out
 have A3 := Ak.out
 have Bo := xz2 Ab.out
 go_wp2_with (first | ((with_reducible refine xgc (f := 20) rfl ?_); refine xgl 27 Tryd.func20 #[.agg #[.bool Ad, .slice A0_1 l0_1.length c0_1]] ?_; (with_reducible refine (bx Ad _ _ l0_1 Ay _ ?side1 ?side2 A27.out).mono ?_); (case side1 => exact Kd.C_below HR0_1.out xbl); (case side2 => exact HC0_1.out); rintro e w39 ⟨rfl, hb⟩; refine ⟨_, rfl, ?_⟩; replace Ag := Zz.mk (Kd.R_below (by (with_reducible repeat (first | apply Kd.R_alloc | apply Kd.R_drewN | apply Kd.R_drew)); exact (Kd.R_mono (Kd.R_far (p := ⟨Af, 1, none⟩) (Kd.R_far (p := ⟨Af, 0, none⟩) (Kd.R_types Ag.out Ac.out (by decide)) (fun _ hk => hk.2) (.bool Ah)) (fun _ hk => hk.2) (.slice Ao26 Ai.length co26)) (fun _ h_ => h_.1))) hb); replace Ab := xbb (g := Ae) (o := .cells #[.bool Ad, .slice A0_1 l0_1.length c0_1] 25 (0, 0)) hb; replace Ac := xbb (g := Af) (o := .cells #[.bool Ah, .slice Ao26 Ai.length co26] 25 (0, 0)) hb; replace HB := xst hb; (try clear hb); have Bp := xz2 Ab.out) | (go_at_call 21; (with_reducible refine (b8 kj8 Ad _ _ l0_1 AF _ ?side1 ?side2 A29.out).mono ?_); (case side1 => repeat (first | exact (Kd.C_below HR0_1.out HB.out) | (with_reducible refine Kd.C_alloc ?_ _) | (with_reducible refine Kd.C_drewN ?_ _) | (with_reducible refine Kd.C_drew ?_))); (case side2 => exact HC0_1.out); rintro e w41 ⟨rfl, hb⟩; replace Ag := Zz.mk (Kd.R_below (xkd Ag) hb); replace Ab := xbq Ae hb; replace Ac := xbq Af hb; replace HB := xst hb; (try clear hb)) | (go_at_call 22; (with_reducible refine (cQ (w := _) (h := A30.out)).mono ?_); rintro e w' ⟨rfl, ⟨nd, rfl⟩⟩))
 go_meet
 case rel => exact ⟨_, (true), xrr, H, ⟨xoj HJ8⟩, ⟨xkd Ag⟩, ⟨xbk⟩, ⟨xbk⟩, ⟨xbl⟩⟩
 }
 obtain ⟨An, Au⟩ := xqn c28
 (first | rw [An] | (simp only [am, az]; rw [An]) | (rw [AD]; (try simp only [Bool.not_false, Bool.not_true])) | (rw [AE]; (try simp only [Bool.not_false, Bool.not_true])) | rw [Au] | skip)
 replace H := xa H
 have A5 := Aj.out
 have A6 := Ak.out
 have Bq := xz2 Ab.out
 go_wp2_with (first | ((with_reducible refine xgc (f := 20) rfl ?_); refine xgl 27 Tryd.func20 #[.agg #[.bool Ad, .slice A0_1 l0_1.length c0_1]] ?_; (with_reducible refine (bx Ad _ _ l0_1 Ay _ ?side1 ?side2 A27.out).mono ?_); (case side1 => exact Kd.C_below HR0_1.out xbl); (case side2 => exact HC0_1.out); rintro e w44 ⟨rfl, hb⟩; refine ⟨_, rfl, ?_⟩; replace Ag := Zz.mk (Kd.R_below (by (with_reducible repeat (first | apply Kd.R_alloc | apply Kd.R_drewN | apply Kd.R_drew)); exact (Kd.R_mono (Kd.R_far (p := ⟨Af, 1, none⟩) (Kd.R_far (p := ⟨Af, 0, none⟩) (Kd.R_types Ag.out Ac.out (by decide)) (fun _ hk => hk.2) (.bool Ah)) (fun _ hk => hk.2) (.slice Ao26 Ai.length co26)) (fun _ h_ => h_.1))) hb); replace Ab := xbb (g := Ae) (o := .cells #[.bool Ad, .slice A0_1 l0_1.length c0_1] 25 (0, 0)) hb; replace Ac := xbb (g := Af) (o := .cells #[.bool Ah, .slice Ao26 Ai.length co26] 25 (0, 0)) hb; replace HB := xst hb; (try clear hb)))
 go_meet
 case rel => exact ⟨_, (true), xrr, H, ⟨xoj HJ8⟩, ⟨xkd Ag⟩, ⟨xbk⟩, ⟨xbk⟩, ⟨xbl⟩⟩
 )
 case rest => (
 clear Ax
 try clear Al
 obtain ⟨kq, Ap, rfl, HA, HJ19, Aa, Ab, Ac, HB⟩ := hcut
 cases kq with
 | zero => exact absurd HA.out (by simp [ai])
 | succ kj19 => (
 have H := HA.out
 clear HA
 simp only [ai] at H
 refine xib H ?_ ?_ <;> clear H <;> rintro rfl H
 {
 exact absurd H (by simp)
 }
 refine xib H ?_ ?_ <;> clear H <;> rintro rfl H
 {
 refine xid H ?_ ?_ <;> clear H <;> intro c47 H
 {
 have AI : (Ah == Ad) = true := c47
 (try (have AJ : decide (Ah = Ad) = true := by simpa using c47))
 (try (have AK : (Ah == Ad) = true := by simpa using c47))
 clear c47
 obtain ⟨Aq, Ao⟩ : ∃ j_ : Int, (wrap64 ((l0_1.length : Int) - 1)) = j_ := ⟨_, rfl⟩
 first | rw [Ao] at H | simp only [Ao] at H | skip
 have AQ : (IntKind.i64.wrap ((l0_1.length : Int) - 1)) = Aq := (am _).trans Ao
 refine xin H ?_; clear H; intro c49 H
 obtain ⟨A7, A8⟩ := xcp c49
 clear c49
 refine xin H ?_; clear H; intro c50 H
 obtain ⟨A9, Ba⟩ := xcp c50
 clear c50
 replace H := xbd H
 obtain ⟨Br, A51, H⟩ := H
 try dsimp only at H
 refine xin H ?_; clear H; rintro rfl H
 replace H := xbd H
 obtain ⟨Bs, A53, H⟩ := H
 try dsimp only at H
 refine xin H ?_; clear H; rintro rfl H
 replace H := xbd H
 obtain ⟨Bt, A55, H⟩ := H
 try dsimp only at H
 refine xib H ?_ ?_ <;> clear H <;> rintro rfl H
 {
 exact absurd H (by simp)
 }
 replace H := xbd H
 obtain ⟨AR, A57, H⟩ := H
 try dsimp only at H
 obtain rfl := Option.some.inj H
 try go_wp2
 replace Aa := Zz.mk (Kd.R_drew Aa.out)
 replace Ab := Zz.mk (bT Ab.out)
 replace Ac := Zz.mk (bT Ac.out)
 replace HB := Zz.mk (bM HB.out)
 obtain ⟨i059, hi059, _, hsz59, _⟩ := info_parts eY
 obtain ⟨hcut59, hA59, hC59⟩ := cw (P := Tryd.prog) Value.string (⟨#[]⟩ : ByteArray) 23 9 .i64 Tryd.underlying23 hi059 hsz59 A0_1 c0_1 l0_1 (Aq) (xod) (xod) HC0_1.out
 have HR353 := Zz.mk (Kd.C_of_reads (h1 := fun _ => rfl) (hA59 _ (Kd.reads_of_C HR0_1.out)))
 have AL := Zz.mk hC59
 clear hA59 hC59 hi059 hsz59
 refine gz (n := 30) (S := fun w' => w'.cell? ⟨Af, 0, none⟩ = some (.bool Ah) ∧ w'.cell? ⟨Af, 1, none⟩ = some (.slice Ao26 Ai.length co26) ∧ w'.cell? ⟨Ae, 0, none⟩ = some (.bool Ad) ∧ w'.cell? ⟨Ae, 1, none⟩ = some (.slice A0_1 l0_1.length c0_1)) (ds := []) #[false, false, false, false, false, false, false, false, false, false, false, false, false, false, false, false, false, false, false, false, false, false, false, false, false, false, false, false, false, false] (by kernel_rfl) rfl rfl ⟨(an Ac.out 0).trans rfl, (an Ac.out 1).trans rfl, (an Ab.out 0).trans rfl, (an Ab.out 1).trans rfl⟩ (fun hHeld => ?_)
 generalize wc.drew = w58 at Aa Ab Ac HB HR353 hHeld ⊢
 refine xpu 0 57 ?_
 refine xpu 2 59 ?_
 refine xtk 1 58 ?_
 refine xtk 3 60 ?_
 refine xpu 4 61 ?_
 refine xpu 5 62 ?_
 refine xpu 6 63 ?_
 refine xpu 8 65 ?_
 refine xpu 10 67 ?_
 refine xpu 11 68 ?_
 refine xtk 7 64 ?_
 refine xtk 9 66 ?_
 refine xpu 12 69 ?_
 refine fI (i := 13) (N := some 70) #[true, true, true, true, true, true, true, true, true, true, true, true, true, true, false, false, false, false, false, false, false, false, false, false, false, false, false, false, false, false] rfl rfl (eN rfl (by kernel_rfl)) (by decide) (fun K hK => ?_)
 refine fQ Tryd.func12 (by kernel_rfl) rfl #[.slice Ao26 Ai.length co26, .slice A0_1 (l0_1.take ((Aq) : Int).toNat).length c0_1] (by rfl) rfl rfl (by (try simp only [List.map_toArray, List.map_cons, List.map_nil]); first | done | (rw [show (l0_1.take ((Aq) : Int).toNat).length = (Aq).toNat from (by rw [List.length_take]; have h_ : ((Aq) : Int) ≤ (l0_1.length : Int) := xod; omega)] <;> rfl) | (simp only [Ao]; rfl) | rfl | (simp only [List.length_drop, List.length_take]; rfl)) ?_
 with_reducible refine (et kj19 _ _ Ai _ _ (l0_1.take ((Aq) : Int).toNat) true _ ?side1 ?side2 ?side3 ?side4 A51.out).mono ?_
 (case side1 => repeat (first | exact (Kd.R_reads' Aa.out).2.2 | (with_reducible refine Kd.C_alloc ?_ _) | (with_reducible refine Kd.C_drewN ?_ _) | (with_reducible refine Kd.C_drew ?_)))
 (case side2 => exact (Kd.R_reads' Aa.out).2.1)
 (case side3 => repeat (first | exact (Kd.C_below HR353.out HB.out) | (with_reducible refine Kd.C_alloc ?_ _) | (with_reducible refine Kd.C_drewN ?_ _) | (with_reducible refine Kd.C_drew ?_)))
 (case side4 => exact AL.out)
 rintro e w' ⟨rfl, ⟨nd, rfl⟩⟩
 refine ⟨_, rfl, ?_⟩
 refine hK.out _ _ ⟨(an Ac.out 0).trans rfl, (an Ac.out 1).trans rfl, (an Ab.out 0).trans rfl, (an Ab.out 1).trans rfl⟩ (fun hHeld => ?_)
 clear hK K
 refine fS (a' := ?_) ?_ ?_
 rotate_left
 {
 show Act.put _ (some 70) _ = _
 simp only [Act.put, xl1, xl2, xl3, am, az]
 rfl
 }
 refine xpu 14 71 ?_
 refine xpu 15 72 ?_
 refine xtk 16 73 ?_
 refine xtk 17 74 ?_
 refine fI (i := 18) (N := some 75) #[true, true, true, true, true, true, true, true, true, true, true, true, true, true, true, true, true, true, true, false, false, false, false, false, false, false, false, false, false, false] rfl rfl (eN rfl (by kernel_rfl)) (by decide) (fun K hK => ?_)
 refine fQ Tryd.func23 (by kernel_rfl) rfl #[.agg #[.bool Ad, .slice A0_1 l0_1.length c0_1], .agg #[.bool Ah, .slice Ao26 Ai.length co26]] (by rfl) rfl rfl (by (try simp only [List.map_toArray, List.map_cons, List.map_nil]); first | done | rfl | (simp only [List.length_drop, List.length_take]; rfl)) ?_
 with_reducible refine (dl kj19 Ad _ _ l0_1 Ah _ _ Ai true _ ?side1 ?side2 ?side3 ?side4 A53.out).mono ?_
 (case side1 => repeat (first | exact (Kd.C_below HR0_1.out xbl) | (with_reducible refine Kd.C_alloc ?_ _) | (with_reducible refine Kd.C_drewN ?_ _) | (with_reducible refine Kd.C_drew ?_)))
 (case side2 => exact HC0_1.out)
 (case side3 => repeat (first | exact (Kd.R_reads' Aa.out).2.2 | (with_reducible refine Kd.C_alloc ?_ _) | (with_reducible refine Kd.C_drewN ?_ _) | (with_reducible refine Kd.C_drew ?_)))
 (case side4 => exact (Kd.R_reads' Aa.out).2.1)
 rintro e w60 ⟨rfl, hb⟩
 refine ⟨_, rfl, ?_⟩
 have n0_ := Zz.mk (Kd.R_below (xkd Aa) hb)
 have n1_ := xbb (g := Ae) (o := .cells #[.bool Ad, .slice A0_1 l0_1.length c0_1] 25 (0, 0)) hb
 have n2_ := xbb (g := Af) (o := .cells #[.bool Ah, .slice Ao26 Ai.length co26] 25 (0, 0)) hb
 have n3_ := xst hb
 clear Aa
 clear Ab
 clear Ac
 clear HB
 have Aa := n0_
 have Ab := n1_
 have Ac := n2_
 have HB := n3_
 clear n0_ n1_ n2_ n3_
 (try clear hb)
 refine hK.out _ _ ⟨(an Ac.out 0).trans rfl, (an Ac.out 1).trans rfl, (an Ab.out 0).trans rfl, (an Ab.out 1).trans rfl⟩ (fun hHeld => ?_)
 clear hK K
 refine fS (a' := ?_) ?_ ?_
 rotate_left
 {
 show Act.put _ (some 75) _ = _
 simp only [Act.put, xl1, xl2, xl3, am, az]
 rfl
 }
 refine xpu 19 76 ?_
 refine xpu 20 77 ?_
 refine xtk 21 78 ?_
 refine xtk 22 79 ?_
 refine fI (i := 23) (N := some 80) #[true, true, true, true, true, true, true, true, true, true, true, true, true, true, true, true, true, true, true, true, true, true, true, true, false, false, false, false, false, false] rfl rfl (eN rfl (by kernel_rfl)) (by decide) (fun K hK => ?_)
 refine fQ Tryd.func23 (by kernel_rfl) rfl #[.agg #[.bool Ah, .slice Ao26 Ai.length co26], .agg #[.bool Ad, .slice A0_1 l0_1.length c0_1]] (by rfl) rfl rfl (by (try simp only [List.map_toArray, List.map_cons, List.map_nil]); first | done | rfl | (simp only [List.length_drop, List.length_take]; rfl)) ?_
 with_reducible refine (dl kj19 Ah _ _ Ai Ad _ _ l0_1 false _ ?side1 ?side2 ?side3 ?side4 A55.out).mono ?_
 (case side1 => repeat (first | exact (Kd.R_reads' Aa.out).2.2 | (with_reducible refine Kd.C_alloc ?_ _) | (with_reducible refine Kd.C_drewN ?_ _) | (with_reducible refine Kd.C_drew ?_)))
 (case side2 => exact (Kd.R_reads' Aa.out).2.1)
 (case side3 => repeat (first | exact (Kd.C_below HR0_1.out HB.out) | (with_reducible refine Kd.C_alloc ?_ _) | (with_reducible refine Kd.C_drewN ?_ _) | (with_reducible refine Kd.C_drew ?_)))
 (case side4 => exact HC0_1.out)
 rintro e w61 ⟨rfl, hb⟩
 refine ⟨_, rfl, ?_⟩
 have n0_ := Zz.mk (Kd.R_below (xkd Aa) hb)
 have n1_ := xbb (g := Ae) (o := .cells #[.bool Ad, .slice A0_1 l0_1.length c0_1] 25 (0, 0)) hb
 have n2_ := xbb (g := Af) (o := .cells #[.bool Ah, .slice Ao26 Ai.length co26] 25 (0, 0)) hb
 have n3_ := xst hb
 clear Aa
 clear Ab
 clear Ac
 clear HB
 have Aa := n0_
 have Ab := n1_
 have Ac := n2_
 have HB := n3_
 clear n0_ n1_ n2_ n3_
 (try clear hb)
 refine hK.out _ _ ⟨(an Ac.out 0).trans rfl, (an Ac.out 1).trans rfl, (an Ab.out 0).trans rfl, (an Ab.out 1).trans rfl⟩ (fun hHeld => ?_)
 clear hK K
 refine fS (a' := ?_) ?_ ?_
 rotate_left
 {
 show Act.put _ (some 80) _ = _
 simp only [Act.put, xl1, xl2, xl3, am, az]
 rfl
 }
 refine xpu 24 81 ?_
 refine xpu 25 82 ?_
 refine xpu 26 83 ?_
 refine fI (i := 27) (N := some 84) #[true, true, true, true, true, true, true, true, true, true, true, true, true, true, true, true, true, true, true, true, true, true, true, true, true, true, true, true, false, false] rfl rfl (eN rfl (by kernel_rfl)) (by decide) (fun K hK => ?_)
 refine fQ Tryd.func7 (by kernel_rfl) rfl #[] (by rfl) rfl rfl (by (try simp only [List.map_toArray, List.map_cons, List.map_nil]); first | done | rfl | (simp only [List.length_drop, List.length_take]; rfl)) ?_
 with_reducible refine (b6 kj19  AR _ ?side1 A57.out).mono ?_
 (case side1 => first | (with_reducible exact hG) | exact gp hG xbl)
 rintro e w62 ⟨rfl, hb⟩
 refine ⟨_, rfl, ?_⟩
 have n0_ := Zz.mk (Kd.R_below (xkd Aa) hb)
 have n1_ := xbb (g := Ae) (o := .cells #[.bool Ad, .slice A0_1 l0_1.length c0_1] 25 (0, 0)) hb
 have n2_ := xbb (g := Af) (o := .cells #[.bool Ah, .slice Ao26 Ai.length co26] 25 (0, 0)) hb
 have n3_ := xst hb
 clear Aa
 clear Ab
 clear Ac
 clear HB
 have Aa := n0_
 have Ab := n1_
 have Ac := n2_
 have HB := n3_
 clear n0_ n1_ n2_ n3_
 (try clear hb)
 refine hK.out _ _ ⟨(an Ac.out 0).trans rfl, (an Ac.out 1).trans rfl, (an Ab.out 0).trans rfl, (an Ab.out 1).trans rfl⟩ (fun hHeld => ?_)
 clear hK K
 refine fS (a' := ?_) ?_ ?_
 rotate_left
 {
 show Act.put _ (some 84) _ = _
 simp only [Act.put, xl1, xl2, xl3, am, az]
 rfl
 }
 refine xpu 28 85 ?_
 refine xpu 29 2 ?_
 refine xdn ?_
 try go_wp2
 go_ret
 exact ⟨by first | exact xrd | (simp only [← Ao]; exact xrd) | exact xre, xbl⟩
 }
 have AI : (Ah == Ad) = false := by simpa using c47
 (try (have AJ : decide (Ah = Ad) = false := by simpa using c47))
 (try (have AK : (Ah == Ad) = false := by simpa using c47))
 (try (have Bb : ¬ (Ah = Ad) := by simpa using c47))
 clear c47
 exact absurd H (by simp)
 }
 refine xin H ?_; clear H; intro c63 H
 obtain ⟨Bc, Bd⟩ := xqe c63
 clear c63
 refine xib H ?_ ?_ <;> clear H <;> rintro rfl H
 {
 exact absurd H (by simp)
 }
 replace H := xbd H
 obtain ⟨AS, A65, H⟩ := H
 try dsimp only at H
 obtain rfl := Option.some.inj H
 have Be := Ak.out
 have Bf := Aj.out
 have Bu := xz2 Ac.out
 go_wp2_with (first | (go_at_call 7; (with_reducible refine (b6 kj19  AS _ ?side1 A65.out).mono ?_); (case side1 => first | (with_reducible exact hG) | exact gp hG xbl); rintro e w68 ⟨rfl, hb⟩; replace Aa := Zz.mk (Kd.R_below (xkd Aa) hb); replace Ab := xbb (g := Ae) (o := .cells #[.bool Ad, .slice A0_1 l0_1.length c0_1] 25 (0, 0)) hb; replace Ac := xbb (g := Af) (o := .cells #[.bool false, .slice Ao26 Ai.length co26] 25 (0, 0)) hb; replace HB := xst hb; (try clear hb)))
 go_ret
 exact ⟨xre, xbl⟩
 )
 )
 )
 )
 }
 
 
 
 
end Go.Proofs.YtmofhijbheimmaaDoor.X
namespace Go.Proofs.YtmofhijbheimmaaDoor.M
open Go Go.RowKit Go.Proofs.YtmofhijbheimmaaDoorW.PrintWords
theorem w64 {x : Int} (h1 : -9223372036854775808 ≤ x) (h2 : x ≤ 9223372036854775807) : wrap64 x = x := by unfold wrap64; omega
theorem fF (s : ByteArray) : s.toList = s.data.toList := ByteArray.toList_eq s
theorem gf {a b : ByteArray} (h : aw a = aw b) : a = b := by
  unfold aw at h
  have : a.data.toList = b.data.toList := by
    apply List.map_inj_right (f := fun b : UInt8 => (b.toNat : Int)) _ |>.1 h
    intro x y hxy
    exact UInt8.toNat_inj.1 (by omega)
  cases a; cases b
  simp only [ByteArray.mk.injEq]
  exact Array.toList_inj.1 this
theorem iI {a b : ByteArray} : aw a = aw b ↔ a = b := ⟨gf, fun h => h ▸ rfl⟩
theorem iC {a b : ByteArray} : a.toList = b.toList ↔ aw a = aw b := by
  rw [fF, fF]
  exact ⟨fun h => by unfold aw; rw [h], fun h => by rw [gf h]⟩
theorem gg (s : ByteArray) : (aw s).length = s.size := cL s
theorem jM {α : Type} {g : Nat → Option α} {r : α} (h : ∀ k, g k = some r) : Ev g r := ⟨0, fun k _ => h k⟩
theorem bq {α β : Type} {g : Nat → Option α} {f : Nat → α → Option β} {a : α} {r : β} (h : Ev g a) (k : Ev (fun n => f n a) r) : Ev (fun n => (g n).bind fun t => f n t) r := Ev.bind h k
theorem cG {α β : Type} {o : Option α} {f : Nat → α → Option β} {a : α} {r : β} (h : o = some a) (k : Ev (fun n => f n a) r) : Ev (fun n => o.bind fun t => f n t) r := by
  subst h; exact k
theorem aa {α : Type} {c : Prop} [Decidable c] {g f : Nat → Option α} {r : α} (h : c) (k : Ev g r) : Ev (fun n => if c then g n else f n) r := by
  simp only [if_pos h]; exact k
theorem au {α : Type} {c : Prop} [Decidable c] {g f : Nat → Option α} {r : α} (h : ¬ c) (k : Ev f r) : Ev (fun n => if c then g n else f n) r := by
  simp only [if_neg h]; exact k
theorem Ev.ite {α : Type} {c : Prop} [Decidable c] {g f : Nat → Option α} {r : α} (h : c → Ev g r) (k : ¬ c → Ev f r) : Ev (fun n => if c then g n else f n) r := by
  by_cases hc : c
  · exact aa hc (h hc)
  · exact au hc (k hc)
theorem d9 {α : Type} {a r : α} (h : a = r) : Ev (fun _ => some a) r := by subst h; exact bN _
def hv (b : Int) : Int := if 48 ≤ b ∧ b ≤ 57 then b - 48 else if 65 ≤ b ∧ b ≤ 70 then b - 55 else if 97 ≤ b ∧ b ≤ 102 then b - 87 else -1
end Go.Proofs.YtmofhijbheimmaaDoor.M
namespace Go.Proofs.YtmofhijbheimmaaDoor.M
open Go Go.RowKit Go.Proofs.YtmofhijbheimmaaDoorW.PrintWords
end Go.Proofs.YtmofhijbheimmaaDoor.M
namespace Go.Proofs.YtmofhijbheimmaaDoor.M
open Go Go.RowKit Go.Proofs.YtmofhijbheimmaaDoorW.PrintWords
end Go.Proofs.YtmofhijbheimmaaDoor.M
namespace Go.Proofs.YtmofhijbheimmaaDoor.M
open Go Go.RowKit Go.Proofs.YtmofhijbheimmaaDoorW.PrintWords
end Go.Proofs.YtmofhijbheimmaaDoor.M
namespace Go.Proofs.YtmofhijbheimmaaDoor.M
open Go Go.RowKit Go.Proofs.YtmofhijbheimmaaDoorW.PrintWords
end Go.Proofs.YtmofhijbheimmaaDoor.M
namespace Go.Proofs.YtmofhijbheimmaaDoor.M
open Go Go.RowKit Go.Proofs.YtmofhijbheimmaaDoorW.PrintWords
end Go.Proofs.YtmofhijbheimmaaDoor.M
namespace Go.Proofs.YtmofhijbheimmaaDoor.M
open Go Go.RowKit Go.Proofs.YtmofhijbheimmaaDoorW.PrintWords Go.Proofs.YtmofhijbheimmaaDoorW.PrintLast Go.Proofs.YtmofhijbheimmaaDoorW.PrintMore
end Go.Proofs.YtmofhijbheimmaaDoor.M
namespace Go.Proofs.YtmofhijbheimmaaDoor.M
open Go Go.RowKit Go.Proofs.YtmofhijbheimmaaDoorW.PrintWords
end Go.Proofs.YtmofhijbheimmaaDoor.M
namespace Go.Proofs.YtmofhijbheimmaaDoor.Y
open Go.RowKit Go.Proofs.YtmofhijbheimmaaDoor.X Go.Proofs.YtmofhijbheimmaaDoor.M Go.Proofs.YtmofhijbheimmaaDoorW.PrintWords Go.Proofs.YtmofhijbheimmaaDoorW.PrintLast Go.Proofs.YtmofhijbheimmaaDoorW.PrintMore
end Go.Proofs.YtmofhijbheimmaaDoor.Y
namespace Go.Proofs.YtmofhijbheimmaaDoor.Y
open Go.RowKit Go.Proofs.YtmofhijbheimmaaDoor.X Go.Proofs.YtmofhijbheimmaaDoor.M Go.Proofs.YtmofhijbheimmaaDoorW.PrintWords Go.Proofs.YtmofhijbheimmaaDoorW.PrintLast Go.Proofs.YtmofhijbheimmaaDoorW.PrintMore
end Go.Proofs.YtmofhijbheimmaaDoor.Y
namespace Go.Proofs.YtmofhijbheimmaaDoor.Y
open Go.RowKit Go.Proofs.YtmofhijbheimmaaDoor.X Go.Proofs.YtmofhijbheimmaaDoor.M Go.Proofs.YtmofhijbheimmaaDoorW.PrintWords Go.Proofs.YtmofhijbheimmaaDoorW.PrintLast Go.Proofs.YtmofhijbheimmaaDoorW.PrintMore
end Go.Proofs.YtmofhijbheimmaaDoor.Y
namespace Go.Proofs.YtmofhijbheimmaaDoor.Y
open Go.RowKit Go.Proofs.YtmofhijbheimmaaDoor.X Go.Proofs.YtmofhijbheimmaaDoor.M Go.Proofs.YtmofhijbheimmaaDoorW.PrintWords Go.Proofs.YtmofhijbheimmaaDoorW.PrintLast Go.Proofs.YtmofhijbheimmaaDoorW.PrintMore
end Go.Proofs.YtmofhijbheimmaaDoor.Y
namespace Go.Proofs.YtmofhijbheimmaaDoor.Y
open Go.RowKit Go.Proofs.YtmofhijbheimmaaDoor.X Go.Proofs.YtmofhijbheimmaaDoor.M Go.Proofs.YtmofhijbheimmaaDoorW.PrintWords Go.Proofs.YtmofhijbheimmaaDoorW.PrintLast Go.Proofs.YtmofhijbheimmaaDoorW.PrintMore
def gB (L : List (List Int)) : Nat := (L.map List.length).sum + L.length
theorem jj {L : List (List Int)} : ∀ p ∈ L, p.length ≤ gB L := by
  induction L with
  | nil => intro p hp; cases hp
  | cons a L ih =>
    intro p hp
    unfold gB at ih ⊢
    simp only [List.map_cons, List.sum_cons, List.length_cons]
    rcases List.mem_cons.1 hp with rfl | hp
    · omega
    · have := ih p hp; omega
theorem e8 {R : List ByteArray} {i : Nat} (h : i < R.length) : aQ ByteArray.empty R (i : Int) = R[i] := by
  unfold aQ
  rw [Int.toNat_natCast, List.getD_eq_getElem?_getD, List.getElem?_eq_getElem h]; rfl
theorem ex {A B : List ByteArray} {i : Nat} (ha : i < A.length) (hb : i < B.length) : (aQ ByteArray.empty A (i : Int)).toList = (aQ ByteArray.empty B (i : Int)).toList ↔ A[i] = B[i] := by
  rw [e8 ha, e8 hb, iC, iI]
theorem eW {A B : List ByteArray} {i : Nat} (ha : i < A.length) (hb : i < B.length) : A.drop i = B.drop i ↔ A[i] = B[i] ∧ A.drop (i + 1) = B.drop (i + 1) := by
  rw [List.drop_eq_getElem_cons ha, List.drop_eq_getElem_cons hb, List.cons.injEq]
theorem ji (A B : List ByteArray) (h : A.length = B.length) (hA : A.length ≤ 1000000) : ∀ d i : Nat, i + d = A.length → Ev (fun k => aJ k A B (i : Int)) (decide (A.drop i = B.drop i)) := by
  intro d
  induction d with
  | zero =>
    intro i hi
    refine Ev.step (fun k => by rw [aJ]) (au (by omega) (d9 ?_))
    rw [List.drop_of_length_le (by omega), List.drop_of_length_le (by omega)]; simp
  | succ d ih =>
    intro i hi
    have hw : wrap64 ((i : Int) + 1) = ((i + 1 : Nat) : Int) := by rw [w64 (by omega) (by omega)]; omega
    refine Ev.step (fun k => by rw [aJ]) (aa (by omega) (aa (by omega) (aa (by omega) (Ev.ite (fun e => ?_) (fun e => d9 ?_)))))
    · rw [hw]
      have := ih (i + 1) (by omega)
      rwa [show decide (A.drop i = B.drop i) = decide (A.drop (i + 1) = B.drop (i + 1)) from decide_eq_decide.2 (by rw [eW (by omega) (by omega)]; exact ⟨fun h => h.2, fun h => ⟨(ex (by omega) (by omega)).1 e, h⟩⟩)]
    · symm
      rw [decide_eq_false_iff_not, eW (by omega) (by omega)]
      exact fun h => e ((ex (by omega) (by omega)).2 h.1)
theorem jz (A B : List ByteArray) (hA : A.length ≤ 1000000) : Ev (fun k => bf k A B) (decide (A = B)) := by
  unfold bf
  refine Ev.ite (fun h => ?_) (fun h => d9 ?_)
  · have := ji A B (by omega) hA A.length 0 (by omega)
    simpa using this
  · symm; rw [decide_eq_false_iff_not]; rintro rfl; exact h rfl
theorem jy (A B : List ByteArray) (h : A.length = B.length) (hA : A.length ≤ 1000000) : ∀ d i : Nat, i + d = A.length → Ev (fun k => ap k A B (A.length : Int) (i : Int)) (decide (A.drop i = B.drop i)) := by
  intro d
  induction d with
  | zero =>
    intro i hi
    refine Ev.step (fun k => by rw [ap]) (au (by omega) (d9 ?_))
    rw [List.drop_of_length_le (by omega), List.drop_of_length_le (by omega)]; simp
  | succ d ih =>
    intro i hi
    have hw : wrap64 ((i : Int) + 1) = ((i + 1 : Nat) : Int) := by rw [w64 (by omega) (by omega)]; omega
    refine Ev.step (fun k => by rw [ap]) (aa (by omega) (aa (by omega) (aa (by omega) (aa (by omega) (Ev.ite (fun e => ?_) (fun e => d9 ?_))))))
    · rw [hw]
      have := ih (i + 1) (by omega)
      rwa [show decide (A.drop i = B.drop i) = decide (A.drop (i + 1) = B.drop (i + 1)) from decide_eq_decide.2 (by rw [eW (by omega) (by omega)]; exact ⟨fun h => h.2, fun h => ⟨(ex (by omega) (by omega)).1 e, h⟩⟩)]
    · symm
      rw [decide_eq_false_iff_not, eW (by omega) (by omega)]
      exact fun h => e ((ex (by omega) (by omega)).2 h.1)
theorem jG (A B : List ByteArray) (hA : A.length ≤ 1000000) : Ev (fun k => aH k A B) (decide (A = B)) := by
  unfold aH
  refine Ev.ite (fun h => ?_) (fun h => d9 ?_)
  · have := jy A B (by omega) hA A.length 0 (by omega)
    simpa using this
  · symm; rw [decide_eq_false_iff_not]; rintro rfl; exact h rfl
theorem eU : Ev (fun k => aq k) true := jB (fun k => es k) (k := 60) (by decide +kernel)
def fq (R : List ByteArray) : Nat := (R.map fun s => 1 + min s.size 300).sum
theorem gA : ∀ R : List ByteArray, fq R ≤ 200 → gB (R.map aw) = fq R
  | [], _ => rfl
  | s :: R, h => by
    unfold fq at h
    rw [List.map_cons, List.sum_cons] at h
    have ih := gA R (by unfold fq; omega)
    unfold gB fq at *
    simp only [List.map_cons, List.sum_cons, List.length_cons, gg] at *
    omega
theorem jg (r : Bool) (R : List ByteArray) : ∀ d i n : Nat, i + d = 21 → n ≤ 301 * i → ∃ b, Ev (fun k => av k (n : Int) (i : Int) r R) b ∧ (b = false → R.length ≤ 20 ∧ n + fq (R.drop i) ≤ 200) := by
  intro d
  induction d with
  | zero =>
    intro i n hi hn
    have stop : ∃ b, Ev (fun k => if (n : Int) > 200 then some true else some (decide ((R.length : Int) > 20))) b ∧ (b = false → R.length ≤ 20 ∧ n + fq (R.drop i) ≤ 200) := by
      by_cases h : (n : Int) > 200
      · exact ⟨true, aa h (bN _), fun h => by cases h⟩
      · refine ⟨decide ((R.length : Int) > 20), au h (bN _), fun e => ?_⟩
        rw [decide_eq_false_iff_not] at e
        refine ⟨by omega, ?_⟩
        rw [List.drop_of_length_le (by omega)]
        show n + 0 ≤ 200; omega
    obtain ⟨b, hb, hc⟩ := stop
    refine ⟨b, Ev.step (fun k => by rw [av]) (Ev.ite (fun _ => au (by omega) hb) (fun _ => hb)), hc⟩
  | succ d ih =>
    intro i n hi hn
    by_cases hl : i < R.length
    · have e : R.drop i = R[i] :: R.drop (i + 1) := List.drop_eq_getElem_cons hl
      obtain ⟨b, hb, hc⟩ := ih (i + 1) (n + (1 + min R[i].size 300)) (by omega) (by omega)
      refine ⟨b, Ev.step (fun k => by rw [av]) (aa (by omega) (aa (by omega) (aa (by omega) ?_))), fun h => ?_⟩
      · rw [e8 hl]
        have hm : mn (R[i].size : Int) 300 = ((min R[i].size 300 : Nat) : Int) := by unfold mn; split <;> omega
        rw [hm, w64 (x := (i : Int) + 1) (by omega) (by omega), w64 (by omega) (by omega)]
        have e2 : (n : Int) + (1 + ((min R[i].size 300 : Nat) : Int)) = ((n + (1 + min R[i].size 300) : Nat) : Int) := by omega
        rw [e2]
        exact hb
      · obtain ⟨h1, h2⟩ := hc h
        refine ⟨h1, ?_⟩
        rw [e]
        unfold fq at h2 ⊢
        rw [List.map_cons, List.sum_cons]; omega
    · have : R.drop i = [] := List.drop_of_length_le (by omega)
      rw [this]
      by_cases h : (n : Int) > 200
      · exact ⟨true, Ev.step (fun k => by rw [av]) (au (by omega) (aa h (bN _))), fun h => by cases h⟩
      · refine ⟨decide ((R.length : Int) > 20), Ev.step (fun k => by rw [av]) (au (by omega) (au h (bN _))), fun e => ?_⟩
        rw [decide_eq_false_iff_not] at e
        refine ⟨by omega, ?_⟩
        show n + 0 ≤ 200; omega
theorem ju (r : Bool) (R : List ByteArray) : ∃ b, Ev (fun k => cD k r R) b ∧ (b = false → R.length ≤ 20 ∧ gB (R.map aw) ≤ 200) := by
  obtain ⟨b, hb, hc⟩ := jg r R 21 0 0 (by omega) (by omega)
  refine ⟨b, hb, fun h => ?_⟩
  obtain ⟨h1, h2⟩ := hc h
  rw [List.drop_zero, Nat.zero_add] at h2
  rw [gA R h2]
  exact ⟨h1, h2⟩
end Go.Proofs.YtmofhijbheimmaaDoor.Y
namespace Go.Proofs.YtmofhijbheimmaaDoor.Pure
open Go.RowKit Go.Proofs.YtmofhijbheimmaaDoor.X Go.Proofs.YtmofhijbheimmaaDoor.M Go.Proofs.YtmofhijbheimmaaDoor.Y Go.Proofs.YtmofhijbheimmaaDoorW.PrintWords Go.Proofs.YtmofhijbheimmaaDoorW.PrintLast Go.Proofs.YtmofhijbheimmaaDoorW.PrintMore
def i5 (x : ByteArray) (a : Int) : Prop := (a = -1 ∧ ∀ j : Nat, j < x.size → bt x (j : Int) ≠ 46) ∨ (0 ≤ a ∧ a < x.size ∧ bt x a = 46 ∧ ∀ j : Nat, a < (j : Int) → j < x.size → bt x (j : Int) ≠ 46)
theorem jf (x : ByteArray) (hx : x.size ≤ 1000000) : ∀ n : Nat, n ≤ x.size → (∀ j : Nat, n ≤ j → j < x.size → bt x (j : Int) ≠ 46) → ∃ a, i5 x a ∧ Ev (fun k => ae k x 46 ((n : Int) - 1)) a := by
  intro n
  induction n with
  | zero =>
    intro _ h
    refine ⟨-1, .inl ⟨rfl, fun j hj => h j (by omega) hj⟩, Ev.step (fun k => by rw [ae]) ?_⟩
    exact au (by omega) (bN _)
  | succ n ih =>
    intro hn h
    have e : (((n + 1 : Nat) : Int) - 1) = (n : Int) := by omega
    rw [e]
    by_cases h46 : bt x (n : Int) = 46
    · refine ⟨(n : Int), .inr ⟨by omega, by omega, h46, fun j h1 h2 => h j (by omega) h2⟩, Ev.step (fun k => by rw [ae]) ?_⟩
      exact aa (show (n : Int) ≥ 0 by omega) (aa (show 0 ≤ (n : Int) by omega) (aa (show (n : Int) < (x.size : Int) by omega) (aa h46 (bN _))))
    · obtain ⟨a, ha, hv⟩ := ih (by omega) (fun j h1 h2 => by
        rcases Nat.lt_or_ge n j with h3 | h3
        · exact h j (by omega) h2
        · rw [show j = n by omega]; exact h46)
      refine ⟨a, ha, Ev.step (fun k => by rw [ae]) ?_⟩
      refine aa (show (n : Int) ≥ 0 by omega) (aa (show 0 ≤ (n : Int) by omega) (aa (show (n : Int) < (x.size : Int) by omega) (au h46 ?_)))
      rw [w64 (by omega) (by omega)]
      exact hv
theorem iS (x : ByteArray) (hx : x.size ≤ 1000000) (a : Int) (ha : i5 x a) : ∀ d i : Nat, 1 ≤ i → i + d = x.size → ∀ c : Int, 0 ≤ c → c < i → (a ≤ 0 → c = 0) → (0 < a → a < (i : Int) → c = a) →
    Ev (fun k => aD k x c (i : Int)) (if 0 < a then x.extract (a.toNat + 1) x.size else (⟨#[]⟩ : ByteArray)) := by
  have hlt : a < x.size := by rcases ha with ⟨h, _⟩ | ⟨_, h, _⟩ <;> omega
  intro d
  induction d with
  | zero =>
    intro i h1 hi c c0 c1 hc hd
    refine Ev.step (fun k => by rw [aD]) (au (by omega) ?_)
    by_cases h : 0 < a
    · have e := hd h (by omega)
      subst e
      rw [if_pos h, w64 (by omega) (by omega), show (c + 1).toNat = c.toNat + 1 by omega]
      exact au (by omega) (aa (by omega) (aa (by omega) (bN _)))
    · rw [if_neg h]
      exact aa (hc (by omega)) (bN _)
  | succ d ih =>
    intro i h1 hi c c0 c1 hc hd
    have hw : wrap64 ((i : Int) + 1) = ((i + 1 : Nat) : Int) := by rw [w64 (by omega) (by omega)]; omega
    refine Ev.step (fun k => by rw [aD]) (aa (by omega) (aa (by omega) ?_))
    rw [hw]
    by_cases h46 : bt x (i : Int) = 46
    · have hai : (i : Int) ≤ a := by
        rcases ha with ⟨_, h⟩ | ⟨_, _, _, h⟩
        · exact absurd h46 (h i (by omega))
        · rcases Int.lt_or_le a (i : Int) with h3 | h3
          · exact absurd h46 (h i h3 (by omega))
          · exact h3
      exact aa h46 (ih (i + 1) (by omega) (by omega) (i : Int) (by omega) (by omega) (by omega) (by omega))
    · refine au h46 (ih (i + 1) (by omega) (by omega) c c0 (by omega) hc (fun h2 h3 => ?_))
      rcases Int.lt_or_le a (i : Int) with h4 | h4
      · exact hd h2 h4
      · have e : a = (i : Int) := by omega
        rcases ha with ⟨h, _⟩ | ⟨_, _, h, _⟩
        · omega
        · rw [e] at h; exact absurd h h46
theorem iW (x : ByteArray) (hx : x.size ≤ 1000000) : ∃ a e, Ev (fun k => aE k x 46) a ∧ Ev (fun k => bo k x) e ∧ a < x.size ∧ e = (if 0 < a then x.extract (a.toNat + 1) x.size else (⟨#[]⟩ : ByteArray)) := by
  obtain ⟨a, ha, hv⟩ := jf x hx x.size (Nat.le_refl _) (fun j h1 h2 => by omega)
  have hlt : a < x.size := by rcases ha with ⟨h, _⟩ | ⟨_, h, _⟩ <;> omega
  refine ⟨a, _, ?_, ?_, hlt, rfl⟩
  · unfold aE ay
    rw [w64 (by omega) (by omega)]
    exact bq hv (bN _)
  · unfold bo
    by_cases h0 : x.size = 0
    · rw [if_neg (by omega)]
      refine Ev.step (fun k => by rw [aD]) (au (by omega) ?_)
      exact aa rfl (bN _)
    · exact iS x hx a ha (x.size - 1) 1 (by omega) (by omega) 0 (by omega) (by omega) (fun _ => rfl) (fun h1 h2 => by omega)
theorem jx (r : Bool) (R : List ByteArray) (x : ByteArray) (hx : x.size ≤ 1000000) (hb : aK r R = some x) : ∃ e, Ev (fun k => aX k r R) e ∧ Ev (fun k => bo k x) e := by
  obtain ⟨a, e, h1, h2, h3, h4⟩ := iW x hx
  refine ⟨e, ?_, h2⟩
  unfold aX
  refine cG hb (bq h1 ?_)
  by_cases h : 0 < a
  · have he : e = x.extract (a.toNat + 1) x.size := by rw [h4, if_pos h]
    rw [he, w64 (x := a + 1) (by omega) (by omega), show (a + 1).toNat = a.toNat + 1 by omega]
    exact aa h (aa (by omega) (aa (by omega) (bN _)))
  · have he : e = (⟨#[]⟩ : ByteArray) := by rw [h4, if_neg h]
    rw [he]
    exact au h (bN _)
theorem jF (n : Int) (r : Bool) (R : List ByteArray) : Ev (fun k => ai k n false false r R false []) true := by
  refine Ev.step (fun k => by rw [ai]) ?_
  refine au (by simp) (au (by simp) (aa rfl (au (by simp) (bq eU (bN _)))))
theorem jt (r : Bool) (R : List ByteArray) (hn : 2 ≤ R.length) (hl : R.length ≤ 1000000) : Ev (fun k => ai k (R.length : Int) true false r R r (R.take (R.length - 1))) true := by
  have hw : wrap64 ((R.length : Int) - 1) = ((R.length - 1 : Nat) : Int) := by rw [w64 (by omega) (by omega)]; omega
  have htl : (R.take (R.length - 1)).length = R.length - 1 := by rw [List.length_take]; omega
  have hs := jz (R.take (R.length - 1)) (R.take (R.length - 1)) (by omega)
  have he := jG (R.take (R.length - 1)) (R.take (R.length - 1)) (by omega)
  have hu1 : Ev (fun k => aV k r R r (R.take (R.length - 1))) true := by
    unfold aV
    rw [htl, Int.toNat_natCast]
    refine aa (by simp) (aa (by omega) (aa (by omega) (aa (by omega) (bq he (d9 (by simp))))))
  have hu2 : Ev (fun k => aV k r (R.take (R.length - 1)) r R) false := by
    unfold aV
    rw [htl]
    exact aa (by simp) (au (by omega) (bN _))
  refine Ev.step (fun k => by rw [ai]) ?_
  rw [hw, Int.toNat_natCast]
  refine au (by simp) (aa rfl (aa (by simp) (aa (by omega) (aa (by omega) (bq hs ?_)))))
  refine aa (by simp) (bq hu1 (aa rfl (bq hu2 ?_)))
  exact au (by simp) (bq eU (bN _))
theorem js (r : Bool) (R : List ByteArray) (hl : R.length ≤ 1000000) (x : ByteArray) (hx : x.size ≤ 1000000) (hb : aK r R = some x) : Ev (fun k => aG k (R.length : Int) x r R) true := by
  obtain ⟨e, h1, h2⟩ := jx r R x hx hb
  refine Ev.step (fun k => by rw [aG]) ?_
  by_cases hn : R.length < 2
  · have hp : aY r R = some (false, [], false) := by unfold aY; rw [if_pos (by omega)]
    refine cG hp (cG hb (aa rfl (bq h1 (bq h2 (aa rfl ?_)))))
    rw [decide_eq_false (show ¬ (R.length : Int) > 1 by omega)]
    exact jF _ r R
  · have hp : aY r R = some (r, R.take (R.length - 1), true) := by
      have hw : wrap64 ((R.length : Int) - 1) = ((R.length - 1 : Nat) : Int) := by rw [w64 (by omega) (by omega)]; omega
      have hc : aN (R.take (R.length - 1)) = some (R.take (R.length - 1)) := by
        unfold aN; rw [if_pos (by rw [List.length_take]; omega)]
      unfold aY
      rw [if_neg (by omega), hw, if_pos (by omega), if_pos (by omega), Int.toNat_natCast, hc]; rfl
    refine cG hp (cG hb (aa rfl (bq h1 (bq h2 (aa rfl ?_)))))
    rw [decide_eq_true (show (R.length : Int) > 1 by omega)]
    exact jt r R (by omega) hl
theorem SegsParts : ∀ (a0_0 : Bool) (a0_1 : List ByteArray), ∃ k, bu k a0_0 a0_1 = some true := by
  intro r R
  refine iD (r := true) ?_
  unfold bu
  obtain ⟨b, hb, hc⟩ := ju r R
  refine bq hb ?_
  cases b with
  | true => exact aa rfl (bq eU (bN _))
  | false =>
    refine au (by simp) ?_
    obtain ⟨h1, h2⟩ := hc rfl
    by_cases hn : (R.length : Int) > 0
    · have hw : wrap64 ((R.length : Int) - 1) = ((R.length - 1 : Nat) : Int) := by rw [w64 (by omega) (by omega)]; omega
      have hil : R.length - 1 < R.length := by omega
      have hbase : aK r R = some (aQ ByteArray.empty R (((R.length - 1 : Nat) : Int))) := by
        unfold aK
        rw [if_pos hn, hw, if_pos (by omega), if_pos (by omega)]
      have hsz : (aQ ByteArray.empty R (((R.length - 1 : Nat) : Int))).size ≤ 1000000 := by
        rw [e8 hil]
        have := jj (aw R[R.length - 1]) (List.mem_map.2 ⟨_, List.getElem_mem hil, rfl⟩)
        rw [gg] at this; omega
      rw [hw]
      exact aa hn (aa (by omega) (aa (by omega) (js r R (by omega) _ hsz hbase)))
    · have hbase : aK r R = some (⟨#[]⟩ : ByteArray) := by unfold aK; rw [if_neg hn]
      exact au hn (js r R (by omega) _ (by decide) hbase)
end Go.Proofs.YtmofhijbheimmaaDoor.Pure
namespace Go.Proofs.YtmofhijbheimmaaDoor.segsParts
open Go.ChangeShapes Go.WideShapes Go.ChangeAt Go.RowKit
open Go.ChangeMaps (open_string shut_string)
open Go.Deep
open Go.Proofs.YtmofhijbheimmaaDoorW.PrintWords
theorem own : ownKnob Tryd.prog.godebug = none := by kernel_rfl
theorem DataW.shut_str {H : Type} {enc : TypeId × Value → H} {P : Program} {w : World} {base : Nat} {spare : Nat → Bool} {held : Bool} {t : TypeId} {s : ByteArray} (ht : P.underlying t = some .string) (hs : s.size ≤ maxLen) : ∃ n, DataW.trod enc P w base spare held n t [.string s] = some (.lit (.string s.data.toList), []) := by
  have h : DataW.Trod enc P w base spare held t (.string s) (.lit (.string s.data.toList)) [] := shut_string ht hs
  exact h
theorem DataW.shut_bl {H : Type} {enc : TypeId × Value → H} {P : Program} {w : World} {base : Nat} {spare : Nat → Bool} {held : Bool} {t : TypeId} {b : Bool} (ht : P.underlying t = some .bool) : ∃ n, DataW.trod enc P w base spare held n t [.bool b] = some (.lit (.bool b), []) := by
  have h : DataW.Trod enc P w base spare held t (.bool b) (.lit (.bool b)) [] := shut_bool ht b
  exact h
theorem DataW.shut_it {H : Type} {enc : TypeId × Value → H} {P : Program} {w : World} {base : Nat} {spare : Nat → Bool} {held : Bool} {t : TypeId} {k : IntKind} {n : Int} (ht : P.underlying t = some (.int k)) (hn : (Lit.int k n).wf = true) : ∃ m, DataW.trod enc P w base spare held m t [.int k n] = some (.lit (.int k n), []) := by
  have h : DataW.Trod enc P w base spare held t (.int k n) (.lit (.int k n)) [] := shut_int ht hn
  exact h
theorem arr2 {α : Type} {cs : Array α} (h : cs.size = 2) : ∃ c0 c1, cs = #[c0, c1] := by
  obtain ⟨l⟩ := cs
  match l, h with
  | [c0, c1], _ => exact ⟨c0, c1, rfl⟩
theorem lst2 {α : Type} {cs : List α} (h : cs.length = 2) : ∃ c0 c1, cs = [c0, c1] := by
  match cs, h with
  | [c0, c1], _ => exact ⟨c0, c1, rfl⟩
theorem open_agg2' {H : Type} {enc : TypeId × Value → H} {P : Program} {w : World} {base : Nat} {spare : Nat → Bool} {held : Bool} {r : Reach} {b0 : Nat} {t : TypeId} {f0 f1 : Field} {v : Value} {d : DataW H} {p : List MemPlace} (hs : P.underlying t = some (.struct #[f0, f1])) (hone : oneCellFields P #[f0, f1] = true) (hC : P.cellsOf t = 2)
    (hv : Value.okWide P w r b0 t v) (h : DataW.Trod enc P w base spare held t v d p) :
    ∃ (v0 v1 : Value) (y0 y1 : DataW H × List MemPlace) (n : Nat), v = .agg #[v0, v1] ∧ d = .agg [y0.1, y1.1] ∧ p = y0.2 ++ (y1.2) ∧ DataW.trod enc P w base spare held n f0.type [v0] = some y0 ∧ DataW.trod enc P w base spare held n f1.type [v1] = some y1 := by
  obtain ⟨cs, rfl, hsz⟩ := okWide_struct hs hv
  obtain ⟨c0, c1, rfl⟩ := arr2 (hsz.trans hC)
  obtain ⟨fuel, hf⟩ := h
  obtain ⟨xs, n, _, hx, hl, hlen, hf⟩ := DataW.trod_struct hs hf
  obtain ⟨y0, y1, rfl⟩ := lst2 (by simpa using hlen)
  obtain ⟨o0, k0⟩ := hone_of hone 0 f0 rfl
  obtain ⟨o1, k1⟩ := hone_of hone 1 f1 rfl
  simp only [Prod.mk.injEq] at hx
  exact ⟨c0, c1, y0, y1, n, rfl, by simpa using hx.1, by simpa using hx.2, by simpa [Value.cells, o0, k0] using hf 0 f0 rfl, by simpa [Value.cells, o1, k1] using hf 1 f1 rfl⟩
theorem shut_agg2' {H : Type} {enc : TypeId × Value → H} {P : Program} {w : World} {base : Nat} {spare : Nat → Bool} {held : Bool} {t : TypeId} {f0 f1 : Field} {v0 v1 : Value} {y0 y1 : DataW H × List MemPlace} (hs : P.underlying t = some (.struct #[f0, f1])) (hone : oneCellFields P #[f0, f1] = true) (hC : P.cellsOf t = 2)
    (t0 : ∃ n, DataW.trod enc P w base spare held n f0.type [v0] = some y0) (t1 : ∃ n, DataW.trod enc P w base spare held n f1.type [v1] = some y1) :
    DataW.Trod enc P w base spare held t (.agg #[v0, v1]) (.agg [y0.1, y1.1]) (y0.2 ++ (y1.2)) := by
  obtain ⟨n0, t0⟩ := t0
  obtain ⟨o0, k0⟩ := hone_of hone 0 f0 rfl
  obtain ⟨n1, t1⟩ := t1
  obtain ⟨o1, k1⟩ := hone_of hone 1 f1 rfl
  have q0 := DataW.trod_le (show n0 ≤ n0 + n1 by omega) t0
  have q1 := DataW.trod_le (show n1 ≤ n0 + n1 by omega) t1
  have ts := trod_struct_mk (enc := enc) (w := w) (base := base) (spare := spare) (held := held) (n := n0 + n1) (xs := [y0, y1]) (cs := [v0, v1]) hs (by simp [hC]) (by simp [o0, k0, q0, o1, k1, q1])
  exact ⟨_, by simpa [Value.cells] using ts⟩
theorem laidOut' : laidOutB Tryd.prog = true := by kernel_rfl
theorem open_strs {H : Type} {enc : TypeId × Value → H} {P : Program} {w : World} {base : Nat} {spare : Nat → Bool} {held : Bool} {t e : TypeId} {fuel : Nat} {v : Value} {x : DataW H × List MemPlace} (ht : P.underlying t = some (.slice e)) (he : P.underlying e = some .string) (hc : P.cellsOf e = 1)
    (h : DataW.trod enc P w base spare held fuel t [v] = some x) : ∃ (A : Option Addr) (c : Nat) (l : List ByteArray), v = .slice A l.length c ∧ l.length ≤ c ∧ Kd.C Kd.string w A l.length l := by
  rcases open_strings ht he hc h with ⟨hcs, _⟩ | ⟨a, len, cap, ss, hcs, _, hl, hm, hz, _, hcell, _⟩
  · obtain rfl := (List.cons.inj hcs).1
    exact ⟨none, 0, [], rfl, Nat.le_refl _, Kd.C_nil _ _⟩
  · obtain rfl := (List.cons.inj hcs).1
    have hss : len ≤ ss.length := by rw [hz]; split <;> omega
    have hlen : (ss.take len).length = len := by rw [List.length_take]; omega
    refine ⟨some a, cap, ss.take len, by rw [hlen], by rw [hlen]; exact hl, rfl, by rw [hlen]; unfold maxLen at hm; omega, fun _ => ⟨a, rfl, fun j p hj => ⟨[.string p], rfl, rfl, fun i u hu => ?_⟩⟩⟩
    cases i with
    | zero =>
      obtain rfl := Option.some.inj hu
      have hjl : j < len := by have := (List.getElem?_eq_some_iff.1 hj).1; omega
      have e1 : ss.getD j ByteArray.empty = p := by rw [List.getD_eq_getElem?_getD, ← List.getElem?_take_of_lt hjl, hj]; rfl
      have := hcell j (by omega)
      rw [e1] at this
      show w.cell? (a.add (j * 1 + 0)) = _
      rw [Nat.mul_one, Nat.add_zero]; exact this
    | succ i => cases hu
theorem open_strs' {H : Type} {enc : TypeId × Value → H} {P : Program} {w : World} {base : Nat} {spare : Nat → Bool} {held : Bool} {r : Reach} {b0 : Nat} {t e : TypeId} {v : Value} {d : DataW H} {p : List MemPlace} (ht : P.underlying t = some (.slice e)) (he : P.underlying e = some .string) (hc : P.cellsOf e = 1)
    (hv : Value.okWide P w r b0 t v) (h : DataW.Trod enc P w base spare held t v d p) : ∃ (A : Option Addr) (c : Nat) (l : List ByteArray), v = .slice A l.length c ∧ l.length ≤ c ∧ Kd.C Kd.string w A l.length l := by
  obtain ⟨a, len, cap, rfl⟩ := okWide_slice ht hv
  obtain ⟨fuel, hf⟩ := h
  exact open_strs (v := .slice a len cap) ht he hc hf
theorem gw_len {W : World} (h : W.ShapedOpen Tryd.prog) : ∃ m, W.cell? ⟨0, 0, none⟩ = some (.int .i64 m) :=
  Go.Proofs.cell_of_shapedOpen_int (g := 0) (t := 3) (zero := #[.int .i64 0]) h (of_decide_eq_true (by kernel_rfl)) (by kernel_rfl) rfl (by kernel_rfl) (by kernel_rfl) Tryd.underlying3
theorem gw {W : World} (h : W.ShapedOpen Tryd.prog) (hL0 : laidMetH Tryd.prog Rows.segsPartsRow.laid W) : X.GW W := ⟨gw_len h⟩
theorem contract (H : Type) (enc : TypeId × Value → H) (W : World) (base : Nat) (args : Array Value) (ds gs : List (DataW H)) (before : List MemPlace)
    (hval0 : ∀ (j : Nat) t v, Tryd.f5.params[j]? = some t → args[j]? = some v → Value.okWide Tryd.prog W .any base t v)
    (hW : DataW.Whole enc Tryd.prog Tryd.f5.params.toList Rows.segsPartsSpec.vars false W args.toList ds gs before)
    (hsz0 : (DataW.weightsEach Tryd.prog (Tryd.f5.params.toList ++ Rows.segsPartsSpec.plain.varTypes Tryd.prog) (ds ++ gs)).all (· ≤ reachBytes) = true) (hsh : W.ShapedOpen Tryd.prog) (hL : laidMetH Tryd.prog Rows.segsPartsRow.laid W) :
    Calls Tryd.prog 5 args W fun e W' => ∃ v, e = .returned v ∧ Rows.segsPartsSpec.post enc Tryd.prog Tryd.f5 false true false false W args v W' := by
  have hsz : (DataW.weightsEach Tryd.prog (Tryd.f5.params.toList ++ Rows.segsPartsSpec.plain.varTypes Tryd.prog) (ds ++ gs)).all (· ≤ reachBytes) = true := hsz0
  have hval : ∀ (j : Nat) t v, Tryd.f5.params[j]? = some t → args[j]? = some v → Value.okWide Tryd.prog W .any base t v := hval0
  have hW' := hW
  obtain ⟨p, q, hA0, hV, rfl, hfz, hnd⟩ := hW
  have hA : DataW.TrodAll enc Tryd.prog W 0 (fun _ => true) true Tryd.f5.params.toList args.toList ds p := hA0
  rw [Tryd.params5] at hA hval hsz
  obtain ⟨v0, vs0, d0, ds0, p0, q0, hargs, rfl, rfl, h0, r0⟩ := trodAll_cons hA
  obtain ⟨rfl, rfl, rfl⟩ := trodAll_nil r0
  obtain rfl : args = #[v0] := by cases args; simp_all
  obtain ⟨rfl, rfl⟩ := trodVars_none hV
  have t0 := h0
  obtain ⟨u0_0, u0_1, y0_0, y0_1, m0, rfl, rfl, rfl, g0_0, g0_1⟩ := open_agg2' Tryd.underlying25 (by kernel_rfl) (by kernel_rfl) (hval 0 25 v0 rfl rfl) h0
  obtain ⟨a0_0, e0_0, f0_0⟩ := DataW.trod_bool Tryd.underlying4 g0_0
  simp only [List.cons.injEq, and_true] at e0_0
  subst e0_0
  subst f0_0
  obtain ⟨A0_1, c0_1, l0_1, rfl, hc0_1, hr0_1⟩ := open_strs Tryd.underlying23 Tryd.underlying9 (by kernel_rfl) g0_1
  clear hA0 hval0 hsz0 hsz
  obtain ⟨k, hk⟩ := Pure.SegsParts a0_0 l0_1
  refine (X.dG k a0_0 A0_1 c0_1 l0_1 true W (hG := gw hsh hL) (hr0_1 := hr0_1) (hc0_1 := hc0_1) (h := hk)).mono fun e W' ⟨he, bel0⟩ => ?_
  have bel : Below W.heap.size W W' := bel0
  subst he
  exact ⟨_, rfl, _, _, _, [], _, [], hW', trodAll_mk1 (shut_bool Tryd.underlying4 _), (trodAll_cons_mk (Below.trod laidOut' (by kernel_rfl) (of_decide_eq_true (by kernel_rfl)) t0 bel (fun x hx => hW'.lt x (List.mem_append_left _ (List.mem_append_left _ hx)))) trodAll_mk0), rfl, bel.frame _, fun h => by cases h⟩
def flat : Nat → DataW Unit → List Value
  | 0, _ => []
  | k + 1, .agg l => l.flatMap (flat k)
  | _ + 1, .lit (.int kd n) => [.int kd n]
  | _ + 1, .lit (.bool b) => [.bool b]
  | _ + 1, _ => []
def layAt (g : Nat) (cs : List Value) (h : Array Obj) : Array Obj := h.modify g fun
  | .cells _ t frozen => .cells cs.toArray t frozen
  | x => x
noncomputable def fl (os : Os) : World := { World.holding Tryd.prog os ⟨#[], #[], []⟩ with heap := layAt 1 (flat 9 Rows.laid_unicode_utf8_first) (layAt 2 (flat 9 Rows.laid_unicode_utf8_acceptRanges) ((World.holding Tryd.prog os ⟨#[], #[], []⟩).heap)) }
theorem laid_met (os : Os) : laidMet Tryd.prog Rows.segsPartsRow.laid ((fl os).forCall (fun _ _ => 0) ⟨#[], #[.agg #[.bool false, .slice none 0 0]], []⟩).memory :=
  laidMet_of_run' 8 (by kernel_rfl) (by kernel_rfl)
theorem reads (os : Os) {H : Type} (enc : TypeId × Value → H) : ∃ places, DataW.whole enc Tryd.prog ((fl os).forCall (fun _ _ => 0) ⟨#[], #[.agg #[.bool false, .slice none 0 0]], []⟩).memory Tryd.f5.params.toList Rows.segsPartsSpec.vars false (#[.agg #[.bool false, .slice none 0 0]] : Array Value).toList 8 = some ([.agg [.lit (.bool false), .nil]], [], places) :=
  ⟨[], by kernel_rfl⟩
theorem lifted (os : Os) (started : os.Started) (H : Type) (enc : TypeId × Value → H) (F : Stop.Interp) :
    ReturnsInHanded {} Tryd.checked os 5 .any ((OpenSpec.ofChange Rows.segsPartsSpec).preRow enc Tryd.prog Tryd.f5 Rows.segsPartsRow.domain false Rows.segsPartsRow.laid) (((OpenSpec.ofChange Rows.segsPartsSpec).at F).post enc Tryd.prog Tryd.f5 false true false false) := by
  obtain ⟨places, hx⟩ := reads os enc
  refine returnsInHanded_of_row (C := Tryd.checked) (s := OpenSpec.ofChange Rows.segsPartsSpec) own started (by kernel_rfl) Tryd.func5
    (witness_row_at (enc := enc) (C := Tryd.checked) false (fl os) #[.agg #[.bool false, .slice none 0 0]] rfl (by kernel_rfl) (by kernel_rfl) (by kernel_rfl)
      (OpenSpec.preRow_of_cond 8 hx (by kernel_rfl) (fun k hk => by cases hk) (by kernel_rfl) (laid_met os))) ?_
  intro W base args ds gs before hval hW _ _ hsz hL hsh _
  exact contract H enc W base args ds gs before hval hW hsz hsh hL
theorem said : Rows.SegsPartsSaid :=
  OpenClaim.holds_of_cond 5 Tryd.f5 rfl rfl rfl rfl rfl rfl rfl ⟨rfl, rfl, rfl, rfl, rfl⟩ rfl rfl rfl rfl rfl (by kernel_rfl) Tryd.func5 (by kernel_rfl)
    (of_decide_eq_true (by kernel_rfl)) (by unfold Func.isWrapper; first | (rw [if_pos (by decide +kernel)]; kernel_rfl) | (rw [if_neg (by decide +kernel)]; exact ⟨rfl, rfl⟩))
    (fun os started H enc _ F => by rw [OpenClaim.pre_eq_preRow]; exact lifted os started H enc F)
theorem plain (f : FuncId) (fn : Func) (hf : Tryd.pinned.checked.prog.funcNamed "moniker/monikerlaw31.SegsParts" = some f) (hfn : Tryd.pinned.checked.prog.funcs[f]? = some fn) :
    false = Tryd.pinned.checked.prog.looks [] ∧ ∀ (j : Nat) t, fn.params[j]? = some t → Tryd.pinned.checked.prog.wantsStandIn t = false := by
  obtain rfl : f = 5 := Option.some.inj ((show Tryd.prog.funcNamed "moniker/monikerlaw31.SegsParts" = some 5 by kernel_rfl).symm.trans hf) |>.symm
  obtain rfl : fn = Tryd.f5 := (Option.some.inj (Tryd.func5.symm.trans hfn)).symm
  refine ⟨by kernel_rfl, fun j t ht => ?_⟩
  rw [Tryd.params5] at ht
  have hm := Array.mem_of_getElem? ht
  simp only [List.mem_cons, List.mem_toArray, List.mem_nil_iff, or_false] at hm
  rcases hm with rfl
  · exact (show Tryd.prog.wantsStandIn 25 = false by kernel_rfl)
theorem card : Rows.SegsPartsCardSaid :=
  Claim7.holds_tied_plain_at .later [] _ _ _ _ said (fun _ h => by cases h) (by kernel_rfl) (fun _ h => by cases h) segsParts_row_tie rfl ⟨rfl, rfl⟩ (by kernel_rfl) rfl plain (by kernel_rfl)
#print axioms card
end Go.Proofs.YtmofhijbheimmaaDoor.segsParts
namespace Go.Proofs.YtmofhijbheimmaaDoor
theorem segsParts_card : Rows.SegsPartsCardSaid := segsParts.card
end Go.Proofs.YtmofhijbheimmaaDoor
