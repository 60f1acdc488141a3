/- The Go functions that a law reaches as plain Lean functions, and the proof that each call answers as they do: written by xprint.py, a program of this session over print.py of the kit, with hooks and contracts of its own. -/
import Derived.Test.YtediodhkimacjaaZPunyDigits4
import Derived.Test.YtediodhkimacjaaRows
import Derived.WalkKit
import Derived.ProofKit
import Derived.OpenShut
import Derived.ShutString
import Derived.ChangeOld
import Derived.Below
import Derived.SizedLaws
set_option linter.unusedSimpArgs false
set_option linter.unusedVariables false
namespace Go.Proofs.Ytediodhkimacjaa.Pure
open Go.RowKit Go.Proofs.Ytediodhkimacjaa.X Go.Proofs.Ytediodhkimacjaa.M Go.Proofs.Ytediodhkimacjaa.Y Go.Proofs.YtediodhkimacjaaW.PrintWords Go.Proofs.YtediodhkimacjaaW.PrintLast Go.Proofs.YtediodhkimacjaaW.PrintMore
theorem eH {a : Int} (h : (Lit.int .i64 a).wf = true) : -9223372036854775808 ≤ a ∧ a ≤ 9223372036854775807 := by
  have h' : (decide (IntKind.i64.min ≤ a) && decide (a ≤ IntKind.i64.max)) = true := h
  rw [Bool.and_eq_true, decide_eq_true_iff, decide_eq_true_iff, show IntKind.i64.min = -9223372036854775808 by decide +kernel, show IntKind.i64.max = 9223372036854775807 by decide +kernel] at h'
  exact h'
theorem eK {a : Int} (h : (Lit.int .u8 a).wf = true) : 0 ≤ a ∧ a ≤ 255 := by
  have h' : (decide (IntKind.u8.min ≤ a) && decide (a ≤ IntKind.u8.max)) = true := h
  rw [Bool.and_eq_true, decide_eq_true_iff, decide_eq_true_iff, show IntKind.u8.min = 0 by decide +kernel, show IntKind.u8.max = 255 by decide +kernel] at h'
  exact h'
theorem eA (k b d c : Int) (f : Bool) (hk : -1099511627776 ≤ k ∧ k ≤ 1099511627776) (hb : -1099511627776 ≤ b ∧ b ≤ 1099511627776) (hd : d ≤ 2147483648) (hc : c ≤ 2147483648) : Ev (fun n => al n k b d c f false) true := by
  obtain ⟨r, r1, r2, _, _⟩ := eq d c f (by omega) (by omega)
  refine Ev.step (fun n => by rw [al]) (ap (by simp) (dg (eF (a := k) (b := b) ⟨by omega, by omega⟩ ⟨by omega, by omega⟩) (dg (eG (a := k) (b := b) ⟨by omega, by omega⟩ ⟨by omega, by omega⟩) ?_)))
  refine aV rfl (bM r1 (bM r2 ?_))
  exact aV rfl (bM dr (dq _))
theorem d9 (k b d c : Int) (f : Bool) : Ev (fun n => aq n k b d c f false) true := by
  have yes : Ev (fun n => al n k b d c f true) true := Ev.step (fun n => by rw [al]) (aV rfl (bM dr (dq _)))
  refine Ev.step (fun n => by rw [aq]) (ap (by simp) (Ev.ite (fun _ => yes) (fun h1 => Ev.ite (fun _ => yes) (fun h2 => Ev.ite (fun _ => yes) (fun h3 => Ev.ite (fun _ => yes) (fun h4 => Ev.ite (fun _ => yes) (fun h5 => ?_)))))))
  by_cases h6 : c > 2147483648
  · rw [decide_eq_true h6]; exact yes
  · rw [decide_eq_false h6]; exact eA k b d c f ⟨by omega, by omega⟩ ⟨by omega, by omega⟩ (by omega) (by omega)
theorem ez (k b d c e : Int) (f : Bool) (h0 : 0 ≤ e) (h1 : e ≤ 255) : Ev (fun n => ab n k b d c e f false) true := by
  have hv := ej h0 h1
  have hv2 := dM h0 h1
  refine Ev.step (fun n => by rw [ab]) (ap (by simp) ?_)
  generalize dv e = v at hv hv2
  by_cases hneg : v < 0
  · rw [if_pos hneg] at hv
    refine bM hv (bM hv2 ?_)
    rw [decide_eq_false (show ¬ v ≥ 0 by omega)]
    exact ap (by simp) (ap (by simp) (d9 k b d c f))
  · rw [if_neg hneg] at hv
    refine bM hv (bM hv2 ?_)
    rw [decide_eq_true (show v ≥ 0 by omega)]
    exact ap (by simp) (aV rfl (aV rfl (d9 k b d c f)))
theorem PunyDigits : bN := by
  intro v k b d c e f w0 w1 w2 w3 w4 w5
  refine dV (r := true) ?_
  have hv := eH w0
  have he := eK w5
  have yes := ez k b d c e f he.1 he.2
  unfold bJ
  refine bM (es v hv) ?_
  by_cases hr : 0 ≤ v ∧ v < 36
  · rw [if_pos hr]
    obtain ⟨d0, d1, d2, d3⟩ := ea hr.1 hr.2
    have hd := dM d0 d1
    rw [d2] at hd
    refine aV (show v ≥ 0 from hr.1) ?_
    rw [decide_eq_true hr.2]
    refine ap (by simp) (aV rfl (bM hd (aV rfl ?_)))
    refine Ev.ite (fun h65 => Ev.ite (fun h90 => absurd ⟨h65, h90⟩ d3) (fun _ => yes)) (fun _ => yes)
  · rw [if_neg hr]
    refine Ev.ite (fun h0 => ?_) (fun h0 => ?_)
    · rw [decide_eq_false (show ¬ v < 36 by omega)]
      exact ap (by simp) (ap (by simp) yes)
    · exact ap (by simp) (ap (by simp) yes)
end Go.Proofs.Ytediodhkimacjaa.Pure
namespace Go.Proofs.Ytediodhkimacjaa.punyDigits
open Go.ChangeShapes Go.WideShapes Go.ChangeAt Go.RowKit
open Go.ChangeMaps (open_string shut_string)
theorem own : ownKnob Try.prog.godebug = none := by kernel_rfl
set_option maxRecDepth 100000 in
theorem lifted (os : Os) (started : os.Started) (H : Type) (enc : TypeId × Value → H) :
    ReturnsInHanded {} Try.checked os 4 .any (Rows.punyDigitsSpec.pre6 enc Try.prog Try.f4 Rows.punyDigitsRow.domain false) (Rows.punyDigitsSpec.post enc Try.prog Try.f4 false true false false) := by
  refine returnsInHanded_of_change_sized (C := Try.checked) own started (by kernel_rfl) Try.func4
    (ChangeSpec.witness6 (enc := enc) (C := Try.checked) false ⟨#[], #[.int .i64 0, .int .i64 0, .int .i64 0, .int .i64 0, .int .i64 0, .int .u8 0, .bool false], []⟩ 8 (by kernel_rfl) (by kernel_rfl) (by kernel_rfl) (by kernel_rfl)) ?_
  intro W base args ds gs before hval0 hW hcnd hsz0 _
  have hsz : (DataW.weightsEach Try.prog (Try.f4.params.toList ++ Rows.punyDigitsSpec.plain.varTypes Try.prog) (ds ++ gs)).all (· ≤ reachBytes) = true := hsz0
  have hval : ∀ (j : Nat) t v, Try.f4.params[j]? = some t → args[j]? = some v → Value.okWide Try.prog W .any base t v := hval0
  have hW' := hW
  obtain ⟨p, q, hA0, hV, rfl, hfz, hnd⟩ := hW
  have hA : DataW.TrodAll enc Try.prog W 0 (fun _ => true) true Try.f4.params.toList args.toList ds p := hA0
  rw [Try.params4] at hA hval hsz
  obtain ⟨v0, vs0, d0, ds0, p0, q0, hargs, rfl, rfl, h0, r0⟩ := trodAll_cons hA
  obtain ⟨v1, vs1, d1, ds1, p1, q1, rfl, rfl, rfl, h1, r1⟩ := trodAll_cons r0
  obtain ⟨v2, vs2, d2, ds2, p2, q2, rfl, rfl, rfl, h2, r2⟩ := trodAll_cons r1
  obtain ⟨v3, vs3, d3, ds3, p3, q3, rfl, rfl, rfl, h3, r3⟩ := trodAll_cons r2
  obtain ⟨v4, vs4, d4, ds4, p4, q4, rfl, rfl, rfl, h4, r4⟩ := trodAll_cons r3
  obtain ⟨v5, vs5, d5, ds5, p5, q5, rfl, rfl, rfl, h5, r5⟩ := trodAll_cons r4
  obtain ⟨v6, vs6, d6, ds6, p6, q6, rfl, rfl, rfl, h6, r6⟩ := trodAll_cons r5
  obtain ⟨rfl, rfl, rfl⟩ := trodAll_nil r6
  obtain rfl : args = #[v0, v1, v2, v3, v4, v5, v6] := by cases args; simp_all
  obtain ⟨rfl, rfl⟩ := trodVars_none hV
  obtain ⟨a0, rfl, rfl, rfl, w0⟩ := open_int Try.underlying3 (hval 0 3 v0 rfl rfl) h0
  obtain ⟨a1, rfl, rfl, rfl, w1⟩ := open_int Try.underlying3 (hval 1 3 v1 rfl rfl) h1
  obtain ⟨a2, rfl, rfl, rfl, w2⟩ := open_int Try.underlying3 (hval 2 3 v2 rfl rfl) h2
  obtain ⟨a3, rfl, rfl, rfl, w3⟩ := open_int Try.underlying3 (hval 3 3 v3 rfl rfl) h3
  obtain ⟨a4, rfl, rfl, rfl, w4⟩ := open_int Try.underlying3 (hval 4 3 v4 rfl rfl) h4
  obtain ⟨a5, rfl, rfl, rfl, w5⟩ := open_int Try.underlying5 (hval 5 5 v5 rfl rfl) h5
  obtain ⟨a6, rfl, rfl, rfl⟩ := open_bool Try.underlying4 (hval 6 4 v6 rfl rfl) h6
  clear hA0 hval0 hsz0 hsz
  refine (X.cn Pure.PunyDigits a0 a1 a2 a3 a4 a5 a6 W w0 w1 w2 w3 w4 w5).mono fun e W' ⟨he, bel⟩ => ?_
  subst he
  exact ⟨_, rfl, _, _, _, [], _, [], hW', trodAll_mk1 (shut_bool Try.underlying4 _), (trodAll_cons_mk (shut_int Try.underlying3 w0) (trodAll_cons_mk (shut_int Try.underlying3 w1) (trodAll_cons_mk (shut_int Try.underlying3 w2) (trodAll_cons_mk (shut_int Try.underlying3 w3) (trodAll_cons_mk (shut_int Try.underlying3 w4) (trodAll_cons_mk (shut_int Try.underlying5 w5) (trodAll_cons_mk (shut_bool Try.underlying4 _) trodAll_mk0))))))), rfl, bel.frame _, fun h => by cases h⟩
theorem over : Rows.punyDigitsRow.holds Try.pinned (OpenSpec.ofChange Rows.punyDigitsSpec) :=
  OpenClaim.holds_of_wide 4 Try.f4 rfl rfl rfl rfl rfl rfl rfl ⟨rfl, rfl, rfl, rfl, rfl⟩ rfl rfl rfl rfl rfl (by kernel_rfl) Try.func4 (by kernel_rfl)
    (of_decide_eq_true (by kernel_rfl)) (by unfold Func.isWrapper; first | (rw [if_pos (by decide +kernel)]; kernel_rfl) | (rw [if_neg (by decide +kernel)]; exact ⟨rfl, rfl⟩))
    (fun os started H enc _ => lifted os started H enc)
theorem proved : Rows.PunyDigitsSaid := over
#print axioms proved
end Go.Proofs.Ytediodhkimacjaa.punyDigits
namespace Go.Proofs.Ytediodhkimacjaa
theorem punyDigits_holds : Rows.PunyDigitsSaid := punyDigits.proved
end Go.Proofs.Ytediodhkimacjaa
