/- Texts that the law's proof needs, joined by a program of this session. -/
import Derived.Test.YticohlbfolnmpaaDoorZIpShort1
set_option maxHeartbeats 8000000
set_option maxRecDepth 100000
set_option linter.unusedSimpArgs false
set_option linter.unusedVariables false
namespace Go.Proofs.YticohlbfolnmpaaDoor.X
open Go.RowKit Go.Proofs.YticohlbfolnmpaaDoorW.PrintWords Go.Proofs.YticohlbfolnmpaaDoorW.PrintLast Go.Proofs.YticohlbfolnmpaaDoorW.PrintMore
attribute [local go_sem] bA bn cl dg dO cA dh cu cw cY cZ ci cj cv cx
mutual
def aa : Nat → Int → Int → Int → Int → Int → Int → Int → Int → Int → Int → Int → Option (Int × Int)
  | 0, _, _, _, _, _, _, _, _, _, _, _ => none
  | k + 1, x2, x3, x6, Aa, Ab, Ac, Ad, Ae, Af, Ag, Ah => if x6 < 8 then (al k x2 x3 x6 0 x6 Aa Ab Ac Ad Ae Af Ag Ah) else (some (x2, x3))
def al : Nat → Int → Int → Int → Int → Int → Int → Int → Int → Int → Int → Int → Int → Int → Option (Int × Int)
  | 0, _, _, _, _, _, _, _, _, _, _, _, _, _ => none
  | k + 1, x2, x3, x4, x5, x6, Aa, Ab, Ac, Ad, Ae, Af, Ag, Ah => if (wrap64 (x4 + x5)) < 8 then (if 0 ≤ (wrap64 (x4 + x5)) then (if (wrap64 (x4 + x5)) = 0 then (if Aa = 0 then (al k x2 x3 x4 (wrap64 (x5 + 1)) x6 Aa Ab Ac Ad Ae Af Ag Ah) else (if x5 > x3 then (if x5 > 1 then (aa k x4 x5 (wrap64 (x6 + 1)) Aa Ab Ac Ad Ae Af Ag Ah) else (aa k x2 x3 (wrap64 (x6 + 1)) Aa Ab Ac Ad Ae Af Ag Ah)) else (aa k x2 x3 (wrap64 (x6 + 1)) Aa Ab Ac Ad Ae Af Ag Ah))) else (if (wrap64 (x4 + x5)) = 1 then (if Ab = 0 then (al k x2 x3 x4 (wrap64 (x5 + 1)) x6 Aa Ab Ac Ad Ae Af Ag Ah) else (if x5 > x3 then (if x5 > 1 then (aa k x4 x5 (wrap64 (x6 + 1)) Aa Ab Ac Ad Ae Af Ag Ah) else (aa k x2 x3 (wrap64 (x6 + 1)) Aa Ab Ac Ad Ae Af Ag Ah)) else (aa k x2 x3 (wrap64 (x6 + 1)) Aa Ab Ac Ad Ae Af Ag Ah))) else (if (wrap64 (x4 + x5)) = 2 then (if Ac = 0 then (al k x2 x3 x4 (wrap64 (x5 + 1)) x6 Aa Ab Ac Ad Ae Af Ag Ah) else (if x5 > x3 then (if x5 > 1 then (aa k x4 x5 (wrap64 (x6 + 1)) Aa Ab Ac Ad Ae Af Ag Ah) else (aa k x2 x3 (wrap64 (x6 + 1)) Aa Ab Ac Ad Ae Af Ag Ah)) else (aa k x2 x3 (wrap64 (x6 + 1)) Aa Ab Ac Ad Ae Af Ag Ah))) else (if (wrap64 (x4 + x5)) = 3 then (if Ad = 0 then (al k x2 x3 x4 (wrap64 (x5 + 1)) x6 Aa Ab Ac Ad Ae Af Ag Ah) else (if x5 > x3 then (if x5 > 1 then (aa k x4 x5 (wrap64 (x6 + 1)) Aa Ab Ac Ad Ae Af Ag Ah) else (aa k x2 x3 (wrap64 (x6 + 1)) Aa Ab Ac Ad Ae Af Ag Ah)) else (aa k x2 x3 (wrap64 (x6 + 1)) Aa Ab Ac Ad Ae Af Ag Ah))) else (if (wrap64 (x4 + x5)) = 4 then (if Ae = 0 then (al k x2 x3 x4 (wrap64 (x5 + 1)) x6 Aa Ab Ac Ad Ae Af Ag Ah) else (if x5 > x3 then (if x5 > 1 then (aa k x4 x5 (wrap64 (x6 + 1)) Aa Ab Ac Ad Ae Af Ag Ah) else (aa k x2 x3 (wrap64 (x6 + 1)) Aa Ab Ac Ad Ae Af Ag Ah)) else (aa k x2 x3 (wrap64 (x6 + 1)) Aa Ab Ac Ad Ae Af Ag Ah))) else (if (wrap64 (x4 + x5)) = 5 then (if Af = 0 then (al k x2 x3 x4 (wrap64 (x5 + 1)) x6 Aa Ab Ac Ad Ae Af Ag Ah) else (if x5 > x3 then (if x5 > 1 then (aa k x4 x5 (wrap64 (x6 + 1)) Aa Ab Ac Ad Ae Af Ag Ah) else (aa k x2 x3 (wrap64 (x6 + 1)) Aa Ab Ac Ad Ae Af Ag Ah)) else (aa k x2 x3 (wrap64 (x6 + 1)) Aa Ab Ac Ad Ae Af Ag Ah))) else (if (wrap64 (x4 + x5)) = 6 then (if Ag = 0 then (al k x2 x3 x4 (wrap64 (x5 + 1)) x6 Aa Ab Ac Ad Ae Af Ag Ah) else (if x5 > x3 then (if x5 > 1 then (aa k x4 x5 (wrap64 (x6 + 1)) Aa Ab Ac Ad Ae Af Ag Ah) else (aa k x2 x3 (wrap64 (x6 + 1)) Aa Ab Ac Ad Ae Af Ag Ah)) else (aa k x2 x3 (wrap64 (x6 + 1)) Aa Ab Ac Ad Ae Af Ag Ah))) else (if (wrap64 (x4 + x5)) = 7 then (if Ah = 0 then (al k x2 x3 x4 (wrap64 (x5 + 1)) x6 Aa Ab Ac Ad Ae Af Ag Ah) else (if x5 > x3 then (if x5 > 1 then (aa k x4 x5 (wrap64 (x6 + 1)) Aa Ab Ac Ad Ae Af Ag Ah) else (aa k x2 x3 (wrap64 (x6 + 1)) Aa Ab Ac Ad Ae Af Ag Ah)) else (aa k x2 x3 (wrap64 (x6 + 1)) Aa Ab Ac Ad Ae Af Ag Ah))) else (none))))))))) else (none)) else (if x5 > x3 then (if x5 > 1 then (aa k x4 x5 (wrap64 (x6 + 1)) Aa Ab Ac Ad Ae Af Ag Ah) else (aa k x2 x3 (wrap64 (x6 + 1)) Aa Ab Ac Ad Ae Af Ag Ah)) else (aa k x2 x3 (wrap64 (x6 + 1)) Aa Ab Ac Ad Ae Af Ag Ah))
end
def cm (k : Nat) (Aa : Int) (Ab : Int) (Ac : Int) (Ad : Int) (Ae : Int) (Af : Int) (Ag : Int) (Ah : Int) : Option (Int × Int) := aa k 0 0 0 Aa Ab Ac Ad Ae Af Ag Ah
theorem ga : ∀ k, (∀ y0 y1 y2 y3 y4 y5 y6 y7 y8 y9 y10, LeO (aa k y0 y1 y2 y3 y4 y5 y6 y7 y8 y9 y10) (aa (k + 1) y0 y1 y2 y3 y4 y5 y6 y7 y8 y9 y10)) ∧ (∀ y0 y1 y2 y3 y4 y5 y6 y7 y8 y9 y10 y11 y12, LeO (al k y0 y1 y2 y3 y4 y5 y6 y7 y8 y9 y10 y11 y12) (al (k + 1) y0 y1 y2 y3 y4 y5 y6 y7 y8 y9 y10 y11 y12))
  | 0 => ⟨fun _ _ _ _ _ _ _ _ _ _ _ r h => by simp [aa] at h, fun _ _ _ _ _ _ _ _ _ _ _ _ _ r h => by simp [al] at h⟩
  | k + 1 => by
    obtain ⟨ih0, ih1⟩ := ga k
    refine ⟨?_, ?_⟩
    · intro y0 y1 y2 y3 y4 y5 y6 y7 y8 y9 y10
      unfold aa
      exact xmo
    · intro y0 y1 y2 y3 y4 y5 y6 y7 y8 y9 y10 y11 y12
      unfold al
      exact xmo
theorem gL : ∀ a0 a1 a2 a3 a4 a5 a6 a7 k, LeO (cm k a0 a1 a2 a3 a4 a5 a6 a7) (cm (k + 1) a0 a1 a2 a3 a4 a5 a6 a7) := by
  intro a0 a1 a2 a3 a4 a5 a6 a7 k
  obtain ⟨ih0, ih1⟩ := ga k
  unfold cm
  exact xmo
theorem gq (k : Nat) (Al : Int) (Ak : Int) (Aj : Int) (Ai : Int) (Ah : Int) (Ag : Int) (Af : Int) (Ae : Int) (r1 : Int) (r2 : Int) (w : World) (h : cm k Al Ak Aj Ai Ah Ag Af Ae = some (r1, r2)) :
    Calls Tryd.prog 33 #[.agg #[.int .u16 Al, .int .u16 Ak, .int .u16 Aj, .int .u16 Ai, .int .u16 Ah, .int .u16 Ag, .int .u16 Af, .int .u16 Ae]] w fun e w' => e = .returned (.tuple #[.int .i64 r1, .int .i64 r2]) ∧ Below w.heap.size w w' := by
 have hu27 := Tryd.underlying27
 have HB := Zz.mk (Below.refl w.heap.size w)
 have H : (aa k 0 0 0 Al Ak Aj Ai Ah Ag Af Ae) = some (r1, r2) := h
 clear h
 have H' := Zz.mk H
 clear H
 go_enter Tryd.func33, Tryd.ntmps33
 go_wp2_with (first | ((with_reducible refine ay (N := 1) rfl ?_); refine xev 1 #[.int .u16 Al, .int .u16 Ak, .int .u16 Aj, .int .u16 Ai, .int .u16 Ah, .int .u16 Ag, .int .u16 Af, .int .u16 Ae] 27 ?_; intro AC hg w2 hbox hb; have Aa := Zz.mk (hbox); have AE := xsz hg; have Bh := AE; replace HB := xst hb; clear hb hbox hg))
 go_loopg [2, 3, 6] k (fun kq v2 v3 v6 w' => ∃ (Am : Int) (Ad : Int) (Ab : Int), v2 = .int .i64 Am ∧ v3 = .int .i64 Ad ∧ v6 = .int .i64 Ab ∧ Zz (aa kq Am Ad Ab Al Ak Aj Ai Ah Ag Af Ae = some (r1, r2)) ∧ Zz (kq ≤ k) ∧ Zz (w'.heap[AC]? = some (.cells #[.int .u16 Al, .int .u16 Ak, .int .u16 Aj, .int .u16 Ai, .int .u16 Ah, .int .u16 Ag, .int .u16 Af, .int .u16 Ae] 27 (0, 0))) ∧ Zz (Below w.heap.size w w'))
 case atStart => exact ⟨(0), (0), (0), xrr, xrr, xrr, H', ⟨Nat.le_refl _⟩, ⟨xbk⟩, ⟨xbl⟩⟩
 case round =>
  clear H'
  obtain ⟨Am, Ad, Ab, rfl, rfl, rfl, HA, HK1, Aa, HB⟩ := hrel
  cases gk with
  | zero => exact absurd HA.out (by simp [aa])
  | succ k1 =>
   have H := HA.out
   clear HA
   simp only [aa] at H
   by_cases c3 : Ab < 8
   ·
    rw [if_pos c3] at H
    have AF := decide_eq_true c3
    clear c3
    have H' := Zz.mk H
    clear H
    go_wp2
    go_loopg [5] k1 (fun kq v5 w' => ∃ (Ac : Int), v5 = .int .i64 Ac ∧ Zz (al kq Am Ad Ab Ac Ab Al Ak Aj Ai Ah Ag Af Ae = some (r1, r2)) ∧ Zz (kq ≤ k1) ∧ Zz (w'.heap[AC]? = some (.cells #[.int .u16 Al, .int .u16 Ak, .int .u16 Aj, .int .u16 Ai, .int .u16 Ah, .int .u16 Ag, .int .u16 Af, .int .u16 Ae] 27 (0, 0))) ∧ Zz (Below w.heap.size w w'))
    case atStart => exact ⟨(0), xrr, H', ⟨Nat.le_refl _⟩, ⟨xbk⟩, ⟨xbl⟩⟩
    case round =>
     clear H'
     clear AF
     obtain ⟨Ac, rfl, HA, HK2, Aa, HB⟩ := hrel
     cases gk with
     | zero => exact absurd HA.out (by simp [al])
     | succ k2 =>
      have H := HA.out
      clear HA
      simp only [al] at H
      by_cases c4 : (wrap64 (Ab + Ac)) < 8
      ·
       rw [if_pos c4] at H
       have AG := decide_eq_true c4
       clear c4
       obtain ⟨Be, Ao⟩ : ∃ j_ : Int, (wrap64 (Ab + Ac)) = j_ := ⟨_, rfl⟩
       first | rw [Ao] at H | simp only [Ao] at H | skip
       (try rw [Ao] at AG)
       have Bi : (IntKind.i64.wrap (Ab + Ac)) = Be := (aC _).trans Ao
       by_cases c6 : 0 ≤ (Be)
       ·
        rw [if_pos c6] at H
        have Bj := decide_eq_true c6
        clear c6
        obtain ⟨AA, Aq⟩ : ∃ j_ : Int, (Be) = j_ := ⟨_, rfl⟩
        replace H : (if AA = 0 then (if Al = 0 then (al k2 Am Ad Ab (wrap64 (Ac + 1)) Ab Al Ak Aj Ai Ah Ag Af Ae) else (if Ac > Ad then (if Ac > 1 then (aa k2 Ab Ac (wrap64 (Ab + 1)) Al Ak Aj Ai Ah Ag Af Ae) else (aa k2 Am Ad (wrap64 (Ab + 1)) Al Ak Aj Ai Ah Ag Af Ae)) else (aa k2 Am Ad (wrap64 (Ab + 1)) Al Ak Aj Ai Ah Ag Af Ae))) else (if (AA) = 1 then (if Ak = 0 then (al k2 Am Ad Ab (wrap64 (Ac + 1)) Ab Al Ak Aj Ai Ah Ag Af Ae) else (if Ac > Ad then (if Ac > 1 then (aa k2 Ab Ac (wrap64 (Ab + 1)) Al Ak Aj Ai Ah Ag Af Ae) else (aa k2 Am Ad (wrap64 (Ab + 1)) Al Ak Aj Ai Ah Ag Af Ae)) else (aa k2 Am Ad (wrap64 (Ab + 1)) Al Ak Aj Ai Ah Ag Af Ae))) else (if (AA) = 2 then (if Aj = 0 then (al k2 Am Ad Ab (wrap64 (Ac + 1)) Ab Al Ak Aj Ai Ah Ag Af Ae) else (if Ac > Ad then (if Ac > 1 then (aa k2 Ab Ac (wrap64 (Ab + 1)) Al Ak Aj Ai Ah Ag Af Ae) else (aa k2 Am Ad (wrap64 (Ab + 1)) Al Ak Aj Ai Ah Ag Af Ae)) else (aa k2 Am Ad (wrap64 (Ab + 1)) Al Ak Aj Ai Ah Ag Af Ae))) else (if (AA) = 3 then (if Ai = 0 then (al k2 Am Ad Ab (wrap64 (Ac + 1)) Ab Al Ak Aj Ai Ah Ag Af Ae) else (if Ac > Ad then (if Ac > 1 then (aa k2 Ab Ac (wrap64 (Ab + 1)) Al Ak Aj Ai Ah Ag Af Ae) else (aa k2 Am Ad (wrap64 (Ab + 1)) Al Ak Aj Ai Ah Ag Af Ae)) else (aa k2 Am Ad (wrap64 (Ab + 1)) Al Ak Aj Ai Ah Ag Af Ae))) else (if (AA) = 4 then (if Ah = 0 then (al k2 Am Ad Ab (wrap64 (Ac + 1)) Ab Al Ak Aj Ai Ah Ag Af Ae) else (if Ac > Ad then (if Ac > 1 then (aa k2 Ab Ac (wrap64 (Ab + 1)) Al Ak Aj Ai Ah Ag Af Ae) else (aa k2 Am Ad (wrap64 (Ab + 1)) Al Ak Aj Ai Ah Ag Af Ae)) else (aa k2 Am Ad (wrap64 (Ab + 1)) Al Ak Aj Ai Ah Ag Af Ae))) else (if (AA) = 5 then (if Ag = 0 then (al k2 Am Ad Ab (wrap64 (Ac + 1)) Ab Al Ak Aj Ai Ah Ag Af Ae) else (if Ac > Ad then (if Ac > 1 then (aa k2 Ab Ac (wrap64 (Ab + 1)) Al Ak Aj Ai Ah Ag Af Ae) else (aa k2 Am Ad (wrap64 (Ab + 1)) Al Ak Aj Ai Ah Ag Af Ae)) else (aa k2 Am Ad (wrap64 (Ab + 1)) Al Ak Aj Ai Ah Ag Af Ae))) else (if (AA) = 6 then (if Af = 0 then (al k2 Am Ad Ab (wrap64 (Ac + 1)) Ab Al Ak Aj Ai Ah Ag Af Ae) else (if Ac > Ad then (if Ac > 1 then (aa k2 Ab Ac (wrap64 (Ab + 1)) Al Ak Aj Ai Ah Ag Af Ae) else (aa k2 Am Ad (wrap64 (Ab + 1)) Al Ak Aj Ai Ah Ag Af Ae)) else (aa k2 Am Ad (wrap64 (Ab + 1)) Al Ak Aj Ai Ah Ag Af Ae))) else (if (AA) = 7 then (if Ae = 0 then (al k2 Am Ad Ab (wrap64 (Ac + 1)) Ab Al Ak Aj Ai Ah Ag Af Ae) else (if Ac > Ad then (if Ac > 1 then (aa k2 Ab Ac (wrap64 (Ab + 1)) Al Ak Aj Ai Ah Ag Af Ae) else (aa k2 Am Ad (wrap64 (Ab + 1)) Al Ak Aj Ai Ah Ag Af Ae)) else (aa k2 Am Ad (wrap64 (Ab + 1)) Al Ak Aj Ai Ah Ag Af Ae))) else (none))))))))) = some (r1, r2) := by first | (rw [Aq] at H; exact H) | (simp only [Aq] at H ⊢; exact H)
        by_cases c8 : AA = 0
        ·
         subst c8
         rw [if_pos rfl] at H
         by_cases c9 : Al = 0
         ·
          rw [if_pos c9] at H
          have Bf : (Al == 0) = true := beq_iff_eq.mpr c9
          have Bg : (Al != 0) = false := bne_eq_false_iff_eq.mpr c9
          clear c9
          have H' := Zz.mk H
          clear H
          obtain ⟨hcz10_0, hcz10_1, hcz10_2, hcz10_3, hcz10_4, hcz10_5, hcz10_6, hcz10_7⟩ := xc8 Aa
          have hfz10_0 := xf Aa 0
          have hfz10_1 := xf Aa 1
          have hfz10_2 := xf Aa 2
          have hfz10_3 := xf Aa 3
          have hfz10_4 := xf Aa 4
          have hfz10_5 := xf Aa 5
          have hfz10_6 := xf Aa 6
          have hfz10_7 := xf Aa 7
          go_wp2
          first | go_roundg k2 | (simp only [← Ao]; go_roundg k2)
          case measure => have := HK1.out; have := HK2.out; omega
          case rel => exact ⟨(wrap64 (Ac + 1)), xrr, H', ⟨by have := HK1.out; have := HK2.out; omega⟩, ⟨xbk⟩, ⟨xbl⟩⟩
         ·
          rw [if_neg c9] at H
          have Bf : (Al == 0) = false := beq_eq_false_iff_ne.mpr c9
          have Bg : (Al != 0) = true := bne_iff_ne.mpr c9
          by_cases c11 : Ac > Ad
          ·
           rw [if_pos c11] at H
           have AH := decide_eq_true c11
           clear c11
           by_cases c12 : Ac > 1
           ·
            rw [if_pos c12] at H
            have AI := decide_eq_true c12
            clear c12
            have H' := Zz.mk H
            clear H
            obtain ⟨hcz13_0, hcz13_1, hcz13_2, hcz13_3, hcz13_4, hcz13_5, hcz13_6, hcz13_7⟩ := xc8 Aa
            have hfz13_0 := xf Aa 0
            have hfz13_1 := xf Aa 1
            have hfz13_2 := xf Aa 2
            have hfz13_3 := xf Aa 3
            have hfz13_4 := xf Aa 4
            have hfz13_5 := xf Aa 5
            have hfz13_6 := xf Aa 6
            have hfz13_7 := xf Aa 7
            go_wp2
            first | go_roundg k2 | (simp only [← Ao]; go_roundg k2)
            case measure => have := HK1.out; have := HK2.out; omega
            case rel => exact ⟨(Ab), (Ac), (wrap64 (Ab + 1)), xrr, xrr, xrr, H', ⟨by have := HK1.out; have := HK2.out; omega⟩, ⟨xbk⟩, ⟨xbl⟩⟩
           ·
            rw [if_neg c12] at H
            have AI := decide_eq_false c12
            clear c12
            have H' := Zz.mk H
            clear H
            obtain ⟨hcz14_0, hcz14_1, hcz14_2, hcz14_3, hcz14_4, hcz14_5, hcz14_6, hcz14_7⟩ := xc8 Aa
            have hfz14_0 := xf Aa 0
            have hfz14_1 := xf Aa 1
            have hfz14_2 := xf Aa 2
            have hfz14_3 := xf Aa 3
            have hfz14_4 := xf Aa 4
            have hfz14_5 := xf Aa 5
            have hfz14_6 := xf Aa 6
            have hfz14_7 := xf Aa 7
            go_wp2
            first | go_roundg k2 | (simp only [← Ao]; go_roundg k2)
            case measure => have := HK1.out; have := HK2.out; omega
            case rel => exact ⟨(Am), (Ad), (wrap64 (Ab + 1)), xrr, xrr, xrr, H', ⟨by have := HK1.out; have := HK2.out; omega⟩, ⟨xbk⟩, ⟨xbl⟩⟩
          ·
           rw [if_neg c11] at H
           have AH := decide_eq_false c11
           clear c11
           have H' := Zz.mk H
           clear H
           obtain ⟨hcz15_0, hcz15_1, hcz15_2, hcz15_3, hcz15_4, hcz15_5, hcz15_6, hcz15_7⟩ := xc8 Aa
           have hfz15_0 := xf Aa 0
           have hfz15_1 := xf Aa 1
           have hfz15_2 := xf Aa 2
           have hfz15_3 := xf Aa 3
           have hfz15_4 := xf Aa 4
           have hfz15_5 := xf Aa 5
           have hfz15_6 := xf Aa 6
           have hfz15_7 := xf Aa 7
           go_wp2
           first | go_roundg k2 | (simp only [← Ao]; go_roundg k2)
           case measure => have := HK1.out; have := HK2.out; omega
           case rel => exact ⟨(Am), (Ad), (wrap64 (Ab + 1)), xrr, xrr, xrr, H', ⟨by have := HK1.out; have := HK2.out; omega⟩, ⟨xbk⟩, ⟨xbl⟩⟩
        ·
         rw [if_neg c8] at H
         clear c8
         obtain ⟨Av, An⟩ : ∃ j_ : Int, (AA) = j_ := ⟨_, rfl⟩
         replace H : (if Av = 1 then (if Ak = 0 then (al k2 Am Ad Ab (wrap64 (Ac + 1)) Ab Al Ak Aj Ai Ah Ag Af Ae) else (if Ac > Ad then (if Ac > 1 then (aa k2 Ab Ac (wrap64 (Ab + 1)) Al Ak Aj Ai Ah Ag Af Ae) else (aa k2 Am Ad (wrap64 (Ab + 1)) Al Ak Aj Ai Ah Ag Af Ae)) else (aa k2 Am Ad (wrap64 (Ab + 1)) Al Ak Aj Ai Ah Ag Af Ae))) else (if (Av) = 2 then (if Aj = 0 then (al k2 Am Ad Ab (wrap64 (Ac + 1)) Ab Al Ak Aj Ai Ah Ag Af Ae) else (if Ac > Ad then (if Ac > 1 then (aa k2 Ab Ac (wrap64 (Ab + 1)) Al Ak Aj Ai Ah Ag Af Ae) else (aa k2 Am Ad (wrap64 (Ab + 1)) Al Ak Aj Ai Ah Ag Af Ae)) else (aa k2 Am Ad (wrap64 (Ab + 1)) Al Ak Aj Ai Ah Ag Af Ae))) else (if (Av) = 3 then (if Ai = 0 then (al k2 Am Ad Ab (wrap64 (Ac + 1)) Ab Al Ak Aj Ai Ah Ag Af Ae) else (if Ac > Ad then (if Ac > 1 then (aa k2 Ab Ac (wrap64 (Ab + 1)) Al Ak Aj Ai Ah Ag Af Ae) else (aa k2 Am Ad (wrap64 (Ab + 1)) Al Ak Aj Ai Ah Ag Af Ae)) else (aa k2 Am Ad (wrap64 (Ab + 1)) Al Ak Aj Ai Ah Ag Af Ae))) else (if (Av) = 4 then (if Ah = 0 then (al k2 Am Ad Ab (wrap64 (Ac + 1)) Ab Al Ak Aj Ai Ah Ag Af Ae) else (if Ac > Ad then (if Ac > 1 then (aa k2 Ab Ac (wrap64 (Ab + 1)) Al Ak Aj Ai Ah Ag Af Ae) else (aa k2 Am Ad (wrap64 (Ab + 1)) Al Ak Aj Ai Ah Ag Af Ae)) else (aa k2 Am Ad (wrap64 (Ab + 1)) Al Ak Aj Ai Ah Ag Af Ae))) else (if (Av) = 5 then (if Ag = 0 then (al k2 Am Ad Ab (wrap64 (Ac + 1)) Ab Al Ak Aj Ai Ah Ag Af Ae) else (if Ac > Ad then (if Ac > 1 then (aa k2 Ab Ac (wrap64 (Ab + 1)) Al Ak Aj Ai Ah Ag Af Ae) else (aa k2 Am Ad (wrap64 (Ab + 1)) Al Ak Aj Ai Ah Ag Af Ae)) else (aa k2 Am Ad (wrap64 (Ab + 1)) Al Ak Aj Ai Ah Ag Af Ae))) else (if (Av) = 6 then (if Af = 0 then (al k2 Am Ad Ab (wrap64 (Ac + 1)) Ab Al Ak Aj Ai Ah Ag Af Ae) else (if Ac > Ad then (if Ac > 1 then (aa k2 Ab Ac (wrap64 (Ab + 1)) Al Ak Aj Ai Ah Ag Af Ae) else (aa k2 Am Ad (wrap64 (Ab + 1)) Al Ak Aj Ai Ah Ag Af Ae)) else (aa k2 Am Ad (wrap64 (Ab + 1)) Al Ak Aj Ai Ah Ag Af Ae))) else (if (Av) = 7 then (if Ae = 0 then (al k2 Am Ad Ab (wrap64 (Ac + 1)) Ab Al Ak Aj Ai Ah Ag Af Ae) else (if Ac > Ad then (if Ac > 1 then (aa k2 Ab Ac (wrap64 (Ab + 1)) Al Ak Aj Ai Ah Ag Af Ae) else (aa k2 Am Ad (wrap64 (Ab + 1)) Al Ak Aj Ai Ah Ag Af Ae)) else (aa k2 Am Ad (wrap64 (Ab + 1)) Al Ak Aj Ai Ah Ag Af Ae))) else (none)))))))) = some (r1, r2) := by first | (rw [An] at H; exact H) | (simp only [An] at H ⊢; exact H)
         by_cases c17 : Av = 1
         ·
          subst c17
          rw [if_pos rfl] at H
          by_cases c18 : Ak = 0
          ·
           rw [if_pos c18] at H
           have AJ : (Ak == 0) = true := beq_iff_eq.mpr c18
           have AK : (Ak != 0) = false := bne_eq_false_iff_eq.mpr c18
           clear c18
           have H' := Zz.mk H
           clear H
           obtain ⟨hcz19_0, hcz19_1, hcz19_2, hcz19_3, hcz19_4, hcz19_5, hcz19_6, hcz19_7⟩ := xc8 Aa
           have hfz19_0 := xf Aa 0
           have hfz19_1 := xf Aa 1
           have hfz19_2 := xf Aa 2
           have hfz19_3 := xf Aa 3
           have hfz19_4 := xf Aa 4
           have hfz19_5 := xf Aa 5
           have hfz19_6 := xf Aa 6
           have hfz19_7 := xf Aa 7
           go_wp2
           first | go_roundg k2 | (simp only [← Ao, ← Aq]; go_roundg k2)
           case measure => have := HK1.out; have := HK2.out; omega
           case rel => exact ⟨(wrap64 (Ac + 1)), xrr, H', ⟨by have := HK1.out; have := HK2.out; omega⟩, ⟨xbk⟩, ⟨xbl⟩⟩
          ·
           rw [if_neg c18] at H
           have AJ : (Ak == 0) = false := beq_eq_false_iff_ne.mpr c18
           have AK : (Ak != 0) = true := bne_iff_ne.mpr c18
           by_cases c20 : Ac > Ad
           ·
            rw [if_pos c20] at H
            have AL := decide_eq_true c20
            clear c20
            by_cases c21 : Ac > 1
            ·
             rw [if_pos c21] at H
             have AM := decide_eq_true c21
             clear c21
             have H' := Zz.mk H
             clear H
             obtain ⟨hcz22_0, hcz22_1, hcz22_2, hcz22_3, hcz22_4, hcz22_5, hcz22_6, hcz22_7⟩ := xc8 Aa
             have hfz22_0 := xf Aa 0
             have hfz22_1 := xf Aa 1
             have hfz22_2 := xf Aa 2
             have hfz22_3 := xf Aa 3
             have hfz22_4 := xf Aa 4
             have hfz22_5 := xf Aa 5
             have hfz22_6 := xf Aa 6
             have hfz22_7 := xf Aa 7
             go_wp2
             first | go_roundg k2 | (simp only [← Ao, ← Aq]; go_roundg k2)
             case measure => have := HK1.out; have := HK2.out; omega
             case rel => exact ⟨(Ab), (Ac), (wrap64 (Ab + 1)), xrr, xrr, xrr, H', ⟨by have := HK1.out; have := HK2.out; omega⟩, ⟨xbk⟩, ⟨xbl⟩⟩
            ·
             rw [if_neg c21] at H
             have AM := decide_eq_false c21
             clear c21
             have H' := Zz.mk H
             clear H
             obtain ⟨hcz23_0, hcz23_1, hcz23_2, hcz23_3, hcz23_4, hcz23_5, hcz23_6, hcz23_7⟩ := xc8 Aa
             have hfz23_0 := xf Aa 0
             have hfz23_1 := xf Aa 1
             have hfz23_2 := xf Aa 2
             have hfz23_3 := xf Aa 3
             have hfz23_4 := xf Aa 4
             have hfz23_5 := xf Aa 5
             have hfz23_6 := xf Aa 6
             have hfz23_7 := xf Aa 7
             go_wp2
             first | go_roundg k2 | (simp only [← Ao, ← Aq]; go_roundg k2)
             case measure => have := HK1.out; have := HK2.out; omega
             case rel => exact ⟨(Am), (Ad), (wrap64 (Ab + 1)), xrr, xrr, xrr, H', ⟨by have := HK1.out; have := HK2.out; omega⟩, ⟨xbk⟩, ⟨xbl⟩⟩
           ·
            rw [if_neg c20] at H
            have AL := decide_eq_false c20
            clear c20
            have H' := Zz.mk H
            clear H
            obtain ⟨hcz24_0, hcz24_1, hcz24_2, hcz24_3, hcz24_4, hcz24_5, hcz24_6, hcz24_7⟩ := xc8 Aa
            have hfz24_0 := xf Aa 0
            have hfz24_1 := xf Aa 1
            have hfz24_2 := xf Aa 2
            have hfz24_3 := xf Aa 3
            have hfz24_4 := xf Aa 4
            have hfz24_5 := xf Aa 5
            have hfz24_6 := xf Aa 6
            have hfz24_7 := xf Aa 7
            go_wp2
            first | go_roundg k2 | (simp only [← Ao, ← Aq]; go_roundg k2)
            case measure => have := HK1.out; have := HK2.out; omega
            case rel => exact ⟨(Am), (Ad), (wrap64 (Ab + 1)), xrr, xrr, xrr, H', ⟨by have := HK1.out; have := HK2.out; omega⟩, ⟨xbk⟩, ⟨xbl⟩⟩
         ·
          rw [if_neg c17] at H
          clear c17
          obtain ⟨Aw, Ap⟩ : ∃ j_ : Int, (Av) = j_ := ⟨_, rfl⟩
          replace H : (if Aw = 2 then (if Aj = 0 then (al k2 Am Ad Ab (wrap64 (Ac + 1)) Ab Al Ak Aj Ai Ah Ag Af Ae) else (if Ac > Ad then (if Ac > 1 then (aa k2 Ab Ac (wrap64 (Ab + 1)) Al Ak Aj Ai Ah Ag Af Ae) else (aa k2 Am Ad (wrap64 (Ab + 1)) Al Ak Aj Ai Ah Ag Af Ae)) else (aa k2 Am Ad (wrap64 (Ab + 1)) Al Ak Aj Ai Ah Ag Af Ae))) else (if (Aw) = 3 then (if Ai = 0 then (al k2 Am Ad Ab (wrap64 (Ac + 1)) Ab Al Ak Aj Ai Ah Ag Af Ae) else (if Ac > Ad then (if Ac > 1 then (aa k2 Ab Ac (wrap64 (Ab + 1)) Al Ak Aj Ai Ah Ag Af Ae) else (aa k2 Am Ad (wrap64 (Ab + 1)) Al Ak Aj Ai Ah Ag Af Ae)) else (aa k2 Am Ad (wrap64 (Ab + 1)) Al Ak Aj Ai Ah Ag Af Ae))) else (if (Aw) = 4 then (if Ah = 0 then (al k2 Am Ad Ab (wrap64 (Ac + 1)) Ab Al Ak Aj Ai Ah Ag Af Ae) else (if Ac > Ad then (if Ac > 1 then (aa k2 Ab Ac (wrap64 (Ab + 1)) Al Ak Aj Ai Ah Ag Af Ae) else (aa k2 Am Ad (wrap64 (Ab + 1)) Al Ak Aj Ai Ah Ag Af Ae)) else (aa k2 Am Ad (wrap64 (Ab + 1)) Al Ak Aj Ai Ah Ag Af Ae))) else (if (Aw) = 5 then (if Ag = 0 then (al k2 Am Ad Ab (wrap64 (Ac + 1)) Ab Al Ak Aj Ai Ah Ag Af Ae) else (if Ac > Ad then (if Ac > 1 then (aa k2 Ab Ac (wrap64 (Ab + 1)) Al Ak Aj Ai Ah Ag Af Ae) else (aa k2 Am Ad (wrap64 (Ab + 1)) Al Ak Aj Ai Ah Ag Af Ae)) else (aa k2 Am Ad (wrap64 (Ab + 1)) Al Ak Aj Ai Ah Ag Af Ae))) else (if (Aw) = 6 then (if Af = 0 then (al k2 Am Ad Ab (wrap64 (Ac + 1)) Ab Al Ak Aj Ai Ah Ag Af Ae) else (if Ac > Ad then (if Ac > 1 then (aa k2 Ab Ac (wrap64 (Ab + 1)) Al Ak Aj Ai Ah Ag Af Ae) else (aa k2 Am Ad (wrap64 (Ab + 1)) Al Ak Aj Ai Ah Ag Af Ae)) else (aa k2 Am Ad (wrap64 (Ab + 1)) Al Ak Aj Ai Ah Ag Af Ae))) else (if (Aw) = 7 then (if Ae = 0 then (al k2 Am Ad Ab (wrap64 (Ac + 1)) Ab Al Ak Aj Ai Ah Ag Af Ae) else (if Ac > Ad then (if Ac > 1 then (aa k2 Ab Ac (wrap64 (Ab + 1)) Al Ak Aj Ai Ah Ag Af Ae) else (aa k2 Am Ad (wrap64 (Ab + 1)) Al Ak Aj Ai Ah Ag Af Ae)) else (aa k2 Am Ad (wrap64 (Ab + 1)) Al Ak Aj Ai Ah Ag Af Ae))) else (none))))))) = some (r1, r2) := by first | (rw [Ap] at H; exact H) | (simp only [Ap] at H ⊢; exact H)
          by_cases c26 : Aw = 2
          ·
           subst c26
           rw [if_pos rfl] at H
           by_cases c27 : Aj = 0
           ·
            rw [if_pos c27] at H
            have AN : (Aj == 0) = true := beq_iff_eq.mpr c27
            have AO : (Aj != 0) = false := bne_eq_false_iff_eq.mpr c27
            clear c27
            have H' := Zz.mk H
            clear H
            obtain ⟨hcz28_0, hcz28_1, hcz28_2, hcz28_3, hcz28_4, hcz28_5, hcz28_6, hcz28_7⟩ := xc8 Aa
            have hfz28_0 := xf Aa 0
            have hfz28_1 := xf Aa 1
            have hfz28_2 := xf Aa 2
            have hfz28_3 := xf Aa 3
            have hfz28_4 := xf Aa 4
            have hfz28_5 := xf Aa 5
            have hfz28_6 := xf Aa 6
            have hfz28_7 := xf Aa 7
            go_wp2
            first | go_roundg k2 | (simp only [← Ao, ← Aq, ← An]; go_roundg k2)
            case measure => have := HK1.out; have := HK2.out; omega
            case rel => exact ⟨(wrap64 (Ac + 1)), xrr, H', ⟨by have := HK1.out; have := HK2.out; omega⟩, ⟨xbk⟩, ⟨xbl⟩⟩
           ·
            rw [if_neg c27] at H
            have AN : (Aj == 0) = false := beq_eq_false_iff_ne.mpr c27
            have AO : (Aj != 0) = true := bne_iff_ne.mpr c27
            by_cases c29 : Ac > Ad
            ·
             rw [if_pos c29] at H
             have AP := decide_eq_true c29
             clear c29
             by_cases c30 : Ac > 1
             ·
              rw [if_pos c30] at H
              have AQ := decide_eq_true c30
              clear c30
              have H' := Zz.mk H
              clear H
              obtain ⟨hcz31_0, hcz31_1, hcz31_2, hcz31_3, hcz31_4, hcz31_5, hcz31_6, hcz31_7⟩ := xc8 Aa
              have hfz31_0 := xf Aa 0
              have hfz31_1 := xf Aa 1
              have hfz31_2 := xf Aa 2
              have hfz31_3 := xf Aa 3
              have hfz31_4 := xf Aa 4
              have hfz31_5 := xf Aa 5
              have hfz31_6 := xf Aa 6
              have hfz31_7 := xf Aa 7
              go_wp2
              first | go_roundg k2 | (simp only [← Ao, ← Aq, ← An]; go_roundg k2)
              case measure => have := HK1.out; have := HK2.out; omega
              case rel => exact ⟨(Ab), (Ac), (wrap64 (Ab + 1)), xrr, xrr, xrr, H', ⟨by have := HK1.out; have := HK2.out; omega⟩, ⟨xbk⟩, ⟨xbl⟩⟩
             ·
              rw [if_neg c30] at H
              have AQ := decide_eq_false c30
              clear c30
              have H' := Zz.mk H
              clear H
              obtain ⟨hcz32_0, hcz32_1, hcz32_2, hcz32_3, hcz32_4, hcz32_5, hcz32_6, hcz32_7⟩ := xc8 Aa
              have hfz32_0 := xf Aa 0
              have hfz32_1 := xf Aa 1
              have hfz32_2 := xf Aa 2
              have hfz32_3 := xf Aa 3
              have hfz32_4 := xf Aa 4
              have hfz32_5 := xf Aa 5
              have hfz32_6 := xf Aa 6
              have hfz32_7 := xf Aa 7
              go_wp2
              first | go_roundg k2 | (simp only [← Ao, ← Aq, ← An]; go_roundg k2)
              case measure => have := HK1.out; have := HK2.out; omega
              case rel => exact ⟨(Am), (Ad), (wrap64 (Ab + 1)), xrr, xrr, xrr, H', ⟨by have := HK1.out; have := HK2.out; omega⟩, ⟨xbk⟩, ⟨xbl⟩⟩
            ·
             rw [if_neg c29] at H
             have AP := decide_eq_false c29
             clear c29
             have H' := Zz.mk H
             clear H
             obtain ⟨hcz33_0, hcz33_1, hcz33_2, hcz33_3, hcz33_4, hcz33_5, hcz33_6, hcz33_7⟩ := xc8 Aa
             have hfz33_0 := xf Aa 0
             have hfz33_1 := xf Aa 1
             have hfz33_2 := xf Aa 2
             have hfz33_3 := xf Aa 3
             have hfz33_4 := xf Aa 4
             have hfz33_5 := xf Aa 5
             have hfz33_6 := xf Aa 6
             have hfz33_7 := xf Aa 7
             go_wp2
             first | go_roundg k2 | (simp only [← Ao, ← Aq, ← An]; go_roundg k2)
             case measure => have := HK1.out; have := HK2.out; omega
             case rel => exact ⟨(Am), (Ad), (wrap64 (Ab + 1)), xrr, xrr, xrr, H', ⟨by have := HK1.out; have := HK2.out; omega⟩, ⟨xbk⟩, ⟨xbl⟩⟩
          ·
           rw [if_neg c26] at H
           clear c26
           obtain ⟨Ax, Ar⟩ : ∃ j_ : Int, (Aw) = j_ := ⟨_, rfl⟩
           replace H : (if Ax = 3 then (if Ai = 0 then (al k2 Am Ad Ab (wrap64 (Ac + 1)) Ab Al Ak Aj Ai Ah Ag Af Ae) else (if Ac > Ad then (if Ac > 1 then (aa k2 Ab Ac (wrap64 (Ab + 1)) Al Ak Aj Ai Ah Ag Af Ae) else (aa k2 Am Ad (wrap64 (Ab + 1)) Al Ak Aj Ai Ah Ag Af Ae)) else (aa k2 Am Ad (wrap64 (Ab + 1)) Al Ak Aj Ai Ah Ag Af Ae))) else (if (Ax) = 4 then (if Ah = 0 then (al k2 Am Ad Ab (wrap64 (Ac + 1)) Ab Al Ak Aj Ai Ah Ag Af Ae) else (if Ac > Ad then (if Ac > 1 then (aa k2 Ab Ac (wrap64 (Ab + 1)) Al Ak Aj Ai Ah Ag Af Ae) else (aa k2 Am Ad (wrap64 (Ab + 1)) Al Ak Aj Ai Ah Ag Af Ae)) else (aa k2 Am Ad (wrap64 (Ab + 1)) Al Ak Aj Ai Ah Ag Af Ae))) else (if (Ax) = 5 then (if Ag = 0 then (al k2 Am Ad Ab (wrap64 (Ac + 1)) Ab Al Ak Aj Ai Ah Ag Af Ae) else (if Ac > Ad then (if Ac > 1 then (aa k2 Ab Ac (wrap64 (Ab + 1)) Al Ak Aj Ai Ah Ag Af Ae) else (aa k2 Am Ad (wrap64 (Ab + 1)) Al Ak Aj Ai Ah Ag Af Ae)) else (aa k2 Am Ad (wrap64 (Ab + 1)) Al Ak Aj Ai Ah Ag Af Ae))) else (if (Ax) = 6 then (if Af = 0 then (al k2 Am Ad Ab (wrap64 (Ac + 1)) Ab Al Ak Aj Ai Ah Ag Af Ae) else (if Ac > Ad then (if Ac > 1 then (aa k2 Ab Ac (wrap64 (Ab + 1)) Al Ak Aj Ai Ah Ag Af Ae) else (aa k2 Am Ad (wrap64 (Ab + 1)) Al Ak Aj Ai Ah Ag Af Ae)) else (aa k2 Am Ad (wrap64 (Ab + 1)) Al Ak Aj Ai Ah Ag Af Ae))) else (if (Ax) = 7 then (if Ae = 0 then (al k2 Am Ad Ab (wrap64 (Ac + 1)) Ab Al Ak Aj Ai Ah Ag Af Ae) else (if Ac > Ad then (if Ac > 1 then (aa k2 Ab Ac (wrap64 (Ab + 1)) Al Ak Aj Ai Ah Ag Af Ae) else (aa k2 Am Ad (wrap64 (Ab + 1)) Al Ak Aj Ai Ah Ag Af Ae)) else (aa k2 Am Ad (wrap64 (Ab + 1)) Al Ak Aj Ai Ah Ag Af Ae))) else (none)))))) = some (r1, r2) := by first | (rw [Ar] at H; exact H) | (simp only [Ar] at H ⊢; exact H)
           by_cases c35 : Ax = 3
           ·
            subst c35
            rw [if_pos rfl] at H
            by_cases c36 : Ai = 0
            ·
             rw [if_pos c36] at H
             have AR : (Ai == 0) = true := beq_iff_eq.mpr c36
             have AS : (Ai != 0) = false := bne_eq_false_iff_eq.mpr c36
             clear c36
             have H' := Zz.mk H
             clear H
             obtain ⟨hcz37_0, hcz37_1, hcz37_2, hcz37_3, hcz37_4, hcz37_5, hcz37_6, hcz37_7⟩ := xc8 Aa
             have hfz37_0 := xf Aa 0
             have hfz37_1 := xf Aa 1
             have hfz37_2 := xf Aa 2
             have hfz37_3 := xf Aa 3
             have hfz37_4 := xf Aa 4
             have hfz37_5 := xf Aa 5
             have hfz37_6 := xf Aa 6
             have hfz37_7 := xf Aa 7
             go_wp2
             first | go_roundg k2 | (simp only [← Ao, ← Aq, ← An, ← Ap]; go_roundg k2)
             case measure => have := HK1.out; have := HK2.out; omega
             case rel => exact ⟨(wrap64 (Ac + 1)), xrr, H', ⟨by have := HK1.out; have := HK2.out; omega⟩, ⟨xbk⟩, ⟨xbl⟩⟩
            ·
             rw [if_neg c36] at H
             have AR : (Ai == 0) = false := beq_eq_false_iff_ne.mpr c36
             have AS : (Ai != 0) = true := bne_iff_ne.mpr c36
             by_cases c38 : Ac > Ad
             ·
              rw [if_pos c38] at H
              have AT := decide_eq_true c38
              clear c38
              by_cases c39 : Ac > 1
              ·
               rw [if_pos c39] at H
               have AU := decide_eq_true c39
               clear c39
               have H' := Zz.mk H
               clear H
               obtain ⟨hcz40_0, hcz40_1, hcz40_2, hcz40_3, hcz40_4, hcz40_5, hcz40_6, hcz40_7⟩ := xc8 Aa
               have hfz40_0 := xf Aa 0
               have hfz40_1 := xf Aa 1
               have hfz40_2 := xf Aa 2
               have hfz40_3 := xf Aa 3
               have hfz40_4 := xf Aa 4
               have hfz40_5 := xf Aa 5
               have hfz40_6 := xf Aa 6
               have hfz40_7 := xf Aa 7
               go_wp2
               first | go_roundg k2 | (simp only [← Ao, ← Aq, ← An, ← Ap]; go_roundg k2)
               case measure => have := HK1.out; have := HK2.out; omega
               case rel => exact ⟨(Ab), (Ac), (wrap64 (Ab + 1)), xrr, xrr, xrr, H', ⟨by have := HK1.out; have := HK2.out; omega⟩, ⟨xbk⟩, ⟨xbl⟩⟩
              ·
               rw [if_neg c39] at H
               have AU := decide_eq_false c39
               clear c39
               have H' := Zz.mk H
               clear H
               obtain ⟨hcz41_0, hcz41_1, hcz41_2, hcz41_3, hcz41_4, hcz41_5, hcz41_6, hcz41_7⟩ := xc8 Aa
               have hfz41_0 := xf Aa 0
               have hfz41_1 := xf Aa 1
               have hfz41_2 := xf Aa 2
               have hfz41_3 := xf Aa 3
               have hfz41_4 := xf Aa 4
               have hfz41_5 := xf Aa 5
               have hfz41_6 := xf Aa 6
               have hfz41_7 := xf Aa 7
               go_wp2
               first | go_roundg k2 | (simp only [← Ao, ← Aq, ← An, ← Ap]; go_roundg k2)
               case measure => have := HK1.out; have := HK2.out; omega
               case rel => exact ⟨(Am), (Ad), (wrap64 (Ab + 1)), xrr, xrr, xrr, H', ⟨by have := HK1.out; have := HK2.out; omega⟩, ⟨xbk⟩, ⟨xbl⟩⟩
             ·
              rw [if_neg c38] at H
              have AT := decide_eq_false c38
              clear c38
              have H' := Zz.mk H
              clear H
              obtain ⟨hcz42_0, hcz42_1, hcz42_2, hcz42_3, hcz42_4, hcz42_5, hcz42_6, hcz42_7⟩ := xc8 Aa
              have hfz42_0 := xf Aa 0
              have hfz42_1 := xf Aa 1
              have hfz42_2 := xf Aa 2
              have hfz42_3 := xf Aa 3
              have hfz42_4 := xf Aa 4
              have hfz42_5 := xf Aa 5
              have hfz42_6 := xf Aa 6
              have hfz42_7 := xf Aa 7
              go_wp2
              first | go_roundg k2 | (simp only [← Ao, ← Aq, ← An, ← Ap]; go_roundg k2)
              case measure => have := HK1.out; have := HK2.out; omega
              case rel => exact ⟨(Am), (Ad), (wrap64 (Ab + 1)), xrr, xrr, xrr, H', ⟨by have := HK1.out; have := HK2.out; omega⟩, ⟨xbk⟩, ⟨xbl⟩⟩
           ·
            rw [if_neg c35] at H
            clear c35
            obtain ⟨Ay, As⟩ : ∃ j_ : Int, (Ax) = j_ := ⟨_, rfl⟩
            replace H : (if Ay = 4 then (if Ah = 0 then (al k2 Am Ad Ab (wrap64 (Ac + 1)) Ab Al Ak Aj Ai Ah Ag Af Ae) else (if Ac > Ad then (if Ac > 1 then (aa k2 Ab Ac (wrap64 (Ab + 1)) Al Ak Aj Ai Ah Ag Af Ae) else (aa k2 Am Ad (wrap64 (Ab + 1)) Al Ak Aj Ai Ah Ag Af Ae)) else (aa k2 Am Ad (wrap64 (Ab + 1)) Al Ak Aj Ai Ah Ag Af Ae))) else (if (Ay) = 5 then (if Ag = 0 then (al k2 Am Ad Ab (wrap64 (Ac + 1)) Ab Al Ak Aj Ai Ah Ag Af Ae) else (if Ac > Ad then (if Ac > 1 then (aa k2 Ab Ac (wrap64 (Ab + 1)) Al Ak Aj Ai Ah Ag Af Ae) else (aa k2 Am Ad (wrap64 (Ab + 1)) Al Ak Aj Ai Ah Ag Af Ae)) else (aa k2 Am Ad (wrap64 (Ab + 1)) Al Ak Aj Ai Ah Ag Af Ae))) else (if (Ay) = 6 then (if Af = 0 then (al k2 Am Ad Ab (wrap64 (Ac + 1)) Ab Al Ak Aj Ai Ah Ag Af Ae) else (if Ac > Ad then (if Ac > 1 then (aa k2 Ab Ac (wrap64 (Ab + 1)) Al Ak Aj Ai Ah Ag Af Ae) else (aa k2 Am Ad (wrap64 (Ab + 1)) Al Ak Aj Ai Ah Ag Af Ae)) else (aa k2 Am Ad (wrap64 (Ab + 1)) Al Ak Aj Ai Ah Ag Af Ae))) else (if (Ay) = 7 then (if Ae = 0 then (al k2 Am Ad Ab (wrap64 (Ac + 1)) Ab Al Ak Aj Ai Ah Ag Af Ae) else (if Ac > Ad then (if Ac > 1 then (aa k2 Ab Ac (wrap64 (Ab + 1)) Al Ak Aj Ai Ah Ag Af Ae) else (aa k2 Am Ad (wrap64 (Ab + 1)) Al Ak Aj Ai Ah Ag Af Ae)) else (aa k2 Am Ad (wrap64 (Ab + 1)) Al Ak Aj Ai Ah Ag Af Ae))) else (none))))) = some (r1, r2) := by first | (rw [As] at H; exact H) | (simp only [As] at H ⊢; exact H)
            by_cases c44 : Ay = 4
            ·
             subst c44
             rw [if_pos rfl] at H
             by_cases c45 : Ah = 0
             ·
              rw [if_pos c45] at H
              have AV : (Ah == 0) = true := beq_iff_eq.mpr c45
              have AW : (Ah != 0) = false := bne_eq_false_iff_eq.mpr c45
              clear c45
              have H' := Zz.mk H
              clear H
              obtain ⟨hcz46_0, hcz46_1, hcz46_2, hcz46_3, hcz46_4, hcz46_5, hcz46_6, hcz46_7⟩ := xc8 Aa
              have hfz46_0 := xf Aa 0
              have hfz46_1 := xf Aa 1
              have hfz46_2 := xf Aa 2
              have hfz46_3 := xf Aa 3
              have hfz46_4 := xf Aa 4
              have hfz46_5 := xf Aa 5
              have hfz46_6 := xf Aa 6
              have hfz46_7 := xf Aa 7
              go_wp2
              first | go_roundg k2 | (simp only [← Ao, ← Aq, ← An, ← Ap, ← Ar]; go_roundg k2)
              case measure => have := HK1.out; have := HK2.out; omega
              case rel => exact ⟨(wrap64 (Ac + 1)), xrr, H', ⟨by have := HK1.out; have := HK2.out; omega⟩, ⟨xbk⟩, ⟨xbl⟩⟩
             ·
              rw [if_neg c45] at H
              have AV : (Ah == 0) = false := beq_eq_false_iff_ne.mpr c45
              have AW : (Ah != 0) = true := bne_iff_ne.mpr c45
              by_cases c47 : Ac > Ad
              ·
               rw [if_pos c47] at H
               have AX := decide_eq_true c47
               clear c47
               by_cases c48 : Ac > 1
               ·
                rw [if_pos c48] at H
                have AY := decide_eq_true c48
                clear c48
                have H' := Zz.mk H
                clear H
                obtain ⟨hcz49_0, hcz49_1, hcz49_2, hcz49_3, hcz49_4, hcz49_5, hcz49_6, hcz49_7⟩ := xc8 Aa
                have hfz49_0 := xf Aa 0
                have hfz49_1 := xf Aa 1
                have hfz49_2 := xf Aa 2
                have hfz49_3 := xf Aa 3
                have hfz49_4 := xf Aa 4
                have hfz49_5 := xf Aa 5
                have hfz49_6 := xf Aa 6
                have hfz49_7 := xf Aa 7
                go_wp2
                first | go_roundg k2 | (simp only [← Ao, ← Aq, ← An, ← Ap, ← Ar]; go_roundg k2)
                case measure => have := HK1.out; have := HK2.out; omega
                case rel => exact ⟨(Ab), (Ac), (wrap64 (Ab + 1)), xrr, xrr, xrr, H', ⟨by have := HK1.out; have := HK2.out; omega⟩, ⟨xbk⟩, ⟨xbl⟩⟩
               ·
                rw [if_neg c48] at H
                have AY := decide_eq_false c48
                clear c48
                have H' := Zz.mk H
                clear H
                obtain ⟨hcz50_0, hcz50_1, hcz50_2, hcz50_3, hcz50_4, hcz50_5, hcz50_6, hcz50_7⟩ := xc8 Aa
                have hfz50_0 := xf Aa 0
                have hfz50_1 := xf Aa 1
                have hfz50_2 := xf Aa 2
                have hfz50_3 := xf Aa 3
                have hfz50_4 := xf Aa 4
                have hfz50_5 := xf Aa 5
                have hfz50_6 := xf Aa 6
                have hfz50_7 := xf Aa 7
                go_wp2
                first | go_roundg k2 | (simp only [← Ao, ← Aq, ← An, ← Ap, ← Ar]; go_roundg k2)
                case measure => have := HK1.out; have := HK2.out; omega
                case rel => exact ⟨(Am), (Ad), (wrap64 (Ab + 1)), xrr, xrr, xrr, H', ⟨by have := HK1.out; have := HK2.out; omega⟩, ⟨xbk⟩, ⟨xbl⟩⟩
              ·
               rw [if_neg c47] at H
               have AX := decide_eq_false c47
               clear c47
               have H' := Zz.mk H
               clear H
               obtain ⟨hcz51_0, hcz51_1, hcz51_2, hcz51_3, hcz51_4, hcz51_5, hcz51_6, hcz51_7⟩ := xc8 Aa
               have hfz51_0 := xf Aa 0
               have hfz51_1 := xf Aa 1
               have hfz51_2 := xf Aa 2
               have hfz51_3 := xf Aa 3
               have hfz51_4 := xf Aa 4
               have hfz51_5 := xf Aa 5
               have hfz51_6 := xf Aa 6
               have hfz51_7 := xf Aa 7
               go_wp2
               first | go_roundg k2 | (simp only [← Ao, ← Aq, ← An, ← Ap, ← Ar]; go_roundg k2)
               case measure => have := HK1.out; have := HK2.out; omega
               case rel => exact ⟨(Am), (Ad), (wrap64 (Ab + 1)), xrr, xrr, xrr, H', ⟨by have := HK1.out; have := HK2.out; omega⟩, ⟨xbk⟩, ⟨xbl⟩⟩
            ·
             rw [if_neg c44] at H
             clear c44
             obtain ⟨Az, At⟩ : ∃ j_ : Int, (Ay) = j_ := ⟨_, rfl⟩
             replace H : (if Az = 5 then (if Ag = 0 then (al k2 Am Ad Ab (wrap64 (Ac + 1)) Ab Al Ak Aj Ai Ah Ag Af Ae) else (if Ac > Ad then (if Ac > 1 then (aa k2 Ab Ac (wrap64 (Ab + 1)) Al Ak Aj Ai Ah Ag Af Ae) else (aa k2 Am Ad (wrap64 (Ab + 1)) Al Ak Aj Ai Ah Ag Af Ae)) else (aa k2 Am Ad (wrap64 (Ab + 1)) Al Ak Aj Ai Ah Ag Af Ae))) else (if (Az) = 6 then (if Af = 0 then (al k2 Am Ad Ab (wrap64 (Ac + 1)) Ab Al Ak Aj Ai Ah Ag Af Ae) else (if Ac > Ad then (if Ac > 1 then (aa k2 Ab Ac (wrap64 (Ab + 1)) Al Ak Aj Ai Ah Ag Af Ae) else (aa k2 Am Ad (wrap64 (Ab + 1)) Al Ak Aj Ai Ah Ag Af Ae)) else (aa k2 Am Ad (wrap64 (Ab + 1)) Al Ak Aj Ai Ah Ag Af Ae))) else (if (Az) = 7 then (if Ae = 0 then (al k2 Am Ad Ab (wrap64 (Ac + 1)) Ab Al Ak Aj Ai Ah Ag Af Ae) else (if Ac > Ad then (if Ac > 1 then (aa k2 Ab Ac (wrap64 (Ab + 1)) Al Ak Aj Ai Ah Ag Af Ae) else (aa k2 Am Ad (wrap64 (Ab + 1)) Al Ak Aj Ai Ah Ag Af Ae)) else (aa k2 Am Ad (wrap64 (Ab + 1)) Al Ak Aj Ai Ah Ag Af Ae))) else (none)))) = some (r1, r2) := by first | (rw [At] at H; exact H) | (simp only [At] at H ⊢; exact H)
             by_cases c53 : Az = 5
             ·
              subst c53
              rw [if_pos rfl] at H
              by_cases c54 : Ag = 0
              ·
               rw [if_pos c54] at H
               have AZ : (Ag == 0) = true := beq_iff_eq.mpr c54
               have A0 : (Ag != 0) = false := bne_eq_false_iff_eq.mpr c54
               clear c54
               have H' := Zz.mk H
               clear H
               obtain ⟨hcz55_0, hcz55_1, hcz55_2, hcz55_3, hcz55_4, hcz55_5, hcz55_6, hcz55_7⟩ := xc8 Aa
               have hfz55_0 := xf Aa 0
               have hfz55_1 := xf Aa 1
               have hfz55_2 := xf Aa 2
               have hfz55_3 := xf Aa 3
               have hfz55_4 := xf Aa 4
               have hfz55_5 := xf Aa 5
               have hfz55_6 := xf Aa 6
               have hfz55_7 := xf Aa 7
               go_wp2
               first | go_roundg k2 | (simp only [← Ao, ← Aq, ← An, ← Ap, ← Ar, ← As]; go_roundg k2)
               case measure => have := HK1.out; have := HK2.out; omega
               case rel => exact ⟨(wrap64 (Ac + 1)), xrr, H', ⟨by have := HK1.out; have := HK2.out; omega⟩, ⟨xbk⟩, ⟨xbl⟩⟩
              ·
               rw [if_neg c54] at H
               have AZ : (Ag == 0) = false := beq_eq_false_iff_ne.mpr c54
               have A0 : (Ag != 0) = true := bne_iff_ne.mpr c54
               by_cases c56 : Ac > Ad
               ·
                rw [if_pos c56] at H
                have A1 := decide_eq_true c56
                clear c56
                by_cases c57 : Ac > 1
                ·
                 rw [if_pos c57] at H
                 have A2 := decide_eq_true c57
                 clear c57
                 have H' := Zz.mk H
                 clear H
                 obtain ⟨hcz58_0, hcz58_1, hcz58_2, hcz58_3, hcz58_4, hcz58_5, hcz58_6, hcz58_7⟩ := xc8 Aa
                 have hfz58_0 := xf Aa 0
                 have hfz58_1 := xf Aa 1
                 have hfz58_2 := xf Aa 2
                 have hfz58_3 := xf Aa 3
                 have hfz58_4 := xf Aa 4
                 have hfz58_5 := xf Aa 5
                 have hfz58_6 := xf Aa 6
                 have hfz58_7 := xf Aa 7
                 go_wp2
                 first | go_roundg k2 | (simp only [← Ao, ← Aq, ← An, ← Ap, ← Ar, ← As]; go_roundg k2)
                 case measure => have := HK1.out; have := HK2.out; omega
                 case rel => exact ⟨(Ab), (Ac), (wrap64 (Ab + 1)), xrr, xrr, xrr, H', ⟨by have := HK1.out; have := HK2.out; omega⟩, ⟨xbk⟩, ⟨xbl⟩⟩
                ·
                 rw [if_neg c57] at H
                 have A2 := decide_eq_false c57
                 clear c57
                 have H' := Zz.mk H
                 clear H
                 obtain ⟨hcz59_0, hcz59_1, hcz59_2, hcz59_3, hcz59_4, hcz59_5, hcz59_6, hcz59_7⟩ := xc8 Aa
                 have hfz59_0 := xf Aa 0
                 have hfz59_1 := xf Aa 1
                 have hfz59_2 := xf Aa 2
                 have hfz59_3 := xf Aa 3
                 have hfz59_4 := xf Aa 4
                 have hfz59_5 := xf Aa 5
                 have hfz59_6 := xf Aa 6
                 have hfz59_7 := xf Aa 7
                 go_wp2
                 first | go_roundg k2 | (simp only [← Ao, ← Aq, ← An, ← Ap, ← Ar, ← As]; go_roundg k2)
                 case measure => have := HK1.out; have := HK2.out; omega
                 case rel => exact ⟨(Am), (Ad), (wrap64 (Ab + 1)), xrr, xrr, xrr, H', ⟨by have := HK1.out; have := HK2.out; omega⟩, ⟨xbk⟩, ⟨xbl⟩⟩
               ·
                rw [if_neg c56] at H
                have A1 := decide_eq_false c56
                clear c56
                have H' := Zz.mk H
                clear H
                obtain ⟨hcz60_0, hcz60_1, hcz60_2, hcz60_3, hcz60_4, hcz60_5, hcz60_6, hcz60_7⟩ := xc8 Aa
                have hfz60_0 := xf Aa 0
                have hfz60_1 := xf Aa 1
                have hfz60_2 := xf Aa 2
                have hfz60_3 := xf Aa 3
                have hfz60_4 := xf Aa 4
                have hfz60_5 := xf Aa 5
                have hfz60_6 := xf Aa 6
                have hfz60_7 := xf Aa 7
                go_wp2
                first | go_roundg k2 | (simp only [← Ao, ← Aq, ← An, ← Ap, ← Ar, ← As]; go_roundg k2)
                case measure => have := HK1.out; have := HK2.out; omega
                case rel => exact ⟨(Am), (Ad), (wrap64 (Ab + 1)), xrr, xrr, xrr, H', ⟨by have := HK1.out; have := HK2.out; omega⟩, ⟨xbk⟩, ⟨xbl⟩⟩
             ·
              rw [if_neg c53] at H
              clear c53
              obtain ⟨AB, Au⟩ : ∃ j_ : Int, (Az) = j_ := ⟨_, rfl⟩
              replace H : (if AB = 6 then (if Af = 0 then (al k2 Am Ad Ab (wrap64 (Ac + 1)) Ab Al Ak Aj Ai Ah Ag Af Ae) else (if Ac > Ad then (if Ac > 1 then (aa k2 Ab Ac (wrap64 (Ab + 1)) Al Ak Aj Ai Ah Ag Af Ae) else (aa k2 Am Ad (wrap64 (Ab + 1)) Al Ak Aj Ai Ah Ag Af Ae)) else (aa k2 Am Ad (wrap64 (Ab + 1)) Al Ak Aj Ai Ah Ag Af Ae))) else (if (AB) = 7 then (if Ae = 0 then (al k2 Am Ad Ab (wrap64 (Ac + 1)) Ab Al Ak Aj Ai Ah Ag Af Ae) else (if Ac > Ad then (if Ac > 1 then (aa k2 Ab Ac (wrap64 (Ab + 1)) Al Ak Aj Ai Ah Ag Af Ae) else (aa k2 Am Ad (wrap64 (Ab + 1)) Al Ak Aj Ai Ah Ag Af Ae)) else (aa k2 Am Ad (wrap64 (Ab + 1)) Al Ak Aj Ai Ah Ag Af Ae))) else (none))) = some (r1, r2) := by first | (rw [Au] at H; exact H) | (simp only [Au] at H ⊢; exact H)
              by_cases c62 : AB = 6
              ·
               subst c62
               rw [if_pos rfl] at H
               by_cases c63 : Af = 0
               ·
                rw [if_pos c63] at H
                have A3 : (Af == 0) = true := beq_iff_eq.mpr c63
                have A4 : (Af != 0) = false := bne_eq_false_iff_eq.mpr c63
                clear c63
                have H' := Zz.mk H
                clear H
                obtain ⟨hcz64_0, hcz64_1, hcz64_2, hcz64_3, hcz64_4, hcz64_5, hcz64_6, hcz64_7⟩ := xc8 Aa
                have hfz64_0 := xf Aa 0
                have hfz64_1 := xf Aa 1
                have hfz64_2 := xf Aa 2
                have hfz64_3 := xf Aa 3
                have hfz64_4 := xf Aa 4
                have hfz64_5 := xf Aa 5
                have hfz64_6 := xf Aa 6
                have hfz64_7 := xf Aa 7
                go_wp2
                first | go_roundg k2 | (simp only [← Ao, ← Aq, ← An, ← Ap, ← Ar, ← As, ← At]; go_roundg k2)
                case measure => have := HK1.out; have := HK2.out; omega
                case rel => exact ⟨(wrap64 (Ac + 1)), xrr, H', ⟨by have := HK1.out; have := HK2.out; omega⟩, ⟨xbk⟩, ⟨xbl⟩⟩
               ·
                rw [if_neg c63] at H
                have A3 : (Af == 0) = false := beq_eq_false_iff_ne.mpr c63
                have A4 : (Af != 0) = true := bne_iff_ne.mpr c63
                by_cases c65 : Ac > Ad
                ·
                 rw [if_pos c65] at H
                 have A5 := decide_eq_true c65
                 clear c65
                 by_cases c66 : Ac > 1
                 ·
                  rw [if_pos c66] at H
                  have A6 := decide_eq_true c66
                  clear c66
                  have H' := Zz.mk H
                  clear H
                  obtain ⟨hcz67_0, hcz67_1, hcz67_2, hcz67_3, hcz67_4, hcz67_5, hcz67_6, hcz67_7⟩ := xc8 Aa
                  have hfz67_0 := xf Aa 0
                  have hfz67_1 := xf Aa 1
                  have hfz67_2 := xf Aa 2
                  have hfz67_3 := xf Aa 3
                  have hfz67_4 := xf Aa 4
                  have hfz67_5 := xf Aa 5
                  have hfz67_6 := xf Aa 6
                  have hfz67_7 := xf Aa 7
                  go_wp2
                  first | go_roundg k2 | (simp only [← Ao, ← Aq, ← An, ← Ap, ← Ar, ← As, ← At]; go_roundg k2)
                  case measure => have := HK1.out; have := HK2.out; omega
                  case rel => exact ⟨(Ab), (Ac), (wrap64 (Ab + 1)), xrr, xrr, xrr, H', ⟨by have := HK1.out; have := HK2.out; omega⟩, ⟨xbk⟩, ⟨xbl⟩⟩
                 ·
                  rw [if_neg c66] at H
                  have A6 := decide_eq_false c66
                  clear c66
                  have H' := Zz.mk H
                  clear H
                  obtain ⟨hcz68_0, hcz68_1, hcz68_2, hcz68_3, hcz68_4, hcz68_5, hcz68_6, hcz68_7⟩ := xc8 Aa
                  have hfz68_0 := xf Aa 0
                  have hfz68_1 := xf Aa 1
                  have hfz68_2 := xf Aa 2
                  have hfz68_3 := xf Aa 3
                  have hfz68_4 := xf Aa 4
                  have hfz68_5 := xf Aa 5
                  have hfz68_6 := xf Aa 6
                  have hfz68_7 := xf Aa 7
                  go_wp2
                  first | go_roundg k2 | (simp only [← Ao, ← Aq, ← An, ← Ap, ← Ar, ← As, ← At]; go_roundg k2)
                  case measure => have := HK1.out; have := HK2.out; omega
                  case rel => exact ⟨(Am), (Ad), (wrap64 (Ab + 1)), xrr, xrr, xrr, H', ⟨by have := HK1.out; have := HK2.out; omega⟩, ⟨xbk⟩, ⟨xbl⟩⟩
                ·
                 rw [if_neg c65] at H
                 have A5 := decide_eq_false c65
                 clear c65
                 have H' := Zz.mk H
                 clear H
                 obtain ⟨hcz69_0, hcz69_1, hcz69_2, hcz69_3, hcz69_4, hcz69_5, hcz69_6, hcz69_7⟩ := xc8 Aa
                 have hfz69_0 := xf Aa 0
                 have hfz69_1 := xf Aa 1
                 have hfz69_2 := xf Aa 2
                 have hfz69_3 := xf Aa 3
                 have hfz69_4 := xf Aa 4
                 have hfz69_5 := xf Aa 5
                 have hfz69_6 := xf Aa 6
                 have hfz69_7 := xf Aa 7
                 go_wp2
                 first | go_roundg k2 | (simp only [← Ao, ← Aq, ← An, ← Ap, ← Ar, ← As, ← At]; go_roundg k2)
                 case measure => have := HK1.out; have := HK2.out; omega
                 case rel => exact ⟨(Am), (Ad), (wrap64 (Ab + 1)), xrr, xrr, xrr, H', ⟨by have := HK1.out; have := HK2.out; omega⟩, ⟨xbk⟩, ⟨xbl⟩⟩
              ·
               rw [if_neg c62] at H
               clear c62
               obtain ⟨A7, AD⟩ : ∃ j_ : Int, (AB) = j_ := ⟨_, rfl⟩
               replace H : (if A7 = 7 then (if Ae = 0 then (al k2 Am Ad Ab (wrap64 (Ac + 1)) Ab Al Ak Aj Ai Ah Ag Af Ae) else (if Ac > Ad then (if Ac > 1 then (aa k2 Ab Ac (wrap64 (Ab + 1)) Al Ak Aj Ai Ah Ag Af Ae) else (aa k2 Am Ad (wrap64 (Ab + 1)) Al Ak Aj Ai Ah Ag Af Ae)) else (aa k2 Am Ad (wrap64 (Ab + 1)) Al Ak Aj Ai Ah Ag Af Ae))) else (none)) = some (r1, r2) := by first | (rw [AD] at H; exact H) | (simp only [AD] at H ⊢; exact H)
               by_cases c71 : A7 = 7
               ·
                subst c71
                rw [if_pos rfl] at H
                by_cases c72 : Ae = 0
                ·
                 rw [if_pos c72] at H
                 have A8 : (Ae == 0) = true := beq_iff_eq.mpr c72
                 have A9 : (Ae != 0) = false := bne_eq_false_iff_eq.mpr c72
                 clear c72
                 have H' := Zz.mk H
                 clear H
                 obtain ⟨hcz73_0, hcz73_1, hcz73_2, hcz73_3, hcz73_4, hcz73_5, hcz73_6, hcz73_7⟩ := xc8 Aa
                 have hfz73_0 := xf Aa 0
                 have hfz73_1 := xf Aa 1
                 have hfz73_2 := xf Aa 2
                 have hfz73_3 := xf Aa 3
                 have hfz73_4 := xf Aa 4
                 have hfz73_5 := xf Aa 5
                 have hfz73_6 := xf Aa 6
                 have hfz73_7 := xf Aa 7
                 go_wp2
                 first | go_roundg k2 | (simp only [← Ao, ← Aq, ← An, ← Ap, ← Ar, ← As, ← At, ← Au]; go_roundg k2)
                 case measure => have := HK1.out; have := HK2.out; omega
                 case rel => exact ⟨(wrap64 (Ac + 1)), xrr, H', ⟨by have := HK1.out; have := HK2.out; omega⟩, ⟨xbk⟩, ⟨xbl⟩⟩
                ·
                 rw [if_neg c72] at H
                 have A8 : (Ae == 0) = false := beq_eq_false_iff_ne.mpr c72
                 have A9 : (Ae != 0) = true := bne_iff_ne.mpr c72
                 by_cases c74 : Ac > Ad
                 ·
                  rw [if_pos c74] at H
                  have Ba := decide_eq_true c74
                  clear c74
                  by_cases c75 : Ac > 1
                  ·
                   rw [if_pos c75] at H
                   have Bb := decide_eq_true c75
                   clear c75
                   have H' := Zz.mk H
                   clear H
                   obtain ⟨hcz76_0, hcz76_1, hcz76_2, hcz76_3, hcz76_4, hcz76_5, hcz76_6, hcz76_7⟩ := xc8 Aa
                   have hfz76_0 := xf Aa 0
                   have hfz76_1 := xf Aa 1
                   have hfz76_2 := xf Aa 2
                   have hfz76_3 := xf Aa 3
                   have hfz76_4 := xf Aa 4
                   have hfz76_5 := xf Aa 5
                   have hfz76_6 := xf Aa 6
                   have hfz76_7 := xf Aa 7
                   go_wp2
                   first | go_roundg k2 | (simp only [← Ao, ← Aq, ← An, ← Ap, ← Ar, ← As, ← At, ← Au]; go_roundg k2)
                   case measure => have := HK1.out; have := HK2.out; omega
                   case rel => exact ⟨(Ab), (Ac), (wrap64 (Ab + 1)), xrr, xrr, xrr, H', ⟨by have := HK1.out; have := HK2.out; omega⟩, ⟨xbk⟩, ⟨xbl⟩⟩
                  ·
                   rw [if_neg c75] at H
                   have Bb := decide_eq_false c75
                   clear c75
                   have H' := Zz.mk H
                   clear H
                   obtain ⟨hcz77_0, hcz77_1, hcz77_2, hcz77_3, hcz77_4, hcz77_5, hcz77_6, hcz77_7⟩ := xc8 Aa
                   have hfz77_0 := xf Aa 0
                   have hfz77_1 := xf Aa 1
                   have hfz77_2 := xf Aa 2
                   have hfz77_3 := xf Aa 3
                   have hfz77_4 := xf Aa 4
                   have hfz77_5 := xf Aa 5
                   have hfz77_6 := xf Aa 6
                   have hfz77_7 := xf Aa 7
                   go_wp2
                   first | go_roundg k2 | (simp only [← Ao, ← Aq, ← An, ← Ap, ← Ar, ← As, ← At, ← Au]; go_roundg k2)
                   case measure => have := HK1.out; have := HK2.out; omega
                   case rel => exact ⟨(Am), (Ad), (wrap64 (Ab + 1)), xrr, xrr, xrr, H', ⟨by have := HK1.out; have := HK2.out; omega⟩, ⟨xbk⟩, ⟨xbl⟩⟩
                 ·
                  rw [if_neg c74] at H
                  have Ba := decide_eq_false c74
                  clear c74
                  have H' := Zz.mk H
                  clear H
                  obtain ⟨hcz78_0, hcz78_1, hcz78_2, hcz78_3, hcz78_4, hcz78_5, hcz78_6, hcz78_7⟩ := xc8 Aa
                  have hfz78_0 := xf Aa 0
                  have hfz78_1 := xf Aa 1
                  have hfz78_2 := xf Aa 2
                  have hfz78_3 := xf Aa 3
                  have hfz78_4 := xf Aa 4
                  have hfz78_5 := xf Aa 5
                  have hfz78_6 := xf Aa 6
                  have hfz78_7 := xf Aa 7
                  go_wp2
                  first | go_roundg k2 | (simp only [← Ao, ← Aq, ← An, ← Ap, ← Ar, ← As, ← At, ← Au]; go_roundg k2)
                  case measure => have := HK1.out; have := HK2.out; omega
                  case rel => exact ⟨(Am), (Ad), (wrap64 (Ab + 1)), xrr, xrr, xrr, H', ⟨by have := HK1.out; have := HK2.out; omega⟩, ⟨xbk⟩, ⟨xbl⟩⟩
               ·
                rw [if_neg c71] at H
                clear c71
                exact absurd H (by simp)
       ·
        rw [if_neg c6] at H
        exact absurd H (by simp)
      ·
       rw [if_neg c4] at H
       have AG := decide_eq_false c4
       clear c4
       by_cases c79 : Ac > Ad
       ·
        rw [if_pos c79] at H
        have Bc := decide_eq_true c79
        clear c79
        by_cases c80 : Ac > 1
        ·
         rw [if_pos c80] at H
         have Bd := decide_eq_true c80
         clear c80
         have H' := Zz.mk H
         clear H
         go_wp2
         go_roundg k2
         case measure => have := HK1.out; have := HK2.out; omega
         case rel => exact ⟨(Ab), (Ac), (wrap64 (Ab + 1)), xrr, xrr, xrr, H', ⟨by have := HK1.out; have := HK2.out; omega⟩, ⟨xbk⟩, ⟨xbl⟩⟩
        ·
         rw [if_neg c80] at H
         have Bd := decide_eq_false c80
         clear c80
         have H' := Zz.mk H
         clear H
         go_wp2
         go_roundg k2
         case measure => have := HK1.out; have := HK2.out; omega
         case rel => exact ⟨(Am), (Ad), (wrap64 (Ab + 1)), xrr, xrr, xrr, H', ⟨by have := HK1.out; have := HK2.out; omega⟩, ⟨xbk⟩, ⟨xbl⟩⟩
       ·
        rw [if_neg c79] at H
        have Bc := decide_eq_false c79
        clear c79
        have H' := Zz.mk H
        clear H
        go_wp2
        go_roundg k2
        case measure => have := HK1.out; have := HK2.out; omega
        case rel => exact ⟨(Am), (Ad), (wrap64 (Ab + 1)), xrr, xrr, xrr, H', ⟨by have := HK1.out; have := HK2.out; omega⟩, ⟨xbk⟩, ⟨xbl⟩⟩
   ·
    rw [if_neg c3] at H
    have AF := decide_eq_false c3
    clear c3
    simp only [Option.some.injEq, Prod.mk.injEq] at H
    obtain ⟨rfl, rfl⟩ := H
    go_wp2
    go_ret2
    exact ⟨xre, xbl⟩
end Go.Proofs.YticohlbfolnmpaaDoor.X
